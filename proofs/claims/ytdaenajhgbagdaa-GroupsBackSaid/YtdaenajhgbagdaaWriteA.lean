/-
  The walks of the writer's small functions (layer 1): NewWriter, Len, Text, Put refused. The walks of the reader (layer 1): NewReader, its closure, Take, Unary, At, Left. The walk of Unary (layer 1). The walks of the references of layer 1: Bits, Text, Of, Number, Take, Unary, Slice, May, Join. The walks of the references of layer 1 that read: Of, Number, Take, Unary. The walks of the references Take and Unary of layer 1. The walk of kistlaw04's Ints: are two lists the same? append of a literal of several elements of one cell. A block whose first cells are known and may be written: of an array, or of bytes that were made from a string; copy within it. A block that holds just the cells xs (an array): loaded whole, one element of it taken. Slices of slices of ints, that can be read.
-/
import Derived.Test.YtdaenajhgbagdaaProg
import Derived.Test.YtdaenajhgbagdaaLibA
import Derived.Test.YtdaenajhgbagdaaPlainA
import Derived.BigQuiet
import Derived.Outline
import Derived.Deep.LoopGhost
import Derived.Deep.DeepCutAuto
import Derived.Laws.BitsAllLaws
import Derived.Laws.IdiomStrings
import Derived.Laws.IdiomCopy
import Derived.Deep.RegionLaw
import Derived.Laws.PanicsMore
namespace Go.Proofs.Ytdaenajhgbagdaa
open Go.RowKit

theorem Try.infoU8 : (Try.prog.info? 5).map (fun i => (i.zero, i.size, i.bytes)) = some (some (.int .u8 0), 1, 1) := by kernel_rfl
/-- Bytes as values. -/
def u8s (l : List UInt8) : List Value := l.map fun b => .int .u8 (b.toNat : Int)

/-- A writer at block b: its slice o owns the bytes of the bits bs. -/
def Wr (w : World) (b : Nat) (o : Value) (bs : List Bool) : Prop :=
  w.heap[b]? = some (.cells #[o, .int .i64 bs.length] 111 (0, 0)) ∧ Row w 5 o (u8s (K.pack bs)) ∧ b ∉ foot o

/-- In Put's loop: j bits are put. -/
def PutI (w0 : World) (b v n : Nat) (o0 : Value) (bs : List Bool) (k : Nat) (i : Value) (w : World) : Prop :=
  ∃ j o bj, j ≤ n ∧ k = n - j ∧ i = .int .i64 ((n : Int) - 1 - j) ∧ bj = bs ++ (K.low v n).take j ∧ Wr w b o bj ∧ Kept (b :: foot o0) w0 w ∧ (∀ x ∈ foot o, x ∈ foot o0 ∨ w0.heap.size ≤ x)

set_option maxHeartbeats 400000 in
theorem put_ok (b : Nat) (v n : Nat) (o0 : Value) (bs : List Bool) (w : World) (hn : n ≤ 64) (hv : v < 2 ^ n) (hm : bs.length ≤ 1000000000000) (hW : Wr w b o0 bs) :
    Calls Try.prog 39 #[.pointer (some ⟨b, 0, none⟩), .int .u64 v, .int .i64 n] w fun e w' => e = .returned (.int .i64 0) ∧
      ∃ o, Wr w' b o (bs ++ K.low v n) ∧ Kept (b :: foot o0) w w' ∧ (∀ x ∈ foot o, x ∈ foot o0 ∨ w.heap.size ≤ x) := by
  have g1 : decide ((n : Int) < 0) = false := by simp
  have g2 : decide (64 < (n : Int)) = false := by simp; omega
  have hI : PutI w b v n o0 bs n (.int .i64 ((n : Int) - 1)) w := ⟨0, o0, bs, by omega, by omega, by simp, by simp, hW, Kept.refl _ _, fun x hx => .inl hx⟩
  have HW := Lib.hid hW
  clear hW
  have Hv := Lib.hid hv
  clear hv
  have g5 : (decide ((n : Int) < 64) && ((v / 2 ^ n : Int) != 0)) = false := by
    have := Nat.div_eq_of_lt Hv.out
    have : ((v : Int) / 2 ^ n) = 0 := by exact_mod_cast this
    simp [this]
  have g4 : ((v / 2 ^ n : Int) != 0) = false := by
    have := Nat.div_eq_of_lt Hv.out
    have : ((v : Int) / 2 ^ n) = 0 := by exact_mod_cast this
    simp [this]
  clear g5
  go_enter Try.func39, Try.ntmps39
  go_upto_region 3 with (fail)
  go_cut [26] (fun s26 wc => s26 = .bool false ∧ w = wc)
  case first =>
    rcases (show decide ((n : Int) < 64) = true ∨ decide ((n : Int) < 64) = false by cases decide ((n : Int) < 64) <;> simp) with g3 | g3
    all_goals
      go_wp2
      go_meet
      exact ⟨rfl, rfl⟩
  case rest =>
    obtain ⟨rfl, rfl⟩ := hcut
    go_wp2
    go_loopg [7] n (fun k i wr => PutI w b v n o0 bs k i wr)
    case atStart => exact hI
    case round =>
      obtain ⟨j, o, bj, hj, hk, rfl, hbj, ⟨hb, hrow, hne⟩, hkept, hfoot⟩ := hrel
      by_cases hlt : j < n
      · have hq : ∃ q, q = bj.length := ⟨_, rfl⟩
        obtain ⟨q, hq⟩ := hq
        have hql : q ≤ 1000000000064 := by rw [hq, hbj, List.length_append, List.length_take, K.low_length]; omega
        have Hbj := Lib.hid hbj
        clear hbj
        rw [← hq] at hb
        have c0 : wr.cell? ⟨b, 0, none⟩ = some o := cell_of_row wr b 0 _ _ _ hb
        have c1 : wr.cell? ⟨b, 1, none⟩ = some (.int .i64 q) := cell_of_row wr b 1 _ _ _ hb
        have f0 := frozen_of_row wr b 0 _ _ hb
        have f1 := frozen_of_row wr b 1 _ _ hb
        have Hq := Lib.hid hq
        clear hq
        have Hk := Lib.hid hk
        clear hk
        go_upto_if 38 with (fail)
        go_cut [] (fun wc => ∃ o1, wc.heap[b]? = some (.cells #[o1, .int .i64 q] 111 (0, 0)) ∧ Row wc 5 o1 (u8s (K.pack (bj ++ [false]))) ∧ b ∉ foot o1 ∧ Kept (b :: foot o0) w wc ∧ (∀ x ∈ foot o1, x ∈ foot o0 ∨ w.heap.size ≤ x))
        case first =>
          by_cases h8 : q % 8 = 0
          · have t8 : ((q : Int) % 8 == 0) = true := by simp; omega
            have L0 : (u8s (K.pack bj)).length ≤ 1000000000064 := by simp only [u8s, List.length_map, K.pack_length]; rw [← Hq.out]; omega
            have L1 : (u8s (K.pack bj)).length + 1 ≤ maxLen := by simp only [maxLen]; omega
            have L2 : ((u8s (K.pack bj)).length + 1) * 1 ≤ 140737488355328 := by omega
            have hrow2 := hrow
            generalize hxs : u8s (K.pack bj) = xs at hrow L0 L1 L2
            have Hxs := Lib.hid hxs
            clear hxs
            go_wp2_with ((at_builtin; go_must (refine wp_app1 wr rfl _ _ 109 rfl 5 (.int .u8 0) 1 Try.underlying109 Try.infoU8 rfl o (.int .u8 0) xs rfl rfl rfl rfl hrow L1 L2 ?_); intro g cap w1 hrow1 hk1 hf1; have d0 := hk1.cellOf c0 hne; have d1 := hk1.cellOf c1 hne; have e0 := (hk1.frozenOf c0 hne).trans f0; have e1 := (hk1.frozenOf c1 hne).trans f1; have hb1 := hk1.heap hb hne))
            go_meet
            have hbg : ¬ b = g := by
              rintro rfl
              rcases hf1 with h | h
              · exact hne h
              · have := lt_of_block hb; omega
            refine ⟨_, heap_setCell_same _ _ _ _ _ _ hb1, ?_, by simpa [foot, Value.ownBlock] using hbg, ?_, ?_⟩
            · have e : u8s (K.pack (bj ++ [false])) = xs ++ [.int .u8 0] := by
                rw [K.pack_false, ← Hq.out, if_pos h8, ← Hxs.out]; simp [u8s]
              rw [e]
              exact hrow1.setCell (by simpa [foot, Value.ownBlock] using hbg) _
            · refine Kept.setCell (hkept.trans hk1 fun x hx => ?_) (by simp) _
              rcases hfoot x hx with h | h
              · exact .inl (by simp [h])
              · exact .inr h
            · intro x hx
              obtain rfl : x = g := by simpa [foot, Value.ownBlock] using hx
              rcases hf1 with h | h
              · exact hfoot _ h
              · exact .inr (Nat.le_trans hkept.size h)
          · have t8 : ((q : Int) % 8 == 0) = false := by simp; omega
            go_wp2_with (fail)
            go_meet
            refine ⟨o, hb, ?_, hne, hkept, hfoot⟩
            rw [K.pack_false, ← Hq.out, if_neg h8]
            exact hrow
        case rest =>
          obtain ⟨o1, hb, hrow, hne, hkept, hfoot⟩ := hcut
          have c0 : wc.cell? ⟨b, 0, none⟩ = some o1 := cell_of_row wc b 0 _ _ _ hb
          have c1 : wc.cell? ⟨b, 1, none⟩ = some (.int .i64 q) := cell_of_row wc b 1 _ _ _ hb
          have f0 := frozen_of_row wc b 0 _ _ hb
          have f1 := frozen_of_row wc b 1 _ _ hb
          have hbt : bits BinOp.and IntKind.u64 ((v : Int) / 2 ^ (n - 1 - j)) 1 = ((v.testBit (n - 1 - j)).toNat : Int) := by
            have e : ((v : Int) / 2 ^ (n - 1 - j)) = ((v / 2 ^ (n - 1 - j) : Nat) : Int) := by norm_cast
            rw [e, show (1 : Int) = ((1 : Nat) : Int) from rfl, u64_and_nat _ _ (by have := Nat.div_le_self v (2 ^ (n - 1 - j)); have := Hv.out; have := Nat.pow_le_pow_right (n := 2) (by omega) hn; omega) (by omega), nat_mask1, Nat.testBit_eq_decide_div_mod_eq]
            have := Nat.mod_lt (v / 2 ^ (n - 1 - j)) (show 0 < 2 by decide)
            rcases (show v / 2 ^ (n - 1 - j) % 2 = 0 ∨ v / 2 ^ (n - 1 - j) % 2 = 1 by omega) with h | h <;> rw [h] <;> rfl
          have hln : (bs ++ (K.low v n).take (j + 1)).length = q + 1 := by
            have := Hq.out
            rw [Hbj.out] at this
            rw [List.length_append, List.length_take, K.low_length] at *
            omega
          have htk : bj ++ [v.testBit (n - 1 - j)] = bs ++ (K.low v n).take (j + 1) := by rw [Hbj.out, K.low_take v n j hlt, List.append_assoc]
          have HL := Lib.hid hln
          clear hln
          have HT := Lib.hid htk
          clear htk
          by_cases hbit : v.testBit (n - 1 - j) = true
          · have tb : (bits BinOp.and IntKind.u64 ((v : Int) / 2 ^ (n - 1 - j)) 1 == 1) = true := by rw [hbt, hbit]; rfl
            clear hbt
            have hlen : (u8s (K.pack (bj ++ [false]))).length = (q + 8) / 8 := by
              simp only [u8s, List.length_map, K.pack_length, List.length_append, List.length_cons, List.length_nil]; have := Hq.out; omega
            obtain ⟨g, cap, rfl, hcap, hcm, hcells, hfr, hst⟩ := hrow.open (by omega)
            have hbyte : wc.cell? ⟨g, q / 8, none⟩ = some (.int .u8 (K.byteN bj (q / 8) : Nat)) := by
              refine hcells _ _ ?_
              have e := K.pack_getElem (bj ++ [false]) (q / 8) (by rw [List.length_append, ← Hq.out]; simp; omega)
              rw [K.byteN_false] at e
              have hlt := K.byteN_lt bj (q / 8)
              simp only [u8s, List.getElem?_map, e, Option.map_some]
              simp [Nat.mod_eq_of_lt hlt]
            have hB := K.byteN_lt bj (q / 8)
            have hPT := K.pack_true bj
            rw [← Hq.out] at hPT
            have hlen2 : (q : Int) / 8 < ((u8s (K.pack (bj ++ [false]))).length : Int) := by omega
            generalize K.byteN bj (q / 8) = x at hbyte hB hPT
            have HP := Lib.hid hPT
            clear hPT
            clear hcells
            have HST := Lib.hid hst
            clear hst
            have HLE := Lib.hid hlen
            clear hlen
            have hfg := hfr (q / 8)
            clear hfr
            have hgb : ¬ g = b := by rintro rfl; exact hne (by simp [foot, Value.ownBlock])
            have w1 : IntKind.i64.wrap ((q : Int) / 8) = (q : Int) / 8 := by exact IntWalk.i64_in _ (by omega)
            have w2 : (0 : Int) ≤ (q : Int) / 8 := by omega
            have w3 : ((q : Int) / 8).toNat = q / 8 := by omega
            go_wp2
            go_region
            all_goals
              go_wp2
              go_roundg (n - (j + 1))
              case measure => have := Hk.out; omega
              case rel =>
                have hset : K.pack (bj ++ [true]) = (K.pack (bj ++ [false])).set (q / 8) (UInt8.ofNat (x ||| (128 / 2 ^ (q % 8)))) := HP.out
                have hor : (bits BinOp.or IntKind.u8 (x : Int) (128 / 2 ^ (q % 8))) = ((x ||| (128 / 2 ^ (q % 8)) : Nat) : Int) := by
                  have e : ((128 : Int) / 2 ^ (q % 8)) = ((128 / 2 ^ (q % 8) : Nat) : Int) := by norm_cast
                  rw [e, u8_or_nat _ _ hB (by have := Nat.div_le_self 128 (2 ^ (q % 8)); omega)]
                have hor8 : x ||| (128 / 2 ^ (q % 8)) < 256 := Nat.or_lt_two_pow (n := 8) hB (by have := Nat.div_le_self 128 (2 ^ (q % 8)); omega)
                refine ⟨j + 1, _, _, by omega, rfl, by go_num, rfl, ⟨?_, ?_, hne⟩, ?_, hfoot⟩
                · rw [HL.out]
                  exact heap_setCell_same _ _ _ _ _ _ ((heap_setCell_other _ _ _ _ (fun h => hgb h.symm)).trans hb)
                · rw [← HT.out, hbit, hset, hor]
                  have e : u8s ((K.pack (bj ++ [false])).set (q / 8) (UInt8.ofNat (x ||| (128 / 2 ^ (q % 8))))) = (u8s (K.pack (bj ++ [false]))).set (q / 8) (.int .u8 ((x ||| (128 / 2 ^ (q % 8)) : Nat) : Int)) := by
                    have e8 : (UInt8.ofNat (x ||| (128 / 2 ^ (q % 8)))).toNat = x ||| (128 / 2 ^ (q % 8)) := by rw [UInt8.toNat_ofNat']; exact Nat.mod_eq_of_lt hor8
                    simp only [u8s, List.map_set, e8]
                  rw [e]
                  have := HST.out (q / 8) (.int .u8 ((x ||| (128 / 2 ^ (q % 8)) : Nat) : Int))
                  exact (Row.setCell (p := ⟨b, 1, none⟩) (by simpa [Row] using this) (by simp only [foot, Value.ownBlock, Option.toList_some, List.mem_singleton]; exact fun h => hgb h.symm) _).drew
                · exact ((hkept.setCell (by rcases hfoot g (by simp [foot, Value.ownBlock]) with h | h; exact .inl (by simp [h]); exact .inr h) _).setCell (by simp) _).drew
          · have tb : (bits BinOp.and IntKind.u64 ((v : Int) / 2 ^ (n - 1 - j)) 1 == 1) = false := by rw [hbt]; simp at hbit; rw [hbit]; rfl
            go_wp2
            go_roundg (n - (j + 1))
            case measure => have := Hk.out; omega
            case rel =>
              simp only [Bool.not_eq_true] at hbit
              refine ⟨j + 1, _, _, by omega, rfl, by go_num, rfl, ⟨?_, ?_, hne⟩, hkept.setCell (by simp) _, hfoot⟩
              · rw [HL.out]
                exact heap_setCell_same _ _ _ _ _ _ hb
              · rw [← HT.out, hbit]
                exact hrow.setCell hne _
      · obtain rfl : j = n := by omega
        go_wp2
        go_ret
        refine ⟨rfl, o, ?_, hkept, hfoot⟩
        have e : (K.low v j).take j = K.low v j := List.take_of_length_le (by rw [K.low_length]; omega)
        rw [← e, ← hbj]
        exact ⟨hb, hrow, hne⟩
end Go.Proofs.Ytdaenajhgbagdaa
namespace Go.Proofs.Ytdaenajhgbagdaa
open Go.RowKit
set_option linter.unusedVariables false
set_option linter.unusedSimpArgs false

theorem newWriter_ok (w : World) : Calls Try.prog 38 #[] w fun e w' => e = .returned (.pointer (some ⟨w.heap.size, 0, none⟩)) ∧ w' = w.alloc (.cells #[.slice none 0 0, .int .i64 0] 111) := by
  go_enter Try.func38, Try.ntmps38
  go_wp2
  go_ret
  exact ⟨rfl, rfl⟩
theorem Wr.new (w : World) : Wr (w.alloc (.cells #[.slice none 0 0, .int .i64 0] 111)) w.heap.size (.slice none 0 0) [] :=
  ⟨heap_alloc_new w _, Row.nil _ _, by simp [foot, Value.ownBlock]⟩
theorem Wr.kept {S : List Nat} {w w' : World} {b : Nat} {o : Value} {bs : List Bool} (h : Wr w b o bs) (hk : Kept S w w') (ha : Apart (b :: foot o) S) : Wr w' b o bs :=
  ⟨hk.heap h.1 (ha b (by simp)), h.2.1.kept hk (fun x hx => ha x (by simp [hx])), h.2.2⟩
theorem Wr.lt {w : World} {b : Nat} {o : Value} {bs : List Bool} (h : Wr w b o bs) : ∀ x ∈ b :: foot o, x < w.heap.size := by
  intro x hx
  rcases List.mem_cons.1 hx with rfl | hx
  · exact lt_of_block h.1
  · exact h.2.1.lt x hx
/-- What NewWriter leaves. -/
def NewW (w : World) (e : Ending) (w' : World) : Prop := ∃ b, e = .returned (.pointer (some ⟨b, 0, none⟩)) ∧ Wr w' b (.slice none 0 0) [] ∧ Kept [] w w' ∧ Fresh w.heap.size (b :: foot (.slice none 0 0))
theorem newWriter_new (w : World) : Calls Try.prog 38 #[] w (NewW w) :=
  (newWriter_ok w).mono fun e w' ⟨he, hw⟩ => ⟨_, he, by rw [hw]; exact Wr.new w, by rw [hw]; exact (Kept.refl _ _).alloc _, by simp [Fresh, foot, Value.ownBlock]⟩
/-- What Put leaves: v's n lowest bits more. -/
def PutPost (w : World) (b : Nat) (o0 : Value) (bs : List Bool) (e : Ending) (w' : World) : Prop :=
  e = .returned (.int .i64 0) ∧ ∃ o, Wr w' b o bs ∧ Kept (b :: foot o0) w w' ∧ Grew w.heap.size (b :: foot o0) (b :: foot o)
theorem put_put (b : Nat) (v n : Int) (o0 : Value) (bs : List Bool) (w : World) (hn0 : 0 ≤ n) (hn : n ≤ 64) (hv0 : 0 ≤ v) (hv : v.toNat < 2 ^ n.toNat) (hm : bs.length ≤ 1000000000000) (hW : Wr w b o0 bs) :
    Calls Try.prog 39 #[.pointer (some ⟨b, 0, none⟩), .int .u64 v, .int .i64 n] w (PutPost w b o0 (bs ++ K.low v.toNat n.toNat)) := by
  obtain ⟨n, rfl⟩ := Int.eq_ofNat_of_zero_le hn0
  obtain ⟨v, rfl⟩ := Int.eq_ofNat_of_zero_le hv0
  refine (put_ok b v n o0 bs w (by omega) (by simpa using hv) hm hW).mono fun e w' ⟨he, o, h1, h2, h3⟩ => ⟨he, o, by simpa using h1, h2, fun x hx => ?_⟩
  rcases List.mem_cons.1 hx with rfl | hx
  · exact .inl (by simp)
  · exact (h3 x hx).imp (List.mem_cons_of_mem _) id
theorem len_nil (w : World) : Calls Try.prog 43 #[.pointer none] w fun e w' => e = .returned (.int .i64 0) ∧ w = w' := by
  go_enter Try.func43, Try.ntmps43
  go_wp2
  go_ret
  exact ⟨rfl, rfl⟩
theorem len_ok (w : World) (b : Nat) (o : Value) (bs : List Bool) (h : Wr w b o bs) : Calls Try.prog 43 #[.pointer (some ⟨b, 0, none⟩)] w fun e w' => e = .returned (.int .i64 bs.length) ∧ w = w' := by
  have c1 : w.cell? ⟨b, 1, none⟩ = some (.int .i64 bs.length) := cell_of_row w b 1 _ _ _ h.1
  clear h
  go_enter Try.func43, Try.ntmps43
  go_wp2
  go_ret
  exact ⟨rfl, rfl⟩
theorem text_nil (w : World) : Calls Try.prog 42 #[.pointer none] w fun e w' => e = .returned (.string ⟨#[]⟩) ∧ w = w' := by
  go_enter Try.func42, Try.ntmps42
  go_wp2
  go_ret
  exact ⟨rfl, rfl⟩
theorem text_none (w : World) : (convert 109 9 (.slice none 0 0)).run Try.prog w = .ok (.string ⟨#[]⟩) w := by kernel_rfl
/-- 'string(b)' of an owned row of bytes. -/
theorem Row.text {w : World} {v : Value} {l : List UInt8} (h : Row w 5 v (u8s l)) : (convert 109 9 v).run Try.prog w = .ok (.string ⟨l.toArray⟩) w := by
  rcases h.2 with ⟨rfl, h2⟩ | ⟨g, cap, cur, rfl, hb, hg, hnc, hcm, hcs, ht⟩
  · have : l = [] := by simpa [u8s] using h2
    subst this
    exact text_none w
  · have hown : w.ownsRow 0 5 1 (.slice (some ⟨g, 0, none⟩) (u8s l).length cap) (u8s l).length (u8s l) := h
    have hl : (u8s l).length = l.length := by simp [u8s]
    rw [hl] at hown ⊢
    refine run_convert_bytes_back w _ _ _ ⟨g, 0, none⟩ cap l Try.underlying109 Try.underlying5 Try.underlying9 fun j hj => ?_
    rw [Addr.add_lit, Nat.zero_add, hown.cellAt j (by omega)]
    simp [u8s, hj]
theorem text_ok (w : World) (b : Nat) (o : Value) (bs : List Bool) (h : Wr w b o bs) : Calls Try.prog 42 #[.pointer (some ⟨b, 0, none⟩)] w fun e w' => e = .returned (.string ⟨(K.pack bs).toArray⟩) ∧ w = w' := by
  have c0 : w.cell? ⟨b, 0, none⟩ = some o := cell_of_row w b 0 _ _ _ h.1
  have hc := Row.text h.2.1
  clear h
  go_enter Try.func42, Try.ntmps42
  go_wp2
  go_ret
  exact ⟨rfl, rfl⟩
theorem put_nil (v n : Int) (w : World) : Calls Try.prog 39 #[.pointer none, .int .u64 v, .int .i64 n] w fun e w' => e = .returned (.int .i64 1) ∧ w = w' := by
  go_enter Try.func39, Try.ntmps39
  go_wp2
  go_ret
  exact ⟨rfl, rfl⟩
theorem put_arg (b : Nat) (v : Nat) (n : Int) (w : World) (hv : v < 18446744073709551616) (hn : n < 0 ∨ 64 < n ∨ ¬ v < 2 ^ n.toNat) :
    Calls Try.prog 39 #[.pointer (some ⟨b, 0, none⟩), .int .u64 v, .int .i64 n] w fun e w' => e = .returned (.int .i64 2) ∧ w = w' := by
  by_cases h : n < 0
  · have g1 : decide (n < 0) = true := by simpa using h
    go_enter Try.func39, Try.ntmps39
    go_wp2
    go_ret
    exact ⟨rfl, rfl⟩
  · have g1 : decide (n < 0) = false := by simpa using h
    by_cases h64 : 64 < n
    · have g2 : decide (64 < n) = true := by simpa using h64
      clear hn
      go_enter Try.func39, Try.ntmps39
      go_wp2
      go_ret
      exact ⟨rfl, rfl⟩
    · have g2 : decide (64 < n) = false := by simpa using h64
      obtain ⟨m, rfl⟩ := Int.eq_ofNat_of_zero_le (show 0 ≤ n by omega)
      have hnv : ¬ v < 2 ^ m := by
        rcases hn with hn | hn | hn
        · omega
        · omega
        · simpa using hn
      have h63 : m < 64 := by
        rcases Nat.lt_or_ge m 64 with h | h
        · exact h
        · have : 2 ^ 64 ≤ 2 ^ m := Nat.pow_le_pow_right (by decide) h
          omega
      have g3 : decide ((m : Int) < 64) = true := by simp; omega
      have g4 : ((v : Int) / 2 ^ m != 0) = true := by
        have : 0 < v / 2 ^ m := Nat.div_pos (by omega) (Nat.pow_pos (by decide))
        rw [show ((v : Int) / 2 ^ m) = ((v / 2 ^ m : Nat) : Int) by norm_cast]
        generalize v / 2 ^ m = z at this ⊢
        simp; omega
      clear hn hnv hv
      go_enter Try.func39, Try.ntmps39
      go_wp2
      go_ret
      exact ⟨rfl, rfl⟩
end Go.Proofs.Ytdaenajhgbagdaa
namespace Go.Proofs.Ytdaenajhgbagdaa
open Go.RowKit
set_option linter.unusedVariables false
set_option linter.unusedSimpArgs false

/-- A reader at block r, over the text s boxed at block q, that stands at bit number i. -/
def Rd (w : World) (r q : Nat) (s : ByteArray) (i : Nat) : Prop :=
  w.heap[r]? = some (.cells #[.func (.func 87) #[] #[.pointer (some ⟨q, 0, none⟩)], .int .i64 i, .int .i64 (8 * s.size : Nat)] 123 (0, 0)) ∧
    w.heap[q]? = some (.cells #[.string s] 9 (0, 0)) ∧ r ≠ q

theorem newReader_ok (s : ByteArray) (i : Nat) (w : World) (hs : s.size ≤ 1125899906842624) (hi : i ≤ 8 * s.size) :
    Calls Try.prog 55 #[.string s, .int .i64 i] w fun e w' => e = .returned (.pointer (some ⟨w.heap.size + 1, 0, none⟩)) ∧
      w' = (w.alloc (.cells #[.string s] 9)).alloc (.cells #[.func (.func 87) #[] #[.pointer (some ⟨w.heap.size, 0, none⟩)], .int .i64 i, .int .i64 (8 * s.size : Nat)] 123) := by
  have g1 : decide ((i : Int) < 0) = false := by simp
  have g2 : decide (8 * (s.size : Int) < (i : Int)) = false := by simp; omega
  go_enter Try.func55, Try.ntmps55
  go_wp2
  go_ret
  refine ⟨rfl, by simp⟩

theorem Rd.kept {S : List Nat} {w w' : World} {r q : Nat} {s : ByteArray} {i : Nat} (h : Rd w r q s i) (hk : Kept S w w') (ha : Apart [r, q] S) : Rd w' r q s i :=
  ⟨hk.heap h.1 (ha r (by simp)), hk.heap h.2.1 (ha q (by simp)), h.2.2⟩
theorem Rd.lt {w : World} {r q : Nat} {s : ByteArray} {i : Nat} (h : Rd w r q s i) : ∀ x ∈ [r, q], x < w.heap.size := by
  intro x hx
  rcases List.mem_cons.1 hx with rfl | hx
  · exact lt_of_block h.1
  · rw [List.mem_singleton.1 hx]; exact lt_of_block h.2.1
/-- What NewReader leaves, where it makes one. -/
def NewR (w : World) (s : ByteArray) (i : Nat) (e : Ending) (w' : World) : Prop :=
  ∃ r q, e = .returned (.pointer (some ⟨r, 0, none⟩)) ∧ Rd w' r q s i ∧ Kept [] w w' ∧ Fresh w.heap.size [r, q]
theorem newReader_new (s : ByteArray) (i : Int) (w : World) (hs : s.size ≤ 1125899906842624) (h0 : 0 ≤ i) (hi : i.toNat ≤ 8 * s.size) :
    Calls Try.prog 55 #[.string s, .int .i64 i] w (NewR w s i.toNat) := by
  obtain ⟨i, rfl⟩ := Int.eq_ofNat_of_zero_le h0
  simp only [Int.toNat_natCast] at hi ⊢
  refine (newReader_ok s i w hs hi).mono fun e w' ⟨he, hw⟩ => ⟨_, w.heap.size, he, ?_, by rw [hw]; exact ((Kept.refl _ _).alloc _).alloc _, by simp [Fresh]⟩
  rw [hw]
  refine ⟨?_, heap_alloc2_old w _ _, by omega⟩
  exact heap_alloc2_new w _ _

theorem newReader_no (s : ByteArray) (i : Int) (w : World) (hs : s.size ≤ 1125899906842624) (hi : i < 0 ∨ (8 * s.size : Nat) < i) :
    Calls Try.prog 55 #[.string s, .int .i64 i] w fun e w' => e = .returned (.pointer none) ∧ w' = w.alloc (.cells #[.string s] 9) := by
  by_cases h : i < 0
  · have g1 : decide ((i : Int) < 0) = true := by simpa using h
    go_enter Try.func55, Try.ntmps55
    go_wp2
    go_ret
    exact ⟨rfl, rfl⟩
  · have g1 : decide ((i : Int) < 0) = false := by simpa using h
    have g2 : decide (8 * (s.size : Int) < i) = true := by simp; omega
    go_enter Try.func55, Try.ntmps55
    go_wp2
    go_ret
    exact ⟨rfl, rfl⟩

theorem bit_ok (s : ByteArray) (i q : Nat) (w : World) (hs : s.size ≤ 1125899906842624) (hi : i < 8 * s.size) (hq : w.cell? ⟨q, 0, none⟩ = some (.string s)) :
    Calls Try.prog 87 #[.int .i64 i, .pointer (some ⟨q, 0, none⟩)] w fun e w' => e = .returned (.int .u64 ((K.tbit s.data.toList i).toNat : Nat)) ∧ w = w' := by
  have h8 : i / 8 < s.size := by omega
  have h8' : (i : Int) / 8 < (s.size : Int) := by omega
  go_enter Try.func87, Try.ntmps87
  go_wp2
  go_ret
  refine ⟨ret_k ?_, rfl⟩
  have hb : ((s[i / 8]'h8).toNat : Nat) < 256 := (s[i / 8]'h8).toNat_lt
  have e1 : IntKind.u64.wrap ((s[i / 8]'h8).toNat : Int) = ((s[i / 8]'h8).toNat : Int) := by rw [IntKind.wrap_u64]; omega
  have e2 : (s.data.toList.getD (i / 8) 0) = s[i / 8]'h8 := by
    have : i / 8 < s.data.toList.length := by simpa using h8
    rw [List.getD, List.getElem?_eq_getElem this]; rfl
  unfold K.tbit
  rw [e1, e2, K.testBit_div, show ((s[i / 8]'h8).toNat : Int) / 2 ^ (7 - i % 8) = (((s[i / 8]'h8).toNat / 2 ^ (7 - i % 8) : Nat) : Int) by norm_cast, show (1 : Int) = ((1 : Nat) : Int) from rfl,
    u64_and_nat _ _ (by have := Nat.div_le_self (s[i / 8]'h8).toNat (2 ^ (7 - i % 8)); omega) (by omega), nat_mask1]

theorem bit_at (s : ByteArray) (i q : Nat) (x : Int) (w : World) (hx : x = (i : Nat)) (hs : s.size ≤ 1125899906842624) (hi : i < 8 * s.size) (hq : w.cell? ⟨q, 0, none⟩ = some (.string s)) :
    Calls Try.prog 87 #[.int .i64 x, .pointer (some ⟨q, 0, none⟩)] w fun e w' => e = .returned (.int .u64 ((K.tbit s.data.toList i).toNat : Nat)) ∧ w = w' := by
  subst hx; exact bit_ok s i q w hs hi hq

theorem at_nil (w : World) : Calls Try.prog 58 #[.pointer none] w fun e w' => e = .returned (.int .i64 0) ∧ w = w' := by
  go_enter Try.func58, Try.ntmps58
  go_wp2
  go_ret
  exact ⟨rfl, rfl⟩
theorem at_ok (r q : Nat) (s : ByteArray) (i : Nat) (w : World) (h : Rd w r q s i) : Calls Try.prog 58 #[.pointer (some ⟨r, 0, none⟩)] w fun e w' => e = .returned (.int .i64 i) ∧ w = w' := by
  have c1 : w.cell? ⟨r, 1, none⟩ = some (.int .i64 i) := cell_of_row w r 1 _ _ _ h.1
  clear h
  go_enter Try.func58, Try.ntmps58
  go_wp2
  go_ret
  exact ⟨rfl, rfl⟩
theorem take_nil (n : Int) (w : World) : Calls Try.prog 56 #[.pointer none, .int .i64 n] w fun e w' => e = .returned (.tuple #[.int .u64 0, .int .i64 1]) ∧ w = w' := by
  go_enter Try.func56, Try.ntmps56
  go_wp2
  go_ret2
  exact ⟨rfl, rfl⟩
theorem unary_nil (n : Int) (w : World) : Calls Try.prog 57 #[.pointer none, .int .i64 n] w fun e w' => e = .returned (.tuple #[.int .i64 0, .int .i64 1]) ∧ w = w' := by
  go_enter Try.func57, Try.ntmps57
  go_wp2
  go_ret2
  exact ⟨rfl, rfl⟩
theorem eqFn (c : Array Value) (w : World) : (binOp BinOp.eql 121 (.func (.func 87) #[] c) .nilFunc).run Try.prog w = .ok (.bool false) w := by kernel_rfl
theorem take_arg (r q : Nat) (s : ByteArray) (i : Nat) (n : Int) (w : World) (h : Rd w r q s i) (hn : n < 0 ∨ 64 < n) :
    Calls Try.prog 56 #[.pointer (some ⟨r, 0, none⟩), .int .i64 n] w fun e w' => e = .returned (.tuple #[.int .u64 0, .int .i64 2]) ∧ w = w' := by
  have c0 : w.cell? ⟨r, 0, none⟩ = some (.func (.func 87) #[] #[.pointer (some ⟨q, 0, none⟩)]) := cell_of_row w r 0 _ _ _ h.1
  clear h
  have hfn := eqFn #[.pointer (some ⟨q, 0, none⟩)] w
  by_cases h : n < 0
  · have g1 : decide (n < 0) = true := by simpa using h
    go_enter Try.func56, Try.ntmps56
    go_wp2
    go_ret2
    exact ⟨rfl, rfl⟩
  · have g1 : decide (n < 0) = false := by simpa using h
    have g2 : decide (64 < n) = true := by simp; omega
    go_enter Try.func56, Try.ntmps56
    go_wp2
    go_ret2
    exact ⟨rfl, rfl⟩

set_option maxRecDepth 100000 in
theorem take_short (r q : Nat) (s : ByteArray) (i n : Nat) (w : World) (h : Rd w r q s i) (hs : s.size ≤ 1125899906842624) (hi : i ≤ 8 * s.size) (hn : n ≤ 64) (hl : 8 * s.size < i + n) :
    Calls Try.prog 56 #[.pointer (some ⟨r, 0, none⟩), .int .i64 n] w fun e w' => e = .returned (.tuple #[.int .u64 0, .int .i64 10]) ∧ ∃ m, w' = w.drewN m := by
  have c0 : w.cell? ⟨r, 0, none⟩ = some (.func (.func 87) #[] #[.pointer (some ⟨q, 0, none⟩)]) := cell_of_row w r 0 _ _ _ h.1
  have c1 : w.cell? ⟨r, 1, none⟩ = some (.int .i64 i) := cell_of_row w r 1 _ _ _ h.1
  have c2 : w.cell? ⟨r, 2, none⟩ = some (.int .i64 (8 * s.size : Nat)) := cell_of_row w r 2 _ _ _ h.1
  clear h
  have hfn := eqFn #[.pointer (some ⟨q, 0, none⟩)] w
  have g1 : decide ((n : Int) < 0) = false := by simp
  have g2 : decide (64 < (n : Int)) = false := by simp; omega
  have w1 : IntKind.i64.wrap (8 * (s.size : Int) - i) = 8 * (s.size : Int) - i := IntWalk.i64_in _ (by omega)
  have g3 : 8 * (s.size : Int) - i < n := by omega
  go_enter Try.func56, Try.ntmps56
  go_wp2
  go_quiet (fail)
  go_wp2
  go_ret2
  exact ⟨rfl, _, rfl⟩

/-- In Take's loop: j bits are taken. -/
def TakeI (w : World) (s : ByteArray) (i n : Nat) (k : Nat) (v c : Value) (wr : World) : Prop :=
  ∃ j m, j ≤ n ∧ k = n - j ∧ c = .int .i64 j ∧ v = .int .u64 (K.num (K.piece (K.bitsOf s.data.toList) i j) : Nat) ∧ wr = w.drewN m

set_option maxRecDepth 100000 in
set_option maxHeartbeats 400000 in
theorem take_ok (r q : Nat) (s : ByteArray) (i n : Nat) (w : World) (h : Rd w r q s i) (hs : s.size ≤ 1125899906842624) (hn : n ≤ 64) (hl : i + n ≤ 8 * s.size) :
    Calls Try.prog 56 #[.pointer (some ⟨r, 0, none⟩), .int .i64 n] w fun e w' => e = .returned (.tuple #[.int .u64 (K.num (K.piece (K.bitsOf s.data.toList) i n) : Nat), .int .i64 0]) ∧
      Rd w' r q s (i + n) ∧ Kept [r] w w' := by
  have c0 : w.cell? ⟨r, 0, none⟩ = some (.func (.func 87) #[] #[.pointer (some ⟨q, 0, none⟩)]) := cell_of_row w r 0 _ _ _ h.1
  have c1 : w.cell? ⟨r, 1, none⟩ = some (.int .i64 i) := cell_of_row w r 1 _ _ _ h.1
  have c2 : w.cell? ⟨r, 2, none⟩ = some (.int .i64 (8 * s.size : Nat)) := cell_of_row w r 2 _ _ _ h.1
  have cq : w.cell? ⟨q, 0, none⟩ = some (.string s) := cell_of_row w q 0 _ _ _ h.2.1
  have f1 := frozen_of_row w r 1 _ _ h.1
  have H := Lib.hid h
  clear h
  have hfn := eqFn #[.pointer (some ⟨q, 0, none⟩)] w
  have g1 : decide ((n : Int) < 0) = false := by simp
  have g2 : decide (64 < (n : Int)) = false := by simp; omega
  have w1 : IntKind.i64.wrap (8 * (s.size : Int) - i) = 8 * (s.size : Int) - i := IntWalk.i64_in _ (by omega)
  have g3 : (n : Int) ≤ 8 * (s.size : Int) - i := by omega
  go_enter Try.func56, Try.ntmps56
  go_wp2
  go_quiet (fail)
  go_wp2
  go_loopg [6, 35] n (fun k v c wr => TakeI w s i n k v c wr)
  case atStart => exact ⟨0, _, by omega, by omega, rfl, by rw [K.piece_zero]; rfl, rfl⟩
  case round =>
    obtain ⟨j, m, hj, hk, rfl, rfl, rfl⟩ := hrel
    have Hk := Lib.hid hk
    clear hk
    by_cases hlt : j < n
    · have hps := K.piece_succ s.data.toList i j (by simp only [Array.length_toList]; show i + j < 8 * s.size; omega)
      have hln := K.piece_length (K.bitsOf s.data.toList) i j (by rw [K.bitsOf_length]; simp only [Array.length_toList]; show i + j ≤ 8 * s.size; omega)
      have hnl := K.num_lt (K.piece (K.bitsOf s.data.toList) i j)
      rw [hln] at hnl
      have hnl2 : K.num (K.piece (K.bitsOf s.data.toList) i j) ≤ 9223372036854775807 := by
        have : 2 ^ j ≤ 2 ^ 63 := Nat.pow_le_pow_right (by decide) (by omega)
        omega
      have hnx : K.num (K.piece (K.bitsOf s.data.toList) i (j + 1)) = 2 * K.num (K.piece (K.bitsOf s.data.toList) i j) + (K.tbit s.data.toList (i + j)).toNat := by rw [hps, K.num_snoc]
      have hbt := Bool.toNat_le (K.tbit s.data.toList (i + j))
      have hor := K.shl_or (K.num (K.piece (K.bitsOf s.data.toList) i j)) (K.tbit s.data.toList (i + j))
      generalize K.num (K.piece (K.bitsOf s.data.toList) i j) = V at hnx hnl2 hor
      have HX := Lib.hid hnx
      have HO := Lib.hid hor
      clear hnx hps hln hnl hor
      go_wp2
      go_quiet ((go_at_call 87; exact quietly_add (bit_at s (i + j) q _ _ (by omega) hs (by omega) cq)))
      go_wp2
      go_roundg (n - (j + 1))
      case measure => have := Hk.out; omega
      case rel =>
        have hV : V < 18446744073709551616 := by omega
        have e : bits BinOp.or IntKind.u64 ((V : Int) * 2) ((K.tbit s.data.toList (i + j)).toNat : Int) = ((2 * V + (K.tbit s.data.toList (i + j)).toNat : Nat) : Int) := by
          rw [show (V : Int) * 2 = ((V * 2 : Nat) : Int) by omega, u64_or_nat _ _ (by omega) (by omega), HO.out]
        exact ⟨j + 1, _, by omega, rfl, by go_num, by rw [e, HX.out], rfl⟩
    · obtain rfl : j = n := by omega
      go_wp2
      go_ret2
      obtain ⟨h1, h2, h3⟩ := H.out
      refine ⟨rfl, ⟨?_, ?_, h3⟩, ?_⟩
      · have := heap_setCell_same (w.drewN m) r 1 _ _ (.int .i64 (i + j : Nat)) h1
        simpa using this
      · exact (heap_setCell_other (w.drewN m) ⟨r, 1, none⟩ q _ (fun h => h3 h.symm)).trans h2
      · exact ((Kept.refl _ _).drewN m).setCell (by simp) _
end Go.Proofs.Ytdaenajhgbagdaa
namespace Go.Proofs.Ytdaenajhgbagdaa
open Go.RowKit
set_option linter.unusedVariables false
set_option linter.unusedSimpArgs false

theorem unary_arg (r q : Nat) (s : ByteArray) (i : Nat) (n : Int) (w : World) (h : Rd w r q s i) (hn : n < 0) :
    Calls Try.prog 57 #[.pointer (some ⟨r, 0, none⟩), .int .i64 n] w fun e w' => e = .returned (.tuple #[.int .i64 0, .int .i64 2]) ∧ w = w' := by
  have c0 : w.cell? ⟨r, 0, none⟩ = some (.func (.func 87) #[] #[.pointer (some ⟨q, 0, none⟩)]) := cell_of_row w r 0 _ _ _ h.1
  clear h
  have hfn := eqFn #[.pointer (some ⟨q, 0, none⟩)] w
  have g1 : decide (n < 0) = true := by simpa using hn
  go_enter Try.func57, Try.ntmps57
  go_wp2
  go_ret2
  exact ⟨rfl, rfl⟩

/-- In Unary's loop: j 1 bits are passed. -/
def UnI (w : World) (s : ByteArray) (i : Nat) (most : Int) (k : Nat) (c : Value) (wr : World) : Prop :=
  ∃ j m, i + j ≤ 8 * s.size ∧ k = 8 * s.size - i - j ∧ c = .int .i64 j ∧ wr = w.drewN m ∧ K.unary most 0 ((K.bitsOf s.data.toList).drop i) = K.unary most j ((K.bitsOf s.data.toList).drop (i + j))

/-- What Unary leaves. -/
def UnPost (r q : Nat) (s : ByteArray) (i : Nat) (w : World) (p : Nat × Nat) (e : Ending) (w' : World) : Prop :=
  e = .returned (.tuple #[.int .i64 p.1, .int .i64 p.2]) ∧ Rd w' r q s (if p.2 = 0 then i + p.1 + 1 else i) ∧ Kept [r] w w'

set_option maxHeartbeats 400000 in
set_option maxRecDepth 100000 in
theorem unary_ok (r q : Nat) (s : ByteArray) (i : Nat) (most : Int) (w : World) (h : Rd w r q s i) (hs : s.size ≤ 1125899906842624) (hi : i ≤ 8 * s.size) (h0 : 0 ≤ most) :
    Calls Try.prog 57 #[.pointer (some ⟨r, 0, none⟩), .int .i64 most] w (UnPost r q s i w (K.unary most 0 ((K.bitsOf s.data.toList).drop i))) := by
  have c0 : w.cell? ⟨r, 0, none⟩ = some (.func (.func 87) #[] #[.pointer (some ⟨q, 0, none⟩)]) := cell_of_row w r 0 _ _ _ h.1
  have c1 : w.cell? ⟨r, 1, none⟩ = some (.int .i64 i) := cell_of_row w r 1 _ _ _ h.1
  have c2 : w.cell? ⟨r, 2, none⟩ = some (.int .i64 (8 * s.size : Nat)) := cell_of_row w r 2 _ _ _ h.1
  have cq : w.cell? ⟨q, 0, none⟩ = some (.string s) := cell_of_row w q 0 _ _ _ h.2.1
  have f1 := frozen_of_row w r 1 _ _ h.1
  have H := Lib.hid h
  clear h
  have hfn := eqFn #[.pointer (some ⟨q, 0, none⟩)] w
  have hsz : s.data.toList.length = s.size := by simp only [Array.length_toList]; rfl
  have HS := Lib.hid hsz
  clear hsz
  go_enter Try.func57, Try.ntmps57
  go_wp2
  go_loopg [6] (8 * s.size - i) (fun k c wr => UnI w s i most k c wr)
  case atStart => exact ⟨0, 0, by omega, by omega, rfl, rfl, rfl⟩
  case round =>
    obtain ⟨j, m, hj, hk, rfl, rfl, hu⟩ := hrel
    have Hk := Lib.hid hk
    have Hu := Lib.hid hu
    clear hk hu
    have w1 : IntKind.i64.wrap ((i : Int) + j) = (i : Int) + j := IntWalk.i64_in _ (by omega)
    by_cases hlt : i + j < 8 * s.size
    · have t1 : (i : Int) + j < 8 * (s.size : Int) := by omega
      go_wp2
      go_quiet (fail)
      go_wp2
      by_cases hb : K.tbit s.data.toList (i + j) = true
      · have e0 : (((K.tbit s.data.toList (i + j)).toNat : Int) == 0) = false := by rw [hb]; rfl
        have hone := K.unary_one most j (i + j) s.data.toList (by rw [HS.out]; exact hlt) hb
        rw [← Hu.out] at hone
        have Ho := Lib.hid hone
        clear hone hb
        by_cases hm : (j : Int) = most
        · subst hm
          go_quiet ((go_at_call 87; exact quietly_add (bit_at s (i + j) q _ _ (by omega) hs (by omega) cq)))
          go_wp2
          go_ret2
          have := Ho.out
          simp only [if_true] at this
          rw [this]
          exact ⟨rfl, H.out, (Kept.refl _ _).drewN _⟩
        · have e1 : ((j : Int) == most) = false := by simpa using hm
          go_quiet ((go_at_call 87; exact quietly_add (bit_at s (i + j) q _ _ (by omega) hs (by omega) cq)))
          go_wp2
          go_roundg (8 * s.size - i - (j + 1))
          case measure => have := Hk.out; omega
          case rel => exact ⟨j + 1, _, by omega, rfl, by go_num, rfl, by have := Ho.out; rw [if_neg hm] at this; exact this⟩
      · have hb : K.tbit s.data.toList (i + j) = false := by simpa using hb
        have e0 : (((K.tbit s.data.toList (i + j)).toNat : Int) == 0) = true := by rw [hb]; rfl
        have hone := K.unary_zero most j (i + j) s.data.toList (by rw [HS.out]; exact hlt) hb
        rw [← Hu.out] at hone
        have Ho := Lib.hid hone
        clear hone hb
        go_quiet ((go_at_call 87; exact quietly_add (bit_at s (i + j) q _ _ (by omega) hs (by omega) cq)))
        go_wp2
        go_ret2
        rw [Ho.out]
        obtain ⟨h1, h2, h3⟩ := H.out
        refine ⟨rfl, ⟨?_, ?_, h3⟩, ?_⟩
        · have e : Value.int .i64 ((i : Int) + (j + 1)) = .int .i64 ((i + j + 1 : Nat) : Int) := by first | go_num | (congr 1; omega)
          rw [e]
          exact heap_setCell_same (w.drewN _) r 1 _ _ (.int .i64 ((i + j + 1 : Nat) : Int)) h1
        · exact (heap_setCell_other (w.drewN _) ⟨r, 1, none⟩ q _ (fun h => h3 h.symm)).trans h2
        · exact ((Kept.refl _ _).drewN _).setCell (by simp) _
    · have t1 : 8 * (s.size : Int) ≤ (i : Int) + j := by omega
      have hone := K.unary_end most j (i + j) s.data.toList (by rw [HS.out]; omega)
      rw [← Hu.out] at hone
      have Ho := Lib.hid hone
      clear hone
      go_wp2
      go_quiet (fail)
      go_wp2
      go_ret2
      rw [Ho.out]
      exact ⟨rfl, H.out, ((Kept.refl _ _).drewN _).drewN _⟩
end Go.Proofs.Ytdaenajhgbagdaa
namespace Go.Proofs.Ytdaenajhgbagdaa
open Go.RowKit
set_option linter.unusedVariables false
set_option linter.unusedSimpArgs false

theorem Try.infoInt : (Try.prog.info? 3).map (fun i => (i.zero, i.size, i.bytes)) = some (some (.int .i64 0), 1, 8) := by kernel_rfl
/-- Bits as numbers 0 and 1. -/
def bis (l : List Bool) : List Value := l.map fun b => .int .i64 (b.toNat : Nat)
theorem bis_length (l : List Bool) : (bis l).length = l.length := by simp [bis]
theorem bis_get (l : List Bool) (j : Nat) (h : j < l.length) : (bis l)[j]? = some (.int .i64 (K.bt l j : Nat)) := by
  simp [bis, K.bt, List.getD, List.getElem?_eq_getElem h]
theorem bis_append (a b : List Bool) : bis (a ++ b) = bis a ++ bis b := by simp [bis]

theorem set_back (z : Value) (D : List Value) (m : Nat) (h : m < D.length) : (List.replicate (m + 1) z ++ D.drop (m + 1)).set m (D[m]'h) = List.replicate m z ++ D.drop m := by
  rw [List.replicate_succ', List.append_assoc, List.set_append_right _ _ (by simp), List.drop_eq_getElem_cons h]
  simp

/-- In Bits' loop: j bits are laid, from the end. -/
def BitsI (w0 : World) (g v n : Nat) (k : Nat) (x i : Value) (w : World) : Prop :=
  ∃ j, j ≤ n ∧ k = n - j ∧ i = .int .i64 ((n : Int) - 1 - j) ∧ x = .int .u64 (v / 2 ^ j : Nat) ∧
    Row w 3 (.slice (some ⟨g, 0, none⟩) n n) (List.replicate (n - j) (.int .i64 0) ++ (bis (K.low v n)).drop (n - j)) ∧ Kept [] w0 w

set_option maxHeartbeats 400000 in
theorem refBits_ok (v n : Nat) (w : World) (hn : n ≤ 64) (hv : v < 18446744073709551616) :
    Calls Try.prog 80 #[.int .u64 v, .int .i64 n] w fun e w' => ∃ g, e = .returned (.tuple #[.slice (some ⟨g, 0, none⟩) n n, .bool (decide (v < 2 ^ n))]) ∧
      Row w' 3 (.slice (some ⟨g, 0, none⟩) n n) (bis (K.low v n)) ∧ Kept [] w w' ∧ w.heap.size ≤ g := by
  have g1 : decide ((n : Int) < 0) = false := by simp
  have g2 : decide (64 < (n : Int)) = false := by simp; omega
  go_enter Try.func80, Try.ntmps80
  go_wp2_with ((at_make; refine wp_make1 rfl _ _ 30 rfl 3 (.int .i64 0) 8 Try.underlying30 Try.infoInt rfl .i64 .i64 _ _ n n rfl rfl rfl rfl (Nat.le_refl _) (by omega) (by simp only [maxLen]; omega) ?_; intro w1 hrow hk1))
  go_loopg [0, 7] n (fun k x i wr => BitsI w w.heap.size v n k x i wr)
  case atStart => exact ⟨0, by omega, by omega, by go_num, by simp, by rw [List.drop_of_length_le (by simp [bis_length, K.low_length])]; simpa using hrow, hk1⟩
  case round =>
    obtain ⟨j, hj, hk, rfl, rfl, hrow, hkept⟩ := hrel
    have Hk := Lib.hid hk
    clear hk
    by_cases hlt : j < n
    · have hcell : wr.cell? ⟨w.heap.size, n - 1 - j, none⟩ = some (.int .i64 0) := hrow.cellAt (by
        rw [List.getElem?_append_left (by simp; omega), List.getElem?_replicate, if_pos (by omega)])
      have hfree := hrow.free (n - 1 - j)
      have hrow2 := hrow.put (n - 1 - j) (.int .i64 ((K.low v n).getD (n - 1 - j) false).toNat)
      have hV : v / 2 ^ j < 18446744073709551616 := by have := Nat.div_le_self v (2 ^ j); omega
      have hx : ((v / 2 ^ j % 2 : Nat) : Int) = (((K.low v n).getD (n - 1 - j) false).toNat : Int) := by
        rw [← K.testBit_div, List.getD, K.low_succ_get _ _ _ (by omega)]
        simp [show n - 1 - (n - 1 - j) = j by omega]
      have hnx : v / 2 ^ j / 2 = v / 2 ^ (j + 1) := by rw [Nat.div_div_eq_div_mul, Nat.pow_succ]
      have HX := Lib.hid hx
      have HN := Lib.hid hnx
      have HR := Lib.hid hrow2
      have HR1 := Lib.hid hrow
      clear hx hnx hrow2 hrow
      have wV : IntKind.i64.wrap ((v / 2 ^ j % 2 : Nat) : Int) = ((v / 2 ^ j % 2 : Nat) : Int) := IntWalk.i64_in _ (by omega)
      generalize v / 2 ^ j = V at hV HX HN wV
      go_wp2
      go_roundg (n - (j + 1))
      case measure => have := Hk.out; omega
      case rel =>
        refine ⟨j + 1, by omega, rfl, by go_num, by rw [← HN.out]; go_num, ?_, hkept.setCell (by simp) _⟩
        have h1 : n - 1 - j < (bis (K.low v n)).length := by rw [bis_length, K.low_length]; omega
        have hb := set_back (.int .i64 0) (bis (K.low v n)) (n - 1 - j) h1
        rw [show n - 1 - j + 1 = n - j by omega] at hb
        have he : (bis (K.low v n))[n - 1 - j]'h1 = .int .i64 ((V : Int) % 2) := by
          have := bis_get (K.low v n) (n - 1 - j) (by rw [K.low_length]; omega)
          rw [List.getElem?_eq_getElem h1] at this
          rw [Option.some.inj this]
          unfold K.bt
          rw [← HX.out]
          go_num
        rw [show n - (j + 1) = n - 1 - j by omega, ← hb, he]
        exact HR1.out.put (n - 1 - j) _
    · obtain rfl : j = n := by omega
      go_wp2
      go_ret2
      refine ⟨w.heap.size, ?_, by simpa using hrow, hkept, Nat.le_refl _⟩
      have hd : decide (v < 2 ^ j) = ((v : Int) / 2 ^ j == 0) := by
        rw [show ((v : Int) / 2 ^ j) = ((v / 2 ^ j : Nat) : Int) by norm_cast]
        have h2 : 0 < 2 ^ j := Nat.pow_pos (by decide)
        have h3 := Nat.div_eq_zero_iff_lt (x := v) h2
        rw [Bool.eq_iff_iff]
        simp only [decide_eq_true_eq, beq_iff_eq]
        omega
      rw [hd]
      rfl
theorem refBits_no (v n : Int) (w : World) (hn : n < 0 ∨ 64 < n) :
    Calls Try.prog 80 #[.int .u64 v, .int .i64 n] w fun e w' => e = .returned (.tuple #[.slice none 0 0, .bool false]) ∧ w = w' := by
  by_cases h : n < 0
  · have g1 : decide (n < 0) = true := by simpa using h
    go_enter Try.func80, Try.ntmps80
    go_wp2
    go_ret2
    exact ⟨rfl, rfl⟩
  · have g1 : decide (n < 0) = false := by simpa using h
    have g2 : decide (64 < n) = true := by simp; omega
    go_enter Try.func80, Try.ntmps80
    go_wp2
    go_ret2
    exact ⟨rfl, rfl⟩

/-- In Text's outer loop: m bytes are told. -/
def TextI (w0 : World) (bs : List Bool) (k : Nat) (o i : Value) (w : World) : Prop :=
  ∃ m, 8 * m ≤ bs.length + 7 ∧ k = bs.length + 8 - 8 * m ∧ i = .int .i64 (8 * m : Nat) ∧ Row w 5 o (u8s ((K.pack bs).take m)) ∧ Kept [] w0 w ∧ Fresh w0.heap.size (foot o)
/-- In Text's inner loop: j bits of the byte are reckoned. -/
def TextJ (w0 : World) (bs : List Bool) (m : Nat) (k : Nat) (b j : Value) (w : World) : Prop :=
  ∃ x, x ≤ 8 ∧ k = 8 - x ∧ j = .int .i64 (x : Nat) ∧ b = .int .i64 (K.acc bs m x : Nat) ∧ w0 = w

set_option maxRecDepth 100000 in
set_option maxHeartbeats 400000 in
theorem refText_ok (a : Option Addr) (cap : Nat) (bs : List Bool) (w : World) (hl : bs.length ≤ 1000000000000) (h : Sees w 1 a bs.length (bis bs)) :
    Calls Try.prog 47 #[.slice a bs.length cap] w fun e w' => e = .returned (.string ⟨(K.pack bs).toArray⟩) ∧ Kept [] w w' := by
  have H := Lib.hid h
  clear h
  go_enter Try.func47, Try.ntmps47
  go_wp2
  go_loopg [3, 4] (bs.length + 8) (fun k o i wr => TextI w bs k o i wr)
  case atStart => exact ⟨0, by omega, by omega, by rfl, Row.nil _ _, Kept.refl _ _, by simp [Fresh, foot, Value.ownBlock]⟩
  case round =>
    obtain ⟨m, hm, hk, rfl, hrow, hkept, hfr⟩ := hrel
    have Hk := Lib.hid hk
    clear hk
    have HR := Lib.hid hrow
    clear hrow
    by_cases hlt : 8 * m < bs.length
    · have hs := H.out.kept0 hkept
      obtain ⟨b, off, rfl, hcells⟩ := hs.at (by rw [bis_length]; omega)
      obtain ⟨wo, rfl⟩ : ∃ wo : World, wo = wr := ⟨_, rfl⟩
      go_wp2
      go_loopg [5, 6] 8 (fun k b j wr => TextJ wo bs m k b j wr)
      case atStart => exact ⟨0, by omega, by omega, rfl, rfl, rfl⟩
      case round =>
        obtain ⟨x, hx, hk, rfl, rfl, rfl⟩ := hrel
        have Hk2 := Lib.hid hk
        clear hk
        have hacc := K.acc_lt bs m x
        have hacc2 : K.acc bs m x ≤ 256 := by
          have : 2 ^ x ≤ 2 ^ 8 := Nat.pow_le_pow_right (by decide) hx
          omega
        have hnx : K.acc bs m (x + 1) = K.acc bs m x * 2 + K.bt bs (8 * m + x) := rfl
        have hbt := K.bt_le bs (8 * m + x)
        have HN := Lib.hid hnx
        clear hnx hacc
        by_cases hx8 : x < 8
        · by_cases hin : 8 * m + x < bs.length
          · have hc := hcells (8 * m + x) _ (bis_get bs _ hin)
            clear hcells
            generalize K.acc bs m x = A at HN hacc2
            generalize K.bt bs (8 * m + x) = B at HN hbt hc
            go_wp2
            go_roundg (8 - (x + 1))
            case measure => have := Hk2.out; omega
            case rel => exact ⟨x + 1, by omega, rfl, by go_num, by rw [HN.out]; go_num, rfl⟩
          · have hb0 : K.bt bs (8 * m + x) = 0 := by
              have : bs[8 * m + x]? = none := List.getElem?_eq_none (by omega)
              simp [K.bt, List.getD, this]
            have HB := Lib.hid hb0
            clear hcells hb0 hbt
            generalize K.acc bs m x = A at HN hacc2
            go_wp2
            go_roundg (8 - (x + 1))
            case measure => have := Hk2.out; omega
            case rel => exact ⟨x + 1, by omega, rfl, by go_num, by rw [HN.out, HB.out]; go_num, rfl⟩
        · obtain rfl : x = 8 := by omega
          have hbN := K.byteN_lt bs m
          have hpt := K.pack_take bs m hlt
          rw [← K.acc_eight] at hbN hpt
          clear HN hbt hacc2 hx8
          have wA : IntKind.u8.wrap (K.acc bs m 8 : Int) = (K.acc bs m 8 : Int) := by rw [IntKind.wrap_u8]; omega
          have HP := Lib.hid hpt
          have hrow := HR.out
          have hlen : (u8s ((K.pack bs).take m)).length = m := by simp [u8s, K.pack_length]; omega
          have L1 : (u8s ((K.pack bs).take m)).length + 1 ≤ maxLen := by rw [hlen]; simp only [maxLen]; omega
          have L2 : ((u8s ((K.pack bs).take m)).length + 1) * 1 ≤ 140737488355328 := by rw [hlen]; omega
          clear hpt hcells hlen
          generalize K.acc bs m 8 = A at hbN HP wA
          generalize hxs : u8s ((K.pack bs).take m) = xs at hrow L1 L2
          have Hxs := Lib.hid hxs
          clear hxs
          go_wp2_with ((at_builtin; refine wp_app1 wo rfl _ _ 109 rfl 5 (.int .u8 0) 1 Try.underlying109 Try.infoU8 rfl _ (.int .u8 A) xs rfl rfl rfl rfl hrow L1 L2 ?_; intro g cp w1 hrow1 hk1 hf1))
          go_roundg (bs.length + 8 - 8 * (m + 1))
          case measure => have := Hk.out; omega
          case rel =>
            refine ⟨m + 1, by omega, rfl, by go_num, ?_, hkept.trans hk1 (fun x hx => .inr (hfr x hx)), ?_⟩
            · rw [HP.out, u8s, List.map_append]
              have e : (UInt8.ofNat A).toNat = A := by rw [UInt8.toNat_ofNat']; exact Nat.mod_eq_of_lt hbN
              simp only [List.map_cons, List.map_nil, e]
              rw [← u8s, Hxs.out]
              exact hrow1
            · intro x hx
              obtain rfl : x = g := by simpa [foot, Value.ownBlock] using hx
              rcases hf1 with h | h
              · exact hfr _ h
              · exact Nat.le_trans hkept.size h
    · have hc := Row.text HR.out
      have he : (K.pack bs).take m = K.pack bs := List.take_of_length_le (by rw [K.pack_length]; omega)
      rw [he] at hc
      clear he
      go_wp2
      go_ret
      exact ⟨rfl, hkept⟩
end Go.Proofs.Ytdaenajhgbagdaa
namespace Go.Proofs.Ytdaenajhgbagdaa
open Go.RowKit
set_option linter.unusedVariables false
set_option linter.unusedSimpArgs false

/-- In Of's outer loop: i bytes are told. -/
def OfI (w0 : World) (s : List UInt8) (k : Nat) (o i : Value) (w : World) : Prop :=
  ∃ m, m ≤ s.length ∧ k = s.length - m ∧ i = .int .i64 (m : Nat) ∧ Row w 3 o (bis ((K.bitsOf s).take (8 * m))) ∧ Kept [] w0 w ∧ Fresh w0.heap.size (foot o)
/-- In Of's inner loop: x bits of the byte are told. -/
def OfJ (w0 : World) (s : List UInt8) (m : Nat) (k : Nat) (o j : Value) (w : World) : Prop :=
  ∃ x, x ≤ 8 ∧ k = 8 - x ∧ j = .int .i64 (7 - (x : Nat)) ∧ Row w 3 o (bis ((K.bitsOf s).take (8 * m + x))) ∧ Kept [] w0 w ∧ Fresh w0.heap.size (foot o)

/-- What Of leaves. -/
def OfPost (s : List UInt8) (w : World) (e : Ending) (w' : World) : Prop :=
  ∃ a c, e = .returned (.slice a (8 * s.length) c) ∧ Row w' 3 (.slice a (8 * s.length) c) (bis (K.bitsOf s)) ∧ Kept [] w w' ∧ Fresh w.heap.size (footA a) ∧ 8 * s.length ≤ c ∧ c ≤ maxLen

set_option maxHeartbeats 400000 in
theorem refOf_ok (s : ByteArray) (w : World) (hl : s.size ≤ 1000000000) : Calls Try.prog 20 #[.string s] w (OfPost s.data.toList w) := by
  have hsz : s.data.toList.length = s.size := by simp only [Array.length_toList]; rfl
  have HS := Lib.hid hsz
  clear hsz
  go_enter Try.func20, Try.ntmps20
  go_wp2
  go_loopg [3, 4] s.size (fun k o i wr => OfI w s.data.toList k o i wr)
  case atStart => exact ⟨0, by omega, by rw [HS.out]; omega, rfl, Row.nil _ _, Kept.refl _ _, by simp [Fresh, foot, Value.ownBlock]⟩
  case round =>
    obtain ⟨m, hm, hk, rfl, hrow, hkept, hfr⟩ := hrel
    rw [HS.out] at hm hk
    have Hk := Lib.hid hk
    have HR := Lib.hid hrow
    have HK := Lib.hid hkept
    have HF := Lib.hid hfr
    clear hk hrow hkept hfr
    by_cases hlt : m < s.size
    · obtain ⟨wo, rfl⟩ : ∃ wo : World, wo = wr := ⟨_, rfl⟩
      have hb : ((s[m]'hlt).toNat : Nat) < 256 := (s[m]'hlt).toNat_lt
      have hmi : (m : Int) < (s.size : Int) := by omega
      go_wp2
      go_loopg [3, 5] 8 (fun k o j wr => OfJ w s.data.toList m k o j wr)
      case atStart => exact ⟨0, by omega, by omega, by rfl, HR.out, HK.out, HF.out⟩
      case round =>
        obtain ⟨x, hx, hk, rfl, hrow, hkept, hfr⟩ := hrel
        have Hk2 := Lib.hid hk
        clear hk
        by_cases hx8 : x < 8
        · have htb : bits BinOp.and IntKind.i64 (((s[m]'hlt).toNat : Int) / 2 ^ (7 - x)) 1 = ((K.tbit s.data.toList (8 * m + x)).toNat : Nat) := by
            have e2 : s.data.toList.getD m 0 = s[m]'hlt := by
              have : m < s.data.toList.length := by rw [HS.out]; exact hlt
              rw [List.getD, List.getElem?_eq_getElem this]; rfl
            have e3 : (8 * m + x) / 8 = m := by omega
            have e4 : (8 * m + x) % 8 = x := by omega
            unfold K.tbit
            rw [e3, e4, e2, K.testBit_div, show (((s[m]'hlt).toNat : Int) / 2 ^ (7 - x)) = (((s[m]'hlt).toNat / 2 ^ (7 - x) : Nat) : Int) by norm_cast]
            exact and_one_i64 _ (by have := Nat.div_le_self (s[m]'hlt).toNat (2 ^ (7 - x)); omega)
          have hxs : (bis ((K.bitsOf s.data.toList).take (8 * m + x))).length ≤ 8000000008 := by rw [bis_length, List.length_take]; omega
          have L1 : (bis ((K.bitsOf s.data.toList).take (8 * m + x))).length + 1 ≤ maxLen := by simp only [maxLen]; omega
          have L2 : ((bis ((K.bitsOf s.data.toList).take (8 * m + x))).length + 1) * 8 ≤ 140737488355328 := by omega
          have HKE := Lib.hid hkept
          have HFR := Lib.hid hfr
          have HTB := Lib.hid htb
          clear hkept hfr htb
          generalize hxq : bis ((K.bitsOf s.data.toList).take (8 * m + x)) = xs at hrow L1 L2 hxs
          have HXQ := Lib.hid hxq
          clear hxq
          have w7 : IntKind.i64.wrap (7 - (x : Int)) = 7 - (x : Int) := IntWalk.i64_in _ (by omega)
          go_wp2_with ((at_builtin; refine wp_app1 wr rfl _ _ 30 rfl 3 (.int .i64 0) 8 Try.underlying30 Try.infoInt rfl _ (.int .i64 (bits BinOp.and IntKind.i64 (((s[m]'hlt).toNat : Int) / 2 ^ (7 - x)) 1)) xs rfl rfl rfl rfl hrow L1 L2 ?_; intro g cp w1 hrow1 hk1 hf1))
          go_roundg (8 - (x + 1))
          case measure => have := Hk2.out; omega
          case rel =>
            have hl : xs.length = 8 * m + x := by rw [← HXQ.out, bis_length, List.length_take, K.bitsOf_length, HS.out]; omega
            refine ⟨x + 1, by omega, rfl, by go_num, ?_, HKE.out.trans hk1 (fun y hy => .inr (HFR.out y hy)), ?_⟩
            · rw [← Nat.add_assoc, K.bitsOf_take _ _ (by rw [HS.out]; omega), bis_append, HXQ.out]
              rw [HTB.out] at hrow1
              exact hrow1
            · intro y hy
              obtain rfl : y = g := by simpa [foot, Value.ownBlock] using hy
              rcases hf1 with h | h
              · exact HFR.out _ h
              · exact Nat.le_trans HKE.out.size h
        · obtain rfl : x = 8 := by omega
          have HR8 := Lib.hid hrow
          have HK8 := Lib.hid hkept
          have HF8 := Lib.hid hfr
          clear hrow hkept hfr
          go_wp2
          go_roundg (s.size - (m + 1))
          case measure => have := Hk.out; omega
          case rel => exact ⟨m + 1, by rw [HS.out]; omega, by rw [HS.out], by go_num, by rw [show 8 * (m + 1) = 8 * m + 8 by omega]; exact HR8.out, HK8.out, HF8.out⟩
    · obtain rfl : m = s.size := by omega
      have hall : (K.bitsOf s.data.toList).take (8 * s.size) = K.bitsOf s.data.toList := List.take_of_length_le (by rw [K.bitsOf_length, HS.out]; omega)
      obtain ⟨a, c, rfl, h1, h2, -, h3⟩ := HR.out.sees
      have hlen : (bis ((K.bitsOf s.data.toList).take (8 * s.size))).length = 8 * s.data.toList.length := by rw [hall, bis_length, K.bitsOf_length]
      have HL := Lib.hid hlen
      have HA := Lib.hid hall
      have H3 := Lib.hid h3
      clear hlen hall h3
      go_wp2
      go_ret
      have hfo : footA a = foot (.slice a (bis ((K.bitsOf s.data.toList).take (8 * s.size))).length c) := H3.out
      refine ⟨a, c, by rw [← HL.out]; rfl, ?_, HK.out, by rw [hfo]; exact HF.out, by rw [← HL.out]; exact h1, h2⟩
      have := HR.out
      rw [HL.out, HA.out] at this
      exact this

/-- In Number's loop: x bits are reckoned. -/
def NumI (w0 : World) (bs : List Bool) (k : Nat) (v i : Value) (w : World) : Prop :=
  ∃ x, x ≤ bs.length ∧ k = bs.length - x ∧ i = .int .i64 (x : Nat) ∧ v = .int .u64 (K.num (bs.take x) : Nat) ∧ w0 = w

theorem refNumber_ok (a : Option Addr) (n cap : Nat) (bs : List Bool) (w : World) (hn : bs.length = n) (hl : n ≤ 64) (h : Sees w 1 a n (bis bs)) :
    Calls Try.prog 89 #[.slice a n cap] w fun e w' => e = .returned (.int .u64 (K.num bs : Nat)) ∧ w = w' := by
  subst hn
  have H := Lib.hid h
  clear h
  go_enter Try.func89, Try.ntmps89
  go_wp2
  go_loopg [3, 4] bs.length (fun k v i wr => NumI w bs k v i wr)
  case atStart => exact ⟨0, by omega, by omega, rfl, rfl, rfl⟩
  case round =>
    obtain ⟨x, hx, hk, rfl, rfl, rfl⟩ := hrel
    have Hk := Lib.hid hk
    clear hk
    by_cases hlt : x < bs.length
    · obtain ⟨b, off, rfl, hcells⟩ := H.out.at (by rw [bis_length]; omega)
      have hc := hcells x _ (bis_get bs x hlt)
      have hnx := K.num_take bs x hlt
      have hbt := K.bt_le bs x
      have hlow := K.num_lt (bs.take x)
      rw [List.length_take, Nat.min_eq_left hx] at hlow
      have hlow2 : K.num (bs.take x) ≤ 9223372036854775807 := by
        have : 2 ^ x ≤ 2 ^ 63 := Nat.pow_le_pow_right (by decide) (by omega)
        omega
      have HN := Lib.hid hnx
      clear hcells hnx hlow
      have wb : IntKind.u64.wrap (K.bt bs x : Int) = (K.bt bs x : Int) := by rw [IntKind.wrap_u64]; omega
      generalize K.num (bs.take x) = V at HN hlow2
      generalize K.bt bs x = B at HN hbt hc wb
      go_wp2
      go_roundg (bs.length - (x + 1))
      case measure => have := Hk.out; omega
      case rel => exact ⟨x + 1, by omega, rfl, by go_num, by rw [HN.out]; go_num, rfl⟩
    · obtain rfl : x = bs.length := by omega
      go_wp2
      go_ret
      exact ⟨ret_k (by rw [List.take_of_length_le (Nat.le_refl _)]), rfl⟩
end Go.Proofs.Ytdaenajhgbagdaa
namespace Go.Proofs.Ytdaenajhgbagdaa
open Go.RowKit
set_option linter.unusedVariables false
set_option linter.unusedSimpArgs false

/-- A part of what is seen. -/
theorem Sees.part {w : World} {a : Option Addr} {n : Nat} {xs : List Value} (h : Sees w 1 a n xs) (i m : Nat) (hi : i + m ≤ n) {a' : Option Addr} (ha : 0 < m → ∀ b off, a = some ⟨b, off, none⟩ → a' = some ⟨b, off + i, none⟩) :
    Sees w 1 a' m ((xs.drop i).take m) := by
  have hl := h.1
  refine ⟨by simp; omega, fun j u hj => ?_⟩
  have hjm : j < m := by have := (List.getElem?_eq_some_iff.1 hj).1; simp at this; omega
  rw [List.getElem?_take, if_pos hjm, List.getElem?_drop] at hj
  obtain ⟨b, off, he, hc⟩ := h.2 (i + j) u hj
  exact ⟨b, off + i, ha (by omega) b off he, by rw [Nat.add_assoc]; exact hc⟩

theorem refTake_no (a : Option Addr) (l cap : Nat) (i : Int) (n : Int) (w : World) (hn : n < 0 ∨ 64 < n) :
    Calls Try.prog 61 #[.slice a l cap, .int .i64 i, .int .i64 n] w fun e w' => e = .returned (.tuple #[.int .u64 0, .int .i64 2]) ∧ w = w' := by
  by_cases h : n < 0
  · have g1 : decide (n < 0) = true := by simpa using h
    go_enter Try.func61, Try.ntmps61
    go_wp2
    go_ret2
    exact ⟨rfl, rfl⟩
  · have g1 : decide (n < 0) = false := by simpa using h
    have g2 : decide (64 < n) = true := by simp; omega
    go_enter Try.func61, Try.ntmps61
    go_wp2
    go_ret2
    exact ⟨rfl, rfl⟩
theorem refTake_short (a : Option Addr) (l cap : Nat) (i n : Nat) (w : World) (hl : l ≤ 1000000000000) (hi : i ≤ l) (hn : n ≤ 64) (h : l < i + n) :
    Calls Try.prog 61 #[.slice a l cap, .int .i64 i, .int .i64 n] w fun e w' => e = .returned (.tuple #[.int .u64 0, .int .i64 10]) ∧ w = w' := by
  have g1 : decide ((n : Int) < 0) = false := by simp
  have g2 : decide (64 < (n : Int)) = false := by simp; omega
  go_enter Try.func61, Try.ntmps61
  go_wp2
  go_ret2
  exact ⟨rfl, rfl⟩
theorem refTake_ok (a : Option Addr) (cap : Nat) (bs : List Bool) (i n : Nat) (w : World) (hl : bs.length ≤ 1000000000000) (hc : bs.length ≤ cap) (hcm : cap ≤ maxLen) (hn : n ≤ 64) (h : i + n ≤ bs.length) (hs : Sees w 1 a bs.length (bis bs)) :
    Calls Try.prog 61 #[.slice a bs.length cap, .int .i64 i, .int .i64 n] w fun e w' => e = .returned (.tuple #[.int .u64 (K.num (K.piece bs i n) : Nat), .int .i64 0]) ∧ w = w' := by
  have g1 : decide ((n : Int) < 0) = false := by simp
  have g2 : decide (64 < (n : Int)) = false := by simp; omega
  have hp : ((bis bs).drop i).take n = bis (K.piece bs i n) := by simp [bis, K.piece, List.map_drop, List.map_take]
  have HP := Lib.hid hp
  have hpl := K.piece_length bs i n h
  have HL := Lib.hid hpl
  clear hp hpl
  by_cases hci : cap = i
  · subst hci
    obtain rfl : n = 0 := by omega
    have hb : bs.length = cap := by omega
    have h0 : ∀ a', Sees w 1 a' 0 (bis (K.piece bs cap 0)) := fun a' => by rw [← HP.out]; exact hs.part _ _ (by omega) (fun h => absurd h (by omega))
    have HN := Lib.hid (refNumber_ok a 0 0 _ w HL.out (by omega) (h0 a))
    have HB := Lib.hid hb
    clear hs h0 hb
    go_enter Try.func61, Try.ntmps61
    go_wp2_with (go_at_call 89; refine HN.out.mono ?_; rintro e w' ⟨rfl, rfl⟩)
    go_ret2
    exact ⟨rfl, rfl⟩
  · have h0 : Sees w 1 (Option.map (fun x => x.add i) a) n (bis (K.piece bs i n)) := by
      rw [← HP.out]
      exact hs.part _ _ h (fun _ b off he => by rw [he, Option.map_some, Addr.add_lit])
    have HN := Lib.hid (refNumber_ok _ n (cap - i) _ w HL.out hn h0)
    clear hs h0
    go_enter Try.func61, Try.ntmps61
    go_wp2_with (go_at_call 89; refine HN.out.mono ?_; rintro e w' ⟨rfl, rfl⟩)
    go_ret2
    exact ⟨rfl, rfl⟩

/-- In the reference's Unary: x 1 bits are passed. -/
def RUnI (w0 : World) (bs : List Bool) (i : Nat) (most : Int) (k : Nat) (c : Value) (w : World) : Prop :=
  ∃ x, i + x ≤ bs.length ∧ k = bs.length - i - x ∧ c = .int .i64 (x : Nat) ∧ w0 = w ∧ K.unary most 0 (bs.drop i) = K.unary most x (bs.drop (i + x))

end Go.Proofs.Ytdaenajhgbagdaa
namespace Go.Proofs.Ytdaenajhgbagdaa
open Go.RowKit
set_option linter.unusedVariables false
set_option linter.unusedSimpArgs false

def intVals (xs : List Int) : List Value := xs.map (Value.int .i64)
theorem intVals_length (xs : List Int) : (intVals xs).length = xs.length := by simp [intVals]
theorem intVals_get (xs : List Int) (i : Nat) (x : Int) (h : xs[i]? = some x) : (intVals xs)[i]? = some (.int .i64 x) := by simp [intVals, h]

/-- In Ints' loop: the first i are the same. -/
def IntsI (w0 : World) (xs ys : List Int) (k : Nat) (c : Value) (w : World) : Prop :=
  ∃ i, i ≤ xs.length ∧ k = xs.length - i ∧ c = .int .i64 (i : Nat) ∧ xs.take i = ys.take i ∧ Kept [] w0 w

theorem ints_ok (a b : Option Addr) (ca cb : Nat) (xs ys : List Int) (w : World) (ha : Sees w 1 a xs.length (intVals xs)) (hb : Sees w 1 b ys.length (intVals ys)) (hl : xs.length ≤ 140737488351232) :
    Calls Try.prog 21 #[.slice a xs.length ca, .slice b ys.length cb] w fun e w' => e = .returned (.bool (decide (xs = ys))) ∧ Kept [] w w' := by
  by_cases hne : xs.length = ys.length
  · have hni : (xs.length : Int) = (ys.length : Int) := by omega
    have HA := Lib.hid ha
    have HB := Lib.hid hb
    have HN := Lib.hid hne
    clear ha hb hne
    go_enter Try.func21, Try.ntmps21
    go_wp2_with fail
    go_loopg [5] xs.length (fun k c wr => IntsI w xs ys k c wr)
    case atStart => exact ⟨0, by omega, by omega, rfl, by simp, Kept.refl _ _⟩
    case round =>
      obtain ⟨i, hi, hk, rfl, hpre, hkept⟩ := hrel
      have Hk := Lib.hid hk
      have HP := Lib.hid hpre
      have HKE := Lib.hid hkept
      clear hk hpre
      by_cases hlt : i < xs.length
      · obtain ⟨b0, off, rfl, hcells⟩ := (HA.out.kept0 hkept).at (by rw [intVals_length]; omega)
        obtain ⟨b1, off1, rfl, hcells1⟩ := (HB.out.kept0 hkept).at (by rw [intVals_length]; have := HN.out; omega)
        obtain ⟨x, hx⟩ : ∃ x, xs[i]? = some x := ⟨_, List.getElem?_eq_getElem hlt⟩
        obtain ⟨y, hy⟩ : ∃ y, ys[i]? = some y := ⟨_, List.getElem?_eq_getElem (by have := HN.out; omega)⟩
        have c0 := hcells _ _ (intVals_get xs i _ hx)
        have c1 := hcells1 _ _ (intVals_get ys i _ hy)
        have hjl : (i : Int) < (xs.length : Int) := by omega
        have hjl2 : (i : Int) < (ys.length : Int) := by omega
        have ex : xs.take (i + 1) = xs.take i ++ [x] := by rw [List.take_add_one, hx]; rfl
        have ey : ys.take (i + 1) = ys.take i ++ [y] := by rw [List.take_add_one, hy]; rfl
        have EX := Lib.hid ex
        have EY := Lib.hid ey
        have HX := Lib.hid hx
        have HY := Lib.hid hy
        clear hcells hcells1 hx hy ex ey hkept
        by_cases hxy : x = y
        · subst hxy
          go_wp2_with fail
          go_quiet (fail)
          go_wp2_with fail
          go_roundg (xs.length - (i + 1))
          case measure => have := Hk.out; omega
          case rel => exact ⟨i + 1, by omega, rfl, by go_num, by rw [EX.out, EY.out, HP.out], HKE.out.drewN _⟩
        · go_wp2_with fail
          go_quiet (fail)
          go_wp2_with fail
          go_ret
          refine ⟨?_, HKE.out.drewN _⟩
          have : xs ≠ ys := fun h => by
            have h1 := HX.out
            rw [h, HY.out] at h1
            exact hxy (Option.some.inj h1).symm
          simp [this]
      · obtain rfl : i = xs.length := by omega
        clear hkept
        go_wp2_with fail
        go_ret
        refine ⟨?_, HKE.out⟩
        have h1 := HP.out
        rw [List.take_of_length_le (Nat.le_refl _), List.take_of_length_le (by have := HN.out; omega)] at h1
        simp [h1]
  · have hni : ¬ (xs.length : Int) = (ys.length : Int) := by omega
    have hxy : xs ≠ ys := fun h => hne (by rw [h])
    go_enter Try.func21, Try.ntmps21
    go_wp2_with fail
    go_ret
    exact ⟨by simp [hxy], Kept.refl _ _⟩
end Go.Proofs.Ytdaenajhgbagdaa
namespace Go.Proofs.Ytdaenajhgbagdaa
open Go.RowKit
set_option linter.unusedVariables false
set_option linter.unusedSimpArgs false

theorem Sees.lit {w0 : World} {news : List Value} {e : TypeId} {m : Nat} (hl : news.length = m) : Sees (w0.alloc (.cells news.toArray e)) 1 (some ⟨w0.heap.size, 0, none⟩) m news := by
  refine ⟨by omega, fun j u hj => ⟨_, _, rfl, ?_⟩⟩
  have h := heap_alloc_new w0 (.cells news.toArray e)
  have hc := cell_of_row _ w0.heap.size j _ _ _ h
  rw [Nat.zero_add, hc]
  simpa using hj
theorem Sees.int {w : World} {b off n i : Nat} {x : Int} {xs : List Int} (h : Sees w 1 (some ⟨b, off, none⟩) n (intVals xs)) (hx : xs[i]? = some x) : w.cell? ⟨b, off + i, none⟩ = some (.int .i64 x) := by
  obtain ⟨b', off', he, hc⟩ := h.2 i _ (intVals_get xs i x hx)
  injection he with he
  injection he with h1 h2
  subst h1 h2
  exact hc

theorem wp_appL {P : Program} (w0 : World) {w : World} {ops : Array Oper} {rest : List Oper} {o : Oper} {a : Act} {Q : Exit → Act → World → Prop}
    (hg : o.guard = none) (s x : Operand) (t : TypeId) (hop : o.op = Op.call { callee := Callee.builtin Builtin.append, args := #[s, x], argTypes := #[t, t] })
    (e : TypeId) (z : Value) (bytes : Nat) (hu : P.underlying t = some (.slice e)) (T : (P.info? e).map (fun i => (i.zero, i.size, i.bytes)) = some (some z, 1, bytes)) (hz : z.cells.size = 1)
    (v : Value) (xs news : List Value) (m : Nat) (hs : a.eval s = v) (hx : a.eval x = .slice (some ⟨w0.heap.size, 0, none⟩) m m) (hw : w = w0.alloc (.cells news.toArray e)) (hl : news.length = m)
    (hone : ∀ u ∈ news, u.oneCell' = true)
    (hown : Row w0 e v xs) (hm : xs.length + m ≤ maxLen) (hb : (xs.length + m) * bytes ≤ 140737488355328)
    (hK : ∀ a' cap' w', Row w' e (.slice a' (xs.length + m) cap') (xs ++ news) → Kept (foot v) w0 w' → Grew w0.heap.size (foot v) (foot (.slice a' (xs.length + m) cap')) →
      wpList P ops Q rest (a.put o.dst (.slice a' (xs.length + m) cap')) w') :
    wpList P ops Q (o :: rest) a w := by
  subst hw
  have hk0 : Kept (foot v) w0 (w0.alloc (.cells news.toArray e)) := (Kept.refl _ _).alloc _
  refine wp_appS hg s x t hop e z bytes hu T hz v xs news _ m m hs hx hone (World.ownsRow.alloc hown _) (Sees.lit hl) (fun h => by cases h) hm hb fun a' cap' w' h1 h2 h3 => hK a' cap' w' h1 ?_ ?_
  · exact hk0.trans h2 (fun x hx => .inl hx)
  · intro x hx
    rcases h3 x hx with h' | h'
    · exact .inl h'
    · exact .inr (by simp at h'; omega)
end Go.Proofs.Ytdaenajhgbagdaa
namespace Go.Proofs.Ytdaenajhgbagdaa
open Go.RowKit
set_option linter.unusedVariables false
set_option linter.unusedSimpArgs false

/-- Block g begins with the cells xs, and they may be written. -/
def Blk (w : World) (g : Nat) (xs : List Value) : Prop :=
  ∃ (cur : Array Value) (t : TypeId) (fr : Nat × Nat), w.heap[g]? = some (.cells cur t fr) ∧ xs.length ≤ cur.size ∧ (∀ (i : Nat) (u : Value), xs[i]? = some u → cur[i]? = some u) ∧ (∀ i, i < xs.length → ¬ (fr.1 ≤ i ∧ i < fr.2))
theorem Blk.cell {w : World} {g : Nat} {xs : List Value} (h : Blk w g xs) {i : Nat} {u : Value} (hi : xs[i]? = some u) : w.cell? ⟨g, i, none⟩ = some u := by
  obtain ⟨cur, t, fr, hg, hl, hc, hf⟩ := h
  rw [cell_of_row w g i cur t fr hg]
  exact hc i u hi
theorem Blk.free {w : World} {g : Nat} {xs : List Value} (h : Blk w g xs) {i : Nat} (hi : i < xs.length) : w.frozen? ⟨g, i, none⟩ = false := by
  obtain ⟨cur, t, ⟨lo, up⟩, hg, hl, hc, hf⟩ := h
  have := hf i hi
  simp only [World.frozen?, hg]
  simp at this ⊢
  omega
theorem Blk.set {w : World} {g : Nat} {xs : List Value} (h : Blk w g xs) (i : Nat) (u : Value) (hi : i < xs.length) : Blk (w.setCell ⟨g, i, none⟩ u) g (xs.set i u) := by
  obtain ⟨cur, t, fr, hg, hl, hc, hf⟩ := h
  refine ⟨cur.setIfInBounds i u, t, fr, ?_, by simpa using hl, ?_, by simpa using hf⟩
  · rw [setCell_eq_setRow w g i cur t fr u hg]
    exact setRow_heap w g cur _ t _ hg
  · intro j x hj
    rw [List.getElem?_set] at hj
    rw [Array.getElem?_setIfInBounds]
    split at hj
    · rename_i hij
      subst hij
      rw [if_pos rfl, if_pos (by omega)]
      simpa [hi] using hj
    · rename_i hij
      rw [if_neg hij]
      exact hc j x hj
theorem Blk.kept {S : List Nat} {w w' : World} {g : Nat} {xs : List Value} (h : Blk w g xs) (hk : Kept S w w') (hn : g ∉ S) : Blk w' g xs := by
  obtain ⟨cur, t, fr, hg, r⟩ := h
  exact ⟨cur, t, fr, hk.heap hg hn, r⟩
theorem Blk.lt {w : World} {g : Nat} {xs : List Value} (h : Blk w g xs) : g < w.heap.size := by
  obtain ⟨cur, t, fr, hg, r⟩ := h
  exact lt_of_block hg
theorem Blk.sees {w : World} {g : Nat} {xs : List Value} (h : Blk w g xs) : Sees w 1 (some ⟨g, 0, none⟩) xs.length xs :=
  ⟨by omega, fun j u hj => ⟨g, 0, rfl, by rw [Nat.zero_add]; exact h.cell hj⟩⟩
theorem Blk.of_block {w : World} {g : Nat} {xs : List Value} {t : TypeId} (h : w.heap[g]? = some (.cells xs.toArray t (0, 0))) : Blk w g xs :=
  ⟨xs.toArray, t, (0, 0), h, by simp, fun i u hi => by simpa using hi, fun i hi => by simp⟩
theorem Blk.new (w : World) (xs : List Value) (t : TypeId) : Blk (w.alloc (.cells xs.toArray t)) w.heap.size xs := .of_block (heap_alloc_new w _)
theorem Row.blk {w : World} {e : TypeId} {g n cap : Nat} {xs : List Value} (h : Row w e (.slice (some ⟨g, 0, none⟩) n cap) xs) : Blk w g xs := by
  rcases h.2 with ⟨h1, h2⟩ | ⟨g', cap', cur, h', hb, hg, hnc, hcm, hcs, ht⟩
  · cases h1
  · injection h' with h1 h2 h3
    injection h1 with h1
    injection h1 with h1
    subst h1
    rw [Nat.mul_one] at ht
    refine ⟨cur, e, (0, 0), hg, by omega, fun i u hi => ?_, fun i hi => by simp⟩
    have hl := (List.getElem?_eq_some_iff.1 hi).1
    rw [← ht, List.getElem?_take, if_pos hl] at hi
    simpa using hi

theorem Row.empty (w : World) (e : TypeId) : Row (w.alloc (.cells #[] e)) e (.slice (some ⟨w.heap.size, 0, none⟩) 0 0) [] :=
  ⟨by simp, .inr ⟨w.heap.size, 0, #[], rfl, Nat.zero_le _, heap_alloc_new w _, by simp, by simp [maxLen], by simp, by simp⟩⟩
theorem Row.seeA {w : World} {e : TypeId} {a : Option Addr} {n c : Nat} {xs : List Value} (h : Row w e (.slice a n c) xs) : Sees w 1 a n xs := by
  have hl := h.len
  obtain ⟨a', c', hv, -, -, hsee, -⟩ := h.sees
  injection hv with h1 h2 h3
  subst h1
  rw [hl] at hsee
  exact hsee
/-- '[]byte(s)'. -/
theorem bytes_new (w : World) (s : ByteArray) : ∃ cap, (convert 9 109 (.string s)).run Try.prog w = .ok (.slice (some ⟨w.heap.size, 0, none⟩) s.size cap)
    (w.drew.alloc (.cells (bytesRow s cap) 5 ((bytesRow s cap).size, (bytesRow s cap).size + 1))) ∧ s.size ≤ cap :=
  ⟨_, run_bytes_of_string w 9 109 5 s Try.underlying9 Try.underlying109 Try.underlying5, grownCap_ge _ _ _ _⟩
theorem Blk.bytes (w : World) (s : ByteArray) (cap : Nat) (h : s.size ≤ cap) : Blk (w.alloc (.cells (bytesRow s cap) 5 ((bytesRow s cap).size, (bytesRow s cap).size + 1))) w.heap.size (u8s s.data.toList) := by
  have hsz : (bytesRow s cap).size = cap := by
    have : s.data.size = s.size := rfl
    simp [bytesRow]; omega
  have hl : (u8s s.data.toList).length = s.size := by simp [u8s]
  refine ⟨_, _, _, heap_alloc_new w _, by omega, fun i u hi => ?_, fun i hi => by simp only; omega⟩
  have hlt := (List.getElem?_eq_some_iff.1 hi).1
  rw [hl] at hlt
  have hd : i < s.data.size := hlt
  rw [bytesRow_at s cap i hd, ← hi]
  simp [u8s, Array.getElem?_eq_getElem hd]

/-- Cells from place o on are written one by one. -/
theorem run_storeBlk {P : Program} (g o : Nat) : ∀ (vs : List Value) (i : Nat) (xs : List Value) (w : World), Blk w g xs → o + i + vs.length ≤ xs.length → (∀ v ∈ vs, v.oneCell' = true) →
    ∃ w', (storeCells ⟨g, o, none⟩ vs i).run P w = .ok () w' ∧ Blk w' g (xs.take (o + i) ++ vs ++ xs.drop (o + i + vs.length)) ∧ Kept [g] w w'
  | [], i, xs, w, h, _, _ => ⟨w, rfl, by simpa using h, Kept.refl _ _⟩
  | v :: rest, i, xs, w, h, hl, h1 => by
    have hi : o + i < xs.length := by simp at hl; omega
    have hadd : (⟨g, o, none⟩ : Addr).add i = ⟨g, o + i, none⟩ := Addr.add_lit _ _ _
    have hcell := h.cell (List.getElem?_eq_getElem hi)
    have hfree := h.free hi
    have hst : (store ((⟨g, o, none⟩ : Addr).add i) v).run P w = .ok () (w.setCell ⟨g, o + i, none⟩ v) := by
      rw [hadd, run_store P w _ v _ (h1 v (by simp)), hcell]
      simp [hfree]
    obtain ⟨w', hr, hb, hk⟩ := run_storeBlk (P := P) g o rest (i + 1) (xs.set (o + i) v) _ (h.set (o + i) v hi) (by simp at hl ⊢; omega) (fun x hx => h1 x (by simp [hx]))
    refine ⟨w', ?_, ?_, ((Kept.refl _ _).setCell (by simp) _).trans hk (fun x hx => .inl hx)⟩
    · simp only [storeCells, Sem.run_bind, hst, Result.andThen_ok]
      exact hr
    · have e := list_seg_step xs (o + i) v rest (by simp at hl; omega)
      rw [show o + (i + 1) = o + i + 1 by omega, e] at hb
      exact hb
/-- copy of cells that can be seen, into the block from place o on. -/
theorem run_copyBlk {P : Program} (w : World) (dT sT ty elem : TypeId) (g o dLen dCap : Nat) (dp sp : Option Addr) (sLen sCap : Nat) (xs cs : List Value)
    (hu : P.underlying dT = some (.slice elem)) (hs : (P.info? elem).map (·.size) = some 1)
    (h : Blk w g xs) (hn : cs.length = Nat.min sLen dLen) (hpos : 0 < cs.length → dp = some ⟨g, o, none⟩ ∧ ∃ ad, sp = some ad ∧ ∀ j v, cs[j]? = some v → w.cell? (ad.add j) = some v)
    (hfit : o + cs.length ≤ xs.length) (h1 : ∀ v ∈ cs, v.oneCell' = true) :
    ∃ w', (Builtin.copy_ #[dT, sT] ty #[.slice dp dLen dCap, .slice sp sLen sCap]).run P w = .ok (goInt cs.length) w' ∧ Blk w' g (splice xs o cs) ∧ Kept [g] w w' := by
  by_cases h0 : cs.length = 0
  · obtain rfl : cs = [] := List.eq_nil_of_length_eq_zero h0
    exact ⟨w, run_copy_none (P := P) w dT sT ty elem dp sp dLen dCap sLen sCap hu hs (by simpa using hn.symm), by simpa [splice] using h, Kept.refl _ _⟩
  · obtain ⟨rfl, ad, rfl, hsrc⟩ := hpos (by omega)
    have hl := run_loadCells_list (P := P) w ad cs hsrc
    obtain ⟨w', hst, hb, hk⟩ := run_storeBlk (P := P) g o cs 0 xs w h (by simpa using hfit) h1
    refine ⟨w', ?_, by simpa [splice] using hb, hk⟩
    cases hq : P.info? elem with
    | none => simp [hq] at hs
    | some i =>
      have hi : i.size = 1 := by simpa [hq] using hs
      simp [Builtin.copy_, run_underlying hu, Builtin.lenOf, Builtin.firstCells, sizeOf, typeInfo, hq, hi, ← hn, hl, hst]
/-- The like, as one operation of a region that draws its order. -/
theorem step_copyBlk {P : Program} {ops : Array Oper} {o : Oper} {a : Act} {w : World} {K : Act → World → Prop} {Q : Exit → Act → World → Prop} {E : Prop} (hgd : o.guard = none) (d s : Operand) (dT sT : TypeId)
    (ho : o.op = .call { callee := .builtin .copy, args := #[d, s], argTypes := #[dT, sT] }) (elem : TypeId) (hu : P.underlying dT = some (.slice elem)) (hsz : (P.info? elem).map (·.size) = some 1)
    (dp sp : Option Addr) (dLen dCap sLen sCap : Nat) (hd : a.eval d = .slice dp dLen dCap) (hs : a.eval s = .slice sp sLen sCap)
    (g off : Nat) (xs cs : List Value) (hb : Blk w g xs) (hn : cs.length = Nat.min sLen dLen)
    (hpos : 0 < cs.length → dp = some ⟨g, off, none⟩ ∧ ∃ ad, sp = some ad ∧ ∀ j v, cs[j]? = some v → w.cell? (ad.add j) = some v)
    (hfit : off + cs.length ≤ xs.length) (h1 : ∀ v ∈ cs, v.oneCell' = true)
    (h : ∀ w', Blk w' g (splice xs off cs) → Kept [g] w w' → K (a.put o.dst (goInt cs.length)) w') :
    if Region.wanted o (yielded ops a.tmps) = true then Oper.wp P o a w K Q else E := by
  have hw : Region.wanted o (yielded ops a.tmps) = true := by simp [Region.wanted, hgd]
  rw [if_pos hw]
  obtain ⟨w', hrun, hb', hk⟩ := run_copyBlk (P := P) w dT sT o.type elem g off dLen dCap dp sp sLen sCap xs cs hu hsz hb hn hpos hfit h1
  unfold Oper.wp
  simp [execOp, ho, resolve, invoke, builtin, hd, hs, hrun, Result.andThen]
  exact h w' hb' hk
theorem splice_moved {α : Type} [Inhabited α] (f : α → Value) (l : List α) (p : Nat) (h : p < l.length) : (splice (l.map f) 1 ((l.map f).take p)).set 0 (f (l.getD p default)) = (K.turned l p).map f := by
  rw [K.turned_eq]
  apply List.ext_getElem?
  intro i
  rw [List.getElem?_set]
  have hsl : (splice (l.map f) 1 ((l.map f).take p)).length = l.length := by
    rw [length_splice _ _ _ (by simp; omega)]; simp
  cases i with
  | zero => rw [if_pos rfl, if_pos (by rw [hsl]; omega)]; rfl
  | succ i =>
    rw [if_neg (by omega)]
    clear hsl
    unfold splice
    rw [List.map_cons, List.getElem?_cons_succ, List.map_append, List.getElem?_append_right (by simp; omega), ← List.map_take, ← List.map_drop]
    have e1 : (List.take 1 (l.map f)).length = 1 := by simp; omega
    have e2 : ((l.take p).map f).length = p := by simp; omega
    rw [e1, e2, Nat.add_sub_cancel, Nat.add_comm 1 p]
end Go.Proofs.Ytdaenajhgbagdaa
namespace Go.Proofs.Ytdaenajhgbagdaa
open Go.RowKit
set_option linter.unusedVariables false
set_option linter.unusedSimpArgs false

/-- Block g is the array xs. -/
def Arr (w : World) (g : Nat) (t : TypeId) (xs : List Value) : Prop := w.heap[g]? = some (.cells xs.toArray t (0, 0))
theorem Arr.new (w : World) (xs : List Value) (t : TypeId) : Arr (w.alloc (.cells xs.toArray t)) w.heap.size t xs := heap_alloc_new w _
theorem Arr.cell {w : World} {g : Nat} {t : TypeId} {xs : List Value} (h : Arr w g t xs) {i : Nat} {u : Value} (hi : xs[i]? = some u) : w.cell? ⟨g, i, none⟩ = some u := by
  rw [cell_of_row w g i _ t _ h]; simpa using hi
theorem Arr.free {w : World} {g : Nat} {t : TypeId} {xs : List Value} (h : Arr w g t xs) (i : Nat) : w.frozen? ⟨g, i, none⟩ = false := frozen_of_row w g i _ t h
theorem Arr.set {w : World} {g : Nat} {t : TypeId} {xs : List Value} (h : Arr w g t xs) (i : Nat) (u : Value) : Arr (w.setCell ⟨g, i, none⟩ u) g t (xs.set i u) := by
  have := heap_setCell_same w g i _ t u h
  unfold Arr
  rw [this, List.setIfInBounds_toArray]
theorem Arr.kept {S : List Nat} {w w' : World} {g : Nat} {t : TypeId} {xs : List Value} (h : Arr w g t xs) (hk : Kept S w w') (hn : g ∉ S) : Arr w' g t xs := hk.heap h hn
theorem Arr.lt {w : World} {g : Nat} {t : TypeId} {xs : List Value} (h : Arr w g t xs) : g < w.heap.size := lt_of_block h
theorem Arr.blk {w : World} {g : Nat} {t : TypeId} {xs : List Value} (h : Arr w g t xs) : Blk w g xs := .of_block h
/-- 'a[i]' of an array by value, elements of one cell. -/
theorem run_index_arr {P : Program} (t e : TypeId) (n : Nat) (xs : List Value) (k : IntKind) (i : Nat) (u : Value) (w : World) (h : P.underlying t = some (.array n e)) (hs : (P.info? e).map (·.size) = some 1)
    (ha : (isAgg e).run P w = .ok false w) (hl : xs.length = n) (hi : xs[i]? = some u) :
    (Instr.index t (.agg xs.toArray) (.int k i)).run P w = .ok u w := by
  have hlt := (List.getElem?_eq_some_iff.1 hi).1
  cases hq : P.info? e with
  | none => simp [hq] at hs
  | some j =>
    have hj : j.size = 1 := by simpa [hq] using hs
    have hin : i < n := by omega
    simp [Instr.index, run_underlying h, asIntOf, sizeOf, typeInfo, hq, hj, go_sem, ha, hi, hin]
end Go.Proofs.Ytdaenajhgbagdaa
namespace Go.Proofs.Ytdaenajhgbagdaa
open Go.RowKit
set_option linter.unusedVariables false
set_option linter.unusedSimpArgs false

/-- What can be seen stays, if only new blocks turn. -/
theorem Sees.keptF {S : List Nat} {w w' : World} {size : Nat} {a : Option Addr} {n : Nat} {xs : List Value} (h : Sees w size a n xs) (hk : Kept S w w') (hS : Fresh w.heap.size S) : Sees w' size a n xs := by
  refine ⟨h.1, fun j u hu => ?_⟩
  obtain ⟨b, off, he, hc⟩ := h.2 j u hu
  refine ⟨b, off, he, hk.cellOf hc fun hm => ?_⟩
  have h1 := hS b hm
  have h2 : b < w.heap.size := World.block_lt_of_cell? w _ hc
  omega
/-- What can be seen stays, if other blocks than where its cells lie turn. -/
theorem Sees.keptB {S : List Nat} {w w' : World} {size : Nat} {a : Option Addr} {n : Nat} {xs : List Value} (h : Sees w size a n xs) (hk : Kept S w w') (hS : 0 < xs.length → Apart (footA a) S) : Sees w' size a n xs := by
  rcases Nat.eq_zero_or_pos xs.length with h0 | h0
  · exact ⟨h.1, fun j u hu => by have := (List.getElem?_eq_some_iff.1 hu).1; omega⟩
  · exact h.kept hk (hS h0)
/-- The slice values vs show the rows. -/
def RowsM (w : World) (vs : List Value) (rows : List (List Value)) : Prop :=
  vs.length = rows.length ∧ ∀ (i : Nat) (u : Value) (r : List Value), vs[i]? = some u → rows[i]? = some r → ∃ b c, u = .slice b r.length c ∧ Sees w 1 b r.length r ∧ r.length ≤ c ∧ c ≤ maxLen
/-- The slice (a, n) of slices shows the rows. -/
def SeesM (w : World) (a : Option Addr) (n : Nat) (rows : List (List Value)) : Prop := ∃ vs, Sees w 1 a n vs ∧ RowsM w vs rows
theorem RowsM.keptF {S : List Nat} {w w' : World} {vs : List Value} {rows : List (List Value)} (h : RowsM w vs rows) (hk : Kept S w w') (hS : Fresh w.heap.size S) : RowsM w' vs rows :=
  ⟨h.1, fun i u r h1 h2 => by obtain ⟨b, c, h3, h4, h5⟩ := h.2 i u r h1 h2; exact ⟨b, c, h3, h4.keptF hk hS, h5⟩⟩
theorem RowsM.kept0 {w w' : World} {vs : List Value} {rows : List (List Value)} (h : RowsM w vs rows) (hk : Kept [] w w') : RowsM w' vs rows := h.keptF hk (by simp [Fresh])
theorem SeesM.keptF {S : List Nat} {w w' : World} {a : Option Addr} {n : Nat} {rows : List (List Value)} (h : SeesM w a n rows) (hk : Kept S w w') (hS : Fresh w.heap.size S) : SeesM w' a n rows := by
  obtain ⟨vs, h1, h2⟩ := h
  exact ⟨vs, h1.keptF hk hS, h2.keptF hk hS⟩
theorem SeesM.kept0 {w w' : World} {a : Option Addr} {n : Nat} {rows : List (List Value)} (h : SeesM w a n rows) (hk : Kept [] w w') : SeesM w' a n rows := h.keptF hk (by simp [Fresh])
theorem SeesM.len {w : World} {a : Option Addr} {n : Nat} {rows : List (List Value)} (h : SeesM w a n rows) : rows.length = n := by
  obtain ⟨vs, h1, h2⟩ := h
  have := h1.1; have := h2.1; omega
/-- An element: its cell, and what it shows. -/
theorem SeesM.at {w : World} {a : Option Addr} {n : Nat} {rows : List (List Value)} (h : SeesM w a n rows) (i : Nat) (r : List Value) (hi : rows[i]? = some r) :
    ∃ b off ar c, a = some ⟨b, off, none⟩ ∧ w.cell? ⟨b, off + i, none⟩ = some (.slice ar r.length c) ∧ Sees w 1 ar r.length r ∧ r.length ≤ c ∧ c ≤ maxLen := by
  obtain ⟨vs, h1, h2⟩ := h
  have hl := (List.getElem?_eq_some_iff.1 hi).1
  obtain ⟨u, hu⟩ : ∃ u, vs[i]? = some u := ⟨_, List.getElem?_eq_getElem (by rw [h2.1]; exact hl)⟩
  obtain ⟨b, off, ha, hc⟩ := h1.2 i u hu
  obtain ⟨ar, c, rfl, h3, h4, h5⟩ := h2.2 i u r hu hi
  exact ⟨b, off, ar, c, ha, hc, h3, h4, h5⟩
end Go.Proofs.Ytdaenajhgbagdaa
