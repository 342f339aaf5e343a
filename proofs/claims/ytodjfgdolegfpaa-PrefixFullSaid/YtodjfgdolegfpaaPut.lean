import Derived.Test.YtodjfgdolegfpaaProg
import Derived.Test.YtodjfgdolegfpaaLib
import Derived.Test.YtodjfgdolegfpaaPlainA
import Derived.BigQuiet
import Derived.Outline
import Derived.Deep.LoopGhost
import Derived.Deep.DeepCutAuto
import Derived.Laws.BitsAllLaws
namespace Go.Proofs.Ytodjfgdolegfpaa
open Go.RowKit

theorem Try.infoU8 : (Try.prog.info? 5).map (fun i => (i.zero, i.size, i.bytes)) = some (some (.int .u8 0), 1, 1) := by kernel_rfl
/-- Bytes as values. -/
def u8s (l : List UInt8) : List Value := l.map fun b => .int .u8 (b.toNat : Int)

/-- A writer at block b: its slice o owns the bytes of the bits bs. -/
def Wr (w : World) (b : Nat) (o : Value) (bs : List Bool) : Prop :=
  w.heap[b]? = some (.cells #[o, .int .i64 bs.length] 84 (0, 0)) ∧ Row w 5 o (u8s (K.pack bs)) ∧ b ∉ foot o

/-- In Put's loop: j bits are put. -/
def PutI (w0 : World) (b v n : Nat) (o0 : Value) (bs : List Bool) (k : Nat) (i : Value) (w : World) : Prop :=
  ∃ j o bj, j ≤ n ∧ k = n - j ∧ i = .int .i64 ((n : Int) - 1 - j) ∧ bj = bs ++ (K.low v n).take j ∧ Wr w b o bj ∧ Kept (b :: foot o0) w0 w ∧ (∀ x ∈ foot o, x ∈ foot o0 ∨ w0.heap.size ≤ x)

set_option maxHeartbeats 400000 in
theorem put_ok (b : Nat) (v n : Nat) (o0 : Value) (bs : List Bool) (w : World) (hn : n ≤ 64) (hv : v < 2 ^ n) (hm : bs.length ≤ 1000000000000) (hW : Wr w b o0 bs) :
    Calls Try.prog 29 #[.pointer (some ⟨b, 0, none⟩), .int .u64 v, .int .i64 n] w fun e w' => e = .returned (.int .i64 0) ∧
      ∃ o, Wr w' b o (bs ++ K.low v n) ∧ Kept (b :: foot o0) w w' ∧ (∀ x ∈ foot o, x ∈ foot o0 ∨ w.heap.size ≤ x) := by
  have g1 : decide ((n : Int) < 0) = false := by simp
  have g2 : decide (64 < (n : Int)) = false := by simp; omega
  have hI : PutI w b v n o0 bs n (.int .i64 ((n : Int) - 1)) w := ⟨0, o0, bs, by omega, by omega, by simp, by simp, hW, Kept.refl _ _, fun x hx => .inl hx⟩
  have HW := Lib.hid hW
  clear hW
  have Hv := Lib.hid hv
  clear hv
  have g5 : (decide ((n : Int) < 64) && ((v / 2 ^ n : Int) != 0)) = false := by
    have := Nat.div_eq_of_lt Hv.out
    have : ((v : Int) / 2 ^ n) = 0 := by exact_mod_cast this
    simp [this]
  have g4 : ((v / 2 ^ n : Int) != 0) = false := by
    have := Nat.div_eq_of_lt Hv.out
    have : ((v : Int) / 2 ^ n) = 0 := by exact_mod_cast this
    simp [this]
  clear g5
  go_enter Try.func29, Try.ntmps29
  go_upto_region 3 with (fail)
  go_cut [26] (fun s26 wc => s26 = .bool false ∧ w = wc)
  case first =>
    rcases (show decide ((n : Int) < 64) = true ∨ decide ((n : Int) < 64) = false by cases decide ((n : Int) < 64) <;> simp) with g3 | g3
    all_goals
      go_wp2
      go_meet
      exact ⟨rfl, rfl⟩
  case rest =>
    obtain ⟨rfl, rfl⟩ := hcut
    go_wp2
    go_loopg [7] n (fun k i wr => PutI w b v n o0 bs k i wr)
    case atStart => exact hI
    case round =>
      obtain ⟨j, o, bj, hj, hk, rfl, hbj, ⟨hb, hrow, hne⟩, hkept, hfoot⟩ := hrel
      by_cases hlt : j < n
      · have hq : ∃ q, q = bj.length := ⟨_, rfl⟩
        obtain ⟨q, hq⟩ := hq
        have hql : q ≤ 1000000000064 := by rw [hq, hbj, List.length_append, List.length_take, K.low_length]; omega
        have Hbj := Lib.hid hbj
        clear hbj
        rw [← hq] at hb
        have c0 : wr.cell? ⟨b, 0, none⟩ = some o := cell_of_row wr b 0 _ _ _ hb
        have c1 : wr.cell? ⟨b, 1, none⟩ = some (.int .i64 q) := cell_of_row wr b 1 _ _ _ hb
        have f0 := frozen_of_row wr b 0 _ _ hb
        have f1 := frozen_of_row wr b 1 _ _ hb
        have Hq := Lib.hid hq
        clear hq
        have Hk := Lib.hid hk
        clear hk
        go_upto_if 38 with (fail)
        go_cut [] (fun wc => ∃ o1, wc.heap[b]? = some (.cells #[o1, .int .i64 q] 84 (0, 0)) ∧ Row wc 5 o1 (u8s (K.pack (bj ++ [false]))) ∧ b ∉ foot o1 ∧ Kept (b :: foot o0) w wc ∧ (∀ x ∈ foot o1, x ∈ foot o0 ∨ w.heap.size ≤ x))
        case first =>
          by_cases h8 : q % 8 = 0
          · have t8 : ((q : Int) % 8 == 0) = true := by simp; omega
            have L0 : (u8s (K.pack bj)).length ≤ 1000000000064 := by simp only [u8s, List.length_map, K.pack_length]; rw [← Hq.out]; omega
            have L1 : (u8s (K.pack bj)).length + 1 ≤ maxLen := by simp only [maxLen]; omega
            have L2 : ((u8s (K.pack bj)).length + 1) * 1 ≤ 140737488355328 := by omega
            have hrow2 := hrow
            generalize hxs : u8s (K.pack bj) = xs at hrow L0 L1 L2
            have Hxs := Lib.hid hxs
            clear hxs
            go_wp2_with ((at_builtin; go_must (refine wp_app1 wr rfl _ _ 82 rfl 5 (.int .u8 0) 1 Try.underlying82 Try.infoU8 rfl o (.int .u8 0) xs rfl rfl rfl rfl hrow L1 L2 ?_); intro g cap w1 hrow1 hk1 hf1; have d0 := hk1.cellOf c0 hne; have d1 := hk1.cellOf c1 hne; have e0 := (hk1.frozenOf c0 hne).trans f0; have e1 := (hk1.frozenOf c1 hne).trans f1; have hb1 := hk1.heap hb hne))
            go_meet
            have hbg : ¬ b = g := by
              rintro rfl
              rcases hf1 with h | h
              · exact hne h
              · have := lt_of_block hb; omega
            refine ⟨_, heap_setCell_same _ _ _ _ _ _ hb1, ?_, by simpa [foot, Value.ownBlock] using hbg, ?_, ?_⟩
            · have e : u8s (K.pack (bj ++ [false])) = xs ++ [.int .u8 0] := by
                rw [K.pack_false, ← Hq.out, if_pos h8, ← Hxs.out]; simp [u8s]
              rw [e]
              exact hrow1.setCell (by simpa [foot, Value.ownBlock] using hbg) _
            · refine Kept.setCell (hkept.trans hk1 fun x hx => ?_) (by simp) _
              rcases hfoot x hx with h | h
              · exact .inl (by simp [h])
              · exact .inr h
            · intro x hx
              obtain rfl : x = g := by simpa [foot, Value.ownBlock] using hx
              rcases hf1 with h | h
              · exact hfoot _ h
              · exact .inr (Nat.le_trans hkept.size h)
          · have t8 : ((q : Int) % 8 == 0) = false := by simp; omega
            go_wp2_with (fail)
            go_meet
            refine ⟨o, hb, ?_, hne, hkept, hfoot⟩
            rw [K.pack_false, ← Hq.out, if_neg h8]
            exact hrow
        case rest =>
          obtain ⟨o1, hb, hrow, hne, hkept, hfoot⟩ := hcut
          have c0 : wc.cell? ⟨b, 0, none⟩ = some o1 := cell_of_row wc b 0 _ _ _ hb
          have c1 : wc.cell? ⟨b, 1, none⟩ = some (.int .i64 q) := cell_of_row wc b 1 _ _ _ hb
          have f0 := frozen_of_row wc b 0 _ _ hb
          have f1 := frozen_of_row wc b 1 _ _ hb
          have hbt : bits BinOp.and IntKind.u64 ((v : Int) / 2 ^ (n - 1 - j)) 1 = ((v.testBit (n - 1 - j)).toNat : Int) := by
            have e : ((v : Int) / 2 ^ (n - 1 - j)) = ((v / 2 ^ (n - 1 - j) : Nat) : Int) := by norm_cast
            rw [e, show (1 : Int) = ((1 : Nat) : Int) from rfl, u64_and_nat _ _ (by have := Nat.div_le_self v (2 ^ (n - 1 - j)); have := Hv.out; have := Nat.pow_le_pow_right (n := 2) (by omega) hn; omega) (by omega), nat_mask1, Nat.testBit_eq_decide_div_mod_eq]
            have := Nat.mod_lt (v / 2 ^ (n - 1 - j)) (show 0 < 2 by decide)
            rcases (show v / 2 ^ (n - 1 - j) % 2 = 0 ∨ v / 2 ^ (n - 1 - j) % 2 = 1 by omega) with h | h <;> rw [h] <;> rfl
          have hln : (bs ++ (K.low v n).take (j + 1)).length = q + 1 := by
            have := Hq.out
            rw [Hbj.out] at this
            rw [List.length_append, List.length_take, K.low_length] at *
            omega
          have htk : bj ++ [v.testBit (n - 1 - j)] = bs ++ (K.low v n).take (j + 1) := by rw [Hbj.out, K.low_take v n j hlt, List.append_assoc]
          have HL := Lib.hid hln
          clear hln
          have HT := Lib.hid htk
          clear htk
          by_cases hbit : v.testBit (n - 1 - j) = true
          · have tb : (bits BinOp.and IntKind.u64 ((v : Int) / 2 ^ (n - 1 - j)) 1 == 1) = true := by rw [hbt, hbit]; rfl
            clear hbt
            have hlen : (u8s (K.pack (bj ++ [false]))).length = (q + 8) / 8 := by
              simp only [u8s, List.length_map, K.pack_length, List.length_append, List.length_cons, List.length_nil]; have := Hq.out; omega
            obtain ⟨g, cap, rfl, hcap, hcm, hcells, hfr, hst⟩ := hrow.open (by omega)
            have hbyte : wc.cell? ⟨g, q / 8, none⟩ = some (.int .u8 (K.byteN bj (q / 8) : Nat)) := by
              refine hcells _ _ ?_
              have e := K.pack_getElem (bj ++ [false]) (q / 8) (by rw [List.length_append, ← Hq.out]; simp; omega)
              rw [K.byteN_false] at e
              have hlt := K.byteN_lt bj (q / 8)
              simp only [u8s, List.getElem?_map, e, Option.map_some]
              simp [Nat.mod_eq_of_lt hlt]
            have hB := K.byteN_lt bj (q / 8)
            have hPT := K.pack_true bj
            rw [← Hq.out] at hPT
            have hlen2 : (q : Int) / 8 < ((u8s (K.pack (bj ++ [false]))).length : Int) := by omega
            generalize K.byteN bj (q / 8) = x at hbyte hB hPT
            have HP := Lib.hid hPT
            clear hPT
            clear hcells
            have HST := Lib.hid hst
            clear hst
            have HLE := Lib.hid hlen
            clear hlen
            have hfg := hfr (q / 8)
            clear hfr
            have hgb : ¬ g = b := by rintro rfl; exact hne (by simp [foot, Value.ownBlock])
            have w1 : IntKind.i64.wrap ((q : Int) / 8) = (q : Int) / 8 := by exact IntWalk.i64_in _ (by omega)
            have w2 : (0 : Int) ≤ (q : Int) / 8 := by omega
            have w3 : ((q : Int) / 8).toNat = q / 8 := by omega
            go_wp2
            go_region
            all_goals
              go_wp2
              go_roundg (n - (j + 1))
              case measure => have := Hk.out; omega
              case rel =>
                have hset : K.pack (bj ++ [true]) = (K.pack (bj ++ [false])).set (q / 8) (UInt8.ofNat (x ||| (128 / 2 ^ (q % 8)))) := HP.out
                have hor : (bits BinOp.or IntKind.u8 (x : Int) (128 / 2 ^ (q % 8))) = ((x ||| (128 / 2 ^ (q % 8)) : Nat) : Int) := by
                  have e : ((128 : Int) / 2 ^ (q % 8)) = ((128 / 2 ^ (q % 8) : Nat) : Int) := by norm_cast
                  rw [e, u8_or_nat _ _ hB (by have := Nat.div_le_self 128 (2 ^ (q % 8)); omega)]
                have hor8 : x ||| (128 / 2 ^ (q % 8)) < 256 := Nat.or_lt_two_pow (n := 8) hB (by have := Nat.div_le_self 128 (2 ^ (q % 8)); omega)
                refine ⟨j + 1, _, _, by omega, rfl, by go_num, rfl, ⟨?_, ?_, hne⟩, ?_, hfoot⟩
                · rw [HL.out]
                  exact heap_setCell_same _ _ _ _ _ _ ((heap_setCell_other _ _ _ _ (fun h => hgb h.symm)).trans hb)
                · rw [← HT.out, hbit, hset, hor]
                  have e : u8s ((K.pack (bj ++ [false])).set (q / 8) (UInt8.ofNat (x ||| (128 / 2 ^ (q % 8))))) = (u8s (K.pack (bj ++ [false]))).set (q / 8) (.int .u8 ((x ||| (128 / 2 ^ (q % 8)) : Nat) : Int)) := by
                    have e8 : (UInt8.ofNat (x ||| (128 / 2 ^ (q % 8)))).toNat = x ||| (128 / 2 ^ (q % 8)) := by rw [UInt8.toNat_ofNat']; exact Nat.mod_eq_of_lt hor8
                    simp only [u8s, List.map_set, e8]
                  rw [e]
                  have := HST.out (q / 8) (.int .u8 ((x ||| (128 / 2 ^ (q % 8)) : Nat) : Int))
                  exact (Row.setCell (p := ⟨b, 1, none⟩) (by simpa [Row] using this) (by simp only [foot, Value.ownBlock, Option.toList_some, List.mem_singleton]; exact fun h => hgb h.symm) _).drew
                · exact ((hkept.setCell (by rcases hfoot g (by simp [foot, Value.ownBlock]) with h | h; exact .inl (by simp [h]); exact .inr h) _).setCell (by simp) _).drew
          · have tb : (bits BinOp.and IntKind.u64 ((v : Int) / 2 ^ (n - 1 - j)) 1 == 1) = false := by rw [hbt]; simp at hbit; rw [hbit]; rfl
            go_wp2
            go_roundg (n - (j + 1))
            case measure => have := Hk.out; omega
            case rel =>
              simp only [Bool.not_eq_true] at hbit
              refine ⟨j + 1, _, _, by omega, rfl, by go_num, rfl, ⟨?_, ?_, hne⟩, hkept.setCell (by simp) _, hfoot⟩
              · rw [HL.out]
                exact heap_setCell_same _ _ _ _ _ _ hb
              · rw [← HT.out, hbit]
                exact hrow.setCell hne _
      · obtain rfl : j = n := by omega
        go_wp2
        go_ret
        refine ⟨rfl, o, ?_, hkept, hfoot⟩
        have e : (K.low v j).take j = K.low v j := List.take_of_length_le (by rw [K.low_length]; omega)
        rw [← e, ← hbj]
        exact ⟨hb, hrow, hne⟩
end Go.Proofs.Ytodjfgdolegfpaa
