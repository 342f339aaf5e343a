/-
  The walks of bwt's step and its function next. The walk of bwt.Back. The walks of kistref05's Places and Back.
-/
import Derived.Test.YtaeppgooenbfiaaRotA
import Derived.Test.YtaeppgooenbfiaaPlainB1
import Derived.StillTailTactics
import Derived.Test.YtaeppgooenbfiaaRotD
import Derived.Deep.WholeRow
namespace Go.Proofs.Ytaeppgooenbfiaa
open Go.RowKit
set_option linter.unusedVariables false
set_option linter.unusedSimpArgs false

theorem next_ok (ob h n c p : Nat) (P : List Nat) (w : World) (hc : w.cell? ⟨ob, 0, none⟩ = some (.slice (some ⟨h, 0, none⟩) n c)) (hS : Sees w 1 (some ⟨h, 0, none⟩) n (natVals P)) (hl : P.length = n) (hp : p < n) (hn : n ≤ 1000000000) :
    Calls Try.prog 36 #[.int .i64 p, .pointer (some ⟨ob, 0, none⟩)] w fun e w' => e = .returned (.int .i64 (P.getD p 0 : Nat)) ∧ w = w' := by
  have hx : P[p]? = some (P.getD p 0) := by rw [List.getD, List.getElem?_eq_getElem (by omega)]; rfl
  have c0 := hS.natC hx
  rw [Nat.zero_add] at c0
  generalize P.getD p 0 = x at *
  have hpn : (p : Int) < (n : Int) := by omega
  clear hS hx hl
  go_enter Try.func36, Try.ntmps36
  go_wp2_with fail
  go_ret
  exact ⟨rfl, rfl⟩

/-- The function next, as a value. -/
def nextV (ob : Nat) : Value := .func (.func 36) #[] #[.pointer (some ⟨ob, 0, none⟩)]

theorem step_ok (g ob h n c p : Nat) (P : List Nat) (w : World) (hA : Arr w g 61 [nextV ob, .int .i64 p]) (hc : w.cell? ⟨ob, 0, none⟩ = some (.slice (some ⟨h, 0, none⟩) n c)) (hS : Sees w 1 (some ⟨h, 0, none⟩) n (natVals P)) (hl : P.length = n) (hp : p < n) (hn : n ≤ 1000000000) :
    Calls Try.prog 37 #[.pointer (some ⟨g, 0, none⟩)] w fun e w' => e = .returned (.int .i64 (P.getD p 0 : Nat)) ∧ Arr w' g 61 [nextV ob, .int .i64 (P.getD p 0 : Nat)] ∧ Kept [g] w w' := by
  have a0 := hA.cell (i := 0) rfl
  have a1 := hA.cell (i := 1) rfl
  have f1 := hA.free 1
  have hA2 : Arr (w.drew.setCell ⟨g, 1, none⟩ (.int .i64 (P.getD p 0 : Nat))) g _ _ := Arr.set (w := w.drew) hA 1 (.int .i64 (P.getD p 0 : Nat))
  have HA2 := Lib.hid hA2
  have HS := Lib.hid hS
  obtain ⟨x, hx⟩ : ∃ x, P.getD p 0 = x := ⟨_, rfl⟩
  have hnx := next_ok ob h n c p P w.drew hc hS hl hp hn
  rw [hx] at hnx HA2 ⊢
  have hnx2 : Calls Try.prog 36 #[.int .i64 p, .pointer (some ⟨ob, 0, none⟩)] w.drew fun e w' => e = .returned (.int .i64 x) ∧ w' = w.drew := hnx.mono (fun _ _ h => ⟨h.1, h.2.symm⟩)
  have HN := Lib.hid hnx2
  clear hA hA2 hS hl hx hnx hnx2 hc
  unfold nextV at a0
  go_enter Try.func37, Try.ntmps37
  go_wp2_with fail
  go_still_tail 12, (by kernel_rfl)
  still_call HN.out
  repeat still_step
  refine wpStill_nil ?_
  change wpList _ _ _ _ _ w.drew
  clear HN
  go_wp2_with fail
  go_wp2_with fail
  go_ret
  exact ⟨rfl, HA2.out, (Kept.refl _ _).drew.setCell (p := ⟨g, 1, none⟩) (.inl (by simp)) _⟩
end Go.Proofs.Ytaeppgooenbfiaa
namespace Go.Proofs.Ytaeppgooenbfiaa
open Go.RowKit
set_option linter.unusedVariables false
set_option linter.unusedSimpArgs false

theorem Try.zInts (w : World) : (zeroValue 58).run Try.prog w = .ok (.agg (Array.replicate 256 (.int .i64 0))) w :=
  (zero_of_info (P := Try.prog) (t := 58) (v := .agg (Array.replicate 256 (.int .i64 0))) (n := 256) (by kernel_rfl)).1 w
theorem Try.aggInt (w : World) : (isAgg 3).run Try.prog w = .ok false w := by kernel_rfl
theorem Try.sizeInt : (Try.prog.info? 3).map (·.size) = some 1 := by kernel_rfl
theorem Try.sizeInts : (Try.prog.info? 58).map (·.size) = some 256 := by kernel_rfl
theorem cnt_nil (l : List Nat) : (Array.replicate 256 (Value.int .i64 0)) = (natVals (K.cntA l 0)).toArray := by
  rw [K.cntA_zero, natVals, List.map_replicate, List.toArray_replicate]
  rfl
theorem ints_index (l : List Nat) (hl : l.length = 256) (i x : Nat) (h : l[i]? = some x) (w : World) : (Instr.index 58 (.agg (natVals l).toArray) (.int .i64 i)).run Try.prog w = .ok (.int .i64 (x : Nat)) w :=
  run_index_arr 58 3 256 (natVals l) .i64 i _ w Try.underlying58 Try.sizeInt (Try.aggInt w) (by rw [natVals_length, hl]) (nat_get _ _ _ h)
theorem Arr.setNat {w : World} {g : Nat} {t : TypeId} {l : List Nat} (h : Arr w g t (natVals l)) (i x : Nat) : Arr (w.setCell ⟨g, i, none⟩ (.int .i64 (x : Nat))) g t (natVals (l.set i x)) := by
  have := h.set i (.int .i64 (x : Nat))
  rwa [nat_set] at this
theorem first_get (s : ByteArray) (i : Nat) (h : i < s.size) : (K.firstR s.data.toList)[i]? = some (s[i]'h).toNat := by
  have hl := byte_len s
  have := byte_get s i h
  rw [List.getD, List.getElem?_eq_getElem (by omega)] at this
  rw [K.firstR, List.getElem?_map, List.getElem?_eq_getElem (by omega)]
  simp only [Option.getD_some] at this
  rw [this]; rfl
theorem first_len (s : ByteArray) : (K.firstR s.data.toList).length = s.size := by rw [K.firstR, List.length_map, byte_len]
theorem first_lt (l : List UInt8) : ∀ x ∈ K.firstR l, x < 256 := by
  intro x hx
  simp only [K.firstR, List.mem_map] at hx
  obtain ⟨b, -, rfl⟩ := hx
  exact UInt8.toNat_lt b
theorem cEq_le (l : List Nat) (k b : Nat) : K.cEq l k b ≤ l.length := by
  unfold K.cEq
  exact Nat.le_trans List.count_le_length (by rw [List.length_take]; omega)
/-- Bytes as UInt8. -/
def toB (l : List Nat) : List UInt8 := l.map UInt8.ofNat
theorem toB_snoc (l : List Nat) (x : Nat) : toB (l ++ [x]) = toB l ++ [UInt8.ofNat x] := by simp [toB]

theorem u8_next (A : List UInt8) (n i : Nat) (x : UInt8) (hA : A.length = i) (hi : i < n) : (u8s (A ++ List.replicate (n - i) 0)).set i (.int .u8 (x.toNat : Nat)) = u8s (A ++ [x] ++ List.replicate (n - (i + 1)) 0) := by
  obtain ⟨d, hd⟩ : ∃ d, n - i = d + 1 := ⟨n - i - 1, by omega⟩
  rw [hd, show n - (i + 1) = d by omega]
  subst hA
  simp only [u8s, List.map_append, List.map_replicate, List.replicate_succ, List.map_cons, List.map_nil, List.append_assoc]
  rw [List.set_append_right _ _ (by simp), List.length_map, Nat.sub_self]
  rfl
theorem readB_length (l P : List Nat) : ∀ k p, (K.readB l P k p).length = k
  | 0, p => rfl
  | k + 1, p => by rw [K.readB, List.length_cons, readB_length l P k]
theorem store_next (ob : Nat) (W : World) : (store ⟨W.heap.size, 0, none⟩ (.func (.func 36) #[] #[.pointer (some ⟨ob, 0, none⟩)])).run Try.prog (W.alloc (.cells #[.nilFunc, .int .i64 0] 61)) =
    .ok () ((W.alloc (.cells #[.nilFunc, .int .i64 0] 61)).setCell ⟨W.heap.size, 0, none⟩ (.func (.func 36) #[] #[.pointer (some ⟨ob, 0, none⟩)])) := by
  have hA := Arr.new W [.nilFunc, .int .i64 0] 61
  have c0 := hA.cell (i := 0) rfl
  have f0 := hA.free 0
  rw [run_store _ _ _ _ _ (by simp [Value.oneCell'])]
  simp only [List.toArray] at c0 f0
  rw [show (W.alloc (.cells #[.nilFunc, .int .i64 0] 61)).cell? ⟨W.heap.size, 0, none⟩ = some .nilFunc from c0]
  simp only []
  rw [show (W.alloc (.cells #[.nilFunc, .int .i64 0] 61)).frozen? ⟨W.heap.size, 0, none⟩ = false from f0]
  simp

set_option maxRecDepth 100000 in
set_option maxHeartbeats 4000000 in
theorem back_in (s : ByteArray) (row : Nat) (w : World) (hs : s.size ≤ 262144) (hrow : row < s.size) :
    Calls Try.prog 27 #[.string s, .int .i64 row] w (TextPost (toB (K.readB (K.firstR s.data.toList) (K.stab (K.firstR s.data.toList) 256) s.size row), 0) w) := by
  obtain ⟨l, hl⟩ : ∃ l, K.firstR s.data.toList = l := ⟨_, rfl⟩
  have hlen : l.length = s.size := by rw [← hl]; exact first_len s
  have hget : ∀ i (h : i < s.size), l[i]? = some (s[i]'h).toNat := fun i h => by rw [← hl]; exact first_get s i h
  have hlt256 : ∀ x ∈ l, x < 256 := by rw [← hl]; exact first_lt _
  rw [hl]
  obtain ⟨Pf, hPf⟩ : ∃ Pf, K.stab l 256 = Pf := ⟨_, rfl⟩
  rw [hPf]
  have hPl : Pf.length = s.size := by
    rw [← hPf, K.stab_length]
    unfold K.cLt
    rw [← hlen, List.countP_eq_length]
    intro x hx; simpa using hlt256 x hx
  have hPlt : ∀ p, p < s.size → Pf.getD p 0 < s.size := by
    intro p hp
    rw [List.getD, List.getElem?_eq_getElem (by omega)]
    have hm : Pf[p]'(by omega) ∈ K.stab l 256 := by rw [hPf]; exact List.getElem_mem _
    rw [K.mem_stab] at hm
    simp only [Option.getD_some]; omega
  have HL := Lib.hid hlen
  have HG := Lib.hid hget
  have H256 := Lib.hid hlt256
  have HPF := Lib.hid hPf
  have HPL := Lib.hid hPl
  have HPLT := Lib.hid hPlt
  have g1 : decide (262144 < (s.size : Int)) = false := by simp; omega
  have hri : (row : Int) < (s.size : Int) := by omega
  clear hl hlen hget hlt256 hPf hPl hPlt
  have hz := Try.zInts
  go_enter Try.func27, Try.ntmps27
  go_wp2_with fail
  rw [cnt_nil l]
  have hA0 := Arr.new w (natVals (K.cntA l 0)) 58
  have hk0 : Kept [] w (w.alloc (.cells (natVals (K.cntA l 0)).toArray 58)) := (Kept.refl _ _).alloc _
  generalize w.alloc (.cells (natVals (K.cntA l 0)).toArray 58) = W0 at hA0 hk0 ⊢
  obtain ⟨F, hF⟩ : ∃ F, w.heap.size = F := ⟨_, rfl⟩
  rw [hF] at hA0 ⊢
  have HF := Lib.hid (show w.heap.size ≤ F by omega)
  have HA0 := Lib.hid hA0
  have HK0 := Lib.hid hk0
  clear hz hF hA0 hk0
  go_loopg [29] s.size (fun k v wr => ∃ i, i ≤ s.size ∧ k = s.size - i ∧ v = .int .i64 (i : Nat) ∧ Hid (Arr wr F 58 (natVals (K.cntA l i))) ∧ Hid (Kept [] w wr))
  case atStart => exact ⟨0, by omega, by omega, rfl, HA0, HK0⟩
  case round =>
    obtain ⟨i, hi, hk, rfl, HA, HK⟩ := hrel
    have Hk := Lib.hid hk
    clear hk
    by_cases hlt : i < s.size
    · have hli : (i : Int) < (s.size : Int) := by omega
      have hx := UInt8.toNat_lt (s[i]'hlt)
      have hgi := HG.out i hlt
      have hst := K.cntA_step l i _ hgi hx
      have hm := cEq_le l i (s[i]'hlt).toNat
      have hml := HL.out
      have c0 := HA.out.cell (nat_get _ _ _ (K.range_map_get (fun b => K.cEq l i b) 256 (s[i]'hlt).toNat hx))
      have f0 := HA.out.free (s[i]'hlt).toNat
      have hA2 := HA.out.setNat (s[i]'hlt).toNat (K.cEq l i (s[i]'hlt).toNat + 1)
      rw [hst] at hA2
      have HA2 := Lib.hid hA2
      have hb : K.cEq l i (s[i]'hlt).toNat ≤ 262144 := by omega
      clear hst hm hml hgi hA2
      generalize K.cEq l i (s[i]'hlt).toNat = m at *
      go_wp2_with fail
      go_roundg (s.size - (i + 1))
      case measure => have := Hk.out; omega
      case rel => exact ⟨i + 1, by omega, rfl, by go_num, HA2, Lib.hid (HK.out.setCell (.inr HF.out) _)⟩
    · obtain rfl : i = s.size := by omega
      have hA := HA.out
      have hca := K.cntA_all l
      rw [HL.out] at hca
      rw [hca] at hA
      have HA1 := Lib.hid hA
      have hidx : ∀ b : Nat, b < 256 → ∀ W, (Instr.index 58 (.agg (natVals (K.sumA l 0)).toArray) (.int .i64 b)).run Try.prog W = .ok (.int .i64 (l.count b : Nat)) W := fun b hb W => by
        refine ints_index _ (K.sumA_length l 0) b _ ?_ W
        have := K.range_map_get (fun c => if c < 0 then K.cLt l c else l.count c) 256 b hb
        rwa [if_neg (by omega)] at this
      have HIDX := Lib.hid hidx
      clear hA hca hidx
      go_wp2_with (refine wpList_load_row rfl 58 _ rfl F rfl _ _ _ _ HA1.out Try.underlying58 rfl (by rw [Try.sizeInts]; simp [natVals_length, K.sumA_length]) ?_)
      go_loopg [8, 41] 256 (fun k u v wr => ∃ b : Nat, b ≤ 256 ∧ k = 256 - b ∧ u = .int .i64 (K.cLt l b : Nat) ∧ v = .int .i64 (b : Nat) ∧ Hid (Arr wr F 58 (natVals (K.sumA l b))) ∧ Hid (Kept [] w wr))
      case atStart => exact ⟨0, by omega, by omega, by rw [K.cLt_zero]; rfl, rfl, HA1, HK⟩
      case round =>
        obtain ⟨b, hb, hk, rfl, rfl, HA2, HK2⟩ := hrel
        have Hk2 := Lib.hid hk
        clear hk
        by_cases hlt2 : b < 256
        · have hli : (b : Int) < 256 := by omega
          have hidx := HIDX.out b hlt2
          have hsu := K.cLt_succ l b
          have hle := K.cLt_le l b
          have hle2 := K.cLt_le l (b + 1)
          have hll := HL.out
          have c0 := HA2.out.cell (nat_get _ _ _ (K.range_map_get (fun c => if c < b then K.cLt l c else l.count c) 256 b hlt2))
          have f0 := HA2.out.free b
          have hA3 := HA2.out.setNat b (K.cLt l b)
          rw [K.sumA_step l b hlt2] at hA3
          have HA3 := Lib.hid hA3
          have hb1 : K.cLt l b ≤ 262144 := by omega
          have hb2 : l.count b ≤ 262144 := by omega
          have HSU := Lib.hid hsu
          clear hA3 hsu hle hle2 hll
          generalize K.cLt l b = m at *
          generalize l.count b = q at *
          go_wp2_with fail
          go_roundg (256 - (b + 1))
          case measure => have := Hk2.out; omega
          case rel => exact ⟨b + 1, by omega, rfl, by rw [HSU.out]; go_num, by go_num, HA3, Lib.hid (HK2.out.setCell (.inr HF.out) _)⟩
        · obtain rfl : b = 256 := by omega
          have hA := HA2.out
          rw [K.sumA_all] at hA
          have HA3 := Lib.hid hA
          clear hA
          go_wp2_with ((at_make; refine wp_make1 rfl _ _ 23 rfl 3 (.int .i64 0) 8 Try.underlying23 Try.infoInt rfl .i64 .i64 _ _ s.size s.size rfl rfl rfl rfl (by omega) (by omega) (by simp only [maxLen]; omega) ?_; intro w3 hrow3 hk3))
          have hob0 := heap_alloc_new w3 (.cells #[.slice (some ⟨wr.heap.size, 0, none⟩) s.size s.size] 23)
          have hk4 : Kept [] w3 (w3.alloc (.cells #[.slice (some ⟨wr.heap.size, 0, none⟩) s.size s.size] 23)) := (Kept.refl _ _).alloc _
          have hz4 : (w3.alloc (.cells #[.slice (some ⟨wr.heap.size, 0, none⟩) s.size s.size] 23)).heap.size = w3.heap.size + 1 := by simp
          generalize w3.alloc (.cells #[.slice (some ⟨wr.heap.size, 0, none⟩) s.size s.size] 23) = W4 at hob0 hk4 hz4 ⊢
          have hFl : F < wr.heap.size := HA3.out.lt
          have hw3 : wr.heap.size < w3.heap.size := hrow3.lt _ (by simp [foot, Value.ownBlock])
          have hA4 := (HA3.out.kept hk3 (by simp)).kept hk4 (by simp)
          have hrow4 := hrow3.kept hk4 (by simp)
          rw [show List.replicate s.size (Value.int .i64 0) = natVals (List.replicate s.size 0) by simp [natVals]] at hrow4
          have hkk := (HK2.out.trans hk3 (by simp)).trans hk4 (by simp)
          have hww : w.heap.size ≤ wr.heap.size := HK2.out.size
          obtain ⟨h, hh⟩ : ∃ h, wr.heap.size = h := ⟨_, rfl⟩
          obtain ⟨ob, hob⟩ : ∃ ob, w3.heap.size = ob := ⟨_, rfl⟩
          rw [hh] at hFl hw3 hrow4 hww hob0 ⊢
          rw [hob] at hw3 hob0 hz4 ⊢
          have hpl0 : K.Placed l 0 (List.replicate s.size 0) := ⟨by rw [List.length_replicate, HL.out], fun j hj => by omega⟩
          have HPL0 := Lib.hid hpl0
          have HA4 := Lib.hid hA4
          have HR4 := Lib.hid hrow4
          have HOB4 := Lib.hid (show Arr W4 ob 23 [.slice (some ⟨h, 0, none⟩) s.size s.size] from hob0)
          have HKK := Lib.hid hkk
          clear hh hob hz4 hA4 hrow4 hkk hob0 hk4 hk3 hrow3 hpl0
          go_loopg [57] s.size (fun k v wr => ∃ (i : Nat) (P : List Nat), i ≤ s.size ∧ k = s.size - i ∧ v = .int .i64 (i : Nat) ∧ Hid (Arr wr F 58 (natVals (K.nextA l i))) ∧ Hid (Row wr 3 (.slice (some ⟨h, 0, none⟩) s.size s.size) (natVals P)) ∧ Hid (Arr wr ob 23 [.slice (some ⟨h, 0, none⟩) s.size s.size]) ∧ Hid (K.Placed l i P) ∧ Hid (Kept [] w wr))
          case atStart => exact ⟨0, _, by omega, by omega, rfl, HA4, HR4, HOB4, HPL0, HKK⟩
          case round =>
            obtain ⟨i, P, hi, hk, rfl, HA5, HR5, HOB5, HP5, HK5⟩ := hrel
            have Hk3 := Lib.hid hk
            clear hk HPL0
            by_cases hlt : i < s.size
            · have hli : (i : Int) < (s.size : Int) := by omega
              have hx := UInt8.toNat_lt (s[i]'hlt)
              have hgi := HG.out i hlt
              obtain ⟨x, hxe⟩ : ∃ x, (s[i]'hlt).toNat = x := ⟨_, rfl⟩
              have hgx : l.getD i 0 = x := by rw [List.getD, hgi, hxe]; rfl
              have hpos : K.pos l i = K.cLt l x + K.cEq l i x := by unfold K.pos; rw [hgx]
              have hposl := K.pos_lt l i (by rw [HL.out]; exact hlt)
              rw [hxe] at hgi hx
              have hst := K.nextA_step l i x hgi hx
              have hll := HL.out
              have c0 := HA5.out.cell (nat_get _ _ _ (K.range_map_get (fun b => K.cLt l b + K.cEq l i b) 256 x hx))
              have f0 := HA5.out.free x
              obtain ⟨p, hp⟩ : ∃ p, K.cLt l x + K.cEq l i x = p := ⟨_, rfl⟩
              rw [hp] at hst hpos c0
              rw [hpos] at hposl
              have hP6 := HP5.out.step (by rw [HL.out]; exact hlt)
              rw [hpos] at hP6
              have hps : p < s.size := by omega
              have hpi : (p : Int) < (s.size : Int) := by omega
              have e0 := HOB5.out.cell (i := 0) rfl
              have hPlen : P.length = s.size := by rw [HP5.out.1, HL.out]
              obtain ⟨y, hy⟩ : ∃ y, P[p]? = some y := ⟨_, List.getElem?_eq_getElem (by omega)⟩
              have d0 := HR5.out.cellAt (nat_get _ _ _ hy)
              have df := HR5.out.free p
              have hrow6 := HR5.out.put p (.int .i64 (i : Nat))
              rw [nat_set] at hrow6
              have HST := Lib.hid hst
              have HP6 := Lib.hid hP6
              have HR6 := Lib.hid hrow6
              have HXE := Lib.hid hxe
              have hpw : IntKind.i64.wrap ((p : Int) + 1) = (p : Int) + 1 := IntWalk.i64_in _ (by omega)
              have hne : ¬ F = h := by omega
              have hne2 : ¬ F = ob := by omega
              have hne3 : ¬ ob = h := by omega
              clear hgi hgx hpos hposl hst hll hp hP6 hrow6 hy hPlen
              go_wp2_with fail
              go_region
              all_goals go_wp2_with fail
              all_goals
                go_roundg (s.size - (i + 1))
                case measure => have := Hk3.out; omega
                case rel =>
                  have ha7 := (HA5.out.kept (S := [h]) ((Kept.refl _ _).setCell (p := ⟨h, p, none⟩) (.inl (by simp)) (.int .i64 (i : Nat))) (by simp; omega)).setNat x (p + 1)
                  rw [HST.out] at ha7
                  have hk7 : Kept [h, F] wr (((wr.setCell ⟨h, p, none⟩ (.int .i64 (i : Nat))).setCell ⟨F, x, none⟩ (.int .i64 ((p : Int) + 1))).drew) := (((Kept.refl _ _).setCell (p := ⟨h, p, none⟩) (.inl (by simp)) _).setCell (p := ⟨F, x, none⟩) (.inl (by simp)) _).drew
                  refine ⟨i + 1, _, by omega, rfl, by go_num, Lib.hid ?_, Lib.hid ?_, Lib.hid (HOB5.out.kept hk7 (by simp; omega)), HP6, Lib.hid (HK5.out.trans hk7 ?_)⟩
                  · exact ha7
                  · exact (HR6.out.setCell (p := ⟨F, x, none⟩) (by simp [foot, Value.ownBlock]; omega) _).drew
                  · intro z hz
                    simp at hz
                    have := HF.out
                    rcases hz with rfl | rfl
                    · exact .inr hww
                    · exact .inr this
            · obtain rfl : i = s.size := by omega
              have hdone := HP5.out
              rw [← HL.out] at hdone
              have hPe := hdone.done H256.out
              rw [HPF.out] at hPe
              subst hPe
              clear hdone HPF
              have hsto := store_next ob wr
              have hwc := ((Arr.new wr [.nilFunc, .int .i64 0] 61).set 0 (nextV ob)).cell (i := 1) rfl
              have hwf := ((Arr.new wr [.nilFunc, .int .i64 0] 61).set 0 (nextV ob)).free 1
              unfold nextV at hwc hwf
              go_wp2_with ((at_make; refine wp_make1 rfl _ _ 57 rfl 5 (.int .u8 0) 1 Try.underlying57 Try.infoU8 rfl .i64 .i64 _ _ s.size s.size rfl rfl rfl rfl (by omega) (by omega) (by simp only [maxLen]; omega) ?_; intro w6 hrow6 hk6))
              have hkw : Kept [] w (wr.alloc (.cells #[.func (.func 36) #[] #[.pointer (some ⟨ob, 0, none⟩)], .int .i64 (row : Nat)] 61)) :=
                HK5.out.alloc _
              have hkr : Kept [] wr (wr.alloc (.cells #[.func (.func 36) #[] #[.pointer (some ⟨ob, 0, none⟩)], .int .i64 (row : Nat)] 61)) :=
                (Kept.refl _ _).alloc _
              have hW0 : Arr (wr.alloc (.cells #[.func (.func 36) #[] #[.pointer (some ⟨ob, 0, none⟩)], .int .i64 (row : Nat)] 61)) wr.heap.size 61 [nextV ob, .int .i64 (row : Nat)] := Arr.new wr [nextV ob, .int .i64 (row : Nat)] 61
              have hz5 : (wr.alloc (.cells #[.func (.func 36) #[] #[.pointer (some ⟨ob, 0, none⟩)], .int .i64 (row : Nat)] 61)).heap.size = wr.heap.size + 1 := by simp
              generalize (wr.alloc (.cells #[.func (.func 36) #[] #[.pointer (some ⟨ob, 0, none⟩)], .int .i64 (row : Nat)] 61)) = W5 at hrow6 hk6 hkw hkr hW0 hz5 ⊢
              have hgW : wr.heap.size < W5.heap.size := hW0.lt
              have hhw : h < wr.heap.size := HR5.out.lt _ (by simp [foot, Value.ownBlock])
              have how : ob < wr.heap.size := HOB5.out.lt
              have hgge : w.heap.size ≤ wr.heap.size := HK5.out.size
              have HA7 := Lib.hid (hW0.kept hk6 (by simp))
              have HR7 := Lib.hid ((HR5.out.kept hkr (by simp)).kept hk6 (by simp))
              have HO7 := Lib.hid ((HOB5.out.kept hkr (by simp)).kept hk6 (by simp))
              have HK7 := Lib.hid (hkw.trans hk6 (by simp))
              have hrow7 : Row w6 5 (.slice (some ⟨W5.heap.size, 0, none⟩) s.size s.size) (u8s (toB (K.readB l P 0 row) ++ List.replicate (s.size - 0) 0)) := by
                have : u8s (toB (K.readB l P 0 row) ++ List.replicate (s.size - 0) 0) = List.replicate s.size (.int .u8 0) := by simp [u8s, toB, K.readB]
                rw [this]; exact hrow6
              have HRW7 := Lib.hid hrow7
              obtain ⟨G, hG⟩ : ∃ G, wr.heap.size = G := ⟨_, rfl⟩
              rw [hG] at hgW hhw how hgge HA7 hz5 ⊢
              rw [hz5] at hgW HRW7
              obtain ⟨o, ho⟩ : ∃ o, G + 1 = o := ⟨_, rfl⟩
              rw [ho] at hgW HRW7 ⊢
              have hge2 : w.heap.size ≤ o := by omega
              clear hsto hwc hwf hkw hkr hW0 hrow6 hk6 hrow7 hG ho hz5
              go_loopg [84] s.size (fun k v wx => ∃ i : Nat, i ≤ s.size ∧ k = s.size - i ∧ v = .int .i64 (i : Nat) ∧ Hid (Row wx 5 (.slice (some ⟨o, 0, none⟩) s.size s.size) (u8s (toB (K.readB l P i row) ++ List.replicate (s.size - i) 0))) ∧ Hid (Arr wx G 61 [nextV ob, .int .i64 (K.walkB P i row : Nat)]) ∧ Hid (Row wx 3 (.slice (some ⟨h, 0, none⟩) s.size s.size) (natVals P)) ∧ Hid (Arr wx ob 23 [.slice (some ⟨h, 0, none⟩) s.size s.size]) ∧ Hid (K.walkB P i row < s.size) ∧ Hid (Kept [] w wx))
              case atStart => exact ⟨0, by omega, by omega, rfl, HRW7, HA7, HR7, HO7, Lib.hid hrow, HK7⟩
              case round =>
                obtain ⟨i, hi, hk, rfl, HRW, HA, HR, HO, HWL, HKE⟩ := hrel
                have Hk4 := Lib.hid hk
                clear hk
                by_cases hlt : i < s.size
                · have hli : (i : Int) < (s.size : Int) := by omega
                  have hst := step_ok G ob h s.size s.size (K.walkB P i row) P wr HA.out (HO.out.cell (i := 0) rfl) HR.out.seeA HPL.out HWL.out (by omega)
                  have hq : P.getD (K.walkB P i row) 0 < s.size := HPLT.out _ HWL.out
                  have hsn := K.readB_snoc l P i row
                  have hwk : K.walkB P (i + 1) row = P.getD (K.walkB P i row) 0 := rfl
                  rw [← hwk] at hst hq
                  obtain ⟨q, hqe⟩ : ∃ q, K.walkB P (i + 1) row = q := ⟨_, rfl⟩
                  rw [hqe] at hst hq hsn
                  have hlq : l.getD q 0 = (s[q]'hq).toNat := by rw [List.getD, HG.out q hq]; rfl
                  rw [hlq] at hsn
                  have HSN := Lib.hid hsn
                  have HQE := Lib.hid hqe
                  have HST := Lib.hid hst
                  have hqi : (q : Int) < (s.size : Int) := by omega
                  have hrl : (toB (K.readB l P i row)).length = i := by rw [toB, List.length_map, readB_length]
                  have HRL := Lib.hid hrl
                  clear hst hsn hwk hqe hlq hrl
                  go_wp2_with fail
                  refine HST.out.mono ?_
                  rintro e w8 ⟨rfl, hA8, hk8⟩
                  have hr8 := HRW.out.kept hk8 (by simp [foot, Value.ownBlock]; omega)
                  have c0 := hr8.cellAt (j := i) (u := .int .u8 ((0 : UInt8).toNat : Nat)) (by
                    rw [u8s_get _ _ (by rw [List.length_append, HRL.out, List.length_replicate]; omega)]
                    rw [List.getD, List.getElem?_append_right (by rw [HRL.out]; exact Nat.le_refl _), HRL.out, Nat.sub_self, List.getElem?_replicate, if_pos (by omega)]; rfl)
                  have f0 := hr8.free i
                  have hr9 := hr8.put i (.int .u8 ((s[q]'hq).toNat : Nat))
                  rw [u8_next _ _ _ _ HRL.out hlt] at hr9
                  have HR9 := Lib.hid hr9
                  have HA8 := Lib.hid hA8
                  have HK8 := Lib.hid hk8
                  clear hr8 hr9 hA8 hk8 HST
                  go_wp2_with fail
                  go_roundg (s.size - (i + 1))
                  case measure => have := Hk4.out; omega
                  case rel =>
                    have hk9 : Kept [o] w8 (w8.setCell ⟨o, i, none⟩ (.int .u8 ((s[q]'hq).toNat : Nat))) := (Kept.refl _ _).setCell (p := ⟨o, i, none⟩) (.inl (by simp)) _
                    refine ⟨i + 1, by omega, rfl, by go_num, Lib.hid ?_, Lib.hid ?_, Lib.hid ((HR.out.kept HK8.out (by simp [foot, Value.ownBlock]; omega)).kept hk9 (by simp [foot, Value.ownBlock]; omega)), Lib.hid ((HO.out.kept HK8.out (by simp; omega)).kept hk9 (by simp; omega)), Lib.hid (by rw [HQE.out]; exact hq), Lib.hid ?_⟩
                    · rw [HSN.out, toB_snoc, UInt8.ofNat_toNat]; exact HR9.out
                    · rw [HQE.out]; exact HA8.out.kept hk9 (by simp; omega)
                    · exact (HKE.out.trans HK8.out (by intro x hx; simp at hx; subst hx; exact .inr hgge)).trans hk9 (by intro x hx; simp at hx; subst hx; exact .inr hge2)
                · obtain rfl : i = s.size := by omega
                  have hrw := HRW.out
                  rw [Nat.sub_self, List.replicate_zero, List.append_nil] at hrw
                  have hct := Row.text hrw
                  have HKF := Lib.hid HKE.out
                  clear hrw
                  go_wp2_with fail
                  go_ret2
                  exact ⟨rfl, HKF.out⟩
end Go.Proofs.Ytaeppgooenbfiaa
namespace Go.Proofs.Ytaeppgooenbfiaa
open Go.RowKit
set_option linter.unusedVariables false
set_option linter.unusedSimpArgs false

/-- A new list of numbers. -/
def ListPost (l : List Nat) (w : World) (e : Ending) (w' : World) : Prop :=
  ∃ a c, e = .returned (.slice a l.length c) ∧ Row w' 3 (.slice a l.length c) (natVals l) ∧ Kept [] w w' ∧ Fresh w.heap.size (footA a)
theorem occ_no (l : List Nat) (b k x : Nat) (h : l[k]? = some x) (hx : x ≠ b) : K.occ l b (k + 1) = K.occ l b k := by rw [K.occ_succ l b k x h, if_neg hx, List.append_nil]
theorem occ_yes (l : List Nat) (b k : Nat) (h : l[k]? = some b) : K.occ l b (k + 1) = K.occ l b k ++ [k] := by rw [K.occ_succ l b k b h, if_pos rfl]

/-- In Places' loops. -/
def PlaI (w0 : World) (xs : List Nat) (v : Value) (w : World) : Prop := Row w 3 v (natVals xs) ∧ Kept [] w0 w ∧ Fresh w0.heap.size (foot v)

set_option maxRecDepth 100000 in
set_option maxHeartbeats 4000000 in
theorem places_ok (s : ByteArray) (w : World) (hs : s.size ≤ 1000000) : Calls Try.prog 38 #[.string s] w (ListPost (K.stab (K.firstR s.data.toList) 256) w) := by
  obtain ⟨l, hl⟩ : ∃ l, K.firstR s.data.toList = l := ⟨_, rfl⟩
  have hlen : l.length = s.size := by rw [← hl]; exact first_len s
  have hget : ∀ i (h : i < s.size), l[i]? = some (s[i]'h).toNat := fun i h => by rw [← hl]; exact first_get s i h
  rw [hl]
  have HL := Lib.hid hlen
  have HG := Lib.hid hget
  clear hl hlen hget
  go_enter Try.func38, Try.ntmps38
  go_wp2_with fail
  go_loopg [3, 4] 256 (fun k v c wr => ∃ b : Nat, b ≤ 256 ∧ k = 256 - b ∧ c = .int .i64 (b : Nat) ∧ Hid (PlaI w (K.stab l b) v wr))
  case atStart => exact ⟨0, by omega, by omega, rfl, Lib.hid ⟨Row.nil _ _, Kept.refl _ _, by simp [Fresh, foot, Value.ownBlock]⟩⟩
  case round =>
    obtain ⟨b, hb, hk, rfl, HP⟩ := hrel
    have Hk := Lib.hid hk
    clear hk
    by_cases hlt : b < 256
    · have hli : (b : Int) < 256 := by omega
      go_wp2_with fail
      go_loopg [3, 5] s.size (fun k v c wr => ∃ i : Nat, i ≤ s.size ∧ k = s.size - i ∧ c = .int .i64 (i : Nat) ∧ Hid (PlaI w (K.stab l b ++ K.occ l b i) v wr))
      case atStart => exact ⟨0, by omega, by omega, rfl, by simpa [K.occ] using HP⟩
      case round =>
        obtain ⟨i, hi, hk, rfl, HQ⟩ := hrel
        have Hk2 := Lib.hid hk
        clear hk HP
        by_cases hlt2 : i < s.size
        · have hli2 : (i : Int) < (s.size : Int) := by omega
          have hx := UInt8.toNat_lt (s[i]'hlt2)
          have hg := HG.out i hlt2
          obtain ⟨x, hxe⟩ : ∃ x, (s[i]'hlt2).toNat = x := ⟨_, rfl⟩
          rw [hxe] at hg hx
          have hwb : wrap64 (x : Int) = (x : Int) := by unfold wrap64; omega
          have hwb2 : IntKind.i64.wrap (x : Int) = (x : Int) := IntWalk.i64_in _ (by omega)
          obtain ⟨hrow, hkept, hfr⟩ := HQ.out
          have HKE := Lib.hid hkept
          have HFR := Lib.hid hfr
          have hl1 := K.stab_length l b
          have hl2 := K.occ_length l b i (by rw [HL.out]; omega)
          have hl3 := K.cLt_le l b
          have hl4 := cEq_le l i b
          rw [HL.out] at hl3 hl4
          have L1 : (natVals (K.stab l b ++ K.occ l b i)).length + 1 ≤ maxLen := by rw [natVals_length, List.length_append, hl1, hl2]; simp only [maxLen]; omega
          have L2 : ((natVals (K.stab l b ++ K.occ l b i)).length + 1) * 8 ≤ 140737488355328 := by rw [natVals_length, List.length_append, hl1, hl2]; omega
          by_cases hxb : x = b
          · subst hxb
            have hoc := occ_yes l x i hg
            have HOC := Lib.hid hoc
            clear hkept hfr hg hoc hl1 hl2 hl3 hl4
            go_wp2_with ((at_builtin; refine wp_appL _ rfl _ _ 23 rfl 3 (.int .i64 0) 8 Try.underlying23 Try.infoInt rfl _ _ [.int .i64 (i : Int)] 1 rfl rfl rfl rfl (by simp [Value.oneCell']) hrow L1 L2 ?_; intro a5 cap5 w5 hrow5 hk5 hg5))
            go_roundg (s.size - (i + 1))
            case measure => have := Hk2.out; omega
            case rel =>
              refine ⟨i + 1, by omega, rfl, by go_num, Lib.hid ⟨?_, HKE.out.new hk5 HFR.out, HFR.out.grow hg5 HKE.out.size⟩⟩
              rw [HOC.out, ← List.append_assoc, natVals_append (_ ++ _)]
              exact hrow5
          · have hbe : ((x : Int) == (b : Int)) = false := beq_eq_false_iff_ne.2 (by omega)
            have hoc := occ_no l b i x hg hxb
            have HOC := Lib.hid hoc
            clear hkept hfr hg hoc hl1 hl2 hl3 hl4 hxb
            go_wp2_with fail
            go_roundg (s.size - (i + 1))
            case measure => have := Hk2.out; omega
            case rel => exact ⟨i + 1, by omega, rfl, by go_num, by rw [HOC.out]; exact HQ⟩
        · obtain rfl : i = s.size := by omega
          have hli2 : ¬ (s.size : Int) < (s.size : Int) := by omega
          have hq := HQ.out
          have hss := K.stab_succ l b
          rw [HL.out] at hss
          rw [← hss] at hq
          have HQ2 := Lib.hid hq
          clear hss hq
          go_wp2_with fail
          go_roundg (256 - (b + 1))
          case measure => have := Hk.out; omega
          case rel => exact ⟨b + 1, by omega, rfl, by go_num, HQ2⟩
    · obtain rfl : b = 256 := by omega
      obtain ⟨hrow, hkept, hfr⟩ := HP.out
      obtain ⟨a, c, hv, -, -, -, hf⟩ := hrow.sees
      rw [natVals_length] at hv
      have HR := Lib.hid hrow
      have HV := Lib.hid hv
      have HKE := Lib.hid hkept
      have HFR := Lib.hid hfr
      clear hrow hkept hfr hv hf
      go_wp2_with fail
      go_ret
      refine ⟨a, c, by rw [HV.out]; rfl, by have := HR.out; rwa [HV.out] at this, HKE.out, ?_⟩
      have := HFR.out
      rw [HV.out, foot_slice] at this
      exact this

set_option maxRecDepth 100000 in
set_option maxHeartbeats 4000000 in
theorem rback_in (s : ByteArray) (row : Nat) (w : World) (hs : s.size ≤ 262144) (hrow : row < s.size) :
    Calls Try.prog 28 #[.string s, .int .i64 row] w (TextPost (toB (K.readB (K.firstR s.data.toList) (K.stab (K.firstR s.data.toList) 256) s.size row), 0) w) := by
  have hpl := fun w => places_ok s w (by omega)
  obtain ⟨l, hl⟩ : ∃ l, K.firstR s.data.toList = l := ⟨_, rfl⟩
  have hlen : l.length = s.size := by rw [← hl]; exact first_len s
  have hget : ∀ i (h : i < s.size), l[i]? = some (s[i]'h).toNat := fun i h => by rw [← hl]; exact first_get s i h
  have hlt256 : ∀ x ∈ l, x < 256 := by rw [← hl]; exact first_lt _
  rw [hl] at hpl ⊢
  have hPl : (K.stab l 256).length = s.size := by
    rw [K.stab_length]
    unfold K.cLt
    rw [← hlen, List.countP_eq_length]
    intro x hx; simpa using hlt256 x hx
  have hPlt : ∀ p, p < s.size → (K.stab l 256).getD p 0 < s.size := by
    intro p hp
    rw [List.getD, List.getElem?_eq_getElem (by omega)]
    have hm : (K.stab l 256)[p]'(by omega) ∈ K.stab l 256 := List.getElem_mem _
    rw [K.mem_stab] at hm
    simp only [Option.getD_some]; omega
  generalize K.stab l 256 = P at *
  have HPLC := Lib.hid hpl
  have HL := Lib.hid hlen
  have HG := Lib.hid hget
  have HPL := Lib.hid hPl
  have HPLT := Lib.hid hPlt
  have g1 : decide (262144 < (s.size : Int)) = false := by simp; omega
  have hri : (row : Int) < (s.size : Int) := by omega
  clear hl hlen hget hlt256 hPl hPlt hpl
  go_enter Try.func28, Try.ntmps28
  go_wp2_with fail
  refine (HPLC.out w).mono ?_
  rintro e w1 ⟨a, c, rfl, hrow1, hk1, -⟩
  rw [HPL.out] at hrow1 ⊢
  have HS1 := Lib.hid hrow1.seeA
  have HK1 := Lib.hid hk1
  clear hrow1 hk1 HPLC
  go_wp2_with fail
  go_loopg [7, 8] s.size (fun k v u wr => ∃ i : Nat, i ≤ s.size ∧ k = s.size - i ∧ u = .int .i64 (K.walkB P i row : Nat) ∧ Hid (Row wr 5 v (u8s (toB (K.readB l P i row)))) ∧ Hid (Kept [] w1 wr) ∧ Hid (Fresh w1.heap.size (foot v)) ∧ Hid (K.walkB P i row < s.size))
  case atStart => exact ⟨0, by omega, by omega, rfl, Lib.hid (Row.nil _ _), Lib.hid (Kept.refl _ _), Lib.hid (by simp [Fresh, foot, Value.ownBlock]), Lib.hid hrow⟩
  case round =>
    obtain ⟨i, hi, hk, rfl, HR, HKE, HFR, HWL⟩ := hrel
    have Hk := Lib.hid hk
    clear hk
    have hrl : (toB (K.readB l P i row)).length = i := by rw [toB, List.length_map, readB_length]
    obtain ⟨av, cv, hv, -, -, -, -⟩ := HR.out.sees
    rw [u8s_length, hrl] at hv
    subst hv
    have HRL := Lib.hid hrl
    clear hrl
    by_cases hlt : i < s.size
    · have hli : (i : Int) < (s.size : Int) := by omega
      obtain ⟨p, hp⟩ : ∃ p, K.walkB P i row = p := ⟨_, rfl⟩
      have hpl := HWL.out
      rw [hp] at hpl ⊢
      have hq := HPLT.out p hpl
      have hx : P[p]? = some (P.getD p 0) := by rw [List.getD, List.getElem?_eq_getElem (by rw [HPL.out]; exact hpl)]; rfl
      obtain ⟨b0, off, rfl, -⟩ := HS1.out.at (by rw [natVals_length, HPL.out]; omega)
      have c0 := (HS1.out.kept0 HKE.out).natC hx
      have hsn := K.readB_snoc l P i row
      have hwk : K.walkB P (i + 1) row = P.getD (K.walkB P i row) 0 := rfl
      rw [hp] at hwk
      rw [hwk] at hsn
      obtain ⟨q, hqe⟩ : ∃ q, P.getD p 0 = q := ⟨_, rfl⟩
      rw [hqe] at hq c0 hsn hwk
      have hlq : l.getD q 0 = (s[q]'hq).toNat := by rw [List.getD, HG.out q hq]; rfl
      rw [hlq] at hsn
      have HSN := Lib.hid hsn
      have HWK := Lib.hid hwk
      have hqi : (q : Int) < (s.size : Int) := by omega
      have hpi : (p : Int) < (s.size : Int) := by omega
      have hrow := HR.out
      have L1 : (u8s (toB (K.readB l P i row))).length + 1 ≤ maxLen := by rw [u8s_length, HRL.out]; simp only [maxLen]; omega
      have L2 : ((u8s (toB (K.readB l P i row))).length + 1) * 1 ≤ 140737488355328 := by rw [u8s_length, HRL.out]; omega
      clear hsn hwk hqe hlq hx hp
      go_wp2_with ((at_builtin; refine wp_appL _ rfl _ _ 57 rfl 5 (.int .u8 0) 1 Try.underlying57 Try.infoU8 rfl _ _ [.int .u8 ((s[q]'hq).toNat : Int)] 1 rfl rfl rfl rfl (by simp [Value.oneCell']) hrow L1 L2 ?_; intro a5 cap5 w5 hrow5 hk5 hg5))
      go_roundg (s.size - (i + 1))
      case measure => have := Hk.out; omega
      case rel =>
        refine ⟨i + 1, by omega, rfl, by rw [HWK.out], Lib.hid ?_, Lib.hid (HKE.out.new hk5 HFR.out), Lib.hid (HFR.out.grow hg5 HKE.out.size), Lib.hid (by rw [HWK.out]; exact hq)⟩
        rw [HSN.out, toB_snoc, UInt8.ofNat_toNat, show ∀ A : List UInt8, u8s (A ++ [s[q]'hq]) = u8s A ++ [.int .u8 ((s[q]'hq).toNat : Int)] from fun A => by simp [u8s]]
        exact hrow5
    · obtain rfl : i = s.size := by omega
      have hct := Row.text HR.out
      have hli : ¬ (s.size : Int) < (s.size : Int) := by omega
      go_wp2_with fail
      go_ret2
      exact ⟨rfl, HK1.out.trans HKE.out (by simp)⟩
end Go.Proofs.Ytaeppgooenbfiaa
