/-
  The walk of bwt.Forward, over what slices.SortFunc does.
-/
import Derived.Test.YtaeppgooenbfiaaBwtC
import Derived.Test.YtaeppgooenbfiaaPlainB2
import Derived.Test.YtaeppgooenbfiaaRotE
import Derived.Test.YtaeppgooenbfiaaRotH
namespace Go.Proofs.Ytaeppgooenbfiaa
open Go.RowKit Go.Sort
set_option linter.unusedVariables false
set_option linter.unusedSimpArgs false

/-- The row of the text itself, among the first k. -/
def rowA (L : List Nat) (k : Nat) : Nat := if L.idxOf 0 < k then L.idxOf 0 else 0
theorem rowA_zero (L : List Nat) : rowA L 0 = 0 := by unfold rowA; rw [if_neg (by omega)]
theorem idx_lt (L : List Nat) (k : Nat) (hk : L[k]? = some 0) (hnd : L.Nodup) : L.idxOf 0 = k := by
  obtain ⟨h, he⟩ := List.getElem?_eq_some_iff.1 hk
  have hm : (0 : Nat) ∈ L := List.mem_of_getElem? hk
  have hi := List.idxOf_lt_length_of_mem hm
  have h0 : L[L.idxOf 0] = 0 := List.getElem_idxOf hi
  have hne := List.pairwise_iff_getElem.1 (show L.Pairwise (· ≠ ·) from hnd)
  rcases Nat.lt_trichotomy (L.idxOf 0) k with h1 | h1 | h1
  · exact absurd (h0.trans he.symm) (hne _ _ hi h h1)
  · exact h1
  · exact absurd (he.trans h0.symm) (hne _ _ h hi h1)
theorem rowA_yes (L : List Nat) (k : Nat) (hk : L[k]? = some 0) (hnd : L.Nodup) : rowA L (k + 1) = k := by
  have := idx_lt L k hk hnd
  unfold rowA
  rw [if_pos (by omega), this]
theorem rowA_no (L : List Nat) (k x : Nat) (hk : L[k]? = some x) (hx : x ≠ 0) : rowA L (k + 1) = rowA L k := by
  have : L.idxOf 0 ≠ k := by
    intro h
    obtain ⟨h2, he⟩ := List.getElem?_eq_some_iff.1 hk
    have h0 : L[L.idxOf 0]'(by omega) = 0 := List.getElem_idxOf (by omega)
    simp only [h] at h0
    omega
  unfold rowA
  by_cases h : L.idxOf 0 < k
  · rw [if_pos (by omega), if_pos h]
  · rw [if_neg (by omega), if_neg h]
theorem rowA_all (L : List Nat) (k : Nat) (h : 0 ∈ L) (hk : L.length ≤ k) : rowA L k = L.idxOf 0 := by
  have := List.idxOf_lt_length_of_mem h
  unfold rowA
  rw [if_pos (by omega)]

/-- What Forward answers. -/
def FwdPost (bs : List UInt8) (row er : Nat) (w : World) (e : Ending) (w' : World) : Prop :=
  e = .returned (.tuple #[.string ⟨bs.toArray⟩, .int .i64 (row : Nat), .int .i64 (er : Nat)]) ∧ Kept [] w w'
def FwdOk (s : ByteArray) (w : World) (e : Ending) (w' : World) : Prop :=
  ∃ L, K.Ordered s.size (K.fS s.data.toList) s.size L ∧ FwdPost (toB (K.lastC s.size (K.fS s.data.toList) L)) (L.idxOf 0) 0 w e w'
theorem lastC_step (n : Nat) (f : Nat → Nat) (L : List Nat) (k x : Nat) (h : L[k]? = some x) : K.lastC n f (L.take (k + 1)) = K.lastC n f (L.take k) ++ [f (x + n - 1)] := by
  unfold K.lastC
  rw [List.take_add_one, h, List.map_append]; rfl

theorem byte_congr (s : ByteArray) (a b : Nat) (ha : a < s.size) (hb : b < s.size) (h : a = b) : (s[a]'ha).toNat = (s[b]'hb).toNat := by subst h; rfl
theorem fS_at (s : ByteArray) (t i : Nat) (h0 : 0 < s.size) (hi : i < s.size) (h : t % s.size = i) : K.fS s.data.toList t = (s[i]'hi).toNat := by
  obtain ⟨hb, h1⟩ := byte_fS s t 0 h0
  exact h1.trans (byte_congr s _ _ _ _ h)

set_option maxRecDepth 100000 in
set_option maxHeartbeats 4000000 in
theorem forward_in (s : ByteArray) (w : World) (h0 : 0 < s.size) (hs : s.size ≤ 262144) (hSort : SortC s.size) : Calls Try.prog 25 #[.string s] w (FwdOk s w) := by
  have hord := fun w => order_new s w (by omega) hSort
  have HORD := Lib.hid hord
  have hbl := byte_len s
  have HBL := Lib.hid hbl
  have g0 : s.toList.isEmpty = false := by
    rw [ByteArray.toList_eq]
    cases h : s.data.toList with
    | nil => rw [h] at hbl; simp at hbl; omega
    | cons a b => rfl
  have g1 : decide (262144 < (s.size : Int)) = false := by simp; omega
  clear hord hSort hbl
  go_enter Try.func25, Try.ntmps25
  go_wp2_with ((at_make; refine wp_make1 rfl _ _ 57 rfl 5 (.int .u8 0) 1 Try.underlying57 Try.infoU8 rfl .i64 .i64 _ _ s.size s.size rfl rfl rfl rfl (by omega) (by omega) (by simp only [maxLen]; omega) ?_; intro w1 hrow1 hk1))
  have HR1 := Lib.hid hrow1
  have HK1 := Lib.hid hk1
  obtain ⟨o, ho⟩ : ∃ o, w.heap.size = o := ⟨_, rfl⟩
  rw [ho] at HR1 ⊢
  have HO := Lib.hid (show w.heap.size ≤ o by omega)
  clear hrow1 hk1 ho
  refine (HORD.out w1).mono ?_
  rintro e w2 ⟨g, L, rfl, hO, hrow2, hk2, hge⟩
  have hf0 : K.fS s.data.toList (0 + s.size - 1) = (s[s.size - 1]'(by omega)).toNat := fS_at s _ _ h0 _ (by rw [Nat.zero_add, Nat.mod_eq_of_lt (by omega)])
  have hf1 : ∀ i (h : i + 1 < s.size), K.fS s.data.toList (i + 1 + s.size - 1) = (s[i]'(by omega)).toNat := fun i hi => fS_at s _ _ h0 _ (by rw [show i + 1 + s.size - 1 = i + s.size by omega, Nat.add_mod_right, Nat.mod_eq_of_lt (by omega)])
  have hgo : o < w2.heap.size := by
    have := hk2.size
    have := HR1.out.lt o (by simp [foot, Value.ownBlock])
    omega
  have hrw0 : Row w2 5 (.slice (some ⟨o, 0, none⟩) s.size s.size) (u8s (toB (K.lastC s.size (K.fS s.data.toList) (L.take 0)) ++ List.replicate (s.size - 0) 0)) := by
    have : u8s (toB (K.lastC s.size (K.fS s.data.toList) (L.take 0)) ++ List.replicate (s.size - 0) 0) = List.replicate s.size (.int .u8 0) := by simp [u8s, toB, K.lastC]
    rw [this]; exact HR1.out.kept hk2 (by simp)
  have hng : g ≠ o := by
    have := HR1.out.lt o (by simp [foot, Value.ownBlock])
    omega
  have HF0 := Lib.hid hf0
  have HF1 := Lib.hid hf1
  have HOR := Lib.hid hO
  have HS2 := Lib.hid hrow2.seeA
  have HRW0 := Lib.hid hrw0
  have HK2 := Lib.hid (HK1.out.trans hk2 (by simp))
  have HLEN := Lib.hid hO.len
  clear hf0 hf1 hO hrow2 hk2 hrw0 HORD
  go_wp2_with fail
  go_loopg [6, 20] s.size (fun k v c wr => ∃ i : Nat, i ≤ s.size ∧ k = s.size - i ∧ v = .int .i64 (rowA L i : Nat) ∧ c = .int .i64 (i : Nat) ∧ Hid (Row wr 5 (.slice (some ⟨o, 0, none⟩) s.size s.size) (u8s (toB (K.lastC s.size (K.fS s.data.toList) (L.take i)) ++ List.replicate (s.size - i) 0))) ∧ Hid (Kept [o] w2 wr))
  case atStart => exact ⟨0, by omega, by omega, by rw [rowA_zero]; rfl, rfl, HRW0, Lib.hid (Kept.refl _ _)⟩
  case round =>
    obtain ⟨i, hi, hk, rfl, rfl, HRW, HKE⟩ := hrel
    have Hk := Lib.hid hk
    clear hk
    by_cases hlt : i < s.size
    · have hli : (i : Int) < (s.size : Int) := by omega
      obtain ⟨x, hx⟩ : ∃ x, L[i]? = some x := ⟨_, List.getElem?_eq_getElem (by rw [HLEN.out]; exact hlt)⟩
      have hxl : x < s.size := HOR.out.lt x (List.mem_of_getElem? hx)
      have hll : (toB (K.lastC s.size (K.fS s.data.toList) (L.take i))).length = i := by simp [toB, K.lastC, HLEN.out]; omega
      have c0 := (HS2.out.kept HKE.out (by intro z hz hm; simp [footA] at hz; simp at hm; omega)).natC hx
      rw [Nat.zero_add] at c0
      have d0 := HRW.out.cellAt (j := i) (u := .int .u8 ((0 : UInt8).toNat : Nat)) (by
        rw [u8s_get _ _ (by rw [List.length_append, hll, List.length_replicate]; omega)]
        rw [List.getD, List.getElem?_append_right (by rw [hll]; exact Nat.le_refl _), hll, Nat.sub_self, List.getElem?_replicate, if_pos (by omega)]; rfl)
      have f0 := HRW.out.free i
      have hst := lastC_step s.size (K.fS s.data.toList) L i x hx
      have HST := Lib.hid hst
      have HLL := Lib.hid hll
      have HX := Lib.hid hx
      clear hst hll hx
      by_cases hx0 : x = 0
      · subst hx0
        have hr := rowA_yes L i HX.out HOR.out.nodup
        have HRA := Lib.hid hr
        have hlast : (s.size : Int) - 1 < (s.size : Int) := by omega
        have hnz : ((s.size : Int) - 1).toNat = s.size - 1 := by omega
        have hst := HST.out
        rw [HF0.out] at hst
        have HST0 := Lib.hid hst
        have hr9 := HRW.out.put i (.int .u8 ((s[s.size - 1]'(by omega)).toNat : Nat))
        rw [u8_next _ _ _ _ HLL.out hlt] at hr9
        have HR9 := Lib.hid hr9
        clear hr hr9 hst
        go_wp2_with fail
        go_roundg (s.size - (i + 1))
        case measure => have := Hk.out; omega
        case rel =>
          refine ⟨i + 1, by omega, rfl, by rw [HRA.out], by go_num, Lib.hid ?_, Lib.hid (HKE.out.setCell (p := ⟨o, i, none⟩) (.inl (by simp)) _)⟩
          rw [HST0.out, toB_snoc, UInt8.ofNat_toNat]; exact HR9.out
      · obtain ⟨y, rfl⟩ : ∃ y, x = y + 1 := ⟨x - 1, by omega⟩
        have hr := rowA_no L i _ HX.out hx0
        have HRA := Lib.hid hr
        have hyl : y < s.size := by omega
        have hyi : (y : Int) < (s.size : Int) := by omega
        have hye : ((y + 1 : Nat) : Int) = (y : Int) + 1 := by omega
        have hz0 : ((y : Int) + 1 == 0) = false := beq_eq_false_iff_ne.2 (by omega)
        rw [hye] at c0
        have hst := HST.out
        rw [HF1.out y hxl] at hst
        have HST0 := Lib.hid hst
        have hr9 := HRW.out.put i (.int .u8 ((s[y]'hyl).toNat : Nat))
        rw [u8_next _ _ _ _ HLL.out hlt] at hr9
        have HR9 := Lib.hid hr9
        have hy1 : (y : Int) + 1 - 1 = (y : Int) := by omega
        clear hr hr9 hst hx0 hye
        go_wp2_with fail
        go_roundg (s.size - (i + 1))
        case measure => have := Hk.out; omega
        case rel =>
          refine ⟨i + 1, by omega, rfl, by rw [HRA.out], by go_num, Lib.hid ?_, Lib.hid (HKE.out.setCell (p := ⟨o, i, none⟩) (.inl (by simp)) _)⟩
          rw [HST0.out, toB_snoc, UInt8.ofNat_toNat]; exact HR9.out
    · obtain rfl : i = s.size := by omega
      have hrw := HRW.out
      rw [Nat.sub_self, List.replicate_zero, List.append_nil, List.take_of_length_le (by rw [HLEN.out]; exact Nat.le_refl _)] at hrw
      have hct := Row.text hrw
      have HKF := Lib.hid HKE.out
      have hm : 0 ∈ L := HOR.out.perm.mem_iff.2 (List.mem_range.2 h0)
      have hra := rowA_all L s.size hm (by rw [HLEN.out]; exact Nat.le_refl _)
      have HRA := Lib.hid hra
      clear hrw hm hra
      go_wp2_with fail
      go_ret3
      refine ⟨L, HOR.out, by rw [HRA.out]; rfl, HK2.out.trans HKF.out ?_⟩
      intro z hz
      simp at hz
      subst hz
      exact .inr HO.out
end Go.Proofs.Ytaeppgooenbfiaa
