/-
  The walk of bwt.Forward, over what slices.SortFunc does. bwt.Back and kistref05.Back whatever is asked; the walk of kistlaw05's awake. A text and its rotations are read out of the last column: joined with the walks.
-/
import Derived.Test.YtaeppgooenbfiaaBwtA
import Derived.Test.YtaeppgooenbfiaaPlainB1
import Derived.Test.YtaeppgooenbfiaaRotE
import Derived.Test.YtaeppgooenbfiaaRotH
import Derived.Test.YtaeppgooenbfiaaAwakeR
import Derived.Test.YtaeppgooenbfiaaRotS7
import Derived.Test.YtaeppgooenbfiaaPlainX
namespace Go.Proofs.Ytaeppgooenbfiaa
open Go.RowKit Go.Sort
set_option linter.unusedVariables false
set_option linter.unusedSimpArgs false

/-- The row of the text itself, among the first k. -/
def rowA (L : List Nat) (k : Nat) : Nat := if L.idxOf 0 < k then L.idxOf 0 else 0
theorem rowA_zero (L : List Nat) : rowA L 0 = 0 := by unfold rowA; rw [if_neg (by omega)]
theorem idx_lt (L : List Nat) (k : Nat) (hk : L[k]? = some 0) (hnd : L.Nodup) : L.idxOf 0 = k := by
  obtain ⟨h, he⟩ := List.getElem?_eq_some_iff.1 hk
  have hm : (0 : Nat) ∈ L := List.mem_of_getElem? hk
  have hi := List.idxOf_lt_length_of_mem hm
  have h0 : L[L.idxOf 0] = 0 := List.getElem_idxOf hi
  have hne := List.pairwise_iff_getElem.1 (show L.Pairwise (· ≠ ·) from hnd)
  rcases Nat.lt_trichotomy (L.idxOf 0) k with h1 | h1 | h1
  · exact absurd (h0.trans he.symm) (hne _ _ hi h h1)
  · exact h1
  · exact absurd (he.trans h0.symm) (hne _ _ h hi h1)
theorem rowA_yes (L : List Nat) (k : Nat) (hk : L[k]? = some 0) (hnd : L.Nodup) : rowA L (k + 1) = k := by
  have := idx_lt L k hk hnd
  unfold rowA
  rw [if_pos (by omega), this]
theorem rowA_no (L : List Nat) (k x : Nat) (hk : L[k]? = some x) (hx : x ≠ 0) : rowA L (k + 1) = rowA L k := by
  have : L.idxOf 0 ≠ k := by
    intro h
    obtain ⟨h2, he⟩ := List.getElem?_eq_some_iff.1 hk
    have h0 : L[L.idxOf 0]'(by omega) = 0 := List.getElem_idxOf (by omega)
    simp only [h] at h0
    omega
  unfold rowA
  by_cases h : L.idxOf 0 < k
  · rw [if_pos (by omega), if_pos h]
  · rw [if_neg (by omega), if_neg h]
theorem rowA_all (L : List Nat) (k : Nat) (h : 0 ∈ L) (hk : L.length ≤ k) : rowA L k = L.idxOf 0 := by
  have := List.idxOf_lt_length_of_mem h
  unfold rowA
  rw [if_pos (by omega)]

/-- What Forward answers. -/
def FwdPost (bs : List UInt8) (row er : Nat) (w : World) (e : Ending) (w' : World) : Prop :=
  e = .returned (.tuple #[.string ⟨bs.toArray⟩, .int .i64 (row : Nat), .int .i64 (er : Nat)]) ∧ Kept [] w w'
def FwdOk (s : ByteArray) (w : World) (e : Ending) (w' : World) : Prop :=
  ∃ L, K.Ordered s.size (K.fS s.data.toList) s.size L ∧ FwdPost (toB (K.lastC s.size (K.fS s.data.toList) L)) (L.idxOf 0) 0 w e w'
theorem lastC_step (n : Nat) (f : Nat → Nat) (L : List Nat) (k x : Nat) (h : L[k]? = some x) : K.lastC n f (L.take (k + 1)) = K.lastC n f (L.take k) ++ [f (x + n - 1)] := by
  unfold K.lastC
  rw [List.take_add_one, h, List.map_append]; rfl

theorem byte_congr (s : ByteArray) (a b : Nat) (ha : a < s.size) (hb : b < s.size) (h : a = b) : (s[a]'ha).toNat = (s[b]'hb).toNat := by subst h; rfl
theorem fS_at (s : ByteArray) (t i : Nat) (h0 : 0 < s.size) (hi : i < s.size) (h : t % s.size = i) : K.fS s.data.toList t = (s[i]'hi).toNat := by
  obtain ⟨hb, h1⟩ := byte_fS s t 0 h0
  exact h1.trans (byte_congr s _ _ _ _ h)

set_option maxRecDepth 100000 in
set_option maxHeartbeats 4000000 in
theorem forward_in (s : ByteArray) (w : World) (h0 : 0 < s.size) (hs : s.size ≤ 262144) (hSort : SortC s.size) : Calls Try.prog 25 #[.string s] w (FwdOk s w) := by
  have hord := fun w => order_new s w (by omega) hSort
  have HORD := Lib.hid hord
  have hbl := byte_len s
  have HBL := Lib.hid hbl
  have g0 : s.toList.isEmpty = false := by
    rw [ByteArray.toList_eq]
    cases h : s.data.toList with
    | nil => rw [h] at hbl; simp at hbl; omega
    | cons a b => rfl
  have g1 : decide (262144 < (s.size : Int)) = false := by simp; omega
  clear hord hSort hbl
  go_enter Try.func25, Try.ntmps25
  go_wp2_with ((at_make; refine wp_make1 rfl _ _ 57 rfl 5 (.int .u8 0) 1 Try.underlying57 Try.infoU8 rfl .i64 .i64 _ _ s.size s.size rfl rfl rfl rfl (by omega) (by omega) (by simp only [maxLen]; omega) ?_; intro w1 hrow1 hk1))
  have HR1 := Lib.hid hrow1
  have HK1 := Lib.hid hk1
  obtain ⟨o, ho⟩ : ∃ o, w.heap.size = o := ⟨_, rfl⟩
  rw [ho] at HR1 ⊢
  have HO := Lib.hid (show w.heap.size ≤ o by omega)
  clear hrow1 hk1 ho
  refine (HORD.out w1).mono ?_
  rintro e w2 ⟨g, L, rfl, hO, hrow2, hk2, hge⟩
  have hf0 : K.fS s.data.toList (0 + s.size - 1) = (s[s.size - 1]'(by omega)).toNat := fS_at s _ _ h0 _ (by rw [Nat.zero_add, Nat.mod_eq_of_lt (by omega)])
  have hf1 : ∀ i (h : i + 1 < s.size), K.fS s.data.toList (i + 1 + s.size - 1) = (s[i]'(by omega)).toNat := fun i hi => fS_at s _ _ h0 _ (by rw [show i + 1 + s.size - 1 = i + s.size by omega, Nat.add_mod_right, Nat.mod_eq_of_lt (by omega)])
  have hgo : o < w2.heap.size := by
    have := hk2.size
    have := HR1.out.lt o (by simp [foot, Value.ownBlock])
    omega
  have hrw0 : Row w2 5 (.slice (some ⟨o, 0, none⟩) s.size s.size) (u8s (toB (K.lastC s.size (K.fS s.data.toList) (L.take 0)) ++ List.replicate (s.size - 0) 0)) := by
    have : u8s (toB (K.lastC s.size (K.fS s.data.toList) (L.take 0)) ++ List.replicate (s.size - 0) 0) = List.replicate s.size (.int .u8 0) := by simp [u8s, toB, K.lastC]
    rw [this]; exact HR1.out.kept hk2 (by simp)
  have hng : g ≠ o := by
    have := HR1.out.lt o (by simp [foot, Value.ownBlock])
    omega
  have HF0 := Lib.hid hf0
  have HF1 := Lib.hid hf1
  have HOR := Lib.hid hO
  have HS2 := Lib.hid hrow2.seeA
  have HRW0 := Lib.hid hrw0
  have HK2 := Lib.hid (HK1.out.trans hk2 (by simp))
  have HLEN := Lib.hid hO.len
  clear hf0 hf1 hO hrow2 hk2 hrw0 HORD
  go_wp2_with fail
  go_loopg [6, 20] s.size (fun k v c wr => ∃ i : Nat, i ≤ s.size ∧ k = s.size - i ∧ v = .int .i64 (rowA L i : Nat) ∧ c = .int .i64 (i : Nat) ∧ Hid (Row wr 5 (.slice (some ⟨o, 0, none⟩) s.size s.size) (u8s (toB (K.lastC s.size (K.fS s.data.toList) (L.take i)) ++ List.replicate (s.size - i) 0))) ∧ Hid (Kept [o] w2 wr))
  case atStart => exact ⟨0, by omega, by omega, by rw [rowA_zero]; rfl, rfl, HRW0, Lib.hid (Kept.refl _ _)⟩
  case round =>
    obtain ⟨i, hi, hk, rfl, rfl, HRW, HKE⟩ := hrel
    have Hk := Lib.hid hk
    clear hk
    by_cases hlt : i < s.size
    · have hli : (i : Int) < (s.size : Int) := by omega
      obtain ⟨x, hx⟩ : ∃ x, L[i]? = some x := ⟨_, List.getElem?_eq_getElem (by rw [HLEN.out]; exact hlt)⟩
      have hxl : x < s.size := HOR.out.lt x (List.mem_of_getElem? hx)
      have hll : (toB (K.lastC s.size (K.fS s.data.toList) (L.take i))).length = i := by simp [toB, K.lastC, HLEN.out]; omega
      have c0 := (HS2.out.kept HKE.out (by intro z hz hm; simp [footA] at hz; simp at hm; omega)).natC hx
      rw [Nat.zero_add] at c0
      have d0 := HRW.out.cellAt (j := i) (u := .int .u8 ((0 : UInt8).toNat : Nat)) (by
        rw [u8s_get _ _ (by rw [List.length_append, hll, List.length_replicate]; omega)]
        rw [List.getD, List.getElem?_append_right (by rw [hll]; exact Nat.le_refl _), hll, Nat.sub_self, List.getElem?_replicate, if_pos (by omega)]; rfl)
      have f0 := HRW.out.free i
      have hst := lastC_step s.size (K.fS s.data.toList) L i x hx
      have HST := Lib.hid hst
      have HLL := Lib.hid hll
      have HX := Lib.hid hx
      clear hst hll hx
      by_cases hx0 : x = 0
      · subst hx0
        have hr := rowA_yes L i HX.out HOR.out.nodup
        have HRA := Lib.hid hr
        have hlast : (s.size : Int) - 1 < (s.size : Int) := by omega
        have hnz : ((s.size : Int) - 1).toNat = s.size - 1 := by omega
        have hst := HST.out
        rw [HF0.out] at hst
        have HST0 := Lib.hid hst
        have hr9 := HRW.out.put i (.int .u8 ((s[s.size - 1]'(by omega)).toNat : Nat))
        rw [u8_next _ _ _ _ HLL.out hlt] at hr9
        have HR9 := Lib.hid hr9
        clear hr hr9 hst
        go_wp2_with fail
        go_roundg (s.size - (i + 1))
        case measure => have := Hk.out; omega
        case rel =>
          refine ⟨i + 1, by omega, rfl, by rw [HRA.out], by go_num, Lib.hid ?_, Lib.hid (HKE.out.setCell (p := ⟨o, i, none⟩) (.inl (by simp)) _)⟩
          rw [HST0.out, toB_snoc, UInt8.ofNat_toNat]; exact HR9.out
      · obtain ⟨y, rfl⟩ : ∃ y, x = y + 1 := ⟨x - 1, by omega⟩
        have hr := rowA_no L i _ HX.out hx0
        have HRA := Lib.hid hr
        have hyl : y < s.size := by omega
        have hyi : (y : Int) < (s.size : Int) := by omega
        have hye : ((y + 1 : Nat) : Int) = (y : Int) + 1 := by omega
        have hz0 : ((y : Int) + 1 == 0) = false := beq_eq_false_iff_ne.2 (by omega)
        rw [hye] at c0
        have hst := HST.out
        rw [HF1.out y hxl] at hst
        have HST0 := Lib.hid hst
        have hr9 := HRW.out.put i (.int .u8 ((s[y]'hyl).toNat : Nat))
        rw [u8_next _ _ _ _ HLL.out hlt] at hr9
        have HR9 := Lib.hid hr9
        have hy1 : (y : Int) + 1 - 1 = (y : Int) := by omega
        clear hr hr9 hst hx0 hye
        go_wp2_with fail
        go_roundg (s.size - (i + 1))
        case measure => have := Hk.out; omega
        case rel =>
          refine ⟨i + 1, by omega, rfl, by rw [HRA.out], by go_num, Lib.hid ?_, Lib.hid (HKE.out.setCell (p := ⟨o, i, none⟩) (.inl (by simp)) _)⟩
          rw [HST0.out, toB_snoc, UInt8.ofNat_toNat]; exact HR9.out
    · obtain rfl : i = s.size := by omega
      have hrw := HRW.out
      rw [Nat.sub_self, List.replicate_zero, List.append_nil, List.take_of_length_le (by rw [HLEN.out]; exact Nat.le_refl _)] at hrw
      have hct := Row.text hrw
      have HKF := Lib.hid HKE.out
      have hm : 0 ∈ L := HOR.out.perm.mem_iff.2 (List.mem_range.2 h0)
      have hra := rowA_all L s.size hm (by rw [HLEN.out]; exact Nat.le_refl _)
      have HRA := Lib.hid hra
      clear hrw hm hra
      go_wp2_with fail
      go_ret3
      refine ⟨L, HOR.out, by rw [HRA.out]; rfl, HK2.out.trans HKF.out ?_⟩
      intro z hz
      simp at hz
      subst hz
      exact .inr HO.out
end Go.Proofs.Ytaeppgooenbfiaa
namespace Go.Proofs.Ytaeppgooenbfiaa
open Go.RowKit Go.Sort
set_option linter.unusedVariables false
set_option linter.unusedSimpArgs false

/-- What Back answers. -/
def backA (s : ByteArray) (row : Int) : List UInt8 × Nat :=
  if 262144 < s.size then ([], 3) else if row < 0 ∨ (s.size : Int) ≤ row then ([], 50) else (toB (K.readB (K.firstR s.data.toList) (K.stab (K.firstR s.data.toList) 256) s.size row.toNat), 0)

set_option maxRecDepth 100000 in
theorem back_any (s : ByteArray) (row : Int) (w : World) (hs : s.size ≤ 140737488351232) : Calls Try.prog 27 #[.string s, .int .i64 row] w (TextPost (backA s row) w) := by
  unfold backA
  by_cases hb : 262144 < s.size
  · have g1 : decide (262144 < (s.size : Int)) = true := by simp; omega
    rw [if_pos hb]
    clear hb
    go_enter Try.func27, Try.ntmps27
    go_wp2_with fail
    go_ret2
    exact ⟨rfl, Kept.refl _ _⟩
  · have g1 : decide (262144 < (s.size : Int)) = false := by simp; omega
    rw [if_neg hb]
    by_cases hr : row < 0
    · have g2 : decide (row < 0) = true := decide_eq_true hr
      rw [if_pos (.inl hr)]
      clear hb
      go_enter Try.func27, Try.ntmps27
      go_wp2_with fail
      go_ret2
      exact ⟨rfl, Kept.refl _ _⟩
    · obtain ⟨r, rfl⟩ := Int.eq_ofNat_of_zero_le (show 0 ≤ row by omega)
      by_cases hge : s.size ≤ r
      · have g3 : (s.size : Int) ≤ (r : Int) := by omega
        rw [if_pos (.inr g3)]
        clear hb hr
        go_enter Try.func27, Try.ntmps27
        go_wp2_with fail
        go_ret2
        exact ⟨rfl, Kept.refl _ _⟩
      · rw [if_neg (by omega), Int.toNat_natCast]
        exact back_in s r w (by omega) (by omega)

set_option maxRecDepth 100000 in
theorem rback_any (s : ByteArray) (row : Int) (w : World) (hs : s.size ≤ 140737488351232) : Calls Try.prog 28 #[.string s, .int .i64 row] w (TextPost (backA s row) w) := by
  unfold backA
  by_cases hb : 262144 < s.size
  · have g1 : decide (262144 < (s.size : Int)) = true := by simp; omega
    rw [if_pos hb]
    clear hb
    go_enter Try.func28, Try.ntmps28
    go_wp2_with fail
    go_ret2
    exact ⟨rfl, Kept.refl _ _⟩
  · have g1 : decide (262144 < (s.size : Int)) = false := by simp; omega
    rw [if_neg hb]
    by_cases hr : row < 0
    · have g2 : decide (row < 0) = true := decide_eq_true hr
      rw [if_pos (.inl hr)]
      clear hb
      go_enter Try.func28, Try.ntmps28
      go_wp2_with fail
      go_ret2
      exact ⟨rfl, Kept.refl _ _⟩
    · obtain ⟨r, rfl⟩ := Int.eq_ofNat_of_zero_le (show 0 ≤ row by omega)
      by_cases hge : s.size ≤ r
      · have g3 : (s.size : Int) ≤ (r : Int) := by omega
        rw [if_pos (.inr g3)]
        clear hb hr
        go_enter Try.func28, Try.ntmps28
        go_wp2_with fail
        go_ret2
        exact ⟨rfl, Kept.refl _ _⟩
      · rw [if_neg (by omega), Int.toNat_natCast]
        exact rback_in s r w (by omega) (by omega)

theorem banana_last : toB (K.lastC 6 (K.fS [98, 97, 110, 97, 110, 97]) [5, 3, 1, 0, 4, 2]) = [110, 110, 98, 97, 97, 97] := by decide +kernel
theorem ab_back : backA ⟨#[97, 98]⟩ 1 = ([98, 98], 0) := by decide +kernel

set_option maxRecDepth 100000 in
set_option maxHeartbeats 1000000 in
theorem awakeB (w : World) : Calls Try.prog 24 #[] w fun e w' => e = .returned (.bool true) ∧ Kept [] w w' := by
  go_enter Try.func24, Try.ntmps24
  go_wp2_with fail
  refine (forward_in ⟨#[98, 97, 110, 97, 110, 97]⟩ _ (by decide) (by decide) (sort_small _ (by decide))).mono ?_
  rintro e w1 ⟨L, hO, rfl, hk1⟩
  obtain rfl := banana_ord L hO
  rw [show toB (K.lastC (ByteArray.size ⟨#[98, 97, 110, 97, 110, 97]⟩) (K.fS (ByteArray.data ⟨#[98, 97, 110, 97, 110, 97]⟩).toList) [5, 3, 1, 0, 4, 2]) = [110, 110, 98, 97, 97, 97] from banana_last, show List.idxOf 0 [5, 3, 1, 0, 4, 2] = 3 from by decide]
  have HK1 := Lib.hid hk1
  clear hO hk1
  go_wp2_with fail
  refine (back_any ⟨#[97, 98]⟩ 1 _ (by decide)).mono ?_
  rw [ab_back]
  rintro e w2 ⟨rfl, hk2⟩
  have HK2 := Lib.hid (HK1.out.new hk2 (by simp [Fresh]))
  clear hk2
  go_wp2_with fail
  go_ret
  exact ⟨rfl, HK2.out⟩
end Go.Proofs.Ytaeppgooenbfiaa
namespace Go.Proofs.Ytaeppgooenbfiaa
open Go.RowKit Go.Sort
set_option linter.unusedVariables false
set_option linter.unusedSimpArgs false

theorem firstR_toB (l : List Nat) (h : ∀ x ∈ l, x < 256) : K.firstR (toB l) = l := by
  unfold K.firstR toB
  rw [List.map_map]
  have : l.map (UInt8.toNat ∘ UInt8.ofNat) = l.map id := List.map_congr_left fun x hx => by
    have := h x hx
    simp only [Function.comp, UInt8.toNat_ofNat', id]
    omega
  rw [this, List.map_id]
theorem mk_size (l : List UInt8) : (ByteArray.mk l.toArray).size = l.length := by
  have := byte_len (ByteArray.mk l.toArray)
  rw [← this]
theorem mk_list (l : List UInt8) : (ByteArray.mk l.toArray).data.toList = l := by simp
theorem mk_self (s : ByteArray) : (ByteArray.mk s.data.toList.toArray) = s := by simp
theorem lastC_lt (n : Nat) (f : Nat → Nat) (hf : ∀ i, f i < 256) (L : List Nat) : ∀ x ∈ K.lastC n f L, x < 256 := by
  intro x hx; simp only [K.lastC, List.mem_map] at hx; obtain ⟨i, -, rfl⟩ := hx; exact hf _
theorem per_of (s : ByteArray) (h0 : 0 < s.size) : K.Per s.size (K.fS s.data.toList) :=
  ⟨K.fS_lt _, fun i => by have := K.fS_per s.data.toList i; rwa [byte_len] at this, h0⟩
theorem rot_bytes (s : ByteArray) (i : Nat) (hi : i < s.size) : toB ((List.range s.size).map fun t => K.fS s.data.toList (i + t)) = s.data.toList.drop i ++ s.data.toList.take i := by
  have hl := byte_len s
  apply List.ext_getElem?
  intro j
  by_cases hj : j < s.size
  · rw [K.rot_get s.data.toList i j (by omega) (by omega)]
    unfold toB
    rw [List.getElem?_map, List.getElem?_map, List.getElem?_range hj]
    simp only [Option.map_some, Option.some.injEq]
    unfold K.fS K.fB
    rw [UInt8.ofNat_toNat, Nat.add_comm]
  · rw [List.getElem?_eq_none (by simp [toB]; omega), List.getElem?_eq_none (by simp; omega)]
/-- What Back answers at a text's last column. -/
theorem back_last (s : ByteArray) (L : List Nat) (h0 : 0 < s.size) (hs : s.size ≤ 262144) (hO : K.Ordered s.size (K.fS s.data.toList) s.size L) (row : Nat) (hrow : row < s.size) :
    backA (ByteArray.mk (toB (K.lastC s.size (K.fS s.data.toList) L)).toArray) (row : Nat) = (s.data.toList.drop (L.getD row 0) ++ s.data.toList.take (L.getD row 0), 0) := by
  have hl : (toB (K.lastC s.size (K.fS s.data.toList) L)).length = s.size := by rw [toB, List.length_map, K.lastC, List.length_map, hO.len]
  have hsz := mk_size (toB (K.lastC s.size (K.fS s.data.toList) L))
  rw [hl] at hsz
  have hr := K.read_rows (per_of s h0) hO row hrow
  have hi : L.getD row 0 < s.size := by
    rw [List.getD, List.getElem?_eq_getElem (by rw [hO.len]; exact hrow)]
    exact hO.lt _ (List.getElem_mem _)
  unfold backA
  rw [hsz, if_neg (by omega), if_neg (by omega), mk_list, firstR_toB _ (lastC_lt _ _ (K.fS_lt _) _), Int.toNat_natCast, hr, rot_bytes s _ hi]
theorem idx_row {n : Nat} {f : Nat → Nat} {L : List Nat} (hO : K.Ordered n f n L) (i : Nat) (hi : i < n) : L.idxOf i < n ∧ L.getD (L.idxOf i) 0 = i := by
  have hm : i ∈ L := hO.perm.mem_iff.2 (List.mem_range.2 hi)
  have hlt := List.idxOf_lt_length_of_mem hm
  rw [hO.len] at hlt
  refine ⟨hlt, ?_⟩
  rw [List.getD, List.getElem?_eq_getElem (by rw [hO.len]; exact hlt)]
  exact List.getElem_idxOf (by rw [hO.len]; exact hlt)
end Go.Proofs.Ytaeppgooenbfiaa
