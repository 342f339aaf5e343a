/-
  The walks of prefix's longest, made and codes.
-/
import Derived.Test.YtodjfgdolegfpaaLenA
import Derived.Test.YtodjfgdolegfpaaLibF
import Derived.Test.YtodjfgdolegfpaaPlainA
import Derived.Test.YtodjfgdolegfpaaSymB
import Derived.Deep.RegionHeld3
import Derived.Deep.WholeRow
import Derived.BigQuiet
namespace Go.Proofs.Ytodjfgdolegfpaa
open Go.RowKit
set_option linter.unusedVariables false
set_option linter.unusedSimpArgs false

/-! ### The greatest -/
def maxL (xs : List Int) : Int := xs.foldl max 0
theorem maxL_snoc (xs : List Int) (x : Int) : maxL (xs ++ [x]) = max (maxL xs) x := by simp [maxL, List.foldl_append]
theorem maxL_ge (xs : List Int) : 0 ≤ maxL xs ∧ ∀ x ∈ xs, x ≤ maxL xs := by
  suffices h : ∀ n (xs : List Int), xs.length = n → 0 ≤ maxL xs ∧ ∀ x ∈ xs, x ≤ maxL xs from h _ xs rfl
  intro n
  induction n with
  | zero => intro xs h; rw [List.eq_nil_of_length_eq_zero h]; simp [maxL]
  | succ n ih =>
    intro xs h
    have hne : xs ≠ [] := by intro h2; simp [h2] at h
    have e := List.dropLast_concat_getLast hne
    obtain ⟨h1, h2⟩ := ih xs.dropLast (by simp [h])
    rw [← e, maxL_snoc]
    refine ⟨by omega, fun x hx => ?_⟩
    rcases List.mem_append.1 hx with hx | hx
    · have := h2 x hx; omega
    · have : x = xs.getLast hne := by simpa using hx
      omega
theorem maxL_le (xs : List Int) (b : Int) (hb : 0 ≤ b) (h : ∀ x ∈ xs, x ≤ b) : maxL xs ≤ b := by
  suffices this : ∀ n (xs : List Int), xs.length = n → (∀ x ∈ xs, x ≤ b) → maxL xs ≤ b from this _ xs rfl h
  intro n
  induction n with
  | zero => intro xs h _; rw [List.eq_nil_of_length_eq_zero h]; simpa [maxL] using hb
  | succ n ih =>
    intro xs h hx
    have hne : xs ≠ [] := by intro h2; simp [h2] at h
    have e := List.dropLast_concat_getLast hne
    have h1 := ih xs.dropLast (by simp [h]) (fun x hm => hx x (List.dropLast_subset _ hm))
    have h2 := hx _ (List.getLast_mem hne)
    rw [← e, maxL_snoc]
    omega
/-- In longest's loop: i are looked at. -/
def LongI (w0 : World) (xs : List Int) (k : Nat) (n c : Value) (w : World) : Prop :=
  ∃ i, i ≤ xs.length ∧ k = xs.length - i ∧ c = .int .i64 (i : Nat) ∧ n = .int .i64 (maxL (xs.take i)) ∧ w0 = w
theorem longest_any (a : Option Addr) (cap : Nat) (xs : List Int) (w : World) (h : Sees w 1 a xs.length (intVals xs)) (hlen : xs.length ≤ 140737488351232) :
    Calls Try.prog 43 #[.agg #[.slice a xs.length cap]] w fun e w' => e = .returned (.int .i64 (maxL xs)) ∧ Kept [] w w' := by
  have HS := Lib.hid h
  clear h
  go_enter Try.func43, Try.ntmps43
  go_wp2_with fail
  have hk0 : Kept [] w (w.alloc (.cells #[.slice a xs.length cap] 76)) := (Kept.refl _ _).alloc _
  generalize w.alloc (.cells #[.slice a xs.length cap] 76) = W0 at hk0 ⊢
  have HK := Lib.hid hk0
  clear hk0
  go_loopg [3, 9] xs.length (fun k n c wr => LongI W0 xs k n c wr)
  case atStart => exact ⟨0, by omega, by omega, rfl, rfl, rfl⟩
  case round =>
    obtain ⟨i, hi, hk, rfl, rfl, rfl⟩ := hrel
    have Hk := Lib.hid hk
    clear hk
    by_cases hlt : i < xs.length
    · have hli : (i : Int) < (xs.length : Int) := by omega
      obtain ⟨x, hx⟩ : ∃ x, xs[i]? = some x := ⟨_, List.getElem?_eq_getElem hlt⟩
      obtain ⟨b0, off, rfl, -⟩ := HS.out.at (by rw [intVals_length]; omega)
      have c0 := (HS.out.kept0 HK.out).int hx
      have ex : xs.take (i + 1) = xs.take i ++ [x] := by rw [List.take_add_one, hx]; rfl
      have hms := maxL_snoc (xs.take i) x
      rw [← ex] at hms
      have HM := Lib.hid hms
      clear ex hx hms
      generalize maxL (xs.take i) = M at HM ⊢
      go_wp2_with fail
      all_goals
        go_roundg (xs.length - (i + 1))
        case measure => have := Hk.out; omega
        case rel => exact ⟨i + 1, by omega, rfl, by go_num, by rw [HM.out]; congr 1; omega, rfl⟩
    · obtain rfl : i = xs.length := by omega
      have hR := List.take_length (l := xs)
      have HR := Lib.hid hR
      clear hR
      go_wp2_with fail
      go_ret
      exact ⟨by rw [HR.out]; rfl, HK.out⟩

/-! ### The table -/
/-- A table's cells. -/
def tabVals (ov dv : Value) (F B C : List Nat) : List Value := ov :: dv :: (natVals F ++ (natVals B ++ natVals C))
def zTab : List Value := .slice none 0 0 :: List.replicate 66 (.int .i64 0)
theorem Try.zTable (w : World) : (zeroValue 79).run Try.prog w = .ok (.agg (Value.slice none 0 0 :: zTab).toArray) w :=
  (zero_of_info (P := Try.prog) (t := 79) (v := .agg (Value.slice none 0 0 :: zTab).toArray) (n := 68) (by kernel_rfl)).1 w
def z22 : List Nat := List.replicate 22 0
theorem tab_new (ov : Value) : ov :: zTab = tabVals ov (.slice none 0 0) z22 z22 z22 := rfl
theorem tab_len (ov dv : Value) (F B C : List Nat) (hF : F.length = 22) (hB : B.length = 22) (hC : C.length = 22) : (tabVals ov dv F B C).length = 68 := by
  simp [tabVals, natVals_length, hF, hB, hC]
theorem nat_get (l : List Nat) (i x : Nat) (h : l[i]? = some x) : (natVals l)[i]? = some (.int .i64 (x : Int)) := by simp [natVals, h]
theorem nat_set (l : List Nat) (i x : Nat) : (natVals l).set i (.int .i64 (x : Int)) = natVals (l.set i x) := by simp [natVals, List.map_set]
section
variable {w : World} {g : Nat} {t : TypeId} {ov dv : Value} {F B C : List Nat}
theorem Tab.of (h : Arr w g t (tabVals ov dv F B C)) : w.cell? ⟨g, 0, none⟩ = some ov := h.cell rfl
theorem Tab.order (h : Arr w g t (tabVals ov dv F B C)) : w.cell? ⟨g, 1, none⟩ = some dv := h.cell rfl
theorem Tab.first (h : Arr w g t (tabVals ov dv F B C)) (i x : Nat) (hi : F[i]? = some x) : w.cell? ⟨g, 2 + i, none⟩ = some (.int .i64 (x : Int)) := by
  refine h.cell ?_
  rw [show 2 + i = i + 1 + 1 by omega, tabVals, List.getElem?_cons_succ, List.getElem?_cons_succ, List.getElem?_append_left (by rw [natVals_length]; exact (List.getElem?_eq_some_iff.1 hi).1)]
  exact nat_get F i x hi
theorem Tab.begin (h : Arr w g t (tabVals ov dv F B C)) (hF : F.length = 22) (i x : Nat) (hi : B[i]? = some x) : w.cell? ⟨g, 24 + i, none⟩ = some (.int .i64 (x : Int)) := by
  refine h.cell ?_
  rw [show 24 + i = 22 + i + 1 + 1 by omega, tabVals, List.getElem?_cons_succ, List.getElem?_cons_succ, List.getElem?_append_right (by rw [natVals_length]; omega), natVals_length, hF,
    show 22 + i - 22 = i by omega, List.getElem?_append_left (by rw [natVals_length]; exact (List.getElem?_eq_some_iff.1 hi).1)]
  exact nat_get B i x hi
theorem Tab.count (h : Arr w g t (tabVals ov dv F B C)) (hF : F.length = 22) (hB : B.length = 22) (i x : Nat) (hi : C[i]? = some x) : w.cell? ⟨g, 46 + i, none⟩ = some (.int .i64 (x : Int)) := by
  refine h.cell ?_
  rw [show 46 + i = 44 + i + 1 + 1 by omega, tabVals, List.getElem?_cons_succ, List.getElem?_cons_succ, List.getElem?_append_right (by rw [natVals_length]; omega), natVals_length, hF,
    List.getElem?_append_right (by rw [natVals_length]; omega), natVals_length, hB, show 44 + i - 22 - 22 = i by omega]
  exact nat_get C i x hi
theorem Tab.setOrder (h : Arr w g t (tabVals ov dv F B C)) (v : Value) : Arr (w.setCell ⟨g, 1, none⟩ v) g t (tabVals ov v F B C) := h.set 1 v
theorem Tab.setFirst (h : Arr w g t (tabVals ov dv F B C)) (i x : Nat) (hi : i < F.length) : Arr (w.setCell ⟨g, 2 + i, none⟩ (.int .i64 (x : Int))) g t (tabVals ov dv (F.set i x) B C) := by
  have := h.set (2 + i) (.int .i64 (x : Int))
  rw [show 2 + i = i + 1 + 1 by omega, tabVals, List.set_cons_succ, List.set_cons_succ, List.set_append_left _ _ (by rw [natVals_length]; exact hi), nat_set] at this
  rw [show 2 + i = i + 1 + 1 by omega]
  exact this
theorem Tab.setBegin (h : Arr w g t (tabVals ov dv F B C)) (hF : F.length = 22) (i x : Nat) (hi : i < B.length) : Arr (w.setCell ⟨g, 24 + i, none⟩ (.int .i64 (x : Int))) g t (tabVals ov dv F (B.set i x) C) := by
  have := h.set (24 + i) (.int .i64 (x : Int))
  rw [show 24 + i = 22 + i + 1 + 1 by omega, tabVals, List.set_cons_succ, List.set_cons_succ, List.set_append_right _ _ (by rw [natVals_length]; omega), natVals_length, hF,
    show 22 + i - 22 = i by omega, List.set_append_left _ _ (by rw [natVals_length]; exact hi), nat_set] at this
  rw [show 24 + i = 22 + i + 1 + 1 by omega]
  exact this
theorem Tab.setCount (h : Arr w g t (tabVals ov dv F B C)) (hF : F.length = 22) (hB : B.length = 22) (i x : Nat) : Arr (w.setCell ⟨g, 46 + i, none⟩ (.int .i64 (x : Int))) g t (tabVals ov dv F B (C.set i x)) := by
  have := h.set (46 + i) (.int .i64 (x : Int))
  rw [show 46 + i = 44 + i + 1 + 1 by omega, tabVals, List.set_cons_succ, List.set_cons_succ, List.set_append_right _ _ (by rw [natVals_length]; omega), natVals_length, hF,
    List.set_append_right _ _ (by rw [natVals_length]; omega), natVals_length, hB, show 44 + i - 22 - 22 = i by omega, nat_set] at this
  rw [show 46 + i = 44 + i + 1 + 1 by omega]
  exact this
end
end Go.Proofs.Ytodjfgdolegfpaa
