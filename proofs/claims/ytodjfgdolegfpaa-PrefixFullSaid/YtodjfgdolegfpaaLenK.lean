/-
  Make and Flat, of lengths and of the reference, for any weights.
-/
import Derived.Test.YtodjfgdolegfpaaLenH
import Derived.Test.YtodjfgdolegfpaaLenJ
namespace Go.Proofs.Ytodjfgdolegfpaa
open Go.RowKit
set_option linter.unusedVariables false
set_option linter.unusedSimpArgs false

/-- What Make answers. -/
def MakeAns (xs : List Int) (most : Int) (p : List Nat × Nat) : Prop :=
  ((mayL xs && mostOk most) = false ∧ p = ([], 2)) ∨ ((mayL xs && mostOk most) = true ∧ p.2 = 0 ∧ ∃ n, n ≤ 39 ∧ K.MadeN most.toNat n (ownN xs) p.1)
theorem make_ans (xs : List Int) (most : Int) : ∃ p, MakeAns xs most p := by
  cases h : (mayL xs && mostOk most) with
  | false => exact ⟨_, .inl ⟨h, rfl⟩⟩
  | true =>
    rw [Bool.and_eq_true] at h
    obtain ⟨h1, h2⟩ := h
    unfold mostOk at h2
    rw [decide_eq_true_eq] at h2
    obtain ⟨h3, h4, h5⟩ := mayL_get h1
    obtain ⟨n, ls, hn, hm⟩ := K.made_any most.toNat (by omega) 30 (ownN xs) (fun x hx => (ownN_bd h1 x hx).1) (by rw [ownN_length]; omega) (by rw [ownN_length]; omega) (fun x hx => by
      have := (ownN_bd h1 x hx).2
      omega)
    exact ⟨(ls, 0), .inr ⟨by rw [h1]; unfold mostOk; simp; omega, rfl, n, by omega, hm⟩⟩
theorem wmake_any (a : Option Addr) (c : Nat) (xs : List Int) (most : Int) (p : List Nat × Nat) (w : World) (h : Sees w 1 a xs.length (intVals xs)) (hl : xs.length ≤ 17592186043904) (hp : MakeAns xs most p) :
    Calls Try.prog 22 #[.slice a xs.length c, .int .i64 most] w (NatsPost p w) := by
  rcases hp with ⟨h1, rfl⟩ | ⟨h1, h2, n, h3, h4⟩
  · exact wmake_bad a c xs most w h hl h1
  · obtain ⟨ls, er⟩ := p
    simp only at h2 h4
    subst h2
    rw [Bool.and_eq_true] at h1
    obtain ⟨h5, h6⟩ := h1
    unfold mostOk at h6
    rw [decide_eq_true_eq] at h6
    have := wmake_good a c xs most.toNat n ls w h h5 (by omega) (by omega) h4
    rwa [show ((most.toNat : Nat) : Int) = most by omega] at this
/-- What is made: so many, none above the most, no room left. -/
theorem MakeAns.ok {xs : List Int} {most : Int} {p : List Nat × Nat} (h : MakeAns xs most p) (h0 : p.2 = 0) : mayL xs = true ∧ p.1.length = xs.length ∧ (∀ x ∈ p.1, 1 ≤ x ∧ (x : Int) ≤ most ∧ x ≤ 20) ∧ fullL (p.1.map fun n : Nat => (n : Int)) = true := by
  rcases h with ⟨h1, rfl⟩ | ⟨h1, h2, n, h3, h4⟩
  · simp at h0
  · rw [Bool.and_eq_true] at h1
    obtain ⟨h5, h6⟩ := h1
    unfold mostOk at h6
    rw [decide_eq_true_eq] at h6
    obtain ⟨k1, k2, k3⟩ := K.madeN_ok h4
    rw [ownN_length] at k1
    obtain ⟨m1, m2, m3⟩ := mayL_get h5
    have k4 := k3 20 (by omega)
    have k5 := K.made_pos (by omega) k4
    refine ⟨h5, k1, fun x hx => ⟨k5 x hx, by have := k2 x hx; omega, by have := k2 x hx; omega⟩, ?_⟩
    unfold fullL sumR
    have e1 : K.natsOf (p.1.map fun n : Nat => (n : Int)) = p.1 := by
      simp only [K.natsOf, List.map_map]
      conv => rhs; rw [← List.map_id p.1]
      apply List.map_congr_left
      intro x _
      simp
    have e2 : K.lensOk (p.1.map fun n : Nat => (n : Int)) = true := by
      unfold K.lensOk
      rw [Bool.and_eq_true, List.all_eq_true, List.length_map]
      refine ⟨by simp; omega, fun y hy => ?_⟩
      obtain ⟨x, hx, rfl⟩ := List.mem_map.1 hy
      have a := k5 x hx
      have b := k2 x hx
      rw [decide_eq_true_eq]
      omega
    rw [e2, if_pos rfl, e1, decide_eq_true_eq]
    have e3 : K.room p.1 = (p.1.map fun x => 2 ^ (20 - x)).sum := rfl
    rw [e3, k4]

/-- What Flat answers. -/
def flatR (xs : List Int) : List Nat × Nat := if mayL xs then (K.flatL (ownN xs), 0) else ([], 2)
namespace K
theorem over_5111 : (hrun [5, 1, 1, 1] 3).2 = [6, 4, 4, 5, 5, 6, 0] := by decide +kernel
theorem told_5111 : Told [5, 1, 1, 1] [1, 3, 3, 2] := by
  obtain ⟨ls, h⟩ := hrun_lens [5, 1, 1, 1] (by decide) (by decide)
  have h' : LensOf [5, 1, 1, 1] ls [6, 4, 4, 5, 5, 6, 0] := by rw [← over_5111]; exact h
  have e : ls = [1, 3, 3, 2] := by
    have hl := h'.len
    have u0 : Up [6, 4, 4, 5, 5, 6, 0] 0 1 6 := .step rfl (by decide) (.here 6)
    have u3 : Up [6, 4, 4, 5, 5, 6, 0] 3 2 6 := .step rfl (by decide) (.step rfl (by decide) (.here 6))
    have u1 : Up [6, 4, 4, 5, 5, 6, 0] 1 3 6 := .step rfl (by decide) (.step rfl (by decide) (.step rfl (by decide) (.here 6)))
    have u2 : Up [6, 4, 4, 5, 5, 6, 0] 2 3 6 := .step rfl (by decide) (.step rfl (by decide) (.step rfl (by decide) (.here 6)))
    obtain ⟨r0, v0, z0⟩ := h'.up 0 (by decide)
    obtain ⟨r1, v1, z1⟩ := h'.up 1 (by decide)
    obtain ⟨r2, v2, z2⟩ := h'.up 2 (by decide)
    obtain ⟨r3, v3, z3⟩ := h'.up 3 (by decide)
    have e0 := (v0.one z0 u0 (by decide)).1
    have e1 := (v1.one z1 u1 (by decide)).1
    have e2 := (v2.one z2 u2 (by decide)).1
    have e3 := (v3.one z3 u3 (by decide)).1
    match ls, hl with
    | [a, b, c, d], _ =>
      simp at e0 e1 e2 e3
      rw [e0, e1, e2, e3]
  rw [← e]
  exact h
end K
theorem ans_5111 : MakeAns [5, 1, 1, 1] 17 ([1, 3, 3, 2], 0) :=
  .inr ⟨by decide, rfl, 0, by decide, K.told_5111, by decide⟩
theorem flat_191 : flatR [1, 9, 1] = ([2, 1, 2], 0) := by decide +kernel
theorem cost_31 : costN [3, 1] [1, 2] = 5 ∧ costE [3, 1] [1, 2] = 0 := by decide +kernel
theorem check_111 : checkR [1, 1, 1] = 80 := by decide +kernel
theorem full_11 : fullL [1, 1] = true := by decide +kernel
end Go.Proofs.Ytodjfgdolegfpaa
