/-
  The walks of bwt's step and its function next.
-/
import Derived.Test.YtaeppgooenbfiaaRotA
import Derived.Test.YtaeppgooenbfiaaPlainB1
import Derived.StillTailTactics
namespace Go.Proofs.Ytaeppgooenbfiaa
open Go.RowKit
set_option linter.unusedVariables false
set_option linter.unusedSimpArgs false

theorem next_ok (ob h n c p : Nat) (P : List Nat) (w : World) (hc : w.cell? ⟨ob, 0, none⟩ = some (.slice (some ⟨h, 0, none⟩) n c)) (hS : Sees w 1 (some ⟨h, 0, none⟩) n (natVals P)) (hl : P.length = n) (hp : p < n) (hn : n ≤ 1000000000) :
    Calls Try.prog 36 #[.int .i64 p, .pointer (some ⟨ob, 0, none⟩)] w fun e w' => e = .returned (.int .i64 (P.getD p 0 : Nat)) ∧ w = w' := by
  have hx : P[p]? = some (P.getD p 0) := by rw [List.getD, List.getElem?_eq_getElem (by omega)]; rfl
  have c0 := hS.natC hx
  rw [Nat.zero_add] at c0
  generalize P.getD p 0 = x at *
  have hpn : (p : Int) < (n : Int) := by omega
  clear hS hx hl
  go_enter Try.func36, Try.ntmps36
  go_wp2_with fail
  go_ret
  exact ⟨rfl, rfl⟩

/-- The function next, as a value. -/
def nextV (ob : Nat) : Value := .func (.func 36) #[] #[.pointer (some ⟨ob, 0, none⟩)]

theorem step_ok (g ob h n c p : Nat) (P : List Nat) (w : World) (hA : Arr w g 61 [nextV ob, .int .i64 p]) (hc : w.cell? ⟨ob, 0, none⟩ = some (.slice (some ⟨h, 0, none⟩) n c)) (hS : Sees w 1 (some ⟨h, 0, none⟩) n (natVals P)) (hl : P.length = n) (hp : p < n) (hn : n ≤ 1000000000) :
    Calls Try.prog 37 #[.pointer (some ⟨g, 0, none⟩)] w fun e w' => e = .returned (.int .i64 (P.getD p 0 : Nat)) ∧ Arr w' g 61 [nextV ob, .int .i64 (P.getD p 0 : Nat)] ∧ Kept [g] w w' := by
  have a0 := hA.cell (i := 0) rfl
  have a1 := hA.cell (i := 1) rfl
  have f1 := hA.free 1
  have hA2 : Arr (w.drew.setCell ⟨g, 1, none⟩ (.int .i64 (P.getD p 0 : Nat))) g _ _ := Arr.set (w := w.drew) hA 1 (.int .i64 (P.getD p 0 : Nat))
  have HA2 := Lib.hid hA2
  have HS := Lib.hid hS
  obtain ⟨x, hx⟩ : ∃ x, P.getD p 0 = x := ⟨_, rfl⟩
  have hnx := next_ok ob h n c p P w.drew hc hS hl hp hn
  rw [hx] at hnx HA2 ⊢
  have hnx2 : Calls Try.prog 36 #[.int .i64 p, .pointer (some ⟨ob, 0, none⟩)] w.drew fun e w' => e = .returned (.int .i64 x) ∧ w' = w.drew := hnx.mono (fun _ _ h => ⟨h.1, h.2.symm⟩)
  have HN := Lib.hid hnx2
  clear hA hA2 hS hl hx hnx hnx2 hc
  unfold nextV at a0
  go_enter Try.func37, Try.ntmps37
  go_wp2_with fail
  go_still_tail 12, (by kernel_rfl)
  still_call HN.out
  repeat still_step
  refine wpStill_nil ?_
  change wpList _ _ _ _ _ w.drew
  clear HN
  go_wp2_with fail
  go_wp2_with fail
  go_ret
  exact ⟨rfl, HA2.out, (Kept.refl _ _).drew.setCell (p := ⟨g, 1, none⟩) (.inl (by simp)) _⟩
end Go.Proofs.Ytaeppgooenbfiaa
