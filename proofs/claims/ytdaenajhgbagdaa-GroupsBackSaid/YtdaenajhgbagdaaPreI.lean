/-
  The walks of layer 9's references: Codes, Put, Encode.
-/
import Derived.Test.YtdaenajhgbagdaaPreH
import Derived.Test.YtdaenajhgbagdaaJoinA
namespace Go.Proofs.Ytdaenajhgbagdaa
open Go.RowKit
set_option linter.unusedVariables false
set_option linter.unusedSimpArgs false

/-- In Codes' loop: i codes are told. -/
def RCodI (w0 : World) (ls : List Nat) (k : Nat) (v c : Value) (w : World) : Prop :=
  ∃ i, i ≤ ls.length ∧ k = ls.length - i ∧ c = .int .i64 (i : Nat) ∧ Row w 3 v (natVals ((K.codesP ls).take i)) ∧ Kept [] w0 w ∧ Fresh w0.heap.size (foot v)
/-- What Put answers. -/
def put9R (l list : List Int) : List Bool × Nat := if K.goodL l then match K.encP (K.natsOf l) list with | none => ([], 60) | some B => (B, 0) else ([], 80)
theorem put9R_bad (l list : List Int) (h : K.goodL l = false) : put9R l list = ([], 80) := by unfold put9R; rw [h]; rfl
theorem put9R_none (l list : List Int) (h : K.goodL l = true) (he : K.encP (K.natsOf l) list = none) : put9R l list = ([], 60) := by unfold put9R; rw [h, he]; rfl
theorem put9R_some (l list : List Int) (B : List Bool) (h : K.goodL l = true) (he : K.encP (K.natsOf l) list = some B) : put9R l list = (B, 0) := by unfold put9R; rw [h, he]; rfl
/-- What a function leaves that answers bits as a list, and an error. -/
def BisPost (p : List Bool × Nat) (w : World) (e : Ending) (w' : World) : Prop :=
  ∃ a c, e = .returned (.tuple #[.slice a p.1.length c, .int .i64 (p.2 : Nat)]) ∧ Row w' 3 (.slice a p.1.length c) (bis p.1) ∧ Kept [] w w' ∧ Fresh w.heap.size (footA a)
theorem BisPost.err {w w' : World} {e : Ending} {n : Nat} (he : e = .returned (.tuple #[.slice none 0 0, .int .i64 (n : Nat)])) (hk : Kept [] w w') : BisPost ([], n) w e w' :=
  ⟨none, 0, he, Row.nil _ _, hk, by simp [Fresh, footA]⟩
theorem BisPost.ok {w w' : World} {e : Ending} {l : List Bool} {a : Option Addr} {c : Nat} (he : e = .returned (.tuple #[.slice a l.length c, .int .i64 0])) (hr : Row w' 3 (.slice a l.length c) (bis l)) (hk : Kept [] w w')
    (hf : Fresh w.heap.size (foot (.slice a l.length c))) : BisPost (l, 0) w e w' :=
  ⟨a, c, he, hr, hk, by rw [← foot_slice a l.length c]; exact hf⟩
/-- In Put's loop: i symbols are told. -/
def RPutI9 (w0 : World) (ls : List Nat) (list : List Int) (k : Nat) (v c : Value) (w : World) : Prop :=
  ∃ i B, i ≤ list.length ∧ k = list.length - i ∧ c = .int .i64 (i : Nat) ∧ Row w 3 v (bis B) ∧ B.length ≤ 20 * i ∧ K.encP ls list = (K.encP ls (list.drop i)).map (B ++ ·) ∧ Kept [] w0 w ∧ Fresh w0.heap.size (foot v)
theorem bis_one (l : List Bool) : ∀ u ∈ bis l, u.oneCell' = true := by
  intro u hu
  obtain ⟨c, -, rfl⟩ := List.mem_map.1 hu
  rfl
end Go.Proofs.Ytdaenajhgbagdaa
