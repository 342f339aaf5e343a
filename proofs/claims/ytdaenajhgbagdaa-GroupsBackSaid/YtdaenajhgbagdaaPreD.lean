/-
  The walks of prefix's Codes and Encode.
-/
import Derived.Test.YtdaenajhgbagdaaPreX
import Derived.Test.YtdaenajhgbagdaaPlainA
import Derived.Test.YtdaenajhgbagdaaJoinA
namespace Go.Proofs.Ytdaenajhgbagdaa
open Go.RowKit
set_option linter.unusedVariables false
set_option linter.unusedSimpArgs false

theorem pcodes_any (a : Option Addr) (cap : Nat) (xs : List Int) (w : World) (h : Sees w 1 a xs.length (intVals xs)) (hlen : xs.length ≤ 140737488351232) :
    Calls Try.prog 53 #[.slice a xs.length cap] w (NatsPost (K.codesR xs) w) := by
  have HS := Lib.hid h
  clear h
  rcases Bool.eq_false_or_eq_true (K.goodL xs) with hok | hok
  · have hR : K.codesR xs = (K.codesP (K.natsOf xs), 0) := by unfold K.codesR; rw [hok]; rfl
    have HR := Lib.hid hR
    have HOK := Lib.hid hok
    clear hR hok
    go_enter Try.func53, Try.ntmps53
    go_wp2_with fail
    refine (made_ok a cap xs _ HS.out HOK.out).mono ?_
    rintro e w1 ⟨g, dv, rfl, ht, hk1, hf1⟩
    have HK1 := Lib.hid hk1
    have HT := Lib.hid ht
    clear hk1 ht hf1
    go_wp2_with fail
    refine (codes_ok g a cap xs dv _ (HS.out.kept0 HK1.out) HOK.out HT.out).mono ?_
    rintro e w2 ⟨h, rfl, hrow, hk2, hh⟩
    have HK2 := Lib.hid (HK1.out.new hk2 (by simp [Fresh]))
    have hln : (K.codesP (K.natsOf xs)).length = xs.length := by rw [K.codesP_length, K.natsOf_length]
    have hge : w.heap.size ≤ h := Nat.le_trans HK1.out.size hh
    rw [← hln] at hrow ⊢
    have HROW := Lib.hid hrow
    clear hk2 hrow hln
    go_wp2_with fail
    go_ret2
    rw [HR.out]
    exact NatsPost.ok (by rfl) HROW.out HK2.out (by intro x hx; simp [foot, Value.ownBlock] at hx; omega)
  · have hR : K.codesR xs = ([], 80) := by unfold K.codesR; rw [hok]; rfl
    have HR := Lib.hid hR
    go_enter Try.func53, Try.ntmps53
    go_wp2_with fail
    refine (made_err a cap xs _ HS.out hlen hok).mono ?_
    rintro e w' ⟨rfl, rfl⟩
    clear hR hok
    go_wp2_with fail
    go_ret2
    rw [HR.out]
    exact NatsPost.err (by rfl) (Kept.refl _ _)

/-- In Encode's loop: i symbols are told. -/
def PEncI (w0 : World) (ls : List Nat) (list : List Int) (b h : Nat) (k : Nat) (c : Value) (w : World) : Prop :=
  ∃ i o B, i ≤ list.length ∧ k = list.length - i ∧ c = .int .i64 (i : Nat) ∧ Wr w b o B ∧ B.length ≤ 20 * i ∧ K.encP ls list = (K.encP ls (list.drop i)).map (B ++ ·) ∧
    Row w 3 (.slice (some ⟨h, 0, none⟩) ls.length ls.length) (natVals (K.codesP ls)) ∧ Apart [h] (b :: foot o) ∧ Kept [] w0 w ∧ Fresh w0.heap.size (b :: foot o)

end Go.Proofs.Ytdaenajhgbagdaa
