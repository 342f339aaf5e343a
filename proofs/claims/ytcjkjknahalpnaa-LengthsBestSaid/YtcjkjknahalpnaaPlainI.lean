/-
  Lengths read: how many, how far.
-/
import Derived.Test.YtcjkjknahalpnaaPlainH
namespace Go.Proofs.Ytcjkjknahalpnaa
namespace K
theorem lens_len (n : Nat) (acc : List Int) (now : Int) (p : Nat) (l : List Bool) (h : acc.length ≤ n) : (lens n acc now p l).1.length ≤ n := by
  induction hl : l.length using Nat.strongRecOn generalizing acc now p l with
  | _ k ih =>
    by_cases hd : n ≤ acc.length
    · rw [lens_done _ _ _ _ _ hd]; exact h
    · by_cases hb : now < 1 ∨ 20 < now
      · rw [lens_bad _ _ _ _ _ (by omega) hb]; simp
      · match l, hl with
        | [], _ => rw [lens_end _ _ _ _ (by omega) hb]; simp
        | false :: r, hl => rw [lens_zero _ _ _ _ _ (by omega) hb]; exact ih r.length (by simp at hl; omega) _ _ _ _ (by simp; omega) rfl
        | [true], _ => rw [lens_short _ _ _ _ (by omega) hb]; simp
        | true :: false :: r, hl => rw [lens_up _ _ _ _ _ (by omega) hb]; exact ih r.length (by simp at hl; omega) _ _ _ _ h rfl
        | true :: true :: r, hl => rw [lens_down _ _ _ _ _ (by omega) hb]; exact ih r.length (by simp at hl; omega) _ _ _ _ h rfl
theorem lensR_len (bs : List Bool) (at_ n : Int) : (lensR bs at_ n).1.length ≤ 140737488351232 := by
  unfold lensR
  split
  · simp
  · split
    · simp
    · have := lens_len n.toNat [] (num (piece bs at_.toNat 5)) (at_.toNat + 5) (bs.drop (at_.toNat + 5)) (by simp)
      omega
end K
end Go.Proofs.Ytcjkjknahalpnaa
