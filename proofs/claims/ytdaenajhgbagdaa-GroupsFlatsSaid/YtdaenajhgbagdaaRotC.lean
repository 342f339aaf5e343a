/-
  slices.SortFunc at twelve elements or fewer, at rotate's compare; what it leaves is the order.
-/
import Derived.Test.YtdaenajhgbagdaaRotB
import Derived.Test.YtdaenajhgbagdaaBitLen
namespace Go.Proofs.Ytdaenajhgbagdaa
open Go.RowKit Go.Sort
set_option linter.unusedVariables false
set_option linter.unusedSimpArgs false

theorem ordered_of (n : Nat) (f : Nat → Nat) (rank : List Nat) (by_ m : Nat) (d d' : Array Nat) (hs : d.size = n) (hd : d.toList.Perm (List.range n)) (hp : PermIn 0 n d d') (hS : SortedIn (ltR n rank by_) 0 n d') (hk : K.KeyBy n f rank by_ m) : K.Ordered n f m d'.toList := by
  have hs' : d'.size = n := by rw [hp.1, hs]
  have e1 : (d'.extract 0 n).toList = d'.toList := by rw [← hs']; simp
  have e2 : (d.extract 0 n).toList = d.toList := by rw [← hs]; simp
  have hperm : d'.toList.Perm (List.range n) := by
    have := hp.2.2
    rw [e1, e2] at this
    exact this.trans hd
  refine ⟨hperm, ?_⟩
  rw [List.pairwise_iff_getElem]
  intro i j hi hj hij
  have hi' : i < d'.size := by simpa using hi
  have hj' : j < d'.size := by simpa using hj
  have hnd : d'.toList.Nodup := hperm.nodup_iff.2 List.nodup_range
  have hne : d'.toList[i] ≠ d'.toList[j] := List.pairwise_iff_getElem.1 (show d'.toList.Pairwise (· ≠ ·) from hnd) i j hi hj hij
  have hlt : ∀ x ∈ d'.toList, x < n := fun x hx => List.mem_range.1 (hperm.mem_iff.1 hx)
  have h1 := hS i j (Nat.zero_le _) hij (by omega)
  rw [getElem!_pos d' i hi', getElem!_pos d' j hj'] at h1
  have a1 : d'[i] = d'.toList[i] := by simp
  have a2 : d'[j] = d'.toList[j] := by simp
  rw [a1, a2] at h1
  have h2 := K.cmpR_rot n f rank by_ m hk d'.toList[j] d'.toList[i] (hlt _ (List.getElem_mem hj)) (hlt _ (List.getElem_mem hi))
  have h3 : ¬ K.cmpR n rank by_ d'.toList[j] d'.toList[i] < 0 := of_decide_eq_false h1
  rw [h2] at h3
  unfold K.rotLt at h3 ⊢
  omega
end Go.Proofs.Ytdaenajhgbagdaa
