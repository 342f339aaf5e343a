/-
  Pieces joined, in plain words.
-/
import Derived.Test.YtcjkjknahalpnaaPlainE
namespace Go.Proofs.Ytcjkjknahalpnaa
namespace K
set_option linter.unusedVariables false

/-- The bits of one piece. -/
def oneJoin (p : List UInt8 × Int) : List Bool := (bitsOf p.1).take p.2.toNat
/-- All bits, one behind the other. -/
def joinBits (ps : List (List UInt8 × Int)) : List Bool := ps.flatMap oneJoin
/-- How many bytes they have together. -/
def total (ps : List (List UInt8 × Int)) : Nat := (ps.map fun p => p.1.length).sum
/-- What Join answers. -/
def joinR (ps : List (List UInt8 × Int)) : List UInt8 × Int × Nat :=
  if ps.all fun p => mayR p.1 p.2 then (pack (joinBits ps), ((joinBits ps).length : Nat), 0) else ([], 0, 2)
theorem oneJoin_len (p : List UInt8 × Int) : (oneJoin p).length ≤ 8 * p.1.length := by
  unfold oneJoin; rw [List.length_take, bitsOf_length]; omega
theorem joinBits_len (ps : List (List UInt8 × Int)) : (joinBits ps).length ≤ 8 * total ps := by
  induction ps with
  | nil => simp [joinBits, total]
  | cons p ps ih =>
    have h1 := oneJoin_len p
    have e1 : joinBits (p :: ps) = oneJoin p ++ joinBits ps := by simp [joinBits]
    have e2 : total (p :: ps) = p.1.length + total ps := by simp [total]
    rw [e1, e2, List.length_append]; omega
theorem total_take (ps : List (List UInt8 × Int)) (j : Nat) : total (ps.take j) ≤ total ps := by
  have : total ps = total (ps.take j) + total (ps.drop j) := by
    conv => lhs; rw [← List.take_append_drop j ps]
    simp only [total, List.map_append, List.sum_append]
  omega
theorem total_get (ps : List (List UInt8 × Int)) (j : Nat) (p : List UInt8 × Int) (h : ps[j]? = some p) : p.1.length ≤ total ps := by
  induction ps generalizing j with
  | nil => simp at h
  | cons q ps ih =>
    have e2 : total (q :: ps) = q.1.length + total ps := by simp [total]
    cases j with
    | zero => simp at h; subst h; omega
    | succ j => have := ih j (by simpa using h); omega
theorem joinBits_take (ps : List (List UInt8 × Int)) (j : Nat) (p : List UInt8 × Int) (h : ps[j]? = some p) : joinBits (ps.take (j + 1)) = joinBits (ps.take j) ++ oneJoin p := by
  have hj := (List.getElem?_eq_some_iff.1 h).1
  rw [List.take_succ_eq_append_getElem hj]
  rw [List.getElem?_eq_getElem hj] at h
  rw [Option.some.inj h]
  simp [joinBits]
theorem all_take (ps : List (List UInt8 × Int)) (f : List UInt8 × Int → Bool) (j : Nat) (p : List UInt8 × Int) (h : ps[j]? = some p) : (ps.take (j + 1)).all f = ((ps.take j).all f && f p) := by
  have hj := (List.getElem?_eq_some_iff.1 h).1
  rw [List.take_succ_eq_append_getElem hj]
  rw [List.getElem?_eq_getElem hj] at h
  rw [Option.some.inj h]
  simp
theorem all_false (ps : List (List UInt8 × Int)) (f : List UInt8 × Int → Bool) (j : Nat) (p : List UInt8 × Int) (h : ps[j]? = some p) (hf : f p = false) : ps.all f = false := by
  cases hall : ps.all f with
  | false => rfl
  | true =>
    have := (List.all_eq_true.1 hall) p (List.mem_of_getElem? h)
    rw [hf] at this; cases this
theorem joinR_no (ps : List (List UInt8 × Int)) (j : Nat) (p : List UInt8 × Int) (h : ps[j]? = some p) (hf : mayR p.1 p.2 = false) : joinR ps = ([], 0, 2) := by
  unfold joinR
  rw [all_false ps (fun p => mayR p.1 p.2) j p h hf]
  rfl
theorem mayR_range (s : List UInt8) (n : Int) (h : mayR s n = true) : 0 ≤ n ∧ n ≤ (8 * s.length : Nat) := by
  unfold mayR at h
  rw [Bool.and_eq_true] at h
  have := of_decide_eq_true h.1
  exact ⟨this.1, this.2.1⟩
end K
end Go.Proofs.Ytcjkjknahalpnaa
