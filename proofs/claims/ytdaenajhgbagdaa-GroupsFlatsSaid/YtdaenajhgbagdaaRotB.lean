/-
  The walks of slices.SortFunc and insertionSortCmpFunc at rotate's compare, a method value.
-/
import Derived.Test.YtdaenajhgbagdaaRotA
import Derived.Sort.WalkA
import Derived.Sort.LotA
import Derived.Sort.Lot0
namespace Go.Proofs.Ytdaenajhgbagdaa
open Go.RowKit Go.Sort
set_option linter.unusedVariables false
set_option linter.unusedSimpArgs false

def ltR (n : Nat) (rank : List Nat) (by_ : Nat) (i j : Nat) : Bool := decide (K.cmpR n rank by_ i j < 0)
theorem ltR_iff (n : Nat) (rank : List Nat) (by_ i j : Nat) : ltR n rank by_ i j = true ↔ K.key1 rank i < K.key1 rank j ∨ (K.key1 rank i = K.key1 rank j ∧ (K.key2 n rank by_ i < K.key2 n rank by_ j ∨ (K.key2 n rank by_ i = K.key2 n rank by_ j ∧ i < j))) := by
  unfold ltR
  rw [decide_eq_true_iff, K.cmpR_neg]
  unfold K.kLt
  omega
theorem ltR_no (n : Nat) (rank : List Nat) (by_ i j : Nat) : ltR n rank by_ i j = false ↔ ¬ (K.key1 rank i < K.key1 rank j ∨ (K.key1 rank i = K.key1 rank j ∧ (K.key2 n rank by_ i < K.key2 n rank by_ j ∨ (K.key2 n rank by_ i = K.key2 n rank by_ j ∧ i < j)))) := by
  rw [← ltR_iff]; simp
theorem swoR (n : Nat) (rank : List Nat) (by_ : Nat) : SWO (ltR n rank by_) where
  irrefl x := by rw [ltR_no]; omega
  trans x y z h1 h2 := by rw [ltR_iff] at *; omega
  ntrans x y z h1 h2 := by rw [ltR_no] at *; omega

/-- What the sort's functions read and may write. -/
structure SortW (w0 : World) (g c n : Nat) (d : Array Nat) (w : World) : Prop where
  row : Row w 3 (.slice (some ⟨g, 0, none⟩) n c) (natVals d.toList)
  size : d.size = n
  lt : ∀ i, i < n → d[i]! < n
  kept : Kept [g] w0 w
theorem arr_get (d : Array Nat) (i : Nat) (hi : i < d.size) : d.toList[i]? = some d[i]! := by
  rw [Array.getElem?_toList, Array.getElem?_eq_getElem hi, getElem!_pos d i hi]
theorem SortW.cell {w0 w : World} {g c n : Nat} {d : Array Nat} (h : SortW w0 g c n d w) (i : Nat) (hi : i < n) : w.cell? ⟨g, i, none⟩ = some (.int .i64 (d[i]! : Nat)) :=
  h.row.cellAt (nat_get _ _ _ (arr_get d i (by rw [h.size]; exact hi)))
theorem SortW.kept0 {w0 w w' : World} {g c n : Nat} {d : Array Nat} (h : SortW w0 g c n d w) (hk : Kept [] w w') : SortW w0 g c n d w' :=
  ⟨h.row.kept hk (by simp), h.size, h.lt, h.kept.trans hk (by simp)⟩
theorem SortW.drew {w0 w : World} {g c n : Nat} {d : Array Nat} (h : SortW w0 g c n d w) : SortW w0 g c n d w.drew := ⟨h.row.drew, h.size, h.lt, h.kept.drew⟩
theorem swp_list (d : Array Nat) (i j : Nat) : (swp d i j).toList = (d.toList.set i d[j]!).set j d[i]! := by simp [swp]
theorem swp_lt {d : Array Nat} {n : Nat} (hs : d.size = n) (h : ∀ i, i < n → d[i]! < n) (i j : Nat) (hi : i < n) (hj : j < n) : ∀ k, k < n → (swp d i j)[k]! < n := by
  intro k hk
  rw [swp_get d (by omega) (by omega)]
  split
  · exact h i hi
  · split
    · exact h j hj
    · exact h k hk
theorem SortW.swap {w0 w : World} {g c n : Nat} {d : Array Nat} (h : SortW w0 g c n d w) (i j : Nat) (hi : i < n) (hj : j < n) :
    SortW w0 g c n (swp d i j) ((w.setCell ⟨g, i, none⟩ (.int .i64 (d[j]! : Nat))).setCell ⟨g, j, none⟩ (.int .i64 (d[i]! : Nat))) := by
  refine ⟨?_, by rw [swp_size]; exact h.size, swp_lt h.size h.lt i j hi hj, (h.kept.setCell (p := ⟨g, i, none⟩) (.inl (by simp)) _).setCell (p := ⟨g, j, none⟩) (.inl (by simp)) _⟩
  have := (h.row.put i (.int .i64 (d[j]! : Nat))).put j (.int .i64 (d[i]! : Nat))
  rw [nat_set, nat_set] at this
  rw [swp_list]
  exact this
theorem SortW.swap2 {w0 w : World} {g c n : Nat} {d : Array Nat} (h : SortW w0 g c n d w) (i j : Nat) (hij : i ≠ j) (hi : i < n) (hj : j < n) :
    SortW w0 g c n (swp d i j) ((w.setCell ⟨g, j, none⟩ (.int .i64 (d[i]! : Nat))).setCell ⟨g, i, none⟩ (.int .i64 (d[j]! : Nat))) := by
  refine ⟨?_, by rw [swp_size]; exact h.size, swp_lt h.size h.lt i j hi hj, (h.kept.setCell (p := ⟨g, j, none⟩) (.inl (by simp)) _).setCell (p := ⟨g, i, none⟩) (.inl (by simp)) _⟩
  have := (h.row.put j (.int .i64 (d[i]! : Nat))).put i (.int .i64 (d[j]! : Nat))
  rw [nat_set, nat_set] at this
  rw [swp_list, List.set_comm _ _ hij]
  exact this
/-- What compare reads. -/
structure CmpW (w0 : World) (g rb ro n by_ : Nat) (rank : List Nat) : Prop where
  sees : Sees w0 1 (some ⟨rb, ro, none⟩) n (natVals rank)
  len : rank.length = n
  small : ∀ x ∈ rank, x < 1000000000
  n9 : n ≤ 1000000000
  by12 : by_ ≤ 1000000000000
  ne : rb ≠ g
end Go.Proofs.Ytdaenajhgbagdaa
