/-
  slices.SortFunc at trees: what it leaves.
-/
import Derived.Test.YtodjfgdolegfpaaProg
import Derived.Shelf.SlSortCmp.WholeK
import Derived.Ground.SlsfProg
import Derived.Test.YtodjfgdolegfpaaLenF
namespace Go.Proofs.Ytodjfgdolegfpaa
open Go.RowKit Go.Sort Go.Shelf
set_option linter.unusedVariables false
set_option linter.unusedSimpArgs false

theorem ahead_grow (x y : Int × Int) (w : World) (hx : TreeB x) (hy : TreeB y) : Calls Try.prog 53 #[treeV x, treeV y] w fun e w' => e = .returned (.int .i64 (aheadI x y)) ∧ ∃ q os', w' = grow (w.drewN q) os' := by
  obtain ⟨a, b⟩ := x
  obtain ⟨c, d⟩ := y
  obtain ⟨⟨x1, x2⟩, x3, x4⟩ := hx
  obtain ⟨⟨y1, y2⟩, y3, y4⟩ := hy
  simp only at x1 x2 x3 x4 y1 y2 y3 y4
  unfold treeV
  have heq := fun W => eqTree a b c d W
  have hgr : ∀ A B : Obj, ∃ q os', (w.alloc A).alloc B = grow (w.drewN q) os' := fun A B => ⟨0, #[A] ++ #[B], by rw [alloc_eq_grow, alloc_eq_grow, grow_grow]; rfl⟩
  have HGR := Lib.hid hgr
  clear hgr
  by_cases h1 : a = c
  · by_cases h2 : b = d
    · subst h1
      subst h2
      have e1 : (a == a && b == b) = true := by simp
      rw [e1] at heq
      have HE := Lib.hid (show aheadI (a, b) (a, b) = 0 by unfold aheadI; simp)
      go_enter Try.func53, Try.ntmps53
      go_wp2_with fail
      go_ret
      exact ⟨by rw [HE.out]; rfl, HGR.out _ _⟩
    · have e1 : (a == c && b == d) = false := by simp [h2]
      rw [e1] at heq
      have HE := Lib.hid (show aheadI (a, b) (c, d) = b - d by unfold aheadI; simp [h1])
      have g1 : (a == c) = true := by simp [h1]
      have g2 : (a != c) = false := by simp [h1]
      have H1 := Lib.hid h1
      clear h1
      go_enter Try.func53, Try.ntmps53
      go_wp2_with fail
      go_ret
      exact ⟨by rw [HE.out]; rfl, HGR.out _ _⟩
  · have e1 : (a == c && b == d) = false := by simp [h1]
    rw [e1] at heq
    have HE := Lib.hid (show aheadI (a, b) (c, d) = a - c by unfold aheadI; simp [h1])
    have g1 : (a == c) = false := by simp [h1]
    have g2 : (a != c) = true := by simp [h1]
    go_enter Try.func53, Try.ntmps53
    go_wp2_with fail
    go_ret
    exact ⟨by rw [HE.out]; rfl, HGR.out _ _⟩

/-- Trees whose weight and number are not too great. -/
abbrev TreeN : Type := { x : Int × Int // TreeB x }
instance : Inhabited TreeN := ⟨⟨(0, 0), by unfold TreeB; omega⟩⟩
def encT (x : TreeN) : List Value := treeC x.1
def cfT (x y : TreeN) : Int := aheadI x.1 y.1
theorem ltT (x y : TreeN) : ltOf cfT x y = decide (x.1.1 < y.1.1 ∨ (x.1.1 = y.1.1 ∧ x.1.2 < y.1.2)) := by
  unfold ltOf cfT
  exact decide_eq_decide.2 (aheadI_neg _ _)
theorem swoT : SWO (ltOf cfT) where
  irrefl x := by rw [ltT]; simp
  trans x y z h1 h2 := by rw [ltT] at *; simp only [decide_eq_true_eq] at *; omega
  ntrans x y z h1 h2 := by rw [ltT] at *; simp only [decide_eq_false_iff_not] at *; omega
theorem cmpT (blk off size : Nat) (w : World) : CmpLays Try.prog 53 #[] encT 2 cfT blk off size w :=
  fun _ _ _ _ x y => ahead_grow x.1 y.1 _ x.2 y.2
/-- The list as an array of bounded trees. -/
def arrT (l : List (Int × Int)) (hb : ∀ x ∈ l, TreeB x) : Array TreeN := (l.attach.map fun x => ⟨x.1, hb x.1 x.2⟩).toArray
theorem arrT_size (l : List (Int × Int)) (hb : ∀ x ∈ l, TreeB x) : (arrT l hb).size = l.length := by simp [arrT]
theorem arrT_list (l : List (Int × Int)) (hb : ∀ x ∈ l, TreeB x) : (arrT l hb).toList.map Subtype.val = l := by
  simp [arrT]
  exact List.attach_map_subtype_val l
theorem flatT (d : Array TreeN) (t : Nat) (h : t < d.size * 2) : (treesC (d.toList.map Subtype.val))[t]? = some ((flatK encT 2 d)[t]!) := by
  have hd : t / 2 < d.size := by omega
  have hx : (d.toList.map Subtype.val)[t / 2]? = some (d[t / 2]!).1 := by
    rw [List.getElem?_map, getElem!_pos d _ hd]
    simp [hd]
  obtain ⟨h1, h2⟩ := treesC_get hx
  rw [get_flatK _ _ _ _ h]
  rcases Nat.mod_two_eq_zero_or_one t with e | e
  · rw [e, show t = t / 2 * 2 by omega, h1, show t / 2 * 2 / 2 = t / 2 by omega]
    rfl
  · rw [e, show t = t / 2 * 2 + 1 by omega, h2, show (t / 2 * 2 + 1) / 2 = t / 2 by omega]
    rfl

def SortTPost (g n : Nat) (l : List (Int × Int)) (w : World) (e : Ending) (w' : World) : Prop :=
  e = .returned (.tuple #[]) ∧ ∃ l', l'.Perm l ∧ (l'.Pairwise fun a b => ¬ (b.1 < a.1 ∨ (b.1 = a.1 ∧ b.2 < a.2))) ∧ Sees w' 2 (some ⟨g, 0, none⟩) n (treesC l') ∧ Kept [g] w w'
end Go.Proofs.Ytodjfgdolegfpaa
