/-
  slices.SortFunc at trees: what it leaves.
-/
import Derived.Test.YtcjkjknahalpnaaLaySort
import Derived.Test.YtcjkjknahalpnaaLenF
namespace Go.Proofs.Ytcjkjknahalpnaa
open Go.RowKit Go.Sort Go.Shelf
set_option linter.unusedVariables false
set_option linter.unusedSimpArgs false

theorem ahead_grow (x y : Int × Int) (w : World) (hx : TreeB x) (hy : TreeB y) : Calls Try.prog 30 #[treeV x, treeV y] w fun e w' => e = .returned (.int .i64 (aheadI x y)) ∧ ∃ q os', w' = grow (w.drewN q) os' := by
  obtain ⟨a, b⟩ := x
  obtain ⟨c, d⟩ := y
  obtain ⟨⟨x1, x2⟩, x3, x4⟩ := hx
  obtain ⟨⟨y1, y2⟩, y3, y4⟩ := hy
  simp only at x1 x2 x3 x4 y1 y2 y3 y4
  unfold treeV
  have heq := fun W => eqTree a b c d W
  have hgr : ∀ A B : Obj, ∃ q os', (w.alloc A).alloc B = grow (w.drewN q) os' := fun A B => ⟨0, #[A] ++ #[B], by rw [alloc_eq_grow, alloc_eq_grow, grow_grow]; rfl⟩
  have HGR := Lib.hid hgr
  clear hgr
  by_cases h1 : a = c
  · by_cases h2 : b = d
    · subst h1
      subst h2
      have e1 : (a == a && b == b) = true := by simp
      rw [e1] at heq
      have HE := Lib.hid (show aheadI (a, b) (a, b) = 0 by unfold aheadI; simp)
      go_enter Try.func30, Try.ntmps30
      go_wp2_with fail
      go_ret
      exact ⟨by rw [HE.out]; rfl, HGR.out _ _⟩
    · have e1 : (a == c && b == d) = false := by simp [h2]
      rw [e1] at heq
      have HE := Lib.hid (show aheadI (a, b) (c, d) = b - d by unfold aheadI; simp [h1])
      have g1 : (a == c) = true := by simp [h1]
      have g2 : (a != c) = false := by simp [h1]
      have H1 := Lib.hid h1
      clear h1
      go_enter Try.func30, Try.ntmps30
      go_wp2_with fail
      go_ret
      exact ⟨by rw [HE.out]; rfl, HGR.out _ _⟩
  · have e1 : (a == c && b == d) = false := by simp [h1]
    rw [e1] at heq
    have HE := Lib.hid (show aheadI (a, b) (c, d) = a - c by unfold aheadI; simp [h1])
    have g1 : (a == c) = false := by simp [h1]
    have g2 : (a != c) = true := by simp [h1]
    go_enter Try.func30, Try.ntmps30
    go_wp2_with fail
    go_ret
    exact ⟨by rw [HE.out]; rfl, HGR.out _ _⟩

/-- Trees whose weight and number are not too great. -/
abbrev TreeN : Type := { x : Int × Int // TreeB x }
instance : Inhabited TreeN := ⟨⟨(0, 0), by unfold TreeB; omega⟩⟩
def encT (x : TreeN) : List Value := treeC x.1
def cfT (x y : TreeN) : Int := aheadI x.1 y.1
theorem ltT (x y : TreeN) : ltOf cfT x y = decide (x.1.1 < y.1.1 ∨ (x.1.1 = y.1.1 ∧ x.1.2 < y.1.2)) := by
  unfold ltOf cfT
  exact decide_eq_decide.2 (aheadI_neg _ _)
theorem swoT : SWO (ltOf cfT) where
  irrefl x := by rw [ltT]; simp
  trans x y z h1 h2 := by rw [ltT] at *; simp only [decide_eq_true_eq] at *; omega
  ntrans x y z h1 h2 := by rw [ltT] at *; simp only [decide_eq_false_iff_not] at *; omega
theorem cmpT (blk off size : Nat) (w : World) : CmpLays Try.prog 30 #[] encT 2 cfT blk off size w :=
  fun _ _ _ _ x y => ahead_grow x.1 y.1 _ x.2 y.2
/-- The list as an array of bounded trees. -/
def arrT (l : List (Int × Int)) (hb : ∀ x ∈ l, TreeB x) : Array TreeN := (l.attach.map fun x => ⟨x.1, hb x.1 x.2⟩).toArray
theorem arrT_size (l : List (Int × Int)) (hb : ∀ x ∈ l, TreeB x) : (arrT l hb).size = l.length := by simp [arrT]
theorem arrT_list (l : List (Int × Int)) (hb : ∀ x ∈ l, TreeB x) : (arrT l hb).toList.map Subtype.val = l := by
  simp [arrT]
  exact List.attach_map_subtype_val l
theorem flatT (d : Array TreeN) (t : Nat) (h : t < d.size * 2) : (treesC (d.toList.map Subtype.val))[t]? = some ((flatK encT 2 d)[t]!) := by
  have hd : t / 2 < d.size := by omega
  have hx : (d.toList.map Subtype.val)[t / 2]? = some (d[t / 2]!).1 := by
    rw [List.getElem?_map, getElem!_pos d _ hd]
    simp [hd]
  obtain ⟨h1, h2⟩ := treesC_get hx
  rw [get_flatK _ _ _ _ h]
  rcases Nat.mod_two_eq_zero_or_one t with e | e
  · rw [e, show t = t / 2 * 2 by omega, h1, show t / 2 * 2 / 2 = t / 2 by omega]
    rfl
  · rw [e, show t = t / 2 * 2 + 1 by omega, h2, show (t / 2 * 2 + 1) / 2 = t / 2 by omega]
    rfl

def SortTPost (g n : Nat) (l : List (Int × Int)) (w : World) (e : Ending) (w' : World) : Prop :=
  e = .returned (.tuple #[]) ∧ ∃ l', l'.Perm l ∧ (l'.Pairwise fun a b => ¬ (b.1 < a.1 ∨ (b.1 = a.1 ∧ b.2 < a.2))) ∧ Sees w' 2 (some ⟨g, 0, none⟩) n (treesC l') ∧ Kept [g] w w'
theorem sortT_any (g c n : Nat) (l : List (Int × Int)) (w : World) (hR : RowN w 43 2 (.slice (some ⟨g, 0, none⟩) n c) n (treesC l)) (hl : l.length = n) (hn : n ≤ 1000000) (hb : ∀ x ∈ l, TreeB x) :
    Calls Try.prog 29 #[.slice (some ⟨g, 0, none⟩) n c, .func (.func 30) #[] #[]] w (SortTPost g n l w) := by
  have eg : ∀ args w, (callFunc 30 args).run Try.prog w = .ok (.enter 30 args) w := enters_of Try.func30 (by kernel_rfl) rfl
  have hsz := arrT_size l hb
  have hg : g < w.heap.size := hR.lt g (by simp [foot, Value.ownBlock])
  have hH : HoldsK encT 2 w g 0 (arrT l hb) := by
    intro j hj
    rw [size_flatK] at hj
    have h1 := flatT (arrT l hb) j hj
    rw [arrT_list] at h1
    exact ⟨by rw [Nat.zero_add]; exact hR.cellAt h1, hR.free _⟩
  have hcon := AnyQ.slices_SortFunc Try.sortT 2 Try.isAgg43 Try.sizeOf43 encT (fun _ => rfl) (fun x v hv => by simp [encT, treeC] at hv; rcases hv with rfl | rfl <;> rfl) cfT swoT 30 #[] g 0 c (arrT l hb) w eg (cmpT g 0 _ w) hH hg (by rw [hsz]; omega)
  rw [hsz, hl] at hcon
  refine Calls.mono hcon ?_
  rintro e w' ⟨rfl, d', m, os, ⟨hp1, hp2, hp3⟩, hs, rfl⟩
  have hds : d'.size = n := by rw [hp1, hsz, hl]
  refine ⟨rfl, d'.toList.map Subtype.val, ?_, ?_, ⟨by rw [treesC_length, List.length_map, Array.length_toList, hds], fun j u hj => ⟨g, 0, rfl, ?_⟩⟩, ?_⟩
  · have h1 : d'.extract 0 n = d' := by rw [← hds]; simp
    have h2 : (arrT l hb).extract 0 n = arrT l hb := by rw [← hl, ← hsz]; simp
    rw [h1, h2] at hp3
    have := hp3.map Subtype.val
    rwa [arrT_list] at this
  · rw [List.pairwise_map, List.pairwise_iff_getElem]
    intro i j hi hj hij
    have hi' : i < d'.size := by simpa using hi
    have hj' : j < d'.size := by simpa using hj
    have h := hs i j (Nat.zero_le _) hij (by omega)
    rw [getElem!_pos d' i hi', getElem!_pos d' j hj', ltT, decide_eq_false_iff_not] at h
    simpa using h
  · have hjl : j < d'.size * 2 := by have := (List.getElem?_eq_some_iff.1 hj).1; rwa [treesC_length, List.length_map, Array.length_toList] at this
    rw [flatT d' j hjl] at hj
    cases hj
    unfold sortWorldK
    rw [cell?_grow _ _ _ (by simp [putRowK]; exact hg)]
    exact cell?_putRow id (Go.Sort.ahead w m) g 0 (flatK encT 2 (arrT l hb)) (flatK encT 2 d') hH (by rw [size_flatK, size_flatK, hp1]) j (by rw [size_flatK]; exact hjl)
  · unfold sortWorldK
    refine ⟨?_, ?_, ?_, ?_, ?_⟩
    · rfl
    · rfl
    · rfl
    · simp [putRowK]
    · intro k hk hkn
      rw [heap_grow_old _ _ (by simp [putRowK]; exact hk)]
      simp only [putRowK, putRow, mapBlock]
      rw [Array.getElem?_modify, if_neg (by simp at hkn; omega)]
      rfl
end Go.Proofs.Ytcjkjknahalpnaa
