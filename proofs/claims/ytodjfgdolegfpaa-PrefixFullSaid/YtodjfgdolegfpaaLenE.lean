/-
  The walks of lengths.ahead, and of slices.MinFunc and slices.Index at trees.
-/
import Derived.Test.YtodjfgdolegfpaaLibF
import Derived.Test.YtodjfgdolegfpaaLibG
import Derived.Test.YtodjfgdolegfpaaSymB
import Derived.Deep.RegionHeld3
import Derived.BigQuiet
import Derived.StillTailTactics
namespace Go.Proofs.Ytodjfgdolegfpaa
open Go.RowKit
set_option linter.unusedVariables false
set_option linter.unusedSimpArgs false

/-- How trees are compared. -/
def aheadI (x y : Int × Int) : Int := if x.1 = y.1 then x.2 - y.2 else x.1 - y.1
theorem aheadI_neg (x y : Int × Int) : aheadI x y < 0 ↔ x.1 < y.1 ∨ (x.1 = y.1 ∧ x.2 < y.2) := by
  unfold aheadI; split <;> omega
/-- Weight and number lie where sums and differences stay inside int. -/
def TreeB (x : Int × Int) : Prop := (-1000000000000 ≤ x.1 ∧ x.1 ≤ 1000000000000) ∧ (-1000000000000 ≤ x.2 ∧ x.2 ≤ 1000000000000)
def treeV (x : Int × Int) : Value := .agg #[.int .i64 x.1, .int .i64 x.2]
def treeC (x : Int × Int) : List Value := [.int .i64 x.1, .int .i64 x.2]
def treesC (l : List (Int × Int)) : List Value := l.flatMap treeC
theorem treesC_length (l : List (Int × Int)) : (treesC l).length = l.length * 2 := by
  induction l with
  | nil => rfl
  | cons x l ih => rw [treesC, List.flatMap_cons, List.length_append, ← treesC, ih]; simp [treeC]; omega
theorem treesC_append (a b : List (Int × Int)) : treesC (a ++ b) = treesC a ++ treesC b := by simp [treesC]
theorem treesC_get {l : List (Int × Int)} {i : Nat} {x : Int × Int} (h : l[i]? = some x) : (treesC l)[i * 2]? = some (.int .i64 x.1) ∧ (treesC l)[i * 2 + 1]? = some (.int .i64 x.2) := by
  induction l generalizing i with
  | nil => simp at h
  | cons y l ih =>
    cases i with
    | zero => simp at h; subst h; exact ⟨rfl, rfl⟩
    | succ i =>
      have h' := ih (i := i) (by simpa using h)
      rw [show (i + 1) * 2 = i * 2 + 1 + 1 by omega, treesC, List.flatMap_cons, treeC]
      simp only [List.cons_append, List.nil_append, List.getElem?_cons_succ]
      exact h'
theorem treesC_set (l : List (Int × Int)) (i : Nat) (x : Int × Int) : ((treesC l).set (i * 2) (.int .i64 x.1)).set (i * 2 + 1) (.int .i64 x.2) = treesC (l.set i x) := by
  induction l generalizing i with
  | nil => simp [treesC]
  | cons y l ih =>
    cases i with
    | zero => rfl
    | succ i =>
      have h' := ih i
      rw [show (i + 1) * 2 = i * 2 + 1 + 1 by omega]
      simp only [treesC, List.flatMap_cons, treeC, List.cons_append, List.nil_append, List.set_cons_succ] at h' ⊢
      rw [h']
theorem treesC_take (l : List (Int × Int)) (k : Nat) : (treesC l).take (k * 2) = treesC (l.take k) := by
  induction l generalizing k with
  | nil => simp [treesC]
  | cons y l ih =>
    cases k with
    | zero => rfl
    | succ k =>
      have h' := ih k
      rw [show (k + 1) * 2 = k * 2 + 1 + 1 by omega]
      simp only [treesC, List.flatMap_cons, treeC, List.cons_append, List.nil_append, List.take_succ_cons] at h' ⊢
      rw [h']
theorem treesC_one (l : List (Int × Int)) : ∀ u ∈ treesC l, u.oneCell' = true := by
  intro u hu
  obtain ⟨x, -, hx⟩ := List.mem_flatMap.1 hu
  simp [treeC] at hx
  rcases hx with rfl | rfl <;> rfl
theorem eqTree (a b c d : Int) (w : World) : (binOp .eql 95 (.agg #[.int .i64 a, .int .i64 b]) (.agg #[.int .i64 c, .int .i64 d])).run Try.prog w = .ok (.bool (a == c && b == d)) w := by
  rw [run_eql_struct, run_equalIn_agg _ _ _ _ _ (by kernel_rfl) (by kernel_rfl)]
  simp [Program.fieldsOf, Try.underlying95, Op.eqFields, go_sem, part, Try.underlying3]
  by_cases h1 : a = c <;> by_cases h2 : b = d <;> simp [h1, h2]

def AheadPost (x y : Int × Int) (w : World) (e : Ending) (w' : World) : Prop := e = .returned (.int .i64 (aheadI x y)) ∧ Kept [] w w'
theorem ahead_any (x y : Int × Int) (w : World) (hx : TreeB x) (hy : TreeB y) : Calls Try.prog 53 #[treeV x, treeV y] w (AheadPost x y w) := by
  obtain ⟨a, b⟩ := x
  obtain ⟨c, d⟩ := y
  obtain ⟨⟨x1, x2⟩, x3, x4⟩ := hx
  obtain ⟨⟨y1, y2⟩, y3, y4⟩ := hy
  simp only at x1 x2 x3 x4 y1 y2 y3 y4
  unfold treeV
  have heq := fun W => eqTree a b c d W
  by_cases h1 : a = c
  · by_cases h2 : b = d
    · subst h1
      subst h2
      have e1 : (a == a && b == b) = true := by simp
      rw [e1] at heq
      have HE := Lib.hid (show aheadI (a, b) (a, b) = 0 by unfold aheadI; simp)
      go_enter Try.func53, Try.ntmps53
      go_wp2_with fail
      go_ret
      exact ⟨by rw [HE.out]; rfl, ((Kept.refl _ _).alloc _).alloc _⟩
    · have e1 : (a == c && b == d) = false := by simp [h2]
      rw [e1] at heq
      have HE := Lib.hid (show aheadI (a, b) (c, d) = b - d by unfold aheadI; simp [h1])
      have g1 : (a == c) = true := by simp [h1]
      have g2 : (a != c) = false := by simp [h1]
      have H1 := Lib.hid h1
      clear h1
      go_enter Try.func53, Try.ntmps53
      go_wp2_with fail
      go_ret
      exact ⟨by rw [HE.out]; rfl, ((Kept.refl _ _).alloc _).alloc _⟩
  · have e1 : (a == c && b == d) = false := by simp [h1]
    rw [e1] at heq
    have HE := Lib.hid (show aheadI (a, b) (c, d) = a - c by unfold aheadI; simp [h1])
    have g1 : (a == c) = false := by simp [h1]
    have g2 : (a != c) = true := by simp [h1]
    go_enter Try.func53, Try.ntmps53
    go_wp2_with fail
    go_ret
    exact ⟨by rw [HE.out]; rfl, ((Kept.refl _ _).alloc _).alloc _⟩

theorem Sees.tree {w : World} {b off n i : Nat} {l : List (Int × Int)} {x : Int × Int} (h : Sees w 2 (some ⟨b, off, none⟩) n (treesC l)) (hx : l[i]? = some x) :
    w.cell? ⟨b, off + i * 2, none⟩ = some (.int .i64 x.1) ∧ w.cell? ⟨b, off + i * 2 + 1, none⟩ = some (.int .i64 x.2) := by
  obtain ⟨h1, h2⟩ := treesC_get hx
  obtain ⟨b1, o1, e1, c1⟩ := h.2 _ _ h1
  obtain ⟨b2, o2, e2, c2⟩ := h.2 _ _ h2
  cases e1
  cases e2
  exact ⟨c1, c2⟩

/-- None of the list is ahead of m. -/
def LeastT (l : List (Int × Int)) (m : Int × Int) : Prop := ∀ x ∈ l, ¬ (x.1 < m.1 ∨ (x.1 = m.1 ∧ x.2 < m.2))
def MinTPost (l : List (Int × Int)) (w : World) (e : Ending) (w' : World) : Prop := ∃ m : Int × Int, e = .returned (treeV m) ∧ m ∈ l ∧ LeastT l m ∧ Kept [] w w'
def MinTI (w0 : World) (l : List (Int × Int)) (gr gm : Nat) (k : Nat) (v : Value) (wr : World) : Prop :=
  ∃ (i : Nat) (m : Int × Int), 1 ≤ i ∧ i ≤ l.length ∧ k = l.length - i ∧ v = .int .i64 (i : Nat) ∧ Hid (m ∈ l ∧ LeastT (l.take i) m) ∧ Hid (Arr wr gm 95 [.int .i64 m.1, .int .i64 m.2]) ∧
    Hid (Arr wr gr 95 [.int .i64 0, .int .i64 0]) ∧ Hid (Kept [] w0 wr)
theorem minT_any (a : Option Addr) (c : Nat) (l : List (Int × Int)) (w : World) (h : Sees w 2 a l.length (treesC l)) (h0 : 1 ≤ l.length) (hl : l.length ≤ 1000000) (hb : ∀ x ∈ l, TreeB x) :
    Calls Try.prog 52 #[.slice a l.length c, .func (.func 53) #[] #[]] w (MinTPost l w) := by
  have HS := Lib.hid h
  obtain ⟨b, off, rfl, -⟩ := h.at (by rw [treesC_length]; omega)
  obtain ⟨x0, hx0⟩ : ∃ x, l[0]? = some x := ⟨_, List.getElem?_eq_getElem (by omega)⟩
  obtain ⟨c0, c1⟩ := HS.out.tree hx0
  have g0 : decide ((l.length : Int) < 1) = false := by simp; omega
  have hpos : (0 : Int) < (l.length : Int) := by omega
  have HX0 := Lib.hid hx0
  have HB := Lib.hid hb
  rw [Nat.zero_mul, Nat.add_zero] at c0 c1
  have hblt : b < w.heap.size := World.block_lt_of_cell? w _ c0
  clear h hx0 hb
  go_enter Try.func52, Try.ntmps52
  go_wp2_with fail
  have HG := Lib.hid (Arr.new (w.alloc (.cells #[.int .i64 0, .int .i64 0] 95)) [.int .i64 x0.1, .int .i64 x0.2] 95)
  have HR := Lib.hid ((Arr.new w [.int .i64 0, .int .i64 0] 95).kept ((Kept.refl [] _).alloc (.cells #[.int .i64 x0.1, .int .i64 x0.2] 95)) (by simp))
  have HK := Lib.hid (((Kept.refl [] w).alloc (.cells #[.int .i64 0, .int .i64 0] 95)).alloc (.cells #[.int .i64 x0.1, .int .i64 x0.2] 95))
  have e1 : (w.alloc (.cells #[.int .i64 0, .int .i64 0] 95)).heap.size = w.heap.size + 1 := by simp
  rw [e1] at HG
  clear e1 c0 c1
  go_loopg [6] (l.length - 1) (fun k v wr => MinTI w l w.heap.size (w.heap.size + 1) k v wr)
  case atStart => exact ⟨1, x0, Nat.le_refl _, h0, by omega, rfl, Lib.hid ⟨List.mem_of_getElem? HX0.out, fun x hx => by
    have : l.take 1 = [x0] := by
      have hh := HX0.out
      cases l with
      | nil => simp at hh
      | cons y r => simp at hh; subst hh; rfl
    rw [this] at hx
    simp at hx; subst hx
    omega⟩, HG, HR, HK⟩
  case round =>
    obtain ⟨i, m, h1, hi, hk, rfl, HM, HG, HR, HK⟩ := hrel
    have Hk := Lib.hid hk
    clear hk
    by_cases hlt : i < l.length
    · have hli : (i : Int) < (l.length : Int) := by omega
      obtain ⟨x, hx⟩ : ∃ x, l[i]? = some x := ⟨_, List.getElem?_eq_getElem hlt⟩
      obtain ⟨d0, d1⟩ := (HS.out.kept0 HK.out).tree hx
      have d2 : wr.cell? ⟨w.heap.size + 1, 0, none⟩ = some (.int .i64 m.1) := HG.out.cell (i := 0) rfl
      have d3 : wr.cell? ⟨w.heap.size + 1, 1, none⟩ = some (.int .i64 m.2) := HG.out.cell (i := 1) rfl
      have HA := Lib.hid (fun W => ahead_any x m W (HB.out x (List.mem_of_getElem? hx)) (HB.out m HM.out.1))
      have HX := Lib.hid hx
      clear hx
      unfold treeV at HA
      by_cases hneg : aheadI x m < 0
      · have hdr : decide (aheadI x m < 0) = true := decide_eq_true hneg
        go_wp2_with fail
        go_region_held3 (fun w' => Kept [] wr w' ∧ w'.cell? ⟨b, off + i * 2, none⟩ = some (.int .i64 x.1) ∧ w'.cell? ⟨b, off + i * 2 + 1, none⟩ = some (.int .i64 x.2) ∧ w'.cell? ⟨w.heap.size + 1, 0, none⟩ = some (.int .i64 m.1) ∧ w'.cell? ⟨w.heap.size + 1, 1, none⟩ = some (.int .i64 m.2))
          (first | exact ⟨(Kept.refl _ _).drew, d0, d1, d2, d3⟩ | exact ⟨hk2, hk2.cellOf d0 (by simp), hk2.cellOf d1 (by simp), hk2.cellOf d2 (by simp), hk2.cellOf d3 (by simp)⟩)
          (first | (go_at_call 53; refine (HA.out _).mono ?_; rintro e w2 ⟨rfl, hk2'⟩; have hk2 : Kept [] wr w2 := (Kept.refl [] wr).drew.trans hk2' (by simp)))
        rename_i hS
        clear hS
        have HG2 := Lib.hid (HG.out.kept hk2 (by simp))
        have HR2 := Lib.hid (HR.out.kept hk2 (by simp))
        have HK2 := Lib.hid (HK.out.trans hk2 (by simp))
        have e0 := hk2.cellOf d0 (by simp)
        have e1 := hk2.cellOf d1 (by simp)
        have e2 := hk2.cellOf d2 (by simp)
        have e3 := hk2.cellOf d3 (by simp)
        have f0 := HG2.out.free 0
        have f1 := HG2.out.free 1
        have hgs : w.heap.size + 1 < w2.heap.size := HG2.out.lt
        have HG3 := Lib.hid ((HG2.out.set 0 (.int .i64 x.1)).set 1 (.int .i64 x.2))
        have HR3 := Lib.hid ((HR2.out.kept (((Kept.refl [w.heap.size + 1] w2).setCell (p := ⟨w.heap.size + 1, 0, none⟩) (by simp) (.int .i64 x.1)).setCell (p := ⟨w.heap.size + 1, 1, none⟩) (by simp) (.int .i64 x.2)) (by simp)))
        have HK3 := Lib.hid ((HK2.out.setCell (p := ⟨w.heap.size + 1, 0, none⟩) (by simp) (.int .i64 x.1)).setCell (p := ⟨w.heap.size + 1, 1, none⟩) (by simp) (.int .i64 x.2))
        clear hk2 d0 d1 d2 d3 HG2 HR2 HK2
        go_wp2_with fail
        go_roundg (l.length - (i + 1))
        case measure => have := Hk.out; omega
        case rel =>
          refine ⟨i + 1, x, by omega, by omega, rfl, by simp, Lib.hid ⟨List.mem_of_getElem? HX.out, fun y hy => ?_⟩, HG3, HR3, HK3⟩
          rw [aheadI_neg] at hneg
          rw [List.take_add_one, HX.out] at hy
          rcases List.mem_append.1 hy with h | h
          · have := HM.out.2 y h
            omega
          · simp at h; subst h; omega
      · have hdr : decide (aheadI x m < 0) = false := decide_eq_false hneg
        go_wp2_with fail
        go_region_held3 (fun w' => Kept [] wr w' ∧ w'.cell? ⟨b, off + i * 2, none⟩ = some (.int .i64 x.1) ∧ w'.cell? ⟨b, off + i * 2 + 1, none⟩ = some (.int .i64 x.2) ∧ w'.cell? ⟨w.heap.size + 1, 0, none⟩ = some (.int .i64 m.1) ∧ w'.cell? ⟨w.heap.size + 1, 1, none⟩ = some (.int .i64 m.2))
          (first | exact ⟨(Kept.refl _ _).drew, d0, d1, d2, d3⟩ | exact ⟨hk2, hk2.cellOf d0 (by simp), hk2.cellOf d1 (by simp), hk2.cellOf d2 (by simp), hk2.cellOf d3 (by simp)⟩)
          (first | (go_at_call 53; refine (HA.out _).mono ?_; rintro e w2 ⟨rfl, hk2'⟩; have hk2 : Kept [] wr w2 := (Kept.refl [] wr).drew.trans hk2' (by simp)))
        rename_i hS
        clear hS
        have HG2 := Lib.hid (HG.out.kept hk2 (by simp))
        have HR2 := Lib.hid (HR.out.kept hk2 (by simp))
        have HK2 := Lib.hid (HK.out.trans hk2 (by simp))
        clear hk2 d0 d1 d2 d3
        go_wp2_with fail
        go_roundg (l.length - (i + 1))
        case measure => have := Hk.out; omega
        case rel =>
          refine ⟨i + 1, m, by omega, by omega, rfl, by simp, Lib.hid ⟨HM.out.1, fun y hy => ?_⟩, HG2, HR2, HK2⟩
          rw [List.take_add_one, HX.out] at hy
          rcases List.mem_append.1 hy with h | h
          · exact HM.out.2 y h
          · simp at h; rw [h]
            have h2 := aheadI_neg x m
            omega
    · obtain rfl : i = l.length := by omega
      have hll : ¬ (l.length : Int) < (l.length : Int) := by omega
      have d2 : wr.cell? ⟨w.heap.size + 1, 0, none⟩ = some (.int .i64 m.1) := HG.out.cell (i := 0) rfl
      have d3 : wr.cell? ⟨w.heap.size + 1, 1, none⟩ = some (.int .i64 m.2) := HG.out.cell (i := 1) rfl
      have r0 : wr.cell? ⟨w.heap.size, 0, none⟩ = some (.int .i64 0) := HR.out.cell (i := 0) rfl
      have r1 : wr.cell? ⟨w.heap.size, 1, none⟩ = some (.int .i64 0) := HR.out.cell (i := 1) rfl
      have f0 := HR.out.free 0
      have f1 := HR.out.free 1
      have s0 : ((wr.setCell ⟨w.heap.size, 0, none⟩ (.int .i64 m.1)).setCell ⟨w.heap.size, 1, none⟩ (.int .i64 m.2)).cell? ⟨w.heap.size, 0, none⟩ = some (.int .i64 m.1) := ((HR.out.set 0 (.int .i64 m.1)).set 1 (.int .i64 m.2)).cell (i := 0) rfl
      have s1 : ((wr.setCell ⟨w.heap.size, 0, none⟩ (.int .i64 m.1)).setCell ⟨w.heap.size, 1, none⟩ (.int .i64 m.2)).cell? ⟨w.heap.size, 1, none⟩ = some (.int .i64 m.2) := ((HR.out.set 0 (.int .i64 m.1)).set 1 (.int .i64 m.2)).cell (i := 1) rfl
      have hM := HM.out
      rw [List.take_of_length_le (Nat.le_refl _)] at hM
      have HM2 := Lib.hid hM
      clear hM
      have HK3 := Lib.hid ((HK.out.setCell (p := ⟨w.heap.size, 0, none⟩) (by simp) (.int .i64 m.1)).setCell (p := ⟨w.heap.size, 1, none⟩) (by simp) (.int .i64 m.2))
      go_wp2_with fail
      refine bodyPost_ret (v := treeV m) (by simp [results, Try.results52, go_sem, treeV, s0, s1]) rfl ?_
      exact ⟨m, rfl, HM2.out.1, HM2.out.2, HK3.out⟩

def IdxTPost (l : List (Int × Int)) (x : Int × Int) (w : World) (e : Ending) (w' : World) : Prop := ∃ i : Nat, e = .returned (.int .i64 (i : Nat)) ∧ l[i]? = some x ∧ Kept [] w w'
theorem idxT_any (a : Option Addr) (c : Nat) (l : List (Int × Int)) (x : Int × Int) (w : World) (h : Sees w 2 a l.length (treesC l)) (hl : l.length ≤ 1000000) (hx : x ∈ l) :
    Calls Try.prog 54 #[.slice a l.length c, treeV x] w (IdxTPost l x w) := by
  have HS := Lib.hid h
  have HX := Lib.hid hx
  have hpos : 0 < l.length := List.length_pos_of_mem hx
  obtain ⟨b, off, rfl, -⟩ := h.at (by rw [treesC_length]; omega)
  clear h hx
  unfold treeV
  go_enter Try.func54, Try.ntmps54
  go_wp2_with fail
  have HP := Lib.hid (Arr.new w [.int .i64 x.1, .int .i64 x.2] 95)
  have HK := Lib.hid ((Kept.refl [] w).alloc (.cells #[.int .i64 x.1, .int .i64 x.2] 95))
  go_loopg [8] l.length (fun k v wr => ∃ i : Nat, i ≤ l.length ∧ k = l.length - i ∧ v = .int .i64 (i : Nat) ∧ Hid (x ∉ l.take i) ∧ Hid (Arr wr w.heap.size 95 [.int .i64 x.1, .int .i64 x.2]) ∧ Hid (Kept [] w wr))
  case atStart => exact ⟨0, by omega, by omega, rfl, Lib.hid (by simp), HP, HK⟩
  case round =>
    clear HP HK
    obtain ⟨i, hi, hk, rfl, HN, HP, HK⟩ := hrel
    have Hk := Lib.hid hk
    clear hk
    by_cases hlt : i < l.length
    · have hli : (i : Int) < (l.length : Int) := by omega
      obtain ⟨y, hy⟩ : ∃ y, l[i]? = some y := ⟨_, List.getElem?_eq_getElem hlt⟩
      obtain ⟨d0, d1⟩ := (HS.out.kept0 HK.out).tree hy
      have d2 : wr.cell? ⟨w.heap.size, 0, none⟩ = some (.int .i64 x.1) := HP.out.cell (i := 0) rfl
      have d3 : wr.cell? ⟨w.heap.size, 1, none⟩ = some (.int .i64 x.2) := HP.out.cell (i := 1) rfl
      have heq := fun W => eqTree x.1 x.2 y.1 y.2 W
      have HY := Lib.hid hy
      clear hy
      by_cases he : x = y
      · have e1 : (x.1 == y.1 && x.2 == y.2) = true := by rw [he]; simp
        rw [e1] at heq
        have HE := Lib.hid he
        clear he e1
        go_wp2_with fail
        go_quiet (fail)
        go_wp2_with fail
        go_ret
        exact ⟨i, rfl, by rw [HE.out]; exact HY.out, HK.out.drewN _⟩
      · have e1 : (x.1 == y.1 && x.2 == y.2) = false := by
          rw [Bool.and_eq_false_iff, beq_eq_false_iff_ne, beq_eq_false_iff_ne]
          rcases Classical.em (x.1 = y.1) with h | h
          · exact .inr fun h' => he (Prod.ext h h')
          · exact .inl h
        rw [e1] at heq
        have HE := Lib.hid he
        clear he e1
        go_wp2_with fail
        go_quiet (fail)
        go_wp2_with fail
        go_roundg (l.length - (i + 1))
        case measure => have := Hk.out; omega
        case rel =>
          refine ⟨i + 1, by omega, by omega, by simp, Lib.hid fun hm => ?_, Lib.hid (HP.out.kept ((Kept.refl [] wr).drewN _) (by simp)), Lib.hid (HK.out.drewN _)⟩
          rw [List.take_add_one, HY.out] at hm
          rcases List.mem_append.1 hm with h | h
          · exact HN.out h
          · simp at h; exact HE.out h
    · obtain rfl : i = l.length := by omega
      have := HN.out
      rw [List.take_of_length_le (Nat.le_refl _)] at this
      exact absurd HX.out this
end Go.Proofs.Ytodjfgdolegfpaa
