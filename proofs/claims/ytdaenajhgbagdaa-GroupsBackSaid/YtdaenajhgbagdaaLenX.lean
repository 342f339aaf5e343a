/-
  The walks of lengths.ahead, and of slices.MinFunc and slices.Index at trees. The walks of lengths' sum and Check, and of the reference's. The walks of slices.Min, slices.Max, lengths.may and kistref08.May. The walks of kistref08: May, greatest. The walks of lengths.Cost and kistref08.Cost. The walks of lengths.Full, kistref08.Full. The walk of the closure in lengths.grown: the least tree is taken out.
-/
import Derived.Test.YtdaenajhgbagdaaWriteA
import Derived.Test.YtdaenajhgbagdaaLibA
import Derived.Test.YtdaenajhgbagdaaSymX
import Derived.Deep.RegionHeld3
import Derived.BigQuiet
import Derived.StillTailTactics
import Derived.Test.YtdaenajhgbagdaaPlainA
import Derived.Test.YtdaenajhgbagdaaHufAll
namespace Go.Proofs.Ytdaenajhgbagdaa
open Go.RowKit
set_option linter.unusedVariables false
set_option linter.unusedSimpArgs false

/-- How trees are compared. -/
def aheadI (x y : Int × Int) : Int := if x.1 = y.1 then x.2 - y.2 else x.1 - y.1
theorem aheadI_neg (x y : Int × Int) : aheadI x y < 0 ↔ x.1 < y.1 ∨ (x.1 = y.1 ∧ x.2 < y.2) := by
  unfold aheadI; split <;> omega
/-- Weight and number lie where sums and differences stay inside int. -/
def TreeB (x : Int × Int) : Prop := (-1000000000000 ≤ x.1 ∧ x.1 ≤ 1000000000000) ∧ (-1000000000000 ≤ x.2 ∧ x.2 ≤ 1000000000000)
def treeV (x : Int × Int) : Value := .agg #[.int .i64 x.1, .int .i64 x.2]
def treeC (x : Int × Int) : List Value := [.int .i64 x.1, .int .i64 x.2]
def treesC (l : List (Int × Int)) : List Value := l.flatMap treeC
theorem treesC_length (l : List (Int × Int)) : (treesC l).length = l.length * 2 := by
  induction l with
  | nil => rfl
  | cons x l ih => rw [treesC, List.flatMap_cons, List.length_append, ← treesC, ih]; simp [treeC]; omega
theorem treesC_append (a b : List (Int × Int)) : treesC (a ++ b) = treesC a ++ treesC b := by simp [treesC]
theorem treesC_get {l : List (Int × Int)} {i : Nat} {x : Int × Int} (h : l[i]? = some x) : (treesC l)[i * 2]? = some (.int .i64 x.1) ∧ (treesC l)[i * 2 + 1]? = some (.int .i64 x.2) := by
  induction l generalizing i with
  | nil => simp at h
  | cons y l ih =>
    cases i with
    | zero => simp at h; subst h; exact ⟨rfl, rfl⟩
    | succ i =>
      have h' := ih (i := i) (by simpa using h)
      rw [show (i + 1) * 2 = i * 2 + 1 + 1 by omega, treesC, List.flatMap_cons, treeC]
      simp only [List.cons_append, List.nil_append, List.getElem?_cons_succ]
      exact h'
theorem treesC_set (l : List (Int × Int)) (i : Nat) (x : Int × Int) : ((treesC l).set (i * 2) (.int .i64 x.1)).set (i * 2 + 1) (.int .i64 x.2) = treesC (l.set i x) := by
  induction l generalizing i with
  | nil => simp [treesC]
  | cons y l ih =>
    cases i with
    | zero => rfl
    | succ i =>
      have h' := ih i
      rw [show (i + 1) * 2 = i * 2 + 1 + 1 by omega]
      simp only [treesC, List.flatMap_cons, treeC, List.cons_append, List.nil_append, List.set_cons_succ] at h' ⊢
      rw [h']
theorem treesC_take (l : List (Int × Int)) (k : Nat) : (treesC l).take (k * 2) = treesC (l.take k) := by
  induction l generalizing k with
  | nil => simp [treesC]
  | cons y l ih =>
    cases k with
    | zero => rfl
    | succ k =>
      have h' := ih k
      rw [show (k + 1) * 2 = k * 2 + 1 + 1 by omega]
      simp only [treesC, List.flatMap_cons, treeC, List.cons_append, List.nil_append, List.take_succ_cons] at h' ⊢
      rw [h']
theorem treesC_one (l : List (Int × Int)) : ∀ u ∈ treesC l, u.oneCell' = true := by
  intro u hu
  obtain ⟨x, -, hx⟩ := List.mem_flatMap.1 hu
  simp [treeC] at hx
  rcases hx with rfl | rfl <;> rfl
theorem eqTree (a b c d : Int) (w : World) : (binOp .eql 129 (.agg #[.int .i64 a, .int .i64 b]) (.agg #[.int .i64 c, .int .i64 d])).run Try.prog w = .ok (.bool (a == c && b == d)) w := by
  rw [run_eql_struct, run_equalIn_agg _ _ _ _ _ (by kernel_rfl) (by kernel_rfl)]
  simp [Program.fieldsOf, Try.underlying129, Op.eqFields, go_sem, part, Try.underlying3]
  by_cases h1 : a = c <;> by_cases h2 : b = d <;> simp [h1, h2]

def AheadPost (x y : Int × Int) (w : World) (e : Ending) (w' : World) : Prop := e = .returned (.int .i64 (aheadI x y)) ∧ Kept [] w w'
theorem ahead_any (x y : Int × Int) (w : World) (hx : TreeB x) (hy : TreeB y) : Calls Try.prog 100 #[treeV x, treeV y] w (AheadPost x y w) := by
  obtain ⟨a, b⟩ := x
  obtain ⟨c, d⟩ := y
  obtain ⟨⟨x1, x2⟩, x3, x4⟩ := hx
  obtain ⟨⟨y1, y2⟩, y3, y4⟩ := hy
  simp only at x1 x2 x3 x4 y1 y2 y3 y4
  unfold treeV
  have heq := fun W => eqTree a b c d W
  by_cases h1 : a = c
  · by_cases h2 : b = d
    · subst h1
      subst h2
      have e1 : (a == a && b == b) = true := by simp
      rw [e1] at heq
      have HE := Lib.hid (show aheadI (a, b) (a, b) = 0 by unfold aheadI; simp)
      go_enter Try.func100, Try.ntmps100
      go_wp2_with fail
      go_ret
      exact ⟨by rw [HE.out]; rfl, ((Kept.refl _ _).alloc _).alloc _⟩
    · have e1 : (a == c && b == d) = false := by simp [h2]
      rw [e1] at heq
      have HE := Lib.hid (show aheadI (a, b) (c, d) = b - d by unfold aheadI; simp [h1])
      have g1 : (a == c) = true := by simp [h1]
      have g2 : (a != c) = false := by simp [h1]
      have H1 := Lib.hid h1
      clear h1
      go_enter Try.func100, Try.ntmps100
      go_wp2_with fail
      go_ret
      exact ⟨by rw [HE.out]; rfl, ((Kept.refl _ _).alloc _).alloc _⟩
  · have e1 : (a == c && b == d) = false := by simp [h1]
    rw [e1] at heq
    have HE := Lib.hid (show aheadI (a, b) (c, d) = a - c by unfold aheadI; simp [h1])
    have g1 : (a == c) = false := by simp [h1]
    have g2 : (a != c) = true := by simp [h1]
    go_enter Try.func100, Try.ntmps100
    go_wp2_with fail
    go_ret
    exact ⟨by rw [HE.out]; rfl, ((Kept.refl _ _).alloc _).alloc _⟩

theorem Sees.tree {w : World} {b off n i : Nat} {l : List (Int × Int)} {x : Int × Int} (h : Sees w 2 (some ⟨b, off, none⟩) n (treesC l)) (hx : l[i]? = some x) :
    w.cell? ⟨b, off + i * 2, none⟩ = some (.int .i64 x.1) ∧ w.cell? ⟨b, off + i * 2 + 1, none⟩ = some (.int .i64 x.2) := by
  obtain ⟨h1, h2⟩ := treesC_get hx
  obtain ⟨b1, o1, e1, c1⟩ := h.2 _ _ h1
  obtain ⟨b2, o2, e2, c2⟩ := h.2 _ _ h2
  cases e1
  cases e2
  exact ⟨c1, c2⟩

/-- None of the list is ahead of m. -/
def LeastT (l : List (Int × Int)) (m : Int × Int) : Prop := ∀ x ∈ l, ¬ (x.1 < m.1 ∨ (x.1 = m.1 ∧ x.2 < m.2))
def MinTPost (l : List (Int × Int)) (w : World) (e : Ending) (w' : World) : Prop := ∃ m : Int × Int, e = .returned (treeV m) ∧ m ∈ l ∧ LeastT l m ∧ Kept [] w w'
def MinTI (w0 : World) (l : List (Int × Int)) (gr gm : Nat) (k : Nat) (v : Value) (wr : World) : Prop :=
  ∃ (i : Nat) (m : Int × Int), 1 ≤ i ∧ i ≤ l.length ∧ k = l.length - i ∧ v = .int .i64 (i : Nat) ∧ Hid (m ∈ l ∧ LeastT (l.take i) m) ∧ Hid (Arr wr gm 129 [.int .i64 m.1, .int .i64 m.2]) ∧
    Hid (Arr wr gr 129 [.int .i64 0, .int .i64 0]) ∧ Hid (Kept [] w0 wr)
theorem minT_any (a : Option Addr) (c : Nat) (l : List (Int × Int)) (w : World) (h : Sees w 2 a l.length (treesC l)) (h0 : 1 ≤ l.length) (hl : l.length ≤ 1000000) (hb : ∀ x ∈ l, TreeB x) :
    Calls Try.prog 105 #[.slice a l.length c, .func (.func 100) #[] #[]] w (MinTPost l w) := by
  have HS := Lib.hid h
  obtain ⟨b, off, rfl, -⟩ := h.at (by rw [treesC_length]; omega)
  obtain ⟨x0, hx0⟩ : ∃ x, l[0]? = some x := ⟨_, List.getElem?_eq_getElem (by omega)⟩
  obtain ⟨c0, c1⟩ := HS.out.tree hx0
  have g0 : decide ((l.length : Int) < 1) = false := by simp; omega
  have hpos : (0 : Int) < (l.length : Int) := by omega
  have HX0 := Lib.hid hx0
  have HB := Lib.hid hb
  rw [Nat.zero_mul, Nat.add_zero] at c0 c1
  have hblt : b < w.heap.size := World.block_lt_of_cell? w _ c0
  clear h hx0 hb
  go_enter Try.func105, Try.ntmps105
  go_wp2_with fail
  have HG := Lib.hid (Arr.new (w.alloc (.cells #[.int .i64 0, .int .i64 0] 129)) [.int .i64 x0.1, .int .i64 x0.2] 129)
  have HR := Lib.hid ((Arr.new w [.int .i64 0, .int .i64 0] 129).kept ((Kept.refl [] _).alloc (.cells #[.int .i64 x0.1, .int .i64 x0.2] 129)) (by simp))
  have HK := Lib.hid (((Kept.refl [] w).alloc (.cells #[.int .i64 0, .int .i64 0] 129)).alloc (.cells #[.int .i64 x0.1, .int .i64 x0.2] 129))
  have e1 : (w.alloc (.cells #[.int .i64 0, .int .i64 0] 129)).heap.size = w.heap.size + 1 := by simp
  rw [e1] at HG
  clear e1 c0 c1
  go_loopg [6] (l.length - 1) (fun k v wr => MinTI w l w.heap.size (w.heap.size + 1) k v wr)
  case atStart => exact ⟨1, x0, Nat.le_refl _, h0, by omega, rfl, Lib.hid ⟨List.mem_of_getElem? HX0.out, fun x hx => by
    have : l.take 1 = [x0] := by
      have hh := HX0.out
      cases l with
      | nil => simp at hh
      | cons y r => simp at hh; subst hh; rfl
    rw [this] at hx
    simp at hx; subst hx
    omega⟩, HG, HR, HK⟩
  case round =>
    obtain ⟨i, m, h1, hi, hk, rfl, HM, HG, HR, HK⟩ := hrel
    have Hk := Lib.hid hk
    clear hk
    by_cases hlt : i < l.length
    · have hli : (i : Int) < (l.length : Int) := by omega
      obtain ⟨x, hx⟩ : ∃ x, l[i]? = some x := ⟨_, List.getElem?_eq_getElem hlt⟩
      obtain ⟨d0, d1⟩ := (HS.out.kept0 HK.out).tree hx
      have d2 : wr.cell? ⟨w.heap.size + 1, 0, none⟩ = some (.int .i64 m.1) := HG.out.cell (i := 0) rfl
      have d3 : wr.cell? ⟨w.heap.size + 1, 1, none⟩ = some (.int .i64 m.2) := HG.out.cell (i := 1) rfl
      have HA := Lib.hid (fun W => ahead_any x m W (HB.out x (List.mem_of_getElem? hx)) (HB.out m HM.out.1))
      have HX := Lib.hid hx
      clear hx
      unfold treeV at HA
      by_cases hneg : aheadI x m < 0
      · have hdr : decide (aheadI x m < 0) = true := decide_eq_true hneg
        go_wp2_with fail
        go_region_held3 (fun w' => Kept [] wr w' ∧ w'.cell? ⟨b, off + i * 2, none⟩ = some (.int .i64 x.1) ∧ w'.cell? ⟨b, off + i * 2 + 1, none⟩ = some (.int .i64 x.2) ∧ w'.cell? ⟨w.heap.size + 1, 0, none⟩ = some (.int .i64 m.1) ∧ w'.cell? ⟨w.heap.size + 1, 1, none⟩ = some (.int .i64 m.2))
          (first | exact ⟨(Kept.refl _ _).drew, d0, d1, d2, d3⟩ | exact ⟨hk2, hk2.cellOf d0 (by simp), hk2.cellOf d1 (by simp), hk2.cellOf d2 (by simp), hk2.cellOf d3 (by simp)⟩)
          (first | (go_at_call 100; refine (HA.out _).mono ?_; rintro e w2 ⟨rfl, hk2'⟩; have hk2 : Kept [] wr w2 := (Kept.refl [] wr).drew.trans hk2' (by simp)))
        rename_i hS
        clear hS
        have HG2 := Lib.hid (HG.out.kept hk2 (by simp))
        have HR2 := Lib.hid (HR.out.kept hk2 (by simp))
        have HK2 := Lib.hid (HK.out.trans hk2 (by simp))
        have e0 := hk2.cellOf d0 (by simp)
        have e1 := hk2.cellOf d1 (by simp)
        have e2 := hk2.cellOf d2 (by simp)
        have e3 := hk2.cellOf d3 (by simp)
        have f0 := HG2.out.free 0
        have f1 := HG2.out.free 1
        have hgs : w.heap.size + 1 < w2.heap.size := HG2.out.lt
        have HG3 := Lib.hid ((HG2.out.set 0 (.int .i64 x.1)).set 1 (.int .i64 x.2))
        have HR3 := Lib.hid ((HR2.out.kept (((Kept.refl [w.heap.size + 1] w2).setCell (p := ⟨w.heap.size + 1, 0, none⟩) (by simp) (.int .i64 x.1)).setCell (p := ⟨w.heap.size + 1, 1, none⟩) (by simp) (.int .i64 x.2)) (by simp)))
        have HK3 := Lib.hid ((HK2.out.setCell (p := ⟨w.heap.size + 1, 0, none⟩) (by simp) (.int .i64 x.1)).setCell (p := ⟨w.heap.size + 1, 1, none⟩) (by simp) (.int .i64 x.2))
        clear hk2 d0 d1 d2 d3 HG2 HR2 HK2
        go_wp2_with fail
        go_roundg (l.length - (i + 1))
        case measure => have := Hk.out; omega
        case rel =>
          refine ⟨i + 1, x, by omega, by omega, rfl, by simp, Lib.hid ⟨List.mem_of_getElem? HX.out, fun y hy => ?_⟩, HG3, HR3, HK3⟩
          rw [aheadI_neg] at hneg
          rw [List.take_add_one, HX.out] at hy
          rcases List.mem_append.1 hy with h | h
          · have := HM.out.2 y h
            omega
          · simp at h; subst h; omega
      · have hdr : decide (aheadI x m < 0) = false := decide_eq_false hneg
        go_wp2_with fail
        go_region_held3 (fun w' => Kept [] wr w' ∧ w'.cell? ⟨b, off + i * 2, none⟩ = some (.int .i64 x.1) ∧ w'.cell? ⟨b, off + i * 2 + 1, none⟩ = some (.int .i64 x.2) ∧ w'.cell? ⟨w.heap.size + 1, 0, none⟩ = some (.int .i64 m.1) ∧ w'.cell? ⟨w.heap.size + 1, 1, none⟩ = some (.int .i64 m.2))
          (first | exact ⟨(Kept.refl _ _).drew, d0, d1, d2, d3⟩ | exact ⟨hk2, hk2.cellOf d0 (by simp), hk2.cellOf d1 (by simp), hk2.cellOf d2 (by simp), hk2.cellOf d3 (by simp)⟩)
          (first | (go_at_call 100; refine (HA.out _).mono ?_; rintro e w2 ⟨rfl, hk2'⟩; have hk2 : Kept [] wr w2 := (Kept.refl [] wr).drew.trans hk2' (by simp)))
        rename_i hS
        clear hS
        have HG2 := Lib.hid (HG.out.kept hk2 (by simp))
        have HR2 := Lib.hid (HR.out.kept hk2 (by simp))
        have HK2 := Lib.hid (HK.out.trans hk2 (by simp))
        clear hk2 d0 d1 d2 d3
        go_wp2_with fail
        go_roundg (l.length - (i + 1))
        case measure => have := Hk.out; omega
        case rel =>
          refine ⟨i + 1, m, by omega, by omega, rfl, by simp, Lib.hid ⟨HM.out.1, fun y hy => ?_⟩, HG2, HR2, HK2⟩
          rw [List.take_add_one, HX.out] at hy
          rcases List.mem_append.1 hy with h | h
          · exact HM.out.2 y h
          · simp at h; rw [h]
            have h2 := aheadI_neg x m
            omega
    · obtain rfl : i = l.length := by omega
      have hll : ¬ (l.length : Int) < (l.length : Int) := by omega
      have d2 : wr.cell? ⟨w.heap.size + 1, 0, none⟩ = some (.int .i64 m.1) := HG.out.cell (i := 0) rfl
      have d3 : wr.cell? ⟨w.heap.size + 1, 1, none⟩ = some (.int .i64 m.2) := HG.out.cell (i := 1) rfl
      have r0 : wr.cell? ⟨w.heap.size, 0, none⟩ = some (.int .i64 0) := HR.out.cell (i := 0) rfl
      have r1 : wr.cell? ⟨w.heap.size, 1, none⟩ = some (.int .i64 0) := HR.out.cell (i := 1) rfl
      have f0 := HR.out.free 0
      have f1 := HR.out.free 1
      have s0 : ((wr.setCell ⟨w.heap.size, 0, none⟩ (.int .i64 m.1)).setCell ⟨w.heap.size, 1, none⟩ (.int .i64 m.2)).cell? ⟨w.heap.size, 0, none⟩ = some (.int .i64 m.1) := ((HR.out.set 0 (.int .i64 m.1)).set 1 (.int .i64 m.2)).cell (i := 0) rfl
      have s1 : ((wr.setCell ⟨w.heap.size, 0, none⟩ (.int .i64 m.1)).setCell ⟨w.heap.size, 1, none⟩ (.int .i64 m.2)).cell? ⟨w.heap.size, 1, none⟩ = some (.int .i64 m.2) := ((HR.out.set 0 (.int .i64 m.1)).set 1 (.int .i64 m.2)).cell (i := 1) rfl
      have hM := HM.out
      rw [List.take_of_length_le (Nat.le_refl _)] at hM
      have HM2 := Lib.hid hM
      clear hM
      have HK3 := Lib.hid ((HK.out.setCell (p := ⟨w.heap.size, 0, none⟩) (by simp) (.int .i64 m.1)).setCell (p := ⟨w.heap.size, 1, none⟩) (by simp) (.int .i64 m.2))
      go_wp2_with fail
      refine bodyPost_ret (v := treeV m) (by simp [results, Try.results105, go_sem, treeV, s0, s1]) rfl ?_
      exact ⟨m, rfl, HM2.out.1, HM2.out.2, HK3.out⟩

def IdxTPost (l : List (Int × Int)) (x : Int × Int) (w : World) (e : Ending) (w' : World) : Prop := ∃ i : Nat, e = .returned (.int .i64 (i : Nat)) ∧ l[i]? = some x ∧ Kept [] w w'
theorem idxT_any (a : Option Addr) (c : Nat) (l : List (Int × Int)) (x : Int × Int) (w : World) (h : Sees w 2 a l.length (treesC l)) (hl : l.length ≤ 1000000) (hx : x ∈ l) :
    Calls Try.prog 106 #[.slice a l.length c, treeV x] w (IdxTPost l x w) := by
  have HS := Lib.hid h
  have HX := Lib.hid hx
  have hpos : 0 < l.length := List.length_pos_of_mem hx
  obtain ⟨b, off, rfl, -⟩ := h.at (by rw [treesC_length]; omega)
  clear h hx
  unfold treeV
  go_enter Try.func106, Try.ntmps106
  go_wp2_with fail
  have HP := Lib.hid (Arr.new w [.int .i64 x.1, .int .i64 x.2] 129)
  have HK := Lib.hid ((Kept.refl [] w).alloc (.cells #[.int .i64 x.1, .int .i64 x.2] 129))
  go_loopg [8] l.length (fun k v wr => ∃ i : Nat, i ≤ l.length ∧ k = l.length - i ∧ v = .int .i64 (i : Nat) ∧ Hid (x ∉ l.take i) ∧ Hid (Arr wr w.heap.size 129 [.int .i64 x.1, .int .i64 x.2]) ∧ Hid (Kept [] w wr))
  case atStart => exact ⟨0, by omega, by omega, rfl, Lib.hid (by simp), HP, HK⟩
  case round =>
    clear HP HK
    obtain ⟨i, hi, hk, rfl, HN, HP, HK⟩ := hrel
    have Hk := Lib.hid hk
    clear hk
    by_cases hlt : i < l.length
    · have hli : (i : Int) < (l.length : Int) := by omega
      obtain ⟨y, hy⟩ : ∃ y, l[i]? = some y := ⟨_, List.getElem?_eq_getElem hlt⟩
      obtain ⟨d0, d1⟩ := (HS.out.kept0 HK.out).tree hy
      have d2 : wr.cell? ⟨w.heap.size, 0, none⟩ = some (.int .i64 x.1) := HP.out.cell (i := 0) rfl
      have d3 : wr.cell? ⟨w.heap.size, 1, none⟩ = some (.int .i64 x.2) := HP.out.cell (i := 1) rfl
      have heq := fun W => eqTree x.1 x.2 y.1 y.2 W
      have HY := Lib.hid hy
      clear hy
      by_cases he : x = y
      · have e1 : (x.1 == y.1 && x.2 == y.2) = true := by rw [he]; simp
        rw [e1] at heq
        have HE := Lib.hid he
        clear he e1
        go_wp2_with fail
        go_quiet (fail)
        go_wp2_with fail
        go_ret
        exact ⟨i, rfl, by rw [HE.out]; exact HY.out, HK.out.drewN _⟩
      · have e1 : (x.1 == y.1 && x.2 == y.2) = false := by
          rw [Bool.and_eq_false_iff, beq_eq_false_iff_ne, beq_eq_false_iff_ne]
          rcases Classical.em (x.1 = y.1) with h | h
          · exact .inr fun h' => he (Prod.ext h h')
          · exact .inl h
        rw [e1] at heq
        have HE := Lib.hid he
        clear he e1
        go_wp2_with fail
        go_quiet (fail)
        go_wp2_with fail
        go_roundg (l.length - (i + 1))
        case measure => have := Hk.out; omega
        case rel =>
          refine ⟨i + 1, by omega, by omega, by simp, Lib.hid fun hm => ?_, Lib.hid (HP.out.kept ((Kept.refl [] wr).drewN _) (by simp)), Lib.hid (HK.out.drewN _)⟩
          rw [List.take_add_one, HY.out] at hm
          rcases List.mem_append.1 hm with h | h
          · exact HN.out h
          · simp at h; exact HE.out h
    · obtain rfl : i = l.length := by omega
      have := HN.out
      rw [List.take_of_length_le (Nat.le_refl _)] at this
      exact absurd HX.out this
end Go.Proofs.Ytdaenajhgbagdaa
namespace Go.Proofs.Ytdaenajhgbagdaa
open Go.RowKit
set_option linter.unusedVariables false
set_option linter.unusedSimpArgs false

theorem room_pos (ls : List Nat) (h : 0 < ls.length) : 0 < K.room ls := by
  cases ls with
  | nil => simp at h
  | cons x ls =>
    have e : K.room (x :: ls) = 2 ^ (20 - x) + K.room ls := by simp [K.room]
    have := Nat.two_pow_pos (20 - x)
    rw [e]; omega
/-- What sum tells. -/
def sumR (xs : List Int) : Nat := if K.lensOk xs then K.room (K.natsOf xs) else 0
/-- In the loops: i lengths take so much room. -/
def SumI (w0 : World) (xs : List Int) (k : Nat) (n c : Value) (w : World) : Prop :=
  ∃ i, i ≤ xs.length ∧ k = xs.length - i ∧ c = .int .i64 (i : Nat) ∧ n = .int .i64 (K.room (K.natsOf (xs.take i)) : Nat) ∧ ((xs.take i).all fun x => decide (1 ≤ x ∧ x ≤ 20)) = true ∧ w0 = w
theorem natsOf_snoc (xs : List Int) (x : Int) : K.natsOf (xs ++ [x]) = K.natsOf xs ++ [x.toNat] := by simp [K.natsOf]
theorem pow20 (m : Nat) : 2 ^ (20 - m) ≤ 1048576 := by
  have : (2 : Nat) ^ (20 - m) ≤ 2 ^ 20 := Nat.pow_le_pow_right (by decide) (by omega)
  exact this
theorem pow19 (m : Nat) (h : 1 ≤ m) : 2 ^ (20 - m) ≤ 524288 := by
  have : (2 : Nat) ^ (20 - m) ≤ 2 ^ 19 := Nat.pow_le_pow_right (by decide) (by omega)
  exact this
theorem room_le2 (ls : List Nat) (h : ∀ x ∈ ls, 1 ≤ x) : K.room ls ≤ ls.length * 524288 := by
  induction ls with
  | nil => simp [K.room]
  | cons x ls ih =>
    have ih := ih (fun y hy => h y (by simp [hy]))
    have := pow19 x (h x (by simp))
    have e : K.room (x :: ls) = 2 ^ (20 - x) + K.room ls := by simp [K.room]
    rw [e, List.length_cons, Nat.succ_mul]
    omega
theorem natsOf_pos (xs : List Int) (h : (xs.all fun x => decide (1 ≤ x ∧ x ≤ 20)) = true) : ∀ x ∈ K.natsOf xs, 1 ≤ x := by
  intro x hx
  simp only [K.natsOf, List.mem_map] at hx
  obtain ⟨y, hy, rfl⟩ := hx
  rw [List.all_eq_true] at h
  have := of_decide_eq_true (h y hy)
  omega
theorem lensOk_all (xs : List Int) (h2 : 2 ≤ xs.length ∧ xs.length ≤ 258) (h : ((xs.take xs.length).all fun x => decide (1 ≤ x ∧ x ≤ 20)) = true) : K.lensOk xs = true := by
  rw [List.take_length] at h
  unfold K.lensOk
  rw [h]; simp; exact h2

theorem sum_any (a : Option Addr) (cap : Nat) (xs : List Int) (w : World) (h : Sees w 1 a xs.length (intVals xs)) (hlen : xs.length ≤ 140737488351232) :
    Calls Try.prog 78 #[.slice a xs.length cap] w fun e w' => e = .returned (.int .i64 (sumR xs : Nat)) ∧ w = w' := by
  have HS := Lib.hid h
  clear h
  by_cases h2 : xs.length < 2
  · have g1 : decide ((xs.length : Int) < 2) = true := by simp; omega
    have hR : sumR xs = 0 := by unfold sumR; rw [K.lensOk_no xs (by omega)]; rfl
    have HR := Lib.hid hR
    clear hR
    go_enter Try.func78, Try.ntmps78
    go_wp2_with fail
    go_ret
    exact ⟨by rw [HR.out]; rfl, rfl⟩
  · have g1 : decide ((xs.length : Int) < 2) = false := by simp; omega
    by_cases h3 : 258 < xs.length
    · have g2 : decide (258 < (xs.length : Int)) = true := by simp; omega
      have hR : sumR xs = 0 := by unfold sumR; rw [K.lensOk_no xs (by omega)]; rfl
      have HR := Lib.hid hR
      clear hR
      go_enter Try.func78, Try.ntmps78
      go_wp2_with fail
      go_ret
      exact ⟨by rw [HR.out]; rfl, rfl⟩
    · have g2 : decide (258 < (xs.length : Int)) = false := by simp; omega
      go_enter Try.func78, Try.ntmps78
      go_wp2_with fail
      clear g1 g2
      go_loopg [3, 16] xs.length (fun k n c wr => SumI w xs k n c wr)
      case atStart => exact ⟨0, by omega, by omega, rfl, rfl, rfl, rfl⟩
      case round =>
        obtain ⟨i, hi, hk, rfl, rfl, hall, rfl⟩ := hrel
        have Hk := Lib.hid hk
        have HALL := Lib.hid hall
        have hro := K.room_le (K.natsOf (xs.take i))
        have hrl : (K.natsOf (xs.take i)).length ≤ 258 := by rw [K.natsOf_length, List.length_take]; omega
        have hro2 : K.room (K.natsOf (xs.take i)) ≤ 300000000 := by omega
        clear hk hall hro hrl
        by_cases hlt : i < xs.length
        · have hli : (i : Int) < (xs.length : Int) := by omega
          obtain ⟨x, hx⟩ : ∃ x, xs[i]? = some x := ⟨_, List.getElem?_eq_getElem hlt⟩
          obtain ⟨b0, off, rfl, -⟩ := HS.out.at (by rw [intVals_length]; omega)
          have c0 := HS.out.int hx
          have ex : xs.take (i + 1) = xs.take i ++ [x] := by rw [List.take_add_one, hx]; rfl
          have EX := Lib.hid ex
          have HX := Lib.hid hx
          clear ex hx
          by_cases hgood : 1 ≤ x ∧ x ≤ 20
          · have g1 : decide (x < 1) = false := by simp; omega
            have g2 : decide (20 < x) = false := by simp; omega
            obtain ⟨m, rfl⟩ := Int.eq_ofNat_of_zero_le (show 0 ≤ x by omega)
            obtain ⟨t, ht⟩ : ∃ t, 20 - m = t := ⟨_, rfl⟩
            have hsub : IntKind.i64.wrap (20 - (m : Int)) = (t : Int) := by rw [IntWalk.i64_in _ (by omega)]; omega
            have hp := pow20 m
            rw [ht] at hp
            have ht20 : t ≤ 20 := by omega
            have hpw : (2 : Int) ^ t = ((2 ^ t : Nat) : Int) := by norm_cast
            have hrs : K.room (K.natsOf (xs.take (i + 1))) = K.room (K.natsOf (xs.take i)) + 2 ^ t := by rw [EX.out, natsOf_snoc, K.room_snoc, Int.toNat_natCast, ht]
            generalize (2 : Nat) ^ t = p at hp hpw hrs
            have HRS := Lib.hid hrs
            have hg3 : ((([((m : Nat) : Int)] : List Int).all fun x => decide (1 ≤ x ∧ x ≤ 20))) = true := by simp; omega
            have HG := Lib.hid hg3
            clear ht hrs hg3
            go_wp2_with fail
            go_roundg (xs.length - (i + 1))
            case measure => have := Hk.out; omega
            case rel => exact ⟨i + 1, by omega, rfl, by go_num, by rw [HRS.out]; go_num, by rw [EX.out, List.all_append, HALL.out, Bool.true_and]; exact HG.out, rfl⟩
          · have hno : sumR xs = 0 := by unfold sumR; rw [K.lensOk_bad xs i x HX.out (by omega)]; rfl
            have HNO := Lib.hid hno
            clear hno
            by_cases h1 : x < 1
            · have g1 : decide (x < 1) = true := by simp; omega
              go_wp2_with fail
              go_ret
              exact ⟨by rw [HNO.out]; rfl, rfl⟩
            · have g1 : decide (x < 1) = false := by simp; omega
              have g2 : decide (20 < x) = true := by simp; omega
              go_wp2_with fail
              go_ret
              exact ⟨by rw [HNO.out]; rfl, rfl⟩
        · obtain rfl : i = xs.length := by omega
          have hok := lensOk_all xs (by omega) HALL.out
          have hR : sumR xs = K.room (K.natsOf (xs.take xs.length)) := by unfold sumR; rw [hok, List.take_length]; rfl
          have HR := Lib.hid hR
          clear hok hR
          go_wp2_with fail
          go_ret
          exact ⟨by rw [HR.out]; rfl, rfl⟩

theorem sumR_good (xs : List Int) : K.goodL xs = (decide (sumR xs ≠ 0) && decide (sumR xs ≤ 1048576)) := by
  unfold sumR K.goodL
  rcases Bool.eq_false_or_eq_true (K.lensOk xs) with h | h
  · have hl := ((K.lensOk_iff xs).1 h).1
    have := room_pos (K.natsOf xs) (by rw [K.natsOf_length]; omega)
    rw [h, if_pos rfl]
    have : K.room (K.natsOf xs) ≠ 0 := by omega
    simp [this]
  · rw [h]; simp
/-- What Check tells. -/
def checkR (xs : List Int) : Nat := if K.goodL xs then 0 else 80
theorem check_any (a : Option Addr) (cap : Nat) (xs : List Int) (w : World) (h : Sees w 1 a xs.length (intVals xs)) (hlen : xs.length ≤ 140737488351232) :
    Calls Try.prog 60 #[.slice a xs.length cap] w fun e w' => e = .returned (.int .i64 (checkR xs : Nat)) ∧ w = w' := by
  have HS := Lib.hid h
  have HG := Lib.hid (sumR_good xs)
  clear h
  go_enter Try.func60, Try.ntmps60
  go_wp2_with fail
  refine (sum_any a cap xs _ HS.out hlen).mono ?_
  rintro e w' ⟨rfl, rfl⟩
  generalize sumR xs = n at HG ⊢
  by_cases h0 : n = 0
  · have hR : checkR xs = 80 := by unfold checkR; rw [HG.out, h0]; rfl
    have HR := Lib.hid hR
    subst h0
    clear hR
    go_wp2_with fail
    go_ret
    exact ⟨by rw [HR.out]; rfl, rfl⟩
  · have g1 : ((n : Int) == 0) = false := by simp; omega
    by_cases h1 : n ≤ 1048576
    · have hR : checkR xs = 0 := by unfold checkR; rw [HG.out]; simp [h0, h1]
      have HR := Lib.hid hR
      have g2 : decide (1048576 < (n : Int)) = false := by simp; omega
      clear hR
      go_wp2_with fail
      go_ret
      exact ⟨by rw [HR.out]; rfl, rfl⟩
    · have hR : checkR xs = 80 := by unfold checkR; rw [HG.out]; simp [h0]; omega
      have HR := Lib.hid hR
      have g2 : decide (1048576 < (n : Int)) = true := by simp; omega
      clear hR
      go_wp2_with fail
      go_ret
      exact ⟨by rw [HR.out]; rfl, rfl⟩

/-- What the reference's room tells. -/
def roomR (xs : List Int) : Int := if K.goodL xs then (K.room (K.natsOf xs) : Nat) else -1
theorem rroom_any (a : Option Addr) (cap : Nat) (xs : List Int) (w : World) (h : Sees w 1 a xs.length (intVals xs)) (hlen : xs.length ≤ 17592186043904) :
    Calls Try.prog 91 #[.slice a xs.length cap] w fun e w' => e = .returned (.int .i64 (roomR xs)) ∧ w = w' := by
  have HS := Lib.hid h
  clear h
  go_enter Try.func91, Try.ntmps91
  go_wp2_with fail
  go_loopg [3, 4] xs.length (fun k n c wr => SumI w xs k n c wr)
  case atStart => exact ⟨0, by omega, by omega, rfl, rfl, rfl, rfl⟩
  case round =>
    obtain ⟨i, hi, hk, rfl, rfl, hall, rfl⟩ := hrel
    have Hk := Lib.hid hk
    have HALL := Lib.hid hall
    have hro := room_le2 (K.natsOf (xs.take i)) (natsOf_pos _ hall)
    have hrl : (K.natsOf (xs.take i)).length = i := by rw [K.natsOf_length, List.length_take]; omega
    rw [hrl] at hro
    clear hk hall hrl
    by_cases hlt : i < xs.length
    · have hli : (i : Int) < (xs.length : Int) := by omega
      obtain ⟨x, hx⟩ : ∃ x, xs[i]? = some x := ⟨_, List.getElem?_eq_getElem hlt⟩
      obtain ⟨b0, off, rfl, -⟩ := HS.out.at (by rw [intVals_length]; omega)
      have c0 := HS.out.int hx
      have ex : xs.take (i + 1) = xs.take i ++ [x] := by rw [List.take_add_one, hx]; rfl
      have EX := Lib.hid ex
      have HX := Lib.hid hx
      clear ex hx
      by_cases hgood : 1 ≤ x ∧ x ≤ 20
      · have g1 : decide (x < 1) = false := by simp; omega
        have g2 : decide (20 < x) = false := by simp; omega
        obtain ⟨m, rfl⟩ := Int.eq_ofNat_of_zero_le (show 0 ≤ x by omega)
        obtain ⟨t, ht⟩ : ∃ t, 20 - m = t := ⟨_, rfl⟩
        have hsub : IntKind.i64.wrap (20 - (m : Int)) = (t : Int) := by rw [IntWalk.i64_in _ (by omega)]; omega
        have hsub2 : IntKind.u64.wrap (t : Int) = (t : Int) := by rw [IntKind.wrap_u64]; omega
        have hp : 2 ^ (20 - m) ≤ 524288 := pow19 m (by omega)
        rw [ht] at hp
        have hpw : (2 : Int) ^ t = ((2 ^ t : Nat) : Int) := by norm_cast
        have hrs : K.room (K.natsOf (xs.take (i + 1))) = K.room (K.natsOf (xs.take i)) + 2 ^ t := by rw [EX.out, natsOf_snoc, K.room_snoc, Int.toNat_natCast, ht]
        have ht20 : t ≤ 20 := by omega
        generalize (2 : Nat) ^ t = p at hp hpw hrs
        have HRS := Lib.hid hrs
        have hg3 : ((([((m : Nat) : Int)] : List Int).all fun x => decide (1 ≤ x ∧ x ≤ 20))) = true := by simp; omega
        have HG := Lib.hid hg3
        clear ht hrs hg3
        go_wp2_with fail
        go_roundg (xs.length - (i + 1))
        case measure => have := Hk.out; omega
        case rel => exact ⟨i + 1, by omega, rfl, by go_num, by rw [HRS.out]; go_num, by rw [EX.out, List.all_append, HALL.out, Bool.true_and]; exact HG.out, rfl⟩
      · have hno : roomR xs = -1 := by unfold roomR K.goodL; rw [K.lensOk_bad xs i x HX.out (by omega)]; rfl
        have HNO := Lib.hid hno
        clear hno
        by_cases h1 : x < 1
        · have g1 : decide (x < 1) = true := by simp; omega
          go_wp2_with fail
          go_ret
          exact ⟨by rw [HNO.out]; rfl, rfl⟩
        · have g1 : decide (x < 1) = false := by simp; omega
          have g2 : decide (20 < x) = true := by simp; omega
          go_wp2_with fail
          go_ret
          exact ⟨by rw [HNO.out]; rfl, rfl⟩
    · obtain rfl : i = xs.length := by omega
      by_cases h2 : xs.length < 2
      · have g1 : decide ((xs.length : Int) < 2) = true := by simp; omega
        have hno : roomR xs = -1 := by unfold roomR K.goodL; rw [K.lensOk_no xs (by omega)]; rfl
        have HNO := Lib.hid hno
        clear hno
        go_wp2_with fail
        go_ret
        exact ⟨by rw [HNO.out]; rfl, rfl⟩
      · have g1 : decide ((xs.length : Int) < 2) = false := by simp; omega
        by_cases h3 : 258 < xs.length
        · have g2 : decide (258 < (xs.length : Int)) = true := by simp; omega
          have hno : roomR xs = -1 := by unfold roomR K.goodL; rw [K.lensOk_no xs (by omega)]; rfl
          have HNO := Lib.hid hno
          clear hno
          go_wp2_with fail
          go_ret
          exact ⟨by rw [HNO.out]; rfl, rfl⟩
        · have g2 : decide (258 < (xs.length : Int)) = false := by simp; omega
          have hok := lensOk_all xs (by omega) HALL.out
          rw [List.take_length] at hro ⊢
          obtain ⟨r, hr⟩ : ∃ r, K.room (K.natsOf xs) = r := ⟨_, rfl⟩
          rw [hr] at hro ⊢
          by_cases h4 : r ≤ 1048576
          · have g3 : decide (1048576 < (r : Int)) = false := by simp; omega
            have hR : roomR xs = (r : Int) := by unfold roomR K.goodL; rw [hok, hr]; simp [h4]
            have HR := Lib.hid hR
            clear hok hr hR
            go_wp2_with fail
            go_ret
            exact ⟨by rw [HR.out]; rfl, rfl⟩
          · have g3 : decide (1048576 < (r : Int)) = true := by simp; omega
            have hR : roomR xs = -1 := by unfold roomR K.goodL; rw [hok, hr]; simp <;> omega
            have HR := Lib.hid hR
            clear hok hr hR
            go_wp2_with fail
            go_ret
            exact ⟨by rw [HR.out]; rfl, rfl⟩
theorem rcheck_any (a : Option Addr) (cap : Nat) (xs : List Int) (w : World) (h : Sees w 1 a xs.length (intVals xs)) (hlen : xs.length ≤ 17592186043904) :
    Calls Try.prog 64 #[.slice a xs.length cap] w fun e w' => e = .returned (.int .i64 (checkR xs : Nat)) ∧ w = w' := by
  have HS := Lib.hid h
  clear h
  go_enter Try.func64, Try.ntmps64
  go_wp2_with fail
  refine (rroom_any a cap xs _ HS.out hlen).mono ?_
  rintro e w' ⟨rfl, rfl⟩
  rcases Bool.eq_false_or_eq_true (K.goodL xs) with h | h
  · have hr : roomR xs = (K.room (K.natsOf xs) : Nat) := by unfold roomR; rw [h]; rfl
    have hR : checkR xs = 0 := by unfold checkR; rw [h]; rfl
    have HR := Lib.hid hR
    rw [hr]
    have g1 : decide (((K.room (K.natsOf xs) : Nat) : Int) < 0) = false := by simp
    clear hr hR h
    go_wp2_with fail
    go_ret
    exact ⟨by rw [HR.out]; rfl, rfl⟩
  · have hr : roomR xs = -1 := by unfold roomR; rw [h]; rfl
    have hR : checkR xs = 80 := by unfold checkR; rw [h]; rfl
    have HR := Lib.hid hR
    rw [hr]
    clear hr hR h
    go_wp2_with fail
    go_ret
    exact ⟨by rw [HR.out]; rfl, rfl⟩
end Go.Proofs.Ytdaenajhgbagdaa
namespace Go.Proofs.Ytdaenajhgbagdaa
open Go.RowKit
set_option linter.unusedVariables false
set_option linter.unusedSimpArgs false

def MinPost (xs : List Int) (w : World) (e : Ending) (w' : World) : Prop := ∃ m : Int, e = .returned (.int .i64 m) ∧ m ∈ xs ∧ (∀ x ∈ xs, m ≤ x) ∧ w = w'
def MaxPost (xs : List Int) (w : World) (e : Ending) (w' : World) : Prop := ∃ m : Int, e = .returned (.int .i64 m) ∧ m ∈ xs ∧ (∀ x ∈ xs, x ≤ m) ∧ w = w'
theorem take_mem {xs : List Int} {k : Nat} {x y : Int} (hx : xs[k]? = some x) (h : y ∈ xs.take (k + 1)) : y ∈ xs.take k ∨ y = x := by
  rw [List.take_add_one, hx] at h
  rcases List.mem_append.1 h with h | h
  · exact .inl h
  · exact .inr (by simpa using h)
theorem mem_take {xs : List Int} {k : Nat} {y : Int} (h : y ∈ xs.take k) : y ∈ xs := List.mem_of_mem_take h

theorem min_any (a : Option Addr) (c : Nat) (xs : List Int) (w : World) (h : Sees w 1 a xs.length (intVals xs)) (h0 : 1 ≤ xs.length) (hl : xs.length ≤ 1000000) :
    Calls Try.prog 103 #[.slice a xs.length c] w (MinPost xs w) := by
  have HS := Lib.hid h
  obtain ⟨b, off, rfl, -⟩ := h.at (by rw [intVals_length]; omega)
  obtain ⟨x0, hx0⟩ : ∃ x, xs[0]? = some x := ⟨_, List.getElem?_eq_getElem (by omega)⟩
  have c0 := HS.out.int hx0
  have g0 : decide ((xs.length : Int) < 1) = false := by simp; omega
  have hpos : (0 : Int) < (xs.length : Int) := by omega
  have HX0 := Lib.hid hx0
  rw [Nat.add_zero] at c0
  clear h hx0
  go_enter Try.func103, Try.ntmps103
  go_wp2_with fail
  go_loopg [3, 4] (xs.length - 1) (fun k v u wr => ∃ (i : Nat) (m : Int), 1 ≤ i ∧ i ≤ xs.length ∧ k = xs.length - i ∧ v = .int .i64 m ∧ u = .int .i64 (i : Nat) ∧ Hid (m ∈ xs ∧ ∀ x ∈ xs.take i, m ≤ x) ∧ w = wr)
  case atStart => exact ⟨1, x0, Nat.le_refl _, h0, by omega, rfl, rfl, Lib.hid ⟨List.mem_of_getElem? HX0.out, fun x hx => by
    rcases take_mem HX0.out hx with h | h
    · simp at h
    · omega⟩, rfl⟩
  case round =>
    obtain ⟨i, m, h1, hi, hk, rfl, rfl, HM, rfl⟩ := hrel
    have Hk := Lib.hid hk
    clear hk
    by_cases hlt : i < xs.length
    · have hli : (i : Int) < (xs.length : Int) := by omega
      obtain ⟨x, hx⟩ : ∃ x, xs[i]? = some x := ⟨_, List.getElem?_eq_getElem hlt⟩
      have d0 := HS.out.int hx
      have HX := Lib.hid hx
      clear hx
      go_wp2_with fail
      all_goals
        rename_i h
        go_roundg (xs.length - (i + 1))
        case measure => have := Hk.out; omega
        case rel =>
          refine ⟨i + 1, _, by omega, by omega, rfl, rfl, by simp, Lib.hid ⟨?_, fun y hy => ?_⟩, rfl⟩
          · first
              | exact HM.out.1
              | exact List.mem_of_getElem? HX.out
          · rcases take_mem HX.out hy with h' | h'
            · have := HM.out.2 y h'; omega
            · omega
    · obtain rfl : i = xs.length := by omega
      have hll : ¬ (xs.length : Int) < (xs.length : Int) := by omega
      go_wp2_with fail
      go_ret
      have := HM.out
      rw [List.take_of_length_le (Nat.le_refl _)] at this
      exact ⟨m, rfl, this.1, this.2, rfl⟩
theorem max_any (a : Option Addr) (c : Nat) (xs : List Int) (w : World) (h : Sees w 1 a xs.length (intVals xs)) (h0 : 1 ≤ xs.length) (hl : xs.length ≤ 1000000) :
    Calls Try.prog 95 #[.slice a xs.length c] w (MaxPost xs w) := by
  have HS := Lib.hid h
  obtain ⟨b, off, rfl, -⟩ := h.at (by rw [intVals_length]; omega)
  obtain ⟨x0, hx0⟩ : ∃ x, xs[0]? = some x := ⟨_, List.getElem?_eq_getElem (by omega)⟩
  have c0 := HS.out.int hx0
  have g0 : decide ((xs.length : Int) < 1) = false := by simp; omega
  have hpos : (0 : Int) < (xs.length : Int) := by omega
  have HX0 := Lib.hid hx0
  rw [Nat.add_zero] at c0
  clear h hx0
  go_enter Try.func95, Try.ntmps95
  go_wp2_with fail
  go_loopg [3, 4] (xs.length - 1) (fun k v u wr => ∃ (i : Nat) (m : Int), 1 ≤ i ∧ i ≤ xs.length ∧ k = xs.length - i ∧ v = .int .i64 m ∧ u = .int .i64 (i : Nat) ∧ Hid (m ∈ xs ∧ ∀ x ∈ xs.take i, x ≤ m) ∧ w = wr)
  case atStart => exact ⟨1, x0, Nat.le_refl _, h0, by omega, rfl, rfl, Lib.hid ⟨List.mem_of_getElem? HX0.out, fun x hx => by
    rcases take_mem HX0.out hx with h | h
    · simp at h
    · omega⟩, rfl⟩
  case round =>
    obtain ⟨i, m, h1, hi, hk, rfl, rfl, HM, rfl⟩ := hrel
    have Hk := Lib.hid hk
    clear hk
    by_cases hlt : i < xs.length
    · have hli : (i : Int) < (xs.length : Int) := by omega
      obtain ⟨x, hx⟩ : ∃ x, xs[i]? = some x := ⟨_, List.getElem?_eq_getElem hlt⟩
      have d0 := HS.out.int hx
      have HX := Lib.hid hx
      clear hx
      go_wp2_with fail
      all_goals
        rename_i h
        go_roundg (xs.length - (i + 1))
        case measure => have := Hk.out; omega
        case rel =>
          refine ⟨i + 1, _, by omega, by omega, rfl, rfl, by simp, Lib.hid ⟨?_, fun y hy => ?_⟩, rfl⟩
          · first
              | exact HM.out.1
              | exact List.mem_of_getElem? HX.out
          · rcases take_mem HX.out hy with h' | h'
            · have := HM.out.2 y h'; omega
            · omega
    · obtain rfl : i = xs.length := by omega
      have hll : ¬ (xs.length : Int) < (xs.length : Int) := by omega
      go_wp2_with fail
      go_ret
      have := HM.out
      rw [List.take_of_length_le (Nat.le_refl _)] at this
      exact ⟨m, rfl, this.1, this.2, rfl⟩

/-- Weights that may be. -/
def mayL (xs : List Int) : Bool := decide (2 ≤ xs.length) && decide (xs.length ≤ 258) && xs.all fun x => decide (0 ≤ x ∧ x ≤ 1073741824)
def BoolPost (b : Bool) (w : World) (e : Ending) (w' : World) : Prop := e = .returned (.bool b) ∧ w = w'

theorem mayL_of {xs : List Int} (h2 : 2 ≤ xs.length) (h3 : xs.length ≤ 258) (lo hi : Int) (hlo : lo ∈ xs) (hhi : hi ∈ xs) (h4 : ∀ x ∈ xs, lo ≤ x) (h5 : ∀ x ∈ xs, x ≤ hi) :
    mayL xs = (decide (0 ≤ lo) && decide (hi ≤ 1073741824)) := by
  unfold mayL
  rw [decide_eq_true h2, decide_eq_true h3, Bool.true_and, Bool.true_and, Bool.eq_iff_iff, List.all_eq_true, Bool.and_eq_true, decide_eq_true_eq, decide_eq_true_eq]
  constructor
  · intro h
    have a := h lo hlo
    have b := h hi hhi
    rw [decide_eq_true_eq] at a b
    omega
  · intro h x hx
    have a := h4 x hx
    have b := h5 x hx
    rw [decide_eq_true_eq]
    omega

theorem wmay_any (a : Option Addr) (c : Nat) (xs : List Int) (w : World) (h : Sees w 1 a xs.length (intVals xs)) (hl : xs.length ≤ 17592186043904) :
    Calls Try.prog 92 #[.slice a xs.length c] w (BoolPost (mayL xs) w) := by
  by_cases h2 : 2 ≤ xs.length
  · have g1 : decide (2 ≤ (xs.length : Int)) = true := by simp; omega
    by_cases h3 : xs.length ≤ 258
    · have g2 : decide ((xs.length : Int) ≤ 258) = true := by simp; omega
      have A := min_any a c xs w h (by omega) (by omega)
      have B := max_any a c xs w h (by omega) (by omega)
      clear h
      go_enter Try.func92, Try.ntmps92
      go_wp2_with fail
      refine A.mono ?_
      rintro e w' ⟨lo, rfl, hlo, h4, rfl⟩
      have H4 := Lib.hid (And.intro hlo h4)
      clear hlo h4
      by_cases h5 : 0 ≤ lo
      · have g3 : decide (0 ≤ lo) = true := by simp; omega
        go_wp2_with fail
        refine B.mono ?_
        rintro e w' ⟨hi, rfl, hhi, h6, rfl⟩
        have H5 := Lib.hid (And.intro hhi h6)
        clear hhi h6
        have g4 : mayL xs = decide (hi ≤ 1073741824) := by
          rw [mayL_of h2 h3 lo hi H4.out.1 H5.out.1 H4.out.2 H5.out.2, g3, Bool.true_and]
        have G4 := Lib.hid g4
        clear g4
        go_wp2_with fail
        go_ret
        exact ⟨by rw [G4.out]; rfl, rfl⟩
      · have g3 : decide (0 ≤ lo) = false := by simp; omega
        have g4 : mayL xs = false := by
          rw [Bool.eq_false_iff]; intro hh
          unfold mayL at hh
          rw [Bool.and_eq_true, List.all_eq_true] at hh
          have := hh.2 lo H4.out.1
          rw [decide_eq_true_eq] at this
          omega
        have G4 := Lib.hid g4
        clear g4
        go_wp2_with fail
        go_ret
        exact ⟨by rw [G4.out]; rfl, rfl⟩
    · have g2 : decide ((xs.length : Int) ≤ 258) = false := by simp; omega
      have G4 := Lib.hid (show mayL xs = false by unfold mayL; rw [decide_eq_false h3, Bool.and_false, Bool.false_and])
      go_enter Try.func92, Try.ntmps92
      go_wp2_with fail
      go_ret
      exact ⟨by rw [G4.out]; rfl, rfl⟩
  · have g1 : decide (2 ≤ (xs.length : Int)) = false := by simp; omega
    have G4 := Lib.hid (show mayL xs = false by unfold mayL; rw [decide_eq_false h2, Bool.false_and, Bool.false_and])
    go_enter Try.func92, Try.ntmps92
    go_wp2_with fail
    go_ret
    exact ⟨by rw [G4.out]; rfl, rfl⟩
end Go.Proofs.Ytdaenajhgbagdaa
namespace Go.Proofs.Ytdaenajhgbagdaa
open Go.RowKit
set_option linter.unusedVariables false
set_option linter.unusedSimpArgs false

theorem wrmay_any (a : Option Addr) (c : Nat) (xs : List Int) (w : World) (h : Sees w 1 a xs.length (intVals xs)) (hl : xs.length ≤ 17592186043904) :
    Calls Try.prog 96 #[.slice a xs.length c] w (BoolPost (mayL xs) w) := by
  have HS := Lib.hid h
  clear h
  go_enter Try.func96, Try.ntmps96
  go_wp2_with fail
  go_loopg [3] xs.length (fun k v wr => ∃ i : Nat, i ≤ xs.length ∧ k = xs.length - i ∧ v = .int .i64 (i : Nat) ∧ Hid (∀ x ∈ xs.take i, 0 ≤ x ∧ x ≤ 1073741824) ∧ w = wr)
  case atStart => exact ⟨0, by omega, by omega, rfl, Lib.hid (by simp), rfl⟩
  case round =>
    obtain ⟨i, hi, hk, rfl, HM, rfl⟩ := hrel
    have Hk := Lib.hid hk
    clear hk
    by_cases hlt : i < xs.length
    · have hli : (i : Int) < (xs.length : Int) := by omega
      obtain ⟨x, hx⟩ : ∃ x, xs[i]? = some x := ⟨_, List.getElem?_eq_getElem hlt⟩
      obtain ⟨b, off, rfl, -⟩ := HS.out.at (by rw [intVals_length]; omega)
      have d0 := HS.out.int hx
      have HX := Lib.hid hx
      clear hx
      by_cases hbad : x < 0 ∨ 1073741824 < x
      · have HNO := Lib.hid (show mayL xs = false by
          rw [Bool.eq_false_iff]; intro hh
          unfold mayL at hh
          rw [Bool.and_eq_true, List.all_eq_true] at hh
          have := hh.2 x (List.mem_of_getElem? HX.out)
          rw [decide_eq_true_eq] at this
          omega)
        by_cases h1 : x < 0
        · have g1 : decide (x < 0) = true := by simp; omega
          go_wp2_with fail
          go_ret
          exact ⟨by rw [HNO.out]; rfl, rfl⟩
        · have g1 : decide (x < 0) = false := by simp; omega
          have g2 : decide (1073741824 < x) = true := by simp; omega
          go_wp2_with fail
          go_ret
          exact ⟨by rw [HNO.out]; rfl, rfl⟩
      · have g1 : decide (x < 0) = false := by simp; omega
        have g2 : decide (1073741824 < x) = false := by simp; omega
        go_wp2_with fail
        go_roundg (xs.length - (i + 1))
        case measure => have := Hk.out; omega
        case rel =>
          refine ⟨i + 1, by omega, rfl, by simp, Lib.hid fun y hy => ?_, rfl⟩
          rcases take_mem HX.out hy with h' | h'
          · exact HM.out y h'
          · omega
    · obtain rfl : i = xs.length := by omega
      have hll : ¬ (xs.length : Int) < (xs.length : Int) := by omega
      have hall : (xs.all fun x => decide (0 ≤ x ∧ x ≤ 1073741824)) = true := by
        rw [List.all_eq_true]; intro x hx
        rw [decide_eq_true_eq]
        exact HM.out x (by rw [List.take_of_length_le (Nat.le_refl _)]; exact hx)
      have HA := Lib.hid hall
      clear hall
      by_cases h2 : 2 ≤ xs.length
      · have g1 : decide (2 ≤ (xs.length : Int)) = true := by simp; omega
        have G4 := Lib.hid (show mayL xs = decide ((xs.length : Int) ≤ 258) by
          unfold mayL; rw [HA.out, decide_eq_true h2, Bool.true_and, Bool.and_true]
          exact decide_eq_decide.2 (by omega))
        go_wp2_with fail
        go_ret
        exact ⟨by rw [G4.out]; rfl, rfl⟩
      · have g1 : decide (2 ≤ (xs.length : Int)) = false := by simp; omega
        have G4 := Lib.hid (show mayL xs = false by unfold mayL; rw [decide_eq_false h2, Bool.false_and, Bool.false_and])
        go_wp2_with fail
        go_ret
        exact ⟨by rw [G4.out]; rfl, rfl⟩

theorem greatest_any (a : Option Addr) (c : Nat) (xs : List Int) (w : World) (h : Sees w 1 a xs.length (intVals xs)) (h0 : 1 ≤ xs.length) (hl : xs.length ≤ 1000000) :
    Calls Try.prog 98 #[.slice a xs.length c] w (MaxPost xs w) := by
  have HS := Lib.hid h
  obtain ⟨b, off, rfl, -⟩ := h.at (by rw [intVals_length]; omega)
  obtain ⟨x0, hx0⟩ : ∃ x, xs[0]? = some x := ⟨_, List.getElem?_eq_getElem (by omega)⟩
  have c0 := HS.out.int hx0
  have hpos : (0 : Int) < (xs.length : Int) := by omega
  have HX0 := Lib.hid hx0
  rw [Nat.add_zero] at c0
  clear h hx0
  go_enter Try.func98, Try.ntmps98
  go_wp2_with fail
  go_loopg [3, 4] xs.length (fun k v u wr => ∃ (i : Nat) (m : Int), i ≤ xs.length ∧ k = xs.length - i ∧ v = .int .i64 m ∧ u = .int .i64 (i : Nat) ∧ Hid (m ∈ xs ∧ ∀ x ∈ xs.take i, x ≤ m) ∧ w = wr)
  case atStart => exact ⟨0, x0, by omega, by omega, rfl, rfl, Lib.hid ⟨List.mem_of_getElem? HX0.out, by simp⟩, rfl⟩
  case round =>
    obtain ⟨i, m, hi, hk, rfl, rfl, HM, rfl⟩ := hrel
    have Hk := Lib.hid hk
    clear hk
    by_cases hlt : i < xs.length
    · have hli : (i : Int) < (xs.length : Int) := by omega
      obtain ⟨x, hx⟩ : ∃ x, xs[i]? = some x := ⟨_, List.getElem?_eq_getElem hlt⟩
      have d0 := HS.out.int hx
      have HX := Lib.hid hx
      clear hx
      go_wp2_with fail
      all_goals
        rename_i h
        go_roundg (xs.length - (i + 1))
        case measure => have := Hk.out; omega
        case rel =>
          refine ⟨i + 1, _, by omega, rfl, rfl, by simp, Lib.hid ⟨?_, fun y hy => ?_⟩, rfl⟩
          · first
              | exact HM.out.1
              | exact List.mem_of_getElem? HX.out
          · rcases take_mem HX.out hy with h' | h'
            · have := HM.out.2 y h'; omega
            · omega
    · obtain rfl : i = xs.length := by omega
      have hll : ¬ (xs.length : Int) < (xs.length : Int) := by omega
      go_wp2_with fail
      go_ret
      have := HM.out
      rw [List.take_of_length_le (Nat.le_refl _)] at this
      exact ⟨m, rfl, this.1, this.2, rfl⟩
end Go.Proofs.Ytdaenajhgbagdaa
namespace Go.Proofs.Ytdaenajhgbagdaa
open Go.RowKit
set_option linter.unusedVariables false
set_option linter.unusedSimpArgs false

/-- What the first i lengths cost. -/
def dotI (ws ls : List Int) : Nat → Int
  | 0 => 0
  | i + 1 => dotI ws ls i + ws.getD i 0 * ls.getD i 0
/-- A length that Cost takes. -/
def costOk (ws ls : List Int) : Bool := mayL ws && decide (ls.length = ws.length) && ls.all fun x => decide (0 ≤ x ∧ x ≤ 20)
def costN (ws ls : List Int) : Int := if costOk ws ls then dotI ws ls ls.length else 0
def costE (ws ls : List Int) : Int := if costOk ws ls then 0 else 2

theorem mayL_get {ws : List Int} (h : mayL ws = true) : 2 ≤ ws.length ∧ ws.length ≤ 258 ∧ ∀ x ∈ ws, 0 ≤ x ∧ x ≤ 1073741824 := by
  unfold mayL at h
  rw [Bool.and_eq_true, Bool.and_eq_true, List.all_eq_true, decide_eq_true_eq, decide_eq_true_eq] at h
  exact ⟨h.1.1, h.1.2, fun x hx => by have := h.2 x hx; rwa [decide_eq_true_eq] at this⟩
theorem dot_mul {x y : Int} (h : 0 ≤ x ∧ x ≤ 1073741824) (h' : 0 ≤ y ∧ y ≤ 20) : 0 ≤ x * y ∧ x * y ≤ 21474836480 := by
  refine ⟨Int.mul_nonneg h.1 h'.1, ?_⟩
  have := Int.mul_le_mul h.2 h'.2 h'.1 (by omega : (0 : Int) ≤ 1073741824)
  omega

def CostPost (ws ls : List Int) (w : World) (e : Ending) (w' : World) : Prop := e = .returned (.tuple #[.int .i64 (costN ws ls), .int .i64 (costE ws ls)]) ∧ w = w'

end Go.Proofs.Ytdaenajhgbagdaa
namespace Go.Proofs.Ytdaenajhgbagdaa
open Go.RowKit
set_option linter.unusedVariables false
set_option linter.unusedSimpArgs false

/-- Whether lengths are full. -/
def fullL (xs : List Int) : Bool := decide (sumR xs = 1048576)
theorem fullL_room (xs : List Int) : fullL xs = decide (roomR xs = 1048576) := by
  unfold fullL
  have hg := sumR_good xs
  apply decide_eq_decide.2
  constructor
  · intro h
    have : K.goodL xs = true := by rw [hg, h]; decide
    unfold roomR
    rw [this, if_pos rfl]
    unfold sumR at h
    split at h
    · rw [h]; rfl
    · simp at h
  · intro h
    unfold roomR at h
    split at h
    · rename_i hk
      rw [hk] at hg
      have h2 := hg.symm
      rw [Bool.and_eq_true, decide_eq_true_eq, decide_eq_true_eq] at h2
      unfold sumR at h2 ⊢
      split
      · omega
      · rename_i hn
        rw [if_neg hn] at h2
        exact absurd rfl h2.1
    · omega
theorem full_any (a : Option Addr) (cap : Nat) (xs : List Int) (w : World) (h : Sees w 1 a xs.length (intVals xs)) (hlen : xs.length ≤ 17592186043904) :
    Calls Try.prog 35 #[.slice a xs.length cap] w (BoolPost (fullL xs) w) := by
  have M := sum_any a cap xs w h (by omega)
  clear h
  go_enter Try.func35, Try.ntmps35
  go_wp2_with fail
  refine M.mono ?_
  rintro e w' ⟨rfl, rfl⟩
  have g : decide (((sumR xs : Nat) : Int) = 1048576) = fullL xs := decide_eq_decide.2 (by omega)
  have G := Lib.hid g
  clear g
  go_wp2_with fail
  go_ret
  exact ⟨by rw [← G.out]; rfl, rfl⟩
end Go.Proofs.Ytdaenajhgbagdaa
namespace Go.Proofs.Ytdaenajhgbagdaa
open Go.RowKit
set_option linter.unusedVariables false
set_option linter.unusedSimpArgs false

/-- A tree of numbers as one of ints. -/
def toT (t : Nat × Nat) : Int × Int := ((t.1 : Int), (t.2 : Int))
/-- A row of some elements is a row of the first of them. -/
theorem RowN.less {w : World} {e : TypeId} {size : Nat} {ad : Addr} {n k c : Nat} {xs : List Value} (h : RowN w e size (.slice (some ad) n c) n xs) (hk : k ≤ n) : RowN w e size (.slice (some ad) k c) k (xs.take (k * size)) := by
  have hl := h.1
  have hks : k * size ≤ n * size := Nat.mul_le_mul_right _ hk
  refine ⟨by rw [List.length_take, hl]; omega, .inr ?_⟩
  rcases h.2 with ⟨h1, h2⟩ | ⟨g, cap, cur, hv, hb, hg, hnc, hcm, hcs, ht⟩
  · cases h1
  · cases hv
    refine ⟨g, c, cur, rfl, hb, hg, by omega, hcm, hcs, ?_⟩
    rw [← ht, List.take_take, Nat.min_eq_left hks]
theorem RowN.cellAt {w : World} {e : TypeId} {size g n c j : Nat} {xs : List Value} {u : Value} (h : RowN w e size (.slice (some ⟨g, 0, none⟩) n c) n xs) (hj : xs[j]? = some u) : w.cell? ⟨g, j, none⟩ = some u := by
  have := World.ownsRow.cells (g := g) h rfl j u hj
  rwa [Addr.add_lit, Nat.zero_add] at this
theorem RowN.free {w : World} {e : TypeId} {size g n c : Nat} {xs : List Value} (h : RowN w e size (.slice (some ⟨g, 0, none⟩) n c) n xs) (j : Nat) : w.frozen? ⟨g, j, none⟩ = false := World.ownsRow.frozenAt h j
theorem RowN.put {w : World} {e : TypeId} {size g n c : Nat} {xs : List Value} (h : RowN w e size (.slice (some ⟨g, 0, none⟩) n c) n xs) (j : Nat) (u : Value) : RowN (w.setCell ⟨g, j, none⟩ u) e size (.slice (some ⟨g, 0, none⟩) n c) n (xs.set j u) := (World.ownsRow.stored h j u).1
theorem RowN.seeA {w : World} {e : TypeId} {size : Nat} {a : Option Addr} {n c m : Nat} {xs : List Value} (h : RowN w e size (.slice a n c) m xs) : Sees w size a n xs ∧ n = m := by
  obtain ⟨a', c', hv, -, -, hsee, -⟩ := h.sees
  cases hv
  exact ⟨hsee, rfl⟩

def FirstPost (tb g c k : Nat) (l : List (Nat × Nat)) (w : World) (e : Ending) (w' : World) : Prop :=
  ∃ (t : Nat × Nat) (i : Nat), e = .returned (treeV (toT t)) ∧ l[i]? = some t ∧ (∀ u ∈ l, ¬ (u.1 < t.1 ∨ (u.1 = t.1 ∧ u.2 < t.2))) ∧ Arr w' tb 127 [.slice (some ⟨g, 0, none⟩) k c] ∧
    RowN w' 129 2 (.slice (some ⟨g, 0, none⟩) k c) k (treesC ((K.out1 l i).map toT)) ∧ Kept [tb, g] w w'
theorem first_any (tb g c k : Nat) (l : List (Nat × Nat)) (w : World) (hT : Arr w tb 127 [.slice (some ⟨g, 0, none⟩) (k + 1) c]) (hR : RowN w 129 2 (.slice (some ⟨g, 0, none⟩) (k + 1) c) (k + 1) (treesC (l.map toT)))
    (hl : l.length = k + 1) (hk : k ≤ 1000000 - 1) (hb : ∀ t ∈ l, t.1 ≤ 1000000000000 ∧ t.2 ≤ 1000000000000) (hne : tb ≠ g) :
    Calls Try.prog 104 #[.pointer (some ⟨tb, 0, none⟩)] w (FirstPost tb g c k l w) := by
  have HT := Lib.hid hT
  have HR := Lib.hid hR
  have HL := Lib.hid hl
  have HB := Lib.hid hb
  have HNE := Lib.hid hne
  have c0 : w.cell? ⟨tb, 0, none⟩ = some (.slice (some ⟨g, 0, none⟩) (k + 1) c) := hT.cell (i := 0) rfl
  have htb : tb < w.heap.size := hT.lt
  have hgb : g < w.heap.size := hR.lt _ (by simp [foot, Value.ownBlock])
  clear hT hR hl hb hne
  go_enter Try.func104, Try.ntmps104
  have HK0 := Lib.hid ((Kept.refl [] w).alloc (.cells #[.int .i64 0, .int .i64 0] 129))
  have hlm : (l.map toT).length = k + 1 := by rw [List.length_map]; exact HL.out
  have M := minT_any (some ⟨g, 0, none⟩) c (l.map toT) (w.alloc (.cells #[.int .i64 0, .int .i64 0] 129)) (by rw [hlm]; exact (RowN.seeA (RowN.kept HR.out HK0.out (by simp [Apart]))).1) (by omega) (by omega) (by
    intro x hx
    obtain ⟨t, ht, rfl⟩ := List.mem_map.1 hx
    have := HB.out t ht
    unfold TreeB toT
    simp only
    omega)
  rw [hlm] at M
  have HLM := Lib.hid hlm
  have HM := Lib.hid M
  clear M hlm
  go_wp2_with fail
  refine HM.out.mono ?_
  rintro e w1 ⟨m, rfl, hm, hle, hk1⟩
  obtain ⟨t, ht, rfl⟩ := List.mem_map.1 hm
  have HK1 := Lib.hid (HK0.out.trans hk1 (by simp))
  have HR1 := Lib.hid (RowN.kept HR.out HK1.out (by simp [Apart]))
  have HT1 := Lib.hid (HT.out.kept HK1.out (by simp))
  have H01 := Lib.hid ((Arr.new w [.int .i64 0, .int .i64 0] 129).kept hk1 (by simp))
  have HLE := Lib.hid (show ∀ u ∈ l, ¬ (u.1 < t.1 ∨ (u.1 = t.1 ∧ u.2 < t.2)) from fun u hu => by
    have := hle (toT u) (List.mem_map.2 ⟨u, hu, rfl⟩)
    simp only [toT] at this
    omega)
  have HMT := Lib.hid hm
  have hw1 : w.heap.size < w1.heap.size := H01.out.lt
  have HB1 := Lib.hid (HB.out t ht)
  clear hle hm ht hk1 HM HK0
  have HK2 := Lib.hid ((Kept.refl [] w1).alloc (.cells #[.int .i64 (toT t).1, .int .i64 (toT t).2] 129))
  have M := idxT_any (some ⟨g, 0, none⟩) c (l.map toT) (toT t) (w1.alloc (.cells #[.int .i64 (toT t).1, .int .i64 (toT t).2] 129)) (by rw [HLM.out]; exact (RowN.seeA (RowN.kept HR1.out HK2.out (by simp [Apart]))).1) (by rw [HLM.out]; omega) HMT.out
  rw [HLM.out] at M
  have HM := Lib.hid M
  have c1 : w1.cell? ⟨tb, 0, none⟩ = some (.slice (some ⟨g, 0, none⟩) (k + 1) c) := HT1.out.cell (i := 0) rfl
  have hz2 : tb < w1.heap.size := HT1.out.lt
  clear M c0
  unfold treeV at HM ⊢
  go_wp2_with fail
  refine HM.out.mono ?_
  rintro e w3 ⟨i, rfl, hi, hk3⟩
  have hit : l[i]? = some t := by
    rw [List.getElem?_map] at hi
    cases hli : l[i]? with
    | none => rw [hli] at hi; simp at hi
    | some u =>
      rw [hli] at hi
      simp [toT] at hi
      have : u = t := Prod.ext (by omega) (by omega)
      rw [this]
  have hik : i ≤ k := by have := (List.getElem?_eq_some_iff.1 hit).1; have := HL.out; omega
  have HIT := Lib.hid hit
  have HK3 := Lib.hid (HK2.out.trans hk3 (by simp))
  have HR3 := Lib.hid (RowN.kept HR1.out HK3.out (by simp [Apart]))
  have HT3 := Lib.hid (HT1.out.kept HK3.out (by simp))
  have H03 := Lib.hid (H01.out.kept HK3.out (by simp))
  have H23 := Lib.hid ((Arr.new w1 [.int .i64 (toT t).1, .int .i64 (toT t).2] 129).kept hk3 (by simp))
  obtain ⟨z, hz⟩ : ∃ z, l[k]? = some z := ⟨_, List.getElem?_eq_getElem (by have := HL.out; omega)⟩
  have hzm : (l.map toT)[k]? = some (toT z) := by rw [List.getElem?_map, hz]; rfl
  have him : (l.map toT)[i]? = some (toT t) := by rw [List.getElem?_map, hit]; rfl
  have HZ := Lib.hid hz
  have k0 : w3.cell? ⟨tb, 0, none⟩ = some (.slice (some ⟨g, 0, none⟩) (k + 1) c) := HT3.out.cell (i := 0) rfl
  have k1 := HR3.out.cellAt (treesC_get hzm).1
  have k2 := HR3.out.cellAt (treesC_get hzm).2
  have k3 := HR3.out.cellAt (treesC_get him).1
  have k4 := HR3.out.cellAt (treesC_get him).2
  have f3 := HR3.out.free (i * 2)
  have f4 := HR3.out.free (i * 2 + 1)
  have hii : (i : Int) < (k : Int) + 1 := by omega
  have hw3 : IntKind.i64.wrap ((k : Int) + 1 - 1) = (k : Int) := by rw [Int.add_sub_cancel]; exact IntWalk.i64_in _ (by omega)
  clear hi hit hk3 HM c1 hz him hzm
  go_wp2_with fail
  go_region
  have hkk : Kept [g] w3 ((w3.setCell ⟨g, i * 2, none⟩ (.int .i64 (toT z).1)).setCell ⟨g, i * 2 + 1, none⟩ (.int .i64 (toT z).2)).drew := (((Kept.refl [g] w3).setCell (p := ⟨g, i * 2, none⟩) (by simp) _).setCell (p := ⟨g, i * 2 + 1, none⟩) (by simp) _).drew
  have hrr : RowN ((w3.setCell ⟨g, i * 2, none⟩ (.int .i64 (toT z).1)).setCell ⟨g, i * 2 + 1, none⟩ (.int .i64 (toT z).2)).drew 129 2 (.slice (some ⟨g, 0, none⟩) (k + 1) c) (k + 1) (treesC ((l.map toT).set i (toT z))) := by
    rw [← treesC_set]
    exact ((HR3.out.put _ _).put _ _)
  obtain ⟨W, hW⟩ : ∃ W, ((w3.setCell ⟨g, i * 2, none⟩ (.int .i64 (toT z).1)).setCell ⟨g, i * 2 + 1, none⟩ (.int .i64 (toT z).2)).drew = W := ⟨_, rfl⟩
  rw [hW] at hkk hrr ⊢
  have hgw1 : g ≠ w1.heap.size := by have := HR1.out.lt g (by simp [foot, Value.ownBlock]); omega
  have hgw : g ≠ w.heap.size := by omega
  have hT4 := HT3.out.kept hkk (by simp; exact HNE.out)
  have h04 := H03.out.kept hkk (by simp; exact fun h => hgw h.symm)
  have h24 := H23.out.kept hkk (by simp; exact fun h => hgw1 h.symm)
  have HT5 := Lib.hid (hT4.set 0 (.slice (some ⟨g, 0, none⟩) k c))
  have HR5 := Lib.hid (RowN.kept (RowN.less hrr (Nat.le_succ k)) ((Kept.refl [tb] W).setCell (p := ⟨tb, 0, none⟩) (by simp) (.slice (some ⟨g, 0, none⟩) k c)) (by intro x hx hm; simp [foot, Value.ownBlock] at hx hm; subst hx; exact HNE.out hm.symm))
  have HK5 := Lib.hid (((HK1.out.trans HK3.out (by simp)).mono (T := [g]) (by simp)).trans hkk (fun x hx => .inl hx))
  have j0 : W.cell? ⟨tb, 0, none⟩ = some (.slice (some ⟨g, 0, none⟩) (k + 1) c) := hT4.cell (i := 0) rfl
  have j1 := hT4.free 0
  have HTW1 := Lib.hid (show tb ≠ w1.heap.size by omega)
  have HTW := Lib.hid (show tb ≠ w.heap.size by omega)
  have p1 : (W.setCell ⟨tb, 0, none⟩ (.slice (some ⟨g, 0, none⟩) k c)).cell? ⟨w1.heap.size, 0, none⟩ = some (.int .i64 (toT t).1) := (h24.kept ((Kept.refl [tb] W).setCell (p := ⟨tb, 0, none⟩) (by simp) _) (by simp; exact fun h => HTW1.out h.symm)).cell (i := 0) rfl
  have p2 : (W.setCell ⟨tb, 0, none⟩ (.slice (some ⟨g, 0, none⟩) k c)).cell? ⟨w1.heap.size, 1, none⟩ = some (.int .i64 (toT t).2) := (h24.kept ((Kept.refl [tb] W).setCell (p := ⟨tb, 0, none⟩) (by simp) _) (by simp; exact fun h => HTW1.out h.symm)).cell (i := 1) rfl
  have h05 := h04.kept ((Kept.refl [tb] W).setCell (p := ⟨tb, 0, none⟩) (by simp) (.slice (some ⟨g, 0, none⟩) k c)) (by simp; exact fun h => HTW.out h.symm)
  have q0 : (W.setCell ⟨tb, 0, none⟩ (.slice (some ⟨g, 0, none⟩) k c)).cell? ⟨w.heap.size, 0, none⟩ = some (.int .i64 0) := h05.cell (i := 0) rfl
  have q1 : (W.setCell ⟨tb, 0, none⟩ (.slice (some ⟨g, 0, none⟩) k c)).cell? ⟨w.heap.size, 1, none⟩ = some (.int .i64 0) := h05.cell (i := 1) rfl
  have q2 := h05.free 0
  have q3 := h05.free 1
  have s0 := ((h05.set 0 (.int .i64 (toT t).1)).set 1 (.int .i64 (toT t).2)).cell (i := 0) (u := .int .i64 (toT t).1) rfl
  have s1 := ((h05.set 0 (.int .i64 (toT t).1)).set 1 (.int .i64 (toT t).2)).cell (i := 1) (u := .int .i64 (toT t).2) rfl
  have hkc : (k : Int) ≤ c := by
    obtain ⟨a', c', hv, h1, -⟩ := RowN.sees HR3.out
    cases hv
    omega
  have hk1 : (0 : Int) ≤ (k : Int) := by omega
  clear hkk hrr hT4 h04 h24 h05 hW k0 k1 k2 k3 k4 f3 f4
  go_wp2_with fail
  refine bodyPost_ret (v := treeV (toT t)) (by simp [results, Try.results104, go_sem, treeV, s0, s1]) rfl ?_
  have hsub : Kept [tb, g] w (((W.setCell ⟨tb, 0, none⟩ (.slice (some ⟨g, 0, none⟩) k c)).setCell ⟨w.heap.size, 0, none⟩ (.int .i64 (toT t).1)).setCell ⟨w.heap.size, 1, none⟩ (.int .i64 (toT t).2)) :=
    (((HK5.out.mono (T := [tb, g]) (by simp)).setCell (p := ⟨tb, 0, none⟩) (by simp) _).setCell (p := ⟨w.heap.size, 0, none⟩) (by simp) _).setCell (p := ⟨w.heap.size, 1, none⟩) (by simp) _
  have hs2 : Kept [w.heap.size] (W.setCell ⟨tb, 0, none⟩ (.slice (some ⟨g, 0, none⟩) k c)) (((W.setCell ⟨tb, 0, none⟩ (.slice (some ⟨g, 0, none⟩) k c)).setCell ⟨w.heap.size, 0, none⟩ (.int .i64 (toT t).1)).setCell ⟨w.heap.size, 1, none⟩ (.int .i64 (toT t).2)) :=
    ((Kept.refl [w.heap.size] _).setCell (p := ⟨w.heap.size, 0, none⟩) (by simp) _).setCell (p := ⟨w.heap.size, 1, none⟩) (by simp) _
  refine ⟨t, i, rfl, HIT.out, HLE.out, HT5.out.kept hs2 (by simp; exact HTW.out), ?_, hsub⟩
  have hx : (treesC ((l.map toT).set i (toT z))).take (k * 2) = treesC ((K.out1 l i).map toT) := by
    rw [treesC_take]
    congr 1
    unfold K.out1
    rw [HL.out, Nat.add_sub_cancel, List.getD, HZ.out, Option.getD_some, List.dropLast_eq_take, List.length_set, HL.out, Nat.add_sub_cancel, List.map_take, List.map_set]
  rw [← hx]
  exact RowN.kept HR5.out hs2 (by intro x hx hm; simp [foot, Value.ownBlock] at hx hm; subst hx; exact hgw hm)
end Go.Proofs.Ytdaenajhgbagdaa
