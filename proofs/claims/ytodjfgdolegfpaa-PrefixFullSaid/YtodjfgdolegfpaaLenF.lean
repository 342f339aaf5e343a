/-
  The walk of the closure in lengths.grown: the least tree is taken out.
-/
import Derived.Test.YtodjfgdolegfpaaLenE
import Derived.Test.YtodjfgdolegfpaaHufAll
namespace Go.Proofs.Ytodjfgdolegfpaa
open Go.RowKit
set_option linter.unusedVariables false
set_option linter.unusedSimpArgs false

/-- A tree of numbers as one of ints. -/
def toT (t : Nat × Nat) : Int × Int := ((t.1 : Int), (t.2 : Int))
/-- A row of some elements is a row of the first of them. -/
theorem RowN.less {w : World} {e : TypeId} {size : Nat} {ad : Addr} {n k c : Nat} {xs : List Value} (h : RowN w e size (.slice (some ad) n c) n xs) (hk : k ≤ n) : RowN w e size (.slice (some ad) k c) k (xs.take (k * size)) := by
  have hl := h.1
  have hks : k * size ≤ n * size := Nat.mul_le_mul_right _ hk
  refine ⟨by rw [List.length_take, hl]; omega, .inr ?_⟩
  rcases h.2 with ⟨h1, h2⟩ | ⟨g, cap, cur, hv, hb, hg, hnc, hcm, hcs, ht⟩
  · cases h1
  · cases hv
    refine ⟨g, c, cur, rfl, hb, hg, by omega, hcm, hcs, ?_⟩
    rw [← ht, List.take_take, Nat.min_eq_left hks]
theorem RowN.cellAt {w : World} {e : TypeId} {size g n c j : Nat} {xs : List Value} {u : Value} (h : RowN w e size (.slice (some ⟨g, 0, none⟩) n c) n xs) (hj : xs[j]? = some u) : w.cell? ⟨g, j, none⟩ = some u := by
  have := World.ownsRow.cells (g := g) h rfl j u hj
  rwa [Addr.add_lit, Nat.zero_add] at this
theorem RowN.free {w : World} {e : TypeId} {size g n c : Nat} {xs : List Value} (h : RowN w e size (.slice (some ⟨g, 0, none⟩) n c) n xs) (j : Nat) : w.frozen? ⟨g, j, none⟩ = false := World.ownsRow.frozenAt h j
theorem RowN.put {w : World} {e : TypeId} {size g n c : Nat} {xs : List Value} (h : RowN w e size (.slice (some ⟨g, 0, none⟩) n c) n xs) (j : Nat) (u : Value) : RowN (w.setCell ⟨g, j, none⟩ u) e size (.slice (some ⟨g, 0, none⟩) n c) n (xs.set j u) := (World.ownsRow.stored h j u).1
theorem RowN.seeA {w : World} {e : TypeId} {size : Nat} {a : Option Addr} {n c m : Nat} {xs : List Value} (h : RowN w e size (.slice a n c) m xs) : Sees w size a n xs ∧ n = m := by
  obtain ⟨a', c', hv, -, -, hsee, -⟩ := h.sees
  cases hv
  exact ⟨hsee, rfl⟩

def FirstPost (tb g c k : Nat) (l : List (Nat × Nat)) (w : World) (e : Ending) (w' : World) : Prop :=
  ∃ (t : Nat × Nat) (i : Nat), e = .returned (treeV (toT t)) ∧ l[i]? = some t ∧ (∀ u ∈ l, ¬ (u.1 < t.1 ∨ (u.1 = t.1 ∧ u.2 < t.2))) ∧ Arr w' tb 93 [.slice (some ⟨g, 0, none⟩) k c] ∧
    RowN w' 95 2 (.slice (some ⟨g, 0, none⟩) k c) k (treesC ((K.out1 l i).map toT)) ∧ Kept [tb, g] w w'
theorem first_any (tb g c k : Nat) (l : List (Nat × Nat)) (w : World) (hT : Arr w tb 93 [.slice (some ⟨g, 0, none⟩) (k + 1) c]) (hR : RowN w 95 2 (.slice (some ⟨g, 0, none⟩) (k + 1) c) (k + 1) (treesC (l.map toT)))
    (hl : l.length = k + 1) (hk : k ≤ 1000000 - 1) (hb : ∀ t ∈ l, t.1 ≤ 1000000000000 ∧ t.2 ≤ 1000000000000) (hne : tb ≠ g) :
    Calls Try.prog 51 #[.pointer (some ⟨tb, 0, none⟩)] w (FirstPost tb g c k l w) := by
  have HT := Lib.hid hT
  have HR := Lib.hid hR
  have HL := Lib.hid hl
  have HB := Lib.hid hb
  have HNE := Lib.hid hne
  have c0 : w.cell? ⟨tb, 0, none⟩ = some (.slice (some ⟨g, 0, none⟩) (k + 1) c) := hT.cell (i := 0) rfl
  have htb : tb < w.heap.size := hT.lt
  have hgb : g < w.heap.size := hR.lt _ (by simp [foot, Value.ownBlock])
  clear hT hR hl hb hne
  go_enter Try.func51, Try.ntmps51
  have HK0 := Lib.hid ((Kept.refl [] w).alloc (.cells #[.int .i64 0, .int .i64 0] 95))
  have hlm : (l.map toT).length = k + 1 := by rw [List.length_map]; exact HL.out
  have M := minT_any (some ⟨g, 0, none⟩) c (l.map toT) (w.alloc (.cells #[.int .i64 0, .int .i64 0] 95)) (by rw [hlm]; exact (RowN.seeA (RowN.kept HR.out HK0.out (by simp [Apart]))).1) (by omega) (by omega) (by
    intro x hx
    obtain ⟨t, ht, rfl⟩ := List.mem_map.1 hx
    have := HB.out t ht
    unfold TreeB toT
    simp only
    omega)
  rw [hlm] at M
  have HLM := Lib.hid hlm
  have HM := Lib.hid M
  clear M hlm
  go_wp2_with fail
  refine HM.out.mono ?_
  rintro e w1 ⟨m, rfl, hm, hle, hk1⟩
  obtain ⟨t, ht, rfl⟩ := List.mem_map.1 hm
  have HK1 := Lib.hid (HK0.out.trans hk1 (by simp))
  have HR1 := Lib.hid (RowN.kept HR.out HK1.out (by simp [Apart]))
  have HT1 := Lib.hid (HT.out.kept HK1.out (by simp))
  have H01 := Lib.hid ((Arr.new w [.int .i64 0, .int .i64 0] 95).kept hk1 (by simp))
  have HLE := Lib.hid (show ∀ u ∈ l, ¬ (u.1 < t.1 ∨ (u.1 = t.1 ∧ u.2 < t.2)) from fun u hu => by
    have := hle (toT u) (List.mem_map.2 ⟨u, hu, rfl⟩)
    simp only [toT] at this
    omega)
  have HMT := Lib.hid hm
  have hw1 : w.heap.size < w1.heap.size := H01.out.lt
  have HB1 := Lib.hid (HB.out t ht)
  clear hle hm ht hk1 HM HK0
  have HK2 := Lib.hid ((Kept.refl [] w1).alloc (.cells #[.int .i64 (toT t).1, .int .i64 (toT t).2] 95))
  have M := idxT_any (some ⟨g, 0, none⟩) c (l.map toT) (toT t) (w1.alloc (.cells #[.int .i64 (toT t).1, .int .i64 (toT t).2] 95)) (by rw [HLM.out]; exact (RowN.seeA (RowN.kept HR1.out HK2.out (by simp [Apart]))).1) (by rw [HLM.out]; omega) HMT.out
  rw [HLM.out] at M
  have HM := Lib.hid M
  have c1 : w1.cell? ⟨tb, 0, none⟩ = some (.slice (some ⟨g, 0, none⟩) (k + 1) c) := HT1.out.cell (i := 0) rfl
  have hz2 : tb < w1.heap.size := HT1.out.lt
  clear M c0
  unfold treeV at HM ⊢
  go_wp2_with fail
  refine HM.out.mono ?_
  rintro e w3 ⟨i, rfl, hi, hk3⟩
  have hit : l[i]? = some t := by
    rw [List.getElem?_map] at hi
    cases hli : l[i]? with
    | none => rw [hli] at hi; simp at hi
    | some u =>
      rw [hli] at hi
      simp [toT] at hi
      have : u = t := Prod.ext (by omega) (by omega)
      rw [this]
  have hik : i ≤ k := by have := (List.getElem?_eq_some_iff.1 hit).1; have := HL.out; omega
  have HIT := Lib.hid hit
  have HK3 := Lib.hid (HK2.out.trans hk3 (by simp))
  have HR3 := Lib.hid (RowN.kept HR1.out HK3.out (by simp [Apart]))
  have HT3 := Lib.hid (HT1.out.kept HK3.out (by simp))
  have H03 := Lib.hid (H01.out.kept HK3.out (by simp))
  have H23 := Lib.hid ((Arr.new w1 [.int .i64 (toT t).1, .int .i64 (toT t).2] 95).kept hk3 (by simp))
  obtain ⟨z, hz⟩ : ∃ z, l[k]? = some z := ⟨_, List.getElem?_eq_getElem (by have := HL.out; omega)⟩
  have hzm : (l.map toT)[k]? = some (toT z) := by rw [List.getElem?_map, hz]; rfl
  have him : (l.map toT)[i]? = some (toT t) := by rw [List.getElem?_map, hit]; rfl
  have HZ := Lib.hid hz
  have k0 : w3.cell? ⟨tb, 0, none⟩ = some (.slice (some ⟨g, 0, none⟩) (k + 1) c) := HT3.out.cell (i := 0) rfl
  have k1 := HR3.out.cellAt (treesC_get hzm).1
  have k2 := HR3.out.cellAt (treesC_get hzm).2
  have k3 := HR3.out.cellAt (treesC_get him).1
  have k4 := HR3.out.cellAt (treesC_get him).2
  have f3 := HR3.out.free (i * 2)
  have f4 := HR3.out.free (i * 2 + 1)
  have hii : (i : Int) < (k : Int) + 1 := by omega
  have hw3 : IntKind.i64.wrap ((k : Int) + 1 - 1) = (k : Int) := by rw [Int.add_sub_cancel]; exact IntWalk.i64_in _ (by omega)
  clear hi hit hk3 HM c1 hz him hzm
  go_wp2_with fail
  go_region
  have hkk : Kept [g] w3 ((w3.setCell ⟨g, i * 2, none⟩ (.int .i64 (toT z).1)).setCell ⟨g, i * 2 + 1, none⟩ (.int .i64 (toT z).2)).drew := (((Kept.refl [g] w3).setCell (p := ⟨g, i * 2, none⟩) (by simp) _).setCell (p := ⟨g, i * 2 + 1, none⟩) (by simp) _).drew
  have hrr : RowN ((w3.setCell ⟨g, i * 2, none⟩ (.int .i64 (toT z).1)).setCell ⟨g, i * 2 + 1, none⟩ (.int .i64 (toT z).2)).drew 95 2 (.slice (some ⟨g, 0, none⟩) (k + 1) c) (k + 1) (treesC ((l.map toT).set i (toT z))) := by
    rw [← treesC_set]
    exact ((HR3.out.put _ _).put _ _)
  obtain ⟨W, hW⟩ : ∃ W, ((w3.setCell ⟨g, i * 2, none⟩ (.int .i64 (toT z).1)).setCell ⟨g, i * 2 + 1, none⟩ (.int .i64 (toT z).2)).drew = W := ⟨_, rfl⟩
  rw [hW] at hkk hrr ⊢
  have hgw1 : g ≠ w1.heap.size := by have := HR1.out.lt g (by simp [foot, Value.ownBlock]); omega
  have hgw : g ≠ w.heap.size := by omega
  have hT4 := HT3.out.kept hkk (by simp; exact HNE.out)
  have h04 := H03.out.kept hkk (by simp; exact fun h => hgw h.symm)
  have h24 := H23.out.kept hkk (by simp; exact fun h => hgw1 h.symm)
  have HT5 := Lib.hid (hT4.set 0 (.slice (some ⟨g, 0, none⟩) k c))
  have HR5 := Lib.hid (RowN.kept (RowN.less hrr (Nat.le_succ k)) ((Kept.refl [tb] W).setCell (p := ⟨tb, 0, none⟩) (by simp) (.slice (some ⟨g, 0, none⟩) k c)) (by intro x hx hm; simp [foot, Value.ownBlock] at hx hm; subst hx; exact HNE.out hm.symm))
  have HK5 := Lib.hid (((HK1.out.trans HK3.out (by simp)).mono (T := [g]) (by simp)).trans hkk (fun x hx => .inl hx))
  have j0 : W.cell? ⟨tb, 0, none⟩ = some (.slice (some ⟨g, 0, none⟩) (k + 1) c) := hT4.cell (i := 0) rfl
  have j1 := hT4.free 0
  have HTW1 := Lib.hid (show tb ≠ w1.heap.size by omega)
  have HTW := Lib.hid (show tb ≠ w.heap.size by omega)
  have p1 : (W.setCell ⟨tb, 0, none⟩ (.slice (some ⟨g, 0, none⟩) k c)).cell? ⟨w1.heap.size, 0, none⟩ = some (.int .i64 (toT t).1) := (h24.kept ((Kept.refl [tb] W).setCell (p := ⟨tb, 0, none⟩) (by simp) _) (by simp; exact fun h => HTW1.out h.symm)).cell (i := 0) rfl
  have p2 : (W.setCell ⟨tb, 0, none⟩ (.slice (some ⟨g, 0, none⟩) k c)).cell? ⟨w1.heap.size, 1, none⟩ = some (.int .i64 (toT t).2) := (h24.kept ((Kept.refl [tb] W).setCell (p := ⟨tb, 0, none⟩) (by simp) _) (by simp; exact fun h => HTW1.out h.symm)).cell (i := 1) rfl
  have h05 := h04.kept ((Kept.refl [tb] W).setCell (p := ⟨tb, 0, none⟩) (by simp) (.slice (some ⟨g, 0, none⟩) k c)) (by simp; exact fun h => HTW.out h.symm)
  have q0 : (W.setCell ⟨tb, 0, none⟩ (.slice (some ⟨g, 0, none⟩) k c)).cell? ⟨w.heap.size, 0, none⟩ = some (.int .i64 0) := h05.cell (i := 0) rfl
  have q1 : (W.setCell ⟨tb, 0, none⟩ (.slice (some ⟨g, 0, none⟩) k c)).cell? ⟨w.heap.size, 1, none⟩ = some (.int .i64 0) := h05.cell (i := 1) rfl
  have q2 := h05.free 0
  have q3 := h05.free 1
  have s0 := ((h05.set 0 (.int .i64 (toT t).1)).set 1 (.int .i64 (toT t).2)).cell (i := 0) (u := .int .i64 (toT t).1) rfl
  have s1 := ((h05.set 0 (.int .i64 (toT t).1)).set 1 (.int .i64 (toT t).2)).cell (i := 1) (u := .int .i64 (toT t).2) rfl
  have hkc : (k : Int) ≤ c := by
    obtain ⟨a', c', hv, h1, -⟩ := RowN.sees HR3.out
    cases hv
    omega
  have hk1 : (0 : Int) ≤ (k : Int) := by omega
  clear hkk hrr hT4 h04 h24 h05 hW k0 k1 k2 k3 k4 f3 f4
  go_wp2_with fail
  refine bodyPost_ret (v := treeV (toT t)) (by simp [results, Try.results51, go_sem, treeV, s0, s1]) rfl ?_
  have hsub : Kept [tb, g] w (((W.setCell ⟨tb, 0, none⟩ (.slice (some ⟨g, 0, none⟩) k c)).setCell ⟨w.heap.size, 0, none⟩ (.int .i64 (toT t).1)).setCell ⟨w.heap.size, 1, none⟩ (.int .i64 (toT t).2)) :=
    (((HK5.out.mono (T := [tb, g]) (by simp)).setCell (p := ⟨tb, 0, none⟩) (by simp) _).setCell (p := ⟨w.heap.size, 0, none⟩) (by simp) _).setCell (p := ⟨w.heap.size, 1, none⟩) (by simp) _
  have hs2 : Kept [w.heap.size] (W.setCell ⟨tb, 0, none⟩ (.slice (some ⟨g, 0, none⟩) k c)) (((W.setCell ⟨tb, 0, none⟩ (.slice (some ⟨g, 0, none⟩) k c)).setCell ⟨w.heap.size, 0, none⟩ (.int .i64 (toT t).1)).setCell ⟨w.heap.size, 1, none⟩ (.int .i64 (toT t).2)) :=
    ((Kept.refl [w.heap.size] _).setCell (p := ⟨w.heap.size, 0, none⟩) (by simp) _).setCell (p := ⟨w.heap.size, 1, none⟩) (by simp) _
  refine ⟨t, i, rfl, HIT.out, HLE.out, HT5.out.kept hs2 (by simp; exact HTW.out), ?_, hsub⟩
  have hx : (treesC ((l.map toT).set i (toT z))).take (k * 2) = treesC ((K.out1 l i).map toT) := by
    rw [treesC_take]
    congr 1
    unfold K.out1
    rw [HL.out, Nat.add_sub_cancel, List.getD, HZ.out, Option.getD_some, List.dropLast_eq_take, List.length_set, HL.out, Nat.add_sub_cancel, List.map_take, List.map_set]
  rw [← hx]
  exact RowN.kept HR5.out hs2 (by intro x hx hm; simp [foot, Value.ownBlock] at hx hm; subst hx; exact hgw hm)
end Go.Proofs.Ytodjfgdolegfpaa
