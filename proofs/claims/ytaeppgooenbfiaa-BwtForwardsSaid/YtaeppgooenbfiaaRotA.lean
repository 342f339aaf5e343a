/-
  The walks of rotate's key and compare.
-/
import Derived.Test.YtaeppgooenbfiaaPlainW
import Derived.Test.YtaeppgooenbfiaaLibF
import Derived.Test.YtaeppgooenbfiaaPreA
import Derived.BigQuiet
namespace Go.Proofs.Ytaeppgooenbfiaa
open Go.RowKit
set_option linter.unusedVariables false
set_option linter.unusedSimpArgs false

theorem Sees.natC {w : World} {b off n i x : Nat} {xs : List Nat} (h : Sees w 1 (some ⟨b, off, none⟩) n (natVals xs)) (hx : xs[i]? = some x) : w.cell? ⟨b, off + i, none⟩ = some (.int .i64 (x : Int)) := by
  rw [natVals_int] at h
  exact h.int (by rw [List.getElem?_map, hx]; rfl)

/-- The struct of ranks, as a value. -/
def ranksV (a : Option Addr) (n c by_ : Nat) : Value := .agg #[.slice a n c, .int .i64 (by_ : Int)]

theorem key_ok (rb ro n c by_ i : Nat) (rank : List Nat) (w : World) (h : Sees w 1 (some ⟨rb, ro, none⟩) n (natVals rank)) (hrl : rank.length = n) (hn : n ≤ 1000000000) (hi : i < n) (hby : by_ ≤ 1000000000000) :
    Calls Try.prog 30 #[ranksV (some ⟨rb, ro, none⟩) n c by_, .int .i64 i] w fun e w' => e = .returned (.tuple #[.int .i64 (K.key1 rank i : Nat), .int .i64 (K.key2 n rank by_ i : Nat)]) ∧ Kept [] w w' := by
  have hk0 : Kept [] w (w.alloc (.cells #[.slice (some ⟨rb, ro, none⟩) n c, .int .i64 (by_ : Int)] 48)) := (Kept.refl _ _).alloc _
  have hX := heap_alloc_new w (.cells #[.slice (some ⟨rb, ro, none⟩) n c, .int .i64 (by_ : Int)] 48)
  have b0 : (w.alloc (.cells #[.slice (some ⟨rb, ro, none⟩) n c, .int .i64 (by_ : Int)] 48)).cell? ⟨w.heap.size, 0, none⟩ = _ := cell_of_row _ w.heap.size 0 _ _ _ hX
  have b1 : (w.alloc (.cells #[.slice (some ⟨rb, ro, none⟩) n c, .int .i64 (by_ : Int)] 48)).cell? ⟨w.heap.size, 1, none⟩ = _ := cell_of_row _ w.heap.size 1 _ _ _ hX
  simp at b0 b1
  obtain ⟨t, ht⟩ : ∃ t, (i + by_) % n = t := ⟨_, rfl⟩
  have htn : t < n := by rw [← ht]; exact Nat.mod_lt _ (by omega)
  have hx1 : rank[i]? = some (K.key1 rank i) := by unfold K.key1; rw [List.getD, List.getElem?_eq_getElem (by omega)]; rfl
  have hx2 : rank[t]? = some (K.key2 n rank by_ i) := by unfold K.key2; rw [ht, List.getD, List.getElem?_eq_getElem (by omega)]; rfl
  have c1 := (h.kept0 hk0).natC hx1
  have c2 := (h.kept0 hk0).natC hx2
  generalize K.key1 rank i = x1 at *
  generalize K.key2 n rank by_ i = x2 at *
  have hw : IntKind.i64.wrap ((i : Int) + (by_ : Int)) = (i : Int) + (by_ : Int) := IntWalk.i64_in _ (by omega)
  have hrem : ((i : Int) + (by_ : Int)).tmod (n : Int) = (t : Int) := by
    rw [Int.tmod_eq_emod_of_nonneg (by omega), ← ht]; norm_cast
  have hn0 : ¬ (n : Int) = 0 := by omega
  have hin : (i : Int) < (n : Int) := by omega
  have htin : (t : Int) < (n : Int) := by omega
  clear hX h hx1 hx2 ht
  unfold ranksV
  have HK := Lib.hid hk0
  clear hk0
  go_enter Try.func30, Try.ntmps30
  go_wp2_with fail
  go_quiet (fail)
  go_wp2_with fail
  go_ret2
  exact ⟨rfl, HK.out.drewN _⟩

theorem compare_ok (rb ro n c by_ i j : Nat) (rank : List Nat) (w : World) (h : Sees w 1 (some ⟨rb, ro, none⟩) n (natVals rank)) (hrl : rank.length = n) (hrank : ∀ x ∈ rank, x < 1000000000) (hn : n ≤ 1000000000) (hi : i < n) (hj : j < n) (hby : by_ ≤ 1000000000000) :
    Calls Try.prog 32 #[ranksV (some ⟨rb, ro, none⟩) n c by_, .int .i64 i, .int .i64 j] w fun e w' => e = .returned (.int .i64 (K.cmpR n rank by_ i j)) ∧ Kept [] w w' := by
  have hk0 : Kept [] w (w.alloc (.cells #[.slice (some ⟨rb, ro, none⟩) n c, .int .i64 (by_ : Int)] 48)) := (Kept.refl _ _).alloc _
  have hX := heap_alloc_new w (.cells #[.slice (some ⟨rb, ro, none⟩) n c, .int .i64 (by_ : Int)] 48)
  have HX := Lib.hid hX
  have HK := Lib.hid hk0
  have HS := Lib.hid (h.kept0 hk0)
  have hb : ∀ k t, K.key1 rank k < 1000000000 ∧ K.key2 n rank t k < 1000000000 := by
    have : ∀ k, rank.getD k 0 < 1000000000 := by
      intro k
      rw [List.getD]
      cases hg : rank[k]? with
      | none => simp
      | some y => exact hrank y (List.mem_of_getElem? hg)
    intro k t
    exact ⟨this _, this _⟩
  have hbi := hb i by_
  have hbj := hb j by_
  have b0 : (w.alloc (.cells #[.slice (some ⟨rb, ro, none⟩) n c, .int .i64 (by_ : Int)] 48)).cell? ⟨w.heap.size, 0, none⟩ = _ := cell_of_row _ w.heap.size 0 _ _ _ hX
  have b1 : (w.alloc (.cells #[.slice (some ⟨rb, ro, none⟩) n c, .int .i64 (by_ : Int)] 48)).cell? ⟨w.heap.size, 1, none⟩ = _ := cell_of_row _ w.heap.size 1 _ _ _ hX
  simp at b0 b1
  clear hX h hk0 hb
  unfold ranksV
  go_enter Try.func32, Try.ntmps32
  go_wp2_with fail
  have hkey := key_ok rb ro n c by_ i rank _ HS.out hrl hn hi hby
  unfold ranksV at hkey
  refine hkey.mono ?_
  rintro e w1 ⟨rfl, hk1⟩
  have HK1 := Lib.hid (HK.out.new hk1 (by simp [Fresh]))
  have HS1 := Lib.hid (HS.out.kept0 hk1)
  have hX1 := hk1.heap HX.out (by simp)
  have b0 : w1.cell? ⟨w.heap.size, 0, none⟩ = _ := cell_of_row _ w.heap.size 0 _ _ _ hX1
  have b1 : w1.cell? ⟨w.heap.size, 1, none⟩ = _ := cell_of_row _ w.heap.size 1 _ _ _ hX1
  simp at b0 b1
  clear hkey hk1 hX1
  go_wp2_with fail
  have hkey := key_ok rb ro n c by_ j rank _ HS1.out hrl hn hj hby
  unfold ranksV at hkey
  refine hkey.mono ?_
  rintro e w2 ⟨rfl, hk2⟩
  have HK2 := Lib.hid (HK1.out.new hk2 (by simp [Fresh]))
  obtain ⟨r, hr⟩ : ∃ r, K.cmpR n rank by_ i j = r := ⟨_, rfl⟩
  have HR0 := Lib.hid hr
  unfold K.cmpR at hr
  clear hkey hk2 b0 b1 hrank hrl
  generalize K.key1 rank i = p at *
  generalize K.key1 rank j = p' at *
  generalize K.key2 n rank by_ i = q at *
  generalize K.key2 n rank by_ j = q' at *
  have v1 : IntKind.i64.wrap ((p : Int) - (p' : Int)) = (p : Int) - (p' : Int) := IntWalk.i64_in _ (by omega)
  have v2 : IntKind.i64.wrap ((q : Int) - (q' : Int)) = (q : Int) - (q' : Int) := IntWalk.i64_in _ (by omega)
  have v3 : IntKind.i64.wrap ((i : Int) - (j : Int)) = (i : Int) - (j : Int) := IntWalk.i64_in _ (by omega)
  by_cases h1 : p = p'
  · have g1 : ((p : Int) != (p' : Int)) = false := by simp [h1]
    rw [if_neg (by simp [h1])] at hr
    by_cases h2 : q = q'
    · have g2 : ((q : Int) != (q' : Int)) = false := by simp [h2]
      rw [if_neg (by simp [h2])] at hr
      have HR := Lib.hid hr
      clear hr h1 h2
      go_wp2_with fail
      go_ret
      exact ⟨by rw [HR0.out, ← HR.out]; rfl, HK2.out⟩
    · have g2 : ((q : Int) != (q' : Int)) = true := bne_iff_ne.2 (by omega)
      rw [if_pos h2] at hr
      have HR := Lib.hid hr
      clear hr h1 h2
      go_wp2_with fail
      go_ret
      exact ⟨by rw [HR0.out, ← HR.out]; rfl, HK2.out⟩
  · have g1 : ((p : Int) != (p' : Int)) = true := bne_iff_ne.2 (by omega)
    rw [if_pos h1] at hr
    have HR := Lib.hid hr
    clear hr h1
    go_wp2_with fail
    go_ret
    exact ⟨by rw [HR0.out, ← HR.out]; rfl, HK2.out⟩
end Go.Proofs.Ytaeppgooenbfiaa
