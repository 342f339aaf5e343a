/-
  The walk of the reference's Show of layer 10.
-/
import Derived.Test.YtickefjlkpdifaaDPut
namespace Go.Proofs.Ytickefjlkpdifaa
open Go.RowKit
set_option linter.unusedVariables false
set_option linter.unusedSimpArgs false

theorem rshow_any (a : Option Addr) (cap : Nat) (xs : List Int) (w : World) (h : Sees w 1 a xs.length (intVals xs)) (hlen : xs.length ≤ 140737488351232) :
    Calls Try.prog 35 #[.slice a xs.length cap] w fun e w' => e = .returned (bitsV (K.showR xs)) ∧ Kept [] w w' := by
  have HS := Lib.hid h
  clear h
  go_enter Try.func35, Try.ntmps35
  go_wp2_with fail
  have hc0 : (w.alloc (.cells #[.string ⟨#[]⟩, .int .i64 0] 55)).heap[w.heap.size]? = some (.cells #[.string ⟨#[]⟩, .int .i64 0] 55 (0, 0)) := heap_alloc_new _ _
  have hkW : Kept [] w (w.alloc (.cells #[.string ⟨#[]⟩, .int .i64 0] 55)) := (Kept.refl _ _).alloc _
  generalize w.alloc (.cells #[.string ⟨#[]⟩, .int .i64 0] 55) = W0 at hc0 hkW ⊢
  have HC0 := Lib.hid hc0
  have HKW := Lib.hid hkW
  refine (rput_any a cap xs _ (HS.out.kept0 hkW) hlen).mono ?_
  rintro e w1 ⟨hno, hyes, hk1⟩
  have HK1 := Lib.hid hk1
  clear hc0 hkW hk1
  rcases Bool.eq_false_or_eq_true (K.lensOk xs) with hok | hok
  · obtain ⟨ao, co, rfl, hrow⟩ := hyes hok
    have hsb := K.showBits_len xs hok
    have hsr : K.showR xs = (K.pack (K.showBits xs), (((K.showBits xs).length : Nat) : Int), 0) := by unfold K.showR; rw [hok]; rfl
    have HSR := Lib.hid hsr
    obtain ⟨ae, ce, hv, -, -, hsee, -⟩ := hrow.sees
    rw [bis_length] at hsee
    injection hv with h1 h2 h3
    subst h1
    have hso : Sees w1 1 ao (K.showBits xs).length (bis (K.showBits xs)) := hsee
    clear hno hyes hsr hrow hsee h2 h3
    go_wp2_with fail
    refine (refText_ok ao co (K.showBits xs) _ (by omega) hso).mono ?_
    rintro e w2 ⟨rfl, hk2⟩
    have hh := hk2.heap (HK1.out.heap HC0.out (by simp)) (by simp)
    have c0 : w2.cell? ⟨w.heap.size, 0, none⟩ = _ := cell_of_row w2 w.heap.size 0 _ _ _ hh
    have c1 : w2.cell? ⟨w.heap.size, 1, none⟩ = _ := cell_of_row w2 w.heap.size 1 _ _ _ hh
    have f0 := frozen_of_row w2 w.heap.size 0 _ _ hh
    have f1 := frozen_of_row w2 w.heap.size 1 _ _ hh
    simp at c0 c1
    have HK2 := Lib.hid ((HKW.out.new HK1.out (by simp [Fresh])).new hk2 (by simp [Fresh]))
    clear hh hk2
    go_wp2_with fail
    rw [HSR.out]
    refine bodyPost_ret (v := bitsV (K.pack (K.showBits xs), (((K.showBits xs).length : Nat) : Int), 0)) (by simp [results, Try.results35, go_sem, c0, c1, bitsV]) rfl ⟨rfl, ?_⟩
    exact (HK2.out.setCell (.inr (Nat.le_refl _)) _).setCell (.inr (Nat.le_refl _)) _
  · obtain rfl := hno hok
    have hsr : K.showR xs = ([], 0, 80) := by unfold K.showR; rw [hok]; rfl
    have HSR := Lib.hid hsr
    have hh := HK1.out.heap HC0.out (by simp)
    have c0 : w1.cell? ⟨w.heap.size, 0, none⟩ = _ := cell_of_row w1 w.heap.size 0 _ _ _ hh
    have c1 : w1.cell? ⟨w.heap.size, 1, none⟩ = _ := cell_of_row w1 w.heap.size 1 _ _ _ hh
    have f0 := frozen_of_row w1 w.heap.size 0 _ _ hh
    have f1 := frozen_of_row w1 w.heap.size 1 _ _ hh
    simp at c0 c1
    have HK2 := Lib.hid (HKW.out.new HK1.out (by simp [Fresh]))
    clear hh hno hyes hsr
    go_wp2_with fail
    rw [HSR.out]
    refine bodyPost_ret (v := bitsV ([], 0, 80)) (by simp [results, Try.results35, go_sem, c0, c1, bitsV]) rfl ⟨rfl, ?_⟩
    exact (HK2.out.setCell (.inr (Nat.le_refl _)) _).setCell (.inr (Nat.le_refl _)) _
end Go.Proofs.Ytickefjlkpdifaa
