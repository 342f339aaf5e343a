/-
  The walk of the reference's Slice, and both Slices whatever they are asked.
-/
import Derived.Test.YtickefjlkpdifaaSlice
namespace Go.Proofs.Ytickefjlkpdifaa
open Go.RowKit
set_option linter.unusedVariables false
set_option linter.unusedSimpArgs false

theorem refSlice_no (s : ByteArray) (i n : Int) (w : World) (hs : s.size ≤ 1000000000) (h : i < 0 ∨ n < 0 ∨ (8 * s.size : Nat) < i ∨ (8 * s.size : Nat) - i < n) :
    Calls Try.prog 31 #[.string s, .int .i64 i, .int .i64 n] w fun e w' => e = .returned (.tuple #[.agg #[.string ⟨#[]⟩, .int .i64 0], .int .i64 2]) ∧ Kept [] w w' := by
  have hLs : 8 * s.data.toList.length = 8 * s.size := by rw [toList_length]
  have HLS := Lib.hid hLs
  clear hLs
  have HH := Lib.hid h
  clear h
  go_enter Try.func31, Try.ntmps31
  go_wp2_with fail
  have hc0 : (w.alloc (.cells #[.string ⟨#[]⟩, .int .i64 0] 55)).heap[w.heap.size]? = some (.cells #[.string ⟨#[]⟩, .int .i64 0] 55 (0, 0)) := heap_alloc_new _ _
  have hkW : Kept [] w (w.alloc (.cells #[.string ⟨#[]⟩, .int .i64 0] 55)) := (Kept.refl _ _).alloc _
  generalize w.alloc (.cells #[.string ⟨#[]⟩, .int .i64 0] 55) = W0 at hc0 hkW ⊢
  refine (refOf_ok _ _ hs).mono ?_
  rintro e w1 ⟨ao, co, rfl, hrow, hk1, hfo, hco, hcm⟩
  rw [HLS.out]
  have hh := hk1.heap hc0 (by simp)
  have c0 : w1.cell? ⟨w.heap.size, 0, none⟩ = _ := cell_of_row w1 w.heap.size 0 _ _ _ hh
  have c1 : w1.cell? ⟨w.heap.size, 1, none⟩ = _ := cell_of_row w1 w.heap.size 1 _ _ _ hh
  have f0 := frozen_of_row w1 w.heap.size 0 _ _ hh
  have f1 := frozen_of_row w1 w.heap.size 1 _ _ hh
  simp at c0 c1
  have hkw := hkW.new hk1 (by simp [Fresh])
  have HKK := Lib.hid hkw
  clear hh hkw hrow hk1 hfo hco hcm hc0 hkW
  have h := HH.out
  by_cases h1 : i < 0
  · have g1 : decide (i < 0) = true := by simpa using h1
    clear h
    go_wp2_with fail
    refine bodyPost_ret (v := .tuple #[.agg #[.string ⟨#[]⟩, .int .i64 0], .int .i64 2]) (by simp [results, Try.results31, go_sem, c0, c1]) rfl ⟨rfl, ?_⟩
    exact (HKK.out.setCell (.inr (Nat.le_refl _)) _).setCell (.inr (Nat.le_refl _)) _
  · have g1 : decide (i < 0) = false := by simpa using h1
    by_cases h2 : n < 0
    · have g2 : decide (n < 0) = true := by simpa using h2
      clear h
      go_wp2_with fail
      refine bodyPost_ret (v := .tuple #[.agg #[.string ⟨#[]⟩, .int .i64 0], .int .i64 2]) (by simp [results, Try.results31, go_sem, c0, c1]) rfl ⟨rfl, ?_⟩
      exact (HKK.out.setCell (.inr (Nat.le_refl _)) _).setCell (.inr (Nat.le_refl _)) _
    · have g2 : decide (n < 0) = false := by simpa using h2
      by_cases h3 : (8 * s.size : Nat) < i
      · have g3 : decide (8 * (s.size : Int) < i) = true := by simp; omega
        clear h
        go_wp2_with fail
        refine bodyPost_ret (v := .tuple #[.agg #[.string ⟨#[]⟩, .int .i64 0], .int .i64 2]) (by simp [results, Try.results31, go_sem, c0, c1]) rfl ⟨rfl, ?_⟩
        exact (HKK.out.setCell (.inr (Nat.le_refl _)) _).setCell (.inr (Nat.le_refl _)) _
      · have g3 : decide (8 * (s.size : Int) < i) = false := by simp; omega
        have g4 : decide (8 * (s.size : Int) - i < n) = true := by simp; omega
        have w8 : IntKind.i64.wrap (8 * (s.size : Int) - i) = 8 * (s.size : Int) - i := IntWalk.i64_in _ (by omega)
        clear h
        go_wp2_with fail
        refine bodyPost_ret (v := .tuple #[.agg #[.string ⟨#[]⟩, .int .i64 0], .int .i64 2]) (by simp [results, Try.results31, go_sem, c0, c1]) rfl ⟨rfl, ?_⟩
        exact (HKK.out.setCell (.inr (Nat.le_refl _)) _).setCell (.inr (Nat.le_refl _)) _

set_option maxHeartbeats 400000 in
theorem refSlice_ok (s : ByteArray) (i n : Nat) (w : World) (hs : s.size ≤ 1000000000) (hi : i + n ≤ 8 * s.size) :
    Calls Try.prog 31 #[.string s, .int .i64 i, .int .i64 n] w fun e w' =>
      e = .returned (.tuple #[.agg #[.string ⟨(K.pack (K.piece (K.bitsOf s.data.toList) i n)).toArray⟩, .int .i64 n], .int .i64 0]) ∧ Kept [] w w' := by
  have g1 : decide ((i : Int) < 0) = false := by simp
  have g2 : decide ((n : Int) < 0) = false := by simp
  have g3 : decide (8 * (s.size : Int) < (i : Int)) = false := by simp; omega
  have g4 : decide (8 * (s.size : Int) - i < (n : Int)) = false := by simp; omega
  have hLs : 8 * s.data.toList.length = 8 * s.size := by rw [toList_length]
  have hp : ((bis (K.bitsOf s.data.toList)).drop i).take n = bis (K.piece (K.bitsOf s.data.toList) i n) := by simp [bis, K.piece, List.map_drop, List.map_take]
  have hpl := K.piece_length (K.bitsOf s.data.toList) i n (by rw [bitsOf_len]; exact hi)
  have HLS := Lib.hid hLs
  have HP := Lib.hid hp
  have HPL := Lib.hid hpl
  clear hLs hp hpl
  go_enter Try.func31, Try.ntmps31
  go_wp2_with fail
  have hc0 : (w.alloc (.cells #[.string ⟨#[]⟩, .int .i64 0] 55)).heap[w.heap.size]? = some (.cells #[.string ⟨#[]⟩, .int .i64 0] 55 (0, 0)) := heap_alloc_new _ _
  have hkW : Kept [] w (w.alloc (.cells #[.string ⟨#[]⟩, .int .i64 0] 55)) := (Kept.refl _ _).alloc _
  generalize w.alloc (.cells #[.string ⟨#[]⟩, .int .i64 0] 55) = W0 at hc0 hkW ⊢
  refine (refOf_ok _ _ hs).mono ?_
  rintro e w1 ⟨ao, co, rfl, hrow, hk1, hfo, hco, hcm⟩
  rw [HLS.out]
  obtain ⟨ao', co', hve, -, -, hsee, -⟩ := hrow.sees
  have hsee2 : Sees w1 1 ao (8 * s.size) (bis (K.bitsOf s.data.toList)) := by
    injection hve with h1 h2 h3
    subst h1
    rw [bis_length, bitsOf_len] at hsee
    exact hsee
  have hh := hk1.heap hc0 (by simp)
  have hkw := hkW.new hk1 (by simp [Fresh])
  have HKK := Lib.hid hkw
  have HHH := Lib.hid hh
  have HCM := Lib.hid hcm
  rw [toList_length] at hco
  clear hh hkw hrow hk1 hfo hcm hc0 hkW hve hsee
  by_cases hci : co = i
  · subst hci
    obtain rfl : n = 0 := by omega
    have h0 : Sees w1 1 ao (K.piece (K.bitsOf s.data.toList) co 0).length (bis (K.piece (K.bitsOf s.data.toList) co 0)) := by
      rw [HPL.out, ← HP.out]; exact hsee2.part _ _ (by omega) (fun h => absurd h (by omega))
    have HT := Lib.hid (refText_ok ao 0 _ w1 (by rw [HPL.out]; omega) h0)
    rw [HPL.out] at HT
    have hb : 8 * s.size = co := by omega
    have HB := Lib.hid hb
    clear h0 hsee2 hb
    go_wp2_with fail
    refine HT.out.mono ?_
    rintro e w2 ⟨rfl, hk2⟩
    have hh := hk2.heap HHH.out (by simp)
    have c0 : w2.cell? ⟨w.heap.size, 0, none⟩ = _ := cell_of_row w2 w.heap.size 0 _ _ _ hh
    have c1 : w2.cell? ⟨w.heap.size, 1, none⟩ = _ := cell_of_row w2 w.heap.size 1 _ _ _ hh
    have f0 := frozen_of_row w2 w.heap.size 0 _ _ hh
    have f1 := frozen_of_row w2 w.heap.size 1 _ _ hh
    simp at c0 c1
    have hkw := HKK.out.new hk2 (by simp [Fresh])
    have HK2 := Lib.hid hkw
    clear hh hk2 hkw
    go_wp2_with fail
    refine bodyPost_ret (v := bitsV (K.pack (K.piece (K.bitsOf s.data.toList) co 0), 0, 0)) (by simp [results, Try.results31, go_sem, c0, c1, bitsV]) rfl ⟨rfl, ?_⟩
    exact (HK2.out.setCell (.inr (Nat.le_refl _)) _).setCell (.inr (Nat.le_refl _)) _
  · have h0 : Sees w1 1 (Option.map (fun x => x.add i) ao) (K.piece (K.bitsOf s.data.toList) i n).length (bis (K.piece (K.bitsOf s.data.toList) i n)) := by
      rw [HPL.out, ← HP.out]
      exact hsee2.part _ _ hi (fun _ b off he => by rw [he, Option.map_some, Addr.add_lit])
    have HT := Lib.hid (refText_ok _ (co - i) _ w1 (by rw [HPL.out]; omega) h0)
    rw [HPL.out] at HT
    clear h0 hsee2
    go_wp2_with fail
    refine HT.out.mono ?_
    rintro e w2 ⟨rfl, hk2⟩
    have hh := hk2.heap HHH.out (by simp)
    have c0 : w2.cell? ⟨w.heap.size, 0, none⟩ = _ := cell_of_row w2 w.heap.size 0 _ _ _ hh
    have c1 : w2.cell? ⟨w.heap.size, 1, none⟩ = _ := cell_of_row w2 w.heap.size 1 _ _ _ hh
    have f0 := frozen_of_row w2 w.heap.size 0 _ _ hh
    have f1 := frozen_of_row w2 w.heap.size 1 _ _ hh
    simp at c0 c1
    have hkw := HKK.out.new hk2 (by simp [Fresh])
    have HK2 := Lib.hid hkw
    clear hh hk2 hkw
    go_wp2_with fail
    refine bodyPost_ret (v := bitsV (K.pack (K.piece (K.bitsOf s.data.toList) i n), n, 0)) (by simp [results, Try.results31, go_sem, c0, c1, bitsV]) rfl ⟨rfl, ?_⟩
    exact (HK2.out.setCell (.inr (Nat.le_refl _)) _).setCell (.inr (Nat.le_refl _)) _

/-- Both Slices, whatever they are asked. -/
theorem sliceR_no (s : ByteArray) (i n : Int) (h : i < 0 ∨ n < 0 ∨ (8 * s.size : Nat) < i ∨ (8 * s.size : Nat) - i < n) : K.sliceR s.data.toList i n = ([], 0, 2) := by
  unfold K.sliceR; rw [toList_length, if_pos h]
theorem sliceR_ok (s : ByteArray) (i n : Nat) (h : i + n ≤ 8 * s.size) : K.sliceR s.data.toList i n = (K.pack (K.piece (K.bitsOf s.data.toList) i n), (n : Int), 0) := by
  unfold K.sliceR; rw [toList_length, if_neg (by omega)]; rfl
theorem slice_any (s : ByteArray) (i n : Int) (w : World) (hs : s.size ≤ 1000000000) :
    Calls Try.prog 30 #[.string s, .int .i64 i, .int .i64 n] w fun e w' => e = .returned (bitsV (K.sliceR s.data.toList i n)) ∧ Kept [] w w' := by
  by_cases h : i < 0 ∨ n < 0 ∨ (8 * s.size : Nat) < i ∨ (8 * s.size : Nat) - i < n
  · rw [sliceR_no s i n h]; exact slice_no s i n w hs h
  · obtain ⟨i, rfl⟩ := Int.eq_ofNat_of_zero_le (show 0 ≤ i by omega)
    obtain ⟨n, rfl⟩ := Int.eq_ofNat_of_zero_le (show 0 ≤ n by omega)
    rw [sliceR_ok s i n (by omega)]; exact slice_ok s i n w hs (by omega)
theorem refSlice_any (s : ByteArray) (i n : Int) (w : World) (hs : s.size ≤ 1000000000) :
    Calls Try.prog 31 #[.string s, .int .i64 i, .int .i64 n] w fun e w' => e = .returned (bitsV (K.sliceR s.data.toList i n)) ∧ Kept [] w w' := by
  by_cases h : i < 0 ∨ n < 0 ∨ (8 * s.size : Nat) < i ∨ (8 * s.size : Nat) - i < n
  · rw [sliceR_no s i n h]; exact refSlice_no s i n w hs h
  · obtain ⟨i, rfl⟩ := Int.eq_ofNat_of_zero_le (show 0 ≤ i by omega)
    obtain ⟨n, rfl⟩ := Int.eq_ofNat_of_zero_le (show 0 ≤ n by omega)
    rw [sliceR_ok s i n (by omega)]; exact refSlice_ok s i n w hs (by omega)
end Go.Proofs.Ytickefjlkpdifaa
