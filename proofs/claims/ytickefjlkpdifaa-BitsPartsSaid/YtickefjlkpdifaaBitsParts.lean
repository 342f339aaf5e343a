/-
  BitsParts: the walk.
-/
import Derived.Test.YtickefjlkpdifaaJoin
import Derived.Test.YtickefjlkpdifaaSliceR
import Derived.Test.YtickefjlkpdifaaPlainG
import Derived.Test.YtickefjlkpdifaaAwakeA
import Derived.Test.YtickefjlkpdifaaEqBits
import Derived.BigQuiet
namespace Go.Proofs.Ytickefjlkpdifaa
open Go.RowKit
set_option linter.unusedVariables false
set_option linter.unusedSimpArgs false

theorem sees_four {w : World} {b : Nat} {x y : ByteArray} {n m : Int} {t : TypeId} (h : w.heap[b]? = some (.cells #[.string x, .int .i64 n, .string y, .int .i64 m] t (0, 0))) :
    Sees w 2 (some ⟨b, 0, none⟩) 2 (bitsVals [(x, n), (y, m)]) := by
  refine ⟨by simp [bitsVals], fun j u hj => ⟨b, 0, rfl, ?_⟩⟩
  have hc := cell_of_row w b j _ _ _ h
  have hl := (List.getElem?_eq_some_iff.1 hj).1
  simp [bitsVals] at hl
  rw [Nat.zero_add, hc]
  match j, hl with
  | 0, _ => simpa [bitsVals] using hj
  | 1, _ => simpa [bitsVals] using hj
  | 2, _ => simpa [bitsVals] using hj
  | 3, _ => simpa [bitsVals] using hj

set_option maxRecDepth 100000 in
set_option maxHeartbeats 1000000 in
theorem bitsParts_walk (s : ByteArray) (i n m : Int) (w : World) (hz : s.size ≤ 140737488351232) (hi : -9223372036854775808 ≤ i ∧ i ≤ 9223372036854775807) (hn : -9223372036854775808 ≤ n ∧ n ≤ 9223372036854775807) (hm : -9223372036854775808 ≤ m ∧ m ≤ 9223372036854775807) :
    Calls Try.prog 9 #[.string s, .agg #[.int .i64 i, .int .i64 n, .int .i64 m]] w fun e w' => e = .returned (.bool true) ∧ Kept [] w w' := by
  clear hi hn hm
  have hkW : Kept [] w (w.alloc (.cells #[.int .i64 i, .int .i64 n, .int .i64 m] 65)) := (Kept.refl _ _).alloc _
  have hcW : (w.alloc (.cells #[.int .i64 i, .int .i64 n, .int .i64 m] 65)).heap[w.heap.size]? = some (.cells #[.int .i64 i, .int .i64 n, .int .i64 m] 65 (0, 0)) := heap_alloc_new _ _
  go_enter Try.func9, Try.ntmps9
  go_wp2_with fail
  generalize w.alloc (.cells #[.int .i64 i, .int .i64 n, .int .i64 m] 65) = W1 at hkW hcW ⊢
  have c0 : W1.cell? ⟨w.heap.size, 0, none⟩ = _ := cell_of_row W1 w.heap.size 0 _ _ _ hcW
  have c1 : W1.cell? ⟨w.heap.size, 1, none⟩ = _ := cell_of_row W1 w.heap.size 1 _ _ _ hcW
  have c2 : W1.cell? ⟨w.heap.size, 2, none⟩ = _ := cell_of_row W1 w.heap.size 2 _ _ _ hcW
  simp at c0 c1 c2
  clear hcW
  go_quiet (fail)
  have hk2 := hkW.drewN nq
  generalize W1.drewN nq = W2 at hk2 ⊢
  have HK2 := Lib.hid hk2
  clear hk2 c0 c1 c2 hkW
  by_cases b0 : 1000 < s.size
  · have g0 : decide (1000 < (s.size : Int)) = true := by simp; omega
    go_wp2_with ((go_at_call 15; refine (awakeA _).mono ?_; rintro e w' ⟨rfl, hk⟩))
    go_ret
    exact ⟨rfl, HK2.out.new ‹_› (by simp [Fresh])⟩
  have g0 : decide (1000 < (s.size : Int)) = false := by simp; omega
  by_cases b1 : i < 0
  · have g1 : decide (i < 0) = true := by simp; omega
    go_wp2_with ((go_at_call 15; refine (awakeA _).mono ?_; rintro e w' ⟨rfl, hk⟩))
    go_ret
    exact ⟨rfl, HK2.out.new ‹_› (by simp [Fresh])⟩
  have g1 : decide (i < 0) = false := by simp; omega
  by_cases b2 : n < 0
  · have g2 : decide (n < 0) = true := by simp; omega
    go_wp2_with ((go_at_call 15; refine (awakeA _).mono ?_; rintro e w' ⟨rfl, hk⟩))
    go_ret
    exact ⟨rfl, HK2.out.new ‹_› (by simp [Fresh])⟩
  have g2 : decide (n < 0) = false := by simp; omega
  by_cases b3 : m < 0
  · have g3 : decide (m < 0) = true := by simp; omega
    go_wp2_with ((go_at_call 15; refine (awakeA _).mono ?_; rintro e w' ⟨rfl, hk⟩))
    go_ret
    exact ⟨rfl, HK2.out.new ‹_› (by simp [Fresh])⟩
  have g3 : decide (m < 0) = false := by simp; omega
  have x8 : IntKind.i64.wrap (8 * (s.size : Int)) = 8 * (s.size : Int) := IntWalk.i64_in _ (by omega)
  by_cases b4 : 8 * (s.size : Int) < i
  · have g4 : decide (8 * (s.size : Int) < i) = true := by simp; omega
    go_wp2_with ((go_at_call 15; refine (awakeA _).mono ?_; rintro e w' ⟨rfl, hk⟩))
    go_ret
    exact ⟨rfl, HK2.out.new ‹_› (by simp [Fresh])⟩
  have g4 : decide (8 * (s.size : Int) < i) = false := by simp; omega
  have x9 : IntKind.i64.wrap (8 * (s.size : Int) - i) = 8 * (s.size : Int) - i := IntWalk.i64_in _ (by omega)
  by_cases b5 : 8 * (s.size : Int) - i < n
  · have g5 : decide (8 * (s.size : Int) - i < n) = true := by simp; omega
    go_wp2_with ((go_at_call 15; refine (awakeA _).mono ?_; rintro e w' ⟨rfl, hk⟩))
    go_ret
    exact ⟨rfl, HK2.out.new ‹_› (by simp [Fresh])⟩
  have g5 : decide (8 * (s.size : Int) - i < n) = false := by simp; omega
  have x10 : IntKind.i64.wrap (8 * (s.size : Int) - i - n) = 8 * (s.size : Int) - i - n := IntWalk.i64_in _ (by omega)
  by_cases b6 : 8 * (s.size : Int) - i - n < m
  · have g6 : decide (8 * (s.size : Int) - i - n < m) = true := by simp; omega
    go_wp2_with ((go_at_call 15; refine (awakeA _).mono ?_; rintro e w' ⟨rfl, hk⟩))
    go_ret
    exact ⟨rfl, HK2.out.new ‹_› (by simp [Fresh])⟩
  have g6 : decide (8 * (s.size : Int) - i - n < m) = false := by simp; omega
  obtain ⟨i, rfl⟩ := Int.eq_ofNat_of_zero_le (show 0 ≤ i by omega)
  obtain ⟨n, rfl⟩ := Int.eq_ofNat_of_zero_le (show 0 ≤ n by omega)
  obtain ⟨m, rfl⟩ := Int.eq_ofNat_of_zero_le (show 0 ≤ m by omega)
  have hle : i + n + m ≤ 8 * s.size := by omega
  have y1 : IntKind.i64.wrap ((i : Int) + (n : Int)) = (i : Int) + (n : Int) := IntWalk.i64_in _ (by omega)
  have y2 : IntKind.i64.wrap ((n : Int) + (m : Int)) = (n : Int) + (m : Int) := IntWalk.i64_in _ (by omega)
  go_wp2_with fail
  refine (slice_any s i n _ (by omega)).mono ?_
  rintro e w1 ⟨rfl, hk1⟩
  rw [K.sliceR_in _ _ _ (by rw [toList_length]; omega)]
  have HK1 := Lib.hid (HK2.out.new hk1 (by simp [Fresh]))
  clear hk1 g0 g1 g2 g3 g4 g5 g6 x8 x9 x10
  unfold bitsV
  have e2 : K.sliceR s.data.toList ((i : Int) + (n : Int)) (m : Int) = (K.pack (K.piece (K.bitsOf s.data.toList) (i + n) m), (m : Int), 0) := by
    have := K.sliceR_in s.data.toList (i + n) m (by rw [toList_length]; omega)
    rwa [Int.natCast_add] at this
  have e3 : K.sliceR s.data.toList (i : Int) ((n : Int) + (m : Int)) = (K.pack (K.piece (K.bitsOf s.data.toList) i (n + m)), (n : Int) + (m : Int), 0) := by
    have := K.sliceR_in s.data.toList i (n + m) (by rw [toList_length]; omega)
    rwa [Int.natCast_add] at this
  have e4 := K.parts s.data.toList i n m (by rw [toList_length]; omega)
  rw [Int.natCast_add] at e4
  have l1 : (K.pack (K.piece (K.bitsOf s.data.toList) i n)).length ≤ 2000 := by
    rw [K.pack_length, K.piece_len _ _ _ (by rw [bitsOf_len]; omega)]; omega
  have l2 : (K.pack (K.piece (K.bitsOf s.data.toList) (i + n) m)).length ≤ 2000 := by
    rw [K.pack_length, K.piece_len _ _ _ (by rw [bitsOf_len]; omega)]; omega
  have E2 := Lib.hid e2
  have E3 := Lib.hid e3
  have E4 := Lib.hid e4
  clear e2 e3 e4
  generalize K.pack (K.piece (K.bitsOf s.data.toList) i n) = A at l1 E4 ⊢
  generalize K.pack (K.piece (K.bitsOf s.data.toList) (i + n) m) = B at l2 E2 E4 ⊢
  generalize K.pack (K.piece (K.bitsOf s.data.toList) i (n + m)) = C at E3 E4
  go_wp2_with fail
  refine (slice_any s ((i : Int) + (n : Int)) m _ (by omega)).mono ?_
  rintro e w2 ⟨rfl, hk2⟩
  rw [E2.out]
  have hA := hk2.heap (heap_alloc_new w1 _) (by simp)
  have hAlt : w1.heap.size < w2.heap.size := by have := hk2.size; simp at this; omega
  have HK3 := Lib.hid ((HK1.out.alloc _).new hk2 (by simp [Fresh]))
  clear hk2
  unfold bitsV
  have hA0 : w2.cell? ⟨w1.heap.size, 0, none⟩ = _ := cell_of_row w2 w1.heap.size 0 _ _ _ hA
  have hA1 : w2.cell? ⟨w1.heap.size, 1, none⟩ = _ := cell_of_row w2 w1.heap.size 1 _ _ _ hA
  simp at hA0 hA1
  go_wp2_with fail
  have hS : ((w2.alloc (.cells #[.string ⟨B.toArray⟩, .int .i64 m] 55)).alloc (.cells #[.string ⟨A.toArray⟩, .int .i64 n, .string ⟨B.toArray⟩, .int .i64 m] 55)).heap[w2.heap.size + 1]?
      = some (.cells #[.string ⟨A.toArray⟩, .int .i64 n, .string ⟨B.toArray⟩, .int .i64 m] 55 (0, 0)) := by
    have := heap_alloc_new (w2.alloc (.cells #[.string ⟨B.toArray⟩, .int .i64 m] 55)) (.cells #[.string ⟨A.toArray⟩, .int .i64 n, .string ⟨B.toArray⟩, .int .i64 m] 55)
    simpa using this
  have hkS : Kept [] w2 ((w2.alloc (.cells #[.string ⟨B.toArray⟩, .int .i64 m] 55)).alloc (.cells #[.string ⟨A.toArray⟩, .int .i64 n, .string ⟨B.toArray⟩, .int .i64 m] 55)) := ((Kept.refl _ _).alloc _).alloc _
  generalize (w2.alloc (.cells #[.string ⟨B.toArray⟩, .int .i64 m] 55)).alloc (.cells #[.string ⟨A.toArray⟩, .int .i64 n, .string ⟨B.toArray⟩, .int .i64 m] 55) = W3 at hS hkS ⊢
  have hsee : Sees W3 2 (some ⟨w2.heap.size + 1, 0, none⟩) 2 (bitsVals [(⟨A.toArray⟩, (n : Int)), (⟨B.toArray⟩, (m : Int))]) := sees_four hS
  have HK4 := Lib.hid (HK3.out.new hkS (by simp [Fresh]))
  have hpp : plainPs [((⟨A.toArray⟩ : ByteArray), (n : Int)), (⟨B.toArray⟩, (m : Int))] = [(A, (n : Int)), (B, (m : Int))] := by simp [plainPs]
  have hto : K.total (plainPs [((⟨A.toArray⟩ : ByteArray), (n : Int)), (⟨B.toArray⟩, (m : Int))]) ≤ 1000000 := by rw [hpp]; simp [K.total]; omega
  refine (join_any _ 2 [(⟨A.toArray⟩, (n : Int)), (⟨B.toArray⟩, (m : Int))] _ hsee hto (by simp) (by
    intro p hp
    simp at hp
    rcases hp with rfl | rfl <;> simp <;> omega)).mono ?_
  rintro e w4 ⟨rfl, hk4⟩
  rw [hpp, E4.out]
  have HK5 := Lib.hid (HK4.out.new hk4 (by simp [Fresh]))
  clear hS hkS hsee hpp hto hk4 hA hAlt hA0 hA1
  unfold bitsV
  go_wp2_with fail
  refine (slice_any s (i : Int) ((n : Int) + (m : Int)) _ (by omega)).mono ?_
  rintro e w5 ⟨rfl, hk5⟩
  rw [E3.out]
  have hA := hk5.heap (heap_alloc_new w4 _) (by simp)
  have hlt : w4.heap.size < w5.heap.size := by have := hk5.size; simp at this; omega
  have HK6 := Lib.hid ((HK5.out.alloc _).new hk5 (by simp [Fresh]))
  clear hk5
  unfold bitsV
  have c0 : w5.cell? ⟨w4.heap.size, 0, none⟩ = _ := cell_of_row w5 w4.heap.size 0 _ _ _ hA
  have c1 : w5.cell? ⟨w4.heap.size, 1, none⟩ = _ := cell_of_row w5 w4.heap.size 1 _ _ _ hA
  simp at c0 c1
  have heq := fun W => eqBits_same ⟨C.toArray⟩ ((n : Int) + (m : Int)) W
  clear hA
  go_wp2_with ((go_at_call 15; refine (awakeA _).mono ?_; rintro e w' ⟨rfl, hk⟩))
  go_ret
  exact ⟨rfl, (HK6.out.alloc _).new ‹_› (by simp [Fresh])⟩
end Go.Proofs.Ytickefjlkpdifaa
