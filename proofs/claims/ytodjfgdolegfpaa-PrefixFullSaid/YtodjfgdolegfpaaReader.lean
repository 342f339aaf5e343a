/-
  The walks of the reader (layer 1): NewReader, its closure, Take, Unary, At, Left.
-/
import Derived.Test.YtodjfgdolegfpaaPut
namespace Go.Proofs.Ytodjfgdolegfpaa
open Go.RowKit
set_option linter.unusedVariables false
set_option linter.unusedSimpArgs false

/-- A reader at block r, over the text s boxed at block q, that stands at bit number i. -/
def Rd (w : World) (r q : Nat) (s : ByteArray) (i : Nat) : Prop :=
  w.heap[r]? = some (.cells #[.func (.func 46) #[] #[.pointer (some ⟨q, 0, none⟩)], .int .i64 i, .int .i64 (8 * s.size : Nat)] 87 (0, 0)) ∧
    w.heap[q]? = some (.cells #[.string s] 9 (0, 0)) ∧ r ≠ q

theorem newReader_ok (s : ByteArray) (i : Nat) (w : World) (hs : s.size ≤ 1125899906842624) (hi : i ≤ 8 * s.size) :
    Calls Try.prog 34 #[.string s, .int .i64 i] w fun e w' => e = .returned (.pointer (some ⟨w.heap.size + 1, 0, none⟩)) ∧
      w' = (w.alloc (.cells #[.string s] 9)).alloc (.cells #[.func (.func 46) #[] #[.pointer (some ⟨w.heap.size, 0, none⟩)], .int .i64 i, .int .i64 (8 * s.size : Nat)] 87) := by
  have g1 : decide ((i : Int) < 0) = false := by simp
  have g2 : decide (8 * (s.size : Int) < (i : Int)) = false := by simp; omega
  go_enter Try.func34, Try.ntmps34
  go_wp2
  go_ret
  refine ⟨rfl, by simp⟩

theorem Rd.kept {S : List Nat} {w w' : World} {r q : Nat} {s : ByteArray} {i : Nat} (h : Rd w r q s i) (hk : Kept S w w') (ha : Apart [r, q] S) : Rd w' r q s i :=
  ⟨hk.heap h.1 (ha r (by simp)), hk.heap h.2.1 (ha q (by simp)), h.2.2⟩
theorem Rd.lt {w : World} {r q : Nat} {s : ByteArray} {i : Nat} (h : Rd w r q s i) : ∀ x ∈ [r, q], x < w.heap.size := by
  intro x hx
  rcases List.mem_cons.1 hx with rfl | hx
  · exact lt_of_block h.1
  · rw [List.mem_singleton.1 hx]; exact lt_of_block h.2.1
/-- What NewReader leaves, where it makes one. -/
def NewR (w : World) (s : ByteArray) (i : Nat) (e : Ending) (w' : World) : Prop :=
  ∃ r q, e = .returned (.pointer (some ⟨r, 0, none⟩)) ∧ Rd w' r q s i ∧ Kept [] w w' ∧ Fresh w.heap.size [r, q]
theorem newReader_new (s : ByteArray) (i : Int) (w : World) (hs : s.size ≤ 1125899906842624) (h0 : 0 ≤ i) (hi : i.toNat ≤ 8 * s.size) :
    Calls Try.prog 34 #[.string s, .int .i64 i] w (NewR w s i.toNat) := by
  obtain ⟨i, rfl⟩ := Int.eq_ofNat_of_zero_le h0
  simp only [Int.toNat_natCast] at hi ⊢
  refine (newReader_ok s i w hs hi).mono fun e w' ⟨he, hw⟩ => ⟨_, w.heap.size, he, ?_, by rw [hw]; exact ((Kept.refl _ _).alloc _).alloc _, by simp [Fresh]⟩
  rw [hw]
  refine ⟨?_, heap_alloc2_old w _ _, by omega⟩
  exact heap_alloc2_new w _ _

theorem newReader_no (s : ByteArray) (i : Int) (w : World) (hs : s.size ≤ 1125899906842624) (hi : i < 0 ∨ (8 * s.size : Nat) < i) :
    Calls Try.prog 34 #[.string s, .int .i64 i] w fun e w' => e = .returned (.pointer none) ∧ w' = w.alloc (.cells #[.string s] 9) := by
  by_cases h : i < 0
  · have g1 : decide ((i : Int) < 0) = true := by simpa using h
    go_enter Try.func34, Try.ntmps34
    go_wp2
    go_ret
    exact ⟨rfl, rfl⟩
  · have g1 : decide ((i : Int) < 0) = false := by simpa using h
    have g2 : decide (8 * (s.size : Int) < i) = true := by simp; omega
    go_enter Try.func34, Try.ntmps34
    go_wp2
    go_ret
    exact ⟨rfl, rfl⟩

theorem bit_ok (s : ByteArray) (i q : Nat) (w : World) (hs : s.size ≤ 1125899906842624) (hi : i < 8 * s.size) (hq : w.cell? ⟨q, 0, none⟩ = some (.string s)) :
    Calls Try.prog 46 #[.int .i64 i, .pointer (some ⟨q, 0, none⟩)] w fun e w' => e = .returned (.int .u64 ((K.tbit s.data.toList i).toNat : Nat)) ∧ w = w' := by
  have h8 : i / 8 < s.size := by omega
  have h8' : (i : Int) / 8 < (s.size : Int) := by omega
  go_enter Try.func46, Try.ntmps46
  go_wp2
  go_ret
  refine ⟨ret_k ?_, rfl⟩
  have hb : ((s[i / 8]'h8).toNat : Nat) < 256 := (s[i / 8]'h8).toNat_lt
  have e1 : IntKind.u64.wrap ((s[i / 8]'h8).toNat : Int) = ((s[i / 8]'h8).toNat : Int) := by rw [IntKind.wrap_u64]; omega
  have e2 : (s.data.toList.getD (i / 8) 0) = s[i / 8]'h8 := by
    have : i / 8 < s.data.toList.length := by simpa using h8
    rw [List.getD, List.getElem?_eq_getElem this]; rfl
  unfold K.tbit
  rw [e1, e2, K.testBit_div, show ((s[i / 8]'h8).toNat : Int) / 2 ^ (7 - i % 8) = (((s[i / 8]'h8).toNat / 2 ^ (7 - i % 8) : Nat) : Int) by norm_cast, show (1 : Int) = ((1 : Nat) : Int) from rfl,
    u64_and_nat _ _ (by have := Nat.div_le_self (s[i / 8]'h8).toNat (2 ^ (7 - i % 8)); omega) (by omega), nat_mask1]

theorem bit_at (s : ByteArray) (i q : Nat) (x : Int) (w : World) (hx : x = (i : Nat)) (hs : s.size ≤ 1125899906842624) (hi : i < 8 * s.size) (hq : w.cell? ⟨q, 0, none⟩ = some (.string s)) :
    Calls Try.prog 46 #[.int .i64 x, .pointer (some ⟨q, 0, none⟩)] w fun e w' => e = .returned (.int .u64 ((K.tbit s.data.toList i).toNat : Nat)) ∧ w = w' := by
  subst hx; exact bit_ok s i q w hs hi hq

theorem at_nil (w : World) : Calls Try.prog 36 #[.pointer none] w fun e w' => e = .returned (.int .i64 0) ∧ w = w' := by
  go_enter Try.func36, Try.ntmps36
  go_wp2
  go_ret
  exact ⟨rfl, rfl⟩
theorem at_ok (r q : Nat) (s : ByteArray) (i : Nat) (w : World) (h : Rd w r q s i) : Calls Try.prog 36 #[.pointer (some ⟨r, 0, none⟩)] w fun e w' => e = .returned (.int .i64 i) ∧ w = w' := by
  have c1 : w.cell? ⟨r, 1, none⟩ = some (.int .i64 i) := cell_of_row w r 1 _ _ _ h.1
  clear h
  go_enter Try.func36, Try.ntmps36
  go_wp2
  go_ret
  exact ⟨rfl, rfl⟩
theorem take_nil (n : Int) (w : World) : Calls Try.prog 47 #[.pointer none, .int .i64 n] w fun e w' => e = .returned (.tuple #[.int .u64 0, .int .i64 1]) ∧ w = w' := by
  go_enter Try.func47, Try.ntmps47
  go_wp2
  go_ret2
  exact ⟨rfl, rfl⟩
theorem eqFn (c : Array Value) (w : World) : (binOp BinOp.eql 85 (.func (.func 46) #[] c) .nilFunc).run Try.prog w = .ok (.bool false) w := by kernel_rfl
theorem take_arg (r q : Nat) (s : ByteArray) (i : Nat) (n : Int) (w : World) (h : Rd w r q s i) (hn : n < 0 ∨ 64 < n) :
    Calls Try.prog 47 #[.pointer (some ⟨r, 0, none⟩), .int .i64 n] w fun e w' => e = .returned (.tuple #[.int .u64 0, .int .i64 2]) ∧ w = w' := by
  have c0 : w.cell? ⟨r, 0, none⟩ = some (.func (.func 46) #[] #[.pointer (some ⟨q, 0, none⟩)]) := cell_of_row w r 0 _ _ _ h.1
  clear h
  have hfn := eqFn #[.pointer (some ⟨q, 0, none⟩)] w
  by_cases h : n < 0
  · have g1 : decide (n < 0) = true := by simpa using h
    go_enter Try.func47, Try.ntmps47
    go_wp2
    go_ret2
    exact ⟨rfl, rfl⟩
  · have g1 : decide (n < 0) = false := by simpa using h
    have g2 : decide (64 < n) = true := by simp; omega
    go_enter Try.func47, Try.ntmps47
    go_wp2
    go_ret2
    exact ⟨rfl, rfl⟩

set_option maxRecDepth 100000 in
theorem take_short (r q : Nat) (s : ByteArray) (i n : Nat) (w : World) (h : Rd w r q s i) (hs : s.size ≤ 1125899906842624) (hi : i ≤ 8 * s.size) (hn : n ≤ 64) (hl : 8 * s.size < i + n) :
    Calls Try.prog 47 #[.pointer (some ⟨r, 0, none⟩), .int .i64 n] w fun e w' => e = .returned (.tuple #[.int .u64 0, .int .i64 10]) ∧ ∃ m, w' = w.drewN m := by
  have c0 : w.cell? ⟨r, 0, none⟩ = some (.func (.func 46) #[] #[.pointer (some ⟨q, 0, none⟩)]) := cell_of_row w r 0 _ _ _ h.1
  have c1 : w.cell? ⟨r, 1, none⟩ = some (.int .i64 i) := cell_of_row w r 1 _ _ _ h.1
  have c2 : w.cell? ⟨r, 2, none⟩ = some (.int .i64 (8 * s.size : Nat)) := cell_of_row w r 2 _ _ _ h.1
  clear h
  have hfn := eqFn #[.pointer (some ⟨q, 0, none⟩)] w
  have g1 : decide ((n : Int) < 0) = false := by simp
  have g2 : decide (64 < (n : Int)) = false := by simp; omega
  have w1 : IntKind.i64.wrap (8 * (s.size : Int) - i) = 8 * (s.size : Int) - i := IntWalk.i64_in _ (by omega)
  have g3 : 8 * (s.size : Int) - i < n := by omega
  go_enter Try.func47, Try.ntmps47
  go_wp2
  go_quiet (fail)
  go_wp2
  go_ret2
  exact ⟨rfl, _, rfl⟩

/-- In Take's loop: j bits are taken. -/
def TakeI (w : World) (s : ByteArray) (i n : Nat) (k : Nat) (v c : Value) (wr : World) : Prop :=
  ∃ j m, j ≤ n ∧ k = n - j ∧ c = .int .i64 j ∧ v = .int .u64 (K.num (K.piece (K.bitsOf s.data.toList) i j) : Nat) ∧ wr = w.drewN m

set_option maxRecDepth 100000 in
set_option maxHeartbeats 400000 in
theorem take_ok (r q : Nat) (s : ByteArray) (i n : Nat) (w : World) (h : Rd w r q s i) (hs : s.size ≤ 1125899906842624) (hn : n ≤ 64) (hl : i + n ≤ 8 * s.size) :
    Calls Try.prog 47 #[.pointer (some ⟨r, 0, none⟩), .int .i64 n] w fun e w' => e = .returned (.tuple #[.int .u64 (K.num (K.piece (K.bitsOf s.data.toList) i n) : Nat), .int .i64 0]) ∧
      Rd w' r q s (i + n) ∧ Kept [r] w w' := by
  have c0 : w.cell? ⟨r, 0, none⟩ = some (.func (.func 46) #[] #[.pointer (some ⟨q, 0, none⟩)]) := cell_of_row w r 0 _ _ _ h.1
  have c1 : w.cell? ⟨r, 1, none⟩ = some (.int .i64 i) := cell_of_row w r 1 _ _ _ h.1
  have c2 : w.cell? ⟨r, 2, none⟩ = some (.int .i64 (8 * s.size : Nat)) := cell_of_row w r 2 _ _ _ h.1
  have cq : w.cell? ⟨q, 0, none⟩ = some (.string s) := cell_of_row w q 0 _ _ _ h.2.1
  have f1 := frozen_of_row w r 1 _ _ h.1
  have H := Lib.hid h
  clear h
  have hfn := eqFn #[.pointer (some ⟨q, 0, none⟩)] w
  have g1 : decide ((n : Int) < 0) = false := by simp
  have g2 : decide (64 < (n : Int)) = false := by simp; omega
  have w1 : IntKind.i64.wrap (8 * (s.size : Int) - i) = 8 * (s.size : Int) - i := IntWalk.i64_in _ (by omega)
  have g3 : (n : Int) ≤ 8 * (s.size : Int) - i := by omega
  go_enter Try.func47, Try.ntmps47
  go_wp2
  go_quiet (fail)
  go_wp2
  go_loopg [6, 35] n (fun k v c wr => TakeI w s i n k v c wr)
  case atStart => exact ⟨0, _, by omega, by omega, rfl, by rw [K.piece_zero]; rfl, rfl⟩
  case round =>
    obtain ⟨j, m, hj, hk, rfl, rfl, rfl⟩ := hrel
    have Hk := Lib.hid hk
    clear hk
    by_cases hlt : j < n
    · have hps := K.piece_succ s.data.toList i j (by simp only [Array.length_toList]; show i + j < 8 * s.size; omega)
      have hln := K.piece_length (K.bitsOf s.data.toList) i j (by rw [K.bitsOf_length]; simp only [Array.length_toList]; show i + j ≤ 8 * s.size; omega)
      have hnl := K.num_lt (K.piece (K.bitsOf s.data.toList) i j)
      rw [hln] at hnl
      have hnl2 : K.num (K.piece (K.bitsOf s.data.toList) i j) ≤ 9223372036854775807 := by
        have : 2 ^ j ≤ 2 ^ 63 := Nat.pow_le_pow_right (by decide) (by omega)
        omega
      have hnx : K.num (K.piece (K.bitsOf s.data.toList) i (j + 1)) = 2 * K.num (K.piece (K.bitsOf s.data.toList) i j) + (K.tbit s.data.toList (i + j)).toNat := by rw [hps, K.num_snoc]
      have hbt := Bool.toNat_le (K.tbit s.data.toList (i + j))
      have hor := K.shl_or (K.num (K.piece (K.bitsOf s.data.toList) i j)) (K.tbit s.data.toList (i + j))
      generalize K.num (K.piece (K.bitsOf s.data.toList) i j) = V at hnx hnl2 hor
      have HX := Lib.hid hnx
      have HO := Lib.hid hor
      clear hnx hps hln hnl hor
      go_wp2
      go_quiet ((go_at_call 46; exact quietly_add (bit_at s (i + j) q _ _ (by omega) hs (by omega) cq)))
      go_wp2
      go_roundg (n - (j + 1))
      case measure => have := Hk.out; omega
      case rel =>
        have hV : V < 18446744073709551616 := by omega
        have e : bits BinOp.or IntKind.u64 ((V : Int) * 2) ((K.tbit s.data.toList (i + j)).toNat : Int) = ((2 * V + (K.tbit s.data.toList (i + j)).toNat : Nat) : Int) := by
          rw [show (V : Int) * 2 = ((V * 2 : Nat) : Int) by omega, u64_or_nat _ _ (by omega) (by omega), HO.out]
        exact ⟨j + 1, _, by omega, rfl, by go_num, by rw [e, HX.out], rfl⟩
    · obtain rfl : j = n := by omega
      go_wp2
      go_ret2
      obtain ⟨h1, h2, h3⟩ := H.out
      refine ⟨rfl, ⟨?_, ?_, h3⟩, ?_⟩
      · have := heap_setCell_same (w.drewN m) r 1 _ _ (.int .i64 (i + j : Nat)) h1
        simpa using this
      · exact (heap_setCell_other (w.drewN m) ⟨r, 1, none⟩ q _ (fun h => h3 h.symm)).trans h2
      · exact ((Kept.refl _ _).drewN m).setCell (by simp) _
end Go.Proofs.Ytodjfgdolegfpaa
