/-
  The walks of Slice, of the program and of the reference.
-/
import Derived.Test.YtickefjlkpdifaaAnyA
import Derived.Test.YtickefjlkpdifaaLibB
import Derived.Test.YtickefjlkpdifaaPlainD
namespace Go.Proofs.Ytickefjlkpdifaa
open Go.RowKit
set_option linter.unusedVariables false
set_option linter.unusedSimpArgs false

/-- A piece and an error, as they are returned. -/
def bitsV (p : List UInt8 × Int × Nat) : Value := .tuple #[.agg #[.string ⟨p.1.toArray⟩, .int .i64 p.2.1], .int .i64 p.2.2]

theorem slice_no (s : ByteArray) (i n : Int) (w : World) (hs : s.size ≤ 1000000000) (h : i < 0 ∨ n < 0 ∨ (8 * s.size : Nat) < i ∨ (8 * s.size : Nat) - i < n) :
    Calls Try.prog 30 #[.string s, .int .i64 i, .int .i64 n] w fun e w' => e = .returned (.tuple #[.agg #[.string ⟨#[]⟩, .int .i64 0], .int .i64 2]) ∧ Kept [] w w' := by
  by_cases h1 : i < 0
  · have g1 : decide (i < 0) = true := by simpa using h1
    clear h
    go_enter Try.func30, Try.ntmps30
    go_wp2
    refine bodyPost_ret (v := .tuple #[.agg #[.string ⟨#[]⟩, .int .i64 0], .int .i64 2]) (by simp [results, Try.results30, go_sem]) rfl ⟨rfl, ?_⟩
    first | exact (Kept.refl [] w).alloc _ | exact ((Kept.refl [] w).alloc _).setCell (by simp) _ | exact (((Kept.refl [] w).alloc _).setCell (by simp) _).setCell (by simp) _
  · have g1 : decide (i < 0) = false := by simpa using h1
    by_cases h2 : n < 0
    · have g2 : decide (n < 0) = true := by simpa using h2
      clear h
      go_enter Try.func30, Try.ntmps30
      go_wp2
      refine bodyPost_ret (v := .tuple #[.agg #[.string ⟨#[]⟩, .int .i64 0], .int .i64 2]) (by simp [results, Try.results30, go_sem]) rfl ⟨rfl, ?_⟩
      first | exact (Kept.refl [] w).alloc _ | exact ((Kept.refl [] w).alloc _).setCell (by simp) _ | exact (((Kept.refl [] w).alloc _).setCell (by simp) _).setCell (by simp) _
    · have g2 : decide (n < 0) = false := by simpa using h2
      by_cases h3 : (8 * s.size : Nat) < i
      · have g3 : decide (8 * (s.size : Int) < i) = true := by simp; omega
        clear h
        go_enter Try.func30, Try.ntmps30
        go_wp2
        refine bodyPost_ret (v := .tuple #[.agg #[.string ⟨#[]⟩, .int .i64 0], .int .i64 2]) (by simp [results, Try.results30, go_sem]) rfl ⟨rfl, ?_⟩
        first | exact (Kept.refl [] w).alloc _ | exact ((Kept.refl [] w).alloc _).setCell (by simp) _ | exact (((Kept.refl [] w).alloc _).setCell (by simp) _).setCell (by simp) _
      · have g3 : decide (8 * (s.size : Int) < i) = false := by simp; omega
        have g4 : decide (8 * (s.size : Int) - i < n) = true := by simp; omega
        have w8 : IntKind.i64.wrap (8 * (s.size : Int) - i) = 8 * (s.size : Int) - i := IntWalk.i64_in _ (by omega)
        clear h
        go_enter Try.func30, Try.ntmps30
        go_wp2
        refine bodyPost_ret (v := .tuple #[.agg #[.string ⟨#[]⟩, .int .i64 0], .int .i64 2]) (by simp [results, Try.results30, go_sem]) rfl ⟨rfl, ?_⟩
        first | exact (Kept.refl [] w).alloc _ | exact ((Kept.refl [] w).alloc _).setCell (by simp) _ | exact (((Kept.refl [] w).alloc _).setCell (by simp) _).setCell (by simp) _
theorem takeR_one (s : ByteArray) (p : Nat) (h : p < 8 * s.size) : K.takeR (K.bitsOf s.data.toList) p 1 = ((K.tbit s.data.toList p).toNat, 0) := by
  unfold K.takeR
  rw [if_neg (by omega), if_neg (by rw [bitsOf_len]; simp; omega), show (1 : Int).toNat = 1 from rfl, K.piece_one _ _ (by rw [toList_length]; exact h), K.num_one]
theorem low_bit (b : Bool) : K.low ((b.toNat : Nat) : Int).toNat (1 : Int).toNat = [b] := by rw [Int.toNat_natCast]; exact K.low_one b
/-- In Slice's loop: j bits are moved. -/
def SliceI (w0 : World) (s : ByteArray) (r q b : Nat) (i n : Nat) (k : Nat) (c : Value) (w : World) : Prop :=
  ∃ j o, j ≤ n ∧ k = n - j ∧ c = .int .i64 (j : Nat) ∧ Rd w r q s (i + j) ∧ Wr w b o (K.piece (K.bitsOf s.data.toList) i j) ∧ Apart [r, q] (b :: foot o) ∧ Kept [] w0 w ∧ Fresh w0.heap.size (b :: foot o)

set_option maxHeartbeats 400000 in
theorem slice_ok (s : ByteArray) (i n : Nat) (w : World) (hs : s.size ≤ 1000000000) (hi : i + n ≤ 8 * s.size) :
    Calls Try.prog 30 #[.string s, .int .i64 i, .int .i64 n] w fun e w' =>
      e = .returned (.tuple #[.agg #[.string ⟨(K.pack (K.piece (K.bitsOf s.data.toList) i n)).toArray⟩, .int .i64 n], .int .i64 0]) ∧ Kept [] w w' := by
  have g1 : decide ((i : Int) < 0) = false := by simp
  have g2 : decide ((n : Int) < 0) = false := by simp
  have g3 : decide (8 * (s.size : Int) < (i : Int)) = false := by simp; omega
  have g4 : decide (8 * (s.size : Int) - i < (n : Int)) = false := by simp; omega
  go_enter Try.func30, Try.ntmps30
  go_wp2_with fail
  have hc0 : (w.alloc (.cells #[.string ⟨#[]⟩, .int .i64 0] 55)).heap[w.heap.size]? = some (.cells #[.string ⟨#[]⟩, .int .i64 0] 55 (0, 0)) := heap_alloc_new _ _
  have hkW : Kept [] w (w.alloc (.cells #[.string ⟨#[]⟩, .int .i64 0] 55)) := (Kept.refl _ _).alloc _
  have hzW : (w.alloc (.cells #[.string ⟨#[]⟩, .int .i64 0] 55)).heap.size = w.heap.size + 1 := by simp
  generalize w.alloc (.cells #[.string ⟨#[]⟩, .int .i64 0] 55) = W0 at hc0 hkW hzW ⊢
  refine (newReader_new _ _ _ (by omega) (by omega) (by simp; omega)).mono ?_
  rintro e w1 ⟨r, q, rfl, hr, hk1, hrq⟩
  have hr : Rd w1 r q s i := by simpa using hr
  go_wp2_with fail
  refine (newWriter_new _).mono ?_
  rintro e w2 ⟨b, rfl, hw, hk2, hb⟩
  have hr2 := hr.kept hk2 (Apart.nil _)
  have hap : Apart [r, q] (b :: foot (.slice none 0 0)) := Apart.fresh hr.lt hb
  have hk12 := hk1.new hk2 (by simp [Fresh])
  have hfb : Fresh W0.heap.size (b :: foot (.slice none 0 0)) := hb.mono hk1.size
  have HC0 := Lib.hid hc0
  have HZW := Lib.hid hzW
  have HRQ := Lib.hid hrq
  have HKW := Lib.hid hkW
  clear hc0 hzW hr hk1 hk2 hb hrq hkW
  go_wp2
  go_loopg [40] n (fun k c wr => SliceI W0 s r q b i n k c wr)
  case atStart => exact ⟨0, _, by omega, by omega, rfl, hr2, by rw [K.piece_zero]; exact hw, hap, hk12, hfb⟩
  case round =>
    obtain ⟨j, o, hj, hk, rfl, hrd, hwr, hap, hkept, hfr⟩ := hrel
    have Hk := Lib.hid hk
    clear hk
    by_cases hlt : j < n
    · have hT := takeR_one s (i + j) (by omega)
      have hps := K.piece_succ s.data.toList i j (by rw [toList_length]; omega)
      have hpl := K.piece_length (K.bitsOf s.data.toList) i j (by rw [bitsOf_len]; omega)
      have HPS := Lib.hid hps
      have HPL := Lib.hid hpl
      have HT := Lib.hid hT
      clear hps hpl hT
      go_wp2_with fail
      refine (take_any r q s (i + j) 1 _ hrd (by omega) (by omega)).mono ?_
      rintro e w3 hpost
      rw [HT.out] at hpost
      obtain ⟨rfl, hrd3, hk3⟩ := hpost
      have hrd3 : Rd w3 r q s (i + (j + 1)) := hrd3
      have hwr3 := hwr.kept hk3 (hap.sub (by simp)).symm
      have hkept3 := hkept.new hk3 (fun x hx => HRQ.out x (by simp at hx; simp [hx]))
      clear hrd hwr hkept hk3
      have hbt := Bool.toNat_le (K.tbit s.data.toList (i + j))
      go_wp2_with fail
      refine (put_put b _ _ o _ _ (by decide) (by decide) (by omega) (by simp; omega) (by rw [HPL.out]; omega) hwr3).mono ?_
      rintro e w4 ⟨rfl, o4, hwr4, hk4, hg4⟩
      rw [low_bit, ← HPS.out] at hwr4
      have hrd4 := hrd3.kept hk4 hap
      have hap4 := hap.grow hrd3.lt hg4
      have hfr4 := hfr.grow hg4 hkept3.size
      have hkept4 := hkept3.new hk4 hfr
      clear hrd3 hwr3 hkept3 hk4 hg4
      go_wp2_with fail
      go_roundg (n - (j + 1))
      case measure => have := Hk.out; omega
      case rel => exact ⟨j + 1, o4, by omega, rfl, by go_num, hrd4, hwr4, hap4, hkept4, hfr4⟩
    · obtain rfl : j = n := by omega
      have hh := hkept.heap HC0.out (by simp)
      have c0 : wr.cell? ⟨w.heap.size, 0, none⟩ = _ := cell_of_row wr w.heap.size 0 _ _ _ hh
      have c1 : wr.cell? ⟨w.heap.size, 1, none⟩ = _ := cell_of_row wr w.heap.size 1 _ _ _ hh
      have f0 := frozen_of_row wr w.heap.size 0 _ _ hh
      have f1 := frozen_of_row wr w.heap.size 1 _ _ hh
      simp at c0 c1
      have hkw := (HKW.out.new hkept (by simp [Fresh]))
      have HKK := Lib.hid hkw
      clear hh hkept hkw
      go_wp2_with fail
      refine (text_ok _ _ _ _ hwr).mono ?_
      rintro e w' ⟨rfl, rfl⟩
      go_wp2_with fail
      refine bodyPost_ret (v := bitsV (K.pack (K.piece (K.bitsOf s.data.toList) i j), j, 0)) (by simp [results, Try.results30, go_sem, c0, c1, bitsV]) rfl ⟨rfl, ?_⟩
      first | exact (HKK.out.setCell (.inr (Nat.le_refl _)) _).setCell (.inr (Nat.le_refl _)) _ | exact HKK.out.setCell (.inr (Nat.le_refl _)) _
end Go.Proofs.Ytickefjlkpdifaa
