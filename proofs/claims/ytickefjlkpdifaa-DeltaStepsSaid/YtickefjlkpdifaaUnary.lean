/-
  The walk of Unary (layer 1).
-/
import Derived.Test.YtickefjlkpdifaaReader
namespace Go.Proofs.Ytickefjlkpdifaa
open Go.RowKit
set_option linter.unusedVariables false
set_option linter.unusedSimpArgs false

theorem unary_arg (r q : Nat) (s : ByteArray) (i : Nat) (n : Int) (w : World) (h : Rd w r q s i) (hn : n < 0) :
    Calls Try.prog 24 #[.pointer (some ⟨r, 0, none⟩), .int .i64 n] w fun e w' => e = .returned (.tuple #[.int .i64 0, .int .i64 2]) ∧ w = w' := by
  have c0 : w.cell? ⟨r, 0, none⟩ = some (.func (.func 40) #[] #[.pointer (some ⟨q, 0, none⟩)]) := cell_of_row w r 0 _ _ _ h.1
  clear h
  have hfn := eqFn #[.pointer (some ⟨q, 0, none⟩)] w
  have g1 : decide (n < 0) = true := by simpa using hn
  go_enter Try.func24, Try.ntmps24
  go_wp2
  go_ret2
  exact ⟨rfl, rfl⟩

/-- In Unary's loop: j 1 bits are passed. -/
def UnI (w : World) (s : ByteArray) (i : Nat) (most : Int) (k : Nat) (c : Value) (wr : World) : Prop :=
  ∃ j m, i + j ≤ 8 * s.size ∧ k = 8 * s.size - i - j ∧ c = .int .i64 j ∧ wr = w.drewN m ∧ K.unary most 0 ((K.bitsOf s.data.toList).drop i) = K.unary most j ((K.bitsOf s.data.toList).drop (i + j))

/-- What Unary leaves. -/
def UnPost (r q : Nat) (s : ByteArray) (i : Nat) (w : World) (p : Nat × Nat) (e : Ending) (w' : World) : Prop :=
  e = .returned (.tuple #[.int .i64 p.1, .int .i64 p.2]) ∧ Rd w' r q s (if p.2 = 0 then i + p.1 + 1 else i) ∧ Kept [r] w w'

set_option maxHeartbeats 400000 in
theorem unary_ok (r q : Nat) (s : ByteArray) (i : Nat) (most : Int) (w : World) (h : Rd w r q s i) (hs : s.size ≤ 1125899906842624) (hi : i ≤ 8 * s.size) (h0 : 0 ≤ most) :
    Calls Try.prog 24 #[.pointer (some ⟨r, 0, none⟩), .int .i64 most] w (UnPost r q s i w (K.unary most 0 ((K.bitsOf s.data.toList).drop i))) := by
  have c0 : w.cell? ⟨r, 0, none⟩ = some (.func (.func 40) #[] #[.pointer (some ⟨q, 0, none⟩)]) := cell_of_row w r 0 _ _ _ h.1
  have c1 : w.cell? ⟨r, 1, none⟩ = some (.int .i64 i) := cell_of_row w r 1 _ _ _ h.1
  have c2 : w.cell? ⟨r, 2, none⟩ = some (.int .i64 (8 * s.size : Nat)) := cell_of_row w r 2 _ _ _ h.1
  have cq : w.cell? ⟨q, 0, none⟩ = some (.string s) := cell_of_row w q 0 _ _ _ h.2.1
  have f1 := frozen_of_row w r 1 _ _ h.1
  have H := Lib.hid h
  clear h
  have hfn := eqFn #[.pointer (some ⟨q, 0, none⟩)] w
  have hsz : s.data.toList.length = s.size := by simp only [Array.length_toList]; rfl
  have HS := Lib.hid hsz
  clear hsz
  go_enter Try.func24, Try.ntmps24
  go_wp2
  go_loopg [6] (8 * s.size - i) (fun k c wr => UnI w s i most k c wr)
  case atStart => exact ⟨0, 0, by omega, by omega, rfl, rfl, rfl⟩
  case round =>
    obtain ⟨j, m, hj, hk, rfl, rfl, hu⟩ := hrel
    have Hk := Lib.hid hk
    have Hu := Lib.hid hu
    clear hk hu
    have w1 : IntKind.i64.wrap ((i : Int) + j) = (i : Int) + j := IntWalk.i64_in _ (by omega)
    by_cases hlt : i + j < 8 * s.size
    · have t1 : (i : Int) + j < 8 * (s.size : Int) := by omega
      go_wp2
      go_quiet (fail)
      go_wp2
      by_cases hb : K.tbit s.data.toList (i + j) = true
      · have e0 : (((K.tbit s.data.toList (i + j)).toNat : Int) == 0) = false := by rw [hb]; rfl
        have hone := K.unary_one most j (i + j) s.data.toList (by rw [HS.out]; exact hlt) hb
        rw [← Hu.out] at hone
        have Ho := Lib.hid hone
        clear hone hb
        by_cases hm : (j : Int) = most
        · subst hm
          go_quiet ((go_at_call 40; exact quietly_add (bit_at s (i + j) q _ _ (by omega) hs (by omega) cq)))
          go_wp2
          go_ret2
          have := Ho.out
          simp only [if_true] at this
          rw [this]
          exact ⟨rfl, H.out, (Kept.refl _ _).drewN _⟩
        · have e1 : ((j : Int) == most) = false := by simpa using hm
          go_quiet ((go_at_call 40; exact quietly_add (bit_at s (i + j) q _ _ (by omega) hs (by omega) cq)))
          go_wp2
          go_roundg (8 * s.size - i - (j + 1))
          case measure => have := Hk.out; omega
          case rel => exact ⟨j + 1, _, by omega, rfl, by go_num, rfl, by have := Ho.out; rw [if_neg hm] at this; exact this⟩
      · have hb : K.tbit s.data.toList (i + j) = false := by simpa using hb
        have e0 : (((K.tbit s.data.toList (i + j)).toNat : Int) == 0) = true := by rw [hb]; rfl
        have hone := K.unary_zero most j (i + j) s.data.toList (by rw [HS.out]; exact hlt) hb
        rw [← Hu.out] at hone
        have Ho := Lib.hid hone
        clear hone hb
        go_quiet ((go_at_call 40; exact quietly_add (bit_at s (i + j) q _ _ (by omega) hs (by omega) cq)))
        go_wp2
        go_ret2
        rw [Ho.out]
        obtain ⟨h1, h2, h3⟩ := H.out
        refine ⟨rfl, ⟨?_, ?_, h3⟩, ?_⟩
        · have e : Value.int .i64 ((i : Int) + (j + 1)) = .int .i64 ((i + j + 1 : Nat) : Int) := by first | go_num | (congr 1; omega)
          rw [e]
          exact heap_setCell_same (w.drewN _) r 1 _ _ (.int .i64 ((i + j + 1 : Nat) : Int)) h1
        · exact (heap_setCell_other (w.drewN _) ⟨r, 1, none⟩ q _ (fun h => h3 h.symm)).trans h2
        · exact ((Kept.refl _ _).drewN _).setCell (by simp) _
    · have t1 : 8 * (s.size : Int) ≤ (i : Int) + j := by omega
      have hone := K.unary_end most j (i + j) s.data.toList (by rw [HS.out]; omega)
      rw [← Hu.out] at hone
      have Ho := Lib.hid hone
      clear hone
      go_wp2
      go_quiet (fail)
      go_wp2
      go_ret2
      rw [Ho.out]
      exact ⟨rfl, H.out, ((Kept.refl _ _).drewN _).drewN _⟩
end Go.Proofs.Ytickefjlkpdifaa
