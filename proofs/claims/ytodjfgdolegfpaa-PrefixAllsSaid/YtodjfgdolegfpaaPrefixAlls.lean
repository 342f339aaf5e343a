/-
  PrefixAlls: the walk.
-/
import Derived.Test.YtodjfgdolegfpaaAwakeP
import Derived.Test.YtodjfgdolegfpaaPreK
import Derived.Test.YtodjfgdolegfpaaRefB
import Derived.BigQuiet
namespace Go.Proofs.Ytodjfgdolegfpaa
open Go.RowKit
set_option linter.unusedVariables false
set_option linter.unusedSimpArgs false

theorem allP_len (ls : List Nat) (bs : List Bool) (n e : Int) : ∀ f out p, (K.allP ls bs n e f out p).1.length ≤ out.length + f := by
  intro f
  induction f with
  | zero => intro out p; simp [K.allP]
  | succ f ih =>
    intro out p
    rw [K.allP]
    split
    · split
      · simp
      · split
        · simp
        · refine Nat.le_trans (ih _ _) ?_
          simp; omega
    · simp
theorem allR_len (l : List Int) (bs : List Bool) (at_ n e : Int) : (K.allR l bs at_ n e).1.length ≤ bs.length + 1 := by
  unfold K.allR
  split
  · split
    · simp
    · refine Nat.le_trans (allP_len _ _ _ _ _ _ _) ?_
      simp
  · simp

set_option maxRecDepth 100000 in
set_option maxHeartbeats 1000000 in
theorem prefixAlls_walk (a : Option Addr) (len cap : Nat) (xs : List Int) (s : ByteArray) (i n m : Int) (w : World)
    (h : Sees w 1 a len (xs.map (Value.int .i64)) ∧ xs.length = len ∧ len ≤ cap ∧ cap ≤ maxLen ∧ len ≤ 17592186043904 ∧ ∀ x ∈ xs, -9223372036854775808 ≤ x ∧ x ≤ 9223372036854775807)
    (hs : s.size ≤ 140737488351232) (hi : -9223372036854775808 ≤ i ∧ i ≤ 9223372036854775807) (hn : -9223372036854775808 ≤ n ∧ n ≤ 9223372036854775807) (hm : -9223372036854775808 ≤ m ∧ m ≤ 9223372036854775807) :
    Calls Try.prog 6 #[.slice a len cap, .string s, .agg #[.int .i64 i, .int .i64 n, .int .i64 m]] w fun e w' => e = .returned (.bool true) ∧ Kept [] w w' := by
  obtain ⟨hsee, rfl, -, -, hlen, -⟩ := h
  have hsee : Sees w 1 a xs.length (intVals xs) := hsee
  have HS := Lib.hid hsee
  clear hsee hi hn hm
  have hkW : Kept [] w (w.alloc (.cells #[.int .i64 i, .int .i64 n, .int .i64 m] 43)) := (Kept.refl _ _).alloc _
  have hcW : (w.alloc (.cells #[.int .i64 i, .int .i64 n, .int .i64 m] 43)).heap[w.heap.size]? = some (.cells #[.int .i64 i, .int .i64 n, .int .i64 m] 43 (0, 0)) := heap_alloc_new _ _
  have hwlt : w.heap.size < (w.alloc (.cells #[.int .i64 i, .int .i64 n, .int .i64 m] 43)).heap.size := by simp
  have c0 : (w.alloc (.cells #[.int .i64 i, .int .i64 n, .int .i64 m] 43)).cell? ⟨w.heap.size, 0, none⟩ = _ := cell_of_row _ w.heap.size 0 _ _ _ hcW
  have c1 : (w.alloc (.cells #[.int .i64 i, .int .i64 n, .int .i64 m] 43)).cell? ⟨w.heap.size, 1, none⟩ = _ := cell_of_row _ w.heap.size 1 _ _ _ hcW
  have c2 : (w.alloc (.cells #[.int .i64 i, .int .i64 n, .int .i64 m] 43)).cell? ⟨w.heap.size, 2, none⟩ = _ := cell_of_row _ w.heap.size 2 _ _ _ hcW
  simp at c0 c1 c2
  by_cases h : 200 < s.size
  · have g1 : decide (200 < (s.size : Int)) = true := by simp; omega
    go_enter Try.func6, Try.ntmps6
    go_wp2_with ((go_at_call 13; refine (awakeP _).mono ?_; rintro e w' ⟨rfl, hk⟩))
    go_ret
    exact ⟨rfl, hkW.new ‹_› (by simp [Fresh])⟩
  · have g1 : decide (200 < (s.size : Int)) = false := by simp; omega
    have HW := Lib.hid hcW
    have HKW := Lib.hid hkW
    clear hcW hkW
    go_enter Try.func6, Try.ntmps6
    go_wp2_with fail
    generalize w.alloc (.cells #[.int .i64 i, .int .i64 n, .int .i64 m] 43) = W1 at HKW HW hwlt c0 c1 c2 ⊢
    refine (all_any a cap xs s i n m _ (HS.out.kept0 HKW.out) (by omega) (by omega)).mono ?_
    rintro e w1 ⟨a1, k1, rfl, hrow1, hk1, -⟩
    have hW2 := hk1.heap HW.out (by simp)
    have HK1 := Lib.hid (HKW.out.new hk1 (by simp [Fresh]))
    have HR1 := Lib.hid hrow1.seeA
    have hwlt1 : w.heap.size < w1.heap.size := by have := hk1.size; omega
    clear hk1 hrow1 c0 c1 c2 HW
    have c0 : w1.cell? ⟨w.heap.size, 0, none⟩ = _ := cell_of_row w1 w.heap.size 0 _ _ _ hW2
    have c1 : w1.cell? ⟨w.heap.size, 1, none⟩ = _ := cell_of_row w1 w.heap.size 1 _ _ _ hW2
    have c2 : w1.cell? ⟨w.heap.size, 2, none⟩ = _ := cell_of_row w1 w.heap.size 2 _ _ _ hW2
    simp at c0 c1 c2
    go_wp2_with fail
    go_region_held3 (fun w' => Kept [] w1 w' ∧ w'.cell? ⟨w.heap.size, 0, none⟩ = some (.int .i64 i) ∧ w'.cell? ⟨w.heap.size, 1, none⟩ = some (.int .i64 n) ∧ w'.cell? ⟨w.heap.size, 2, none⟩ = some (.int .i64 m))
      (first | exact ⟨Kept.refl _ _, c0, c1, c2⟩ | exact ⟨hk2, hk2.cellOf c0 (by simp), hk2.cellOf c1 (by simp), hk2.cellOf c2 (by simp)⟩ | exact ⟨hk2.drew, hk2.cellOf c0 (by simp), hk2.cellOf c1 (by simp), hk2.cellOf c2 (by simp)⟩ | exact ⟨(Kept.refl [] w1).drew, c0, c1, c2⟩ | exact ⟨hk3, hk3.cellOf c0 (by simp), hk3.cellOf c1 (by simp), hk3.cellOf c2 (by simp)⟩ | (trace_state; fail))
      (first
        | (go_at_call 18; refine (refOf_ok s _ (by omega)).mono ?_; rintro e w2 ⟨b, c, rfl, hrow, hk2, -, hc, hcm⟩; have hk2 : Kept [] w1 w2 := (Kept.refl [] w1).drew.trans hk2 (by simp))
        | (go_at_call 20; refine (rall_any a cap xs b c (8 * s.data.toList.length) (K.bitsOf s.data.toList) i n m _ (HS.out.kept0 (HK1.out.new hk2 (by simp [Fresh]))) hlen hrow.seeA (by rw [bitsOf_len, byte_len]) (by rw [byte_len]; omega) hc).mono ?_; rintro e w3 ⟨a2, k2, rfl, hrow2, hk3, -⟩; have hk3 : Kept [] w1 w3 := hk2.new hk3 (by simp [Fresh])))
    have HR4 := Lib.hid hrow2.seeA
    have HR3 := Lib.hid (HR1.out.kept0 hk3)
    have HK3 := Lib.hid (HK1.out.new hk3 (by simp [Fresh]))
    clear hk3 hk2 hc hcm c0 c1 c2 hrow hrow2
    have hll := allR_len xs (K.bitsOf s.data.toList) i n m
    rw [bitsOf_len] at hll
    generalize K.allR xs (K.bitsOf s.data.toList) i n m = R at *
    obtain ⟨T, p, er⟩ := R
    go_wp2_with fail
    have hA := HR3.out
    have hB := HR4.out
    rw [natVals_int] at hA hB
    have hl : (T.map fun n : Nat => (n : Int)).length = T.length := by simp
    rw [← hl] at hA hB
    have hcall := ints_ok a1 a2 k1 k2 _ _ _ hA hB (by rw [hl]; have : T.length ≤ 8 * s.size + 1 := hll; omega)
    rw [hl] at hcall
    refine hcall.mono ?_
    rintro e w4 ⟨rfl, hk4⟩
    have HK4 := Lib.hid (HK3.out.new hk4 (by simp [Fresh]))
    clear hk4 hA hB hl hcall
    simp only [decide_true]
    go_wp2_with ((go_at_call 13; refine (awakeP _).mono ?_; rintro e w' ⟨rfl, hk⟩))
    go_ret
    exact ⟨rfl, HK4.out.new (by assumption) (by simp [Fresh])⟩
end Go.Proofs.Ytodjfgdolegfpaa
