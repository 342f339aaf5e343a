/-
  The walk of symbols' Show.
-/
import Derived.Test.YtkkjhkjgdpodeaaLibF
import Derived.Test.YtkkjhkjgdpodeaaSymB
import Derived.Test.YtkkjhkjgdpodeaaSlice
namespace Go.Proofs.Ytkkjhkjgdpodeaa
open Go.RowKit
set_option linter.unusedVariables false
set_option linter.unusedSimpArgs false

theorem Try.aggU64 (w : World) : (isAgg 55).run Try.prog w = .ok false w := by kernel_rfl
theorem Try.sizeU64 : (Try.prog.info? 55).map (·.size) = some 1 := by kernel_rfl
theorem Try.sizeRows : (Try.prog.info? 56).map (·.size) = some 16 := by kernel_rfl
/-- The rows' numbers. -/
def rowVals (l : List UInt8) : List Value := (List.range 16).map fun i => .int .u64 (K.rowNum l i : Nat)
theorem rowVals_length (l : List UInt8) : (rowVals l).length = 16 := by simp [rowVals]
theorem rowVals_get (l : List UInt8) (i : Nat) (h : i < 16) : (rowVals l)[i]? = some (.int .u64 (K.rowNum l i : Nat)) := by simp [rowVals, List.getElem?_range h]
theorem rowVals_nil : #[Value.int .u64 0, .int .u64 0, .int .u64 0, .int .u64 0, .int .u64 0, .int .u64 0, .int .u64 0, .int .u64 0, .int .u64 0, .int .u64 0, .int .u64 0, .int .u64 0, .int .u64 0, .int .u64 0, .int .u64 0, .int .u64 0] = (rowVals []).toArray := by
  have : ∀ i, K.rowNum [] i = 0 := fun i => (K.rowNum_zero [] i).2 (by simp [K.rowUsed, K.has])
  simp [rowVals, this, List.range, List.range.loop]
theorem rowVals_snoc (l : List UInt8) (b : UInt8) : (rowVals l).set (b.toNat / 16) (.int .u64 ((K.rowNum l (b.toNat / 16) ||| 2 ^ (15 - b.toNat % 16) : Nat) : Int)) = rowVals (l ++ [b]) := by
  have hb := UInt8.toNat_lt b
  apply List.ext_getElem?
  intro i
  rw [List.getElem?_set]
  by_cases hi : i < 16
  · rw [rowVals_get _ _ hi, rowVals_get _ _ hi, rowVals_length]
    by_cases hbi : b.toNat / 16 = i
    · rw [if_pos hbi, if_pos (by omega), ← hbi, K.rowNum_snoc]
    · rw [if_neg hbi, K.rowNum_other l b i hi (fun h => hbi h.symm)]
  · rw [List.getElem?_eq_none (by rw [rowVals_length]; omega), List.getElem?_eq_none (by rw [rowVals_length]; omega), if_neg (by omega)]
theorem row_index (l : List UInt8) (i : Nat) (h : i < 16) (w : World) : (Instr.index 56 (.agg (rowVals l).toArray) (.int .i64 i)).run Try.prog w = .ok (.int .u64 (K.rowNum l i : Nat)) w :=
  run_index_arr 56 55 16 (rowVals l) .i64 i _ w Try.underlying56 Try.sizeU64 (Try.aggU64 w) (rowVals_length l) (rowVals_get l i h)
theorem u8_low4 (x : Nat) (h : x < 256) : bits BinOp.and IntKind.u8 ((x : Nat) : Int) 15 = ((x % 16 : Nat) : Int) := by
  have := u8_and_nat x 15 h (by decide)
  rw [show ((15 : Nat) : Int) = 15 from rfl] at this
  rw [this, show (15 : Nat) = 2 ^ 4 - 1 from rfl, Nat.and_two_pow_sub_one_eq_mod]

theorem u64_or_pow (N t : Nat) (h : N < 18446744073709551616) (ht : t ≤ 63) : bits BinOp.or IntKind.u64 (N : Int) (IntKind.u64.wrap (2 ^ t)) = ((N ||| 2 ^ t : Nat) : Int) := by
  have hp : (2 : Nat) ^ t ≤ 2 ^ 63 := Nat.pow_le_pow_right (by decide) ht
  rw [show ((2 : Int) ^ t) = ((2 ^ t : Nat) : Int) by norm_cast]
  generalize (2 : Nat) ^ t = p at hp
  have hw : IntKind.u64.wrap (p : Int) = (p : Int) := by rw [IntKind.wrap_u64]; omega
  rw [hw]
  exact u64_or_nat N p h (by omega)

/-- In Show's first loop: i bytes stand in their rows. -/
def SShA (s : ByteArray) (w0 : World) (g : Nat) (k : Nat) (c : Value) (w : World) : Prop :=
  ∃ i, i ≤ s.size ∧ k = s.size - i ∧ c = .int .i64 (i : Nat) ∧ Arr w g 56 (rowVals (s.data.toList.take i)) ∧ Kept [] w0 w
/-- In its second: of i rows it is said whether there are any. -/
def SShB (l : List UInt8) (w0 : World) (k : Nat) (a c : Value) (w : World) : Prop :=
  ∃ i, i ≤ 16 ∧ k = 16 - i ∧ c = .int .i64 (i : Nat) ∧ a = .int .u64 (K.headNum l i : Nat) ∧ w0 = w
/-- In its third: i rows are told. -/
def SShC (l : List UInt8) (w0 : World) (b : Nat) (k : Nat) (c : Value) (w : World) : Prop :=
  ∃ i o, i ≤ 16 ∧ k = 16 - i ∧ c = .int .i64 (i : Nat) ∧ Wr w b o (K.headBits l ++ K.rowsBits l i) ∧ Kept [] w0 w ∧ Fresh w0.heap.size (b :: foot o)

set_option maxHeartbeats 1000000 in
theorem sshow_any (s : ByteArray) (w : World) (hs : s.size ≤ 1000000000) :
    Calls Try.prog 16 #[.string s] w fun e w' => e = .returned (bitsV (K.symR s.data.toList)) ∧ Kept [] w w' := by
  go_enter Try.func16, Try.ntmps16
  go_wp2_with fail
  have hc0 : (w.alloc (.cells #[.string ⟨#[]⟩, .int .i64 0] 34)).heap[w.heap.size]? = some (.cells #[.string ⟨#[]⟩, .int .i64 0] 34 (0, 0)) := heap_alloc_new _ _
  have hkW : Kept [] w (w.alloc (.cells #[.string ⟨#[]⟩, .int .i64 0] 34)) := (Kept.refl _ _).alloc _
  generalize w.alloc (.cells #[.string ⟨#[]⟩, .int .i64 0] 34) = W0 at hc0 hkW ⊢
  refine (smay_any s _ (by omega)).mono ?_
  rintro e w1 ⟨rfl, hk1⟩
  have HC0 := Lib.hid hc0
  have HKW := Lib.hid hkW
  have HK1 := Lib.hid hk1
  clear hc0 hkW hk1
  rcases Bool.eq_false_or_eq_true (K.mayS s.data.toList) with hm | hm
  · have hR : K.symR s.data.toList = (K.pack (K.symBits s.data.toList), (((K.symBits s.data.toList).length : Nat) : Int), 0) := by unfold K.symR; rw [hm]; rfl
    have HR := Lib.hid hR
    rw [hm]
    clear hR hm
    go_wp2_with fail
    rw [rowVals_nil]
    have harr := Arr.new w1 (rowVals []) 56
    have hkA : Kept [] W0 (w1.alloc (.cells (rowVals []).toArray 56)) := HK1.out.alloc _
    have hgz : W0.heap.size ≤ w1.heap.size := HK1.out.size
    generalize w1.alloc (.cells (rowVals []).toArray 56) = W1 at harr hkA ⊢
    obtain ⟨g, hg⟩ : ∃ g, w1.heap.size = g := ⟨_, rfl⟩
    rw [hg] at harr hgz ⊢
    clear hg
    go_loopg [18] s.size (fun k c wr => SShA s W0 g k c wr)
    case atStart => exact ⟨0, by omega, by omega, rfl, harr, hkA⟩
    case round =>
      obtain ⟨i, hi, hk, rfl, harr, hkept⟩ := hrel
      have Hk := Lib.hid hk
      have HKE := Lib.hid hkept
      clear hk hkept hkA
      by_cases hlt : i < s.size
      · have hli : (i : Int) < (s.size : Int) := by omega
        have hx := UInt8.toNat_lt (s[i]'hlt)
        obtain ⟨r, hr⟩ : ∃ r, (s[i]'hlt).toNat % 16 = r := ⟨_, rfl⟩
        obtain ⟨q, hq⟩ : ∃ q, (s[i]'hlt).toNat / 16 = q := ⟨_, rfl⟩
        obtain ⟨t, ht⟩ : ∃ t, 15 - r = t := ⟨_, rfl⟩
        have hand : bits BinOp.and IntKind.u8 (((s[i]'hlt).toNat : Nat) : Int) 15 = (r : Int) := by rw [u8_low4 _ hx, hr]
        have hdiv : (((s[i]'hlt).toNat : Nat) : Int) / 16 = (q : Int) := by omega
        have hsub : (15 - (r : Int)) % 256 = (t : Int) := by omega
        have hq16 : q < 16 := by omega
        have hq16i : (q : Int) < 16 := by omega
        have ht15 : t ≤ 15 := by omega
        obtain ⟨N, hN⟩ : ∃ N, K.rowNum (s.data.toList.take i) q = N := ⟨_, rfl⟩
        have c0 := harr.cell (rowVals_get _ q hq16)
        rw [hN] at c0
        have f0 := harr.free q
        have hN2 : N < 65536 := by rw [← hN]; exact K.rowNum_lt _ _
        have hpow : (2 : Nat) ^ t ≤ 2 ^ 15 := Nat.pow_le_pow_right (by decide) ht15
        have hor : bits BinOp.or IntKind.u64 (N : Int) (IntKind.u64.wrap (2 ^ t)) = ((N ||| 2 ^ t : Nat) : Int) := u64_or_pow N t (by omega) (by omega)
        have harr2 := harr.set q (.int .u64 ((N ||| 2 ^ t : Nat) : Int))
        have hsn := rowVals_snoc (s.data.toList.take i) (s[i]'hlt)
        rw [← byte_take s i hlt, hq, hN, hr, ht] at hsn
        rw [hsn] at harr2
        have HA2 := Lib.hid harr2
        have HOR := Lib.hid hor
        clear hr hq ht hsn harr harr2 hN hpow hor
        go_wp2_with fail
        go_region
        go_wp2_with fail
        go_roundg (s.size - (i + 1))
        case measure => have := Hk.out; omega
        case rel =>
          refine ⟨i + 1, by omega, rfl, by go_num, ?_, ?_⟩
          · have := HA2.out
            rw [← HOR.out] at this
            exact this
          · exact (HKE.out.setCell (.inr hgz) _).drew
      · obtain rfl : i = s.size := by omega
        rw [List.take_of_length_le (by rw [byte_len]; exact Nat.le_refl _)] at harr
        have HA := Lib.hid harr
        clear harr
        go_wp2_with fail
        refine (newWriter_new _).mono ?_
        rintro e w2 ⟨b, rfl, hw2, hk2, hb2⟩
        have HA2 := Lib.hid (HA.out.kept hk2 (by simp))
        have HW2 := Lib.hid hw2
        have HK2 := Lib.hid (HKE.out.new hk2 (by simp [Fresh]))
        have HB2 := Lib.hid (hb2.mono HKE.out.size)
        have HGB := Lib.hid (show g ∉ b :: foot (.slice none 0 0) from fun hm => by have h1 := HA.out.lt; have := hb2 g hm; omega)
        clear hw2 hk2 hb2
        go_wp2_with (refine wpList_load_row rfl 56 _ rfl g rfl _ _ _ _ HA2.out Try.underlying56 rfl (by rw [Try.sizeRows]; simp [rowVals_length]) ?_)
        go_loopg [7, 38] 16 (fun k a c wr => SShB s.data.toList w2 k a c wr)
        case atStart => exact ⟨0, by omega, by omega, rfl, by rw [K.headNum_zero]; rfl, rfl⟩
        case round =>
          obtain ⟨i, hi, hk, rfl, rfl, rfl⟩ := hrel
          have Hk2 := Lib.hid hk
          have hidx : i < 16 → ∀ W, (Instr.index 56 (.agg (rowVals s.data.toList).toArray) (.int .i64 i)).run Try.prog W = .ok (.int .u64 (K.rowNum s.data.toList i : Nat)) W := fun h W => row_index _ i h W
          have HIDX := Lib.hid hidx
          clear hk hidx
          by_cases hlt2 : i < 16
          · have hidx := HIDX.out hlt2
            obtain ⟨N, hN⟩ : ∃ N, K.rowNum s.data.toList i = N := ⟨_, rfl⟩
            rw [hN] at hidx
            have hhl := K.headNum_lt s.data.toList i
            have hz := K.rowNum_zero s.data.toList i
            rw [hN] at hz
            have HZ := Lib.hid hz
            have hsub : IntKind.i64.wrap (15 - (i : Int)) = 15 - (i : Int) := IntWalk.i64_in _ (by omega)
            have hli : (i : Int) < 16 := by omega
            clear hN hz
            rcases Nat.eq_zero_or_pos N with h0 | h0
            · have hno := K.headNum_no s.data.toList i (HZ.out.1 h0)
              subst h0
              have HNO := Lib.hid hno
              clear hno hhl
              go_wp2_with fail
              go_roundg (16 - (i + 1))
              case measure => have := Hk2.out; omega
              case rel => exact ⟨i + 1, by omega, rfl, by go_num, by rw [HNO.out], rfl⟩
            · have hyes := K.headNum_yes s.data.toList i hlt2 (by
                rcases Bool.eq_false_or_eq_true (K.rowUsed s.data.toList i) with h | h
                · exact h
                · have := HZ.out.2 h; omega)
              have hne : ((N : Int) != 0) = true := bne_iff_ne.2 (by omega)
              have hu : IntKind.u64.wrap (15 - (i : Int)) = ((15 - i : Nat) : Int) := by rw [IntKind.wrap_u64]; omega
              obtain ⟨t, ht⟩ : ∃ t, 15 - i = t := ⟨_, rfl⟩
              rw [ht] at hu hyes
              have ht15 : t ≤ 15 := by omega
              have hor := u64_or_pow (K.headNum s.data.toList i) t (by omega) (by omega)
              rw [← hyes] at hor
              have HY := Lib.hid hor
              clear hyes ht hor
              generalize K.headNum s.data.toList i = H at hhl HY
              go_wp2_with fail
              go_roundg (16 - (i + 1))
              case measure => have := Hk2.out; omega
              case rel => exact ⟨i + 1, by omega, rfl, by go_num, by rw [← HY.out], rfl⟩
          · obtain rfl : i = 16 := by omega
            have hhl := K.headNum_lt s.data.toList 16
            have HHL := Lib.hid (K.headNum_low s.data.toList)
            obtain ⟨H, hH⟩ : ∃ H, K.headNum s.data.toList 16 = H := ⟨_, rfl⟩
            rw [hH] at hhl HHL ⊢
            clear hH
            go_wp2_with fail
            refine (put_put b H 16 _ _ _ (by decide) (by decide) (by omega) (by simp; omega) (by simp) HW2.out).mono ?_
            rintro e w3 ⟨rfl, o3, hw3, hk3, hg3⟩
            have hw3 : Wr w3 b o3 (K.headBits s.data.toList) := by have := hw3; rw [Int.toNat_natCast, show (16 : Int).toNat = 16 from rfl, HHL.out] at this; exact this
            have hke3 := HK2.out.new hk3 HB2.out
            have hfr3 := HB2.out.grow hg3 HK2.out.size
            have HA3 := Lib.hid (HA2.out.kept hk3 HGB.out)
            have HW3 := Lib.hid hw3
            have HKE3 := Lib.hid hke3
            have HFR3 := Lib.hid hfr3
            clear hw3 hk3 hg3 hke3 hfr3
            go_wp2_with (refine wpList_load_row rfl 56 _ rfl g rfl _ _ _ _ HA3.out Try.underlying56 rfl (by rw [Try.sizeRows]; simp [rowVals_length]) ?_)
            go_loopg [55] 16 (fun k c wr => SShC s.data.toList W0 b k c wr)
            case atStart => exact ⟨0, o3, by omega, by omega, rfl, by simpa [K.rowsBits_zero] using HW3.out, HKE3.out, HFR3.out⟩
            case round =>
              obtain ⟨i, o, hi, hk, rfl, hwr, hkept, hfr⟩ := hrel
              have Hk3 := Lib.hid hk
              have HWR := Lib.hid hwr
              have HKE4 := Lib.hid hkept
              have HFR4 := Lib.hid hfr
              clear hk hwr hkept hfr
              by_cases hlt3 : i < 16
              · have hidx := fun W => row_index s.data.toList i hlt3 W
                obtain ⟨N, hN⟩ : ∃ N, K.rowNum s.data.toList i = N := ⟨_, rfl⟩
                rw [hN] at hidx
                have hNl := K.rowNum_lt s.data.toList i
                have hlow := K.rowNum_low s.data.toList i
                have hz := K.rowNum_zero s.data.toList i
                rw [hN] at hz hlow hNl
                have HZ := Lib.hid hz
                have HLW := Lib.hid hlow
                have hli : (i : Int) < 16 := by omega
                have hrl := K.rowsBits_length s.data.toList i
                have hhd := K.headBits_length s.data.toList
                have HBL := Lib.hid (show (K.headBits s.data.toList ++ K.rowsBits s.data.toList i).length ≤ 1000000000000 by rw [List.length_append]; omega)
                clear hN hz hlow hrl hhd
                rcases Nat.eq_zero_or_pos N with h0 | h0
                · have hno := K.rowsBits_no s.data.toList i (HZ.out.1 h0)
                  subst h0
                  have HNO := Lib.hid hno
                  clear hno
                  go_wp2_with fail
                  go_roundg (16 - (i + 1))
                  case measure => have := Hk3.out; omega
                  case rel => exact ⟨i + 1, o, by omega, rfl, by go_num, by rw [HNO.out]; exact HWR.out, HKE4.out, HFR4.out⟩
                · have hyes := K.rowsBits_yes s.data.toList i (by
                    rcases Bool.eq_false_or_eq_true (K.rowUsed s.data.toList i) with h | h
                    · exact h
                    · have := HZ.out.2 h; omega)
                  have hne : ((N : Int) != 0) = true := bne_iff_ne.2 (by omega)
                  have HY := Lib.hid hyes
                  clear hyes
                  go_wp2_with fail
                  refine (put_put b N 16 _ _ _ (by decide) (by decide) (by omega) (by simp; omega) HBL.out HWR.out).mono ?_
                  rintro e w5 ⟨rfl, o5, hw5, hk5, hg5⟩
                  have hw5 : Wr w5 b o5 (K.headBits s.data.toList ++ K.rowsBits s.data.toList (i + 1)) := by
                    have := hw5
                    rw [Int.toNat_natCast, show (16 : Int).toNat = 16 from rfl, HLW.out, List.append_assoc, ← HY.out] at this
                    exact this
                  have hke5 := HKE4.out.new hk5 HFR4.out
                  have hfr5 := HFR4.out.grow hg5 HKE4.out.size
                  clear hk5 hg5
                  go_wp2_with fail
                  go_roundg (16 - (i + 1))
                  case measure => have := Hk3.out; omega
                  case rel => exact ⟨i + 1, o5, by omega, rfl, by go_num, hw5, hke5, hfr5⟩
              · obtain rfl : i = 16 := by omega
                have hwr : Wr wr b o (K.symBits s.data.toList) := HWR.out
                have hh := HKE4.out.heap HC0.out (by simp)
                have d0 : wr.cell? ⟨w.heap.size, 0, none⟩ = _ := cell_of_row wr w.heap.size 0 _ _ _ hh
                have d1 : wr.cell? ⟨w.heap.size, 1, none⟩ = _ := cell_of_row wr w.heap.size 1 _ _ _ hh
                have f0 := frozen_of_row wr w.heap.size 0 _ _ hh
                have f1 := frozen_of_row wr w.heap.size 1 _ _ hh
                simp at d0 d1
                have HKK := Lib.hid (HKW.out.new HKE4.out (by simp [Fresh]))
                clear hh
                go_wp2_with fail
                refine (text_ok _ _ _ _ hwr).mono ?_
                rintro e w' ⟨rfl, rfl⟩
                go_wp2_with fail
                refine (len_ok _ _ _ _ hwr).mono ?_
                rintro e w' ⟨rfl, rfl⟩
                go_wp2_with fail
                rw [HR.out]
                refine bodyPost_ret (v := bitsV (K.pack (K.symBits s.data.toList), (((K.symBits s.data.toList).length : Nat) : Int), 0)) (by simp [results, Try.results16, go_sem, d0, d1, bitsV]) rfl ⟨rfl, ?_⟩
                exact (HKK.out.setCell (.inr (Nat.le_refl _)) _).setCell (.inr (Nat.le_refl _)) _
  · have hR : K.symR s.data.toList = ([], 0, 2) := by unfold K.symR; rw [hm]; rfl
    have HR := Lib.hid hR
    rw [hm]
    clear hR hm
    have hh := HK1.out.heap HC0.out (by simp)
    have d0 : w1.cell? ⟨w.heap.size, 0, none⟩ = _ := cell_of_row w1 w.heap.size 0 _ _ _ hh
    have d1 : w1.cell? ⟨w.heap.size, 1, none⟩ = _ := cell_of_row w1 w.heap.size 1 _ _ _ hh
    have f0 := frozen_of_row w1 w.heap.size 0 _ _ hh
    have f1 := frozen_of_row w1 w.heap.size 1 _ _ hh
    simp at d0 d1
    have HKK := Lib.hid (HKW.out.new HK1.out (by simp [Fresh]))
    clear hh
    go_wp2_with fail
    rw [HR.out]
    refine bodyPost_ret (v := bitsV ([], 0, 2)) (by simp [results, Try.results16, go_sem, d0, d1, bitsV]) rfl ⟨rfl, ?_⟩
    exact (HKK.out.setCell (.inr (Nat.le_refl _)) _).setCell (.inr (Nat.le_refl _)) _
end Go.Proofs.Ytkkjhkjgdpodeaa
