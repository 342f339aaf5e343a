/-
  DeltaSteps: the walk.
-/
import Derived.Test.YtickefjlkpdifaaAwakeD
import Derived.Test.YtickefjlkpdifaaPlainL
import Derived.Test.YtickefjlkpdifaaPlainJ
import Derived.Test.YtickefjlkpdifaaDeltaTakes
import Derived.Deep.RegionHeld3
namespace Go.Proofs.Ytickefjlkpdifaa
open Go.RowKit
set_option linter.unusedVariables false
set_option linter.unusedSimpArgs false

/-- Bits as bytes 0 and 1. -/
def bys (l : List Bool) : List Value := l.map fun b => .int .u8 (b.toNat : Nat)
theorem bys_length (l : List Bool) : (bys l).length = l.length := by simp [bys]
theorem bys_append (a b : List Bool) : bys (a ++ b) = bys a ++ bys b := by simp [bys]
/-- The bits that stand in the list when i are moved. -/
def movedBits (bs : List Bool) (i : Nat) : List Bool := if i ≤ 5 then bs.take i else bs.take 5 ++ ([true, false, true, true] ++ (bs.drop 5).take (i - 5))
theorem moved_all (bs : List Bool) (h : 5 < bs.length) : movedBits bs bs.length = K.moreBits bs := by
  unfold movedBits K.moreBits
  rw [if_neg (by omega), List.take_of_length_le (l := bs.drop 5) (by rw [List.length_drop]; omega)]
theorem moved_five (bs : List Bool) (b : Bool) (h : bs[5]? = some b) : movedBits bs 6 = movedBits bs 5 ++ [true, false, true, true] ++ [b] := by
  unfold movedBits
  rw [if_neg (by omega), if_pos (by omega)]
  have e : (bs.drop 5).take (6 - 5) = [b] := by
    rw [show 6 - 5 = 0 + 1 from rfl, List.take_add_one, List.getElem?_drop, h]
    rfl
  rw [e]
  simp
theorem moved_next (bs : List Bool) (i : Nat) (b : Bool) (h : bs[i]? = some b) (h5 : i ≠ 5) : movedBits bs (i + 1) = movedBits bs i ++ [b] := by
  unfold movedBits
  by_cases hi : i + 1 ≤ 5
  · rw [if_pos hi, if_pos (by omega), List.take_add_one, h]; rfl
  · rw [if_neg hi, if_neg (by omega)]
    have e : (bs.drop 5).take (i + 1 - 5) = (bs.drop 5).take (i - 5) ++ [b] := by
      rw [show i + 1 - 5 = (i - 5) + 1 by omega, List.take_add_one, List.getElem?_drop, show 5 + (i - 5) = i by omega, h]
      rfl
    rw [e]
    simp
theorem moved_len (bs : List Bool) (i : Nat) : (movedBits bs i).length ≤ bs.length + 4 := by
  unfold movedBits
  split
  · rw [List.length_take]; omega
  · simp only [List.length_append, List.length_take, List.length_drop, List.length_cons, List.length_nil]; omega

theorem and_one_u8 : ∀ x : Fin 256, bits BinOp.and IntKind.u8 ((x.val : Nat) : Int) 1 = ((x.val % 2 : Nat) : Int) := by decide +kernel
theorem or_u8 : ∀ (x : Fin 256) (r : Fin 8) (b : Bool), bits BinOp.or IntKind.u8 (((x.val : Nat) : Int) % 256) ((b.toNat : Int) * 2 ^ (7 - r.val) % 256) = (((UInt8.ofNat (x.val ||| b.toNat * (128 / 2 ^ r.val))).toNat : Nat) : Int) := by decide +kernel
theorem byte_bit (S : ByteArray) (bs : List Bool) (hS : S.data.toList = K.pack bs) (i : Nat) (b : Bool) (hb : bs[i]? = some b) (h8 : i / 8 < S.size) :
    bits BinOp.and IntKind.u8 (((S[i / 8]'h8).toNat : Int) / 2 ^ (7 - i % 8)) 1 = (b.toNat : Nat) := by
  obtain ⟨hi, -⟩ := List.getElem?_eq_some_iff.1 hb
  have ht := K.tbit_pack bs i (by rw [K.pack_length]; omega)
  rw [List.getD_eq_getElem?_getD, hb, Option.getD_some] at ht
  have e2 : (K.pack bs).getD (i / 8) 0 = S[i / 8]'h8 := by
    rw [← hS]
    have : i / 8 < S.data.toList.length := by rw [toList_length]; exact h8
    rw [List.getD, List.getElem?_eq_getElem this]; rfl
  have hlt : ((S[i / 8]'h8).toNat : Nat) < 256 := (S[i / 8]'h8).toNat_lt
  unfold K.tbit at ht
  rw [e2] at ht
  rw [show ((S[i / 8]'h8).toNat : Int) / 2 ^ (7 - i % 8) = (((S[i / 8]'h8).toNat / 2 ^ (7 - i % 8) : Nat) : Int) by norm_cast]
  have := and_one_u8 ⟨(S[i / 8]'h8).toNat / 2 ^ (7 - i % 8), by have := Nat.div_le_self (S[i / 8]'h8).toNat (2 ^ (7 - i % 8)); omega⟩
  simp only at this
  rw [this, ← ht, K.testBit_div]

/-- In the first loop: i bits are moved. -/
def DStepsA (w0 : World) (bs : List Bool) (k : Nat) (v c : Value) (w : World) : Prop :=
  ∃ i, i ≤ bs.length ∧ k = bs.length - i ∧ c = .int .i64 (i : Nat) ∧ Row w 5 v (bys (movedBits bs i)) ∧ Kept [] w0 w ∧ Fresh w0.heap.size (foot v)

theorem Row.cellOf {w : World} {e : TypeId} {g n c : Nat} {xs : List Value} (h : Row w e (.slice (some ⟨g, 0, none⟩) n c) xs) (i : Nat) (u : Value) (hu : xs[i]? = some u) : w.cell? ⟨g, i, none⟩ = some u := by
  obtain ⟨b, off, he, hc⟩ := h.see.1.2 i u hu
  injection he with he
  injection he with h1 h2
  subst h1 h2
  rw [Nat.zero_add] at hc
  exact hc
/-- In the second loop: i bits are laid. -/
def DStepsB (w0 : World) (mb : List Bool) (T g : Nat) (k : Nat) (c : Value) (w : World) : Prop :=
  ∃ i, i ≤ mb.length ∧ k = mb.length - i ∧ c = .int .i64 (i : Nat) ∧ Row w 5 (.slice (some ⟨g, 0, none⟩) T T) (u8s (K.laid mb T i)) ∧ Kept [g] w0 w

set_option maxRecDepth 100000 in
set_option maxHeartbeats 1000000 in
theorem deltaSteps_walk (a : Option Addr) (len cap : Nat) (xs : List Int) (at_ : Int) (w : World)
    (h : Sees w 1 a len (xs.map (Value.int .i64)) ∧ xs.length = len ∧ len ≤ cap ∧ cap ≤ maxLen ∧ len ≤ 140737488351232 ∧ ∀ x ∈ xs, -9223372036854775808 ≤ x ∧ x ≤ 9223372036854775807)
    (hat : -9223372036854775808 ≤ at_ ∧ at_ ≤ 9223372036854775807) :
    Calls Try.prog 14 #[.slice a len cap, .int .i64 at_] w fun e w' => e = .returned (.bool true) ∧ Kept [] w w' := by
  obtain ⟨h, rfl, -, -, hlen, -⟩ := h
  have h : Sees w 1 a xs.length (intVals xs) := h
  have HS := Lib.hid h
  clear h hat
  go_enter Try.func14, Try.ntmps14
  go_wp2_with fail
  refine (dshow_any a cap xs _ HS.out hlen).mono ?_
  rintro e w1 ⟨rfl, hk1⟩
  have HK1 := Lib.hid hk1
  clear hk1
  rcases Bool.eq_false_or_eq_true (K.lensOk xs) with hok | hok
  · have hsr : K.showR xs = (K.pack (K.showBits xs), (((K.showBits xs).length : Nat) : Int), 0) := by unfold K.showR; rw [hok]; rfl
    rw [hsr]
    obtain ⟨⟨hl1, hl2⟩, hin⟩ := (K.lensOk_iff xs).1 hok
    have hsb := K.showBits_len xs hok
    obtain ⟨x0, hx0⟩ : ∃ x, xs[0]? = some x := ⟨_, List.getElem?_eq_getElem (by omega)⟩
    obtain ⟨b0, off, rfl, -⟩ := (HS.out).at (by rw [intVals_length]; omega)
    unfold bitsV
    have hA : (w1.alloc (.cells #[.string ⟨(K.pack (K.showBits xs)).toArray⟩, .int .i64 (K.showBits xs).length] 55)).heap[w1.heap.size]? = some (.cells #[.string ⟨(K.pack (K.showBits xs)).toArray⟩, .int .i64 (K.showBits xs).length] 55 (0, 0)) := heap_alloc_new _ _
    have hkA : Kept [] w1 (w1.alloc (.cells #[.string ⟨(K.pack (K.showBits xs)).toArray⟩, .int .i64 (K.showBits xs).length] 55)) := (Kept.refl _ _).alloc _
    have c0 := (HS.out.kept0 (HK1.out.new hkA (by simp [Fresh]))).int hx0
    rw [Nat.add_zero] at c0
    have HA := Lib.hid hA
    have HKA := Lib.hid hkA
    have HOK := Lib.hid hok
    have HX0 := Lib.hid hx0
    have HIN := Lib.hid hin
    clear hA hkA hsr hok hin hx0
    by_cases h1 : at_ < 0
    · have g1 : decide (at_ < 0) = true := by simp; omega
      go_wp2_with ((go_at_call 36; refine (awakeD _).mono ?_; rintro e w' ⟨rfl, hk⟩))
      go_ret
      exact ⟨rfl, (HK1.out.new HKA.out (by simp [Fresh])).new ‹_› (by simp [Fresh])⟩
    · have g1 : decide (at_ < 0) = false := by simp; omega
      by_cases h2 : (xs.length : Int) ≤ at_
      · have g2 : decide ((xs.length : Int) ≤ at_) = true := by simp; omega
        go_wp2_with ((go_at_call 36; refine (awakeD _).mono ?_; rintro e w' ⟨rfl, hk⟩))
        go_ret
        exact ⟨rfl, (HK1.out.new HKA.out (by simp [Fresh])).new ‹_› (by simp [Fresh])⟩
      · have g2 : decide ((xs.length : Int) ≤ at_) = false := by simp; omega
        by_cases h3 : 20 ≤ x0
        · have g3 : decide (20 ≤ x0) = true := by simp; omega
          go_wp2_with ((go_at_call 36; refine (awakeD _).mono ?_; rintro e w' ⟨rfl, hk⟩))
          go_ret
          exact ⟨rfl, (HK1.out.new HKA.out (by simp [Fresh])).new ‹_› (by simp [Fresh])⟩
        · have g3 : decide (20 ≤ x0) = false := by simp; omega
          go_wp2_with fail
          have hA := HA.out
          have hkA := HKA.out
          clear HA HKA h g1 g2 g3
          generalize w1.alloc (.cells #[.string ⟨(K.pack (K.showBits xs)).toArray⟩, .int .i64 (K.showBits xs).length] 55) = W2 at hA hkA c0 ⊢
          have hbk := K.more_back xs HOK.out x0 HX0.out (by omega)
          have hm7 : 7 ≤ (K.showBits xs).length := by rw [K.showBits_size xs x0 HX0.out]; omega
          have hml := K.moreBits_len (K.showBits xs) (by omega)
          have HBK := Lib.hid hbk
          have HML := Lib.hid hml
          have HA := Lib.hid hA
          have HKA := Lib.hid hkA
          generalize hbs : K.showBits xs = bs at hsb hm7 HA HBK HML ⊢
          have HBS := Lib.hid hbs
          clear hbk hml hA hkA hbs
          obtain ⟨S, hSd⟩ : ∃ S : ByteArray, S = ⟨(K.pack bs).toArray⟩ := ⟨_, rfl⟩
          have hSl : S.data.toList = K.pack bs := by rw [hSd]
          have hSz : S.size = (bs.length + 7) / 8 := by rw [← toList_length, hSl, K.pack_length]
          rw [← hSd] at HA ⊢
          have HSL := Lib.hid hSl
          have HSZ := Lib.hid hSz
          clear hSd hSl hSz
          go_loopg [7, 8] bs.length (fun k v c wr => DStepsA W2 bs k v c wr)
          case atStart => exact ⟨0, by omega, by omega, rfl, Row.nil _ _, Kept.refl _ _, by simp [Fresh, foot, Value.ownBlock]⟩
          case round =>
            obtain ⟨i, hi, hk, rfl, hrow, hkept, hfr⟩ := hrel
            have Hk := Lib.hid hk
            have hh := hkept.heap HA.out (by simp)
            have d0 : wr.cell? ⟨w1.heap.size, 0, none⟩ = _ := cell_of_row wr w1.heap.size 0 _ _ _ hh
            have d1 : wr.cell? ⟨w1.heap.size, 1, none⟩ = _ := cell_of_row wr w1.heap.size 1 _ _ _ hh
            simp at d0 d1
            clear hk hh c0
            by_cases hlt : i < bs.length
            · have hli : (i : Int) < (bs.length : Int) := by omega
              obtain ⟨b, hb⟩ : ∃ b, bs[i]? = some b := ⟨_, List.getElem?_eq_getElem hlt⟩
              by_cases h5 : i = 5
              · have h5b : ((i : Int) == 5) = true := by subst h5; rfl
                have h8 : i / 8 < S.size := by have := HSZ.out; omega
                have h8i : (i : Int) / 8 < (S.size : Int) := by omega
                have hnb : w1.heap.size ∉ foot u7 := fun hx => by have := hfr _ hx; have := lt_of_block HA.out; omega
                have HB := Lib.hid hb
                have HKE := Lib.hid hkept
                have HFR := Lib.hid hfr
                have HNB := Lib.hid hnb
                have H5 := Lib.hid h5
                have hmo := moved_len bs i
                have L1 : (bys (movedBits bs i)).length + 4 ≤ maxLen := by rw [bys_length]; simp only [maxLen]; omega
                have L2 : ((bys (movedBits bs i)).length + 4) * 1 ≤ 140737488355328 := by rw [bys_length]; omega
                have M1 : (bys (movedBits bs i) ++ [Value.int .u8 1, Value.int .u8 0, Value.int .u8 1, Value.int .u8 1]).length + 1 ≤ maxLen := by rw [List.length_append, bys_length]; simp only [maxLen, List.length_cons, List.length_nil]; omega
                have M2 : ((bys (movedBits bs i) ++ [Value.int .u8 1, Value.int .u8 0, Value.int .u8 1, Value.int .u8 1]).length + 1) * 1 ≤ 140737488355328 := by rw [List.length_append, bys_length]; simp only [List.length_cons, List.length_nil]; omega
                clear hb hkept hfr hnb h5
                go_wp2_with (first
                  | (at_builtin; refine wp_appL _ rfl _ _ 76 rfl 5 (.int .u8 0) 1 Try.underlying76 Try.infoU8 rfl _ _ [.int .u8 1, .int .u8 0, .int .u8 1, .int .u8 1] 4 rfl rfl rfl rfl (by simp [Value.oneCell']) hrow L1 L2 ?_; intro a4 cap4 w4 hrow4 hk4 hg4; have e0 := hk4.cellOf d0 HNB.out; have e1 := hk4.cellOf d1 HNB.out)
                  | (at_builtin; refine wp_appL _ rfl _ _ 76 rfl 5 (.int .u8 0) 1 Try.underlying76 Try.infoU8 rfl (.slice a4 ((bys (movedBits bs i)).length + 4) cap4) _ [.int .u8 _] 1 rfl rfl rfl rfl (by simp [Value.oneCell']) hrow4 M1 M2 ?_; intro a5 cap5 w5 hrow5 hk5 hg5))
                go_roundg (bs.length - (i + 1))
                case measure => have := Hk.out; omega
                case rel =>
                  have hl4 : (bys (movedBits bs i) ++ [Value.int .u8 1, Value.int .u8 0, Value.int .u8 1, Value.int .u8 1]).length + 1 = (bys (movedBits bs i)).length + 4 + 1 := by simp
                  rw [hl4] at hg5 hrow5
                  refine ⟨i + 1, by omega, rfl, by go_num, ?_, (HKE.out.new hk4 HFR.out).new hk5 (HFR.out.grow hg4 HKE.out.size), (HFR.out.grow hg4 HKE.out.size).grow hg5 (Nat.le_trans HKE.out.size hk4.size)⟩
                  have := hrow5
                  rw [byte_bit S bs HSL.out i b HB.out h8] at this
                  obtain rfl := H5.out
                  rw [moved_five bs b HB.out, bys_append, bys_append]
                  exact this
              · have h5i : ¬ (i : Int) = 5 := by omega
                have h5b : ((i : Int) == 5) = false := by simp; omega
                have h8 : i / 8 < S.size := by have := HSZ.out; omega
                have h8i : (i : Int) / 8 < (S.size : Int) := by omega
                have HB := Lib.hid hb
                have HKE := Lib.hid hkept
                have HFR := Lib.hid hfr
                have hmo := moved_len bs i
                have L1 : (bys (movedBits bs i)).length + 1 ≤ maxLen := by rw [bys_length]; simp only [maxLen]; omega
                have L2 : ((bys (movedBits bs i)).length + 1) * 1 ≤ 140737488355328 := by rw [bys_length]; omega
                clear hb hkept hfr
                go_wp2_with ((at_builtin; refine wp_appL _ rfl _ _ 76 rfl 5 (.int .u8 0) 1 Try.underlying76 Try.infoU8 rfl _ _ [.int .u8 _] 1 rfl rfl rfl rfl (by simp [Value.oneCell']) hrow L1 L2 ?_; intro a5 cap5 w5 hrow5 hk5 hg5))
                go_roundg (bs.length - (i + 1))
                case measure => have := Hk.out; omega
                case rel =>
                  refine ⟨i + 1, by omega, rfl, by go_num, ?_, HKE.out.new hk5 HFR.out, HFR.out.grow hg5 HKE.out.size⟩
                  rw [moved_next bs i b HB.out h5, bys_append]
                  have := hrow5
                  rw [byte_bit S bs HSL.out i b HB.out h8] at this
                  exact this
            · obtain rfl : i = bs.length := by omega
              have hm5 : 5 < bs.length := by omega
              rw [moved_all bs hm5] at hrow
              obtain ⟨av, cv, hv, -, -, -, -⟩ := hrow.sees
              rw [bys_length, HML.out] at hv
              subst hv
              have hwl : IntKind.i64.wrap (((bs.length + 4 : Nat) : Int) + 7) = ((bs.length + 4 : Nat) : Int) + 7 := IntWalk.i64_in _ (by omega)
              have hwl2 : IntKind.i64.wrap ((bs.length : Int) + 4 + 7) = (bs.length : Int) + 4 + 7 := IntWalk.i64_in _ (by omega)
              have HROW := Lib.hid hrow
              have HKE := Lib.hid hkept
              have HFR := Lib.hid hfr
              have hsee := hrow.see.1
              have HSEE := Lib.hid hsee
              clear hrow hkept hfr hsee
              obtain ⟨T, hT⟩ : ∃ T : Nat, T = (bs.length + 4 + 7) / 8 := ⟨_, rfl⟩
              go_wp2_with ((at_make; refine wp_make1 rfl _ _ 76 rfl 5 (.int .u8 0) 1 Try.underlying76 Try.infoU8 rfl .i64 .i64 _ _ T T rfl rfl (by omega) (by omega) (Nat.le_refl _) (by omega) (by simp only [maxLen]; omega) ?_; intro w3 hrow3 hk3))
              have hml := HML.out
              have hsv := HSEE.out.kept0 hk3
              have hgf : Apart (footA av) [wr.heap.size] := fun x hx hm => by
                have h1 := HSEE.out.lt (by rw [bys_length]; omega) x hx
                rw [List.mem_singleton.1 hm] at h1
                omega
              have hrow3 : Row w3 5 (.slice (some ⟨wr.heap.size, 0, none⟩) ((bs.length + 4 + 7) / 8) ((bs.length + 4 + 7) / 8)) (u8s (K.laid (K.moreBits bs) ((bs.length + 4 + 7) / 8) 0)) := by
                rw [K.laid_zero, ← hT]
                simpa [u8s] using hrow3
              have HK3 := Lib.hid (HKE.out.new hk3 (by simp [Fresh]))
              have HSV := Lib.hid hsv
              clear hk3 hsv HROW HSEE hwl hwl2
              generalize hmb : K.moreBits bs = mb at hml hrow3 HSV HBK
              have hgs : W2.heap.size ≤ wr.heap.size := HKE.out.size
              generalize wr.heap.size = g at hrow3 hgf hgs ⊢
              go_loopg [10] mb.length (fun k c wr => DStepsB w3 mb ((bs.length + 4 + 7) / 8) g k c wr)
              case atStart => exact ⟨0, by omega, by omega, rfl, hrow3, Kept.refl _ _⟩
              case round => 
                obtain ⟨i, hi, hk, rfl, hrow, hkept⟩ := hrel
                have Hk2 := Lib.hid hk
                clear hk hrow3 d0 d1
                by_cases hlt : i < mb.length
                · obtain ⟨b, hb⟩ : ∃ b, mb[i]? = some b := ⟨_, List.getElem?_eq_getElem hlt⟩
                  obtain ⟨bv, ov, rfl, hcells⟩ := (HSV.out.kept hkept hgf).at (by rw [bys_length]; omega)
                  have e0 := hcells i (.int .u8 (b.toNat : Nat)) (by simp [bys, hb])
                  have h8 : i / 8 < (bs.length + 4 + 7) / 8 := by omega
                  have e1 := Row.cellOf hrow (i / 8) (.int .u8 ((UInt8.ofNat (K.byteN (mb.take i) (i / 8))).toNat : Nat)) (by simp [u8s, K.laid_get _ _ _ _ h8])
                  have f1 := hrow.free (i / 8)
                  have hli : (i : Int) < (bs.length : Int) + 4 := by omega
                  have h8i : (i : Int) / 8 < ((bs.length : Int) + 4 + 7) / 8 := by omega
                  have HB := Lib.hid hb
                  have HROW := Lib.hid hrow
                  have HKE2 := Lib.hid hkept
                  have HGF := Lib.hid hgf
                  clear hcells hb hrow hkept hgf
                  go_wp2_with fail
                  go_region
                  go_wp2_with fail
                  go_roundg (mb.length - (i + 1))
                  case measure => have := Hk2.out; omega
                  case rel =>
                    refine ⟨i + 1, by omega, rfl, by go_num, ?_, (HKE2.out.setCell (by simp) _).drew⟩
                    have hput := HROW.out.put (i / 8) (Value.int .u8 (bits BinOp.or IntKind.u8 ((K.byteN (mb.take i) (i / 8) : Int) % 256) ((b.toNat : Int) * 2 ^ (7 - i % 8) % 256)))
                    have hv := or_u8 ⟨K.byteN (mb.take i) (i / 8), K.byteN_lt _ _⟩ ⟨i % 8, Nat.mod_lt _ (by decide)⟩ b
                    simp only at hv
                    rw [hv] at hput
                    rw [K.laid_succ mb _ i b HB.out]
                    have e : u8s ((K.laid mb ((bs.length + 4 + 7) / 8) i).set (i / 8) (UInt8.ofNat (K.byteN (mb.take i) (i / 8) ||| b.toNat * (128 / 2 ^ (i % 8))))) = (u8s (K.laid mb ((bs.length + 4 + 7) / 8) i)).set (i / 8) (Value.int .u8 ((UInt8.ofNat (K.byteN (mb.take i) (i / 8) ||| b.toNat * (128 / 2 ^ (i % 8)))).toNat : Nat)) := by
                      unfold u8s
                      rw [List.map_set]
                    rw [e, hv]
                    exact hput.kept (Kept.refl [] _).drew (by simp)
                · obtain rfl : i = mb.length := by omega
                  have hpk : K.laid mb ((bs.length + 4 + 7) / 8) mb.length = K.pack mb := by rw [← hml]; exact K.laid_all mb
                  rw [hpk] at hrow
                  have hct := Row.text hrow
                  have hli : ¬ ((mb.length : Int) < (bs.length : Int) + 4) := by omega
                  have hpl : (K.pack mb).length ≤ 3000 := by rw [K.pack_length]; omega
                  obtain ⟨S2, hS2⟩ : ∃ S2 : ByteArray, S2 = ⟨(K.pack mb).toArray⟩ := ⟨_, rfl⟩
                  have hSl2 : S2.data.toList = K.pack mb := by rw [hS2]
                  rw [← hS2] at hct
                  have hSz2 : S2.size ≤ 3000 := by rw [← toList_length, hSl2]; exact hpl
                  have HSL2 := Lib.hid hSl2
                  have HKE2 := Lib.hid (HK3.out.trans hkept (fun x hx => .inr (by rw [List.mem_singleton.1 hx]; exact hgs)))
                  clear hrow hkept hS2 hSl2 hpk hgf
                  go_wp2_with fail
                  refine (dtake_any S2 0 _ _ (by omega)).mono ?_
                  rintro e w5 hp
                  rw [HSL2.out, HBK.out] at hp
                  obtain ⟨a2, c2, rfl, hrow5, hk5, -⟩ := hp
                  have hs5 : Sees w5 1 a2 xs.length (intVals xs) := hrow5.see.1
                  have hA5 := hk5.heap (HKE2.out.heap HA.out (by simp)) (by simp)
                  have d1 : w5.cell? ⟨w1.heap.size, 1, none⟩ = _ := cell_of_row w5 w1.heap.size 1 _ _ _ hA5
                  simp at d1
                  have HK5 := Lib.hid ((HK1.out.new HKA.out (by simp [Fresh])).new (HKE2.out.new hk5 (by simp [Fresh])) (by simp [Fresh]))
                  have HS5 := Lib.hid hs5
                  clear hk5 hA5 hrow5 hs5 hct
                  obtain ⟨p, rfl⟩ := Int.eq_ofNat_of_zero_le h1
                  have hpl2 : p < xs.length := by omega
                  obtain ⟨y, hy⟩ : ∃ y, xs[p]? = some y := ⟨_, List.getElem?_eq_getElem hpl2⟩
                  obtain ⟨b2, off2, rfl, -⟩ := HS5.out.at (by rw [intVals_length]; omega)
                  have k0 := HS5.out.int hy
                  have k1 := (HS.out.kept0 HK5.out).int hy
                  have hw4 : IntKind.i64.wrap ((bs.length : Int) + 4) = (bs.length : Int) + 4 := IntWalk.i64_in _ (by omega)
                  clear hy
                  go_wp2_with fail
                  go_region_held3 (fun w' => Kept [] w5 w' ∧ w'.cell? ⟨w1.heap.size, 1, none⟩ = some (.int .i64 bs.length) ∧ w'.cell? ⟨b2, off2 + p, none⟩ = some (.int .i64 y) ∧ w'.cell? ⟨b0, off + p, none⟩ = some (.int .i64 y))
                    (first | exact ⟨Kept.refl _ _, d1, k0, k1⟩ | exact ⟨hk6, hk6.cellOf d1 (by simp), hk6.cellOf k0 (by simp), hk6.cellOf k1 (by simp)⟩ | exact ⟨hk6.drew, hk6.cellOf d1 (by simp), hk6.cellOf k0 (by simp), hk6.cellOf k1 (by simp)⟩ | exact ⟨(Kept.refl [] w5).drew, d1, k0, k1⟩ | exact ⟨hk7, hk7.cellOf d1 (by simp), hk7.cellOf k0 (by simp), hk7.cellOf k1 (by simp)⟩ | (trace_state; fail))
                    (first
                      | (go_at_call 39; refine (ints_ok _ _ c2 cap xs xs _ (HS5.out.kept0 (Kept.refl [] w5).drew) ((HS.out.kept0 HK5.out).kept0 (Kept.refl [] w5).drew) hlen).mono ?_; rintro e w6 ⟨rfl, hk6⟩; have hk6 : Kept [] w5 w6 := (Kept.refl [] w5).drew.trans hk6 (by simp))
                      | (go_at_call 36; refine (awakeD _).mono ?_; rintro e w7 ⟨rfl, hk7⟩; have hk7 : Kept [] w5 w7 := hk6.new hk7 (by simp [Fresh])))
                  all_goals
                    go_wp2_with fail
                    go_ret
                    exact ⟨rfl, HK5.out.new (by assumption) (by simp [Fresh])⟩
  · have hsr : K.showR xs = ([], 0, 80) := by unfold K.showR; rw [hok]; rfl
    rw [hsr]
    unfold bitsV
    clear hsr
    go_wp2_with ((go_at_call 36; refine (awakeD _).mono ?_; rintro e w' ⟨rfl, hk⟩))
    go_ret
    exact ⟨rfl, (HK1.out.alloc _).new ‹_› (by simp [Fresh])⟩
end Go.Proofs.Ytickefjlkpdifaa
