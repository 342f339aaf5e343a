/-
  The walk of symbols' Take.
-/
import Derived.Test.YtkkjhkjgdpodeaaSymB
import Derived.Test.YtkkjhkjgdpodeaaAnyA
namespace Go.Proofs.Ytkkjhkjgdpodeaa
open Go.RowKit
set_option linter.unusedVariables false
set_option linter.unusedSimpArgs false

theorem bit_u64 (A t : Nat) (hA : A < 18446744073709551616) : bits BinOp.and IntKind.u64 ((A : Int) / 2 ^ t) 1 = ((A.testBit t).toNat : Int) := by
  have e : ((A : Int) / 2 ^ t) = ((A / 2 ^ t : Nat) : Int) := by norm_cast
  rw [e, show (1 : Int) = ((1 : Nat) : Int) from rfl, u64_and_nat _ _ (by have := Nat.div_le_self A (2 ^ t); omega) (by omega), nat_mask1, K.testBit_div]
theorem piece_bit (bs : List Bool) (p i : Nat) (h : p + 16 ≤ bs.length) (hi : i < 16) : (K.num (K.piece bs p 16)).testBit (15 - i) = bs.getD (p + i) false := by
  have hl := K.piece_length bs p 16 h
  rw [K.num_testBit _ _ (by omega), hl, show 16 - 1 - (15 - i) = i by omega]
  unfold K.piece
  rw [List.getD, List.getD, List.getElem?_take, if_pos hi, List.getElem?_drop]

/-- What Take leaves that answers a text, a place and an error. -/
def TextAtPost (p : List UInt8 × Int × Nat) (w : World) (e : Ending) (w' : World) : Prop :=
  e = .returned (.tuple #[.string ⟨p.1.toArray⟩, .int .i64 p.2.1, .int .i64 (p.2.2 : Nat)]) ∧ Kept [] w w'
/-- In Take's loop: i rows are read. -/
def STkI (s : ByteArray) (T : Option (List UInt8 × Nat)) (a : Nat → Bool) (r q : Nat) (w0 : World) (k : Nat) (v c : Value) (w : World) : Prop :=
  ∃ i p out, i ≤ 16 ∧ k = 16 - i ∧ c = .int .i64 (i : Nat) ∧ p ≤ 8 * s.size ∧ Rd w r q s p ∧ Row w 5 v (u8s out) ∧ out.length ≤ 16 * i ∧
    T = K.takeRows (K.bitsOf s.data.toList) a (16 - i) i p out ∧ Apart (foot v) [r, q] ∧ Kept [] w0 w ∧ Fresh w0.heap.size (foot v)
/-- In the loop within: j bits of a row are seen. -/
def STkJ (s : ByteArray) (i : Nat) (row : List Bool) (out : List UInt8) (r q p : Nat) (w0 : World) (k : Nat) (v c : Value) (w : World) : Prop :=
  ∃ j, j ≤ 16 ∧ k = 16 - j ∧ c = .int .i64 (j : Nat) ∧ Rd w r q s p ∧ Row w 5 v (u8s (out ++ K.saidTo i row j)) ∧ Apart (foot v) [r, q] ∧ Kept [] w0 w ∧ Fresh w0.heap.size (foot v)

set_option maxHeartbeats 1000000 in
theorem stake_any (s : ByteArray) (at_ : Int) (w : World) (hs : s.size ≤ 1000000000) :
    Calls Try.prog 20 #[.string s, .int .i64 at_] w (TextAtPost (K.takeSR (K.bitsOf s.data.toList) at_) w) := by
  by_cases hat : at_ < 0 ∨ (8 * s.size : Nat) < at_
  · have hR : K.takeSR (K.bitsOf s.data.toList) at_ = ([], 0, 2) := by unfold K.takeSR; rw [if_pos (by rw [bitsOf_len]; omega)]
    have HR := Lib.hid hR
    clear hR
    go_enter Try.func20, Try.ntmps20
    go_wp2_with fail
    refine (newReader_no s at_ _ (by omega) hat).mono ?_
    rintro e w1 ⟨rfl, rfl⟩
    go_wp2_with fail
    go_ret3
    rw [HR.out]
    exact ⟨rfl, (Kept.refl _ _).alloc _⟩
  · obtain ⟨at_, rfl⟩ := Int.eq_ofNat_of_zero_le (show 0 ≤ at_ by omega)
    have hal : at_ ≤ 8 * s.size := by omega
    clear hat
    have HBL := Lib.hid (bitsOf_len s)
    go_enter Try.func20, Try.ntmps20
    go_wp2_with fail
    refine (newReader_new s at_ _ (by omega) (by omega) (by omega)).mono ?_
    rintro e w1 ⟨r, q, rfl, hrd, hk1, hf1⟩
    rw [Int.toNat_natCast] at hrd
    have HK1 := Lib.hid hk1
    have HF1 := Lib.hid hf1
    clear hk1 hf1
    go_wp2_with fail
    refine (take_any r q s at_ 16 _ hrd (by omega) hal).mono ?_
    rintro e w2 ⟨rfl, hrd2, hk2⟩
    have hkk2 : Kept [] w w2 := HK1.out.new hk2 (fun x hx => by rw [List.mem_singleton.1 hx]; exact HF1.out r (by simp))
    by_cases hsh : 8 * s.size < at_ + 16
    · have hR : K.takeSR (K.bitsOf s.data.toList) at_ = ([], 0, 10) := by
        unfold K.takeSR
        rw [if_neg (by rw [bitsOf_len]; omega), if_pos (by rw [bitsOf_len]; simpa using hsh)]
      have hT : K.takeR (K.bitsOf s.data.toList) at_ 16 = (0, 10) := by
        unfold K.takeR
        rw [if_neg (by omega), if_pos (by rw [bitsOf_len]; simpa using hsh)]
      have HR := Lib.hid hR
      have HKK := Lib.hid hkk2
      rw [hT]
      clear hR hT hrd2 hk2 hkk2
      go_wp2_with fail
      go_ret3
      rw [HR.out]
      exact ⟨rfl, HKK.out⟩
    · have hT : K.takeR (K.bitsOf s.data.toList) at_ 16 = (K.num (K.piece (K.bitsOf s.data.toList) at_ 16), 0) := by
        unfold K.takeR
        rw [if_neg (by omega), if_neg (by rw [bitsOf_len]; simpa using hsh)]
        rfl
      have hR : K.takeSR (K.bitsOf s.data.toList) at_ = K.saidR (K.takeRows (K.bitsOf s.data.toList) (fun i => (K.bitsOf s.data.toList).getD (at_ + i) false) 16 0 (at_ + 16) []) := by
        unfold K.takeSR
        rw [if_neg (by rw [bitsOf_len]; omega), if_neg (by rw [bitsOf_len]; simpa using hsh), Int.toNat_natCast]
      have HR := Lib.hid hR
      have hpl := K.piece_length (K.bitsOf s.data.toList) at_ 16 (by rw [bitsOf_len]; omega)
      have hA := K.num_lt (K.piece (K.bitsOf s.data.toList) at_ 16)
      rw [hpl] at hA
      have hbit : ∀ i, i < 16 → (K.num (K.piece (K.bitsOf s.data.toList) at_ 16)).testBit (15 - i) = (K.bitsOf s.data.toList).getD (at_ + i) false := fun i hi => piece_bit _ _ _ (by rw [bitsOf_len]; omega) hi
      rw [hT] at hrd2 ⊢
      have hrd2 : Rd w2 r q s (at_ + 16) := hrd2
      have HBIT := Lib.hid hbit
      have HRD2 := Lib.hid hrd2
      have HKK := Lib.hid hkk2
      have hA2 : K.num (K.piece (K.bitsOf s.data.toList) at_ 16) < 65536 := hA
      clear hR hT hrd2 hk2 hkk2 hpl hA hbit
      generalize K.num (K.piece (K.bitsOf s.data.toList) at_ 16) = A at HBIT hA2 ⊢
      generalize hT : K.takeRows (K.bitsOf s.data.toList) (fun i => (K.bitsOf s.data.toList).getD (at_ + i) false) 16 0 (at_ + 16) [] = T at HR
      have HT := Lib.hid hT
      clear hT
      go_wp2_with fail
      have hr0 := Row.empty w2 5
      have hrd3 : Rd (w2.alloc (.cells #[] 5)) r q s (at_ + 16) := HRD2.out.kept ((Kept.refl [] w2).alloc _) (Apart.nil _)
      have hk3 := HKK.out.alloc (.cells #[] 5)
      have hfr : Fresh w.heap.size (foot (.slice (some ⟨w2.heap.size, 0, none⟩) 0 0)) := by
        intro x hx; simp [foot, Value.ownBlock] at hx; have := HKK.out.size; omega
      have hap : Apart (foot (.slice (some ⟨w2.heap.size, 0, none⟩) 0 0)) [r, q] := by
        intro x hx hm
        simp [foot, Value.ownBlock] at hx
        have := HRD2.out.lt x hm
        omega
      generalize w2.alloc (.cells #[] 5) = W1 at hr0 hrd3 hk3 ⊢
      go_loopg [10, 29] 16 (fun k v c wr => STkI s T (fun i => (K.bitsOf s.data.toList).getD (at_ + i) false) r q w k v c wr)
      case atStart => exact ⟨0, at_ + 16, [], by omega, by omega, rfl, by omega, hrd3, hr0, by simp, HT.out.symm, hap, hk3, hfr⟩
      case round =>
        obtain ⟨i, p, out, hi, hk, rfl, hp, hrd, hrow, hol, hTT, hap, hkept, hfr⟩ := hrel
        have Hk := Lib.hid hk
        have HTT := Lib.hid hTT
        have HAP := Lib.hid hap
        have HKE := Lib.hid hkept
        have HFR := Lib.hid hfr
        have HROW := Lib.hid hrow
        have HRD := Lib.hid hrd
        clear hk hTT hap hkept hfr hrow hrd hr0 hrd3 hk3
        by_cases hlt : i < 16
        · have hli : (i : Int) < 16 := by omega
          have hsub : IntKind.i64.wrap (15 - (i : Int)) = 15 - (i : Int) := IntWalk.i64_in _ (by omega)
          have hu : IntKind.u64.wrap (15 - (i : Int)) = ((15 - i : Nat) : Int) := by rw [IntKind.wrap_u64]; omega
          have hbt := bit_u64 A (15 - i) (by omega)
          rw [HBIT.out i hlt] at hbt
          obtain ⟨t, ht⟩ : ∃ t, 15 - i = t := ⟨_, rfl⟩
          rw [ht] at hu hbt
          have ht15 : t ≤ 15 := by omega
          have hstep : ∀ k, K.takeRows (K.bitsOf s.data.toList) (fun i => (K.bitsOf s.data.toList).getD (at_ + i) false) (k + 1) i p out =
              if (K.bitsOf s.data.toList).getD (at_ + i) false then (if (K.bitsOf s.data.toList).length < p + 16 then none else K.takeRows (K.bitsOf s.data.toList) (fun i => (K.bitsOf s.data.toList).getD (at_ + i) false) k (i + 1) (p + 16) (out ++ K.saidTo i (K.piece (K.bitsOf s.data.toList) p 16) 16)) else K.takeRows (K.bitsOf s.data.toList) (fun i => (K.bitsOf s.data.toList).getD (at_ + i) false) k (i + 1) p out := fun k => by rw [K.takeRows]
          have hTT2 := HTT.out
          rw [show 16 - i = (16 - (i + 1)) + 1 by omega, hstep] at hTT2
          have HTT2 := Lib.hid hTT2
          clear hstep hTT2 ht
          rcases Bool.eq_false_or_eq_true ((K.bitsOf s.data.toList).getD (at_ + i) false) with hb | hb
          · rw [hb] at hbt
            have hbt1 : bits BinOp.and IntKind.u64 ((A : Int) / 2 ^ t) 1 = 1 := hbt
            have hT3 := HTT2.out
            rw [hb, if_pos rfl] at hT3
            have HT3 := Lib.hid hT3
            clear hbt hb hT3
            go_wp2_with fail
            refine (take_any r q s p 16 _ HRD.out (by omega) hp).mono ?_
            rintro e w4 ⟨rfl, hrd4, hk4⟩
            have hkk4 : Kept [] w w4 := HKE.out.new hk4 (fun x hx => by rw [List.mem_singleton.1 hx]; exact HF1.out r (by simp))
            have hrow4 := HROW.out.kept hk4 (fun x hx h => HAP.out x hx (by simp at h; simp [h]))
            have HKK4 := Lib.hid hkk4
            by_cases hsh2 : 8 * s.size < p + 16
            · have hR2 : K.takeSR (K.bitsOf s.data.toList) at_ = ([], 0, 10) := by
                rw [HR.out, HT3.out, if_pos (by rw [bitsOf_len]; exact hsh2)]; rfl
              have hT2 : K.takeR (K.bitsOf s.data.toList) p 16 = (0, 10) := by
                unfold K.takeR
                rw [if_neg (by omega), if_pos (by rw [bitsOf_len]; simpa using hsh2)]
              have HR2 := Lib.hid hR2
              rw [hT2]
              clear hR2 hT2 hrd4 hk4 hkk4 hrow4
              go_wp2_with fail
              go_ret3
              rw [HR2.out]
              exact ⟨rfl, HKK4.out⟩
            · have hT2 : K.takeR (K.bitsOf s.data.toList) p 16 = (K.num (K.piece (K.bitsOf s.data.toList) p 16), 0) := by
                unfold K.takeR
                rw [if_neg (by omega), if_neg (by rw [bitsOf_len]; simpa using hsh2)]
                rfl
              have hT4 := HT3.out
              rw [if_neg (by rw [bitsOf_len]; exact hsh2)] at hT4
              have HT4 := Lib.hid hT4
              have hpl2 := K.piece_length (K.bitsOf s.data.toList) p 16 (by rw [bitsOf_len]; omega)
              have hB := K.num_lt (K.piece (K.bitsOf s.data.toList) p 16)
              rw [hpl2] at hB
              have hB2 : K.num (K.piece (K.bitsOf s.data.toList) p 16) < 65536 := hB
              have hbit2 : ∀ j, j < 16 → (K.num (K.piece (K.bitsOf s.data.toList) p 16)).testBit (15 - j) = (K.piece (K.bitsOf s.data.toList) p 16).getD j false := fun j hj => by
                rw [K.num_testBit _ _ (by omega), hpl2, show 16 - 1 - (15 - j) = j by omega]
              have HBIT2 := Lib.hid hbit2
              rw [hT2] at hrd4 ⊢
              have hrd4 : Rd w4 r q s (p + 16) := hrd4
              have HRD4 := Lib.hid hrd4
              have HROW4 := Lib.hid hrow4
              clear hT2 hT4 hrd4 hk4 hkk4 hrow4 hpl2 hB hbit2
              generalize K.num (K.piece (K.bitsOf s.data.toList) p 16) = B at HBIT2 hB2 ⊢
              generalize K.piece (K.bitsOf s.data.toList) p 16 = row at HBIT2 HT4
              go_wp2_with fail
              go_loopg [10, 47] 16 (fun k v c wr => STkJ s i row out r q (p + 16) w k v c wr)
              case atStart => exact ⟨0, by omega, by omega, rfl, HRD4.out, by simpa [K.saidTo] using HROW4.out, HAP.out, HKK4.out, HFR.out⟩
              case round =>
                obtain ⟨j, hj, hk, rfl, hrd, hrow, hap, hkept, hfr⟩ := hrel
                have Hk2 := Lib.hid hk
                have HAP2 := Lib.hid hap
                have HKE2 := Lib.hid hkept
                have HFR2 := Lib.hid hfr
                have HRD5 := Lib.hid hrd
                clear hk hap hkept hfr hrd
                by_cases hlt2 : j < 16
                · have hlj : (j : Int) < 16 := by omega
                  have hsub2 : IntKind.i64.wrap (15 - (j : Int)) = 15 - (j : Int) := IntWalk.i64_in _ (by omega)
                  have hu2 : IntKind.u64.wrap (15 - (j : Int)) = ((15 - j : Nat) : Int) := by rw [IntKind.wrap_u64]; omega
                  have hbt2 := bit_u64 B (15 - j) (by omega)
                  rw [HBIT2.out j hlt2] at hbt2
                  obtain ⟨t2, ht2⟩ : ∃ t, 15 - j = t := ⟨_, rfl⟩
                  rw [ht2] at hu2 hbt2
                  have ht215 : t2 ≤ 15 := by omega
                  clear ht2
                  rcases Bool.eq_false_or_eq_true (row.getD j false) with hb2 | hb2
                  · have hyes := K.saidTo_yes i row j hb2
                    rw [hb2] at hbt2
                    have hbt3 : bits BinOp.and IntKind.u64 ((B : Int) / 2 ^ t2) 1 = 1 := hbt2
                    have hsl := K.saidTo_length i row j
                    have L1 : (u8s (out ++ K.saidTo i row j)).length + 1 ≤ maxLen := by rw [u8s_length, List.length_append]; simp only [maxLen]; omega
                    have L2 : ((u8s (out ++ K.saidTo i row j)).length + 1) * 1 ≤ 140737488355328 := by rw [u8s_length, List.length_append]; omega
                    have hwb : IntKind.u8.wrap (16 * (i : Int) + (j : Int)) = 16 * (i : Int) + (j : Int) := by rw [IntKind.wrap_u8]; omega
                    have HY := Lib.hid hyes
                    clear hbt2 hyes hb2 hsl
                    go_wp2_with ((at_builtin; refine wp_appL _ rfl _ _ 51 rfl 5 (.int .u8 0) 1 Try.underlying51 Try.infoU8 rfl _ _ [.int .u8 (16 * (i : Int) + (j : Int))] 1 rfl rfl rfl rfl (by simp [Value.oneCell']) hrow L1 L2 ?_; intro a5 cap5 w5 hrow5 hk5 hg5))
                    go_roundg (16 - (j + 1))
                    case measure => have := Hk2.out; omega
                    case rel =>
                      refine ⟨j + 1, by omega, rfl, by go_num, HRD5.out.kept hk5 HAP2.out.symm, ?_, (HAP2.out.symm.grow HRD5.out.lt hg5).symm, HKE2.out.new hk5 HFR2.out, HFR2.out.grow hg5 HKE2.out.size⟩
                      rw [HY.out, ← List.append_assoc, show u8s (out ++ K.saidTo i row j ++ [UInt8.ofNat (16 * i + j)]) = u8s (out ++ K.saidTo i row j) ++ [.int .u8 (16 * (i : Int) + (j : Int))] by
                        unfold u8s
                        rw [List.map_append]
                        congr 1
                        simp only [List.map_cons, List.map_nil, UInt8.toNat_ofNat']
                        rw [Nat.mod_eq_of_lt (by omega)]
                        simp]
                      exact hrow5
                  · have hno := K.saidTo_no i row j hb2
                    rw [hb2] at hbt2
                    have hbt3 : bits BinOp.and IntKind.u64 ((B : Int) / 2 ^ t2) 1 = 0 := hbt2
                    have HN := Lib.hid hno
                    clear hbt2 hno hb2
                    go_wp2_with fail
                    go_roundg (16 - (j + 1))
                    case measure => have := Hk2.out; omega
                    case rel => exact ⟨j + 1, by omega, rfl, by go_num, HRD5.out, by rw [HN.out]; exact hrow, HAP2.out, HKE2.out, HFR2.out⟩
                · obtain rfl : j = 16 := by omega
                  have hsl := K.saidTo_length i row 16
                  go_wp2_with fail
                  go_roundg (16 - (i + 1))
                  case measure => have := Hk.out; omega
                  case rel => exact ⟨i + 1, p + 16, _, by omega, rfl, by go_num, by omega, HRD5.out, hrow, by rw [List.length_append]; omega, HT4.out, HAP2.out, HKE2.out, HFR2.out⟩
          · rw [hb] at hbt
            have hbt1 : bits BinOp.and IntKind.u64 ((A : Int) / 2 ^ t) 1 = 0 := hbt
            have hT3 := HTT2.out
            rw [hb, if_neg (by decide)] at hT3
            have HT3 := Lib.hid hT3
            clear hbt hb hT3
            go_wp2_with fail
            go_roundg (16 - (i + 1))
            case measure => have := Hk.out; omega
            case rel => exact ⟨i + 1, p, out, by omega, rfl, by go_num, hp, HRD.out, HROW.out, by omega, HT3.out, HAP.out, HKE.out, HFR.out⟩
        · obtain rfl : i = 16 := by omega
          have hT5 : T = some (out, p) := HTT.out
          have hR5 := HR.out
          rw [hT5, K.saidR] at hR5
          obtain ⟨av, cv, hv, -, -, -, -⟩ := HROW.out.sees
          rw [u8s_length] at hv
          subst hv
          by_cases hnil : out = []
          · rw [if_pos hnil] at hR5
            have HR5 := Lib.hid hR5
            have hz : out.length = 0 := by rw [hnil]; rfl
            clear hT5 hR5 hnil
            go_wp2_with fail
            go_ret3
            rw [HR5.out]
            exact ⟨rfl, HKE.out⟩
          · rw [if_neg hnil] at hR5
            have HR5 := Lib.hid hR5
            have hz : ¬ out.length = 0 := fun h => hnil (List.eq_nil_of_length_eq_zero h)
            have hzi : ((out.length : Int) == 0) = false := by simp; omega
            have hct := Row.text HROW.out
            clear hT5 hR5 hnil
            go_wp2_with fail
            go_region_held3 (fun w' => (convert 51 9 (.slice av out.length cv)).run Try.prog w' = .ok (.string ⟨out.toArray⟩) w') (exact Row.text (by exact HROW.out))
              (first
                | (go_at_call 36; refine (at_ok r q s p _ (by exact HRD.out)).mono ?_; rintro e w' ⟨rfl, rfl⟩))
            all_goals
              go_wp2_with fail
              go_ret3
              rw [HR5.out]
              exact ⟨rfl, HKE.out.drew⟩
end Go.Proofs.Ytkkjhkjgdpodeaa
