/-
  The walks of kistref05's Places and Back.
-/
import Derived.Test.YtaeppgooenbfiaaBwtB
namespace Go.Proofs.Ytaeppgooenbfiaa
open Go.RowKit
set_option linter.unusedVariables false
set_option linter.unusedSimpArgs false

/-- A new list of numbers. -/
def ListPost (l : List Nat) (w : World) (e : Ending) (w' : World) : Prop :=
  ∃ a c, e = .returned (.slice a l.length c) ∧ Row w' 3 (.slice a l.length c) (natVals l) ∧ Kept [] w w' ∧ Fresh w.heap.size (footA a)
theorem occ_no (l : List Nat) (b k x : Nat) (h : l[k]? = some x) (hx : x ≠ b) : K.occ l b (k + 1) = K.occ l b k := by rw [K.occ_succ l b k x h, if_neg hx, List.append_nil]
theorem occ_yes (l : List Nat) (b k : Nat) (h : l[k]? = some b) : K.occ l b (k + 1) = K.occ l b k ++ [k] := by rw [K.occ_succ l b k b h, if_pos rfl]

/-- In Places' loops. -/
def PlaI (w0 : World) (xs : List Nat) (v : Value) (w : World) : Prop := Row w 3 v (natVals xs) ∧ Kept [] w0 w ∧ Fresh w0.heap.size (foot v)

set_option maxRecDepth 100000 in
set_option maxHeartbeats 4000000 in
theorem places_ok (s : ByteArray) (w : World) (hs : s.size ≤ 1000000) : Calls Try.prog 38 #[.string s] w (ListPost (K.stab (K.firstR s.data.toList) 256) w) := by
  obtain ⟨l, hl⟩ : ∃ l, K.firstR s.data.toList = l := ⟨_, rfl⟩
  have hlen : l.length = s.size := by rw [← hl]; exact first_len s
  have hget : ∀ i (h : i < s.size), l[i]? = some (s[i]'h).toNat := fun i h => by rw [← hl]; exact first_get s i h
  rw [hl]
  have HL := Lib.hid hlen
  have HG := Lib.hid hget
  clear hl hlen hget
  go_enter Try.func38, Try.ntmps38
  go_wp2_with fail
  go_loopg [3, 4] 256 (fun k v c wr => ∃ b : Nat, b ≤ 256 ∧ k = 256 - b ∧ c = .int .i64 (b : Nat) ∧ Hid (PlaI w (K.stab l b) v wr))
  case atStart => exact ⟨0, by omega, by omega, rfl, Lib.hid ⟨Row.nil _ _, Kept.refl _ _, by simp [Fresh, foot, Value.ownBlock]⟩⟩
  case round =>
    obtain ⟨b, hb, hk, rfl, HP⟩ := hrel
    have Hk := Lib.hid hk
    clear hk
    by_cases hlt : b < 256
    · have hli : (b : Int) < 256 := by omega
      go_wp2_with fail
      go_loopg [3, 5] s.size (fun k v c wr => ∃ i : Nat, i ≤ s.size ∧ k = s.size - i ∧ c = .int .i64 (i : Nat) ∧ Hid (PlaI w (K.stab l b ++ K.occ l b i) v wr))
      case atStart => exact ⟨0, by omega, by omega, rfl, by simpa [K.occ] using HP⟩
      case round =>
        obtain ⟨i, hi, hk, rfl, HQ⟩ := hrel
        have Hk2 := Lib.hid hk
        clear hk HP
        by_cases hlt2 : i < s.size
        · have hli2 : (i : Int) < (s.size : Int) := by omega
          have hx := UInt8.toNat_lt (s[i]'hlt2)
          have hg := HG.out i hlt2
          obtain ⟨x, hxe⟩ : ∃ x, (s[i]'hlt2).toNat = x := ⟨_, rfl⟩
          rw [hxe] at hg hx
          have hwb : wrap64 (x : Int) = (x : Int) := by unfold wrap64; omega
          have hwb2 : IntKind.i64.wrap (x : Int) = (x : Int) := IntWalk.i64_in _ (by omega)
          obtain ⟨hrow, hkept, hfr⟩ := HQ.out
          have HKE := Lib.hid hkept
          have HFR := Lib.hid hfr
          have hl1 := K.stab_length l b
          have hl2 := K.occ_length l b i (by rw [HL.out]; omega)
          have hl3 := K.cLt_le l b
          have hl4 := cEq_le l i b
          rw [HL.out] at hl3 hl4
          have L1 : (natVals (K.stab l b ++ K.occ l b i)).length + 1 ≤ maxLen := by rw [natVals_length, List.length_append, hl1, hl2]; simp only [maxLen]; omega
          have L2 : ((natVals (K.stab l b ++ K.occ l b i)).length + 1) * 8 ≤ 140737488355328 := by rw [natVals_length, List.length_append, hl1, hl2]; omega
          by_cases hxb : x = b
          · subst hxb
            have hoc := occ_yes l x i hg
            have HOC := Lib.hid hoc
            clear hkept hfr hg hoc hl1 hl2 hl3 hl4
            go_wp2_with ((at_builtin; refine wp_appL _ rfl _ _ 23 rfl 3 (.int .i64 0) 8 Try.underlying23 Try.infoInt rfl _ _ [.int .i64 (i : Int)] 1 rfl rfl rfl rfl (by simp [Value.oneCell']) hrow L1 L2 ?_; intro a5 cap5 w5 hrow5 hk5 hg5))
            go_roundg (s.size - (i + 1))
            case measure => have := Hk2.out; omega
            case rel =>
              refine ⟨i + 1, by omega, rfl, by go_num, Lib.hid ⟨?_, HKE.out.new hk5 HFR.out, HFR.out.grow hg5 HKE.out.size⟩⟩
              rw [HOC.out, ← List.append_assoc, natVals_append (_ ++ _)]
              exact hrow5
          · have hbe : ((x : Int) == (b : Int)) = false := beq_eq_false_iff_ne.2 (by omega)
            have hoc := occ_no l b i x hg hxb
            have HOC := Lib.hid hoc
            clear hkept hfr hg hoc hl1 hl2 hl3 hl4 hxb
            go_wp2_with fail
            go_roundg (s.size - (i + 1))
            case measure => have := Hk2.out; omega
            case rel => exact ⟨i + 1, by omega, rfl, by go_num, by rw [HOC.out]; exact HQ⟩
        · obtain rfl : i = s.size := by omega
          have hli2 : ¬ (s.size : Int) < (s.size : Int) := by omega
          have hq := HQ.out
          have hss := K.stab_succ l b
          rw [HL.out] at hss
          rw [← hss] at hq
          have HQ2 := Lib.hid hq
          clear hss hq
          go_wp2_with fail
          go_roundg (256 - (b + 1))
          case measure => have := Hk.out; omega
          case rel => exact ⟨b + 1, by omega, rfl, by go_num, HQ2⟩
    · obtain rfl : b = 256 := by omega
      obtain ⟨hrow, hkept, hfr⟩ := HP.out
      obtain ⟨a, c, hv, -, -, -, hf⟩ := hrow.sees
      rw [natVals_length] at hv
      have HR := Lib.hid hrow
      have HV := Lib.hid hv
      have HKE := Lib.hid hkept
      have HFR := Lib.hid hfr
      clear hrow hkept hfr hv hf
      go_wp2_with fail
      go_ret
      refine ⟨a, c, by rw [HV.out]; rfl, by have := HR.out; rwa [HV.out] at this, HKE.out, ?_⟩
      have := HFR.out
      rw [HV.out, foot_slice] at this
      exact this

set_option maxRecDepth 100000 in
set_option maxHeartbeats 4000000 in
theorem rback_in (s : ByteArray) (row : Nat) (w : World) (hs : s.size ≤ 262144) (hrow : row < s.size) :
    Calls Try.prog 28 #[.string s, .int .i64 row] w (TextPost (toB (K.readB (K.firstR s.data.toList) (K.stab (K.firstR s.data.toList) 256) s.size row), 0) w) := by
  have hpl := fun w => places_ok s w (by omega)
  obtain ⟨l, hl⟩ : ∃ l, K.firstR s.data.toList = l := ⟨_, rfl⟩
  have hlen : l.length = s.size := by rw [← hl]; exact first_len s
  have hget : ∀ i (h : i < s.size), l[i]? = some (s[i]'h).toNat := fun i h => by rw [← hl]; exact first_get s i h
  have hlt256 : ∀ x ∈ l, x < 256 := by rw [← hl]; exact first_lt _
  rw [hl] at hpl ⊢
  have hPl : (K.stab l 256).length = s.size := by
    rw [K.stab_length]
    unfold K.cLt
    rw [← hlen, List.countP_eq_length]
    intro x hx; simpa using hlt256 x hx
  have hPlt : ∀ p, p < s.size → (K.stab l 256).getD p 0 < s.size := by
    intro p hp
    rw [List.getD, List.getElem?_eq_getElem (by omega)]
    have hm : (K.stab l 256)[p]'(by omega) ∈ K.stab l 256 := List.getElem_mem _
    rw [K.mem_stab] at hm
    simp only [Option.getD_some]; omega
  generalize K.stab l 256 = P at *
  have HPLC := Lib.hid hpl
  have HL := Lib.hid hlen
  have HG := Lib.hid hget
  have HPL := Lib.hid hPl
  have HPLT := Lib.hid hPlt
  have g1 : decide (262144 < (s.size : Int)) = false := by simp; omega
  have hri : (row : Int) < (s.size : Int) := by omega
  clear hl hlen hget hlt256 hPl hPlt hpl
  go_enter Try.func28, Try.ntmps28
  go_wp2_with fail
  refine (HPLC.out w).mono ?_
  rintro e w1 ⟨a, c, rfl, hrow1, hk1, -⟩
  rw [HPL.out] at hrow1 ⊢
  have HS1 := Lib.hid hrow1.seeA
  have HK1 := Lib.hid hk1
  clear hrow1 hk1 HPLC
  go_wp2_with fail
  go_loopg [7, 8] s.size (fun k v u wr => ∃ i : Nat, i ≤ s.size ∧ k = s.size - i ∧ u = .int .i64 (K.walkB P i row : Nat) ∧ Hid (Row wr 5 v (u8s (toB (K.readB l P i row)))) ∧ Hid (Kept [] w1 wr) ∧ Hid (Fresh w1.heap.size (foot v)) ∧ Hid (K.walkB P i row < s.size))
  case atStart => exact ⟨0, by omega, by omega, rfl, Lib.hid (Row.nil _ _), Lib.hid (Kept.refl _ _), Lib.hid (by simp [Fresh, foot, Value.ownBlock]), Lib.hid hrow⟩
  case round =>
    obtain ⟨i, hi, hk, rfl, HR, HKE, HFR, HWL⟩ := hrel
    have Hk := Lib.hid hk
    clear hk
    have hrl : (toB (K.readB l P i row)).length = i := by rw [toB, List.length_map, readB_length]
    obtain ⟨av, cv, hv, -, -, -, -⟩ := HR.out.sees
    rw [u8s_length, hrl] at hv
    subst hv
    have HRL := Lib.hid hrl
    clear hrl
    by_cases hlt : i < s.size
    · have hli : (i : Int) < (s.size : Int) := by omega
      obtain ⟨p, hp⟩ : ∃ p, K.walkB P i row = p := ⟨_, rfl⟩
      have hpl := HWL.out
      rw [hp] at hpl ⊢
      have hq := HPLT.out p hpl
      have hx : P[p]? = some (P.getD p 0) := by rw [List.getD, List.getElem?_eq_getElem (by rw [HPL.out]; exact hpl)]; rfl
      obtain ⟨b0, off, rfl, -⟩ := HS1.out.at (by rw [natVals_length, HPL.out]; omega)
      have c0 := (HS1.out.kept0 HKE.out).natC hx
      have hsn := K.readB_snoc l P i row
      have hwk : K.walkB P (i + 1) row = P.getD (K.walkB P i row) 0 := rfl
      rw [hp] at hwk
      rw [hwk] at hsn
      obtain ⟨q, hqe⟩ : ∃ q, P.getD p 0 = q := ⟨_, rfl⟩
      rw [hqe] at hq c0 hsn hwk
      have hlq : l.getD q 0 = (s[q]'hq).toNat := by rw [List.getD, HG.out q hq]; rfl
      rw [hlq] at hsn
      have HSN := Lib.hid hsn
      have HWK := Lib.hid hwk
      have hqi : (q : Int) < (s.size : Int) := by omega
      have hpi : (p : Int) < (s.size : Int) := by omega
      have hrow := HR.out
      have L1 : (u8s (toB (K.readB l P i row))).length + 1 ≤ maxLen := by rw [u8s_length, HRL.out]; simp only [maxLen]; omega
      have L2 : ((u8s (toB (K.readB l P i row))).length + 1) * 1 ≤ 140737488355328 := by rw [u8s_length, HRL.out]; omega
      clear hsn hwk hqe hlq hx hp
      go_wp2_with ((at_builtin; refine wp_appL _ rfl _ _ 57 rfl 5 (.int .u8 0) 1 Try.underlying57 Try.infoU8 rfl _ _ [.int .u8 ((s[q]'hq).toNat : Int)] 1 rfl rfl rfl rfl (by simp [Value.oneCell']) hrow L1 L2 ?_; intro a5 cap5 w5 hrow5 hk5 hg5))
      go_roundg (s.size - (i + 1))
      case measure => have := Hk.out; omega
      case rel =>
        refine ⟨i + 1, by omega, rfl, by rw [HWK.out], Lib.hid ?_, Lib.hid (HKE.out.new hk5 HFR.out), Lib.hid (HFR.out.grow hg5 HKE.out.size), Lib.hid (by rw [HWK.out]; exact hq)⟩
        rw [HSN.out, toB_snoc, UInt8.ofNat_toNat, show ∀ A : List UInt8, u8s (A ++ [s[q]'hq]) = u8s A ++ [.int .u8 ((s[q]'hq).toNat : Int)] from fun A => by simp [u8s]]
        exact hrow5
    · obtain rfl : i = s.size := by omega
      have hct := Row.text HR.out
      have hli : ¬ (s.size : Int) < (s.size : Int) := by omega
      go_wp2_with fail
      go_ret2
      exact ⟨rfl, HK1.out.trans HKE.out (by simp)⟩
end Go.Proofs.Ytaeppgooenbfiaa
