/-
  LengthsBest: the walk.
-/
import Derived.Test.YtcjkjknahalpnaaAwakeL
import Derived.Test.YtcjkjknahalpnaaLenC
namespace Go.Proofs.Ytcjkjknahalpnaa
open Go.RowKit
set_option linter.unusedVariables false
set_option linter.unusedSimpArgs false

theorem dotI_nat (w l : List Nat) : ∀ k, dotI (w.map fun n : Nat => (n : Int)) (l.map fun n : Nat => (n : Int)) k = (((List.range k).map fun j => w.getD j 0 * l.getD j 0).sum : Nat)
  | 0 => rfl
  | k + 1 => by
    have e : ∀ (q : List Nat), (q.map fun n : Nat => (n : Int)).getD k 0 = ((q.getD k 0 : Nat) : Int) := fun q => by
      rw [List.getD, List.getD, List.getElem?_map]
      cases q[k]? <;> rfl
    rw [dotI, dotI_nat w l k, e, e, List.range_succ, List.map_append, List.sum_append_nat]
    simp
theorem dotI_zip (w l : List Nat) (h : l.length = w.length) : dotI (w.map fun n : Nat => (n : Int)) (l.map fun n : Nat => (n : Int)) w.length = (((w.zip l).map fun p => p.1 * p.2).sum : Nat) := by
  rw [dotI_nat, K.range_zip w l h]
theorem toNat_map {ys : List Int} (h : ∀ y ∈ ys, 0 ≤ y) : (ys.map Int.toNat).map (fun n : Nat => (n : Int)) = ys := by
  rw [List.map_map]
  conv => rhs; rw [← List.map_id ys]
  apply List.map_congr_left
  intro y hy
  have := h y hy
  simp only [Function.comp, id]
  omega
/-- Weights together below 610: what is made costs no more than what may be. -/
theorem best_of {xs ys : List Int} (hb : ∀ x ∈ xs, 0 ≤ x ∧ x < 610) (hl : ys.length = xs.length) (hg : K.goodL ys = true) (hs : (ownN xs).sum < 610) :
    ∃ ls : List Nat, MakeAns (xs.map clampI) 12 (ls, 0) ∧ costE (xs.map clampI) (ls.map fun n : Nat => (n : Int)) = 0 ∧ costE (xs.map clampI) ys = 0 ∧ costN (xs.map clampI) (ls.map fun n : Nat => (n : Int)) ≤ costN (xs.map clampI) ys ∧ ls.length = xs.length := by
  unfold K.goodL at hg
  rw [Bool.and_eq_true] at hg
  obtain ⟨hok, hroom⟩ := hg
  have hroom' := of_decide_eq_true hroom
  have hok' := hok
  unfold K.lensOk at hok'
  rw [Bool.and_eq_true, List.all_eq_true] at hok'
  obtain ⟨hlen, hall⟩ := hok'
  have hlen' : 2 ≤ ys.length ∧ ys.length ≤ 258 := by simpa using hlen
  have hall' : ∀ y ∈ ys, 1 ≤ y ∧ y ≤ 20 := fun y hy => of_decide_eq_true (hall y hy)
  have hcl : ∀ x ∈ xs, clampI x ≤ 610 := fun x hx => by have := hb x hx; unfold clampI; split <;> omega
  have hmay : mayL (xs.map clampI) = true := by
    unfold mayL
    rw [List.length_map, decide_eq_true (show 2 ≤ xs.length by omega), decide_eq_true (show xs.length ≤ 258 by omega), Bool.true_and, Bool.true_and, List.all_eq_true]
    intro z hz
    obtain ⟨x, hx, rfl⟩ := List.mem_map.1 hz
    have := hcl x hx
    have := clampI_pos x
    rw [decide_eq_true_eq]
    omega
  have hown : ownN (xs.map clampI) = ownN xs := by
    simp only [ownN, List.map_map]
    apply List.map_congr_left
    intro x _
    have h1 := clampI_pos x
    simp only [Function.comp]
    rw [show clampI (clampI x) = clampI x from if_pos h1]
  have hpos : ∀ x ∈ ownN xs, 1 ≤ x := by
    intro x hx
    obtain ⟨y, hy, rfl⟩ := List.mem_map.1 hx
    have := clampI_pos y
    omega
  obtain ⟨ls, hls⟩ := K.hrun_lens (ownN xs) hpos (by rw [ownN_length]; omega)
  have htold : K.Told (ownN xs) ls := hls
  have h12 := K.low_of htold hs
  have hll : ls.length = xs.length := by rw [hls.len, ownN_length]
  have hans : MakeAns (xs.map clampI) 12 (ls, 0) := .inr ⟨by rw [hmay]; decide, rfl, 0, by omega, by rw [hown]; exact ⟨htold, h12⟩⟩
  have c1 : costOk (xs.map clampI) (ls.map fun n : Nat => (n : Int)) = true := by
    unfold costOk
    rw [hmay, List.length_map, List.length_map, decide_eq_true hll, Bool.true_and, Bool.true_and, List.all_eq_true]
    intro z hz
    obtain ⟨x, hx, rfl⟩ := List.mem_map.1 hz
    have := h12 x hx
    rw [decide_eq_true_eq]
    omega
  have c2 : costOk (xs.map clampI) ys = true := by
    unfold costOk
    rw [hmay, List.length_map, decide_eq_true hl, Bool.true_and, Bool.true_and, List.all_eq_true]
    intro z hz
    have := hall' z hz
    rw [decide_eq_true_eq]
    omega
  refine ⟨ls, hans, by unfold costE; rw [c1]; rfl, by unfold costE; rw [c2]; rfl, ?_, hll⟩
  unfold costN
  rw [c1, c2, if_pos rfl, if_pos rfl]
  have hw : xs.map clampI = (ownN xs).map fun n : Nat => (n : Int) := by
    simp only [ownN, List.map_map]
    apply List.map_congr_left
    intro x _
    have := clampI_pos x
    simp only [Function.comp]
    omega
  have hys := toNat_map (ys := ys) (fun y hy => by have := hall' y hy; omega)
  have hb2 := hls.best (ys.map Int.toNat) (by rw [List.length_map, ownN_length, hl]) (by
    intro x hx
    obtain ⟨y, hy, rfl⟩ := List.mem_map.1 hx
    have := hall' y hy
    omega) (by
    have e : K.natsOf ys = ys.map Int.toNat := rfl
    have e2 : K.room (K.natsOf ys) = ((ys.map Int.toNat).map fun x => 2 ^ (20 - x)).sum := rfl
    rw [← e2]
    omega)
  rw [hw]
  have d1 := dotI_zip (ownN xs) ls hls.len
  have d2 := dotI_zip (ownN xs) (ys.map Int.toNat) (by rw [List.length_map, ownN_length, hl])
  rw [hys] at d2
  have n1 : (ls.map fun n : Nat => (n : Int)).length = (ownN xs).length := by rw [List.length_map, hls.len]
  have n2 : ys.length = (ownN xs).length := by rw [ownN_length, hl]
  rw [n1, n2, d1, d2]
  omega
theorem own_part (xs : List Int) (i : Nat) (x : Int) (h : xs[i]? = some x) : (ownN (xs.take (i + 1))).sum = (ownN (xs.take i)).sum + (clampI x).toNat := by
  obtain ⟨hi, hv⟩ := List.getElem?_eq_some_iff.1 h
  rw [List.take_succ_eq_append_getElem hi, hv]
  simp [ownN]
def BestI (w0 : World) (xs : List Int) (v5 : Value) (g : Nat) (v6 v7 : Value) (wr : World) : Prop :=
  ∃ i s : Nat, g = xs.length - i ∧ i ≤ xs.length ∧ s ≤ i * 610 ∧ v7 = .int .i64 (i : Nat) ∧ v6 = .int .i64 (s : Nat) ∧ Hid (s = (ownN (xs.take i)).sum) ∧ Hid (∀ x ∈ xs.take i, 0 ≤ x ∧ x < 610) ∧
    Hid (Row wr 3 v5 (intVals ((xs.take i).map clampI ++ xs.drop i))) ∧ Hid (Kept [] w0 wr)
set_option maxRecDepth 100000 in
set_option maxHeartbeats 2000000 in
theorem lengthsBest_walk (a0 : Option Addr) (len0 cap0 : Nat) (xs : List Int) (a1 : Option Addr) (len1 cap1 : Nat) (ys : List Int) (w : World)
    (h0 : Sees w 1 a0 len0 (xs.map (Value.int .i64)) ∧ xs.length = len0 ∧ len0 ≤ cap0 ∧ cap0 ≤ maxLen ∧ len0 ≤ 17592186043904 ∧ (∀ x ∈ xs, -9223372036854775808 ≤ x ∧ x ≤ 9223372036854775807) ∧ (a0 = none → cap0 = 0))
    (h1 : Sees w 1 a1 len1 (ys.map (Value.int .i64)) ∧ ys.length = len1 ∧ len1 ≤ cap1 ∧ cap1 ≤ maxLen ∧ len1 ≤ 17592186043904 ∧ (∀ x ∈ ys, -9223372036854775808 ≤ x ∧ x ≤ 9223372036854775807) ∧ (a1 = none → cap1 = 0)) :
    Calls Try.prog 9 #[.slice a0 len0 cap0, .slice a1 len1 cap1] w fun e w' => e = .returned (.bool true) ∧ Kept [] w w' := by
  obtain ⟨hsee, rfl, -, -, hlen, -, -⟩ := h0
  obtain ⟨hsee1, rfl, -, -, hlen1, -, -⟩ := h1
  have hsee : Sees w 1 a0 xs.length (intVals xs) := hsee
  have hsee1 : Sees w 1 a1 ys.length (intVals ys) := hsee1
  have HS := Lib.hid hsee
  have HS1 := Lib.hid hsee1
  have M := check_any a1 cap1 ys w hsee1 (by omega)
  clear hsee hsee1
  by_cases hx : xs.length ≤ 258
  · have g1 : decide (258 < (xs.length : Int)) = false := by simp; omega
    by_cases hxy : xs.length = ys.length
    · have g2 : ((xs.length : Int) != (ys.length : Int)) = false := by simp; omega
      have HXY := Lib.hid hxy
      by_cases hgood : K.goodL ys = true
      · have hck : checkR ys = 0 := by unfold checkR; rw [hgood]; rfl
        rw [hck] at M
        have HGOOD := Lib.hid hgood
        have hy2 : 2 ≤ xs.length := by
          unfold K.goodL K.lensOk at hgood
          rw [Bool.and_eq_true, Bool.and_eq_true] at hgood
          have := hgood.1.1
          simp at this
          omega
        have hone : ∀ u ∈ intVals xs, u.oneCell' = true := by
          intro u hu
          obtain ⟨c, -, rfl⟩ := List.mem_map.1 hu
          rfl
        have HONE := Lib.hid hone
        have HSA := Lib.hid (show Sees (w.alloc (.cells #[] 3)) 1 a0 xs.length (intVals xs) from HS.out.kept0 ((Kept.refl [] w).alloc _))
        obtain ⟨b, off, rfl, -⟩ := HS.out.at (by rw [intVals_length]; omega)
        clear hone hck hgood hxy
        go_enter Try.func9, Try.ntmps9
        go_wp2_with fail
        refine M.mono ?_
        rintro e w1 ⟨rfl, rfl⟩
        clear M
        go_wp2_with ((at_builtin; refine wp_appS rfl _ _ 22 rfl 3 (.int .i64 0) 8 Try.underlying22 Try.infoInt rfl (.slice (some ⟨w.heap.size, 0, none⟩) 0 0) [] (intVals xs) (some ⟨b, off, none⟩) xs.length cap0 rfl rfl HONE.out (Row.empty w _) HSA.out (fun h => by cases h) (by simp [maxLen]; omega) (by simp; omega) ?_; intro a4 cap4 w4 hrow4 hk4 hg4))
        simp only [List.nil_append, List.length_nil, Nat.zero_add] at hrow4 hg4
        have hl4 : (intVals xs).length = xs.length := intVals_length xs
        have HK4 := Lib.hid (((Kept.refl [] w).alloc _).new hk4 (by intro x hx; simp [foot, Value.ownBlock] at hx; omega))
        obtain ⟨go, cO, hv, hcw, -, -⟩ := hrow4.open (by omega)
        injection hv with hv1 hv2 hv3
        subst hv1
        clear hv2
        subst hv3
        have HGO := Lib.hid (show w.heap.size ≤ go by
          rcases hg4 go (by simp [foot, Value.ownBlock]) with h | h
          · simp [foot, Value.ownBlock] at h; omega
          · simp at h; omega)
        have HROW := Lib.hid hrow4
        clear hrow4 hk4 hg4 hl4 hcw HSA
        go_loopg [6, 7] xs.length (fun g v6 v7 wr => BestI w xs (.slice (some ⟨go, 0, none⟩) xs.length cap4) g v6 v7 wr)
        case atStart => exact ⟨0, 0, by omega, by omega, by omega, rfl, rfl, Lib.hid rfl, Lib.hid (by simp), by simpa using HROW, HK4⟩
        case round =>
          clear HROW HK4
          obtain ⟨i, s, hg, hi, hs, rfl, rfl, HSUM, HB, HR, HK⟩ := hrel
          have Hg := Lib.hid hg
          clear hg
          by_cases hlt : i < xs.length
          · have hli : (i : Int) < (xs.length : Int) := by omega
            obtain ⟨x, hx'⟩ : ∃ x, xs[i]? = some x := ⟨_, List.getElem?_eq_getElem hlt⟩
            have c0 := HR.out.cellAt (intVals_get _ _ _ (clamp_at xs i x hx'))
            have f0 := HR.out.free i
            have HX := Lib.hid hx'
            clear hx'
            by_cases hbad : x < 0 ∨ 610 ≤ x
            · by_cases hneg : x < 0
              · have k1 : decide (x < 0) = true := by simp; omega
                go_wp2_with fail
                refine (awakeL _).mono ?_
                rintro e w2 ⟨rfl, hk2⟩
                go_wp2_with fail
                go_ret
                exact ⟨rfl, HK.out.new hk2 (by simp [Fresh])⟩
              · have k1 : decide (x < 0) = false := by simp; omega
                have k2 : decide (610 ≤ x) = true := by simp; omega
                go_wp2_with fail
                refine (awakeL _).mono ?_
                rintro e w2 ⟨rfl, hk2⟩
                go_wp2_with fail
                go_ret
                exact ⟨rfl, HK.out.new hk2 (by simp [Fresh])⟩
            · have k1 : decide (x < 0) = false := by simp; omega
              have k2 : decide (610 ≤ x) = false := by simp; omega
              have hx0 : 0 ≤ x := by omega
              have hx6 : x < 610 := by omega
              have hsi : s ≤ 157380 := by omega
              have c1 := (HR.out.put i (.int .i64 (clampI x))).cellAt (j := i) (u := .int .i64 (clampI x)) (by rw [List.getElem?_set_self (by have := (List.getElem?_eq_some_iff.1 (intVals_get _ _ _ (clamp_at xs i x HX.out))).1; exact this)])
              have HCL := Lib.hid (show clampI x = max x 1 by unfold clampI; rw [Int.max_def]; split <;> split <;> omega)
              clear hbad
              rw [HCL.out] at c1
              have c2 := c1
              clear c1
              go_wp2_with fail
              go_roundg (xs.length - (i + 1))
              case measure => have := Hg.out; omega
              case rel =>
                have hs2 := HR.out.put i (.int .i64 (clampI x))
                rw [← intVals_set, clamp_set xs i x HX.out, HCL.out] at hs2
                have hk2 := HK.out.setCell (p := ⟨go, i, none⟩) (.inr HGO.out) (.int .i64 (max x 1))
                have hcp := clampI_pos x
                have hcb : clampI x ≤ 610 := by unfold clampI; split <;> omega
                have hmx := HCL.out
                refine ⟨i + 1, s + (clampI x).toNat, by omega, by omega, by omega, by simp, ?_, Lib.hid (by rw [HSUM.out, own_part xs i x HX.out]), Lib.hid fun y hy => ?_, Lib.hid hs2, Lib.hid hk2⟩
                · rw [← hmx]
                  congr 1
                  omega
                · rcases take_mem HX.out hy with h | h
                  · exact HB.out y h
                  · omega
          · obtain rfl : i = xs.length := by omega
            have hll : ¬ (xs.length : Int) < (xs.length : Int) := by omega
            have hrow := HR.out
            rw [List.take_of_length_le (Nat.le_refl _), List.drop_of_length_le (Nat.le_refl _), List.append_nil] at hrow
            have hsum := HSUM.out
            have hball := HB.out
            rw [List.take_of_length_le (Nat.le_refl _)] at hsum hball
            by_cases h6 : 610 ≤ s
            · have k3 : (610 : Int) ≤ (s : Int) := by omega
              clear hrow hsum hball
              go_wp2_with fail
              refine (awakeL _).mono ?_
              rintro e w2 ⟨rfl, hk2⟩
              go_wp2_with fail
              go_ret
              exact ⟨rfl, HK.out.new hk2 (by simp [Fresh])⟩
            · have k3 : ¬ (610 : Int) ≤ (s : Int) := by omega
              obtain ⟨ls, hans, e1, e2, hle, hll2⟩ := best_of hball HXY.out.symm HGOOD.out (by omega)
              have HROWN := Lib.hid hrow
              have HLE := Lib.hid hle
              have HE1 := Lib.hid e1
              have HE2 := Lib.hid e2
              have HL2 := Lib.hid hll2
              have hzl : (xs.map clampI).length = xs.length := List.length_map _
              have HZL := Lib.hid hzl
              have M := wmake_any (some ⟨go, 0, none⟩) cap4 (xs.map clampI) 12 (ls, 0) wr (by rw [hzl]; exact HROWN.out.seeA) (by omega) hans
              rw [hzl] at M
              clear hrow hsum hball hans e1 e2 hle hll2 hzl HR HSUM HB
              go_wp2_with fail
              refine M.mono ?_
              rintro e w2 ⟨a2, c2, rfl, hrow2, hk2, -⟩
              have HR2 := Lib.hid hrow2.seeA
              have HRO2 := Lib.hid ((HROWN.out.kept hk2 (by simp)).seeA)
              have HK2 := Lib.hid (HK.out.new hk2 (by simp [Fresh]))
              have C1 := cost_any (some ⟨go, 0, none⟩) a2 cap4 c2 (xs.map clampI) (ls.map fun n : Nat => (n : Int)) w2 (by rw [HZL.out]; exact HRO2.out) (by rw [HZL.out]; omega) (by rw [List.length_map, ← natVals_int]; exact HR2.out) (by rw [List.length_map, HL2.out]; omega)
              rw [HZL.out, List.length_map] at C1
              clear M hrow2 hk2 HROWN HK
              go_wp2_with fail
              refine C1.mono ?_
              rintro e w3 ⟨rfl, rfl⟩
              rw [HE1.out]
              have C2 := cost_any (some ⟨go, 0, none⟩) a1 cap4 cap1 (xs.map clampI) ys w2 (by rw [HZL.out]; exact HRO2.out) (by rw [HZL.out]; omega) (HS1.out.kept0 HK2.out) (by omega)
              rw [HZL.out] at C2
              clear C1
              go_wp2_with fail
              refine C2.mono ?_
              rintro e w4 ⟨rfl, rfl⟩
              rw [HE2.out]
              have k4 : decide (costN (xs.map clampI) (ls.map fun n : Nat => (n : Int)) ≤ costN (xs.map clampI) ys) = true := by simpa using HLE.out
              generalize costN (xs.map clampI) (ls.map fun n : Nat => (n : Int)) = A at *
              generalize costN (xs.map clampI) ys = B at *
              clear C2
              go_wp2_with fail
              refine (awakeL _).mono ?_
              rintro e w5 ⟨rfl, hk5⟩
              go_wp2_with fail
              go_ret
              exact ⟨rfl, HK2.out.new hk5 (by simp [Fresh])⟩
      · have hck : checkR ys = 80 := by unfold checkR; rw [if_neg hgood]
        rw [hck] at M
        clear hck hxy hgood
        go_enter Try.func9, Try.ntmps9
        go_wp2_with fail
        refine M.mono ?_
        rintro e w1 ⟨rfl, rfl⟩
        go_wp2_with fail
        refine (awakeL _).mono ?_
        rintro e w5 ⟨rfl, hk5⟩
        go_wp2_with fail
        go_ret
        exact ⟨rfl, hk5⟩
    · have g2 : ((xs.length : Int) != (ys.length : Int)) = true := by simp; omega
      clear M
      go_enter Try.func9, Try.ntmps9
      go_wp2_with fail
      refine (awakeL _).mono ?_
      rintro e w5 ⟨rfl, hk5⟩
      go_wp2_with fail
      go_ret
      exact ⟨rfl, hk5⟩
  · have g1 : decide (258 < (xs.length : Int)) = true := by simp; omega
    clear M
    go_enter Try.func9, Try.ntmps9
    go_wp2_with fail
    refine (awakeL _).mono ?_
    rintro e w5 ⟨rfl, hk5⟩
    go_wp2_with fail
    go_ret
    exact ⟨rfl, hk5⟩
end Go.Proofs.Ytcjkjknahalpnaa
