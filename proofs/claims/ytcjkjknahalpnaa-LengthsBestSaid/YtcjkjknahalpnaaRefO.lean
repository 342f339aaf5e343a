/-
  The walk of kistref08.Make.
-/
import Derived.Test.YtcjkjknahalpnaaRefN
import Derived.Test.YtcjkjknahalpnaaLenD
namespace Go.Proofs.Ytcjkjknahalpnaa
open Go.RowKit
set_option linter.unusedVariables false
set_option linter.unusedSimpArgs false

/-- A weight that is at least 1. -/
def clampI (x : Int) : Int := if 1 ≤ x then x else 1
def ownN (xs : List Int) : List Nat := xs.map fun x => (clampI x).toNat
theorem clampI_pos (x : Int) : 1 ≤ clampI x := by unfold clampI; split <;> omega
theorem ownN_vals (xs : List Int) : intVals (xs.map clampI) = natVals (ownN xs) := by
  rw [natVals_int]
  congr 1
  simp only [ownN, List.map_map]
  apply List.map_congr_left
  intro x _
  have := clampI_pos x
  simp only [Function.comp]
  omega
theorem ownN_length (xs : List Int) : (ownN xs).length = xs.length := by simp [ownN]
theorem ownN_bd {xs : List Int} (h : mayL xs = true) : ∀ x ∈ ownN xs, 1 ≤ x ∧ x ≤ 1073741824 := by
  intro x hx
  obtain ⟨y, hy, rfl⟩ := List.mem_map.1 hx
  have h1 := (mayL_get h).2.2 y hy
  unfold clampI
  split <;> omega
theorem own_sum {w : List Nat} (hl : w.length ≤ 258) (h : ∀ x ∈ w, 1 ≤ x ∧ x ≤ 1073741824) : w.sum ≤ 1000000000000 := by
  have h1 := K.sum_le w 1073741824 (fun x hx => (h x hx).2)
  have h2 : w.length * 1073741824 ≤ 258 * 1073741824 := Nat.mul_le_mul_right _ hl
  omega
theorem clamp_set (xs : List Int) (i : Nat) (x : Int) (h : xs[i]? = some x) : ((xs.take i).map clampI ++ xs.drop i).set i (clampI x) = (xs.take (i + 1)).map clampI ++ xs.drop (i + 1) := by
  obtain ⟨hi, hv⟩ := List.getElem?_eq_some_iff.1 h
  have hl : ((xs.take i).map clampI).length = i := by simp; omega
  rw [List.set_append_right _ _ (by omega), hl, Nat.sub_self, List.drop_eq_getElem_cons hi, List.set_cons_zero, List.take_succ_eq_append_getElem hi, hv]
  simp
theorem clamp_at (xs : List Int) (i : Nat) (x : Int) (h : xs[i]? = some x) : ((xs.take i).map clampI ++ xs.drop i)[i]? = some x := by
  obtain ⟨hi, hv⟩ := List.getElem?_eq_some_iff.1 h
  have hl : ((xs.take i).map clampI).length = i := by simp; omega
  rw [List.getElem?_append_right (by omega), hl, Nat.sub_self, List.getElem?_drop]
  simpa using h
theorem intVals_set (l : List Int) (i : Nat) (x : Int) : intVals (l.set i x) = (intVals l).set i (.int .i64 x) := by simp [intVals, List.map_set]
theorem max_more {ls : List Nat} {m : Int} {most : Nat} (h1 : m ∈ ls.map fun n : Nat => (n : Int)) (h2 : ∀ x ∈ ls.map fun n : Nat => (n : Int), x ≤ m) : (m ≤ (most : Int)) ↔ ∀ x ∈ ls, x ≤ most := by
  constructor
  · intro h x hx
    have := h2 (x : Int) (List.mem_map.2 ⟨x, hx, rfl⟩)
    omega
  · intro h
    obtain ⟨x, hx, rfl⟩ := List.mem_map.1 h1
    have := h x hx
    omega
/-- Make's answer: the lengths, or none. -/
def mostOk (most : Int) : Bool := decide (12 ≤ most ∧ most ≤ 20)

/-- The weights are clamped. -/
def ClampI (w0 : World) (xs : List Int) (go cO : Nat) (g : Nat) (v : Value) (wr : World) : Prop :=
  ∃ i : Nat, g = xs.length - i ∧ i ≤ xs.length ∧ v = .int .i64 (i : Nat) ∧ Hid (Row wr 3 (.slice (some ⟨go, 0, none⟩) xs.length cO) (intVals ((xs.take i).map clampI ++ xs.drop i))) ∧ Hid (Kept [] w0 wr)
/-- A try was made. -/
def TryI (w0 : World) (most N : Nat) (ls : List Nat) (go cO : Nat) (g : Nat) (v8 v9 : Value) (wr : World) : Prop :=
  ∃ (k c : Nat) (wc lc : List Nat) (a : Option Addr) (cA : Nat), k = g ∧ Hid (K.MadeN most k wc ls) ∧ c + k ≤ 39 ∧ v9 = .int .i64 (c : Nat) ∧ v8 = .slice a N cA ∧ Hid (wc.length = N ∧ lc.length = N) ∧ Hid (∀ x ∈ wc, 1 ≤ x ∧ x ≤ 1073741824) ∧ Hid (K.Told wc lc) ∧
    Hid (Row wr 3 (.slice (some ⟨go, 0, none⟩) N cO) (natVals wc)) ∧ Hid (Row wr 3 (.slice a N cA) (natVals lc)) ∧ Hid (Kept [] w0 wr) ∧ Hid (Fresh w0.heap.size (footA a))
def HalveI (w0 : World) (N : Nat) (wc : List Nat) (go cO : Nat) (g : Nat) (v : Value) (wr : World) : Prop :=
  ∃ i : Nat, g = N - i ∧ i ≤ N ∧ v = .int .i64 (i : Nat) ∧ Hid (Row wr 3 (.slice (some ⟨go, 0, none⟩) N cO) (natVals (K.halve (wc.take i) ++ wc.drop i))) ∧ Hid (Kept [] w0 wr)

theorem rmake_bad (a : Option Addr) (c : Nat) (xs : List Int) (most : Int) (w : World) (h : Sees w 1 a xs.length (intVals xs)) (hl : xs.length ≤ 17592186043904) (hno : (mayL xs && mostOk most) = false) :
    Calls Try.prog 11 #[.slice a xs.length c, .int .i64 most] w (NatsPost ([], 2) w) := by
  have M := wrmay_any a c xs w h hl
  clear h
  go_enter Try.func11, Try.ntmps11
  go_wp2_with fail
  refine M.mono ?_
  rintro e w' ⟨rfl, rfl⟩
  cases hm : mayL xs with
  | false =>
    clear hno
    go_wp2_with fail
    go_ret2
    exact .err rfl (Kept.refl _ _)
  | true =>
    rw [hm] at hno
    by_cases h1 : most < 12
    · have g1 : decide (most < 12) = true := by simp; omega
      clear hno
      go_wp2_with fail
      go_ret2
      exact .err rfl (Kept.refl _ _)
    · have g1 : decide (most < 12) = false := by simp; omega
      have g2 : decide (20 < most) = true := by
        unfold mostOk at hno
        simp at hno ⊢
        omega
      clear hno
      go_wp2_with fail
      go_ret2
      exact .err rfl (Kept.refl _ _)

set_option maxHeartbeats 1000000 in
theorem rmake_good (a : Option Addr) (c : Nat) (xs : List Int) (most n : Nat) (ls : List Nat) (w : World) (h : Sees w 1 a xs.length (intVals xs)) (hao : a = none → c = 0) (hm : mayL xs = true) (hm1 : 12 ≤ most) (hm2 : most ≤ 20)
    (hn : n ≤ 39) (hmade : K.MadeN most n (ownN xs) ls) :
    Calls Try.prog 11 #[.slice a xs.length c, .int .i64 (most : Int)] w (NatsPost (ls, 0) w) := by
  obtain ⟨hx2, hx258, hall⟩ := mayL_get hm
  have M := wrmay_any a c xs w h (by omega)
  rw [hm] at M
  have HS := Lib.hid h
  have HM := Lib.hid hm
  have HMADE := Lib.hid hmade
  have hone : ∀ u ∈ intVals xs, u.oneCell' = true := by
    intro u hu
    obtain ⟨c, -, rfl⟩ := List.mem_map.1 hu
    rfl
  have HONE := Lib.hid hone
  obtain ⟨b, off, rfl, -⟩ := h.at (by rw [intVals_length]; omega)
  have g1 : decide ((most : Int) < 12) = false := by simp; omega
  have g2 : decide (20 < (most : Int)) = false := by simp; omega
  clear h hm hmade hone hall hao
  go_enter Try.func11, Try.ntmps11
  go_wp2_with fail
  refine M.mono ?_
  rintro e w' ⟨rfl, rfl⟩
  clear M
  have hsA : Sees (w.alloc (.cells #[] 3)) 1 (some ⟨b, off, none⟩) xs.length (intVals xs) := HS.out.kept0 ((Kept.refl [] w).alloc _)
  go_wp2_with ((at_builtin; refine wp_appS rfl _ _ 22 rfl 3 (.int .i64 0) 8 Try.underlying22 Try.infoInt rfl (.slice (some ⟨w.heap.size, 0, none⟩) 0 0) [] (intVals xs) (some ⟨b, off, none⟩) xs.length c rfl rfl HONE.out (Row.empty w _) hsA (fun h => by cases h) (by simp [maxLen]; omega) (by simp; omega) ?_; intro a4 cap4 w4 hrow4 hk4 hg4))
  simp only [List.nil_append, List.length_nil, Nat.zero_add] at hrow4 hg4
  have hl4 : (intVals xs).length = xs.length := intVals_length xs
  have hk4 : Kept [] w w4 := ((Kept.refl [] w).alloc _).new hk4 (by intro x hx; simp [foot, Value.ownBlock] at hx; omega)
  obtain ⟨go, cO, hv, hcw, -, -⟩ := hrow4.open (by omega)
  injection hv with hv1 hv2 hv3
  subst hv1
  clear hv2
  subst hv3
  have hgo : w.heap.size ≤ go := by
    rcases hg4 go (by simp [foot, Value.ownBlock]) with h | h
    · simp [foot, Value.ownBlock] at h; omega
    · simp at h; omega
  have HROW := Lib.hid hrow4
  have HK4 := Lib.hid hk4
  clear hrow4 hk4 hg4 hl4 hcw hsA
  go_loopg [7] xs.length (fun g v wr => ClampI w xs go cap4 g v wr)
  case atStart => exact ⟨0, by omega, by omega, rfl, by simpa using HROW, HK4⟩
  case round =>
    obtain ⟨i, hg, hi, rfl, HR, HK⟩ := hrel
    have Hg := Lib.hid hg
    clear hg
    by_cases hlt : i < xs.length
    · have hli : (i : Int) < (xs.length : Int) := by omega
      obtain ⟨x, hx⟩ : ∃ x, xs[i]? = some x := ⟨_, List.getElem?_eq_getElem hlt⟩
      have c0 := HR.out.cellAt (intVals_get _ _ _ (clamp_at xs i x hx))
      have f0 := HR.out.free i
      have HX := Lib.hid hx
      clear hx
      by_cases h1 : 1 ≤ x
      all_goals
        go_wp2_with fail
        go_roundg (xs.length - (i + 1))
        case measure => have := Hg.out; omega
        case rel =>
          have hs := HR.out.put i (.int .i64 (clampI x))
          rw [← intVals_set, clamp_set xs i x HX.out] at hs
          have hk := HK.out.setCell (p := ⟨go, i, none⟩) (.inr hgo) (.int .i64 (clampI x))
          first
            | rw [show clampI x = x from if_pos h1] at hs hk
            | rw [show clampI x = 1 from if_neg (by omega)] at hs hk
          exact ⟨i + 1, by omega, by omega, by simp, Lib.hid hs, Lib.hid hk⟩
    · obtain rfl : i = xs.length := by omega
      have hll : ¬ (xs.length : Int) < (xs.length : Int) := by omega
      have hrow := HR.out
      rw [List.take_of_length_le (Nat.le_refl _), List.drop_of_length_le (Nat.le_refl _), List.append_nil, ownN_vals] at hrow
      have HROWN := Lib.hid hrow
      have HBD := Lib.hid (ownN_bd HM.out)
      have HOL := Lib.hid (ownN_length xs)
      obtain ⟨wc, hwc⟩ : ∃ wc, ownN xs = wc := ⟨_, rfl⟩
      have hlN : wc.length = xs.length := by rw [← hwc]; exact HOL.out
      rw [hwc] at HROWN HBD HMADE
      obtain ⟨lc, hlc⟩ := K.hrun_lens wc (fun x hx => (HBD.out x hx).1) (by omega)
      have G := rgrown_any (some ⟨go, 0, none⟩) cap4 wc lc wr (by rw [hlN]; exact HROWN.out.seeA) (by omega) (by omega) (fun x hx => (HBD.out x hx).1) (own_sum (by omega) HBD.out) hlc
      have HLC := Lib.hid (show K.Told wc lc from hlc)
      have hlcl : lc.length = xs.length := by rw [hlc.len, hlN]
      rw [hlN] at G
      have HLN := Lib.hid (And.intro hlN hlcl)
      clear hrow HR hwc hlN hlc hlcl Hg HOL HS HM HONE
      go_wp2_with fail
      refine G.mono ?_
      rintro e w5 ⟨a5, c5, rfl, hrow5, hk5, hf5⟩
      rw [HLN.out.2] at hrow5 ⊢
      have HR5 := Lib.hid hrow5
      have HF5 := Lib.hid (Fresh.mono hf5 HK.out.size)
      have HKN := Lib.hid (HK.out.trans hk5 (by simp))
      have HRO5 := Lib.hid (HROWN.out.kept hk5 (by simp))
      clear hrow5 hk5 hf5 G HK HROWN
      have HGO := Lib.hid hgo
      clear hgo
      go_wp2_with fail
      go_loopg [8, 9] n (fun g v8 v9 wr => TryI w most xs.length ls go cap4 g v8 v9 wr)
      case atStart => exact ⟨n, 0, wc, lc, a5, c5, rfl, HMADE, by omega, rfl, rfl, HLN, HBD, HLC, HRO5, HR5, HKN, HF5⟩
      case round =>
        clear HMADE HLN HBD HLC HRO5 HR5 HKN HF5
        obtain ⟨k, c, wc, lc, a8, c8, rfl, HMADE, hck, rfl, rfl, HLN, HBD, HLC, HRO, HR8, HKN, HF8⟩ := hrel
        have hc40 : (c : Int) < 40 := by omega
        have G := greatest_any a8 c8 (lc.map fun n : Nat => (n : Int)) wr (by rw [List.length_map, HLN.out.2, ← natVals_int]; exact HR8.out.seeA) (by rw [List.length_map, HLN.out.2]; omega) (by rw [List.length_map, HLN.out.2]; omega)
        rw [List.length_map, HLN.out.2] at G
        obtain ⟨wo, rfl⟩ : ∃ wo : World, wo = wr := ⟨_, rfl⟩
        rcases Nat.eq_zero_or_pos k with hk0 | hk0
        · subst hk0
          obtain ⟨t1, t2⟩ := HMADE.out
          have e1 := K.told_one t1 HLC.out
          subst e1
          have T2 := Lib.hid t2
          clear t1 t2
          go_wp2_with fail
          refine G.mono ?_
          rintro e w6 ⟨m, rfl, h1, h2, rfl⟩
          have hmm := (max_more h1 h2).2 T2.out
          have g3 : decide ((most : Int) < m) = false := by simp; omega
          clear h1 h2
          go_wp2_with fail
          go_ret2
          have hr := HR8.out
          have hl := HLN.out.2
          rw [← hl] at hr
          exact ⟨a8, c8, by rw [hl]; rfl, hr, HKN.out, HF8.out⟩
        · obtain ⟨r, rfl⟩ : ∃ r, k = r + 1 := ⟨k - 1, by omega⟩
          obtain ⟨l0, t1, t2, t3⟩ := HMADE.out
          have e1 := K.told_one t1 HLC.out
          subst e1
          have T2 := Lib.hid t2
          have T3 := Lib.hid t3
          clear t1 t2 t3 HMADE
          go_wp2_with fail
          refine G.mono ?_
          rintro e w6 ⟨m, rfl, h1, h2, rfl⟩
          have hmm : ¬ (m ≤ (most : Int)) := fun hm => by
            obtain ⟨x, hx, hlt⟩ := T2.out
            have := (max_more h1 h2).1 hm x hx
            omega
          have g3 : decide ((most : Int) < m) = true := by simp; omega
          clear h1 h2 G
          go_wp2_with fail
          go_loopg [10] xs.length (fun g v wr => HalveI w xs.length wc go cap4 g v wr)
          case atStart => exact ⟨0, by omega, by omega, rfl, by simpa [K.halve] using HRO, HKN⟩
          case round =>
            obtain ⟨i, hg, hi, rfl, HR, HK⟩ := hrel
            have Hg := Lib.hid hg
            clear hg
            by_cases hlt : i < xs.length
            · have hli : (i : Int) < (xs.length : Int) := by omega
              obtain ⟨x, hx⟩ : ∃ x, wc[i]? = some x := ⟨_, List.getElem?_eq_getElem (by have := HLN.out.1; omega)⟩
              have hxb : x ≤ 1073741824 := (HBD.out x (List.mem_of_getElem? hx)).2
              have c0 := HR.out.cellAt (natVals_get (K.halve_at wc i x hx))
              have f0 := HR.out.free i
              have HX := Lib.hid hx
              clear hx
              go_wp2_with fail
              go_roundg (xs.length - (i + 1))
              case measure => have := Hg.out; omega
              case rel =>
                have hs := HR.out.put i (.int .i64 ((x / 2 + 1 : Nat) : Int))
                rw [← natVals_set, K.halve_take wc i x HX.out] at hs
                have hk := HK.out.setCell (p := ⟨go, i, none⟩) (.inr HGO.out) (.int .i64 ((x / 2 + 1 : Nat) : Int))
                exact ⟨i + 1, by omega, by omega, by simp, Lib.hid hs, Lib.hid hk⟩
            · obtain rfl : i = xs.length := by omega
              have hll : ¬ (xs.length : Int) < (xs.length : Int) := by omega
              have hrow := HR.out
              rw [List.take_of_length_le (by rw [HLN.out.1]; exact Nat.le_refl _), List.drop_of_length_le (by rw [HLN.out.1]; exact Nat.le_refl _), List.append_nil] at hrow
              have HROWN := Lib.hid hrow
              have hlN : (K.halve wc).length = xs.length := by rw [K.halve_length, HLN.out.1]
              have hbd : ∀ x ∈ K.halve wc, 1 ≤ x ∧ x ≤ 1073741824 := fun x hx => ⟨K.halve_pos wc x hx, K.halve_le (fun y hy => (HBD.out y hy).2) x hx⟩
              have HBD2 := Lib.hid hbd
              generalize K.halve wc = wd at *
              obtain ⟨ld, hlc⟩ := K.hrun_lens wd (fun x hx => (HBD2.out x hx).1) (by omega)
              have G := rgrown_any (some ⟨go, 0, none⟩) cap4 wd ld wr (by rw [hlN]; exact HROWN.out.seeA) (by omega) (by omega) (fun x hx => (HBD2.out x hx).1) (own_sum (by omega) HBD2.out) hlc
              have HLC2 := Lib.hid (show K.Told wd ld from hlc)
              have hlcl : ld.length = xs.length := by rw [hlc.len, hlN]
              rw [hlN] at G
              have HLN2 := Lib.hid (And.intro hlN hlcl)
              clear hrow HR hlN hlc hlcl Hg hbd
              go_wp2_with fail
              refine G.mono ?_
              rintro e w5 ⟨a5, c5, rfl, hrow5, hk5, hf5⟩
              rw [HLN2.out.2] at hrow5 ⊢
              have HR5 := Lib.hid hrow5
              have HF5 := Lib.hid (Fresh.mono hf5 HK.out.size)
              have HKN5 := Lib.hid (HK.out.trans hk5 (by simp))
              have HRO5 := Lib.hid (HROWN.out.kept hk5 (by simp))
              clear hrow5 hk5 hf5 G HK HROWN
              go_wp2_with fail
              go_roundg r
              case measure => omega
              case rel => exact ⟨r, c + 1, wd, ld, a5, c5, rfl, T3, by omega, by simp, rfl, HLN2, HBD2, HLC2, HRO5, HR5, HKN5, HF5⟩
end Go.Proofs.Ytcjkjknahalpnaa
