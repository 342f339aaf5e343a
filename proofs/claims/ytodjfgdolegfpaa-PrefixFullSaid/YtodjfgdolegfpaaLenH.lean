/-
  The walks of slices.Clone and lengths.Make.
-/
import Derived.Test.YtodjfgdolegfpaaLenG
import Derived.Test.YtodjfgdolegfpaaRefO
namespace Go.Proofs.Ytodjfgdolegfpaa
open Go.RowKit
set_option linter.unusedVariables false
set_option linter.unusedSimpArgs false

def ClonePost (xs : List Int) (w : World) (e : Ending) (w' : World) : Prop :=
  ∃ g c, e = .returned (.slice (some ⟨g, 0, none⟩) xs.length c) ∧ Row w' 3 (.slice (some ⟨g, 0, none⟩) xs.length c) (intVals xs) ∧ Kept [] w w' ∧ w.heap.size ≤ g
theorem clone_any (a : Option Addr) (c : Nat) (xs : List Int) (w : World) (h : Sees w 1 a xs.length (intVals xs)) (h0 : 1 ≤ xs.length) (hl : xs.length ≤ 1000000) :
    Calls Try.prog 40 #[.slice a xs.length c] w (ClonePost xs w) := by
  have HS := Lib.hid h
  have hone : ∀ u ∈ intVals xs, u.oneCell' = true := by
    intro u hu
    obtain ⟨c, -, rfl⟩ := List.mem_map.1 hu
    rfl
  have HONE := Lib.hid hone
  obtain ⟨b, off, rfl, -⟩ := h.at (by rw [intVals_length]; omega)
  clear h hone
  have hnil := fun W : World => Lib.run_eql_slice_nil (P := Try.prog) W 22 3 (some ⟨b, off, none⟩) xs.length c 0 0 Try.underlying22
  go_enter Try.func40, Try.ntmps40
  have hsA : Sees (w.alloc (.cells #[] 3)) 1 (some ⟨b, off, none⟩) xs.length (intVals xs) := HS.out.kept0 ((Kept.refl [] w).alloc _)
  go_wp2_with ((at_builtin; refine wp_appS rfl _ _ 22 rfl 3 (.int .i64 0) 8 Try.underlying22 Try.infoInt rfl (.slice (some ⟨w.heap.size, 0, none⟩) 0 0) [] (intVals xs) (some ⟨b, off, none⟩) xs.length c rfl rfl HONE.out (Row.empty w _) hsA (fun h => by cases h) (by simp [maxLen]; omega) (by simp; omega) ?_; intro a4 cap4 w4 hrow4 hk4 hg4))
  simp only [List.nil_append, List.length_nil, Nat.zero_add] at hrow4 hg4
  have hl4 : (intVals xs).length = xs.length := intVals_length xs
  have hk4 : Kept [] w w4 := ((Kept.refl [] w).alloc _).new hk4 (by intro x hx; simp [foot, Value.ownBlock] at hx; omega)
  obtain ⟨go, cO, hv, hcw, -, -⟩ := hrow4.open (by omega)
  injection hv with hv1 hv2 hv3
  subst hv1
  clear hv2
  subst hv3
  have hgo : w.heap.size ≤ go := by
    rcases hg4 go (by simp [foot, Value.ownBlock]) with h | h
    · simp [foot, Value.ownBlock] at h; omega
    · simp at h; omega
  clear hg4 hl4 hcw hsA
  go_ret
  exact ⟨go, _, rfl, hrow4, hk4, hgo⟩

theorem wmake_bad (a : Option Addr) (c : Nat) (xs : List Int) (most : Int) (w : World) (h : Sees w 1 a xs.length (intVals xs)) (hl : xs.length ≤ 17592186043904) (hno : (mayL xs && mostOk most) = false) :
    Calls Try.prog 22 #[.slice a xs.length c, .int .i64 most] w (NatsPost ([], 2) w) := by
  have M := wmay_any a c xs w h hl
  clear h
  go_enter Try.func22, Try.ntmps22
  go_wp2_with fail
  refine M.mono ?_
  rintro e w' ⟨rfl, rfl⟩
  cases hm : mayL xs with
  | false =>
    clear hno
    go_wp2_with fail
    go_ret2
    exact .err rfl (Kept.refl _ _)
  | true =>
    rw [hm] at hno
    by_cases h1 : most < 12
    · have g1 : decide (most < 12) = true := by simp; omega
      clear hno
      go_wp2_with fail
      go_ret2
      exact .err rfl (Kept.refl _ _)
    · have g1 : decide (most < 12) = false := by simp; omega
      have g2 : decide (20 < most) = true := by
        unfold mostOk at hno
        simp at hno ⊢
        omega
      clear hno
      go_wp2_with fail
      go_ret2
      exact .err rfl (Kept.refl _ _)

/-- The next try begins. -/
def LoopI (w0 : World) (most N : Nat) (ls : List Nat) (go cO : Nat) (g : Nat) (wr : World) : Prop :=
  ∃ (k : Nat) (wc : List Nat), k = g ∧ Hid (K.MadeN most k wc ls) ∧ Hid (wc.length = N) ∧ Hid (∀ x ∈ wc, 1 ≤ x ∧ x ≤ 1073741824) ∧ Hid (Row wr 3 (.slice (some ⟨go, 0, none⟩) N cO) (natVals wc)) ∧ Hid (Kept [] w0 wr)
set_option maxHeartbeats 1000000 in
theorem wmake_good (a : Option Addr) (c : Nat) (xs : List Int) (most n : Nat) (ls : List Nat) (w : World) (h : Sees w 1 a xs.length (intVals xs)) (hm : mayL xs = true) (hm1 : 12 ≤ most) (hm2 : most ≤ 20)
    (hmade : K.MadeN most n (ownN xs) ls) :
    Calls Try.prog 22 #[.slice a xs.length c, .int .i64 (most : Int)] w (NatsPost (ls, 0) w) := by
  obtain ⟨hx2, hx258, hall⟩ := mayL_get hm
  have M := wmay_any a c xs w h (by omega)
  have M2 := clone_any a c xs w h (by omega) (by omega)
  rw [hm] at M
  have HM := Lib.hid hm
  have HMADE := Lib.hid hmade
  have g1 : decide ((most : Int) < 12) = false := by simp; omega
  have g2 : decide (20 < (most : Int)) = false := by simp; omega
  clear h hm hmade hall
  go_enter Try.func22, Try.ntmps22
  go_wp2_with fail
  refine M.mono ?_
  rintro e w' ⟨rfl, rfl⟩
  clear M
  go_wp2_with fail
  refine M2.mono ?_
  rintro e w4 ⟨go, cap4, rfl, hrow4, hk4, hgo⟩
  have HROW := Lib.hid hrow4
  have HK4 := Lib.hid hk4
  clear hrow4 hk4 M2
  go_wp2_with fail
  go_loopg [27] xs.length (fun g v wr => ClampI w xs go cap4 g v wr)
  case atStart => exact ⟨0, by omega, by omega, rfl, by simpa using HROW, HK4⟩
  case round =>
    obtain ⟨i, hg, hi, rfl, HR, HK⟩ := hrel
    have Hg := Lib.hid hg
    clear hg
    by_cases hlt : i < xs.length
    · have hli : (i : Int) < (xs.length : Int) := by omega
      obtain ⟨x, hx⟩ : ∃ x, xs[i]? = some x := ⟨_, List.getElem?_eq_getElem hlt⟩
      have c0 := HR.out.cellAt (intVals_get _ _ _ (clamp_at xs i x hx))
      have f0 := HR.out.free i
      have HX := Lib.hid hx
      clear hx
      by_cases h1 : 1 ≤ x
      all_goals
        go_wp2_with fail
        go_roundg (xs.length - (i + 1))
        case measure => have := Hg.out; omega
        case rel =>
          have hs := HR.out.put i (.int .i64 (clampI x))
          rw [← intVals_set, clamp_set xs i x HX.out] at hs
          have hk := HK.out.setCell (p := ⟨go, i, none⟩) (.inr hgo) (.int .i64 (clampI x))
          first
            | rw [show clampI x = x from if_pos h1] at hs hk
            | rw [show clampI x = 1 from if_neg (by omega)] at hs hk
          exact ⟨i + 1, by omega, by omega, by simp, Lib.hid hs, Lib.hid hk⟩
    · obtain rfl : i = xs.length := by omega
      have hll : ¬ (xs.length : Int) < (xs.length : Int) := by omega
      have hrow := HR.out
      rw [List.take_of_length_le (Nat.le_refl _), List.drop_of_length_le (Nat.le_refl _), List.append_nil, ownN_vals] at hrow
      have HROWN := Lib.hid hrow
      have HBD := Lib.hid (ownN_bd HM.out)
      have HOL := Lib.hid (ownN_length xs)
      have HGO := Lib.hid hgo
      clear hrow HR Hg HM hgo HROW HK4
      go_wp2_with fail
      go_loopg [] n (fun g wr => LoopI w most xs.length ls go cap4 g wr)
      case atStart => exact ⟨n, _, rfl, HMADE, HOL, HBD, HROWN, HK⟩
      case round =>
        clear HMADE HOL HBD HROWN HK
        obtain ⟨k, wc, rfl, HMADE, HLN, HBD, HROWN, HK⟩ := hrel
        have hlN := HLN.out
        obtain ⟨lc, hlc⟩ := K.hrun_lens wc (fun x hx => (HBD.out x hx).1) (by omega)
        have G := grown_any (some ⟨go, 0, none⟩) cap4 wc lc wr (by rw [hlN]; exact HROWN.out.seeA) (by omega) (by omega) (fun x hx => (HBD.out x hx).1) (own_sum (by omega) HBD.out) hlc
        have HLC := Lib.hid (show K.Told wc lc from hlc)
        have hlcl : lc.length = xs.length := by rw [hlc.len, hlN]
        rw [hlN] at G
        have HLN2 := Lib.hid (And.intro hlN hlcl)
        clear hlN hlc hlcl HLN
        obtain ⟨wo, rfl⟩ : ∃ wo : World, wo = wr := ⟨_, rfl⟩
        go_wp2_with fail
        refine G.mono ?_
        rintro e w5 ⟨a5, c5, rfl, hrow5, hk5, hf5⟩
        rw [HLN2.out.2] at hrow5 ⊢
        have HR5 := Lib.hid hrow5
        have HF5 := Lib.hid (Fresh.mono hf5 HK.out.size)
        have HKN := Lib.hid (HK.out.trans hk5 (by simp))
        have HRO5 := Lib.hid (HROWN.out.kept hk5 (by simp))
        clear hrow5 hk5 hf5 G HK HROWN
        have G := max_any a5 c5 (lc.map fun n : Nat => (n : Int)) w5 (by rw [List.length_map, HLN2.out.2, ← natVals_int]; exact HR5.out.seeA) (by rw [List.length_map, HLN2.out.2]; omega) (by rw [List.length_map, HLN2.out.2]; omega)
        rw [List.length_map, HLN2.out.2] at G
        rcases Nat.eq_zero_or_pos k with hk0 | hk0
        · subst hk0
          obtain ⟨t1, t2⟩ := HMADE.out
          have e1 := K.told_one t1 HLC.out
          subst e1
          have T2 := Lib.hid t2
          clear t1 t2
          go_wp2_with fail
          refine G.mono ?_
          rintro e w6 ⟨m, rfl, h1, h2, rfl⟩
          have hmm := (max_more h1 h2).2 T2.out
          have g3 : decide (m ≤ (most : Int)) = true := by simp; omega
          clear h1 h2
          go_wp2_with fail
          go_ret2
          have hr := HR5.out
          have hl := HLN2.out.2
          rw [← hl] at hr
          exact ⟨a5, c5, by rw [hl]; rfl, hr, HKN.out, HF5.out⟩
        · obtain ⟨r, rfl⟩ : ∃ r, k = r + 1 := ⟨k - 1, by omega⟩
          obtain ⟨l0, t1, t2, t3⟩ := HMADE.out
          have e1 := K.told_one t1 HLC.out
          subst e1
          have T2 := Lib.hid t2
          have T3 := Lib.hid t3
          clear t1 t2 t3 HMADE
          go_wp2_with fail
          refine G.mono ?_
          rintro e w6 ⟨m, rfl, h1, h2, rfl⟩
          have hmm : ¬ (m ≤ (most : Int)) := fun hm => by
            obtain ⟨x, hx, hlt⟩ := T2.out
            have := (max_more h1 h2).1 hm x hx
            omega
          have g3 : decide (m ≤ (most : Int)) = false := by simp; omega
          clear h1 h2 G
          go_wp2_with fail
          go_loopg [47] xs.length (fun g v wr => HalveI w xs.length wc go cap4 g v wr)
          case atStart => exact ⟨0, by omega, by omega, rfl, by simpa [K.halve] using HRO5, HKN⟩
          case round =>
            obtain ⟨i, hg, hi, rfl, HR, HK⟩ := hrel
            have Hg := Lib.hid hg
            clear hg
            by_cases hlt : i < xs.length
            · have hli : (i : Int) < (xs.length : Int) := by omega
              obtain ⟨x, hx⟩ : ∃ x, wc[i]? = some x := ⟨_, List.getElem?_eq_getElem (by have := HLN2.out.1; omega)⟩
              have hxb : x ≤ 1073741824 := (HBD.out x (List.mem_of_getElem? hx)).2
              have c0 := HR.out.cellAt (natVals_get (K.halve_at wc i x hx))
              have f0 := HR.out.free i
              have HX := Lib.hid hx
              clear hx
              go_wp2_with fail
              go_roundg (xs.length - (i + 1))
              case measure => have := Hg.out; omega
              case rel =>
                have hs := HR.out.put i (.int .i64 ((x / 2 + 1 : Nat) : Int))
                rw [← natVals_set, K.halve_take wc i x HX.out] at hs
                have hk := HK.out.setCell (p := ⟨go, i, none⟩) (.inr HGO.out) (.int .i64 ((x / 2 + 1 : Nat) : Int))
                exact ⟨i + 1, by omega, by omega, by simp, Lib.hid hs, Lib.hid hk⟩
            · obtain rfl : i = xs.length := by omega
              have hll : ¬ (xs.length : Int) < (xs.length : Int) := by omega
              have hrow := HR.out
              rw [List.take_of_length_le (by rw [HLN2.out.1]; exact Nat.le_refl _), List.drop_of_length_le (by rw [HLN2.out.1]; exact Nat.le_refl _), List.append_nil] at hrow
              have HRN := Lib.hid hrow
              have HLN3 := Lib.hid (show (K.halve wc).length = xs.length by rw [K.halve_length, HLN2.out.1])
              have HBD2 := Lib.hid (show ∀ x ∈ K.halve wc, 1 ≤ x ∧ x ≤ 1073741824 from fun x hx => ⟨K.halve_pos wc x hx, K.halve_le (fun y hy => (HBD.out y hy).2) x hx⟩)
              clear hrow
              go_wp2_with fail
              go_roundg r
              case measure => omega
              case rel => exact ⟨r, K.halve wc, rfl, T3, HLN3, HBD2, HRN, HK⟩
end Go.Proofs.Ytodjfgdolegfpaa
