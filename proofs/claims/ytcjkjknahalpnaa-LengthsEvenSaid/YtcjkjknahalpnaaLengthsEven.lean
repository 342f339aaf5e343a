/-
  LengthsEven: the walk.
-/
import Derived.Test.YtcjkjknahalpnaaAwakeL
import Derived.Test.YtcjkjknahalpnaaLenC
import Derived.BigQuiet
namespace Go.Proofs.Ytcjkjknahalpnaa
open Go.RowKit
set_option linter.unusedVariables false
set_option linter.unusedSimpArgs false

theorem flat_fullL {xs : List Int} (h : mayL xs = true) : fullL ((K.flatL (ownN xs)).map fun n : Nat => (n : Int)) = true := by
  obtain ⟨h2, h3, -⟩ := mayL_get h
  have hl : (K.flatL (ownN xs)).length = xs.length := by rw [K.flatL_length, ownN_length]
  have k4 := K.flat_full (ownN xs) (by rw [ownN_length]; omega) (by rw [ownN_length]; omega)
  have k5 := K.made_pos (by omega) k4
  have k8 : Nat.log2 (ownN xs).length ≤ 8 := pow_big (K.log2_has (by rw [ownN_length]; omega)).1 (by rw [ownN_length]; omega)
  unfold fullL sumR
  have e1 : K.natsOf ((K.flatL (ownN xs)).map fun n : Nat => (n : Int)) = K.flatL (ownN xs) := by
    simp only [K.natsOf, List.map_map]
    conv => rhs; rw [← List.map_id (K.flatL (ownN xs))]
    apply List.map_congr_left
    intro x _
    simp
  have e2 : K.lensOk ((K.flatL (ownN xs)).map fun n : Nat => (n : Int)) = true := by
    unfold K.lensOk
    rw [Bool.and_eq_true, List.all_eq_true, List.length_map]
    refine ⟨by simp; omega, fun y hy => ?_⟩
    obtain ⟨x, hx, rfl⟩ := List.mem_map.1 hy
    have a := k5 x hx
    have b := (K.flatL_mem hx).2
    rw [decide_eq_true_eq]
    omega
  rw [e2, if_pos rfl, e1, decide_eq_true_eq]
  have e3 : K.room (K.flatL (ownN xs)) = ((K.flatL (ownN xs)).map fun x => 2 ^ (20 - x)).sum := rfl
  rw [e3, k4]
theorem even_of {xs : List Int} {i : Nat} {x y : Int} {u v : Nat} (hx : xs[i]? = some x) (hy : xs[0]? = some y) (hu : (K.flatL (ownN xs))[i]? = some u) (hv : (K.flatL (ownN xs))[0]? = some v) :
    u ≤ v + 1 ∧ v ≤ u + 1 ∧ (clampI y < clampI x → u ≤ v) ∧ (clampI x < clampI y → v ≤ u) ∧ u ≤ 1000 ∧ v ≤ 1000 ∨ 1000 < xs.length := by
  rcases Nat.lt_or_ge 1000 xs.length with h | h
  · exact .inr h
  · have a := K.flatL_mem (List.mem_of_getElem? hu)
    have b := K.flatL_mem (List.mem_of_getElem? hv)
    have hil := (List.getElem?_eq_some_iff.1 hx).1
    have e1 := K.flatL_get (ownN xs) i (by rw [ownN_length]; exact hil)
    have e2 := K.flatL_get (ownN xs) 0 (by rw [ownN_length]; omega)
    rw [List.getD, hu, Option.getD_some] at e1
    rw [List.getD, hv, Option.getD_some] at e2
    have o1 := ownN_get hx
    have o2 := ownN_get hy
    have hlog : Nat.log2 (ownN xs).length ≤ 999 := by
      rcases Nat.lt_or_ge (Nat.log2 (ownN xs).length) 1000 with h' | h'
      · omega
      · have h1 := (K.log2_has (n := (ownN xs).length) (by rw [ownN_length]; omega)).1
        have h2 := Nat.lt_two_pow_self (n := Nat.log2 (ownN xs).length)
        rw [ownN_length] at h1 h2 h'
        omega
    refine .inl ⟨by omega, by omega, fun hlt => ?_, fun hlt => ?_, by omega, by omega⟩
    · rw [e1, e2]
      exact K.flatAt_mono _ (K.front_mono (by omega))
    · rw [e1, e2]
      exact K.flatAt_mono _ (K.front_mono (by omega))
set_option maxRecDepth 100000 in
set_option maxHeartbeats 2000000 in
theorem lengthsEven_walk (a : Option Addr) (len cap : Nat) (xs : List Int) (w : World)
    (h : Sees w 1 a len (xs.map (Value.int .i64)) ∧ xs.length = len ∧ len ≤ cap ∧ cap ≤ maxLen ∧ len ≤ 17592186043904 ∧ (∀ x ∈ xs, -9223372036854775808 ≤ x ∧ x ≤ 9223372036854775807) ∧ (a = none → cap = 0)) :
    Calls Try.prog 8 #[.slice a len cap] w fun e w' => e = .returned (.bool true) ∧ Kept [] w w' := by
  obtain ⟨hsee, rfl, -, -, hlen, hbd, -⟩ := h
  have hsee : Sees w 1 a xs.length (intVals xs) := hsee
  have HS := Lib.hid hsee
  have M := wflat_any a cap xs w hsee (by omega)
  unfold flatR at M
  clear hsee hbd
  cases hm : mayL xs with
  | false =>
    rw [hm] at M
    simp only [Bool.false_eq_true, if_false] at M
    clear hm
    go_enter Try.func8, Try.ntmps8
    go_wp2_with fail
    refine M.mono ?_
    rintro e w1 ⟨a1, c1, rfl, hrow1, hk1, -⟩
    clear M hrow1
    go_wp2_with fail
    refine (awakeL _).mono ?_
    rintro e w2 ⟨rfl, hk2⟩
    go_wp2_with fail
    go_ret
    exact ⟨rfl, hk1.new hk2 (by simp [Fresh])⟩
  | true =>
    rw [hm] at M
    simp only [if_true] at M
    obtain ⟨hx2, hx258, hall⟩ := mayL_get hm
    have HFU := Lib.hid (flat_fullL hm)
    have HL := Lib.hid (show (K.flatL (ownN xs)).length = xs.length by rw [K.flatL_length, ownN_length])
    have HEV := Lib.hid (fun i x y u v hx hy hu hv => even_of (xs := xs) (i := i) (x := x) (y := y) (u := u) (v := v) hx hy hu hv)
    generalize K.flatL (ownN xs) = ls at *
    clear hm hall
    go_enter Try.func8, Try.ntmps8
    go_wp2_with fail
    refine M.mono ?_
    rintro e w1 ⟨a1, c1, rfl, hrow1, hk1, -⟩
    have HK1 := Lib.hid hk1
    have hl : ls.length = xs.length := HL.out
    simp only at hrow1
    have HR1 := Lib.hid hrow1.seeA
    have HS1 := Lib.hid (HS.out.kept0 hk1)
    have F := full_any a1 c1 (ls.map fun n : Nat => (n : Int)) w1 (by rw [List.length_map, ← natVals_int]; exact HR1.out) (by rw [List.length_map]; omega)
    rw [HFU.out, List.length_map] at F
    rw [hl] at F HR1 ⊢
    clear M hrow1 hk1 hl
    go_wp2_with fail
    refine F.mono ?_
    rintro e w2 ⟨rfl, rfl⟩
    clear F
    have hpos : (0 : Int) < (xs.length : Int) := by omega
    go_wp2_with fail
    go_loopg [5] (xs.length - 1) (fun g v wr => ∃ i : Nat, g = xs.length - i ∧ 1 ≤ i ∧ i ≤ xs.length ∧ v = .int .i64 (i : Nat) ∧ Hid (Kept [] w1 wr))
    case atStart => exact ⟨1, by omega, by omega, by omega, rfl, Lib.hid (Kept.refl _ _)⟩
    case round =>
      obtain ⟨i, hg, hi1, hi, rfl, HKI⟩ := hrel
      have Hg := Lib.hid hg
      clear hg
      by_cases hlt : i < xs.length
      · have hli : (i : Int) < (xs.length : Int) := by omega
        obtain ⟨x, hx⟩ : ∃ x, xs[i]? = some x := ⟨_, List.getElem?_eq_getElem hlt⟩
        obtain ⟨y, hy⟩ : ∃ y, xs[0]? = some y := ⟨_, List.getElem?_eq_getElem (by omega)⟩
        obtain ⟨u, hu⟩ : ∃ u, ls[i]? = some u := ⟨_, List.getElem?_eq_getElem (by rw [HL.out]; exact hlt)⟩
        obtain ⟨v, hv⟩ : ∃ v, ls[0]? = some v := ⟨_, List.getElem?_eq_getElem (by rw [HL.out]; omega)⟩
        obtain ⟨b, off, rfl, -⟩ := HR1.out.at (by rw [natVals_length, HL.out]; omega)
        obtain ⟨b0, off0, rfl, -⟩ := HS1.out.at (by rw [intVals_length]; omega)
        have c0 := (HS1.out.kept0 HKI.out).int hx
        have c1 := (HS1.out.kept0 HKI.out).int hy
        have c2 := (HR1.out.kept0 HKI.out).natD hu
        have c3 := (HR1.out.kept0 HKI.out).natD hv
        rw [Nat.add_zero] at c1 c3
        have HE := Lib.hid (HEV.out i x y u v hx hy hu hv)
        obtain ⟨U, hU⟩ : ∃ U : Int, (u : Int) = U := ⟨_, rfl⟩
        obtain ⟨V, hV⟩ : ∃ V : Int, (v : Int) = V := ⟨_, rfl⟩
        have HUV := Lib.hid (And.intro hU hV)
        rw [hU] at c2
        rw [hV] at c3
        clear hx hy hu hv hU hV
        go_wp2_with fail
        go_upto_region 10 with (go_quiet (fail))
        have hcx : max x 1 = clampI x := by unfold clampI; rw [Int.max_def]; split <;> split <;> omega
        have hcy : max y 1 = clampI y := by unfold clampI; rw [Int.max_def]; split <;> split <;> omega
        rw [hcx, hcy]
        have HKN := Lib.hid (HKI.out.drewN nq)
        generalize clampI x = A at *
        generalize clampI y = B at *
        clear hcx hcy c0 c1
        obtain ⟨l1, l2, l3, l4, l5, l6⟩ : U ≤ V + 1 ∧ V ≤ U + 1 ∧ (B < A → U ≤ V) ∧ (A < B → V ≤ U) ∧ (0 ≤ U ∧ U ≤ 1000) ∧ (0 ≤ V ∧ V ≤ 1000) := by
          have := HE.out
          have := HUV.out
          omega
        have s1 : IntKind.i64.wrap (U - V) = U - V := IntWalk.i64_in _ (by omega)
        have s2 : IntKind.i64.wrap (V - U) = V - U := IntWalk.i64_in _ (by omega)
        have g1 : decide (1 < U - V) = false := by simp; omega
        have g2 : decide (1 < V - U) = false := by simp; omega
        rcases Int.lt_trichotomy A B with hAB | hAB | hAB
        · have l7 := l4 hAB
          clear l3 l4
          have g3 : decide (B < A) = false := by simp; omega
          have g4 : decide (A < B) = true := by simp; omega
          have g5 : decide (U < V) = false := by simp; omega
          go_quiet (fail)
          go_wp2_with fail
          go_roundg (xs.length - (i + 1))
          case measure => have := Hg.out; omega
          case rel => exact ⟨i + 1, by omega, by omega, by omega, by simp, Lib.hid (HKI.out.drewN _)⟩
        · clear l3 l4
          have g3 : decide (B < A) = false := by simp; omega
          have g4 : decide (A < B) = false := by simp; omega
          clear hAB
          go_quiet (fail)
          go_wp2_with fail
          go_roundg (xs.length - (i + 1))
          case measure => have := Hg.out; omega
          case rel => exact ⟨i + 1, by omega, by omega, by omega, by simp, Lib.hid (HKI.out.drewN _)⟩
        · have l7 := l3 hAB
          clear l3 l4
          have g3 : decide (B < A) = true := by simp; omega
          have g4 : decide (A < B) = false := by simp; omega
          have g5 : decide (V < U) = false := by simp; omega
          go_quiet (fail)
          go_wp2_with fail
          go_roundg (xs.length - (i + 1))
          case measure => have := Hg.out; omega
          case rel => exact ⟨i + 1, by omega, by omega, by omega, by simp, Lib.hid (HKI.out.drewN _)⟩
      · obtain rfl : i = xs.length := by omega
        have hll : ¬ (xs.length : Int) < (xs.length : Int) := by omega
        have HK2 := Lib.hid (HK1.out.new HKI.out (by simp [Fresh]))
        clear HKI
        go_wp2_with fail
        refine (awakeL _).mono ?_
        rintro e w2 ⟨rfl, hk2⟩
        go_wp2_with fail
        go_ret
        exact ⟨rfl, HK2.out.new hk2 (by simp [Fresh])⟩
end Go.Proofs.Ytcjkjknahalpnaa
