/-
  RotateRises: the walk.
-/
import Derived.Test.YtaeppgooenbfiaaRotS7
import Derived.Test.YtaeppgooenbfiaaAwakeR
import Derived.Test.YtaeppgooenbfiaaRotI
import Derived.Deep.RegionHeld3
namespace Go.Proofs.Ytaeppgooenbfiaa
open Go.RowKit Go.Sort
set_option linter.unusedVariables false
set_option linter.unusedSimpArgs false

theorem Try.infoBool : (Try.prog.info? 4).map (fun i => (i.zero, i.size, i.bytes)) = some (some (.bool false), 1, 1) := by kernel_rfl
/-- Which have been seen. -/
def seenV (n : Nat) (A : List Nat) : List Value := (List.range n).map fun i => .bool (decide (i ∈ A))
theorem seenV_length (n : Nat) (A : List Nat) : (seenV n A).length = n := by simp [seenV]
theorem seenV_get (n : Nat) (A : List Nat) (i : Nat) (h : i < n) : (seenV n A)[i]? = some (.bool (decide (i ∈ A))) := by simp [seenV, List.getElem?_range h]
theorem seenV_nil (n : Nat) : seenV n [] = List.replicate n (.bool false) := by
  unfold seenV
  rw [show (fun i : Nat => Value.bool (decide (i ∈ ([] : List Nat)))) = fun _ => .bool false from funext fun i => by simp, List.map_const', List.length_range]
theorem seenV_snoc (n : Nat) (A : List Nat) (x : Nat) : (seenV n A).set x (.bool true) = seenV n (A ++ [x]) := by
  apply List.ext_getElem?
  intro i
  rw [List.getElem?_set]
  by_cases hi : i < n
  · rw [seenV_get _ _ _ hi, seenV_get _ _ _ hi, seenV_length]
    by_cases hx : x = i
    · subst hx; rw [if_pos rfl, if_pos hi]; simp
    · rw [if_neg hx]
      have : i ≠ x := fun h => hx h.symm
      simp [this]
  · rw [List.getElem?_eq_none (by rw [seenV_length]; omega), List.getElem?_eq_none (by rw [seenV_length]; omega), seenV_length]
    by_cases hx : x = i
    · rw [if_pos hx, if_neg (by omega)]
    · rw [if_neg hx]
theorem asc_at {n : Nat} {f : Nat → Nat} {L : List Nat} (h : K.Ordered n f n L) (k x y : Nat) (hx : L[k]? = some x) (hy : L[k + 1]? = some y) : (sgnR f n x y = -1) ∨ (sgnR f n x y = 0 ∧ x < y) := by
  obtain ⟨h1, rfl⟩ := List.getElem?_eq_some_iff.1 hx
  obtain ⟨h2, rfl⟩ := List.getElem?_eq_some_iff.1 hy
  have := List.pairwise_iff_getElem.1 h.asc k (k + 1) h1 h2 (by omega)
  unfold K.rotLt at this
  unfold sgnR
  rcases this with h3 | ⟨h3, h4⟩
  · exact .inl (by rw [if_pos h3])
  · exact .inr ⟨by rw [if_neg (by omega), if_neg (by omega)], h4⟩

set_option maxRecDepth 100000 in
set_option maxHeartbeats 4000000 in
theorem rotateRises_walk (s : ByteArray) (w : World) (hs : s.size ≤ 140737488351232) :
    Calls Try.prog 7 #[.string s] w fun e w' => e = .returned (.bool true) ∧ Kept [] w w' := by
  by_cases h : 1000 < s.size
  · have g1 : decide (1000 < (s.size : Int)) = true := by simp; omega
    go_enter Try.func7, Try.ntmps7
    go_wp2_with ((go_at_call 17; refine (awakeR _).mono ?_; rintro e w' ⟨rfl, hk⟩))
    go_ret
    exact ⟨rfl, by assumption⟩
  · have g1 : decide (1000 < (s.size : Int)) = false := by simp; omega
    have hord := order_new s w (by omega) (sort_any s.size (by omega))
    have HORD := Lib.hid hord
    clear hord
    go_enter Try.func7, Try.ntmps7
    go_wp2_with fail
    refine HORD.out.mono ?_
    rintro e w1 ⟨g, L, rfl, hO, hrow1, hk1, hge⟩
    have HO := Lib.hid hO
    have HS1 := Lib.hid hrow1.seeA
    have HK1 := Lib.hid hk1
    have HG := Lib.hid (show g < w1.heap.size from hrow1.lt g (by simp [foot, Value.ownBlock]))
    have HLEN := Lib.hid hO.len
    clear hO hrow1 hk1 HORD
    go_wp2_with ((at_make; refine wp_make1 rfl _ _ 37 rfl 4 (.bool false) 1 Try.underlying37 Try.infoBool rfl .i64 .i64 _ _ s.size s.size rfl rfl rfl rfl (by omega) (by omega) (by simp only [maxLen]; omega) ?_; intro w2 hrow2 hk2))
    rw [← seenV_nil, show ([] : List Nat) = L.take 0 from rfl] at hrow2
    obtain ⟨sb, hsb⟩ : ∃ sb, w1.heap.size = sb := ⟨_, rfl⟩
    have hgs : g ≠ sb := by have := HG.out; omega
    rw [hsb] at hrow2 ⊢
    have HS2 := Lib.hid (HS1.out.kept0 hk2)
    have HK2 := Lib.hid (HK1.out.trans hk2 (by simp))
    have hws : w.heap.size ≤ sb := by have := HK1.out.size; omega
    have HR2 := Lib.hid hrow2
    clear hk2 hrow2 hsb HG
    go_loopg [5] s.size (fun k v wr => ∃ i : Nat, i ≤ s.size ∧ k = s.size - i ∧ v = .int .i64 (i : Nat) ∧ Hid (Row wr 4 (.slice (some ⟨sb, 0, none⟩) s.size s.size) (seenV s.size (L.take i))) ∧ Hid (Kept [sb] w2 wr))
    case atStart => exact ⟨0, by omega, by omega, rfl, HR2, Lib.hid (Kept.refl _ _)⟩
    case round =>
      obtain ⟨i, hi, hk, rfl, HR, HKE⟩ := hrel
      have Hk := Lib.hid hk
      clear hk
      by_cases hlt : i < s.size
      · have hli : (i : Int) < (s.size : Int) := by omega
        obtain ⟨x, hx⟩ : ∃ x, L[i]? = some x := ⟨_, List.getElem?_eq_getElem (by rw [HLEN.out]; exact hlt)⟩
        have hxl : x < s.size := HO.out.lt x (List.mem_of_getElem? hx)
        have hxi : (x : Int) < (s.size : Int) := by omega
        have hap : ∀ z ∈ footA (some ⟨g, 0, none⟩ : Option Addr), z ∉ [sb] := by intro z hz hm; simp [footA] at hz; simp at hm; omega
        have HSW := Lib.hid (HS2.out.kept HKE.out hap)
        have c0 := HSW.out.natC hx
        rw [Nat.zero_add] at c0
        have hnx : x ∉ L.take i := by
          intro hm
          obtain ⟨j, hj⟩ := List.mem_iff_getElem?.1 hm
          rw [List.getElem?_take] at hj
          split at hj
          · rename_i hji
            obtain ⟨h1, e1⟩ := List.getElem?_eq_some_iff.1 hj
            obtain ⟨h2, e2⟩ := List.getElem?_eq_some_iff.1 hx
            exact List.pairwise_iff_getElem.1 (show L.Pairwise (· ≠ ·) from HO.out.nodup) j i h1 h2 hji (e1.trans e2.symm)
          · cases hj
        have d0 := HR.out.cellAt (seenV_get s.size (L.take i) x hxl)
        rw [decide_eq_false hnx] at d0
        have df := HR.out.free x
        have hr2 := HR.out.put x (.bool true)
        rw [seenV_snoc, show L.take i ++ [x] = L.take (i + 1) by rw [List.take_add_one, hx]; rfl] at hr2
        have HR3 := Lib.hid hr2
        have HX := Lib.hid hx
        have hk3 : Kept [sb] wr (wr.setCell ⟨sb, x, none⟩ (.bool true)) := (Kept.refl _ _).setCell (p := ⟨sb, x, none⟩) (.inl (by simp)) _
        have HK3 := Lib.hid hk3
        have HAP := Lib.hid hap
        clear hx hnx hr2 hk3 hap
        by_cases hi0 : i = 0
        · subst hi0
          go_wp2_with fail
          go_roundg (s.size - (0 + 1))
          case measure => have := Hk.out; omega
          case rel => exact ⟨0 + 1, by omega, rfl, by go_num, HR3, Lib.hid (HKE.out.trans HK3.out (by simp))⟩
        · have hi0b : ((i : Int) == 0) = false := beq_eq_false_iff_ne.2 (by omega)
          obtain ⟨j, hj⟩ : ∃ j, j + 1 = i := ⟨i - 1, by omega⟩
          have ej : (i : Int) - 1 = (j : Int) := by omega
          have wj : IntKind.i64.wrap (j : Int) = (j : Int) := IntWalk.i64_in _ (by omega)
          have hjs : (j : Int) < (s.size : Int) := by omega
          obtain ⟨y, hy⟩ : ∃ y, L[j]? = some y := ⟨_, List.getElem?_eq_getElem (by rw [HLEN.out]; omega)⟩
          have hyl : y < s.size := HO.out.lt y (List.mem_of_getElem? hy)
          have hsg := asc_at HO.out j y x hy (by rw [hj]; exact HX.out)
          have hcmp := fun w => cmp_in s y x w (by omega) hyl hxl
          obtain ⟨r, hr⟩ : ∃ r, sgnR (K.fS s.data.toList) s.size y x = r := ⟨_, rfl⟩
          rw [hr] at hsg hcmp
          have HSG := Lib.hid hsg
          have HCMP := Lib.hid hcmp
          have HY := Lib.hid hy
          clear hi0 hj hr hsg hcmp hy
          go_wp2_with fail
          have hs3 := HSW.out.kept HK3.out HAP.out
          have e0 := hs3.natC HX.out
          have e1 := hs3.natC HY.out
          rw [Nat.zero_add] at e0 e1
          have HS3 := Lib.hid hs3
          clear c0 d0 df hs3
          generalize wr.setCell ⟨sb, x, none⟩ (.bool true) = w3 at e0 e1 HS3 HR3 HK3 ⊢
          go_region_held3 (fun w' => Kept [] w3 w' ∧ w'.cell? ⟨g, i, none⟩ = some (.int .i64 (x : Int)) ∧ w'.cell? ⟨g, j, none⟩ = some (.int .i64 (y : Int)))
            (first | exact ⟨Kept.refl _ _, e0, e1⟩ | exact ⟨(Kept.refl _ _).drew, e0, e1⟩ | exact ⟨hk4, hk4.cellOf e0 (by simp), hk4.cellOf e1 (by simp)⟩)
            (first | (go_at_call 22; refine (HCMP.out _).mono ?_; rintro e w4 ⟨rfl, hk4'⟩; have hk4 : Kept [] w3 w4 := (Kept.refl [] w3).drew.trans hk4' (by simp)))
          have d0 := hk4.cellOf e0 (by simp)
          have d1 := hk4.cellOf e1 (by simp)
          rename_i hS4
          clear hS4
          have HK4 := Lib.hid hk4
          clear hk4 e0 e1
          have hfin : ∀ m, Row (w4.drewN m) 4 (.slice (some ⟨sb, 0, none⟩) s.size s.size) (seenV s.size (L.take (i + 1))) ∧ Kept [sb] w2 (w4.drewN m) := fun m =>
            ⟨(HR3.out.kept HK4.out (by simp)).drewN m, ((HKE.out.trans HK3.out (by simp)).trans HK4.out (by simp)).drewN m⟩
          have HFIN := Lib.hid hfin
          clear hfin
          rcases HSG.out with hr | ⟨hr, hyx⟩
          · subst hr
            clear HSG
            go_wp2_with fail
            go_quiet (fail)
            go_wp2_with fail
            go_roundg (s.size - (i + 1))
            case measure => have := Hk.out; omega
            case rel => exact ⟨i + 1, by omega, rfl, by go_num, Lib.hid (HFIN.out _).1, Lib.hid (HFIN.out _).2⟩
          · subst hr
            have hyxi : ¬ (x : Int) < (y : Int) := by omega
            clear HSG
            go_wp2_with fail
            go_quiet (fail)
            go_wp2_with fail
            go_roundg (s.size - (i + 1))
            case measure => have := Hk.out; omega
            case rel => exact ⟨i + 1, by omega, rfl, by go_num, Lib.hid (HFIN.out _).1, Lib.hid (HFIN.out _).2⟩
      · obtain rfl : i = s.size := by omega
        have hll : ¬ (s.size : Int) < (s.size : Int) := by omega
        go_wp2_with ((go_at_call 17; refine (awakeR _).mono ?_; rintro e w' ⟨rfl, hk⟩))
        go_ret
        refine ⟨rfl, ?_⟩
        have hk' := HK2.out.trans HKE.out (by intro z hz; simp at hz; subst hz; exact .inr hws)
        exact hk'.new (by assumption) (by simp [Fresh])
end Go.Proofs.Ytaeppgooenbfiaa
