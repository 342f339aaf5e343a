/-
  The walk of kistref08.least. The walk of kistref08.grown. The walk of kistref08.Make. The walk of kistref08.Flat.
-/
import Derived.Test.YtdaenajhgbagdaaLenX
import Derived.Test.YtdaenajhgbagdaaHufAll
import Derived.BigQuiet
import Derived.Test.YtdaenajhgbagdaaWriteA
import Derived.Test.YtdaenajhgbagdaaLibA
import Derived.Deep.RegionHeld3
namespace Go.Proofs.Ytdaenajhgbagdaa
open Go.RowKit
set_option linter.unusedVariables false
set_option linter.unusedSimpArgs false

theorem Sees.natD {w : World} {b off n i x : Nat} {xs : List Nat} (h : Sees w 1 (some ⟨b, off, none⟩) n (natVals xs)) (hx : xs[i]? = some x) : w.cell? ⟨b, off + i, none⟩ = some (.int .i64 (x : Int)) := by
  rw [natVals_int] at h
  exact h.int (by rw [List.getElem?_map, hx]; rfl)
def leastV : Option Nat → Int
  | none => -1
  | some a => (a : Int)
theorem leastI_lt {W over : List Nat} {k a : Nat} (h : K.leastI W over k = some a) : a < k := by
  rcases K.leastI_spec W over k with ⟨h1, -⟩ | ⟨b, h1, h2⟩
  · rw [h] at h1; exact absurd h1 (by simp)
  · rw [h] at h1; cases h1; exact h2.1


theorem least_any (a1 a2 : Option Addr) (c1 c2 : Nat) (W over : List Nat) (w : World) (h1 : Sees w 1 a1 W.length (natVals W)) (h2 : Sees w 1 a2 W.length (natVals over))
    (hl : over.length = W.length) (hn : W.length ≤ 1000000) :
    Calls Try.prog 107 #[.slice a1 W.length c1, .slice a2 W.length c2] w fun e w' => e = .returned (.int .i64 (leastV (K.leastI W over W.length))) ∧ Kept [] w w' := by
  have HS1 := Lib.hid h1
  have HS2 := Lib.hid h2
  have HL := Lib.hid hl
  clear h1 h2 hl
  go_enter Try.func107, Try.ntmps107
  go_wp2_with fail
  go_loopg [5, 6] W.length (fun k n v wr => ∃ i : Nat, i ≤ W.length ∧ k = W.length - i ∧ n = .int .i64 (leastV (K.leastI W over i)) ∧ v = .int .i64 (i : Nat) ∧ Kept [] w wr)
  case atStart => exact ⟨0, by omega, by omega, rfl, rfl, Kept.refl _ _⟩
  case round =>
    obtain ⟨i, hi, hk, rfl, rfl, hkw⟩ := hrel
    have Hk := Lib.hid hk
    have HKW := Lib.hid hkw
    have HT1 := Lib.hid (HS1.out.kept0 hkw)
    have HT2 := Lib.hid (HS2.out.kept0 hkw)
    clear hk hkw
    by_cases hlt : i < W.length
    · have hli : (i : Int) < (W.length : Int) := by omega
      obtain ⟨x, hx⟩ : ∃ x, W[i]? = some x := ⟨_, List.getElem?_eq_getElem hlt⟩
      obtain ⟨y, hy⟩ : ∃ y, over[i]? = some y := ⟨_, List.getElem?_eq_getElem (by have := HL.out; omega)⟩
      obtain ⟨b1, off1, rfl, -⟩ := HT1.out.at (by rw [natVals_length]; omega)
      obtain ⟨b2, off2, rfl, -⟩ := HT2.out.at (by rw [natVals_length]; have := HL.out; omega)
      have d1 := HT1.out.natD hx
      have d2 := HT2.out.natD hy
      have es : K.leastI W over (i + 1) = (match K.leastI W over i with
        | none => if y = 0 then some i else none
        | some a => if y = 0 ∧ x < W.getD a 0 then some i else some a) := by
        rw [K.leastI]
        simp only [List.getD_eq_getElem?_getD, hx, hy, Option.getD_some]
        cases K.leastI W over i <;> rfl
      have ES := Lib.hid es
      clear hx hy es
      have hwl : W.length ≤ 1000000 := hn
      by_cases hy0 : y = 0
      · subst hy0
        rcases Option.eq_none_or_eq_some (K.leastI W over i) with hn | ⟨a, ha⟩
        · have ES2 := Lib.hid (show K.leastI W over (i + 1) = some i by rw [ES.out, hn]; exact if_pos rfl)
          rw [hn]
          clear hn ES
          unfold leastV
          go_wp2_with fail
          go_quiet (fail)
          go_wp2_with fail
          go_roundg (W.length - (i + 1))
          case measure => have := Hk.out; omega
          case rel => exact ⟨i + 1, by omega, rfl, by rw [ES2.out]; rfl, by simp, HKW.out.drewN _⟩
        · have hai := leastI_lt ha
          obtain ⟨z, hz⟩ : ∃ z, W[a]? = some z := ⟨_, List.getElem?_eq_getElem (by omega)⟩
          have d3 := HT1.out.natD hz
          have hai2 : (a : Int) < (W.length : Int) := by omega
          have gz : W.getD a 0 = z := by rw [List.getD_eq_getElem?_getD, hz]; rfl
          have EZ : Hid (K.leastI W over (i + 1) = if x < z then some i else some a) := Lib.hid (by
            rw [ES.out, ha]
            show (if (0 : Nat) = 0 ∧ x < W.getD a 0 then some i else some a) = _
            rw [gz]
            by_cases h : x < z
            · rw [if_pos ⟨rfl, h⟩, if_pos h]
            · rw [if_neg (fun k => h k.2), if_neg h])
          rw [ha]
          clear ha gz hz ES
          unfold leastV
          have g0 : decide ((a : Int) < 0) = false := by simp
          by_cases hxz : x < z
          · have g1 : decide ((x : Int) < (z : Int)) = true := by simp; omega
            have ES2 := Lib.hid (EZ.out.trans (if_pos hxz))
            go_wp2_with fail
            go_quiet (fail)
            go_wp2_with fail
            go_roundg (W.length - (i + 1))
            case measure => have := Hk.out; omega
            case rel => exact ⟨i + 1, by omega, rfl, by rw [ES2.out]; rfl, by simp, HKW.out.drewN _⟩
          · have g1 : decide ((x : Int) < (z : Int)) = false := by simp; omega
            have ES2 := Lib.hid (EZ.out.trans (if_neg hxz))
            go_wp2_with fail
            go_quiet (fail)
            go_wp2_with fail
            go_roundg (W.length - (i + 1))
            case measure => have := Hk.out; omega
            case rel => exact ⟨i + 1, by omega, rfl, by rw [ES2.out]; rfl, by simp, HKW.out.drewN _⟩
      · have g0 : decide ((y : Int) = 0) = false := by simp; omega
        have ES2 := Lib.hid (show K.leastI W over (i + 1) = K.leastI W over i by
          rw [ES.out]
          cases K.leastI W over i with
          | none => exact if_neg hy0
          | some a => exact if_neg fun h => hy0 h.1)
        have ES3 : leastV (K.leastI W over (i + 1)) = leastV (K.leastI W over i) := by rw [ES2.out]
        clear ES2 ES
        generalize leastV (K.leastI W over i) = lv at ES3 ⊢
        have ES4 := Lib.hid ES3
        clear ES3
        have g0' : ((y : Int) == 0) = false := by simp; omega
        go_wp2_with fail
        go_quiet (fail)
        go_wp2_with fail
        go_roundg (W.length - (i + 1))
        case measure => have := Hk.out; omega
        case rel => exact ⟨i + 1, by omega, rfl, by rw [ES4.out], by simp, HKW.out.drewN _⟩
    · obtain rfl : i = W.length := by omega
      have hll : ¬ (W.length : Int) < (W.length : Int) := by omega
      go_wp2_with fail
      go_ret
      exact ⟨rfl, HKW.out⟩
end Go.Proofs.Ytdaenajhgbagdaa
namespace Go.Proofs.Ytdaenajhgbagdaa
open Go.RowKit
set_option linter.unusedVariables false
set_option linter.unusedSimpArgs false

/-- What a function leaves that tells a list of numbers. -/
def LensPost (l : List Nat) (w : World) (e : Ending) (w' : World) : Prop :=
  ∃ a c, e = .returned (.slice a l.length c) ∧ Row w' 3 (.slice a l.length c) (natVals l) ∧ Kept [] w w' ∧ Fresh w.heap.size (footA a)

theorem natVals_get {l : List Nat} {i x : Nat} (h : l[i]? = some x) : (natVals l)[i]? = some (.int .i64 (x : Int)) := by simp [natVals, h]
theorem natVals_set (l : List Nat) (i x : Nat) : natVals (l.set i x) = (natVals l).set i (.int .i64 (x : Int)) := by simp [natVals, List.map_set]
theorem Row.toN {w : World} {e : TypeId} {g n c : Nat} {xs : List Value} (h : Row w e (.slice (some ⟨g, 0, none⟩) n c) xs) : RowN w e 1 (.slice (some ⟨g, 0, none⟩) n c) n xs := by
  have hl := h.len
  subst hl
  exact h
theorem Row.ofN {w : World} {e : TypeId} {g n c : Nat} {xs : List Value} (h : RowN w e 1 (.slice (some ⟨g, 0, none⟩) n c) n xs) : Row w e (.slice (some ⟨g, 0, none⟩) n c) xs := by
  have hl := h.1
  rw [Nat.mul_one] at hl
  subst hl
  exact h
def GrowI (w0 : World) (ws : List Nat) (g : Nat) (v3 v4 v5 : Value) (wr : World) : Prop :=
  ∃ k m j gw cW go cO, g = ws.length - j ∧ j ≤ ws.length ∧ 1 ≤ j ∧ Hid (j = k + 1) ∧ Hid (m = ws.length + k) ∧ m ≤ 1000 ∧ 1 ≤ m ∧ v5 = .int .i64 (j : Nat) ∧ v3 = .slice (some ⟨gw, 0, none⟩) m cW ∧ v4 = .slice (some ⟨go, 0, none⟩) m cO ∧
    Hid (Row wr 3 (.slice (some ⟨gw, 0, none⟩) m cW) (natVals (K.hrun ws k).1)) ∧ Hid (Row wr 3 (.slice (some ⟨go, 0, none⟩) m cO) (natVals (K.hrun ws k).2)) ∧
    Hid (Kept [] w0 wr) ∧ Hid (gw ≠ go ∧ w0.heap.size ≤ gw ∧ w0.heap.size ≤ go)

/-- The depth of symbol i is counted: d steps are left. -/
def DepI (w0 : World) (over ls : List Nat) (n m i gr go cO r : Nat) (d : Nat) (v11 : Value) (wr : World) : Prop :=
  ∃ cur t, Hid (K.Up over cur d r) ∧ Hid (d ≤ ls.getD i 0) ∧ v11 = .int .i64 (t : Nat) ∧ Hid (t = over.getD cur 0) ∧ Hid (Row wr 3 (.slice (some ⟨gr, 0, none⟩) n n) (natVals (K.outS ls n i (ls.getD i 0 - d)))) ∧
    Hid (Row wr 3 (.slice (some ⟨go, 0, none⟩) m cO) (natVals over)) ∧ Hid (Kept [] w0 wr)
theorem rgrown_any (a : Option Addr) (c : Nat) (ws ls : List Nat) (w : World) (h : Sees w 1 a ws.length (natVals ws)) (h0 : 1 ≤ ws.length) (hl : ws.length ≤ 258) (hw : ∀ x ∈ ws, 1 ≤ x) (hs : ws.sum ≤ 1000000000000)
    (hls : K.Told ws ls) :
    Calls Try.prog 97 #[.slice a ws.length c] w (LensPost ls w) := by
  have HS := Lib.hid h
  have HW := Lib.hid hw
  have HLS := Lib.hid hls
  have hone : ∀ u ∈ natVals ws, u.oneCell' = true := by
    intro u hu
    obtain ⟨c, -, rfl⟩ := List.mem_map.1 hu
    rfl
  have HONE := Lib.hid hone
  obtain ⟨b, off, rfl, -⟩ := h.at (by rw [natVals_length]; omega)
  clear h hw hls hone
  go_enter Try.func97, Try.ntmps97
  have hsA : Sees (w.alloc (.cells #[] 3)) 1 (some ⟨b, off, none⟩) ws.length (natVals ws) := HS.out.kept0 ((Kept.refl [] w).alloc _)
  go_wp2_with ((first
    | (at_builtin; refine wp_appS rfl _ _ 30 rfl 3 (.int .i64 0) 8 Try.underlying30 Try.infoInt rfl (.slice (some ⟨w.heap.size, 0, none⟩) 0 0) [] (natVals ws) (some ⟨b, off, none⟩) ws.length c rfl rfl HONE.out (Row.empty w _) hsA (fun h => by cases h) (by simp [maxLen]; omega) (by simp; omega) ?_; intro a4 cap4 w4 hrow4 hk4 hg4)
    | (at_make; refine wp_make1 rfl _ _ 30 rfl 3 (.int .i64 0) 8 Try.underlying30 Try.infoInt rfl .i64 .i64 _ _ ws.length ws.length rfl rfl rfl rfl (Nat.le_refl _) (by omega) (by simp only [maxLen]; omega) ?_; intro w5 hrow5 hk5)))
  simp only [List.nil_append, List.length_nil, Nat.zero_add] at hrow4 hg4
  have hl4 : (natVals ws).length = ws.length := natVals_length ws
  have hk4 : Kept [] w w4 := ((Kept.refl [] w).alloc _).new hk4 (by intro x hx; simp [foot, Value.ownBlock] at hx; omega)
  obtain ⟨gw, capw, hv, hcw, -, -⟩ := hrow4.open (by omega)
  injection hv with hv1 hv2 hv3
  subst hv1
  clear hv2
  subst hv3
  have hgw : w.heap.size ≤ gw := by
    rcases hg4 gw (by simp [foot, Value.ownBlock]) with h | h
    · simp [foot, Value.ownBlock] at h; omega
    · simp at h; omega
  have hgwl : gw < w4.heap.size := hrow4.lt _ (by simp [foot, Value.ownBlock])
  rw [show List.replicate ws.length (Value.int .i64 0) = natVals (List.replicate ws.length 0) by simp [natVals]] at hrow5
  have hgo : w.heap.size ≤ w4.heap.size := hk4.size
  obtain ⟨go, hgoe⟩ : ∃ go, w4.heap.size = go := ⟨_, rfl⟩
  rw [hgoe] at hrow5 hgwl hgo ⊢
  have hrowW := Lib.hid (hrow4.kept hk5 (by simp))
  have hrowO := Lib.hid hrow5
  have HK5 := Lib.hid (hk4.trans hk5 (by simp))
  have HG := Lib.hid (show gw ≠ go ∧ w.heap.size ≤ gw ∧ w.heap.size ≤ go from ⟨by omega, hgw, hgo⟩)
  clear hrow4 hrow5 hk4 hk5 hsA hg4 hl4 hgw hgwl hgo hcw hgoe
  go_loopg [3, 4, 5] (ws.length - 1) (fun k v3 v4 v5 wr => GrowI w ws k v3 v4 v5 wr)
  case atStart => exact ⟨0, _, 1, gw, _, go, _, by omega, by omega, by omega, Lib.hid rfl, Lib.hid rfl, by omega, by omega, rfl, rfl, rfl, hrowW, hrowO, HK5, HG⟩
  case round =>
    obtain ⟨k, m, j, gw, cW, go, cO, hg, hj, hj1, HJ, HM, hm, hm1, rfl, rfl, rfl, HRW, HRO, HKW, HG⟩ := hrel
    have Hg := Lib.hid hg
    clear hg
    by_cases hlt : j < ws.length
    · have hli : (j : Int) < (ws.length : Int) := by omega
      obtain ⟨p, q, hp, hq, hlp, hlq, hst, hsum⟩ := K.hrun_step ws HW.out k (by have := HJ.out; omega)
      have HST := Lib.hid hst
      have hlW : (K.hrun ws k).1.length = m := by rw [HM.out]; exact K.hrun_len ws k
      have hlO : (K.hrun ws k).2.length = m := by rw [HM.out]; exact K.hrun_over ws k
      rw [← HM.out] at hp hq hlp hlq
      have L1 := least_any (some ⟨gw, 0, none⟩) (some ⟨go, 0, none⟩) cW cO (K.hrun ws k).1 (K.hrun ws k).2 wr (by rw [hlW]; exact HRW.out.seeA) (by rw [hlW]; exact HRO.out.seeA) (by omega) (by omega)
      rw [hlW, hlp] at L1
      have HLQ := Lib.hid hlq
      have HLW := Lib.hid hlW
      have HLO := Lib.hid hlO
      have HSUM := Lib.hid hsum
      obtain ⟨z, hz⟩ : ∃ z, (K.hrun ws k).2[p]? = some z := ⟨_, List.getElem?_eq_getElem (by omega)⟩
      have HC0 := Lib.hid (HRO.out.cellAt (natVals_get hz))
      clear hlp hlq hst hlW hlO hsum hz
      go_wp2_with fail
      refine L1.mono ?_
      clear L1
      rintro e w6 ⟨rfl, hk6⟩
      unfold leastV
      have HK6 := Lib.hid hk6
      have hpi : (p : Int) < (m : Int) := by omega
      have hqi : (q : Int) < (m : Int) := by omega
      have c0 := hk6.cellOf HC0.out (by simp)
      have f0 : w6.frozen? ⟨go, p, none⟩ = false := (HRO.out.kept hk6 (by simp)).free p
      clear hk6
      have hro7 : Row (w6.setCell ⟨go, p, none⟩ (.int .i64 (m : Int))) 3 (.slice (some ⟨go, 0, none⟩) m cO) (natVals ((K.hrun ws k).2.set p m)) := by
        have := (HRO.out.kept HK6.out (by simp)).put p (.int .i64 (m : Int))
        rwa [← natVals_set] at this
      have hrw7 : Row (w6.setCell ⟨go, p, none⟩ (.int .i64 (m : Int))) 3 (.slice (some ⟨gw, 0, none⟩) m cW) (natVals (K.hrun ws k).1) :=
        (HRW.out.kept HK6.out (by simp)).setCell (by simp [foot, Value.ownBlock]; exact fun h => HG.out.1 h.symm) _
      have L2 := least_any (some ⟨gw, 0, none⟩) (some ⟨go, 0, none⟩) cW cO (K.hrun ws k).1 ((K.hrun ws k).2.set p m) (w6.setCell ⟨go, p, none⟩ (.int .i64 (m : Int))) (by rw [HLW.out]; exact hrw7.seeA) (by rw [HLW.out]; exact hro7.seeA) (by rw [List.length_set, HLW.out, HLO.out]) (by rw [HLW.out]; omega)
      rw [HLW.out, HLQ.out] at L2
      have HRO7 := Lib.hid hro7
      have HRW7 := Lib.hid hrw7
      have HK7 := Lib.hid ((HKW.out.trans HK6.out (by simp)).setCell (p := ⟨go, p, none⟩) (.inr HG.out.2.2) (.int .i64 (m : Int)))
      clear hro7 hrw7
      go_wp2_with fail
      refine L2.mono ?_
      clear L2
      rintro e w8 ⟨rfl, hk8⟩
      unfold leastV
      have HRO8 := Lib.hid (HRO7.out.kept hk8 (by simp))
      have HRW8 := Lib.hid (HRW7.out.kept hk8 (by simp))
      have HK8 := Lib.hid (HK7.out.trans hk8 (by simp))
      clear hk8 c0 f0
      obtain ⟨z2, hz2⟩ : ∃ z, ((K.hrun ws k).2.set p m)[q]? = some z := ⟨_, List.getElem?_eq_getElem (by rw [List.length_set]; have := HLO.out; omega)⟩
      have c1 := HRO8.out.cellAt (natVals_get hz2)
      clear hz2
      have f1 : w8.frozen? ⟨go, q, none⟩ = false := HRO8.out.free q
      obtain ⟨x, hx⟩ : ∃ x, (K.hrun ws k).1[p]? = some x := ⟨_, List.getElem?_eq_getElem (by have := HLW.out; omega)⟩
      obtain ⟨y, hy⟩ : ∃ y, (K.hrun ws k).1[q]? = some y := ⟨_, List.getElem?_eq_getElem (by have := HLW.out; omega)⟩
      have dx : (w8.setCell ⟨go, q, none⟩ (.int .i64 (m : Int))).cell? ⟨gw, p, none⟩ = some (.int .i64 (x : Int)) := (HRW8.out.setCell (by simp [foot, Value.ownBlock]; exact fun h => HG.out.1 h.symm) _).cellAt (natVals_get hx)
      have dy : (w8.setCell ⟨go, q, none⟩ (.int .i64 (m : Int))).cell? ⟨gw, q, none⟩ = some (.int .i64 (y : Int)) := (HRW8.out.setCell (by simp [foot, Value.ownBlock]; exact fun h => HG.out.1 h.symm) _).cellAt (natVals_get hy)
      have hxy : x + y ≤ 1000000000000 := by
        have h1 := HSUM.out
        rw [List.getD_eq_getElem?_getD, List.getD_eq_getElem?_getD, hx, hy] at h1
        simp only [Option.getD_some] at h1
        omega
      have HX := Lib.hid hx
      have HY := Lib.hid hy
      clear hx hy
      have HRO9 := Lib.hid (HRO8.out.put q (.int .i64 (m : Int)))
      have HRW9 := Lib.hid (HRW8.out.setCell (p := ⟨go, q, none⟩) (by simp [foot, Value.ownBlock]; exact fun h => HG.out.1 h.symm) (.int .i64 (m : Int)))
      have HK9 := Lib.hid (HK8.out.setCell (p := ⟨go, q, none⟩) (.inr HG.out.2.2) (.int .i64 (m : Int)))
      rw [← natVals_set] at HRO9
      have hlW : (natVals (K.hrun ws k).1).length = m := by rw [natVals_length]; exact HLW.out
      go_upto_region 11 with (fail)
      obtain ⟨W, hW⟩ : ∃ W, w8.setCell ⟨go, q, none⟩ (.int .i64 (m : Int)) = W := ⟨_, rfl⟩
      rw [hW] at dx dy HRO9 HRW9 HK9 ⊢
      clear c1 f1 HRO8 HRW8 HK8 hW
      have hw1 : IntKind.i64.wrap ((x : Int) + (y : Int)) = (x : Int) + (y : Int) := IntWalk.i64_in _ (by omega)
      have HROWN := Lib.hid (show RowN W 3 1 (.slice (some ⟨gw, 0, none⟩) m cW) m (natVals (K.hrun ws k).1) from (Row.toN HRW9.out))
      clear hlW
      have hbw : gw < W.heap.size := HRW9.out.lt _ (by simp [foot, Value.ownBlock])
      go_region_held3 (fun w' => w'.cell? ⟨gw, p, none⟩ = some (.int .i64 (x : Int)) ∧ w'.cell? ⟨gw, q, none⟩ = some (.int .i64 (y : Int)))
        (first | exact ⟨dx, dy⟩ | exact ⟨((Kept.refl [] W).drew.alloc _).cellOf dx (by simp), ((Kept.refl [] W).drew.alloc _).cellOf dy (by simp)⟩ | exact ⟨hold4 _ _ (natVals_get HX.out), hold4 _ _ (natVals_get HY.out)⟩)
        (first
          | (refine step_appW rfl _ _ 30 rfl 3 (.int .i64 0) 1 8 Try.underlying30 Try.infoInt rfl (by decide) gw m cW (natVals (K.hrun ws k).1) [.int .i64 ((x : Int) + (y : Int))] ⟨W.heap.size, 0, none⟩ 1 1 rfl rfl (by simp [Value.oneCell']) (World.ownsRow.alloc HROWN.out _) rfl (news_one _ _ _) (by simp only [maxLen]; omega) (by omega) ?_; intro g4 cap4 w4 hrow4 hk4 hg4 hold4))
      rename_i hS
      clear hS hold4 dx dy
      have hro10 : RowN w4 3 1 (.slice (some ⟨go, 0, none⟩) m cO) m (natVals (((K.hrun ws k).2.set p m).set q m)) := (HRO9.out.kept (((Kept.refl [gw] W).alloc _).drew.trans hk4 (by intro x hx; exact .inl hx)) (by simp [foot, Value.ownBlock]; exact fun h => HG.out.1 h.symm)).toN
      have HK10 := Lib.hid (HK9.out.trans (((Kept.refl [gw] W).alloc _).drew.trans hk4 (by intro x hx; exact .inl hx)) (by intro x hx; simp at hx; subst hx; exact .inr HG.out.2.1))
      have hg4' : w.heap.size ≤ g4 := by
        rcases hg4 with h | h
        · subst h; exact HG.out.2.1
        · simp at h; have := HK9.out.size; omega
      have hgo4 : g4 ≠ go := by
        rcases hg4 with h | h
        · subst h; exact HG.out.1
        · simp at h; have := HRO9.out.lt go (by simp [foot, Value.ownBlock]); omega
      have HG4 := Lib.hid (And.intro hgo4 hg4')
      have HROW4 := Lib.hid hrow4
      have h4lt : g4 < w4.heap.size := (World.ownsRow.lt hrow4 g4 (by simp [Value.ownBlock])).2
      clear hrow4 hk4 hg4 hgo4 hg4' HRO9 HRW9 HK9 HROWN
      go_wp2_with ((at_builtin; refine wp_appK w4 rfl _ _ 30 rfl 3 (.int .i64 0) 1 8 Try.underlying30 Try.infoInt rfl (by decide) (.slice (some ⟨go, 0, none⟩) m cO) m (natVals (((K.hrun ws k).2.set p m).set q m)) [.int .i64 0] rfl rfl rfl rfl (by simp [Value.oneCell']) hro10 (by simp only [maxLen]; omega) (by omega) ?_; intro g5 cap5 w5 hrow5 hk5 hg5))
      go_roundg (ws.length - (j + 1))
      case measure => have := Hg.out; omega
      case rel =>
        have hst := HST.out
        rw [← HM.out] at hst
        have e1 : (K.hrun ws (k + 1)).1 = (K.hrun ws k).1 ++ [x + y] := by
          rw [hst]
          simp only [List.getD_eq_getElem?_getD, HX.out, HY.out, Option.getD_some]
        have e2 : (K.hrun ws (k + 1)).2 = ((K.hrun ws k).2.set p m).set q m ++ [0] := by rw [hst]
        have hr5 : RowN w5 3 1 (.slice (some ⟨g4, 0, none⟩) (m + 1) cap4) (m + 1) (natVals (K.hrun ws (k + 1)).1) := by
          rw [e1, natVals_append]
          exact RowN.kept HROW4.out hk5 (by
            intro z hz hm'
            simp [foot, Value.ownBlock] at hz hm'
            subst hz; exact HG4.out.1 hm')
        have hr6 : RowN w5 3 1 (.slice (some ⟨g5, 0, none⟩) (m + 1) cap5) (m + 1) (natVals (K.hrun ws (k + 1)).2) := by
          rw [e2, natVals_append]
          exact hrow5
        have hne5 : g4 ≠ g5 := by
          rcases hg5 with h | h
          · simp [foot, Value.ownBlock] at h; subst h; exact HG4.out.1
          · omega
        have hw5 : w.heap.size ≤ g5 := by
          rcases hg5 with h | h
          · simp [foot, Value.ownBlock] at h; subst h; exact HG.out.2.2
          · have := HK10.out.size; omega
        exact ⟨k + 1, m + 1, j + 1, g4, cap4, g5, cap5, by omega, by omega, by omega, Lib.hid (by rw [HJ.out]), Lib.hid (by rw [HM.out]; omega), by have := HM.out; have := HJ.out; omega, by omega, by simp, by simp, by simp, Lib.hid (Row.ofN hr5), Lib.hid (Row.ofN hr6),
          Lib.hid (HK10.out.trans hk5 (by intro x hx; simp [foot, Value.ownBlock] at hx; subst hx; exact .inr HG.out.2.2)), Lib.hid ⟨hne5, HG4.out.2, hw5⟩⟩
    · obtain rfl : j = ws.length := by omega
      have hll : ¬ (ws.length : Int) < (ws.length : Int) := by omega
      have HMAX := Lib.hid (K.short_of HLS.out hs)
      obtain ⟨hlsl, hup, -, -, -⟩ := HLS.out
      have hk1 : ws.length - 1 = k := by have := HJ.out; omega
      rw [hk1] at hup
      have hlO : (K.hrun ws k).2.length = m := by rw [HM.out]; exact K.hrun_over ws k
      have htop : ∀ i, (K.hrun ws k).2.getD i 0 < m := fun i => K.getD_lt_of (fun x hx => by have := K.hrun_tops ws h0 k x hx; rw [HM.out]; exact this) (by omega) i
      have hnm : ws.length ≤ m := by rw [HM.out]; omega
      generalize (K.hrun ws k).2 = over at *
      have HUP := Lib.hid hup
      have HLL := Lib.hid hlsl
      have HTOP := Lib.hid htop
      have HLO := Lib.hid hlO
      clear hup hlsl hlO htop hk1 HRW
      go_wp2_with ((at_make; refine wp_make1 rfl _ _ 30 rfl 3 (.int .i64 0) 8 Try.underlying30 Try.infoInt rfl .i64 .i64 _ _ ws.length ws.length rfl rfl rfl rfl (Nat.le_refl _) (by omega) (by simp only [maxLen]; omega) ?_; intro w7 hrow7 hk7))
      rw [show List.replicate ws.length (Value.int .i64 0) = natVals (List.replicate ws.length 0) by simp [natVals]] at hrow7
      have hgr : wr.heap.size = wr.heap.size := rfl
      obtain ⟨gr, hgr⟩ : ∃ gr, wr.heap.size = gr := ⟨_, rfl⟩
      have HGR := Lib.hid (show go ≠ gr ∧ w.heap.size ≤ gr from ⟨by have := HRO.out.lt go (by simp [foot, Value.ownBlock]); omega, by have := HKW.out.size; omega⟩)
      rw [hgr] at hrow7 ⊢
      have HRO7 := Lib.hid (HRO.out.kept hk7 (by simp))
      have HK7 := Lib.hid (HKW.out.trans hk7 (by simp))
      have HRR7 := Lib.hid hrow7
      clear hrow7 hk7 HRO HKW hgr
      go_loopg [10] ws.length (fun g v10 wr => ∃ i : Nat, g = ws.length - i ∧ i ≤ ws.length ∧ v10 = .int .i64 (i : Nat) ∧ Hid (Row wr 3 (.slice (some ⟨gr, 0, none⟩) ws.length ws.length) (natVals (ls.take i ++ List.replicate (ws.length - i) 0))) ∧
        Hid (Row wr 3 (.slice (some ⟨go, 0, none⟩) m cO) (natVals over)) ∧ Hid (Kept [] w wr))
      case atStart => exact ⟨0, by omega, by omega, rfl, HRR7, HRO7, HK7⟩
      case round =>
        obtain ⟨i, hgi, hi, rfl, HRR, HRO, HKW⟩ := hrel
        have Hgi := Lib.hid hgi
        clear hgi
        by_cases hlt : i < ws.length
        · have hli : (i : Int) < (ws.length : Int) := by omega
          have him : (i : Int) < (m : Int) := by omega
          obtain ⟨r, hu, hr0⟩ := HUP.out i hlt
          have HR0 := Lib.hid hr0
          have HU := Lib.hid hu
          clear hu hr0
          obtain ⟨wq, rfl⟩ : ∃ wo : World, wo = wr := ⟨_, rfl⟩
          have c0 := HRO.out.cellAt (j := i) (natVals_get (l := over) (x := over.getD i 0) (by rw [List.getD_eq_getElem?_getD, List.getElem?_eq_getElem (by have := HLO.out; omega)]; rfl))
          rw [K.outS_start ls ws.length i hlt] at HRR
          go_wp2_with fail
          go_loopg [11] (ls.getD i 0) (fun d v11 wr => DepI w over ls ws.length m i gr go cO r d v11 wr)
          case atStart => exact ⟨i, _, HU, Lib.hid (Nat.le_refl _), rfl, Lib.hid rfl, by rw [Nat.sub_self]; exact HRR, HRO, HKW⟩
          case round =>
            obtain ⟨cur, t, HUC, HD, rfl, HT, HRC, HOC, HKC⟩ := hrel
            clear c0
            by_cases ht0 : t = 0
            · have e0 := HUC.out.root HR0.out (by rw [← HT.out]; exact ht0)
              subst ht0
              go_wp2_with fail
              go_roundg (ws.length - (i + 1))
              case measure => have := Hgi.out; omega
              case rel =>
                have h := HRC.out
                rw [e0, Nat.sub_zero, K.outS_end ls _ i hlt HLL.out] at h
                exact ⟨i + 1, by omega, by omega, by simp, Lib.hid h, HOC, HKC⟩
            · obtain ⟨e, he, hue⟩ := HUC.out.next HR0.out (by rw [← HT.out]; exact ht0)
              subst he
              have HUE := Lib.hid hue
              have htm : t < m := by rw [HT.out]; exact HTOP.out _
              have htm' : (t : Int) < (m : Int) := by omega
              have g0 : ((t : Int) == 0) = false := by simp; omega
              have g1 : ((t : Int) != 0) = true := by simp; omega
              obtain ⟨y, hy⟩ : ∃ y, ls.getD i 0 - (e + 1) = y := ⟨_, rfl⟩
              have hxl : y ≤ 1000 := by have := HMAX.out i; omega
              have HY := Lib.hid (show ls.getD i 0 - e = y + 1 by have := HD.out; omega)
              have c1 := HRC.out.cellAt (natVals_get (K.outS_get ls ws.length i _ hlt HLL.out))
              rw [hy] at c1 HRC
              have f1 := HRC.out.free i
              have c2 := HOC.out.cellAt (j := t) (natVals_get (l := over) (x := over.getD t 0) (by rw [List.getD_eq_getElem?_getD, List.getElem?_eq_getElem (by have := HLO.out; omega)]; rfl))
              have HGN := Lib.hid HGR.out.1
              have c3 : (wr.setCell ⟨gr, i, none⟩ (.int .i64 ((y : Int) + 1))).cell? ⟨go, t, none⟩ = _ := (HOC.out.setCell (p := ⟨gr, i, none⟩) (by simp [foot, Value.ownBlock]; exact fun h => HGN.out h.symm) (.int .i64 ((y : Int) + 1))).cellAt (j := t) (natVals_get (l := over) (x := over.getD t 0) (by rw [List.getD_eq_getElem?_getD, List.getElem?_eq_getElem (by have := HLO.out; omega)]; rfl))
              clear hue hy htm
              go_wp2_with fail
              go_roundg e
              case measure => omega
              case rel =>
                have h1 := HRC.out.put i (.int .i64 ((y + 1 : Nat) : Int))
                rw [← natVals_set, K.outS_set ls _ i _ _ hlt HLL.out, ← HY.out] at h1
                have h2 := HOC.out.setCell (p := ⟨gr, i, none⟩) (by simp [foot, Value.ownBlock]; exact fun h => HGN.out h.symm) (.int .i64 ((y + 1 : Nat) : Int))
                have h3 := HKC.out.setCell (p := ⟨gr, i, none⟩) (.inr HGR.out.2) (.int .i64 ((y + 1 : Nat) : Int))
                rw [HY.out] at h1
                have h4 : Hid (Row (wr.setCell ⟨gr, i, none⟩ (.int .i64 ((y : Int) + 1))) 3 (.slice (some ⟨gr, 0, none⟩) ws.length ws.length) (natVals (K.outS ls ws.length i (ls.getD i 0 - e)))) := Lib.hid (by rw [HY.out]; exact h1)
                exact ⟨t, over.getD t 0, by rw [HT.out]; exact HUE, Lib.hid (by have := HD.out; omega), by first | rfl | simp, Lib.hid rfl, h4, Lib.hid h2, Lib.hid h3⟩
        · obtain rfl : i = ws.length := by omega
          have hll : ¬ (ws.length : Int) < (ws.length : Int) := by omega
          go_wp2_with fail
          go_ret
          have h := HRR.out
          rw [Nat.sub_self, List.replicate_zero, List.append_nil, List.take_of_length_le (by rw [HLL.out]; exact Nat.le_refl _), ← HLL.out] at h
          exact ⟨some ⟨gr, 0, none⟩, ls.length, by rw [HLL.out]; rfl, h, HKW.out, by intro x hx; simp [footA] at hx; subst hx; exact HGR.out.2⟩
end Go.Proofs.Ytdaenajhgbagdaa
namespace Go.Proofs.Ytdaenajhgbagdaa
open Go.RowKit
set_option linter.unusedVariables false
set_option linter.unusedSimpArgs false

/-- A weight that is at least 1. -/
def clampI (x : Int) : Int := if 1 ≤ x then x else 1
def ownN (xs : List Int) : List Nat := xs.map fun x => (clampI x).toNat
theorem clampI_pos (x : Int) : 1 ≤ clampI x := by unfold clampI; split <;> omega
theorem ownN_vals (xs : List Int) : intVals (xs.map clampI) = natVals (ownN xs) := by
  rw [natVals_int]
  congr 1
  simp only [ownN, List.map_map]
  apply List.map_congr_left
  intro x _
  have := clampI_pos x
  simp only [Function.comp]
  omega
theorem ownN_length (xs : List Int) : (ownN xs).length = xs.length := by simp [ownN]
theorem ownN_bd {xs : List Int} (h : mayL xs = true) : ∀ x ∈ ownN xs, 1 ≤ x ∧ x ≤ 1073741824 := by
  intro x hx
  obtain ⟨y, hy, rfl⟩ := List.mem_map.1 hx
  have h1 := (mayL_get h).2.2 y hy
  unfold clampI
  split <;> omega
theorem own_sum {w : List Nat} (hl : w.length ≤ 258) (h : ∀ x ∈ w, 1 ≤ x ∧ x ≤ 1073741824) : w.sum ≤ 1000000000000 := by
  have h1 := K.sum_le w 1073741824 (fun x hx => (h x hx).2)
  have h2 : w.length * 1073741824 ≤ 258 * 1073741824 := Nat.mul_le_mul_right _ hl
  omega
theorem clamp_set (xs : List Int) (i : Nat) (x : Int) (h : xs[i]? = some x) : ((xs.take i).map clampI ++ xs.drop i).set i (clampI x) = (xs.take (i + 1)).map clampI ++ xs.drop (i + 1) := by
  obtain ⟨hi, hv⟩ := List.getElem?_eq_some_iff.1 h
  have hl : ((xs.take i).map clampI).length = i := by simp; omega
  rw [List.set_append_right _ _ (by omega), hl, Nat.sub_self, List.drop_eq_getElem_cons hi, List.set_cons_zero, List.take_succ_eq_append_getElem hi, hv]
  simp
theorem clamp_at (xs : List Int) (i : Nat) (x : Int) (h : xs[i]? = some x) : ((xs.take i).map clampI ++ xs.drop i)[i]? = some x := by
  obtain ⟨hi, hv⟩ := List.getElem?_eq_some_iff.1 h
  have hl : ((xs.take i).map clampI).length = i := by simp; omega
  rw [List.getElem?_append_right (by omega), hl, Nat.sub_self, List.getElem?_drop]
  simpa using h
theorem intVals_set (l : List Int) (i : Nat) (x : Int) : intVals (l.set i x) = (intVals l).set i (.int .i64 x) := by simp [intVals, List.map_set]
theorem max_more {ls : List Nat} {m : Int} {most : Nat} (h1 : m ∈ ls.map fun n : Nat => (n : Int)) (h2 : ∀ x ∈ ls.map fun n : Nat => (n : Int), x ≤ m) : (m ≤ (most : Int)) ↔ ∀ x ∈ ls, x ≤ most := by
  constructor
  · intro h x hx
    have := h2 (x : Int) (List.mem_map.2 ⟨x, hx, rfl⟩)
    omega
  · intro h
    obtain ⟨x, hx, rfl⟩ := List.mem_map.1 h1
    have := h x hx
    omega
/-- Make's answer: the lengths, or none. -/
def mostOk (most : Int) : Bool := decide (12 ≤ most ∧ most ≤ 20)

/-- The weights are clamped. -/
def ClampI (w0 : World) (xs : List Int) (go cO : Nat) (g : Nat) (v : Value) (wr : World) : Prop :=
  ∃ i : Nat, g = xs.length - i ∧ i ≤ xs.length ∧ v = .int .i64 (i : Nat) ∧ Hid (Row wr 3 (.slice (some ⟨go, 0, none⟩) xs.length cO) (intVals ((xs.take i).map clampI ++ xs.drop i))) ∧ Hid (Kept [] w0 wr)
/-- A try was made. -/
def TryI (w0 : World) (most N : Nat) (ls : List Nat) (go cO : Nat) (g : Nat) (v8 v9 : Value) (wr : World) : Prop :=
  ∃ (k c : Nat) (wc lc : List Nat) (a : Option Addr) (cA : Nat), k = g ∧ Hid (K.MadeN most k wc ls) ∧ c + k ≤ 39 ∧ v9 = .int .i64 (c : Nat) ∧ v8 = .slice a N cA ∧ Hid (wc.length = N ∧ lc.length = N) ∧ Hid (∀ x ∈ wc, 1 ≤ x ∧ x ≤ 1073741824) ∧ Hid (K.Told wc lc) ∧
    Hid (Row wr 3 (.slice (some ⟨go, 0, none⟩) N cO) (natVals wc)) ∧ Hid (Row wr 3 (.slice a N cA) (natVals lc)) ∧ Hid (Kept [] w0 wr) ∧ Hid (Fresh w0.heap.size (footA a))
def HalveI (w0 : World) (N : Nat) (wc : List Nat) (go cO : Nat) (g : Nat) (v : Value) (wr : World) : Prop :=
  ∃ i : Nat, g = N - i ∧ i ≤ N ∧ v = .int .i64 (i : Nat) ∧ Hid (Row wr 3 (.slice (some ⟨go, 0, none⟩) N cO) (natVals (K.halve (wc.take i) ++ wc.drop i))) ∧ Hid (Kept [] w0 wr)

theorem rmake_bad (a : Option Addr) (c : Nat) (xs : List Int) (most : Int) (w : World) (h : Sees w 1 a xs.length (intVals xs)) (hl : xs.length ≤ 17592186043904) (hno : (mayL xs && mostOk most) = false) :
    Calls Try.prog 74 #[.slice a xs.length c, .int .i64 most] w (NatsPost ([], 2) w) := by
  have M := wrmay_any a c xs w h hl
  clear h
  go_enter Try.func74, Try.ntmps74
  go_wp2_with fail
  refine M.mono ?_
  rintro e w' ⟨rfl, rfl⟩
  cases hm : mayL xs with
  | false =>
    clear hno
    go_wp2_with fail
    go_ret2
    exact .err rfl (Kept.refl _ _)
  | true =>
    rw [hm] at hno
    by_cases h1 : most < 12
    · have g1 : decide (most < 12) = true := by simp; omega
      clear hno
      go_wp2_with fail
      go_ret2
      exact .err rfl (Kept.refl _ _)
    · have g1 : decide (most < 12) = false := by simp; omega
      have g2 : decide (20 < most) = true := by
        unfold mostOk at hno
        simp at hno ⊢
        omega
      clear hno
      go_wp2_with fail
      go_ret2
      exact .err rfl (Kept.refl _ _)

set_option maxHeartbeats 1000000 in
theorem rmake_good (a : Option Addr) (c : Nat) (xs : List Int) (most n : Nat) (ls : List Nat) (w : World) (h : Sees w 1 a xs.length (intVals xs)) (hao : a = none → c = 0) (hm : mayL xs = true) (hm1 : 12 ≤ most) (hm2 : most ≤ 20)
    (hn : n ≤ 39) (hmade : K.MadeN most n (ownN xs) ls) :
    Calls Try.prog 74 #[.slice a xs.length c, .int .i64 (most : Int)] w (NatsPost (ls, 0) w) := by
  obtain ⟨hx2, hx258, hall⟩ := mayL_get hm
  have M := wrmay_any a c xs w h (by omega)
  rw [hm] at M
  have HS := Lib.hid h
  have HM := Lib.hid hm
  have HMADE := Lib.hid hmade
  have hone : ∀ u ∈ intVals xs, u.oneCell' = true := by
    intro u hu
    obtain ⟨c, -, rfl⟩ := List.mem_map.1 hu
    rfl
  have HONE := Lib.hid hone
  obtain ⟨b, off, rfl, -⟩ := h.at (by rw [intVals_length]; omega)
  have g1 : decide ((most : Int) < 12) = false := by simp; omega
  have g2 : decide (20 < (most : Int)) = false := by simp; omega
  clear h hm hmade hone hall hao
  go_enter Try.func74, Try.ntmps74
  go_wp2_with fail
  refine M.mono ?_
  rintro e w' ⟨rfl, rfl⟩
  clear M
  have hsA : Sees (w.alloc (.cells #[] 3)) 1 (some ⟨b, off, none⟩) xs.length (intVals xs) := HS.out.kept0 ((Kept.refl [] w).alloc _)
  go_wp2_with ((at_builtin; refine wp_appS rfl _ _ 30 rfl 3 (.int .i64 0) 8 Try.underlying30 Try.infoInt rfl (.slice (some ⟨w.heap.size, 0, none⟩) 0 0) [] (intVals xs) (some ⟨b, off, none⟩) xs.length c rfl rfl HONE.out (Row.empty w _) hsA (fun h => by cases h) (by simp [maxLen]; omega) (by simp; omega) ?_; intro a4 cap4 w4 hrow4 hk4 hg4))
  simp only [List.nil_append, List.length_nil, Nat.zero_add] at hrow4 hg4
  have hl4 : (intVals xs).length = xs.length := intVals_length xs
  have hk4 : Kept [] w w4 := ((Kept.refl [] w).alloc _).new hk4 (by intro x hx; simp [foot, Value.ownBlock] at hx; omega)
  obtain ⟨go, cO, hv, hcw, -, -⟩ := hrow4.open (by omega)
  injection hv with hv1 hv2 hv3
  subst hv1
  clear hv2
  subst hv3
  have hgo : w.heap.size ≤ go := by
    rcases hg4 go (by simp [foot, Value.ownBlock]) with h | h
    · simp [foot, Value.ownBlock] at h; omega
    · simp at h; omega
  have HROW := Lib.hid hrow4
  have HK4 := Lib.hid hk4
  clear hrow4 hk4 hg4 hl4 hcw hsA
  go_loopg [7] xs.length (fun g v wr => ClampI w xs go cap4 g v wr)
  case atStart => exact ⟨0, by omega, by omega, rfl, by simpa using HROW, HK4⟩
  case round =>
    obtain ⟨i, hg, hi, rfl, HR, HK⟩ := hrel
    have Hg := Lib.hid hg
    clear hg
    by_cases hlt : i < xs.length
    · have hli : (i : Int) < (xs.length : Int) := by omega
      obtain ⟨x, hx⟩ : ∃ x, xs[i]? = some x := ⟨_, List.getElem?_eq_getElem hlt⟩
      have c0 := HR.out.cellAt (intVals_get _ _ _ (clamp_at xs i x hx))
      have f0 := HR.out.free i
      have HX := Lib.hid hx
      clear hx
      by_cases h1 : 1 ≤ x
      all_goals
        go_wp2_with fail
        go_roundg (xs.length - (i + 1))
        case measure => have := Hg.out; omega
        case rel =>
          have hs := HR.out.put i (.int .i64 (clampI x))
          rw [← intVals_set, clamp_set xs i x HX.out] at hs
          have hk := HK.out.setCell (p := ⟨go, i, none⟩) (.inr hgo) (.int .i64 (clampI x))
          first
            | rw [show clampI x = x from if_pos h1] at hs hk
            | rw [show clampI x = 1 from if_neg (by omega)] at hs hk
          exact ⟨i + 1, by omega, by omega, by simp, Lib.hid hs, Lib.hid hk⟩
    · obtain rfl : i = xs.length := by omega
      have hll : ¬ (xs.length : Int) < (xs.length : Int) := by omega
      have hrow := HR.out
      rw [List.take_of_length_le (Nat.le_refl _), List.drop_of_length_le (Nat.le_refl _), List.append_nil, ownN_vals] at hrow
      have HROWN := Lib.hid hrow
      have HBD := Lib.hid (ownN_bd HM.out)
      have HOL := Lib.hid (ownN_length xs)
      obtain ⟨wc, hwc⟩ : ∃ wc, ownN xs = wc := ⟨_, rfl⟩
      have hlN : wc.length = xs.length := by rw [← hwc]; exact HOL.out
      rw [hwc] at HROWN HBD HMADE
      obtain ⟨lc, hlc⟩ := K.hrun_lens wc (fun x hx => (HBD.out x hx).1) (by omega)
      have G := rgrown_any (some ⟨go, 0, none⟩) cap4 wc lc wr (by rw [hlN]; exact HROWN.out.seeA) (by omega) (by omega) (fun x hx => (HBD.out x hx).1) (own_sum (by omega) HBD.out) hlc
      have HLC := Lib.hid (show K.Told wc lc from hlc)
      have hlcl : lc.length = xs.length := by rw [hlc.len, hlN]
      rw [hlN] at G
      have HLN := Lib.hid (And.intro hlN hlcl)
      clear hrow HR hwc hlN hlc hlcl Hg HOL HS HM HONE
      go_wp2_with fail
      refine G.mono ?_
      rintro e w5 ⟨a5, c5, rfl, hrow5, hk5, hf5⟩
      rw [HLN.out.2] at hrow5 ⊢
      have HR5 := Lib.hid hrow5
      have HF5 := Lib.hid (Fresh.mono hf5 HK.out.size)
      have HKN := Lib.hid (HK.out.trans hk5 (by simp))
      have HRO5 := Lib.hid (HROWN.out.kept hk5 (by simp))
      clear hrow5 hk5 hf5 G HK HROWN
      have HGO := Lib.hid hgo
      clear hgo
      go_wp2_with fail
      go_loopg [8, 9] n (fun g v8 v9 wr => TryI w most xs.length ls go cap4 g v8 v9 wr)
      case atStart => exact ⟨n, 0, wc, lc, a5, c5, rfl, HMADE, by omega, rfl, rfl, HLN, HBD, HLC, HRO5, HR5, HKN, HF5⟩
      case round =>
        clear HMADE HLN HBD HLC HRO5 HR5 HKN HF5
        obtain ⟨k, c, wc, lc, a8, c8, rfl, HMADE, hck, rfl, rfl, HLN, HBD, HLC, HRO, HR8, HKN, HF8⟩ := hrel
        have hc40 : (c : Int) < 40 := by omega
        have G := greatest_any a8 c8 (lc.map fun n : Nat => (n : Int)) wr (by rw [List.length_map, HLN.out.2, ← natVals_int]; exact HR8.out.seeA) (by rw [List.length_map, HLN.out.2]; omega) (by rw [List.length_map, HLN.out.2]; omega)
        rw [List.length_map, HLN.out.2] at G
        obtain ⟨wo, rfl⟩ : ∃ wo : World, wo = wr := ⟨_, rfl⟩
        rcases Nat.eq_zero_or_pos k with hk0 | hk0
        · subst hk0
          obtain ⟨t1, t2⟩ := HMADE.out
          have e1 := K.told_one t1 HLC.out
          subst e1
          have T2 := Lib.hid t2
          clear t1 t2
          go_wp2_with fail
          refine G.mono ?_
          rintro e w6 ⟨m, rfl, h1, h2, rfl⟩
          have hmm := (max_more h1 h2).2 T2.out
          have g3 : decide ((most : Int) < m) = false := by simp; omega
          clear h1 h2
          go_wp2_with fail
          go_ret2
          have hr := HR8.out
          have hl := HLN.out.2
          rw [← hl] at hr
          exact ⟨a8, c8, by rw [hl]; rfl, hr, HKN.out, HF8.out⟩
        · obtain ⟨r, rfl⟩ : ∃ r, k = r + 1 := ⟨k - 1, by omega⟩
          obtain ⟨l0, t1, t2, t3⟩ := HMADE.out
          have e1 := K.told_one t1 HLC.out
          subst e1
          have T2 := Lib.hid t2
          have T3 := Lib.hid t3
          clear t1 t2 t3 HMADE
          go_wp2_with fail
          refine G.mono ?_
          rintro e w6 ⟨m, rfl, h1, h2, rfl⟩
          have hmm : ¬ (m ≤ (most : Int)) := fun hm => by
            obtain ⟨x, hx, hlt⟩ := T2.out
            have := (max_more h1 h2).1 hm x hx
            omega
          have g3 : decide ((most : Int) < m) = true := by simp; omega
          clear h1 h2 G
          go_wp2_with fail
          go_loopg [10] xs.length (fun g v wr => HalveI w xs.length wc go cap4 g v wr)
          case atStart => exact ⟨0, by omega, by omega, rfl, by simpa [K.halve] using HRO, HKN⟩
          case round =>
            obtain ⟨i, hg, hi, rfl, HR, HK⟩ := hrel
            have Hg := Lib.hid hg
            clear hg
            by_cases hlt : i < xs.length
            · have hli : (i : Int) < (xs.length : Int) := by omega
              obtain ⟨x, hx⟩ : ∃ x, wc[i]? = some x := ⟨_, List.getElem?_eq_getElem (by have := HLN.out.1; omega)⟩
              have hxb : x ≤ 1073741824 := (HBD.out x (List.mem_of_getElem? hx)).2
              have c0 := HR.out.cellAt (natVals_get (K.halve_at wc i x hx))
              have f0 := HR.out.free i
              have HX := Lib.hid hx
              clear hx
              go_wp2_with fail
              go_roundg (xs.length - (i + 1))
              case measure => have := Hg.out; omega
              case rel =>
                have hs := HR.out.put i (.int .i64 ((x / 2 + 1 : Nat) : Int))
                rw [← natVals_set, K.halve_take wc i x HX.out] at hs
                have hk := HK.out.setCell (p := ⟨go, i, none⟩) (.inr HGO.out) (.int .i64 ((x / 2 + 1 : Nat) : Int))
                exact ⟨i + 1, by omega, by omega, by simp, Lib.hid hs, Lib.hid hk⟩
            · obtain rfl : i = xs.length := by omega
              have hll : ¬ (xs.length : Int) < (xs.length : Int) := by omega
              have hrow := HR.out
              rw [List.take_of_length_le (by rw [HLN.out.1]; exact Nat.le_refl _), List.drop_of_length_le (by rw [HLN.out.1]; exact Nat.le_refl _), List.append_nil] at hrow
              have HROWN := Lib.hid hrow
              have hlN : (K.halve wc).length = xs.length := by rw [K.halve_length, HLN.out.1]
              have hbd : ∀ x ∈ K.halve wc, 1 ≤ x ∧ x ≤ 1073741824 := fun x hx => ⟨K.halve_pos wc x hx, K.halve_le (fun y hy => (HBD.out y hy).2) x hx⟩
              have HBD2 := Lib.hid hbd
              generalize K.halve wc = wd at *
              obtain ⟨ld, hlc⟩ := K.hrun_lens wd (fun x hx => (HBD2.out x hx).1) (by omega)
              have G := rgrown_any (some ⟨go, 0, none⟩) cap4 wd ld wr (by rw [hlN]; exact HROWN.out.seeA) (by omega) (by omega) (fun x hx => (HBD2.out x hx).1) (own_sum (by omega) HBD2.out) hlc
              have HLC2 := Lib.hid (show K.Told wd ld from hlc)
              have hlcl : ld.length = xs.length := by rw [hlc.len, hlN]
              rw [hlN] at G
              have HLN2 := Lib.hid (And.intro hlN hlcl)
              clear hrow HR hlN hlc hlcl Hg hbd
              go_wp2_with fail
              refine G.mono ?_
              rintro e w5 ⟨a5, c5, rfl, hrow5, hk5, hf5⟩
              rw [HLN2.out.2] at hrow5 ⊢
              have HR5 := Lib.hid hrow5
              have HF5 := Lib.hid (Fresh.mono hf5 HK.out.size)
              have HKN5 := Lib.hid (HK.out.trans hk5 (by simp))
              have HRO5 := Lib.hid (HROWN.out.kept hk5 (by simp))
              clear hrow5 hk5 hf5 G HK HROWN
              go_wp2_with fail
              go_roundg r
              case measure => omega
              case rel => exact ⟨r, c + 1, wd, ld, a5, c5, rfl, T3, by omega, by simp, rfl, HLN2, HBD2, HLC2, HRO5, HR5, HKN5, HF5⟩
end Go.Proofs.Ytdaenajhgbagdaa
namespace Go.Proofs.Ytdaenajhgbagdaa
open Go.RowKit
set_option linter.unusedVariables false
set_option linter.unusedSimpArgs false

theorem pow_big {k n : Nat} (h : 2 ^ k ≤ n) (hn : n ≤ 258) : k ≤ 8 := by
  rcases Nat.lt_or_ge k 9 with h' | h'
  · omega
  · have := Nat.pow_le_pow_right (n := 2) (by omega) h'
    omega
theorem ownN_get {xs : List Int} {i : Nat} {x : Int} (h : xs[i]? = some x) : (((ownN xs).getD i 0 : Nat) : Int) = clampI x := by
  have h1 : (ownN xs)[i]? = some (clampI x).toNat := by simp [ownN, h]
  have h2 := clampI_pos x
  rw [List.getD, h1, Option.getD_some]
  omega
theorem before_int {xs : List Int} {i j : Nat} {x y : Int} (hx : xs[i]? = some x) (hy : xs[j]? = some y) : K.before (ownN xs) i j = decide (clampI x < clampI y ∨ (clampI y = clampI x ∧ j < i)) := by
  have h1 := ownN_get hx
  have h2 := ownN_get hy
  unfold K.before
  apply decide_eq_decide.2
  omega
theorem rflat_bad (a : Option Addr) (c : Nat) (xs : List Int) (w : World) (h : Sees w 1 a xs.length (intVals xs)) (hl : xs.length ≤ 17592186043904) (hno : mayL xs = false) :
    Calls Try.prog 77 #[.slice a xs.length c] w (NatsPost ([], 2) w) := by
  have M := wrmay_any a c xs w h hl
  rw [hno] at M
  clear h hno
  go_enter Try.func77, Try.ntmps77
  go_wp2_with fail
  refine M.mono ?_
  rintro e w' ⟨rfl, rfl⟩
  go_wp2_with fail
  go_ret2
  exact .err rfl (Kept.refl _ _)

/-- So many symbols have got their flat lengths. -/
def FlatI (w0 : World) (xs : List Int) (go : Nat) (g : Nat) (v : Value) (wr : World) : Prop :=
  ∃ i : Nat, g = xs.length - i ∧ i ≤ xs.length ∧ v = .int .i64 (i : Nat) ∧ Hid (Row wr 3 (.slice (some ⟨go, 0, none⟩) xs.length xs.length) (natVals ((K.flatL (ownN xs)).take i ++ List.replicate (xs.length - i) 0))) ∧ Hid (Kept [] w0 wr)
/-- Those in front are counted. -/
def FrontI (w0 : World) (xs : List Int) (i : Nat) (g : Nat) (v8 v9 : Value) (wr : World) : Prop :=
  ∃ j f : Nat, g = xs.length - j ∧ j ≤ xs.length ∧ f ≤ j ∧ Hid (f = K.frontTo (ownN xs) i j) ∧ v8 = .int .i64 (f : Nat) ∧ v9 = .int .i64 (j : Nat) ∧ Hid (Kept [] w0 wr)
set_option maxHeartbeats 1000000 in
theorem rflat_good (a : Option Addr) (c : Nat) (xs : List Int) (w : World) (h : Sees w 1 a xs.length (intVals xs)) (hm : mayL xs = true) :
    Calls Try.prog 77 #[.slice a xs.length c] w (NatsPost (K.flatL (ownN xs), 0) w) := by
  obtain ⟨hx2, hx258, hall⟩ := mayL_get hm
  have M := wrmay_any a c xs w h (by omega)
  rw [hm] at M
  have HS := Lib.hid h
  obtain ⟨b, off, rfl, -⟩ := h.at (by rw [intVals_length]; omega)
  clear h hm hall
  go_enter Try.func77, Try.ntmps77
  go_wp2_with fail
  refine M.mono ?_
  rintro e w' ⟨rfl, rfl⟩
  clear M
  go_wp2_with fail
  go_loopg [5] 8 (fun g v wr => ∃ k : Nat, g = 9 - k ∧ 1 ≤ k ∧ k ≤ 8 ∧ Hid (2 ^ k ≤ xs.length) ∧ v = .int .i64 (k : Nat) ∧ w = wr)
  case atStart => exact ⟨1, by omega, by omega, by omega, Lib.hid hx2, rfl, rfl⟩
  case round =>
    obtain ⟨k, hg, hk1, hk8, HP, rfl, rfl⟩ := hrel
    have Hg := Lib.hid hg
    clear hg
    obtain ⟨t, ht⟩ : ∃ t, k + 1 = t := ⟨_, rfl⟩
    have hsub : (k : Int) + 1 = (t : Int) := by omega
    have hpw : (2 : Int) ^ t = ((2 ^ t : Nat) : Int) := by norm_cast
    have hp512 : 2 ^ t ≤ 512 := by
      have := Nat.pow_le_pow_right (n := 2) (by omega) (show t ≤ 9 by omega)
      omega
    have HT := Lib.hid ht
    obtain ⟨p, hp⟩ : ∃ p, 2 ^ t = p := ⟨_, rfl⟩
    have HPP := Lib.hid hp
    rw [hp] at hpw hp512
    have ht9 : t ≤ 9 := by omega
    have ht0 : (0 : Int) ≤ (t : Int) := by omega
    clear ht hp
    by_cases hle : p ≤ xs.length
    · have hlei : (p : Int) ≤ (xs.length : Int) := by omega
      go_wp2_with fail
      go_roundg (9 - t)
      case measure => have := Hg.out; have := HT.out; omega
      case rel => exact ⟨t, rfl, by omega, by rw [← HPP.out] at hle; exact pow_big hle hx258, Lib.hid (by rw [HPP.out]; exact hle), by first | rfl | simp, rfl⟩
    · have hlei : ¬ (p : Int) ≤ (xs.length : Int) := by omega
      have HLOG := Lib.hid (show Nat.log2 xs.length = k from K.log2_is (by omega) HP.out (by rw [HT.out, HPP.out]; omega))
      have hpos : 0 < xs.length := by omega
      go_wp2_with ((at_make; refine wp_make1 rfl _ _ 30 rfl 3 (.int .i64 0) 8 Try.underlying30 Try.infoInt rfl .i64 .i64 _ _ xs.length xs.length rfl rfl rfl rfl (Nat.le_refl _) (by omega) (by simp only [maxLen]; omega) ?_; intro w7 hrow7 hk7))
      rw [show List.replicate xs.length (Value.int .i64 0) = natVals (List.replicate xs.length 0) by simp [natVals]] at hrow7
      obtain ⟨go, hgo⟩ : ∃ go, w.heap.size = go := ⟨_, rfl⟩
      have HGO := Lib.hid (show w.heap.size ≤ go by omega)
      rw [hgo] at hrow7 ⊢
      have HROW := Lib.hid hrow7
      have HK7 := Lib.hid hk7
      clear hrow7 hk7 hgo Hg
      go_loopg [7] xs.length (fun g v wr => FlatI w xs go g v wr)
      case atStart => exact ⟨0, by omega, by omega, rfl, HROW, HK7⟩
      case round =>
        clear HROW HK7
        obtain ⟨i, hg, hi, rfl, HR, HK⟩ := hrel
        have Hg := Lib.hid hg
        clear hg
        obtain ⟨wq, rfl⟩ : ∃ wo : World, wo = wr := ⟨_, rfl⟩
        by_cases hlt : i < xs.length
        · have hli : (i : Int) < (xs.length : Int) := by omega
          obtain ⟨x, hx⟩ : ∃ x, xs[i]? = some x := ⟨_, List.getElem?_eq_getElem hlt⟩
          have HX := Lib.hid hx
          clear hx
          go_wp2_with fail
          go_loopg [8, 9] xs.length (fun g v8 v9 wr => FrontI wq xs i g v8 v9 wr)
          case atStart => exact ⟨0, 0, by omega, by omega, by omega, Lib.hid rfl, rfl, rfl, Lib.hid (Kept.refl _ _)⟩
          case round =>
            obtain ⟨j, f, hg, hj, hfj, HF, rfl, rfl, HKJ⟩ := hrel
            have Hgj := Lib.hid hg
            clear hg
            by_cases hjt : j < xs.length
            · have hji : (j : Int) < (xs.length : Int) := by omega
              obtain ⟨y, hy⟩ : ∃ y, xs[j]? = some y := ⟨_, List.getElem?_eq_getElem hjt⟩
              have c0 := ((HS.out.kept0 HK.out).kept0 HKJ.out).int HX.out
              have c1 := ((HS.out.kept0 HK.out).kept0 HKJ.out).int hy
              have HBF := Lib.hid (before_int HX.out hy)
              clear hy
              go_wp2_with fail
              go_upto_region 16 with (go_quiet (fail))
              have hcx : (if x < 1 then (1 : Int) else x) = clampI x := by unfold clampI; split <;> split <;> omega
              have hcy : (if y < 1 then (1 : Int) else y) = clampI y := by unfold clampI; split <;> split <;> omega
              rw [hcx, hcy]
              have HKN := Lib.hid (HKJ.out.drewN nq)
              generalize clampI x = A at *
              generalize clampI y = B at *
              clear hcx hcy c0 c1
              by_cases h1 : A < B
              · have g1 : decide (A < B) = true := by simp; omega
                have HFS := Lib.hid (show K.frontTo (ownN xs) i (j + 1) = f + 1 by
                  rw [K.frontTo_succ, HBF.out, ← HF.out, if_pos (by simp; omega)])
                go_wp2_with fail
                go_roundg (xs.length - (j + 1))
                case measure => have := Hgj.out; omega
                case rel => exact ⟨j + 1, f + 1, by omega, by omega, by omega, Lib.hid (by rw [HFS.out]), by simp, by simp, HKN⟩
              · have g1 : decide (A < B) = false := by simp; omega
                by_cases h2 : B = A
                · have g2 : (B == A) = true := by simp; omega
                  by_cases h3 : j < i
                  · have g3 : decide ((j : Int) < (i : Int)) = true := by simp; omega
                    have HFS := Lib.hid (show K.frontTo (ownN xs) i (j + 1) = f + 1 by
                      rw [K.frontTo_succ, HBF.out, ← HF.out, if_pos (by simp; omega)])
                    clear h2
                    go_wp2_with fail
                    go_roundg (xs.length - (j + 1))
                    case measure => have := Hgj.out; omega
                    case rel => exact ⟨j + 1, f + 1, by omega, by omega, by omega, Lib.hid (by rw [HFS.out]), by simp, by simp, HKN⟩
                  · have g3 : decide ((j : Int) < (i : Int)) = false := by simp; omega
                    have HFS := Lib.hid (show K.frontTo (ownN xs) i (j + 1) = f by
                      rw [K.frontTo_succ, HBF.out, ← HF.out, if_neg (by simp; omega)]; rfl)
                    clear h2
                    go_wp2_with fail
                    go_roundg (xs.length - (j + 1))
                    case measure => have := Hgj.out; omega
                    case rel => exact ⟨j + 1, f, by omega, by omega, by omega, Lib.hid (by rw [HFS.out]), by simp, by simp, HKN⟩
                · have g2 : (B == A) = false := by simp; omega
                  have HFS := Lib.hid (show K.frontTo (ownN xs) i (j + 1) = f by
                    rw [K.frontTo_succ, HBF.out, ← HF.out, if_neg (by simp; omega)]; rfl)
                  go_wp2_with fail
                  go_roundg (xs.length - (j + 1))
                  case measure => have := Hgj.out; omega
                  case rel => exact ⟨j + 1, f, by omega, by omega, by omega, Lib.hid (by rw [HFS.out]), by simp, by simp, HKN⟩
            · obtain rfl : j = xs.length := by omega
              have hll : ¬ (xs.length : Int) < (xs.length : Int) := by omega
              have HFR := Lib.hid (show f = K.frontN (ownN xs) i by rw [HF.out]; unfold K.frontN; rw [ownN_length])
              have HRJ := Lib.hid (HR.out.kept HKJ.out (by simp))
              have HKA := Lib.hid (HK.out.trans HKJ.out (by simp))
              have hz : ((K.flatL (ownN xs)).take i ++ List.replicate (xs.length - i) 0)[i]? = some 0 := by
                have e : ((K.flatL (ownN xs)).take i).length = i := by simp [K.flatL_length, ownN_length]; omega
                rw [List.getElem?_append_right (by omega), e, Nat.sub_self, List.getElem?_replicate, if_pos (by omega)]
              have c0 := HRJ.out.cellAt (natVals_get hz)
              have f0 := HRJ.out.free i
              have c1 := (HRJ.out.put i (.int .i64 (k : Int))).cellAt (j := i) (u := .int .i64 (k : Int)) (by rw [List.getElem?_set_self (by have := (List.getElem?_eq_some_iff.1 hz).1; rw [natVals_length]; exact this)])
              have f1 := (HRJ.out.put i (.int .i64 (k : Int))).free i
              have hset : ∀ v, K.flatAt xs.length f = v → ((K.flatL (ownN xs)).take i ++ List.replicate (xs.length - i) 0).set i v = (K.flatL (ownN xs)).take (i + 1) ++ List.replicate (xs.length - (i + 1)) 0 := by
                intro v hv
                have hfl : (K.flatL (ownN xs)).length = xs.length := by rw [K.flatL_length, ownN_length]
                rw [K.outS_start _ _ _ hlt, K.outS_set _ _ _ _ _ hlt hfl, ← K.outS_end _ _ _ hlt hfl, K.flatL_get _ _ (by rw [ownN_length]; exact hlt), ownN_length, ← HFR.out, hv]
              have HSET := Lib.hid hset
              have hflat : K.flatAt xs.length f = k + if p - xs.length ≤ f then 1 else 0 := by
                unfold K.flatAt
                rw [HLOG.out, HT.out, HPP.out]
              have HFLAT := Lib.hid hflat
              clear hz hset hflat
              by_cases hge : p - xs.length ≤ f
              · have hgei : (p : Int) - (xs.length : Int) ≤ (f : Int) := by omega
                go_wp2_with fail
                go_roundg (xs.length - (i + 1))
                case measure => have := Hg.out; omega
                case rel =>
                  have h1 := (HRJ.out.put i (.int .i64 (k : Int))).put i (.int .i64 ((t : Nat) : Int))
                  rw [List.set_set, ← natVals_set, HSET.out t (by rw [HFLAT.out, if_pos hge]; exact HT.out)] at h1
                  have h2 := (HKA.out.setCell (p := ⟨go, i, none⟩) (.inr HGO.out) (.int .i64 (k : Int))).setCell (p := ⟨go, i, none⟩) (.inr HGO.out) (.int .i64 ((t : Nat) : Int))
                  exact ⟨i + 1, by omega, by omega, by simp, Lib.hid h1, Lib.hid h2⟩
              · have hgei : ¬ (p : Int) - (xs.length : Int) ≤ (f : Int) := by omega
                go_wp2_with fail
                go_roundg (xs.length - (i + 1))
                case measure => have := Hg.out; omega
                case rel =>
                  have h1 := HRJ.out.put i (.int .i64 (k : Int))
                  rw [← natVals_set, HSET.out k (by rw [HFLAT.out, if_neg hge]; rfl)] at h1
                  have h2 := HKA.out.setCell (p := ⟨go, i, none⟩) (.inr HGO.out) (.int .i64 (k : Int))
                  exact ⟨i + 1, by omega, by omega, by simp, Lib.hid h1, Lib.hid h2⟩
        · obtain rfl : i = xs.length := by omega
          have hll : ¬ (xs.length : Int) < (xs.length : Int) := by omega
          have hfl : (K.flatL (ownN xs)).length = xs.length := by rw [K.flatL_length, ownN_length]
          have HFL := Lib.hid hfl
          clear hfl
          go_wp2_with fail
          go_ret2
          have h := HR.out
          rw [Nat.sub_self, List.replicate_zero, List.append_nil, List.take_of_length_le (by rw [HFL.out]; exact Nat.le_refl _), ← HFL.out] at h
          exact ⟨some ⟨go, 0, none⟩, _, by rw [HFL.out]; rfl, h, HK.out, by intro x hx; simp [footA] at hx; subst hx; exact HGO.out⟩
end Go.Proofs.Ytdaenajhgbagdaa
