/-
  The walk of kistref08.grown.
-/
import Derived.Test.YtcjkjknahalpnaaRefM
import Derived.Test.YtcjkjknahalpnaaHufH
import Derived.Test.YtcjkjknahalpnaaLibE
import Derived.Test.YtcjkjknahalpnaaLibG
import Derived.Deep.RegionHeld3
namespace Go.Proofs.Ytcjkjknahalpnaa
open Go.RowKit
set_option linter.unusedVariables false
set_option linter.unusedSimpArgs false

/-- What a function leaves that tells a list of numbers. -/
def LensPost (l : List Nat) (w : World) (e : Ending) (w' : World) : Prop :=
  ∃ a c, e = .returned (.slice a l.length c) ∧ Row w' 3 (.slice a l.length c) (natVals l) ∧ Kept [] w w' ∧ Fresh w.heap.size (footA a)

theorem natVals_get {l : List Nat} {i x : Nat} (h : l[i]? = some x) : (natVals l)[i]? = some (.int .i64 (x : Int)) := by simp [natVals, h]
theorem natVals_set (l : List Nat) (i x : Nat) : natVals (l.set i x) = (natVals l).set i (.int .i64 (x : Int)) := by simp [natVals, List.map_set]
theorem Row.toN {w : World} {e : TypeId} {g n c : Nat} {xs : List Value} (h : Row w e (.slice (some ⟨g, 0, none⟩) n c) xs) : RowN w e 1 (.slice (some ⟨g, 0, none⟩) n c) n xs := by
  have hl := h.len
  subst hl
  exact h
theorem Row.ofN {w : World} {e : TypeId} {g n c : Nat} {xs : List Value} (h : RowN w e 1 (.slice (some ⟨g, 0, none⟩) n c) n xs) : Row w e (.slice (some ⟨g, 0, none⟩) n c) xs := by
  have hl := h.1
  rw [Nat.mul_one] at hl
  subst hl
  exact h
def GrowI (w0 : World) (ws : List Nat) (g : Nat) (v3 v4 v5 : Value) (wr : World) : Prop :=
  ∃ k m j gw cW go cO, g = ws.length - j ∧ j ≤ ws.length ∧ 1 ≤ j ∧ Hid (j = k + 1) ∧ Hid (m = ws.length + k) ∧ m ≤ 1000 ∧ 1 ≤ m ∧ v5 = .int .i64 (j : Nat) ∧ v3 = .slice (some ⟨gw, 0, none⟩) m cW ∧ v4 = .slice (some ⟨go, 0, none⟩) m cO ∧
    Hid (Row wr 3 (.slice (some ⟨gw, 0, none⟩) m cW) (natVals (K.hrun ws k).1)) ∧ Hid (Row wr 3 (.slice (some ⟨go, 0, none⟩) m cO) (natVals (K.hrun ws k).2)) ∧
    Hid (Kept [] w0 wr) ∧ Hid (gw ≠ go ∧ w0.heap.size ≤ gw ∧ w0.heap.size ≤ go)

/-- The depth of symbol i is counted: d steps are left. -/
def DepI (w0 : World) (over ls : List Nat) (n m i gr go cO r : Nat) (d : Nat) (v11 : Value) (wr : World) : Prop :=
  ∃ cur t, Hid (K.Up over cur d r) ∧ Hid (d ≤ ls.getD i 0) ∧ v11 = .int .i64 (t : Nat) ∧ Hid (t = over.getD cur 0) ∧ Hid (Row wr 3 (.slice (some ⟨gr, 0, none⟩) n n) (natVals (K.outS ls n i (ls.getD i 0 - d)))) ∧
    Hid (Row wr 3 (.slice (some ⟨go, 0, none⟩) m cO) (natVals over)) ∧ Hid (Kept [] w0 wr)
theorem rgrown_any (a : Option Addr) (c : Nat) (ws ls : List Nat) (w : World) (h : Sees w 1 a ws.length (natVals ws)) (h0 : 1 ≤ ws.length) (hl : ws.length ≤ 258) (hw : ∀ x ∈ ws, 1 ≤ x) (hs : ws.sum ≤ 1000000000000)
    (hls : K.Told ws ls) :
    Calls Try.prog 27 #[.slice a ws.length c] w (LensPost ls w) := by
  have HS := Lib.hid h
  have HW := Lib.hid hw
  have HLS := Lib.hid hls
  have hone : ∀ u ∈ natVals ws, u.oneCell' = true := by
    intro u hu
    obtain ⟨c, -, rfl⟩ := List.mem_map.1 hu
    rfl
  have HONE := Lib.hid hone
  obtain ⟨b, off, rfl, -⟩ := h.at (by rw [natVals_length]; omega)
  clear h hw hls hone
  go_enter Try.func27, Try.ntmps27
  have hsA : Sees (w.alloc (.cells #[] 3)) 1 (some ⟨b, off, none⟩) ws.length (natVals ws) := HS.out.kept0 ((Kept.refl [] w).alloc _)
  go_wp2_with ((first
    | (at_builtin; refine wp_appS rfl _ _ 22 rfl 3 (.int .i64 0) 8 Try.underlying22 Try.infoInt rfl (.slice (some ⟨w.heap.size, 0, none⟩) 0 0) [] (natVals ws) (some ⟨b, off, none⟩) ws.length c rfl rfl HONE.out (Row.empty w _) hsA (fun h => by cases h) (by simp [maxLen]; omega) (by simp; omega) ?_; intro a4 cap4 w4 hrow4 hk4 hg4)
    | (at_make; refine wp_make1 rfl _ _ 22 rfl 3 (.int .i64 0) 8 Try.underlying22 Try.infoInt rfl .i64 .i64 _ _ ws.length ws.length rfl rfl rfl rfl (Nat.le_refl _) (by omega) (by simp only [maxLen]; omega) ?_; intro w5 hrow5 hk5)))
  simp only [List.nil_append, List.length_nil, Nat.zero_add] at hrow4 hg4
  have hl4 : (natVals ws).length = ws.length := natVals_length ws
  have hk4 : Kept [] w w4 := ((Kept.refl [] w).alloc _).new hk4 (by intro x hx; simp [foot, Value.ownBlock] at hx; omega)
  obtain ⟨gw, capw, hv, hcw, -, -⟩ := hrow4.open (by omega)
  injection hv with hv1 hv2 hv3
  subst hv1
  clear hv2
  subst hv3
  have hgw : w.heap.size ≤ gw := by
    rcases hg4 gw (by simp [foot, Value.ownBlock]) with h | h
    · simp [foot, Value.ownBlock] at h; omega
    · simp at h; omega
  have hgwl : gw < w4.heap.size := hrow4.lt _ (by simp [foot, Value.ownBlock])
  rw [show List.replicate ws.length (Value.int .i64 0) = natVals (List.replicate ws.length 0) by simp [natVals]] at hrow5
  have hgo : w.heap.size ≤ w4.heap.size := hk4.size
  obtain ⟨go, hgoe⟩ : ∃ go, w4.heap.size = go := ⟨_, rfl⟩
  rw [hgoe] at hrow5 hgwl hgo ⊢
  have hrowW := Lib.hid (hrow4.kept hk5 (by simp))
  have hrowO := Lib.hid hrow5
  have HK5 := Lib.hid (hk4.trans hk5 (by simp))
  have HG := Lib.hid (show gw ≠ go ∧ w.heap.size ≤ gw ∧ w.heap.size ≤ go from ⟨by omega, hgw, hgo⟩)
  clear hrow4 hrow5 hk4 hk5 hsA hg4 hl4 hgw hgwl hgo hcw hgoe
  go_loopg [3, 4, 5] (ws.length - 1) (fun k v3 v4 v5 wr => GrowI w ws k v3 v4 v5 wr)
  case atStart => exact ⟨0, _, 1, gw, _, go, _, by omega, by omega, by omega, Lib.hid rfl, Lib.hid rfl, by omega, by omega, rfl, rfl, rfl, hrowW, hrowO, HK5, HG⟩
  case round =>
    obtain ⟨k, m, j, gw, cW, go, cO, hg, hj, hj1, HJ, HM, hm, hm1, rfl, rfl, rfl, HRW, HRO, HKW, HG⟩ := hrel
    have Hg := Lib.hid hg
    clear hg
    by_cases hlt : j < ws.length
    · have hli : (j : Int) < (ws.length : Int) := by omega
      obtain ⟨p, q, hp, hq, hlp, hlq, hst, hsum⟩ := K.hrun_step ws HW.out k (by have := HJ.out; omega)
      have HST := Lib.hid hst
      have hlW : (K.hrun ws k).1.length = m := by rw [HM.out]; exact K.hrun_len ws k
      have hlO : (K.hrun ws k).2.length = m := by rw [HM.out]; exact K.hrun_over ws k
      rw [← HM.out] at hp hq hlp hlq
      have L1 := least_any (some ⟨gw, 0, none⟩) (some ⟨go, 0, none⟩) cW cO (K.hrun ws k).1 (K.hrun ws k).2 wr (by rw [hlW]; exact HRW.out.seeA) (by rw [hlW]; exact HRO.out.seeA) (by omega) (by omega)
      rw [hlW, hlp] at L1
      have HLQ := Lib.hid hlq
      have HLW := Lib.hid hlW
      have HLO := Lib.hid hlO
      have HSUM := Lib.hid hsum
      obtain ⟨z, hz⟩ : ∃ z, (K.hrun ws k).2[p]? = some z := ⟨_, List.getElem?_eq_getElem (by omega)⟩
      have HC0 := Lib.hid (HRO.out.cellAt (natVals_get hz))
      clear hlp hlq hst hlW hlO hsum hz
      go_wp2_with fail
      refine L1.mono ?_
      clear L1
      rintro e w6 ⟨rfl, hk6⟩
      unfold leastV
      have HK6 := Lib.hid hk6
      have hpi : (p : Int) < (m : Int) := by omega
      have hqi : (q : Int) < (m : Int) := by omega
      have c0 := hk6.cellOf HC0.out (by simp)
      have f0 : w6.frozen? ⟨go, p, none⟩ = false := (HRO.out.kept hk6 (by simp)).free p
      clear hk6
      have hro7 : Row (w6.setCell ⟨go, p, none⟩ (.int .i64 (m : Int))) 3 (.slice (some ⟨go, 0, none⟩) m cO) (natVals ((K.hrun ws k).2.set p m)) := by
        have := (HRO.out.kept HK6.out (by simp)).put p (.int .i64 (m : Int))
        rwa [← natVals_set] at this
      have hrw7 : Row (w6.setCell ⟨go, p, none⟩ (.int .i64 (m : Int))) 3 (.slice (some ⟨gw, 0, none⟩) m cW) (natVals (K.hrun ws k).1) :=
        (HRW.out.kept HK6.out (by simp)).setCell (by simp [foot, Value.ownBlock]; exact fun h => HG.out.1 h.symm) _
      have L2 := least_any (some ⟨gw, 0, none⟩) (some ⟨go, 0, none⟩) cW cO (K.hrun ws k).1 ((K.hrun ws k).2.set p m) (w6.setCell ⟨go, p, none⟩ (.int .i64 (m : Int))) (by rw [HLW.out]; exact hrw7.seeA) (by rw [HLW.out]; exact hro7.seeA) (by rw [List.length_set, HLW.out, HLO.out]) (by rw [HLW.out]; omega)
      rw [HLW.out, HLQ.out] at L2
      have HRO7 := Lib.hid hro7
      have HRW7 := Lib.hid hrw7
      have HK7 := Lib.hid ((HKW.out.trans HK6.out (by simp)).setCell (p := ⟨go, p, none⟩) (.inr HG.out.2.2) (.int .i64 (m : Int)))
      clear hro7 hrw7
      go_wp2_with fail
      refine L2.mono ?_
      clear L2
      rintro e w8 ⟨rfl, hk8⟩
      unfold leastV
      have HRO8 := Lib.hid (HRO7.out.kept hk8 (by simp))
      have HRW8 := Lib.hid (HRW7.out.kept hk8 (by simp))
      have HK8 := Lib.hid (HK7.out.trans hk8 (by simp))
      clear hk8 c0 f0
      obtain ⟨z2, hz2⟩ : ∃ z, ((K.hrun ws k).2.set p m)[q]? = some z := ⟨_, List.getElem?_eq_getElem (by rw [List.length_set]; have := HLO.out; omega)⟩
      have c1 := HRO8.out.cellAt (natVals_get hz2)
      clear hz2
      have f1 : w8.frozen? ⟨go, q, none⟩ = false := HRO8.out.free q
      obtain ⟨x, hx⟩ : ∃ x, (K.hrun ws k).1[p]? = some x := ⟨_, List.getElem?_eq_getElem (by have := HLW.out; omega)⟩
      obtain ⟨y, hy⟩ : ∃ y, (K.hrun ws k).1[q]? = some y := ⟨_, List.getElem?_eq_getElem (by have := HLW.out; omega)⟩
      have dx : (w8.setCell ⟨go, q, none⟩ (.int .i64 (m : Int))).cell? ⟨gw, p, none⟩ = some (.int .i64 (x : Int)) := (HRW8.out.setCell (by simp [foot, Value.ownBlock]; exact fun h => HG.out.1 h.symm) _).cellAt (natVals_get hx)
      have dy : (w8.setCell ⟨go, q, none⟩ (.int .i64 (m : Int))).cell? ⟨gw, q, none⟩ = some (.int .i64 (y : Int)) := (HRW8.out.setCell (by simp [foot, Value.ownBlock]; exact fun h => HG.out.1 h.symm) _).cellAt (natVals_get hy)
      have hxy : x + y ≤ 1000000000000 := by
        have h1 := HSUM.out
        rw [List.getD_eq_getElem?_getD, List.getD_eq_getElem?_getD, hx, hy] at h1
        simp only [Option.getD_some] at h1
        omega
      have HX := Lib.hid hx
      have HY := Lib.hid hy
      clear hx hy
      have HRO9 := Lib.hid (HRO8.out.put q (.int .i64 (m : Int)))
      have HRW9 := Lib.hid (HRW8.out.setCell (p := ⟨go, q, none⟩) (by simp [foot, Value.ownBlock]; exact fun h => HG.out.1 h.symm) (.int .i64 (m : Int)))
      have HK9 := Lib.hid (HK8.out.setCell (p := ⟨go, q, none⟩) (.inr HG.out.2.2) (.int .i64 (m : Int)))
      rw [← natVals_set] at HRO9
      have hlW : (natVals (K.hrun ws k).1).length = m := by rw [natVals_length]; exact HLW.out
      go_upto_region 11 with (fail)
      obtain ⟨W, hW⟩ : ∃ W, w8.setCell ⟨go, q, none⟩ (.int .i64 (m : Int)) = W := ⟨_, rfl⟩
      rw [hW] at dx dy HRO9 HRW9 HK9 ⊢
      clear c1 f1 HRO8 HRW8 HK8 hW
      have hw1 : IntKind.i64.wrap ((x : Int) + (y : Int)) = (x : Int) + (y : Int) := IntWalk.i64_in _ (by omega)
      have HROWN := Lib.hid (show RowN W 3 1 (.slice (some ⟨gw, 0, none⟩) m cW) m (natVals (K.hrun ws k).1) from (Row.toN HRW9.out))
      clear hlW
      have hbw : gw < W.heap.size := HRW9.out.lt _ (by simp [foot, Value.ownBlock])
      go_region_held3 (fun w' => w'.cell? ⟨gw, p, none⟩ = some (.int .i64 (x : Int)) ∧ w'.cell? ⟨gw, q, none⟩ = some (.int .i64 (y : Int)))
        (first | exact ⟨dx, dy⟩ | exact ⟨((Kept.refl [] W).drew.alloc _).cellOf dx (by simp), ((Kept.refl [] W).drew.alloc _).cellOf dy (by simp)⟩ | exact ⟨hold4 _ _ (natVals_get HX.out), hold4 _ _ (natVals_get HY.out)⟩)
        (first
          | (refine step_appW rfl _ _ 22 rfl 3 (.int .i64 0) 1 8 Try.underlying22 Try.infoInt rfl (by decide) gw m cW (natVals (K.hrun ws k).1) [.int .i64 ((x : Int) + (y : Int))] ⟨W.heap.size, 0, none⟩ 1 1 rfl rfl (by simp [Value.oneCell']) (World.ownsRow.alloc HROWN.out _) rfl (news_one _ _ _) (by simp only [maxLen]; omega) (by omega) ?_; intro g4 cap4 w4 hrow4 hk4 hg4 hold4))
      rename_i hS
      clear hS hold4 dx dy
      have hro10 : RowN w4 3 1 (.slice (some ⟨go, 0, none⟩) m cO) m (natVals (((K.hrun ws k).2.set p m).set q m)) := (HRO9.out.kept (((Kept.refl [gw] W).alloc _).drew.trans hk4 (by intro x hx; exact .inl hx)) (by simp [foot, Value.ownBlock]; exact fun h => HG.out.1 h.symm)).toN
      have HK10 := Lib.hid (HK9.out.trans (((Kept.refl [gw] W).alloc _).drew.trans hk4 (by intro x hx; exact .inl hx)) (by intro x hx; simp at hx; subst hx; exact .inr HG.out.2.1))
      have hg4' : w.heap.size ≤ g4 := by
        rcases hg4 with h | h
        · subst h; exact HG.out.2.1
        · simp at h; have := HK9.out.size; omega
      have hgo4 : g4 ≠ go := by
        rcases hg4 with h | h
        · subst h; exact HG.out.1
        · simp at h; have := HRO9.out.lt go (by simp [foot, Value.ownBlock]); omega
      have HG4 := Lib.hid (And.intro hgo4 hg4')
      have HROW4 := Lib.hid hrow4
      have h4lt : g4 < w4.heap.size := (World.ownsRow.lt hrow4 g4 (by simp [Value.ownBlock])).2
      clear hrow4 hk4 hg4 hgo4 hg4' HRO9 HRW9 HK9 HROWN
      go_wp2_with ((at_builtin; refine wp_appK w4 rfl _ _ 22 rfl 3 (.int .i64 0) 1 8 Try.underlying22 Try.infoInt rfl (by decide) (.slice (some ⟨go, 0, none⟩) m cO) m (natVals (((K.hrun ws k).2.set p m).set q m)) [.int .i64 0] rfl rfl rfl rfl (by simp [Value.oneCell']) hro10 (by simp only [maxLen]; omega) (by omega) ?_; intro g5 cap5 w5 hrow5 hk5 hg5))
      go_roundg (ws.length - (j + 1))
      case measure => have := Hg.out; omega
      case rel =>
        have hst := HST.out
        rw [← HM.out] at hst
        have e1 : (K.hrun ws (k + 1)).1 = (K.hrun ws k).1 ++ [x + y] := by
          rw [hst]
          simp only [List.getD_eq_getElem?_getD, HX.out, HY.out, Option.getD_some]
        have e2 : (K.hrun ws (k + 1)).2 = ((K.hrun ws k).2.set p m).set q m ++ [0] := by rw [hst]
        have hr5 : RowN w5 3 1 (.slice (some ⟨g4, 0, none⟩) (m + 1) cap4) (m + 1) (natVals (K.hrun ws (k + 1)).1) := by
          rw [e1, natVals_append]
          exact RowN.kept HROW4.out hk5 (by
            intro z hz hm'
            simp [foot, Value.ownBlock] at hz hm'
            subst hz; exact HG4.out.1 hm')
        have hr6 : RowN w5 3 1 (.slice (some ⟨g5, 0, none⟩) (m + 1) cap5) (m + 1) (natVals (K.hrun ws (k + 1)).2) := by
          rw [e2, natVals_append]
          exact hrow5
        have hne5 : g4 ≠ g5 := by
          rcases hg5 with h | h
          · simp [foot, Value.ownBlock] at h; subst h; exact HG4.out.1
          · omega
        have hw5 : w.heap.size ≤ g5 := by
          rcases hg5 with h | h
          · simp [foot, Value.ownBlock] at h; subst h; exact HG.out.2.2
          · have := HK10.out.size; omega
        exact ⟨k + 1, m + 1, j + 1, g4, cap4, g5, cap5, by omega, by omega, by omega, Lib.hid (by rw [HJ.out]), Lib.hid (by rw [HM.out]; omega), by have := HM.out; have := HJ.out; omega, by omega, by simp, by simp, by simp, Lib.hid (Row.ofN hr5), Lib.hid (Row.ofN hr6),
          Lib.hid (HK10.out.trans hk5 (by intro x hx; simp [foot, Value.ownBlock] at hx; subst hx; exact .inr HG.out.2.2)), Lib.hid ⟨hne5, HG4.out.2, hw5⟩⟩
    · obtain rfl : j = ws.length := by omega
      have hll : ¬ (ws.length : Int) < (ws.length : Int) := by omega
      have HMAX := Lib.hid (K.short_of HLS.out hs)
      obtain ⟨hlsl, hup, -, -, -⟩ := HLS.out
      have hk1 : ws.length - 1 = k := by have := HJ.out; omega
      rw [hk1] at hup
      have hlO : (K.hrun ws k).2.length = m := by rw [HM.out]; exact K.hrun_over ws k
      have htop : ∀ i, (K.hrun ws k).2.getD i 0 < m := fun i => K.getD_lt_of (fun x hx => by have := K.hrun_tops ws h0 k x hx; rw [HM.out]; exact this) (by omega) i
      have hnm : ws.length ≤ m := by rw [HM.out]; omega
      generalize (K.hrun ws k).2 = over at *
      have HUP := Lib.hid hup
      have HLL := Lib.hid hlsl
      have HTOP := Lib.hid htop
      have HLO := Lib.hid hlO
      clear hup hlsl hlO htop hk1 HRW
      go_wp2_with ((at_make; refine wp_make1 rfl _ _ 22 rfl 3 (.int .i64 0) 8 Try.underlying22 Try.infoInt rfl .i64 .i64 _ _ ws.length ws.length rfl rfl rfl rfl (Nat.le_refl _) (by omega) (by simp only [maxLen]; omega) ?_; intro w7 hrow7 hk7))
      rw [show List.replicate ws.length (Value.int .i64 0) = natVals (List.replicate ws.length 0) by simp [natVals]] at hrow7
      have hgr : wr.heap.size = wr.heap.size := rfl
      obtain ⟨gr, hgr⟩ : ∃ gr, wr.heap.size = gr := ⟨_, rfl⟩
      have HGR := Lib.hid (show go ≠ gr ∧ w.heap.size ≤ gr from ⟨by have := HRO.out.lt go (by simp [foot, Value.ownBlock]); omega, by have := HKW.out.size; omega⟩)
      rw [hgr] at hrow7 ⊢
      have HRO7 := Lib.hid (HRO.out.kept hk7 (by simp))
      have HK7 := Lib.hid (HKW.out.trans hk7 (by simp))
      have HRR7 := Lib.hid hrow7
      clear hrow7 hk7 HRO HKW hgr
      go_loopg [10] ws.length (fun g v10 wr => ∃ i : Nat, g = ws.length - i ∧ i ≤ ws.length ∧ v10 = .int .i64 (i : Nat) ∧ Hid (Row wr 3 (.slice (some ⟨gr, 0, none⟩) ws.length ws.length) (natVals (ls.take i ++ List.replicate (ws.length - i) 0))) ∧
        Hid (Row wr 3 (.slice (some ⟨go, 0, none⟩) m cO) (natVals over)) ∧ Hid (Kept [] w wr))
      case atStart => exact ⟨0, by omega, by omega, rfl, HRR7, HRO7, HK7⟩
      case round =>
        obtain ⟨i, hgi, hi, rfl, HRR, HRO, HKW⟩ := hrel
        have Hgi := Lib.hid hgi
        clear hgi
        by_cases hlt : i < ws.length
        · have hli : (i : Int) < (ws.length : Int) := by omega
          have him : (i : Int) < (m : Int) := by omega
          obtain ⟨r, hu, hr0⟩ := HUP.out i hlt
          have HR0 := Lib.hid hr0
          have HU := Lib.hid hu
          clear hu hr0
          obtain ⟨wq, rfl⟩ : ∃ wo : World, wo = wr := ⟨_, rfl⟩
          have c0 := HRO.out.cellAt (j := i) (natVals_get (l := over) (x := over.getD i 0) (by rw [List.getD_eq_getElem?_getD, List.getElem?_eq_getElem (by have := HLO.out; omega)]; rfl))
          rw [K.outS_start ls ws.length i hlt] at HRR
          go_wp2_with fail
          go_loopg [11] (ls.getD i 0) (fun d v11 wr => DepI w over ls ws.length m i gr go cO r d v11 wr)
          case atStart => exact ⟨i, _, HU, Lib.hid (Nat.le_refl _), rfl, Lib.hid rfl, by rw [Nat.sub_self]; exact HRR, HRO, HKW⟩
          case round =>
            obtain ⟨cur, t, HUC, HD, rfl, HT, HRC, HOC, HKC⟩ := hrel
            clear c0
            by_cases ht0 : t = 0
            · have e0 := HUC.out.root HR0.out (by rw [← HT.out]; exact ht0)
              subst ht0
              go_wp2_with fail
              go_roundg (ws.length - (i + 1))
              case measure => have := Hgi.out; omega
              case rel =>
                have h := HRC.out
                rw [e0, Nat.sub_zero, K.outS_end ls _ i hlt HLL.out] at h
                exact ⟨i + 1, by omega, by omega, by simp, Lib.hid h, HOC, HKC⟩
            · obtain ⟨e, he, hue⟩ := HUC.out.next HR0.out (by rw [← HT.out]; exact ht0)
              subst he
              have HUE := Lib.hid hue
              have htm : t < m := by rw [HT.out]; exact HTOP.out _
              have htm' : (t : Int) < (m : Int) := by omega
              have g0 : ((t : Int) == 0) = false := by simp; omega
              have g1 : ((t : Int) != 0) = true := by simp; omega
              obtain ⟨y, hy⟩ : ∃ y, ls.getD i 0 - (e + 1) = y := ⟨_, rfl⟩
              have hxl : y ≤ 1000 := by have := HMAX.out i; omega
              have HY := Lib.hid (show ls.getD i 0 - e = y + 1 by have := HD.out; omega)
              have c1 := HRC.out.cellAt (natVals_get (K.outS_get ls ws.length i _ hlt HLL.out))
              rw [hy] at c1 HRC
              have f1 := HRC.out.free i
              have c2 := HOC.out.cellAt (j := t) (natVals_get (l := over) (x := over.getD t 0) (by rw [List.getD_eq_getElem?_getD, List.getElem?_eq_getElem (by have := HLO.out; omega)]; rfl))
              have HGN := Lib.hid HGR.out.1
              have c3 : (wr.setCell ⟨gr, i, none⟩ (.int .i64 ((y : Int) + 1))).cell? ⟨go, t, none⟩ = _ := (HOC.out.setCell (p := ⟨gr, i, none⟩) (by simp [foot, Value.ownBlock]; exact fun h => HGN.out h.symm) (.int .i64 ((y : Int) + 1))).cellAt (j := t) (natVals_get (l := over) (x := over.getD t 0) (by rw [List.getD_eq_getElem?_getD, List.getElem?_eq_getElem (by have := HLO.out; omega)]; rfl))
              clear hue hy htm
              go_wp2_with fail
              go_roundg e
              case measure => omega
              case rel =>
                have h1 := HRC.out.put i (.int .i64 ((y + 1 : Nat) : Int))
                rw [← natVals_set, K.outS_set ls _ i _ _ hlt HLL.out, ← HY.out] at h1
                have h2 := HOC.out.setCell (p := ⟨gr, i, none⟩) (by simp [foot, Value.ownBlock]; exact fun h => HGN.out h.symm) (.int .i64 ((y + 1 : Nat) : Int))
                have h3 := HKC.out.setCell (p := ⟨gr, i, none⟩) (.inr HGR.out.2) (.int .i64 ((y + 1 : Nat) : Int))
                rw [HY.out] at h1
                have h4 : Hid (Row (wr.setCell ⟨gr, i, none⟩ (.int .i64 ((y : Int) + 1))) 3 (.slice (some ⟨gr, 0, none⟩) ws.length ws.length) (natVals (K.outS ls ws.length i (ls.getD i 0 - e)))) := Lib.hid (by rw [HY.out]; exact h1)
                exact ⟨t, over.getD t 0, by rw [HT.out]; exact HUE, Lib.hid (by have := HD.out; omega), by first | rfl | simp, Lib.hid rfl, h4, Lib.hid h2, Lib.hid h3⟩
        · obtain rfl : i = ws.length := by omega
          have hll : ¬ (ws.length : Int) < (ws.length : Int) := by omega
          go_wp2_with fail
          go_ret
          have h := HRR.out
          rw [Nat.sub_self, List.replicate_zero, List.append_nil, List.take_of_length_le (by rw [HLL.out]; exact Nat.le_refl _), ← HLL.out] at h
          exact ⟨some ⟨gr, 0, none⟩, ls.length, by rw [HLL.out]; rfl, h, HKW.out, by intro x hx; simp [footA] at hx; subst hx; exact HGR.out.2⟩
end Go.Proofs.Ytcjkjknahalpnaa
