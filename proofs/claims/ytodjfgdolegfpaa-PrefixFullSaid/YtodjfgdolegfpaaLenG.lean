/-
  The walk of lengths.grown.
-/
import Derived.Test.YtodjfgdolegfpaaLenF
import Derived.Test.YtodjfgdolegfpaaRefN
namespace Go.Proofs.Ytodjfgdolegfpaa
open Go.RowKit
set_option linter.unusedVariables false
set_option linter.unusedSimpArgs false

theorem sc_size (w : World) (p : Addr) (u : Value) : (w.setCell p u).heap.size = w.heap.size := by simp [World.setCell]
theorem al_size (w : World) (o : Obj) : (w.alloc o).heap.size = w.heap.size + 1 := by simp
theorem Try.infoTree : (Try.prog.info? 95).map (fun i => (i.zero, i.size, i.bytes)) = some (some (.agg #[.int .i64 0, .int .i64 0]), 2, 16) := by kernel_rfl
/-- The first trees, of one symbol each. -/
def pairsN (ws : List Nat) (i : Nat) : List (Nat × Nat) := (List.range i).map fun j => (ws.getD j 0, j)
theorem pairsN_succ (ws : List Nat) (i x : Nat) (h : ws[i]? = some x) : treesC ((pairsN ws (i + 1)).map toT) = treesC ((pairsN ws i).map toT) ++ [.int .i64 (x : Int), .int .i64 (i : Int)] := by
  have hx : ws.getD i 0 = x := by rw [List.getD, h]; rfl
  unfold pairsN
  rw [List.range_succ, List.map_append, List.map_append, treesC_append]
  congr 1
  simp only [List.map_cons, List.map_nil, hx]
  rfl
theorem pairsN_len (ws : List Nat) (i : Nat) : (pairsN ws i).length = i := by simp [pairsN]
def Tr1I (w0 : World) (ws : List Nat) (tb : Nat) (g : Nat) (v16 : Value) (wr : World) : Prop :=
  ∃ (i : Nat) (a : Option Addr) (cT : Nat), g = ws.length - i ∧ i ≤ ws.length ∧ v16 = .int .i64 (i : Nat) ∧ Hid (Arr wr tb 93 [.slice a i cT]) ∧ Hid (RowN wr 95 2 (.slice a i cT) i (treesC ((pairsN ws i).map toT))) ∧
    Hid (Kept [] w0 wr) ∧ Hid (Fresh w0.heap.size (footA a)) ∧ Hid (tb ∉ footA a)
def Gr2I (w0 : World) (ws : List Nat) (tb go N2 : Nat) (g : Nat) (v7 : Value) (wr : World) : Prop :=
  ∃ (r k m gt cT : Nat) (tn : List (Nat × Nat)) (O : List Nat), r = g ∧ k + r + 1 = ws.length ∧ m = ws.length + k ∧ v7 = .int .i64 (m : Nat) ∧ Hid (Arr wr tb 93 [.slice (some ⟨gt, 0, none⟩) (r + 1) cT]) ∧
    Hid (RowN wr 95 2 (.slice (some ⟨gt, 0, none⟩) (r + 1) cT) (r + 1) (treesC (tn.map toT))) ∧ Hid (tn.Perm (K.roots (K.hrun ws k).1 (K.hrun ws k).2 m) ∧ tn.length = r + 1) ∧
    Hid (Row wr 3 (.slice (some ⟨go, 0, none⟩) N2 N2) (natVals O)) ∧ Hid (O.length = N2 ∧ ∀ j, O.getD j 0 = (K.hrun ws k).2.getD j 0) ∧ Hid (Kept [] w0 wr) ∧ Hid (gt ≠ tb ∧ gt ≠ go ∧ w0.heap.size ≤ gt)

def DepJ (w0 : World) (O ls : List Nat) (n N2 m i gr go r : Nat) (d : Nat) (v13 : Value) (wr : World) : Prop :=
  ∃ cur, cur < m ∧ Hid (K.Up O cur d r) ∧ Hid (d ≤ ls.getD i 0) ∧ v13 = .int .i64 (cur : Nat) ∧ Hid (Row wr 3 (.slice (some ⟨gr, 0, none⟩) n n) (natVals (K.outS ls n i (ls.getD i 0 - d)))) ∧
    Hid (Row wr 3 (.slice (some ⟨go, 0, none⟩) N2 N2) (natVals O)) ∧ Hid (Kept [] w0 wr)
set_option maxHeartbeats 2000000 in
theorem grown_any (a : Option Addr) (c : Nat) (ws ls : List Nat) (w : World) (h : Sees w 1 a ws.length (natVals ws)) (h0 : 1 ≤ ws.length) (hl : ws.length ≤ 258) (hw : ∀ x ∈ ws, 1 ≤ x) (hs : ws.sum ≤ 1000000000000)
    (hls : K.Told ws ls) :
    Calls Try.prog 41 #[.slice a ws.length c] w (LensPost ls w) := by
  have HS := Lib.hid h
  have HW := Lib.hid hw
  have HLS := Lib.hid hls
  obtain ⟨b, off, rfl, -⟩ := h.at (by rw [natVals_length]; omega)
  have hbw : b < w.heap.size := h.lt (by rw [natVals_length]; omega) b (by simp [footA])
  clear h hw hls
  go_enter Try.func41, Try.ntmps41
  go_wp2_with fail
  have HA := Lib.hid (Arr.new w [.slice none 0 0] 93)
  have HK := Lib.hid ((Kept.refl [] w).alloc (.cells #[.slice none 0 0] 93))
  go_loopg [16] ws.length (fun g v wr => Tr1I w ws w.heap.size g v wr)
  case atStart => exact ⟨0, none, 0, by omega, by omega, rfl, HA, Lib.hid (RowN.nil _ _ _), HK, Lib.hid (by simp [Fresh, footA]), Lib.hid (by simp [footA])⟩
  case round =>
    clear HA HK
    obtain ⟨i, at_, cT, hg, hi, rfl, HT, HR, HK, HF, HN⟩ := hrel
    have Hg := Lib.hid hg
    clear hg
    by_cases hlt : i < ws.length
    · have hli : (i : Int) < (ws.length : Int) := by omega
      obtain ⟨x, hx⟩ : ∃ x, ws[i]? = some x := ⟨_, List.getElem?_eq_getElem hlt⟩
      have c0 := (HS.out.kept0 HK.out).natD hx
      have c1 : wr.cell? ⟨w.heap.size, 0, none⟩ = some (.slice at_ i cT) := HT.out.cell (i := 0) rfl
      have hwl : w.heap.size < wr.heap.size := HT.out.lt
      have HX := Lib.hid hx
      clear hx
      go_wp2_with ((at_builtin; refine wp_appK wr rfl _ _ 93 rfl 95 (.agg #[.int .i64 0, .int .i64 0]) 2 16 Try.underlying93 Try.infoTree rfl (by decide) (.slice at_ i cT) i _ [.int .i64 (x : Int), .int .i64 (i : Int)] rfl rfl rfl rfl (by simp [Value.oneCell']) HR.out (by simp only [maxLen]; omega) (by omega) ?_; intro g5 cap5 w5 hrow5 hk5 hg5; have hT5 := HT.out.kept hk5 (by rw [foot_slice]; exact HN.out); have c5 : w5.cell? ⟨w.heap.size, 0, none⟩ = some (.slice at_ i cT) := hT5.cell (i := 0) rfl; have f5 := hT5.free 0))
      go_roundg (ws.length - (i + 1))
      case measure => have := Hg.out; omega
      case rel =>
        have hgn : g5 ≠ w.heap.size := by
          rcases hg5 with h | h
          · rw [foot_slice] at h
            intro he
            rw [he] at h
            exact HN.out h
          · omega
        have hwg : w.heap.size ≤ g5 := by
          rcases hg5 with h | h
          · rw [foot_slice] at h
            exact HF.out g5 h
          · omega
        refine ⟨i + 1, some ⟨g5, 0, none⟩, cap5, by omega, by omega, by simp, Lib.hid (hT5.set 0 _), Lib.hid ?_, Lib.hid ((HK.out.trans hk5 (fun x hx => .inr (HF.out x (by rw [foot_slice] at hx; exact hx)))).setCell (p := ⟨w.heap.size, 0, none⟩) (.inr (Nat.le_refl _)) _), Lib.hid (by simp [Fresh, footA]; exact hwg), Lib.hid (by simp [footA]; exact fun h => hgn h.symm)⟩
        rw [pairsN_succ ws i x HX.out]
        exact RowN.kept hrow5 ((Kept.refl [w.heap.size] w5).setCell (p := ⟨w.heap.size, 0, none⟩) (by simp) _) (by intro y hy hm; simp [foot, Value.ownBlock] at hy hm; subst hy; exact hgn hm)
    · obtain rfl : i = ws.length := by omega
      have hll : ¬ (ws.length : Int) < (ws.length : Int) := by omega
      obtain ⟨N2, hN2⟩ : ∃ N2, 2 * ws.length = N2 := ⟨_, rfl⟩
      obtain ⟨gt, rfl, hgt⟩ : ∃ gt, at_ = some ⟨gt, 0, none⟩ ∧ gt < wr.heap.size := by
        obtain ⟨a', c', hv, -, -, hsee, hf⟩ := RowN.sees HR.out
        cases hv
        obtain ⟨g', o', e', -⟩ := hsee.at (by rw [treesC_length, List.length_map, pairsN_len]; omega)
        rcases HR.out.2 with ⟨h1, h2⟩ | ⟨g, cap, cur, hv, hb, hg, r⟩
        · omega
        · cases hv
          exact ⟨g, rfl, lt_of_block hg⟩
      have HN2 := Lib.hid hN2
      have e2 : (2 : Int) * (ws.length : Int) = (N2 : Int) := by omega
      have hn2 : N2 ≤ 1000 := by omega
      clear hN2
      go_wp2_with ((at_make; refine wp_make1 rfl _ _ 22 rfl 3 (.int .i64 0) 8 Try.underlying22 Try.infoInt rfl .i64 .i64 _ _ N2 N2 rfl rfl rfl rfl (Nat.le_refl _) (by omega) (by simp only [maxLen]; omega) ?_; intro w2 hrow2 hk2))
      obtain ⟨go, hgoe⟩ : ∃ go, wr.heap.size = go := ⟨_, rfl⟩
      have HGO := Lib.hid (show w.heap.size ≤ go ∧ gt ≠ go ∧ w.heap.size ≠ go from ⟨by have := HK.out.size; omega, by omega, by have := HT.out.lt; omega⟩)
      rw [hgoe] at hrow2 ⊢
      rw [show List.replicate N2 (Value.int .i64 0) = natVals (List.replicate N2 0) by simp [natVals]] at hrow2
      obtain ⟨r0, hr0⟩ : ∃ r0, ws.length = r0 + 1 := ⟨ws.length - 1, by omega⟩
      have hT2 := HT.out.kept hk2 (by simp)
      have hR2 := RowN.kept HR.out hk2 (by simp [Apart])
      have HK2 := Lib.hid (HK.out.trans hk2 (by simp))
      have HO2 := Lib.hid hrow2
      have hgtw : w.heap.size ≤ gt := HF.out gt (by simp [footA])
      have hgtb : gt ≠ w.heap.size := fun h => HN.out (by simp [footA, h])
      have HG2 := Lib.hid (show gt ≠ w.heap.size ∧ gt ≠ go ∧ w.heap.size ≤ gt from ⟨hgtb, HGO.out.2.1, hgtw⟩)
      have HPERM := Lib.hid (show (pairsN ws ws.length).Perm (K.roots (K.hrun ws 0).1 (K.hrun ws 0).2 ws.length) ∧ (pairsN ws ws.length).length = r0 + 1 from ⟨by
        show (pairsN ws ws.length).Perm (K.roots ws (List.replicate ws.length 0) ws.length)
        rw [K.roots_start]
        exact List.Perm.refl _, by rw [pairsN_len, hr0]⟩)
      have HOO := Lib.hid (show (List.replicate N2 0).length = N2 ∧ ∀ j, (List.replicate N2 0).getD j 0 = (K.hrun ws 0).2.getD j 0 from ⟨by simp, fun j => by rw [K.rep_zero]; exact (K.rep_zero ws.length j).symm⟩)
      have HT2 := Lib.hid (show Arr w2 w.heap.size 93 [.slice (some ⟨gt, 0, none⟩) (r0 + 1) cT] from by rw [← hr0]; exact hT2)
      have HR2 := Lib.hid (show RowN w2 95 2 (.slice (some ⟨gt, 0, none⟩) (r0 + 1) cT) (r0 + 1) (treesC ((pairsN ws ws.length).map toT)) from by rw [← hr0]; exact hR2)
      have HR0 := Lib.hid hr0
      clear hT2 hR2 hrow2 hk2 hgtw hgtb hr0 HT HR HK HF HN hgt Hg hgoe e2
      go_loopg [7] r0 (fun g v wr => Gr2I w ws w.heap.size go N2 g v wr)
      case atStart => exact ⟨r0, 0, ws.length, gt, cT, _, _, rfl, by have := HR0.out; omega, by omega, rfl, HT2, HR2, HPERM, HO2, HOO, HK2, HG2⟩
      case round =>
        clear HT2 HR2 HPERM HO2 HOO HK2 HG2
        obtain ⟨r, k, m, gt, cT, tn, O, rfl, hkr, hm, rfl, HT, HR, HP, HO, HOO, HK, HG⟩ := hrel
        have HM := Lib.hid hm
        have hm1 : m ≤ 1000 := by omega
        have hmn : m < N2 := by have := HN2.out; omega
        clear hm
        have c0 : wr.cell? ⟨w.heap.size, 0, none⟩ = some (.slice (some ⟨gt, 0, none⟩) (r + 1) cT) := HT.out.cell (i := 0) rfl
        have HKR := Lib.hid hkr
        clear hkr
        rcases Nat.eq_zero_or_pos r with hr | hr
        · subst hr
          obtain ⟨hlsl, hup, -, -, -⟩ := HLS.out
          have HMAX := Lib.hid (K.short_of HLS.out hs)
          have hk1 : ws.length - 1 = k := by have := HKR.out; omega
          rw [hk1] at hup
          have hup2 : ∀ i, i < ws.length → ∃ r, K.Up O i (ls.getD i 0) r ∧ O.getD r 0 = 0 := fun i hi => by
            obtain ⟨r, u, hr⟩ := hup i hi
            exact ⟨r, u.congr fun j _ => HOO.out.2 j, by rw [HOO.out.2]; exact hr⟩
          have htop : ∀ i, O.getD i 0 < m := fun i => by
            rw [HOO.out.2]
            exact K.getD_lt_of (fun x hx => by have := K.hrun_tops ws h0 k x hx; rw [HM.out]; exact this) (by have := HM.out; omega) i
          have HUP := Lib.hid hup2
          have HLL := Lib.hid hlsl
          have HTOP := Lib.hid htop
          have HLO := Lib.hid HOO.out.1
          have hnm : ws.length ≤ m := by have := HM.out; omega
          clear hup hup2 hlsl htop hk1 HT HR HP HOO
          go_wp2_with ((at_make; refine wp_make1 rfl _ _ 22 rfl 3 (.int .i64 0) 8 Try.underlying22 Try.infoInt rfl .i64 .i64 _ _ ws.length ws.length rfl rfl rfl rfl (Nat.le_refl _) (by omega) (by simp only [maxLen]; omega) ?_; intro w7 hrow7 hk7))
          rw [show List.replicate ws.length (Value.int .i64 0) = natVals (List.replicate ws.length 0) by simp [natVals]] at hrow7
          obtain ⟨gr, hgr⟩ : ∃ gr, wr.heap.size = gr := ⟨_, rfl⟩
          have HGR := Lib.hid (show go ≠ gr ∧ w.heap.size ≤ gr from ⟨by have := HO.out.lt go (by simp [foot, Value.ownBlock]); omega, by have := HK.out.size; omega⟩)
          rw [hgr] at hrow7 ⊢
          have HRO7 := Lib.hid (HO.out.kept hk7 (by simp))
          have HK7 := Lib.hid (HK.out.trans hk7 (by simp))
          have HRR7 := Lib.hid hrow7
          clear hrow7 hk7 HO HK hgr c0
          go_loopg [69] ws.length (fun g v10 wr => ∃ i : Nat, g = ws.length - i ∧ i ≤ ws.length ∧ v10 = .int .i64 (i : Nat) ∧ Hid (Row wr 3 (.slice (some ⟨gr, 0, none⟩) ws.length ws.length) (natVals (ls.take i ++ List.replicate (ws.length - i) 0))) ∧
            Hid (Row wr 3 (.slice (some ⟨go, 0, none⟩) N2 N2) (natVals O)) ∧ Hid (Kept [] w wr))
          case atStart => exact ⟨0, by omega, by omega, rfl, HRR7, HRO7, HK7⟩
          case round =>
            obtain ⟨i, hgi, hi, rfl, HRR, HRO, HKW⟩ := hrel
            have Hgi := Lib.hid hgi
            clear hgi
            by_cases hlt : i < ws.length
            · have hli : (i : Int) < (ws.length : Int) := by omega
              obtain ⟨rt, hu, hr0⟩ := HUP.out i hlt
              have HR0' := Lib.hid hr0
              have HU := Lib.hid hu
              clear hu hr0
              obtain ⟨wq, rfl⟩ : ∃ wo : World, wo = wr := ⟨_, rfl⟩
              rw [K.outS_start ls ws.length i hlt] at HRR
              go_wp2_with fail
              go_loopg [13] (ls.getD i 0) (fun d v13 wr => DepJ w O ls ws.length N2 m i gr go rt d v13 wr)
              case atStart => exact ⟨i, by omega, HU, Lib.hid (Nat.le_refl _), rfl, by rw [Nat.sub_self]; exact HRR, HRO, HKW⟩
              case round =>
                obtain ⟨cur, hcm, HUC, HD, rfl, HRC, HOC, HKC⟩ := hrel
                obtain ⟨t, ht⟩ : ∃ t, O.getD cur 0 = t := ⟨_, rfl⟩
                have hci : (cur : Int) < (N2 : Int) := by omega
                have hOc : O[cur]? = some t := by rw [← ht, List.getD_eq_getElem?_getD, List.getElem?_eq_getElem (by have := HLO.out; omega)]; rfl
                have c2 := HOC.out.cellAt (natVals_get hOc)
                by_cases ht0 : t = 0
                · have e0 := HUC.out.root HR0'.out (by rw [ht]; exact ht0)
                  subst ht0
                  have E0 := Lib.hid e0
                  clear e0 ht hOc
                  go_wp2_with fail
                  go_roundg (ws.length - (i + 1))
                  case measure => have := Hgi.out; omega
                  case rel =>
                    have h := HRC.out
                    rw [E0.out, Nat.sub_zero, K.outS_end ls _ i hlt HLL.out] at h
                    exact ⟨i + 1, by omega, by omega, by simp, Lib.hid h, HOC, HKC⟩
                · obtain ⟨e, he, hue⟩ := HUC.out.next HR0'.out (by rw [ht]; exact ht0)
                  subst he
                  rw [ht] at hue
                  have HUE := Lib.hid hue
                  have htm : t < m := by rw [← ht]; exact HTOP.out _
                  have g0 : ((t : Int) == 0) = false := by simp; omega
                  have g1 : ((t : Int) != 0) = true := by simp; omega
                  obtain ⟨y, hy⟩ : ∃ y, ls.getD i 0 - (e + 1) = y := ⟨_, rfl⟩
                  have hxl : y ≤ 1000 := by have := HMAX.out i; omega
                  have HY := Lib.hid (show ls.getD i 0 - e = y + 1 by have := HD.out; omega)
                  have c1 := HRC.out.cellAt (natVals_get (K.outS_get ls ws.length i _ hlt HLL.out))
                  rw [hy] at c1 HRC
                  have f1 := HRC.out.free i
                  have HGN := Lib.hid HGR.out.1
                  have c3 : (wr.setCell ⟨gr, i, none⟩ (.int .i64 ((y : Int) + 1))).cell? ⟨go, cur, none⟩ = some (.int .i64 (t : Int)) := (HOC.out.setCell (p := ⟨gr, i, none⟩) (by simp [foot, Value.ownBlock]; exact fun h => HGN.out h.symm) (.int .i64 ((y : Int) + 1))).cellAt (natVals_get hOc)
                  clear hue hy ht hOc
                  go_wp2_with fail
                  go_roundg e
                  case measure => omega
                  case rel =>
                    have h1 := HRC.out.put i (.int .i64 ((y + 1 : Nat) : Int))
                    rw [← natVals_set, K.outS_set ls _ i _ _ hlt HLL.out, ← HY.out] at h1
                    have h2 := HOC.out.setCell (p := ⟨gr, i, none⟩) (by simp [foot, Value.ownBlock]; exact fun h => HGN.out h.symm) (.int .i64 ((y + 1 : Nat) : Int))
                    have h3 := HKC.out.setCell (p := ⟨gr, i, none⟩) (.inr HGR.out.2) (.int .i64 ((y + 1 : Nat) : Int))
                    rw [HY.out] at h1
                    have h4 : Hid (Row (wr.setCell ⟨gr, i, none⟩ (.int .i64 ((y : Int) + 1))) 3 (.slice (some ⟨gr, 0, none⟩) ws.length ws.length) (natVals (K.outS ls ws.length i (ls.getD i 0 - e)))) := Lib.hid (by rw [HY.out]; exact h1)
                    exact ⟨t, htm, HUE, Lib.hid (by have := HD.out; omega), by first | rfl | simp, h4, Lib.hid h2, Lib.hid h3⟩
            · obtain rfl : i = ws.length := by omega
              have hll : ¬ (ws.length : Int) < (ws.length : Int) := by omega
              go_wp2_with fail
              go_ret
              have h := HRR.out
              rw [Nat.sub_self, List.replicate_zero, List.append_nil, List.take_of_length_le (by rw [HLL.out]; exact Nat.le_refl _), ← HLL.out] at h
              exact ⟨some ⟨gr, 0, none⟩, ls.length, by rw [HLL.out]; rfl, h, HKW.out, by intro x hx; simp [footA] at hx; subst hx; exact HGR.out.2⟩
        · obtain ⟨r, rfl⟩ : ∃ q, r = q + 1 := ⟨r - 1, by omega⟩
          have hrb : r ≤ 1000 := by have := HKR.out; omega
          have hlW : (K.hrun ws k).1.length = m := by rw [HM.out]; exact K.hrun_len ws k
          have hlO : (K.hrun ws k).2.length = m := by rw [HM.out]; exact K.hrun_over ws k
          have hbd : ∀ t ∈ tn, t.1 ≤ 1000000000000 ∧ t.2 ≤ 1000000000000 := fun t ht => by
            obtain ⟨h1, h2, h3⟩ := K.roots_mem.1 (HP.out.1.mem_iff.1 ht)
            have h4 := K.hrun_bound ws HW.out k (by have := HKR.out; omega) t.1 (by
              rw [h3, List.getD, List.getElem?_eq_getElem (by omega)]
              exact List.getElem_mem _)
            omega
          have HBD := Lib.hid hbd
          have C1 := first_any w.heap.size gt cT (r + 1) tn wr HT.out HR.out HP.out.2 (by omega) hbd (fun h => HG.out.1 h.symm)
          have HC1 := Lib.hid C1
          clear C1 hlW hlO hbd
          go_wp2_with fail
          refine HC1.out.mono ?_
          rintro e w3 ⟨t1, i1, rfl, hi1, hle1, hT3, hR3, hk3⟩
          have hbd2 : ∀ t ∈ K.out1 tn i1, t.1 ≤ 1000000000000 ∧ t.2 ≤ 1000000000000 := fun t ht => HBD.out t ((K.out1_perm tn i1 t1 hi1).mem_iff.2 (List.mem_cons_of_mem _ ht))
          have hl3 : (K.out1 tn i1).length = r + 1 := by rw [K.out1_length, HP.out.2]; rfl
          have C2 := first_any w.heap.size gt cT r (K.out1 tn i1) w3 hT3 hR3 hl3 (by omega) hbd2 (fun h => HG.out.1 h.symm)
          have HC2 := Lib.hid C2
          have HI1 := Lib.hid (And.intro hi1 hle1)
          have HK3 := Lib.hid hk3
          clear C2 hbd2 hl3 hi1 hle1 hT3 hR3 hk3 HC1 c0
          go_wp2_with fail
          refine HC2.out.mono ?_
          rintro e w4 ⟨t2, i2, rfl, hi2, hle2, hT4, hR4, hk4⟩
          obtain ⟨p, q, hp, hq, hlp, hlq, hst, hsum⟩ := K.hrun_step ws HW.out k (by have := HKR.out; omega)
          rw [← HM.out] at hp hq hlp hlq hst
          obtain ⟨e1, e2, hpq, hperm⟩ := K.two_out HP.out.1 (by rw [HM.out]; exact K.hrun_over ws k) (by omega) hlp hlq HI1.out.1 HI1.out.2 hi2 hle2
          have hxy : (K.hrun ws k).1.getD p 0 + (K.hrun ws k).1.getD q 0 ≤ 1000000000000 := by omega
          obtain ⟨x, hx⟩ : ∃ x, (K.hrun ws k).1.getD p 0 = x := ⟨_, rfl⟩
          obtain ⟨y, hy⟩ : ∃ y, (K.hrun ws k).1.getD q 0 = y := ⟨_, rfl⟩
          rw [hx] at e1 hxy hst
          rw [hy] at e2 hxy hst
          subst e1
          subst e2
          have hl4 : (K.out1 (K.out1 tn i1) i2).length = r := by rw [K.out1_length, K.out1_length, HP.out.2]; omega
          have HL4 := Lib.hid hl4
          have HST := Lib.hid hst
          have HPERM := Lib.hid hperm
          have HTG := Lib.hid (show go ∉ [w.heap.size, gt] by simp; exact ⟨fun h => HGO.out.2.2 h.symm, fun h => HG.out.2.1 h.symm⟩)
          have hk04 : Kept [w.heap.size, gt] wr w4 := HK3.out.trans hk4 (fun x hx => .inl hx)
          have HO4 := Lib.hid (HO.out.kept hk04 (by intro x hx; simp [foot, Value.ownBlock] at hx; subst hx; exact HTG.out))
          have HK4 := Lib.hid (HK.out.trans hk04 (by intro x hx; simp at hx; rcases hx with h | h; exact .inr (by omega); exact .inr (by rw [h]; exact HG.out.2.2)))
          have HT4 := Lib.hid hT4
          have HR4 := Lib.hid hR4
          obtain ⟨O, hO⟩ : ∃ O', O' = O := ⟨_, rfl⟩
          subst hO
          obtain ⟨zp, hzp⟩ : ∃ z, O[p]? = some z := ⟨_, List.getElem?_eq_getElem (by have := HOO.out.1; omega)⟩
          obtain ⟨zq, hzq⟩ : ∃ z, O[q]? = some z := ⟨_, List.getElem?_eq_getElem (by have := HOO.out.1; omega)⟩
          have d0 := HO4.out.cellAt (natVals_get hzp)
          have d1 := HO4.out.cellAt (natVals_get hzq)
          have f0 := HO4.out.free p
          have f1 := HO4.out.free q
          have hpi : (p : Int) < (N2 : Int) := by omega
          have hqi : (q : Int) < (N2 : Int) := by omega
          have hqp : ¬ q = p := fun h => hpq h.symm
          have hpq' : ¬ p = q := hpq
          have hgo4 : go < w4.heap.size := HO4.out.lt go (by simp [foot, Value.ownBlock])
          clear hlp hlq hst hsum hperm hl4 hk4 hi2 hle2 hT4 hR4 HI1 HK3 HC2 hx hy hzp hzq hk04 hpq
          rw [show treeV (toT (x, p)) = .agg #[.int .i64 (x : Int), .int .i64 (p : Int)] from rfl, show treeV (toT (y, q)) = .agg #[.int .i64 (y : Int), .int .i64 (q : Int)] from rfl]
          go_wp2_with fail
          go_region
          have hkW : Kept [go] w4 ((((w4.setCell ⟨go, p, none⟩ (.int .i64 (m : Int))).setCell ⟨go, q, none⟩ (.int .i64 (m : Int))).alloc (.cells #[.int .i64 (x : Int), .int .i64 (p : Int)] 95)).alloc (.cells #[.int .i64 (y : Int), .int .i64 (q : Int)] 95)).drew :=
            (((((Kept.refl [go] w4).setCell (p := ⟨go, p, none⟩) (by simp) _).setCell (p := ⟨go, q, none⟩) (by simp) _).alloc _).alloc _).drew
          have hB1 : Arr ((((w4.setCell ⟨go, p, none⟩ (.int .i64 (m : Int))).setCell ⟨go, q, none⟩ (.int .i64 (m : Int))).alloc (.cells #[.int .i64 (x : Int), .int .i64 (p : Int)] 95)).alloc (.cells #[.int .i64 (y : Int), .int .i64 (q : Int)] 95)).drew w4.heap.size 95 [.int .i64 (x : Int), .int .i64 (p : Int)] := by
            have h1 := Arr.new ((w4.setCell ⟨go, p, none⟩ (.int .i64 (m : Int))).setCell ⟨go, q, none⟩ (.int .i64 (m : Int))) [.int .i64 (x : Int), .int .i64 (p : Int)] 95
            rw [sc_size, sc_size] at h1
            exact h1.kept (((Kept.refl [] _).alloc _).drew) (by simp)
          have hB2 : Arr ((((w4.setCell ⟨go, p, none⟩ (.int .i64 (m : Int))).setCell ⟨go, q, none⟩ (.int .i64 (m : Int))).alloc (.cells #[.int .i64 (x : Int), .int .i64 (p : Int)] 95)).alloc (.cells #[.int .i64 (y : Int), .int .i64 (q : Int)] 95)).drew (w4.heap.size + 1) 95 [.int .i64 (y : Int), .int .i64 (q : Int)] := by
            have h1 := Arr.new (((w4.setCell ⟨go, p, none⟩ (.int .i64 (m : Int))).setCell ⟨go, q, none⟩ (.int .i64 (m : Int))).alloc (.cells #[.int .i64 (x : Int), .int .i64 (p : Int)] 95)) [.int .i64 (y : Int), .int .i64 (q : Int)] 95
            rw [al_size, sc_size, sc_size] at h1
            exact h1
          have hO5 : Row ((((w4.setCell ⟨go, p, none⟩ (.int .i64 (m : Int))).setCell ⟨go, q, none⟩ (.int .i64 (m : Int))).alloc (.cells #[.int .i64 (x : Int), .int .i64 (p : Int)] 95)).alloc (.cells #[.int .i64 (y : Int), .int .i64 (q : Int)] 95)).drew 3 (.slice (some ⟨go, 0, none⟩) N2 N2) (natVals ((O.set p m).set q m)) := by
            rw [natVals_set, natVals_set]
            exact (((HO4.out.put p (.int .i64 (m : Int))).put q (.int .i64 (m : Int))).alloc _).alloc _
          obtain ⟨W, hW⟩ : ∃ W, ((((w4.setCell ⟨go, p, none⟩ (.int .i64 (m : Int))).setCell ⟨go, q, none⟩ (.int .i64 (m : Int))).alloc (.cells #[.int .i64 (x : Int), .int .i64 (p : Int)] 95)).alloc (.cells #[.int .i64 (y : Int), .int .i64 (q : Int)] 95)).drew = W := ⟨_, rfl⟩
          rw [hW] at hkW hB1 hB2 hO5 ⊢
          have hT5 := HT4.out.kept hkW (by simp; exact HGO.out.2.2)
          have hR5 := RowN.kept HR4.out hkW (by intro z hz hm; simp [foot, Value.ownBlock] at hz hm; subst hz; exact HG.out.2.1 hm)
          have HK5 := Lib.hid (HK4.out.trans hkW (by intro z hz; simp at hz; subst hz; exact .inr HGO.out.1))
          have HT5 := Lib.hid hT5
          have HR5 := Lib.hid hR5
          have HO5 := Lib.hid hO5
          have k0 : W.cell? ⟨w.heap.size, 0, none⟩ = some (.slice (some ⟨gt, 0, none⟩) r cT) := hT5.cell (i := 0) rfl
          have k1 : W.cell? ⟨w4.heap.size, 0, none⟩ = some (.int .i64 (x : Int)) := hB1.cell (i := 0) rfl
          have k2 : W.cell? ⟨w4.heap.size + 1, 0, none⟩ = some (.int .i64 (y : Int)) := hB2.cell (i := 0) rfl
          clear hT5 hR5 hO5 hB1 hB2 hkW hW d0 d1 f0 f1
          go_wp2_with ((at_builtin; refine wp_appK W rfl _ _ 93 rfl 95 (.agg #[.int .i64 0, .int .i64 0]) 2 16 Try.underlying93 Try.infoTree rfl (by decide) (.slice (some ⟨gt, 0, none⟩) r cT) r _ [.int .i64 ((x : Int) + (y : Int)), .int .i64 (m : Int)] rfl rfl rfl rfl (by simp [Value.oneCell']) HR5.out (by simp only [maxLen]; omega) (by omega) ?_; intro g6 cap6 w6 hrow6 hk6 hg6; have hT6 := HT5.out.kept hk6 (by simp [foot, Value.ownBlock]; exact fun h => HG.out.1 h.symm); have c6 : w6.cell? ⟨w.heap.size, 0, none⟩ = some (.slice (some ⟨gt, 0, none⟩) r cT) := hT6.cell (i := 0) rfl; have f6 := hT6.free 0))
          go_roundg r
          case measure => omega
          case rel =>
            have hg6' : g6 ≠ w.heap.size ∧ g6 ≠ go ∧ w.heap.size ≤ g6 := by
              rcases hg6 with h | h
              · simp [foot, Value.ownBlock] at h; subst h; exact HG.out
              · have h1 := HO5.out.lt go (by simp [foot, Value.ownBlock])
                have h2 := HT5.out.lt
                omega
            have hkt : Kept [w.heap.size] w6 (w6.setCell ⟨w.heap.size, 0, none⟩ (.slice (some ⟨g6, 0, none⟩) (r + 1) cap6)) := (Kept.refl [w.heap.size] w6).setCell (p := ⟨w.heap.size, 0, none⟩) (by simp) _
            have hlO : (K.hrun ws k).2.length = m := by rw [HM.out]; exact K.hrun_over ws k
            have hlW : (K.hrun ws k).1.length = m := by rw [HM.out]; exact K.hrun_len ws k
            have hst := HST.out
            have hrs := K.roots_snoc (W := (K.hrun ws k).1) (over := ((K.hrun ws k).2.set p m).set q m) (k := m) (x := x + y) hlW (by rw [List.length_set, List.length_set]; exact hlO)
            refine ⟨r, k + 1, m + 1, g6, cap6, K.out1 (K.out1 tn i1) i2 ++ [(x + y, m)], (O.set p m).set q m, rfl, by have := HKR.out; omega, by have := HM.out; omega, by simp, Lib.hid (hT6.set 0 _), Lib.hid ?_, Lib.hid ⟨?_, ?_⟩, Lib.hid ?_, Lib.hid ⟨?_, ?_⟩, Lib.hid ?_, Lib.hid hg6'⟩
            · have h1 : treesC ((K.out1 (K.out1 tn i1) i2 ++ [(x + y, m)]).map toT) = treesC ((K.out1 (K.out1 tn i1) i2).map toT) ++ [.int .i64 ((x : Int) + (y : Int)), .int .i64 (m : Int)] := by
                rw [List.map_append, treesC_append]
                congr 1
              rw [h1]
              exact RowN.kept hrow6 hkt (by intro z hz hm; simp [foot, Value.ownBlock] at hz hm; subst hz; exact hg6'.1 hm)
            · rw [hst, hrs]
              exact HPERM.out.append_right _
            · rw [List.length_append, HL4.out]; rfl
            · exact (HO5.out.kept hk6 (by intro z hz hm; simp [foot, Value.ownBlock] at hz hm; subst hz; exact HG.out.2.1 hm.symm)).kept hkt (by intro z hz hm; simp [foot, Value.ownBlock] at hz hm; subst hz; exact HGO.out.2.2 hm.symm)
            · rw [List.length_set, List.length_set]; exact HOO.out.1
            · intro j
              rw [hst]
              simp only []
              rw [K.getD_zero, K.getD_set, K.getD_set, K.getD_set, K.getD_set, HOO.out.2 j, List.length_set, List.length_set, HOO.out.1, hlO]
              have hp2 : p < N2 := by omega
              have hq2 : q < N2 := by omega
              simp only [hp, hq, hp2, hq2, and_true]
            · exact (HK5.out.trans hk6 (by intro z hz; simp [foot, Value.ownBlock] at hz; subst hz; exact .inr HG.out.2.2)).setCell (p := ⟨w.heap.size, 0, none⟩) (.inr (Nat.le_refl _)) _
end Go.Proofs.Ytodjfgdolegfpaa
