/-
  The walk of lengths.grown. The walks of slices.Clone and lengths.Make. slices.SortFunc at trees off the shelf: the shelf's plain layings, written by its tool lay-plain.mjs (no command of the shelf's), numbers by marks (wip/marklay.py). slices.SortFunc at trees: what it leaves. The walk of lengths.Flat. Make and Flat, of lengths and of the reference, for any weights.
-/
import Derived.Test.YtdaenajhgbagdaaLenX
import Derived.Test.YtdaenajhgbagdaaHufRef
import Derived.Test.YtdaenajhgbagdaaProg
import Derived.Shelf.SlSortCmp.WholeK
import Derived.Ground.SlsfProg
namespace Go.Proofs.Ytdaenajhgbagdaa
open Go.RowKit
set_option linter.unusedVariables false
set_option linter.unusedSimpArgs false

theorem sc_size (w : World) (p : Addr) (u : Value) : (w.setCell p u).heap.size = w.heap.size := by simp [World.setCell]
theorem al_size (w : World) (o : Obj) : (w.alloc o).heap.size = w.heap.size + 1 := by simp
theorem Try.infoTree : (Try.prog.info? 129).map (fun i => (i.zero, i.size, i.bytes)) = some (some (.agg #[.int .i64 0, .int .i64 0]), 2, 16) := by kernel_rfl
/-- The first trees, of one symbol each. -/
def pairsN (ws : List Nat) (i : Nat) : List (Nat × Nat) := (List.range i).map fun j => (ws.getD j 0, j)
theorem pairsN_succ (ws : List Nat) (i x : Nat) (h : ws[i]? = some x) : treesC ((pairsN ws (i + 1)).map toT) = treesC ((pairsN ws i).map toT) ++ [.int .i64 (x : Int), .int .i64 (i : Int)] := by
  have hx : ws.getD i 0 = x := by rw [List.getD, h]; rfl
  unfold pairsN
  rw [List.range_succ, List.map_append, List.map_append, treesC_append]
  congr 1
  simp only [List.map_cons, List.map_nil, hx]
  rfl
theorem pairsN_len (ws : List Nat) (i : Nat) : (pairsN ws i).length = i := by simp [pairsN]
def Tr1I (w0 : World) (ws : List Nat) (tb : Nat) (g : Nat) (v16 : Value) (wr : World) : Prop :=
  ∃ (i : Nat) (a : Option Addr) (cT : Nat), g = ws.length - i ∧ i ≤ ws.length ∧ v16 = .int .i64 (i : Nat) ∧ Hid (Arr wr tb 127 [.slice a i cT]) ∧ Hid (RowN wr 129 2 (.slice a i cT) i (treesC ((pairsN ws i).map toT))) ∧
    Hid (Kept [] w0 wr) ∧ Hid (Fresh w0.heap.size (footA a)) ∧ Hid (tb ∉ footA a)
def Gr2I (w0 : World) (ws : List Nat) (tb go N2 : Nat) (g : Nat) (v7 : Value) (wr : World) : Prop :=
  ∃ (r k m gt cT : Nat) (tn : List (Nat × Nat)) (O : List Nat), r = g ∧ k + r + 1 = ws.length ∧ m = ws.length + k ∧ v7 = .int .i64 (m : Nat) ∧ Hid (Arr wr tb 127 [.slice (some ⟨gt, 0, none⟩) (r + 1) cT]) ∧
    Hid (RowN wr 129 2 (.slice (some ⟨gt, 0, none⟩) (r + 1) cT) (r + 1) (treesC (tn.map toT))) ∧ Hid (tn.Perm (K.roots (K.hrun ws k).1 (K.hrun ws k).2 m) ∧ tn.length = r + 1) ∧
    Hid (Row wr 3 (.slice (some ⟨go, 0, none⟩) N2 N2) (natVals O)) ∧ Hid (O.length = N2 ∧ ∀ j, O.getD j 0 = (K.hrun ws k).2.getD j 0) ∧ Hid (Kept [] w0 wr) ∧ Hid (gt ≠ tb ∧ gt ≠ go ∧ w0.heap.size ≤ gt)

def DepJ (w0 : World) (O ls : List Nat) (n N2 m i gr go r : Nat) (d : Nat) (v13 : Value) (wr : World) : Prop :=
  ∃ cur, cur < m ∧ Hid (K.Up O cur d r) ∧ Hid (d ≤ ls.getD i 0) ∧ v13 = .int .i64 (cur : Nat) ∧ Hid (Row wr 3 (.slice (some ⟨gr, 0, none⟩) n n) (natVals (K.outS ls n i (ls.getD i 0 - d)))) ∧
    Hid (Row wr 3 (.slice (some ⟨go, 0, none⟩) N2 N2) (natVals O)) ∧ Hid (Kept [] w0 wr)
set_option maxHeartbeats 2000000 in
theorem grown_any (a : Option Addr) (c : Nat) (ws ls : List Nat) (w : World) (h : Sees w 1 a ws.length (natVals ws)) (h0 : 1 ≤ ws.length) (hl : ws.length ≤ 258) (hw : ∀ x ∈ ws, 1 ≤ x) (hs : ws.sum ≤ 1000000000000)
    (hls : K.Told ws ls) :
    Calls Try.prog 94 #[.slice a ws.length c] w (LensPost ls w) := by
  have HS := Lib.hid h
  have HW := Lib.hid hw
  have HLS := Lib.hid hls
  obtain ⟨b, off, rfl, -⟩ := h.at (by rw [natVals_length]; omega)
  have hbw : b < w.heap.size := h.lt (by rw [natVals_length]; omega) b (by simp [footA])
  clear h hw hls
  go_enter Try.func94, Try.ntmps94
  go_wp2_with fail
  have HA := Lib.hid (Arr.new w [.slice none 0 0] 127)
  have HK := Lib.hid ((Kept.refl [] w).alloc (.cells #[.slice none 0 0] 127))
  go_loopg [16] ws.length (fun g v wr => Tr1I w ws w.heap.size g v wr)
  case atStart => exact ⟨0, none, 0, by omega, by omega, rfl, HA, Lib.hid (RowN.nil _ _ _), HK, Lib.hid (by simp [Fresh, footA]), Lib.hid (by simp [footA])⟩
  case round =>
    clear HA HK
    obtain ⟨i, at_, cT, hg, hi, rfl, HT, HR, HK, HF, HN⟩ := hrel
    have Hg := Lib.hid hg
    clear hg
    by_cases hlt : i < ws.length
    · have hli : (i : Int) < (ws.length : Int) := by omega
      obtain ⟨x, hx⟩ : ∃ x, ws[i]? = some x := ⟨_, List.getElem?_eq_getElem hlt⟩
      have c0 := (HS.out.kept0 HK.out).natD hx
      have c1 : wr.cell? ⟨w.heap.size, 0, none⟩ = some (.slice at_ i cT) := HT.out.cell (i := 0) rfl
      have hwl : w.heap.size < wr.heap.size := HT.out.lt
      have HX := Lib.hid hx
      clear hx
      go_wp2_with ((at_builtin; refine wp_appK wr rfl _ _ 127 rfl 129 (.agg #[.int .i64 0, .int .i64 0]) 2 16 Try.underlying127 Try.infoTree rfl (by decide) (.slice at_ i cT) i _ [.int .i64 (x : Int), .int .i64 (i : Int)] rfl rfl rfl rfl (by simp [Value.oneCell']) HR.out (by simp only [maxLen]; omega) (by omega) ?_; intro g5 cap5 w5 hrow5 hk5 hg5; have hT5 := HT.out.kept hk5 (by rw [foot_slice]; exact HN.out); have c5 : w5.cell? ⟨w.heap.size, 0, none⟩ = some (.slice at_ i cT) := hT5.cell (i := 0) rfl; have f5 := hT5.free 0))
      go_roundg (ws.length - (i + 1))
      case measure => have := Hg.out; omega
      case rel =>
        have hgn : g5 ≠ w.heap.size := by
          rcases hg5 with h | h
          · rw [foot_slice] at h
            intro he
            rw [he] at h
            exact HN.out h
          · omega
        have hwg : w.heap.size ≤ g5 := by
          rcases hg5 with h | h
          · rw [foot_slice] at h
            exact HF.out g5 h
          · omega
        refine ⟨i + 1, some ⟨g5, 0, none⟩, cap5, by omega, by omega, by simp, Lib.hid (hT5.set 0 _), Lib.hid ?_, Lib.hid ((HK.out.trans hk5 (fun x hx => .inr (HF.out x (by rw [foot_slice] at hx; exact hx)))).setCell (p := ⟨w.heap.size, 0, none⟩) (.inr (Nat.le_refl _)) _), Lib.hid (by simp [Fresh, footA]; exact hwg), Lib.hid (by simp [footA]; exact fun h => hgn h.symm)⟩
        rw [pairsN_succ ws i x HX.out]
        exact RowN.kept hrow5 ((Kept.refl [w.heap.size] w5).setCell (p := ⟨w.heap.size, 0, none⟩) (by simp) _) (by intro y hy hm; simp [foot, Value.ownBlock] at hy hm; subst hy; exact hgn hm)
    · obtain rfl : i = ws.length := by omega
      have hll : ¬ (ws.length : Int) < (ws.length : Int) := by omega
      obtain ⟨N2, hN2⟩ : ∃ N2, 2 * ws.length = N2 := ⟨_, rfl⟩
      obtain ⟨gt, rfl, hgt⟩ : ∃ gt, at_ = some ⟨gt, 0, none⟩ ∧ gt < wr.heap.size := by
        obtain ⟨a', c', hv, -, -, hsee, hf⟩ := RowN.sees HR.out
        cases hv
        obtain ⟨g', o', e', -⟩ := hsee.at (by rw [treesC_length, List.length_map, pairsN_len]; omega)
        rcases HR.out.2 with ⟨h1, h2⟩ | ⟨g, cap, cur, hv, hb, hg, r⟩
        · omega
        · cases hv
          exact ⟨g, rfl, lt_of_block hg⟩
      have HN2 := Lib.hid hN2
      have e2 : (2 : Int) * (ws.length : Int) = (N2 : Int) := by omega
      have hn2 : N2 ≤ 1000 := by omega
      clear hN2
      go_wp2_with ((at_make; refine wp_make1 rfl _ _ 30 rfl 3 (.int .i64 0) 8 Try.underlying30 Try.infoInt rfl .i64 .i64 _ _ N2 N2 rfl rfl rfl rfl (Nat.le_refl _) (by omega) (by simp only [maxLen]; omega) ?_; intro w2 hrow2 hk2))
      obtain ⟨go, hgoe⟩ : ∃ go, wr.heap.size = go := ⟨_, rfl⟩
      have HGO := Lib.hid (show w.heap.size ≤ go ∧ gt ≠ go ∧ w.heap.size ≠ go from ⟨by have := HK.out.size; omega, by omega, by have := HT.out.lt; omega⟩)
      rw [hgoe] at hrow2 ⊢
      rw [show List.replicate N2 (Value.int .i64 0) = natVals (List.replicate N2 0) by simp [natVals]] at hrow2
      obtain ⟨r0, hr0⟩ : ∃ r0, ws.length = r0 + 1 := ⟨ws.length - 1, by omega⟩
      have hT2 := HT.out.kept hk2 (by simp)
      have hR2 := RowN.kept HR.out hk2 (by simp [Apart])
      have HK2 := Lib.hid (HK.out.trans hk2 (by simp))
      have HO2 := Lib.hid hrow2
      have hgtw : w.heap.size ≤ gt := HF.out gt (by simp [footA])
      have hgtb : gt ≠ w.heap.size := fun h => HN.out (by simp [footA, h])
      have HG2 := Lib.hid (show gt ≠ w.heap.size ∧ gt ≠ go ∧ w.heap.size ≤ gt from ⟨hgtb, HGO.out.2.1, hgtw⟩)
      have HPERM := Lib.hid (show (pairsN ws ws.length).Perm (K.roots (K.hrun ws 0).1 (K.hrun ws 0).2 ws.length) ∧ (pairsN ws ws.length).length = r0 + 1 from ⟨by
        show (pairsN ws ws.length).Perm (K.roots ws (List.replicate ws.length 0) ws.length)
        rw [K.roots_start]
        exact List.Perm.refl _, by rw [pairsN_len, hr0]⟩)
      have HOO := Lib.hid (show (List.replicate N2 0).length = N2 ∧ ∀ j, (List.replicate N2 0).getD j 0 = (K.hrun ws 0).2.getD j 0 from ⟨by simp, fun j => by rw [K.rep_zero]; exact (K.rep_zero ws.length j).symm⟩)
      have HT2 := Lib.hid (show Arr w2 w.heap.size 127 [.slice (some ⟨gt, 0, none⟩) (r0 + 1) cT] from by rw [← hr0]; exact hT2)
      have HR2 := Lib.hid (show RowN w2 129 2 (.slice (some ⟨gt, 0, none⟩) (r0 + 1) cT) (r0 + 1) (treesC ((pairsN ws ws.length).map toT)) from by rw [← hr0]; exact hR2)
      have HR0 := Lib.hid hr0
      clear hT2 hR2 hrow2 hk2 hgtw hgtb hr0 HT HR HK HF HN hgt Hg hgoe e2
      go_loopg [7] r0 (fun g v wr => Gr2I w ws w.heap.size go N2 g v wr)
      case atStart => exact ⟨r0, 0, ws.length, gt, cT, _, _, rfl, by have := HR0.out; omega, by omega, rfl, HT2, HR2, HPERM, HO2, HOO, HK2, HG2⟩
      case round =>
        clear HT2 HR2 HPERM HO2 HOO HK2 HG2
        obtain ⟨r, k, m, gt, cT, tn, O, rfl, hkr, hm, rfl, HT, HR, HP, HO, HOO, HK, HG⟩ := hrel
        have HM := Lib.hid hm
        have hm1 : m ≤ 1000 := by omega
        have hmn : m < N2 := by have := HN2.out; omega
        clear hm
        have c0 : wr.cell? ⟨w.heap.size, 0, none⟩ = some (.slice (some ⟨gt, 0, none⟩) (r + 1) cT) := HT.out.cell (i := 0) rfl
        have HKR := Lib.hid hkr
        clear hkr
        rcases Nat.eq_zero_or_pos r with hr | hr
        · subst hr
          obtain ⟨hlsl, hup, -, -, -⟩ := HLS.out
          have HMAX := Lib.hid (K.short_of HLS.out hs)
          have hk1 : ws.length - 1 = k := by have := HKR.out; omega
          rw [hk1] at hup
          have hup2 : ∀ i, i < ws.length → ∃ r, K.Up O i (ls.getD i 0) r ∧ O.getD r 0 = 0 := fun i hi => by
            obtain ⟨r, u, hr⟩ := hup i hi
            exact ⟨r, u.congr fun j _ => HOO.out.2 j, by rw [HOO.out.2]; exact hr⟩
          have htop : ∀ i, O.getD i 0 < m := fun i => by
            rw [HOO.out.2]
            exact K.getD_lt_of (fun x hx => by have := K.hrun_tops ws h0 k x hx; rw [HM.out]; exact this) (by have := HM.out; omega) i
          have HUP := Lib.hid hup2
          have HLL := Lib.hid hlsl
          have HTOP := Lib.hid htop
          have HLO := Lib.hid HOO.out.1
          have hnm : ws.length ≤ m := by have := HM.out; omega
          clear hup hup2 hlsl htop hk1 HT HR HP HOO
          go_wp2_with ((at_make; refine wp_make1 rfl _ _ 30 rfl 3 (.int .i64 0) 8 Try.underlying30 Try.infoInt rfl .i64 .i64 _ _ ws.length ws.length rfl rfl rfl rfl (Nat.le_refl _) (by omega) (by simp only [maxLen]; omega) ?_; intro w7 hrow7 hk7))
          rw [show List.replicate ws.length (Value.int .i64 0) = natVals (List.replicate ws.length 0) by simp [natVals]] at hrow7
          obtain ⟨gr, hgr⟩ : ∃ gr, wr.heap.size = gr := ⟨_, rfl⟩
          have HGR := Lib.hid (show go ≠ gr ∧ w.heap.size ≤ gr from ⟨by have := HO.out.lt go (by simp [foot, Value.ownBlock]); omega, by have := HK.out.size; omega⟩)
          rw [hgr] at hrow7 ⊢
          have HRO7 := Lib.hid (HO.out.kept hk7 (by simp))
          have HK7 := Lib.hid (HK.out.trans hk7 (by simp))
          have HRR7 := Lib.hid hrow7
          clear hrow7 hk7 HO HK hgr c0
          go_loopg [69] ws.length (fun g v10 wr => ∃ i : Nat, g = ws.length - i ∧ i ≤ ws.length ∧ v10 = .int .i64 (i : Nat) ∧ Hid (Row wr 3 (.slice (some ⟨gr, 0, none⟩) ws.length ws.length) (natVals (ls.take i ++ List.replicate (ws.length - i) 0))) ∧
            Hid (Row wr 3 (.slice (some ⟨go, 0, none⟩) N2 N2) (natVals O)) ∧ Hid (Kept [] w wr))
          case atStart => exact ⟨0, by omega, by omega, rfl, HRR7, HRO7, HK7⟩
          case round =>
            obtain ⟨i, hgi, hi, rfl, HRR, HRO, HKW⟩ := hrel
            have Hgi := Lib.hid hgi
            clear hgi
            by_cases hlt : i < ws.length
            · have hli : (i : Int) < (ws.length : Int) := by omega
              obtain ⟨rt, hu, hr0⟩ := HUP.out i hlt
              have HR0' := Lib.hid hr0
              have HU := Lib.hid hu
              clear hu hr0
              obtain ⟨wq, rfl⟩ : ∃ wo : World, wo = wr := ⟨_, rfl⟩
              rw [K.outS_start ls ws.length i hlt] at HRR
              go_wp2_with fail
              go_loopg [13] (ls.getD i 0) (fun d v13 wr => DepJ w O ls ws.length N2 m i gr go rt d v13 wr)
              case atStart => exact ⟨i, by omega, HU, Lib.hid (Nat.le_refl _), rfl, by rw [Nat.sub_self]; exact HRR, HRO, HKW⟩
              case round =>
                obtain ⟨cur, hcm, HUC, HD, rfl, HRC, HOC, HKC⟩ := hrel
                obtain ⟨t, ht⟩ : ∃ t, O.getD cur 0 = t := ⟨_, rfl⟩
                have hci : (cur : Int) < (N2 : Int) := by omega
                have hOc : O[cur]? = some t := by rw [← ht, List.getD_eq_getElem?_getD, List.getElem?_eq_getElem (by have := HLO.out; omega)]; rfl
                have c2 := HOC.out.cellAt (natVals_get hOc)
                by_cases ht0 : t = 0
                · have e0 := HUC.out.root HR0'.out (by rw [ht]; exact ht0)
                  subst ht0
                  have E0 := Lib.hid e0
                  clear e0 ht hOc
                  go_wp2_with fail
                  go_roundg (ws.length - (i + 1))
                  case measure => have := Hgi.out; omega
                  case rel =>
                    have h := HRC.out
                    rw [E0.out, Nat.sub_zero, K.outS_end ls _ i hlt HLL.out] at h
                    exact ⟨i + 1, by omega, by omega, by simp, Lib.hid h, HOC, HKC⟩
                · obtain ⟨e, he, hue⟩ := HUC.out.next HR0'.out (by rw [ht]; exact ht0)
                  subst he
                  rw [ht] at hue
                  have HUE := Lib.hid hue
                  have htm : t < m := by rw [← ht]; exact HTOP.out _
                  have g0 : ((t : Int) == 0) = false := by simp; omega
                  have g1 : ((t : Int) != 0) = true := by simp; omega
                  obtain ⟨y, hy⟩ : ∃ y, ls.getD i 0 - (e + 1) = y := ⟨_, rfl⟩
                  have hxl : y ≤ 1000 := by have := HMAX.out i; omega
                  have HY := Lib.hid (show ls.getD i 0 - e = y + 1 by have := HD.out; omega)
                  have c1 := HRC.out.cellAt (natVals_get (K.outS_get ls ws.length i _ hlt HLL.out))
                  rw [hy] at c1 HRC
                  have f1 := HRC.out.free i
                  have HGN := Lib.hid HGR.out.1
                  have c3 : (wr.setCell ⟨gr, i, none⟩ (.int .i64 ((y : Int) + 1))).cell? ⟨go, cur, none⟩ = some (.int .i64 (t : Int)) := (HOC.out.setCell (p := ⟨gr, i, none⟩) (by simp [foot, Value.ownBlock]; exact fun h => HGN.out h.symm) (.int .i64 ((y : Int) + 1))).cellAt (natVals_get hOc)
                  clear hue hy ht hOc
                  go_wp2_with fail
                  go_roundg e
                  case measure => omega
                  case rel =>
                    have h1 := HRC.out.put i (.int .i64 ((y + 1 : Nat) : Int))
                    rw [← natVals_set, K.outS_set ls _ i _ _ hlt HLL.out, ← HY.out] at h1
                    have h2 := HOC.out.setCell (p := ⟨gr, i, none⟩) (by simp [foot, Value.ownBlock]; exact fun h => HGN.out h.symm) (.int .i64 ((y + 1 : Nat) : Int))
                    have h3 := HKC.out.setCell (p := ⟨gr, i, none⟩) (.inr HGR.out.2) (.int .i64 ((y + 1 : Nat) : Int))
                    rw [HY.out] at h1
                    have h4 : Hid (Row (wr.setCell ⟨gr, i, none⟩ (.int .i64 ((y : Int) + 1))) 3 (.slice (some ⟨gr, 0, none⟩) ws.length ws.length) (natVals (K.outS ls ws.length i (ls.getD i 0 - e)))) := Lib.hid (by rw [HY.out]; exact h1)
                    exact ⟨t, htm, HUE, Lib.hid (by have := HD.out; omega), by first | rfl | simp, h4, Lib.hid h2, Lib.hid h3⟩
            · obtain rfl : i = ws.length := by omega
              have hll : ¬ (ws.length : Int) < (ws.length : Int) := by omega
              go_wp2_with fail
              go_ret
              have h := HRR.out
              rw [Nat.sub_self, List.replicate_zero, List.append_nil, List.take_of_length_le (by rw [HLL.out]; exact Nat.le_refl _), ← HLL.out] at h
              exact ⟨some ⟨gr, 0, none⟩, ls.length, by rw [HLL.out]; rfl, h, HKW.out, by intro x hx; simp [footA] at hx; subst hx; exact HGR.out.2⟩
        · obtain ⟨r, rfl⟩ : ∃ q, r = q + 1 := ⟨r - 1, by omega⟩
          have hrb : r ≤ 1000 := by have := HKR.out; omega
          have hlW : (K.hrun ws k).1.length = m := by rw [HM.out]; exact K.hrun_len ws k
          have hlO : (K.hrun ws k).2.length = m := by rw [HM.out]; exact K.hrun_over ws k
          have hbd : ∀ t ∈ tn, t.1 ≤ 1000000000000 ∧ t.2 ≤ 1000000000000 := fun t ht => by
            obtain ⟨h1, h2, h3⟩ := K.roots_mem.1 (HP.out.1.mem_iff.1 ht)
            have h4 := K.hrun_bound ws HW.out k (by have := HKR.out; omega) t.1 (by
              rw [h3, List.getD, List.getElem?_eq_getElem (by omega)]
              exact List.getElem_mem _)
            omega
          have HBD := Lib.hid hbd
          have C1 := first_any w.heap.size gt cT (r + 1) tn wr HT.out HR.out HP.out.2 (by omega) hbd (fun h => HG.out.1 h.symm)
          have HC1 := Lib.hid C1
          clear C1 hlW hlO hbd
          go_wp2_with fail
          refine HC1.out.mono ?_
          rintro e w3 ⟨t1, i1, rfl, hi1, hle1, hT3, hR3, hk3⟩
          have hbd2 : ∀ t ∈ K.out1 tn i1, t.1 ≤ 1000000000000 ∧ t.2 ≤ 1000000000000 := fun t ht => HBD.out t ((K.out1_perm tn i1 t1 hi1).mem_iff.2 (List.mem_cons_of_mem _ ht))
          have hl3 : (K.out1 tn i1).length = r + 1 := by rw [K.out1_length, HP.out.2]; rfl
          have C2 := first_any w.heap.size gt cT r (K.out1 tn i1) w3 hT3 hR3 hl3 (by omega) hbd2 (fun h => HG.out.1 h.symm)
          have HC2 := Lib.hid C2
          have HI1 := Lib.hid (And.intro hi1 hle1)
          have HK3 := Lib.hid hk3
          clear C2 hbd2 hl3 hi1 hle1 hT3 hR3 hk3 HC1 c0
          go_wp2_with fail
          refine HC2.out.mono ?_
          rintro e w4 ⟨t2, i2, rfl, hi2, hle2, hT4, hR4, hk4⟩
          obtain ⟨p, q, hp, hq, hlp, hlq, hst, hsum⟩ := K.hrun_step ws HW.out k (by have := HKR.out; omega)
          rw [← HM.out] at hp hq hlp hlq hst
          obtain ⟨e1, e2, hpq, hperm⟩ := K.two_out HP.out.1 (by rw [HM.out]; exact K.hrun_over ws k) (by omega) hlp hlq HI1.out.1 HI1.out.2 hi2 hle2
          have hxy : (K.hrun ws k).1.getD p 0 + (K.hrun ws k).1.getD q 0 ≤ 1000000000000 := by omega
          obtain ⟨x, hx⟩ : ∃ x, (K.hrun ws k).1.getD p 0 = x := ⟨_, rfl⟩
          obtain ⟨y, hy⟩ : ∃ y, (K.hrun ws k).1.getD q 0 = y := ⟨_, rfl⟩
          rw [hx] at e1 hxy hst
          rw [hy] at e2 hxy hst
          subst e1
          subst e2
          have hl4 : (K.out1 (K.out1 tn i1) i2).length = r := by rw [K.out1_length, K.out1_length, HP.out.2]; omega
          have HL4 := Lib.hid hl4
          have HST := Lib.hid hst
          have HPERM := Lib.hid hperm
          have HTG := Lib.hid (show go ∉ [w.heap.size, gt] by simp; exact ⟨fun h => HGO.out.2.2 h.symm, fun h => HG.out.2.1 h.symm⟩)
          have hk04 : Kept [w.heap.size, gt] wr w4 := HK3.out.trans hk4 (fun x hx => .inl hx)
          have HO4 := Lib.hid (HO.out.kept hk04 (by intro x hx; simp [foot, Value.ownBlock] at hx; subst hx; exact HTG.out))
          have HK4 := Lib.hid (HK.out.trans hk04 (by intro x hx; simp at hx; rcases hx with h | h; exact .inr (by omega); exact .inr (by rw [h]; exact HG.out.2.2)))
          have HT4 := Lib.hid hT4
          have HR4 := Lib.hid hR4
          obtain ⟨O, hO⟩ : ∃ O', O' = O := ⟨_, rfl⟩
          subst hO
          obtain ⟨zp, hzp⟩ : ∃ z, O[p]? = some z := ⟨_, List.getElem?_eq_getElem (by have := HOO.out.1; omega)⟩
          obtain ⟨zq, hzq⟩ : ∃ z, O[q]? = some z := ⟨_, List.getElem?_eq_getElem (by have := HOO.out.1; omega)⟩
          have d0 := HO4.out.cellAt (natVals_get hzp)
          have d1 := HO4.out.cellAt (natVals_get hzq)
          have f0 := HO4.out.free p
          have f1 := HO4.out.free q
          have hpi : (p : Int) < (N2 : Int) := by omega
          have hqi : (q : Int) < (N2 : Int) := by omega
          have hqp : ¬ q = p := fun h => hpq h.symm
          have hpq' : ¬ p = q := hpq
          have hgo4 : go < w4.heap.size := HO4.out.lt go (by simp [foot, Value.ownBlock])
          clear hlp hlq hst hsum hperm hl4 hk4 hi2 hle2 hT4 hR4 HI1 HK3 HC2 hx hy hzp hzq hk04 hpq
          rw [show treeV (toT (x, p)) = .agg #[.int .i64 (x : Int), .int .i64 (p : Int)] from rfl, show treeV (toT (y, q)) = .agg #[.int .i64 (y : Int), .int .i64 (q : Int)] from rfl]
          go_wp2_with fail
          go_region
          have hkW : Kept [go] w4 ((((w4.setCell ⟨go, p, none⟩ (.int .i64 (m : Int))).setCell ⟨go, q, none⟩ (.int .i64 (m : Int))).alloc (.cells #[.int .i64 (x : Int), .int .i64 (p : Int)] 129)).alloc (.cells #[.int .i64 (y : Int), .int .i64 (q : Int)] 129)).drew :=
            (((((Kept.refl [go] w4).setCell (p := ⟨go, p, none⟩) (by simp) _).setCell (p := ⟨go, q, none⟩) (by simp) _).alloc _).alloc _).drew
          have hB1 : Arr ((((w4.setCell ⟨go, p, none⟩ (.int .i64 (m : Int))).setCell ⟨go, q, none⟩ (.int .i64 (m : Int))).alloc (.cells #[.int .i64 (x : Int), .int .i64 (p : Int)] 129)).alloc (.cells #[.int .i64 (y : Int), .int .i64 (q : Int)] 129)).drew w4.heap.size 129 [.int .i64 (x : Int), .int .i64 (p : Int)] := by
            have h1 := Arr.new ((w4.setCell ⟨go, p, none⟩ (.int .i64 (m : Int))).setCell ⟨go, q, none⟩ (.int .i64 (m : Int))) [.int .i64 (x : Int), .int .i64 (p : Int)] 129
            rw [sc_size, sc_size] at h1
            exact h1.kept (((Kept.refl [] _).alloc _).drew) (by simp)
          have hB2 : Arr ((((w4.setCell ⟨go, p, none⟩ (.int .i64 (m : Int))).setCell ⟨go, q, none⟩ (.int .i64 (m : Int))).alloc (.cells #[.int .i64 (x : Int), .int .i64 (p : Int)] 129)).alloc (.cells #[.int .i64 (y : Int), .int .i64 (q : Int)] 129)).drew (w4.heap.size + 1) 129 [.int .i64 (y : Int), .int .i64 (q : Int)] := by
            have h1 := Arr.new (((w4.setCell ⟨go, p, none⟩ (.int .i64 (m : Int))).setCell ⟨go, q, none⟩ (.int .i64 (m : Int))).alloc (.cells #[.int .i64 (x : Int), .int .i64 (p : Int)] 129)) [.int .i64 (y : Int), .int .i64 (q : Int)] 129
            rw [al_size, sc_size, sc_size] at h1
            exact h1
          have hO5 : Row ((((w4.setCell ⟨go, p, none⟩ (.int .i64 (m : Int))).setCell ⟨go, q, none⟩ (.int .i64 (m : Int))).alloc (.cells #[.int .i64 (x : Int), .int .i64 (p : Int)] 129)).alloc (.cells #[.int .i64 (y : Int), .int .i64 (q : Int)] 129)).drew 3 (.slice (some ⟨go, 0, none⟩) N2 N2) (natVals ((O.set p m).set q m)) := by
            rw [natVals_set, natVals_set]
            exact (((HO4.out.put p (.int .i64 (m : Int))).put q (.int .i64 (m : Int))).alloc _).alloc _
          obtain ⟨W, hW⟩ : ∃ W, ((((w4.setCell ⟨go, p, none⟩ (.int .i64 (m : Int))).setCell ⟨go, q, none⟩ (.int .i64 (m : Int))).alloc (.cells #[.int .i64 (x : Int), .int .i64 (p : Int)] 129)).alloc (.cells #[.int .i64 (y : Int), .int .i64 (q : Int)] 129)).drew = W := ⟨_, rfl⟩
          rw [hW] at hkW hB1 hB2 hO5 ⊢
          have hT5 := HT4.out.kept hkW (by simp; exact HGO.out.2.2)
          have hR5 := RowN.kept HR4.out hkW (by intro z hz hm; simp [foot, Value.ownBlock] at hz hm; subst hz; exact HG.out.2.1 hm)
          have HK5 := Lib.hid (HK4.out.trans hkW (by intro z hz; simp at hz; subst hz; exact .inr HGO.out.1))
          have HT5 := Lib.hid hT5
          have HR5 := Lib.hid hR5
          have HO5 := Lib.hid hO5
          have k0 : W.cell? ⟨w.heap.size, 0, none⟩ = some (.slice (some ⟨gt, 0, none⟩) r cT) := hT5.cell (i := 0) rfl
          have k1 : W.cell? ⟨w4.heap.size, 0, none⟩ = some (.int .i64 (x : Int)) := hB1.cell (i := 0) rfl
          have k2 : W.cell? ⟨w4.heap.size + 1, 0, none⟩ = some (.int .i64 (y : Int)) := hB2.cell (i := 0) rfl
          clear hT5 hR5 hO5 hB1 hB2 hkW hW d0 d1 f0 f1
          go_wp2_with ((at_builtin; refine wp_appK W rfl _ _ 127 rfl 129 (.agg #[.int .i64 0, .int .i64 0]) 2 16 Try.underlying127 Try.infoTree rfl (by decide) (.slice (some ⟨gt, 0, none⟩) r cT) r _ [.int .i64 ((x : Int) + (y : Int)), .int .i64 (m : Int)] rfl rfl rfl rfl (by simp [Value.oneCell']) HR5.out (by simp only [maxLen]; omega) (by omega) ?_; intro g6 cap6 w6 hrow6 hk6 hg6; have hT6 := HT5.out.kept hk6 (by simp [foot, Value.ownBlock]; exact fun h => HG.out.1 h.symm); have c6 : w6.cell? ⟨w.heap.size, 0, none⟩ = some (.slice (some ⟨gt, 0, none⟩) r cT) := hT6.cell (i := 0) rfl; have f6 := hT6.free 0))
          go_roundg r
          case measure => omega
          case rel =>
            have hg6' : g6 ≠ w.heap.size ∧ g6 ≠ go ∧ w.heap.size ≤ g6 := by
              rcases hg6 with h | h
              · simp [foot, Value.ownBlock] at h; subst h; exact HG.out
              · have h1 := HO5.out.lt go (by simp [foot, Value.ownBlock])
                have h2 := HT5.out.lt
                omega
            have hkt : Kept [w.heap.size] w6 (w6.setCell ⟨w.heap.size, 0, none⟩ (.slice (some ⟨g6, 0, none⟩) (r + 1) cap6)) := (Kept.refl [w.heap.size] w6).setCell (p := ⟨w.heap.size, 0, none⟩) (by simp) _
            have hlO : (K.hrun ws k).2.length = m := by rw [HM.out]; exact K.hrun_over ws k
            have hlW : (K.hrun ws k).1.length = m := by rw [HM.out]; exact K.hrun_len ws k
            have hst := HST.out
            have hrs := K.roots_snoc (W := (K.hrun ws k).1) (over := ((K.hrun ws k).2.set p m).set q m) (k := m) (x := x + y) hlW (by rw [List.length_set, List.length_set]; exact hlO)
            refine ⟨r, k + 1, m + 1, g6, cap6, K.out1 (K.out1 tn i1) i2 ++ [(x + y, m)], (O.set p m).set q m, rfl, by have := HKR.out; omega, by have := HM.out; omega, by simp, Lib.hid (hT6.set 0 _), Lib.hid ?_, Lib.hid ⟨?_, ?_⟩, Lib.hid ?_, Lib.hid ⟨?_, ?_⟩, Lib.hid ?_, Lib.hid hg6'⟩
            · have h1 : treesC ((K.out1 (K.out1 tn i1) i2 ++ [(x + y, m)]).map toT) = treesC ((K.out1 (K.out1 tn i1) i2).map toT) ++ [.int .i64 ((x : Int) + (y : Int)), .int .i64 (m : Int)] := by
                rw [List.map_append, treesC_append]
                congr 1
              rw [h1]
              exact RowN.kept hrow6 hkt (by intro z hz hm; simp [foot, Value.ownBlock] at hz hm; subst hz; exact hg6'.1 hm)
            · rw [hst, hrs]
              exact HPERM.out.append_right _
            · rw [List.length_append, HL4.out]; rfl
            · exact (HO5.out.kept hk6 (by intro z hz hm; simp [foot, Value.ownBlock] at hz hm; subst hz; exact HG.out.2.1 hm.symm)).kept hkt (by intro z hz hm; simp [foot, Value.ownBlock] at hz hm; subst hz; exact HGO.out.2.2 hm.symm)
            · rw [List.length_set, List.length_set]; exact HOO.out.1
            · intro j
              rw [hst]
              simp only []
              rw [K.getD_zero, K.getD_set, K.getD_set, K.getD_set, K.getD_set, HOO.out.2 j, List.length_set, List.length_set, HOO.out.1, hlO]
              have hp2 : p < N2 := by omega
              have hq2 : q < N2 := by omega
              simp only [hp, hq, hp2, hq2, and_true]
            · exact (HK5.out.trans hk6 (by intro z hz; simp [foot, Value.ownBlock] at hz; subst hz; exact .inr HG.out.2.2)).setCell (p := ⟨w.heap.size, 0, none⟩) (.inr (Nat.le_refl _)) _
end Go.Proofs.Ytdaenajhgbagdaa
namespace Go.Proofs.Ytdaenajhgbagdaa
open Go.RowKit
set_option linter.unusedVariables false
set_option linter.unusedSimpArgs false

def ClonePost (xs : List Int) (w : World) (e : Ending) (w' : World) : Prop :=
  ∃ g c, e = .returned (.slice (some ⟨g, 0, none⟩) xs.length c) ∧ Row w' 3 (.slice (some ⟨g, 0, none⟩) xs.length c) (intVals xs) ∧ Kept [] w w' ∧ w.heap.size ≤ g
theorem clone_any (a : Option Addr) (c : Nat) (xs : List Int) (w : World) (h : Sees w 1 a xs.length (intVals xs)) (h0 : 1 ≤ xs.length) (hl : xs.length ≤ 1000000) :
    Calls Try.prog 93 #[.slice a xs.length c] w (ClonePost xs w) := by
  have HS := Lib.hid h
  have hone : ∀ u ∈ intVals xs, u.oneCell' = true := by
    intro u hu
    obtain ⟨c, -, rfl⟩ := List.mem_map.1 hu
    rfl
  have HONE := Lib.hid hone
  obtain ⟨b, off, rfl, -⟩ := h.at (by rw [intVals_length]; omega)
  clear h hone
  have hnil := fun W : World => Lib.run_eql_slice_nil (P := Try.prog) W 30 3 (some ⟨b, off, none⟩) xs.length c 0 0 Try.underlying30
  go_enter Try.func93, Try.ntmps93
  have hsA : Sees (w.alloc (.cells #[] 3)) 1 (some ⟨b, off, none⟩) xs.length (intVals xs) := HS.out.kept0 ((Kept.refl [] w).alloc _)
  go_wp2_with ((at_builtin; refine wp_appS rfl _ _ 30 rfl 3 (.int .i64 0) 8 Try.underlying30 Try.infoInt rfl (.slice (some ⟨w.heap.size, 0, none⟩) 0 0) [] (intVals xs) (some ⟨b, off, none⟩) xs.length c rfl rfl HONE.out (Row.empty w _) hsA (fun h => by cases h) (by simp [maxLen]; omega) (by simp; omega) ?_; intro a4 cap4 w4 hrow4 hk4 hg4))
  simp only [List.nil_append, List.length_nil, Nat.zero_add] at hrow4 hg4
  have hl4 : (intVals xs).length = xs.length := intVals_length xs
  have hk4 : Kept [] w w4 := ((Kept.refl [] w).alloc _).new hk4 (by intro x hx; simp [foot, Value.ownBlock] at hx; omega)
  obtain ⟨go, cO, hv, hcw, -, -⟩ := hrow4.open (by omega)
  injection hv with hv1 hv2 hv3
  subst hv1
  clear hv2
  subst hv3
  have hgo : w.heap.size ≤ go := by
    rcases hg4 go (by simp [foot, Value.ownBlock]) with h | h
    · simp [foot, Value.ownBlock] at h; omega
    · simp at h; omega
  clear hg4 hl4 hcw hsA
  go_ret
  exact ⟨go, _, rfl, hrow4, hk4, hgo⟩

theorem wmake_bad (a : Option Addr) (c : Nat) (xs : List Int) (most : Int) (w : World) (h : Sees w 1 a xs.length (intVals xs)) (hl : xs.length ≤ 17592186043904) (hno : (mayL xs && mostOk most) = false) :
    Calls Try.prog 69 #[.slice a xs.length c, .int .i64 most] w (NatsPost ([], 2) w) := by
  have M := wmay_any a c xs w h hl
  clear h
  go_enter Try.func69, Try.ntmps69
  go_wp2_with fail
  refine M.mono ?_
  rintro e w' ⟨rfl, rfl⟩
  cases hm : mayL xs with
  | false =>
    clear hno
    go_wp2_with fail
    go_ret2
    exact .err rfl (Kept.refl _ _)
  | true =>
    rw [hm] at hno
    by_cases h1 : most < 12
    · have g1 : decide (most < 12) = true := by simp; omega
      clear hno
      go_wp2_with fail
      go_ret2
      exact .err rfl (Kept.refl _ _)
    · have g1 : decide (most < 12) = false := by simp; omega
      have g2 : decide (20 < most) = true := by
        unfold mostOk at hno
        simp at hno ⊢
        omega
      clear hno
      go_wp2_with fail
      go_ret2
      exact .err rfl (Kept.refl _ _)

/-- The next try begins. -/
def LoopI (w0 : World) (most N : Nat) (ls : List Nat) (go cO : Nat) (g : Nat) (wr : World) : Prop :=
  ∃ (k : Nat) (wc : List Nat), k = g ∧ Hid (K.MadeN most k wc ls) ∧ Hid (wc.length = N) ∧ Hid (∀ x ∈ wc, 1 ≤ x ∧ x ≤ 1073741824) ∧ Hid (Row wr 3 (.slice (some ⟨go, 0, none⟩) N cO) (natVals wc)) ∧ Hid (Kept [] w0 wr)
set_option maxHeartbeats 1000000 in
theorem wmake_good (a : Option Addr) (c : Nat) (xs : List Int) (most n : Nat) (ls : List Nat) (w : World) (h : Sees w 1 a xs.length (intVals xs)) (hm : mayL xs = true) (hm1 : 12 ≤ most) (hm2 : most ≤ 20)
    (hmade : K.MadeN most n (ownN xs) ls) :
    Calls Try.prog 69 #[.slice a xs.length c, .int .i64 (most : Int)] w (NatsPost (ls, 0) w) := by
  obtain ⟨hx2, hx258, hall⟩ := mayL_get hm
  have M := wmay_any a c xs w h (by omega)
  have M2 := clone_any a c xs w h (by omega) (by omega)
  rw [hm] at M
  have HM := Lib.hid hm
  have HMADE := Lib.hid hmade
  have g1 : decide ((most : Int) < 12) = false := by simp; omega
  have g2 : decide (20 < (most : Int)) = false := by simp; omega
  clear h hm hmade hall
  go_enter Try.func69, Try.ntmps69
  go_wp2_with fail
  refine M.mono ?_
  rintro e w' ⟨rfl, rfl⟩
  clear M
  go_wp2_with fail
  refine M2.mono ?_
  rintro e w4 ⟨go, cap4, rfl, hrow4, hk4, hgo⟩
  have HROW := Lib.hid hrow4
  have HK4 := Lib.hid hk4
  clear hrow4 hk4 M2
  go_wp2_with fail
  go_loopg [27] xs.length (fun g v wr => ClampI w xs go cap4 g v wr)
  case atStart => exact ⟨0, by omega, by omega, rfl, by simpa using HROW, HK4⟩
  case round =>
    obtain ⟨i, hg, hi, rfl, HR, HK⟩ := hrel
    have Hg := Lib.hid hg
    clear hg
    by_cases hlt : i < xs.length
    · have hli : (i : Int) < (xs.length : Int) := by omega
      obtain ⟨x, hx⟩ : ∃ x, xs[i]? = some x := ⟨_, List.getElem?_eq_getElem hlt⟩
      have c0 := HR.out.cellAt (intVals_get _ _ _ (clamp_at xs i x hx))
      have f0 := HR.out.free i
      have HX := Lib.hid hx
      clear hx
      by_cases h1 : 1 ≤ x
      all_goals
        go_wp2_with fail
        go_roundg (xs.length - (i + 1))
        case measure => have := Hg.out; omega
        case rel =>
          have hs := HR.out.put i (.int .i64 (clampI x))
          rw [← intVals_set, clamp_set xs i x HX.out] at hs
          have hk := HK.out.setCell (p := ⟨go, i, none⟩) (.inr hgo) (.int .i64 (clampI x))
          first
            | (rw [show clampI x = x from if_pos h1] at hs hk; exact ⟨i + 1, by omega, by omega, by simp, Lib.hid hs, Lib.hid hk⟩)
            | (rw [show clampI x = 1 from if_neg (by omega)] at hs hk; exact ⟨i + 1, by omega, by omega, by simp, Lib.hid hs, Lib.hid hk⟩)
            | (rw [show clampI x = max x 1 by unfold clampI; split <;> omega] at hs hk; exact ⟨i + 1, by omega, by omega, by simp, Lib.hid hs, Lib.hid hk⟩)
    · obtain rfl : i = xs.length := by omega
      have hll : ¬ (xs.length : Int) < (xs.length : Int) := by omega
      have hrow := HR.out
      rw [List.take_of_length_le (Nat.le_refl _), List.drop_of_length_le (Nat.le_refl _), List.append_nil, ownN_vals] at hrow
      have HROWN := Lib.hid hrow
      have HBD := Lib.hid (ownN_bd HM.out)
      have HOL := Lib.hid (ownN_length xs)
      have HGO := Lib.hid hgo
      clear hrow HR Hg HM hgo HROW HK4
      go_wp2_with fail
      go_loopg [] n (fun g wr => LoopI w most xs.length ls go cap4 g wr)
      case atStart => exact ⟨n, _, rfl, HMADE, HOL, HBD, HROWN, HK⟩
      case round =>
        clear HMADE HOL HBD HROWN HK
        obtain ⟨k, wc, rfl, HMADE, HLN, HBD, HROWN, HK⟩ := hrel
        have hlN := HLN.out
        obtain ⟨lc, hlc⟩ := K.hrun_lens wc (fun x hx => (HBD.out x hx).1) (by omega)
        have G := grown_any (some ⟨go, 0, none⟩) cap4 wc lc wr (by rw [hlN]; exact HROWN.out.seeA) (by omega) (by omega) (fun x hx => (HBD.out x hx).1) (own_sum (by omega) HBD.out) hlc
        have HLC := Lib.hid (show K.Told wc lc from hlc)
        have hlcl : lc.length = xs.length := by rw [hlc.len, hlN]
        rw [hlN] at G
        have HLN2 := Lib.hid (And.intro hlN hlcl)
        clear hlN hlc hlcl HLN
        obtain ⟨wo, rfl⟩ : ∃ wo : World, wo = wr := ⟨_, rfl⟩
        go_wp2_with fail
        refine G.mono ?_
        rintro e w5 ⟨a5, c5, rfl, hrow5, hk5, hf5⟩
        rw [HLN2.out.2] at hrow5 ⊢
        have HR5 := Lib.hid hrow5
        have HF5 := Lib.hid (Fresh.mono hf5 HK.out.size)
        have HKN := Lib.hid (HK.out.trans hk5 (by simp))
        have HRO5 := Lib.hid (HROWN.out.kept hk5 (by simp))
        clear hrow5 hk5 hf5 G HK HROWN
        have G := max_any a5 c5 (lc.map fun n : Nat => (n : Int)) w5 (by rw [List.length_map, HLN2.out.2, ← natVals_int]; exact HR5.out.seeA) (by rw [List.length_map, HLN2.out.2]; omega) (by rw [List.length_map, HLN2.out.2]; omega)
        rw [List.length_map, HLN2.out.2] at G
        rcases Nat.eq_zero_or_pos k with hk0 | hk0
        · subst hk0
          obtain ⟨t1, t2⟩ := HMADE.out
          have e1 := K.told_one t1 HLC.out
          subst e1
          have T2 := Lib.hid t2
          clear t1 t2
          go_wp2_with fail
          refine G.mono ?_
          rintro e w6 ⟨m, rfl, h1, h2, rfl⟩
          have hmm := (max_more h1 h2).2 T2.out
          have g3 : decide (m ≤ (most : Int)) = true := by simp; omega
          clear h1 h2
          go_wp2_with fail
          go_ret2
          have hr := HR5.out
          have hl := HLN2.out.2
          rw [← hl] at hr
          exact ⟨a5, c5, by rw [hl]; rfl, hr, HKN.out, HF5.out⟩
        · obtain ⟨r, rfl⟩ : ∃ r, k = r + 1 := ⟨k - 1, by omega⟩
          obtain ⟨l0, t1, t2, t3⟩ := HMADE.out
          have e1 := K.told_one t1 HLC.out
          subst e1
          have T2 := Lib.hid t2
          have T3 := Lib.hid t3
          clear t1 t2 t3 HMADE
          go_wp2_with fail
          refine G.mono ?_
          rintro e w6 ⟨m, rfl, h1, h2, rfl⟩
          have hmm : ¬ (m ≤ (most : Int)) := fun hm => by
            obtain ⟨x, hx, hlt⟩ := T2.out
            have := (max_more h1 h2).1 hm x hx
            omega
          have g3 : decide (m ≤ (most : Int)) = false := by simp; omega
          clear h1 h2 G
          go_wp2_with fail
          go_loopg [47] xs.length (fun g v wr => HalveI w xs.length wc go cap4 g v wr)
          case atStart => exact ⟨0, by omega, by omega, rfl, by simpa [K.halve] using HRO5, HKN⟩
          case round =>
            obtain ⟨i, hg, hi, rfl, HR, HK⟩ := hrel
            have Hg := Lib.hid hg
            clear hg
            by_cases hlt : i < xs.length
            · have hli : (i : Int) < (xs.length : Int) := by omega
              obtain ⟨x, hx⟩ : ∃ x, wc[i]? = some x := ⟨_, List.getElem?_eq_getElem (by have := HLN2.out.1; omega)⟩
              have hxb : x ≤ 1073741824 := (HBD.out x (List.mem_of_getElem? hx)).2
              have c0 := HR.out.cellAt (natVals_get (K.halve_at wc i x hx))
              have f0 := HR.out.free i
              have HX := Lib.hid hx
              clear hx
              go_wp2_with fail
              go_roundg (xs.length - (i + 1))
              case measure => have := Hg.out; omega
              case rel =>
                have hs := HR.out.put i (.int .i64 ((x / 2 + 1 : Nat) : Int))
                rw [← natVals_set, K.halve_take wc i x HX.out] at hs
                have hk := HK.out.setCell (p := ⟨go, i, none⟩) (.inr HGO.out) (.int .i64 ((x / 2 + 1 : Nat) : Int))
                exact ⟨i + 1, by omega, by omega, by simp, Lib.hid hs, Lib.hid hk⟩
            · obtain rfl : i = xs.length := by omega
              have hll : ¬ (xs.length : Int) < (xs.length : Int) := by omega
              have hrow := HR.out
              rw [List.take_of_length_le (by rw [HLN2.out.1]; exact Nat.le_refl _), List.drop_of_length_le (by rw [HLN2.out.1]; exact Nat.le_refl _), List.append_nil] at hrow
              have HRN := Lib.hid hrow
              have HLN3 := Lib.hid (show (K.halve wc).length = xs.length by rw [K.halve_length, HLN2.out.1])
              have HBD2 := Lib.hid (show ∀ x ∈ K.halve wc, 1 ≤ x ∧ x ≤ 1073741824 from fun x hx => ⟨K.halve_pos wc x hx, K.halve_le (fun y hy => (HBD.out y hy).2) x hx⟩)
              clear hrow
              go_wp2_with fail
              go_roundg r
              case measure => omega
              case rel => exact ⟨r, K.halve wc, rfl, T3, HLN3, HBD2, HRN, HK⟩
end Go.Proofs.Ytdaenajhgbagdaa
namespace Go.Proofs
open Go.Shelf Go.Lib
def Try.sortT_ren : Go.Shelf.Ren := ⟨fun | 6 => 99 | 15 => 109 | 14 => 108 | 28 => 118 | 29 => 119 | 20 => 110 | 21 => 111 | 22 => 112 | 23 => 113 | 24 => 114 | 25 => 115 | 26 => 116 | 27 => 117 | 46 => 120 | 47 => 121 | 48 => 122 | 49 => 123 | 50 => 124 | 57 => 125 | n => n, fun | 22 => 127 | 24 => 129 | 25 => 131 | 3 => 3 | 39 => 86 | 0 => 0 | 53 => 153 | 55 => 70 | 4 => 4 | 46 => 146 | 45 => 145 | 50 => 150 | 5 => 5 | 9 => 9 | 66 => 155 | 70 => 159 | 76 => 161 | 77 => 25 | n => n, fun | n => n⟩
theorem Try.sortT : Go.Proofs.SlLaysF0.n6 Try.prog Try.sortT_ren := {
  mixed := by kernel_rfl
  f6 := ⟨Try.f99.name, by decide, Try.func99.trans (congrArg some (by kernel_rfl))⟩
  f14 := ⟨Try.f108.name, by decide, Try.func108.trans (congrArg some (by kernel_rfl))⟩
  f15 := Try.func109.trans (congrArg some (by kernel_rfl))
  f20 := ⟨Try.f110.name, by decide, Try.func110.trans (congrArg some (by kernel_rfl))⟩
  f21 := ⟨Try.f111.name, by decide, Try.func111.trans (congrArg some (by kernel_rfl))⟩
  f22 := ⟨Try.f112.name, by decide, Try.func112.trans (congrArg some (by kernel_rfl))⟩
  f23 := ⟨Try.f113.name, by decide, Try.func113.trans (congrArg some (by kernel_rfl))⟩
  f24 := ⟨Try.f114.name, by decide, Try.func114.trans (congrArg some (by kernel_rfl))⟩
  f25 := ⟨Try.f115.name, by decide, Try.func115.trans (congrArg some (by kernel_rfl))⟩
  f26 := ⟨Try.f116.name, by decide, Try.func116.trans (congrArg some (by kernel_rfl))⟩
  f27 := ⟨Try.f117.name, by decide, Try.func117.trans (congrArg some (by kernel_rfl))⟩
  f28 := Try.func118.trans (congrArg some (by kernel_rfl))
  f29 := Try.func119.trans (congrArg some (by kernel_rfl))
  f46 := ⟨Try.f120.name, by decide, Try.func120.trans (congrArg some (by kernel_rfl))⟩
  f47 := Try.func121.trans (congrArg some (by kernel_rfl))
  f48 := Try.func122.trans (congrArg some (by kernel_rfl))
  f49 := ⟨Try.f123.name, by decide, Try.func123.trans (congrArg some (by kernel_rfl))⟩
  f50 := ⟨Try.f124.name, by decide, Try.func124.trans (congrArg some (by kernel_rfl))⟩
  f57 := ⟨Try.f125.name, by decide, Try.func125.trans (congrArg some (by kernel_rfl))⟩
  t0 := Try.underlying0
  a0 := Try.isAgg0
  z0 := Try.sizeOf0
  v0 := Try.zeroValue0
  t3 := Try.underlying3
  a3 := Try.isAgg3
  z3 := Try.sizeOf3
  v3 := Try.zeroValue3
  t4 := Try.underlying4
  a4 := Try.isAgg4
  z4 := Try.sizeOf4
  v4 := Try.zeroValue4
  t5 := Try.underlying5
  a5 := Try.isAgg5
  z5 := Try.sizeOf5
  v5 := Try.zeroValue5
  t9 := Try.underlying9
  a9 := Try.isAgg9
  z9 := Try.sizeOf9
  v9 := Try.zeroValue9
  t22 := Try.underlying127
  a22 := Try.isAgg127
  z22 := Try.sizeOf127
  v22 := Try.zeroValue127
  t25 := Try.underlying131
  a25 := Try.isAgg131
  z25 := Try.sizeOf131
  v25 := Try.zeroValue131
  t39 := Try.underlying86
  a39 := Try.isAgg86
  z39 := Try.sizeOf86
  v39 := Try.zeroValue86
  t45 := Try.underlying145
  a45 := Try.isAgg145
  z45 := Try.sizeOf145
  v45 := Try.zeroValue145
  t46 := Try.underlying146
  a46 := Try.isAgg146
  z46 := Try.sizeOf146
  v46 := Try.zeroValue146
  t50 := Try.underlying150
  a50 := Try.isAgg150
  z50 := Try.sizeOf150
  v50 := Try.zeroValue150
  t53 := Try.underlying153
  a53 := Try.isAgg153
  z53 := Try.sizeOf153
  v53 := Try.zeroValue153
  t55 := Try.underlying70
  a55 := Try.isAgg70
  z55 := Try.sizeOf70
  v55 := Try.zeroValue70
  t66 := Try.underlying155
  a66 := Try.isAgg155
  z66 := Try.sizeOf155
  v66 := Try.zeroValue155
  t70 := Try.underlying159
  a70 := Try.isAgg159
  z70 := Try.sizeOf159
  v70 := Try.zeroValue159
  t76 := Try.underlying161
  a76 := Try.isAgg161
  z76 := Try.sizeOf161
  v76 := Try.zeroValue161
  t77 := Try.underlying25
  a77 := Try.isAgg25
  z77 := Try.sizeOf25
  v77 := Try.zeroValue25 }
end Go.Proofs
namespace Go.Proofs.Ytdaenajhgbagdaa
open Go.RowKit Go.Sort Go.Shelf
set_option linter.unusedVariables false
set_option linter.unusedSimpArgs false

theorem ahead_grow (x y : Int × Int) (w : World) (hx : TreeB x) (hy : TreeB y) : Calls Try.prog 100 #[treeV x, treeV y] w fun e w' => e = .returned (.int .i64 (aheadI x y)) ∧ ∃ q os', w' = grow (w.drewN q) os' := by
  obtain ⟨a, b⟩ := x
  obtain ⟨c, d⟩ := y
  obtain ⟨⟨x1, x2⟩, x3, x4⟩ := hx
  obtain ⟨⟨y1, y2⟩, y3, y4⟩ := hy
  simp only at x1 x2 x3 x4 y1 y2 y3 y4
  unfold treeV
  have heq := fun W => eqTree a b c d W
  have hgr : ∀ A B : Obj, ∃ q os', (w.alloc A).alloc B = grow (w.drewN q) os' := fun A B => ⟨0, #[A] ++ #[B], by rw [alloc_eq_grow, alloc_eq_grow, grow_grow]; rfl⟩
  have HGR := Lib.hid hgr
  clear hgr
  by_cases h1 : a = c
  · by_cases h2 : b = d
    · subst h1
      subst h2
      have e1 : (a == a && b == b) = true := by simp
      rw [e1] at heq
      have HE := Lib.hid (show aheadI (a, b) (a, b) = 0 by unfold aheadI; simp)
      go_enter Try.func100, Try.ntmps100
      go_wp2_with fail
      go_ret
      exact ⟨by rw [HE.out]; rfl, HGR.out _ _⟩
    · have e1 : (a == c && b == d) = false := by simp [h2]
      rw [e1] at heq
      have HE := Lib.hid (show aheadI (a, b) (c, d) = b - d by unfold aheadI; simp [h1])
      have g1 : (a == c) = true := by simp [h1]
      have g2 : (a != c) = false := by simp [h1]
      have H1 := Lib.hid h1
      clear h1
      go_enter Try.func100, Try.ntmps100
      go_wp2_with fail
      go_ret
      exact ⟨by rw [HE.out]; rfl, HGR.out _ _⟩
  · have e1 : (a == c && b == d) = false := by simp [h1]
    rw [e1] at heq
    have HE := Lib.hid (show aheadI (a, b) (c, d) = a - c by unfold aheadI; simp [h1])
    have g1 : (a == c) = false := by simp [h1]
    have g2 : (a != c) = true := by simp [h1]
    go_enter Try.func100, Try.ntmps100
    go_wp2_with fail
    go_ret
    exact ⟨by rw [HE.out]; rfl, HGR.out _ _⟩

/-- Trees whose weight and number are not too great. -/
abbrev TreeN : Type := { x : Int × Int // TreeB x }
instance : Inhabited TreeN := ⟨⟨(0, 0), by unfold TreeB; omega⟩⟩
def encT (x : TreeN) : List Value := treeC x.1
def cfT (x y : TreeN) : Int := aheadI x.1 y.1
theorem ltT (x y : TreeN) : ltOf cfT x y = decide (x.1.1 < y.1.1 ∨ (x.1.1 = y.1.1 ∧ x.1.2 < y.1.2)) := by
  unfold ltOf cfT
  exact decide_eq_decide.2 (aheadI_neg _ _)
theorem swoT : SWO (ltOf cfT) where
  irrefl x := by rw [ltT]; simp
  trans x y z h1 h2 := by rw [ltT] at *; simp only [decide_eq_true_eq] at *; omega
  ntrans x y z h1 h2 := by rw [ltT] at *; simp only [decide_eq_false_iff_not] at *; omega
theorem cmpT (blk off size : Nat) (w : World) : CmpLays Try.prog 100 #[] encT 2 cfT blk off size w :=
  fun _ _ _ _ x y => ahead_grow x.1 y.1 _ x.2 y.2
/-- The list as an array of bounded trees. -/
def arrT (l : List (Int × Int)) (hb : ∀ x ∈ l, TreeB x) : Array TreeN := (l.attach.map fun x => ⟨x.1, hb x.1 x.2⟩).toArray
theorem arrT_size (l : List (Int × Int)) (hb : ∀ x ∈ l, TreeB x) : (arrT l hb).size = l.length := by simp [arrT]
theorem arrT_list (l : List (Int × Int)) (hb : ∀ x ∈ l, TreeB x) : (arrT l hb).toList.map Subtype.val = l := by
  simp [arrT]
  exact List.attach_map_subtype_val l
theorem flatT (d : Array TreeN) (t : Nat) (h : t < d.size * 2) : (treesC (d.toList.map Subtype.val))[t]? = some ((flatK encT 2 d)[t]!) := by
  have hd : t / 2 < d.size := by omega
  have hx : (d.toList.map Subtype.val)[t / 2]? = some (d[t / 2]!).1 := by
    rw [List.getElem?_map, getElem!_pos d _ hd]
    simp [hd]
  obtain ⟨h1, h2⟩ := treesC_get hx
  rw [get_flatK _ _ _ _ h]
  rcases Nat.mod_two_eq_zero_or_one t with e | e
  · rw [e, show t = t / 2 * 2 by omega, h1, show t / 2 * 2 / 2 = t / 2 by omega]
    rfl
  · rw [e, show t = t / 2 * 2 + 1 by omega, h2, show (t / 2 * 2 + 1) / 2 = t / 2 by omega]
    rfl

def SortTPost (g n : Nat) (l : List (Int × Int)) (w : World) (e : Ending) (w' : World) : Prop :=
  e = .returned (.tuple #[]) ∧ ∃ l', l'.Perm l ∧ (l'.Pairwise fun a b => ¬ (b.1 < a.1 ∨ (b.1 = a.1 ∧ b.2 < a.2))) ∧ Sees w' 2 (some ⟨g, 0, none⟩) n (treesC l') ∧ Kept [g] w w'
theorem sortT_any (g c n : Nat) (l : List (Int × Int)) (w : World) (hR : RowN w 129 2 (.slice (some ⟨g, 0, none⟩) n c) n (treesC l)) (hl : l.length = n) (hn : n ≤ 1000000) (hb : ∀ x ∈ l, TreeB x) :
    Calls Try.prog 99 #[.slice (some ⟨g, 0, none⟩) n c, .func (.func 100) #[] #[]] w (SortTPost g n l w) := by
  have eg : ∀ args w, (callFunc 100 args).run Try.prog w = .ok (.enter 100 args) w := enters_of Try.func100 (by kernel_rfl) rfl
  have hsz := arrT_size l hb
  have hg : g < w.heap.size := hR.lt g (by simp [foot, Value.ownBlock])
  have hH : HoldsK encT 2 w g 0 (arrT l hb) := by
    intro j hj
    rw [size_flatK] at hj
    have h1 := flatT (arrT l hb) j hj
    rw [arrT_list] at h1
    exact ⟨by rw [Nat.zero_add]; exact hR.cellAt h1, hR.free _⟩
  have hcon := AnyQ.slices_SortFunc Try.sortT 2 Try.isAgg129 Try.sizeOf129 encT (fun _ => rfl) (fun x v hv => by simp [encT, treeC] at hv; rcases hv with rfl | rfl <;> rfl) cfT swoT 100 #[] g 0 c (arrT l hb) w eg (cmpT g 0 _ w) hH hg (by rw [hsz]; omega)
  rw [hsz, hl] at hcon
  refine Calls.mono hcon ?_
  rintro e w' ⟨rfl, d', m, os, ⟨hp1, hp2, hp3⟩, hs, rfl⟩
  have hds : d'.size = n := by rw [hp1, hsz, hl]
  refine ⟨rfl, d'.toList.map Subtype.val, ?_, ?_, ⟨by rw [treesC_length, List.length_map, Array.length_toList, hds], fun j u hj => ⟨g, 0, rfl, ?_⟩⟩, ?_⟩
  · have h1 : d'.extract 0 n = d' := by rw [← hds]; simp
    have h2 : (arrT l hb).extract 0 n = arrT l hb := by rw [← hl, ← hsz]; simp
    rw [h1, h2] at hp3
    have := hp3.map Subtype.val
    rwa [arrT_list] at this
  · rw [List.pairwise_map, List.pairwise_iff_getElem]
    intro i j hi hj hij
    have hi' : i < d'.size := by simpa using hi
    have hj' : j < d'.size := by simpa using hj
    have h := hs i j (Nat.zero_le _) hij (by omega)
    rw [getElem!_pos d' i hi', getElem!_pos d' j hj', ltT, decide_eq_false_iff_not] at h
    simpa using h
  · have hjl : j < d'.size * 2 := by have := (List.getElem?_eq_some_iff.1 hj).1; rwa [treesC_length, List.length_map, Array.length_toList] at this
    rw [flatT d' j hjl] at hj
    cases hj
    unfold sortWorldK
    rw [cell?_grow _ _ _ (by simp [putRowK]; exact hg)]
    exact cell?_putRow id (Go.Sort.ahead w m) g 0 (flatK encT 2 (arrT l hb)) (flatK encT 2 d') hH (by rw [size_flatK, size_flatK, hp1]) j (by rw [size_flatK]; exact hjl)
  · unfold sortWorldK
    refine ⟨?_, ?_, ?_, ?_, ?_⟩
    · rfl
    · rfl
    · rfl
    · simp [putRowK]
    · intro k hk hkn
      rw [heap_grow_old _ _ (by simp [putRowK]; exact hk)]
      simp only [putRowK, putRow, mapBlock]
      rw [Array.getElem?_modify, if_neg (by simp at hkn; omega)]
      rfl
end Go.Proofs.Ytdaenajhgbagdaa
namespace Go.Proofs.Ytdaenajhgbagdaa
open Go.RowKit
set_option linter.unusedVariables false
set_option linter.unusedSimpArgs false

theorem treesC_zero (n : Nat) : treesC (List.replicate n (0, 0)) = List.replicate (n * 2) (.int .i64 0) := by
  induction n with
  | zero => rfl
  | succ n ih => rw [List.replicate_succ, show (n + 1) * 2 = n * 2 + 1 + 1 by omega, List.replicate_succ, List.replicate_succ, ← ih]; rfl
theorem made_trees (n : Nat) : (madeCells #[.int .i64 0, .int .i64 0] (n * 2)).toList = treesC (List.replicate n (0, 0)) := by
  rw [treesC_zero]
  apply List.ext_getElem?
  intro t
  by_cases h : t < n * 2
  · have e : t % 2 = 0 ∨ t % 2 = 1 := by omega
    simp only [madeCells, Array.toList_map, List.getElem?_map, Array.toList_range, List.getElem?_range h, List.getElem?_replicate, h, if_true, Option.map_some]
    rcases e with e | e <;> simp [e]
  · rw [List.getElem?_eq_none (by simp [madeCells]; omega), List.getElem?_eq_none (by simp; omega)]
/-- The walk's arm at 'make([]tree, n)'. -/
theorem wp_makeT {w : World} {ops : Array Oper} {rest : List Oper} {o : Oper} {a : Act} {Q : Exit → Act → World → Prop}
    (hg : o.guard = none) (l c : Operand) (t : TypeId) (hop : o.op = Op.makeSlice t l c)
    (e : TypeId) (hu : Try.prog.underlying t = some (.slice e)) (T : (Try.prog.info? e).map (fun i => (i.zero, i.size, i.bytes)) = some (some (.agg #[.int .i64 0, .int .i64 0]), 2, 16))
    (kl kc : IntKind) (n : Nat) (hl : a.eval l = .int kl n) (hc : a.eval c = .int kc n) (hm : n ≤ 1000000)
    (hK : ∀ w', RowN w' e 2 (.slice (some ⟨w.heap.size, 0, none⟩) n n) n (treesC (List.replicate n (0, 0))) → Kept [] w w' → wpList Try.prog ops Q rest (a.put o.dst (.slice (some ⟨w.heap.size, 0, none⟩) n n)) w') :
    wpList Try.prog ops Q (o :: rest) a w := by
  obtain ⟨i, hi, h0, h1, h2⟩ := info_parts T
  have hb' : (i.bytes : Int) * (n : Int) ≤ 281474976710656 := by
    rw [h2]; omega
  have hr := run_make (P := Try.prog) w t e i _ hu hi h0 kl kc n n (by omega) (by omega) hb' (by omega)
  refine wpList_plain hg fun K hK' => ?_
  unfold Oper.wp
  simp [execOp, hop, hl, hc, hr, Result.andThen]
  refine hK' _ _ (hK _ ⟨by rw [treesC_length]; simp, .inr ⟨w.heap.size, n, _, by simp, Nat.zero_le _, heap_alloc_new w _, Nat.le_refl _, by simp only [maxLen]; omega, by rw [h1]; simp [size_madeCells], ?_⟩⟩ ((Kept.refl _ _).alloc _))
  rw [h1, show (Value.agg #[.int .i64 0, .int .i64 0]).cells = #[.int .i64 0, .int .i64 0] from by rfl, made_trees, List.take_of_length_le (by rw [treesC_length]; simp)]

/-- The trees that Flat sorts. -/
def pairsF (xs : List Int) (i : Nat) : List (Int × Int) := (List.range i).map fun j => (-(((ownN xs).getD j 0 : Nat) : Int), (j : Int))
theorem pairsF_len (xs : List Int) (i : Nat) : (pairsF xs i).length = i := by simp [pairsF]
theorem pairsF_set (xs : List Int) (i : Nat) (x : Int) (h : xs[i]? = some x) (n : Nat) (hi : i < n) : (pairsF xs i ++ List.replicate (n - i) (0, 0)).set i (-clampI x, (i : Int)) = pairsF xs (i + 1) ++ List.replicate (n - (i + 1)) (0, 0) := by
  have e := ownN_get h
  rw [List.set_append_right _ _ (by rw [pairsF_len]; exact Nat.le_refl _), pairsF_len, Nat.sub_self, show n - i = (n - (i + 1)) + 1 by omega, List.replicate_succ, List.set_cons_zero]
  unfold pairsF
  rw [List.range_succ, List.map_append, List.append_assoc]
  simp only [List.map_cons, List.map_nil, e]
  rfl
/-- What is told when i symbols of the sorted ones have theirs. -/
def outF (ws : List Nat) (i : Nat) : List Nat := (List.range ws.length).map fun j => if K.frontN ws j < i then K.flatAt ws.length (K.frontN ws j) else 0
theorem outF_len (ws : List Nat) (i : Nat) : (outF ws i).length = ws.length := by simp [outF]
theorem outF_zero (ws : List Nat) : outF ws 0 = List.replicate ws.length 0 := by
  unfold outF
  apply List.ext_getElem?
  intro j
  by_cases h : j < ws.length
  · simp [List.getElem?_range h, h]
  · rw [List.getElem?_eq_none (by simp; omega), List.getElem?_eq_none (by simp; omega)]
theorem outF_all (ws : List Nat) : outF ws ws.length = K.flatL ws := by
  unfold outF K.flatL
  apply List.map_congr_left
  intro j hj
  rw [List.mem_range] at hj
  have hp := (K.front_perm ws).mem_iff.1 (List.mem_map.2 ⟨j, List.mem_range.2 hj, rfl⟩)
  rw [List.mem_range] at hp
  rw [if_pos hp]
structure SortedT (ws : List Nat) (l : List (Int × Int)) : Prop where
  len : l.length = ws.length
  at_ : ∀ (p : Nat) (t : Int × Int), l[p]? = some t → ∃ q : Nat, t.2 = (q : Int) ∧ q < ws.length ∧ K.frontN ws q = p
  all : ∀ q, q < ws.length → ∃ (p : Nat) (t : Int × Int), l[p]? = some t ∧ t.2 = (q : Int)
theorem sorted_of {xs : List Int} {l : List (Int × Int)} (hp : l.Perm (pairsF xs xs.length)) (hs : l.Pairwise fun a b => ¬ (b.1 < a.1 ∨ (b.1 = a.1 ∧ b.2 < a.2))) : SortedT (ownN xs) l := by
  have hlen : l.length = xs.length := by rw [hp.length_eq, pairsF_len]
  have hmem : ∀ t ∈ l, ∃ q : Nat, q < xs.length ∧ t = (-(((ownN xs).getD q 0 : Nat) : Int), (q : Int)) := by
    intro t ht
    obtain ⟨q, hq, rfl⟩ := List.mem_map.1 (hp.mem_iff.1 ht)
    exact ⟨q, List.mem_range.1 hq, rfl⟩
  have hL : (l.map fun t => t.2.toNat).Perm (List.range (ownN xs).length) := by
    have h1 := hp.map fun t => t.2.toNat
    have h2 : (pairsF xs xs.length).map (fun t => t.2.toNat) = List.range (ownN xs).length := by
      rw [ownN_length]
      unfold pairsF
      rw [List.map_map]
      conv => rhs; rw [← List.map_id (List.range xs.length)]
      apply List.map_congr_left
      intro j _
      simp
    rwa [h2] at h1
  have hpw : (l.map fun t => t.2.toNat).Pairwise fun a b => K.before (ownN xs) a b = false := by
    rw [List.pairwise_map, List.pairwise_iff_getElem]
    rw [List.pairwise_iff_getElem] at hs
    intro i j hi hj hij
    have h1 := hs i j hi hj hij
    obtain ⟨a, ha, ea⟩ := hmem l[i] (List.getElem_mem _)
    obtain ⟨b, hb, eb⟩ := hmem l[j] (List.getElem_mem _)
    rw [ea, eb] at h1 ⊢
    unfold K.before
    rw [decide_eq_false_iff_not]
    simp only [Int.toNat_natCast] at h1 ⊢
    omega
  refine ⟨by rw [hlen, ownN_length], fun p t ht => ?_, fun q hq => ?_⟩
  · obtain ⟨q, hq, rfl⟩ := hmem t (List.mem_of_getElem? ht)
    refine ⟨q, rfl, by rw [ownN_length]; exact hq, ?_⟩
    exact K.front_at hL hpw p q (by rw [List.getElem?_map, ht]; simp)
  · have hm : q ∈ l.map fun t => t.2.toNat := hL.mem_iff.2 (List.mem_range.2 hq)
    obtain ⟨t, ht, hqe⟩ := List.mem_map.1 hm
    obtain ⟨p, hpl, hpe⟩ := List.mem_iff_getElem.1 ht
    obtain ⟨q2, -, e2⟩ := hmem t ht
    refine ⟨p, t, by rw [← hpe]; exact List.getElem?_eq_getElem hpl, ?_⟩
    rw [e2] at hqe ⊢
    simp at hqe ⊢
    omega
theorem outF_set {ws : List Nat} {l : List (Int × Int)} (h : SortedT ws l) {p q : Nat} {t : Int × Int} (ht : l[p]? = some t) (hq : t.2 = (q : Int)) : (outF ws p).set q (K.flatAt ws.length p) = outF ws (p + 1) := by
  obtain ⟨q', e1, hlt, hf⟩ := h.at_ p t ht
  have : q' = q := by omega
  subst this
  apply List.ext_getElem?
  intro j
  rw [List.getElem?_set]
  by_cases hj : j < ws.length
  · have g : ∀ i, (outF ws i)[j]? = some (if K.frontN ws j < i then K.flatAt ws.length (K.frontN ws j) else 0) := fun i => by simp [outF, List.getElem?_range hj]
    rw [g, g]
    by_cases he : q' = j
    · subst he
      rw [if_pos rfl, if_pos (by rw [outF_len]; exact hlt), hf, if_pos (by omega)]
    · rw [if_neg he]
      have hne : K.frontN ws j ≠ p := by
        intro hfj
        obtain ⟨p2, t2, h2, h3⟩ := h.all j hj
        obtain ⟨q2, e2, -, f2⟩ := h.at_ p2 t2 h2
        have hq2 : q2 = j := by omega
        subst hq2
        have hpp : p2 = p := by omega
        subst hpp
        rw [ht] at h2
        cases h2
        omega
      by_cases h1 : K.frontN ws j < p
      · rw [if_pos h1, if_pos (by omega)]
      · rw [if_neg h1, if_neg (by omega)]
  · rw [if_neg (by omega), List.getElem?_eq_none (by rw [outF_len]; omega), List.getElem?_eq_none (by rw [outF_len]; omega)]

theorem wflat_bad (a : Option Addr) (c : Nat) (xs : List Int) (w : World) (h : Sees w 1 a xs.length (intVals xs)) (hl : xs.length ≤ 17592186043904) (hno : mayL xs = false) :
    Calls Try.prog 76 #[.slice a xs.length c] w (NatsPost ([], 2) w) := by
  have M := wmay_any a c xs w h hl
  rw [hno] at M
  clear h hno
  go_enter Try.func76, Try.ntmps76
  go_wp2_with fail
  refine M.mono ?_
  rintro e w' ⟨rfl, rfl⟩
  go_wp2_with fail
  go_ret2
  exact .err rfl (Kept.refl _ _)

def OrdI (w0 : World) (xs : List Int) (g : Nat) (m : Nat) (v : Value) (wr : World) : Prop :=
  ∃ i : Nat, m = xs.length - i ∧ i ≤ xs.length ∧ v = .int .i64 (i : Nat) ∧ Hid (RowN wr 129 2 (.slice (some ⟨g, 0, none⟩) xs.length xs.length) xs.length (treesC (pairsF xs i ++ List.replicate (xs.length - i) (0, 0)))) ∧ Hid (Kept [] w0 wr)
def OutI (w0 : World) (xs : List Int) (g go : Nat) (l : List (Int × Int)) (m : Nat) (v : Value) (wr : World) : Prop :=
  ∃ i : Nat, m = xs.length - i ∧ i ≤ xs.length ∧ v = .int .i64 (i : Nat) ∧ Hid (Sees wr 2 (some ⟨g, 0, none⟩) xs.length (treesC l)) ∧ Hid (Row wr 3 (.slice (some ⟨go, 0, none⟩) xs.length xs.length) (natVals (outF (ownN xs) i))) ∧ Hid (Kept [] w0 wr)
set_option maxHeartbeats 1000000 in
theorem wflat_good (a : Option Addr) (c : Nat) (xs : List Int) (w : World) (h : Sees w 1 a xs.length (intVals xs)) (hm : mayL xs = true) :
    Calls Try.prog 76 #[.slice a xs.length c] w (NatsPost (K.flatL (ownN xs), 0) w) := by
  obtain ⟨hx2, hx258, hall⟩ := mayL_get hm
  have M := wmay_any a c xs w h (by omega)
  rw [hm] at M
  have HS := Lib.hid h
  have HALL := Lib.hid hall
  obtain ⟨b, off, rfl, -⟩ := h.at (by rw [intVals_length]; omega)
  clear h hm hall
  go_enter Try.func76, Try.ntmps76
  go_wp2_with fail
  refine M.mono ?_
  rintro e w' ⟨rfl, rfl⟩
  clear M
  go_wp2_with fail
  go_loopg [5] 8 (fun g v wr => ∃ k : Nat, g = 9 - k ∧ 1 ≤ k ∧ k ≤ 8 ∧ Hid (2 ^ k ≤ xs.length) ∧ v = .int .i64 (k : Nat) ∧ w = wr)
  case atStart => exact ⟨1, by omega, by omega, by omega, Lib.hid hx2, rfl, rfl⟩
  case round =>
    obtain ⟨k, hg, hk1, hk8, HP, rfl, rfl⟩ := hrel
    have Hg := Lib.hid hg
    clear hg
    obtain ⟨t, ht⟩ : ∃ t, k + 1 = t := ⟨_, rfl⟩
    have hsub : (k : Int) + 1 = (t : Int) := by omega
    have hpw : (2 : Int) ^ t = ((2 ^ t : Nat) : Int) := by norm_cast
    have hp512 : 2 ^ t ≤ 512 := by
      have := Nat.pow_le_pow_right (n := 2) (by omega) (show t ≤ 9 by omega)
      omega
    have HT := Lib.hid ht
    obtain ⟨p, hp⟩ : ∃ p, 2 ^ t = p := ⟨_, rfl⟩
    have HPP := Lib.hid hp
    rw [hp] at hpw hp512
    have ht9 : t ≤ 9 := by omega
    have ht0 : (0 : Int) ≤ (t : Int) := by omega
    clear ht hp
    by_cases hle : p ≤ xs.length
    · have hlei : (p : Int) ≤ (xs.length : Int) := by omega
      go_wp2_with fail
      go_roundg (9 - t)
      case measure => have := Hg.out; have := HT.out; omega
      case rel => exact ⟨t, rfl, by omega, by rw [← HPP.out] at hle; exact pow_big hle hx258, Lib.hid (by rw [HPP.out]; exact hle), by first | rfl | simp, rfl⟩
    · have hlei : ¬ (p : Int) ≤ (xs.length : Int) := by omega
      have HLOG := Lib.hid (show Nat.log2 xs.length = k from K.log2_is (by omega) HP.out (by rw [HT.out, HPP.out]; omega))
      have hpos : 0 < xs.length := by omega
      go_wp2_with ((at_make; refine wp_makeT rfl _ _ 127 rfl 129 Try.underlying127 Try.infoTree .i64 .i64 xs.length rfl rfl (by omega) ?_; intro w1 hrow1 hk1'))
      obtain ⟨g, hgoe⟩ : ∃ g, w.heap.size = g := ⟨_, rfl⟩
      have HGE := Lib.hid (show w.heap.size ≤ g by omega)
      rw [hgoe] at hrow1 ⊢
      have HROW := Lib.hid hrow1
      have HK1 := Lib.hid hk1'
      clear hrow1 hk1' hgoe Hg
      go_loopg [28] xs.length (fun m v wr => OrdI w xs g m v wr)
      case atStart => exact ⟨0, by omega, by omega, rfl, by simpa [pairsF] using HROW, HK1⟩
      case round =>
        clear HROW HK1
        obtain ⟨i, hg, hi, rfl, HR, HK⟩ := hrel
        have Hg := Lib.hid hg
        clear hg
        by_cases hlt : i < xs.length
        · have hli : (i : Int) < (xs.length : Int) := by omega
          obtain ⟨x, hx⟩ : ∃ x, xs[i]? = some x := ⟨_, List.getElem?_eq_getElem hlt⟩
          have c0 := (HS.out.kept0 HK.out).int hx
          obtain ⟨hx0, hx1⟩ := HALL.out x (List.mem_of_getElem? hx)
          have hz : (pairsF xs i ++ List.replicate (xs.length - i) (0, 0))[i]? = some (0, 0) := by
            rw [List.getElem?_append_right (by rw [pairsF_len]; exact Nat.le_refl _), pairsF_len, Nat.sub_self, List.getElem?_replicate, if_pos (by omega)]
          have d0 : wr.cell? ⟨g, i * 2, none⟩ = some (.int .i64 0) := HR.out.cellAt (treesC_get hz).1
          have d1 : wr.cell? ⟨g, i * 2 + 1, none⟩ = some (.int .i64 0) := HR.out.cellAt (treesC_get hz).2
          have f0 := HR.out.free (i * 2)
          have f1 := HR.out.free (i * 2 + 1)
          have HPS := Lib.hid (pairsF_set xs i x hx xs.length hlt)
          clear hx hz
          have HMX := Lib.hid (show clampI x = max x 1 by unfold clampI; rw [Int.max_def]; split <;> split <;> omega)
          go_wp2_with fail
          go_roundg (xs.length - (i + 1))
          case measure => have := Hg.out; omega
          case rel =>
            have h2 := (HR.out.put (i * 2) (.int .i64 (-clampI x))).put (i * 2 + 1) (.int .i64 (i : Int))
            rw [treesC_set _ i (-clampI x, (i : Int)), HPS.out] at h2
            have h3 := (HK.out.setCell (p := ⟨g, i * 2, none⟩) (.inr HGE.out) (.int .i64 (-clampI x))).setCell (p := ⟨g, i * 2 + 1, none⟩) (.inr HGE.out) (.int .i64 (i : Int))
            rw [HMX.out] at h2 h3
            exact ⟨i + 1, by omega, by omega, by simp, Lib.hid h2, Lib.hid h3⟩
        · obtain rfl : i = xs.length := by omega
          have hll : ¬ (xs.length : Int) < (xs.length : Int) := by omega
          have hrow := HR.out
          rw [Nat.sub_self, List.replicate_zero, List.append_nil] at hrow
          have hbd : ∀ t ∈ pairsF xs xs.length, TreeB t := by
            intro t ht
            obtain ⟨q, hq, rfl⟩ := List.mem_map.1 ht
            rw [List.mem_range] at hq
            have e := ownN_get (List.getElem?_eq_getElem hq)
            have h2 := HALL.out xs[q] (List.getElem_mem _)
            have h3 : clampI xs[q] ≤ 1073741824 := by unfold clampI; split <;> omega
            unfold TreeB
            simp only
            omega
          have HSORT := Lib.hid (sortT_any g xs.length xs.length (pairsF xs xs.length) wr hrow (pairsF_len _ _) (by omega) hbd)
          clear hrow hbd HR
          go_wp2_with fail
          refine HSORT.out.mono ?_
          rintro e w3 ⟨rfl, l, hperm, hpw, hsee, hk3⟩
          have HST := Lib.hid (sorted_of hperm hpw)
          have HSEE := Lib.hid hsee
          have HK3 := Lib.hid (HK.out.trans hk3 (by intro x hx; simp at hx; subst hx; exact .inr HGE.out))
          have hgw3 : g < w3.heap.size := hsee.lt (by have := hsee.1; omega) g (by simp [footA])
          clear hperm hpw hsee hk3 HSORT HK
          go_wp2_with ((at_make; refine wp_make1 rfl _ _ 30 rfl 3 (.int .i64 0) 8 Try.underlying30 Try.infoInt rfl .i64 .i64 _ _ xs.length xs.length rfl rfl rfl rfl (Nat.le_refl _) (by omega) (by simp only [maxLen]; omega) ?_; intro w7 hrow7 hk7))
          rw [show List.replicate xs.length (Value.int .i64 0) = natVals (outF (ownN xs) 0) by rw [outF_zero, ownN_length]; simp [natVals]] at hrow7
          obtain ⟨go, hgo⟩ : ∃ go, w3.heap.size = go := ⟨_, rfl⟩
          have HGO := Lib.hid (show w.heap.size ≤ go ∧ g ≠ go from ⟨by have := HK3.out.size; omega, by omega⟩)
          rw [hgo] at hrow7 ⊢
          have HROW := Lib.hid hrow7
          have HSE := Lib.hid (HSEE.out.kept0 hk7)
          have HK7 := Lib.hid (HK3.out.trans hk7 (by simp))
          clear hrow7 hk7 hgo HSEE HK3 Hg hgw3
          go_loopg [48] xs.length (fun m v wr => OutI w xs g go l m v wr)
          case atStart => exact ⟨0, by omega, by omega, rfl, HSE, HROW, HK7⟩
          case round =>
            clear HROW HSE HK7
            obtain ⟨i, hg, hi, rfl, HSE, HR, HK⟩ := hrel
            have Hg := Lib.hid hg
            clear hg
            by_cases hlt : i < xs.length
            · have hli : (i : Int) < (xs.length : Int) := by omega
              obtain ⟨tr, htr⟩ : ∃ t, l[i]? = some t := ⟨_, List.getElem?_eq_getElem (by rw [HST.out.len, ownN_length]; exact hlt)⟩
              obtain ⟨q, e1, hq, hfq⟩ := HST.out.at_ i tr htr
              rw [ownN_length] at hq
              obtain ⟨d0, d1⟩ := HSE.out.tree htr
              rw [Nat.zero_add] at d0 d1
              rw [e1] at d1
              obtain ⟨wt, hwt⟩ : ∃ v, tr.1 = v := ⟨_, rfl⟩
              rw [hwt] at d0
              have hqi : (q : Int) < (xs.length : Int) := by omega
              have HSET := Lib.hid (fun v (hv : K.flatAt xs.length i = v) => show (outF (ownN xs) i).set q v = outF (ownN xs) (i + 1) by
                have := outF_set HST.out htr e1
                rw [ownN_length, hv] at this
                exact this)
              have hflat : K.flatAt xs.length i = k + if p - xs.length ≤ i then 1 else 0 := by
                unfold K.flatAt
                rw [HLOG.out, HT.out, HPP.out]
              have HFLAT := Lib.hid hflat
              obtain ⟨z, hz⟩ : ∃ z, (outF (ownN xs) i)[q]? = some z := ⟨_, List.getElem?_eq_getElem (by rw [outF_len, ownN_length]; exact hq)⟩
              have c0 := HR.out.cellAt (natVals_get hz)
              have f0 := HR.out.free q
              have hgow : go < wr.heap.size := HR.out.lt go (by simp [foot, Value.ownBlock])
              have HZL := Lib.hid (List.getElem?_eq_some_iff.1 hz).1
              have c1 := (HR.out.put q (.int .i64 (k : Int))).cellAt (j := q) (u := .int .i64 (k : Int)) (by rw [List.getElem?_set_self (by rw [natVals_length]; exact HZL.out)])
              have f1 := (HR.out.put q (.int .i64 (k : Int))).free q
              clear htr e1 hfq hwt hflat hz
              by_cases hge : p - xs.length ≤ i
              · have hgei : (p : Int) - (xs.length : Int) ≤ (i : Int) := by omega
                go_wp2_with fail
                go_roundg (xs.length - (i + 1))
                case measure => have := Hg.out; omega
                case rel =>
                  have hk : Kept [go] wr (((wr.setCell ⟨go, q, none⟩ (.int .i64 (k : Int))).setCell ⟨go, q, none⟩ (.int .i64 (t : Int))).alloc (.cells #[.int .i64 wt, .int .i64 (q : Int)] 129)) :=
                    (((Kept.refl [go] wr).setCell (p := ⟨go, q, none⟩) (by simp) _).setCell (p := ⟨go, q, none⟩) (by simp) _).alloc _
                  have h1 := ((HR.out.put q (.int .i64 (k : Int))).put q (.int .i64 (t : Int))).alloc (.cells #[.int .i64 wt, .int .i64 (q : Int)] 129)
                  rw [List.set_set, ← natVals_set, HSET.out t (by rw [HFLAT.out, if_pos hge]; exact HT.out)] at h1
                  exact ⟨i + 1, by omega, by omega, by simp, Lib.hid (HSE.out.kept hk (by intro x hx hm; simp [footA] at hx hm; subst hx; exact HGO.out.2 hm)), Lib.hid h1, Lib.hid (HK.out.trans hk (by intro x hx; simp at hx; subst hx; exact .inr HGO.out.1))⟩
              · have hgei : ¬ (p : Int) - (xs.length : Int) ≤ (i : Int) := by omega
                go_wp2_with fail
                go_roundg (xs.length - (i + 1))
                case measure => have := Hg.out; omega
                case rel =>
                  have hk : Kept [go] wr ((wr.setCell ⟨go, q, none⟩ (.int .i64 (k : Int))).alloc (.cells #[.int .i64 wt, .int .i64 (q : Int)] 129)) :=
                    ((Kept.refl [go] wr).setCell (p := ⟨go, q, none⟩) (by simp) _).alloc _
                  have h1 := (HR.out.put q (.int .i64 (k : Int))).alloc (.cells #[.int .i64 wt, .int .i64 (q : Int)] 129)
                  rw [← natVals_set, HSET.out k (by rw [HFLAT.out, if_neg hge]; rfl)] at h1
                  exact ⟨i + 1, by omega, by omega, by simp, Lib.hid (HSE.out.kept hk (by intro x hx hm; simp [footA] at hx hm; subst hx; exact HGO.out.2 hm)), Lib.hid h1, Lib.hid (HK.out.trans hk (by intro x hx; simp at hx; subst hx; exact .inr HGO.out.1))⟩
            · obtain rfl : i = xs.length := by omega
              have hll : ¬ (xs.length : Int) < (xs.length : Int) := by omega
              have HFL := Lib.hid (show (K.flatL (ownN xs)).length = xs.length by rw [K.flatL_length, ownN_length])
              have HEQ := Lib.hid (show outF (ownN xs) xs.length = K.flatL (ownN xs) by
                have := outF_all (ownN xs)
                rwa [ownN_length] at this)
              go_wp2_with fail
              go_ret2
              have h := HR.out
              rw [HEQ.out, ← HFL.out] at h
              exact ⟨some ⟨go, 0, none⟩, _, by rw [HFL.out]; rfl, h, HK.out, by intro x hx; simp [footA] at hx; subst hx; exact HGO.out.1⟩
end Go.Proofs.Ytdaenajhgbagdaa
namespace Go.Proofs.Ytdaenajhgbagdaa
open Go.RowKit
set_option linter.unusedVariables false
set_option linter.unusedSimpArgs false

/-- What Make answers. -/
def MakeAns (xs : List Int) (most : Int) (p : List Nat × Nat) : Prop :=
  ((mayL xs && mostOk most) = false ∧ p = ([], 2)) ∨ ((mayL xs && mostOk most) = true ∧ p.2 = 0 ∧ ∃ n, n ≤ 39 ∧ K.MadeN most.toNat n (ownN xs) p.1)
theorem make_ans (xs : List Int) (most : Int) : ∃ p, MakeAns xs most p := by
  cases h : (mayL xs && mostOk most) with
  | false => exact ⟨_, .inl ⟨h, rfl⟩⟩
  | true =>
    rw [Bool.and_eq_true] at h
    obtain ⟨h1, h2⟩ := h
    unfold mostOk at h2
    rw [decide_eq_true_eq] at h2
    obtain ⟨h3, h4, h5⟩ := mayL_get h1
    obtain ⟨n, ls, hn, hm⟩ := K.made_any most.toNat (by omega) 30 (ownN xs) (fun x hx => (ownN_bd h1 x hx).1) (by rw [ownN_length]; omega) (by rw [ownN_length]; omega) (fun x hx => by
      have := (ownN_bd h1 x hx).2
      omega)
    exact ⟨(ls, 0), .inr ⟨by rw [h1]; unfold mostOk; simp; omega, rfl, n, by omega, hm⟩⟩
theorem wmake_any (a : Option Addr) (c : Nat) (xs : List Int) (most : Int) (p : List Nat × Nat) (w : World) (h : Sees w 1 a xs.length (intVals xs)) (hl : xs.length ≤ 17592186043904) (hp : MakeAns xs most p) :
    Calls Try.prog 69 #[.slice a xs.length c, .int .i64 most] w (NatsPost p w) := by
  rcases hp with ⟨h1, rfl⟩ | ⟨h1, h2, n, h3, h4⟩
  · exact wmake_bad a c xs most w h hl h1
  · obtain ⟨ls, er⟩ := p
    simp only at h2 h4
    subst h2
    rw [Bool.and_eq_true] at h1
    obtain ⟨h5, h6⟩ := h1
    unfold mostOk at h6
    rw [decide_eq_true_eq] at h6
    have := wmake_good a c xs most.toNat n ls w h h5 (by omega) (by omega) h4
    rwa [show ((most.toNat : Nat) : Int) = most by omega] at this
theorem rmake_any (a : Option Addr) (c : Nat) (xs : List Int) (most : Int) (p : List Nat × Nat) (w : World) (h : Sees w 1 a xs.length (intVals xs)) (hl : xs.length ≤ 17592186043904) (hao : a = none → c = 0) (hp : MakeAns xs most p) :
    Calls Try.prog 74 #[.slice a xs.length c, .int .i64 most] w (NatsPost p w) := by
  rcases hp with ⟨h1, rfl⟩ | ⟨h1, h2, n, h3, h4⟩
  · exact rmake_bad a c xs most w h hl h1
  · obtain ⟨ls, er⟩ := p
    simp only at h2 h4
    subst h2
    rw [Bool.and_eq_true] at h1
    obtain ⟨h5, h6⟩ := h1
    unfold mostOk at h6
    rw [decide_eq_true_eq] at h6
    have := rmake_good a c xs most.toNat n ls w h hao h5 (by omega) (by omega) h3 h4
    rwa [show ((most.toNat : Nat) : Int) = most by omega] at this
/-- What is made: so many, none above the most, no room left. -/
theorem MakeAns.ok {xs : List Int} {most : Int} {p : List Nat × Nat} (h : MakeAns xs most p) (h0 : p.2 = 0) : mayL xs = true ∧ p.1.length = xs.length ∧ (∀ x ∈ p.1, 1 ≤ x ∧ (x : Int) ≤ most ∧ x ≤ 20) ∧ fullL (p.1.map fun n : Nat => (n : Int)) = true := by
  rcases h with ⟨h1, rfl⟩ | ⟨h1, h2, n, h3, h4⟩
  · simp at h0
  · rw [Bool.and_eq_true] at h1
    obtain ⟨h5, h6⟩ := h1
    unfold mostOk at h6
    rw [decide_eq_true_eq] at h6
    obtain ⟨k1, k2, k3⟩ := K.madeN_ok h4
    rw [ownN_length] at k1
    obtain ⟨m1, m2, m3⟩ := mayL_get h5
    have k4 := k3 20 (by omega)
    have k5 := K.made_pos (by omega) k4
    refine ⟨h5, k1, fun x hx => ⟨k5 x hx, by have := k2 x hx; omega, by have := k2 x hx; omega⟩, ?_⟩
    unfold fullL sumR
    have e1 : K.natsOf (p.1.map fun n : Nat => (n : Int)) = p.1 := by
      simp only [K.natsOf, List.map_map]
      conv => rhs; rw [← List.map_id p.1]
      apply List.map_congr_left
      intro x _
      simp
    have e2 : K.lensOk (p.1.map fun n : Nat => (n : Int)) = true := by
      unfold K.lensOk
      rw [Bool.and_eq_true, List.all_eq_true, List.length_map]
      refine ⟨by simp; omega, fun y hy => ?_⟩
      obtain ⟨x, hx, rfl⟩ := List.mem_map.1 hy
      have a := k5 x hx
      have b := k2 x hx
      rw [decide_eq_true_eq]
      omega
    rw [e2, if_pos rfl, e1, decide_eq_true_eq]
    have e3 : K.room p.1 = (p.1.map fun x => 2 ^ (20 - x)).sum := rfl
    rw [e3, k4]

/-- What Flat answers. -/
def flatR (xs : List Int) : List Nat × Nat := if mayL xs then (K.flatL (ownN xs), 0) else ([], 2)
theorem wflat_any (a : Option Addr) (c : Nat) (xs : List Int) (w : World) (h : Sees w 1 a xs.length (intVals xs)) (hl : xs.length ≤ 17592186043904) :
    Calls Try.prog 76 #[.slice a xs.length c] w (NatsPost (flatR xs) w) := by
  unfold flatR
  cases hm : mayL xs with
  | false => exact wflat_bad a c xs w h hl hm
  | true => exact wflat_good a c xs w h hm
theorem rflat_any (a : Option Addr) (c : Nat) (xs : List Int) (w : World) (h : Sees w 1 a xs.length (intVals xs)) (hl : xs.length ≤ 17592186043904) :
    Calls Try.prog 77 #[.slice a xs.length c] w (NatsPost (flatR xs) w) := by
  unfold flatR
  cases hm : mayL xs with
  | false => exact rflat_bad a c xs w h hl hm
  | true => exact rflat_good a c xs w h hm

namespace K
theorem over_5111 : (hrun [5, 1, 1, 1] 3).2 = [6, 4, 4, 5, 5, 6, 0] := by decide +kernel
theorem told_5111 : Told [5, 1, 1, 1] [1, 3, 3, 2] := by
  obtain ⟨ls, h⟩ := hrun_lens [5, 1, 1, 1] (by decide) (by decide)
  have h' : LensOf [5, 1, 1, 1] ls [6, 4, 4, 5, 5, 6, 0] := by rw [← over_5111]; exact h
  have e : ls = [1, 3, 3, 2] := by
    have hl := h'.len
    have u0 : Up [6, 4, 4, 5, 5, 6, 0] 0 1 6 := .step rfl (by decide) (.here 6)
    have u3 : Up [6, 4, 4, 5, 5, 6, 0] 3 2 6 := .step rfl (by decide) (.step rfl (by decide) (.here 6))
    have u1 : Up [6, 4, 4, 5, 5, 6, 0] 1 3 6 := .step rfl (by decide) (.step rfl (by decide) (.step rfl (by decide) (.here 6)))
    have u2 : Up [6, 4, 4, 5, 5, 6, 0] 2 3 6 := .step rfl (by decide) (.step rfl (by decide) (.step rfl (by decide) (.here 6)))
    obtain ⟨r0, v0, z0⟩ := h'.up 0 (by decide)
    obtain ⟨r1, v1, z1⟩ := h'.up 1 (by decide)
    obtain ⟨r2, v2, z2⟩ := h'.up 2 (by decide)
    obtain ⟨r3, v3, z3⟩ := h'.up 3 (by decide)
    have e0 := (v0.one z0 u0 (by decide)).1
    have e1 := (v1.one z1 u1 (by decide)).1
    have e2 := (v2.one z2 u2 (by decide)).1
    have e3 := (v3.one z3 u3 (by decide)).1
    match ls, hl with
    | [a, b, c, d], _ =>
      simp at e0 e1 e2 e3
      rw [e0, e1, e2, e3]
  rw [← e]
  exact h
end K
theorem ans_5111 : MakeAns [5, 1, 1, 1] 17 ([1, 3, 3, 2], 0) :=
  .inr ⟨by decide, rfl, 0, by decide, K.told_5111, by decide⟩
theorem flat_191 : flatR [1, 9, 1] = ([2, 1, 2], 0) := by decide +kernel
theorem cost_31 : costN [3, 1] [1, 2] = 5 ∧ costE [3, 1] [1, 2] = 0 := by decide +kernel
theorem check_111 : checkR [1, 1, 1] = 80 := by decide +kernel
theorem full_11 : fullL [1, 1] = true := by decide +kernel
end Go.Proofs.Ytdaenajhgbagdaa
