/-
  Of the sort's functions at rotate's compare: the walks of partialInsertionSort.
-/
import Derived.Test.YtaeppgooenbfiaaRotS2
import Derived.Deep.CutRange
import Derived.Deep.CutBlock
namespace Go.Proofs.Ytaeppgooenbfiaa
open Go.RowKit Go.Sort
set_option linter.unusedVariables false
set_option linter.unusedSimpArgs false

/-- What partialInsertionSort leaves. -/
def PiPost (w0 : World) (g c n : Nat) (R : Array Nat × Bool) (e : Ending) (w' : World) : Prop := e = .returned (.bool R.2) ∧ SortW w0 g c n R.1 w'
theorem ss_go {lt : Nat → Nat → Bool} {d : Array Nat} {b i im : Nat} (h : i < b) (him : im + 1 = i) (hp : lt d[i]! d[im]! = false) : scanSorted lt d b i = scanSorted lt d b (i + 1) := by
  subst him
  rw [scanSorted, if_pos (by rw [Nat.add_sub_cancel, hp]; simp; omega)]
theorem ss_stop {lt : Nat → Nat → Bool} {d : Array Nat} {b i im : Nat} (him : im + 1 = i) (h : i < b → lt d[i]! d[im]! = true) : scanSorted lt d b i = i := by
  subst him
  rw [scanSorted, if_neg]
  intro hc
  simp only [Bool.and_eq_true, decide_eq_true_eq, Nat.add_sub_cancel] at hc
  rw [h hc.1] at hc
  exact absurd hc.2 (by decide)
theorem sdn_go {lt : Nat → Nat → Bool} {d : Array Nat} {j jm : Nat} (hj : jm + 1 = j) (hp : lt d[j]! d[jm]! = true) : shiftDown lt j d = shiftDown lt jm (swp d j jm) := by
  subst hj
  rw [shiftDown, if_neg (by rw [hp]; decide)]
theorem sdn_stop {lt : Nat → Nat → Bool} {d : Array Nat} {j jm : Nat} (hj : jm + 1 = j) (hp : lt d[j]! d[jm]! = false) : shiftDown lt j d = d := by
  subst hj
  rw [shiftDown, if_pos (by rw [hp]; rfl)]
theorem sup_go {lt : Nat → Nat → Bool} {d : Array Nat} {b j jm : Nat} (hj : jm + 1 = j) (h : j < b) (hp : lt d[j]! d[jm]! = true) : shiftUp lt b j d = shiftUp lt b (j + 1) (swp d j jm) := by
  subst hj
  rw [shiftUp, if_pos h, Nat.add_sub_cancel, if_neg (by rw [hp]; decide)]
theorem sup_stop {lt : Nat → Nat → Bool} {d : Array Nat} {b j jm : Nat} (hj : jm + 1 = j) (hp : j < b → lt d[j]! d[jm]! = false) : shiftUp lt b j d = d := by
  subst hj
  rw [shiftUp]
  by_cases h : jm + 1 < b
  · rw [if_pos h, Nat.add_sub_cancel, if_pos (by rw [hp h]; rfl)]
  · rw [if_neg h]

set_option maxRecDepth 100000 in
set_option maxHeartbeats 16000000 in
theorem pins_ok (w0 : World) (g c n rb ro rc by_ : Nat) (rank : List Nat) (d : Array Nat) (a b : Nat) (w : World) (hC : CmpW w0 g rb ro n by_ rank) (hW : SortW w0 g c n d w) (hab : a + 12 < b) (hb : b ≤ n) :
    Calls Try.prog 47 #[.slice (some ⟨g, 0, none⟩) n c, .int .i64 a, .int .i64 b, cmpV (some ⟨rb, ro, none⟩) n rc by_] w (PiPost w0 g c n (partialInsertionSort (ltR n rank by_) d a b)) := by
  have hn9 := hC.n9
  have HC := Lib.hid hC
  have HW := Lib.hid hW
  obtain ⟨R, hR⟩ : ∃ R, partialIns (ltR n rank by_) a b 5 (a + 1) d = R := ⟨_, rfl⟩
  rw [show partialInsertionSort (ltR n rank by_) d a b = R from hR]
  have HR := Lib.hid hR
  obtain ⟨l, hl⟩ : ∃ l, b - a = l := ⟨_, rfl⟩
  have el : (b : Int) - (a : Int) = (l : Int) := by omega
  have hal : a + l = b := by omega
  clear hC hW hR hl
  unfold cmpV
  go_enter Try.func47, Try.ntmps47
  go_wp2_with fail
  go_loopg [9, 10] 5 (fun k v u wr => ∃ (i t : Nat) (dk : Array Nat), v = .int .i64 (i : Nat) ∧ u = .int .i64 (t : Nat) ∧ a < i ∧ i ≤ b ∧ t ≤ 5 ∧ k = 5 - t ∧ Hid (SortW w0 g c n dk wr) ∧ Hid (partialIns (ltR n rank by_) a b (5 - t) i dk = R))
  case atStart => exact ⟨a + 1, 0, d, by go_num, rfl, by omega, by omega, by omega, rfl, HW, HR⟩
  case round =>
    obtain ⟨i0, t, dk, rfl, rfl, hai, hib, ht5, hk, HS, HR⟩ := hrel
    have Hk0 := Lib.hid hk
    clear hk HW
    by_cases ht : t < 5
    · have hti : (t : Int) < 5 := by omega
      have hps := HR.out
      obtain ⟨s, hs⟩ : ∃ s, 5 - t = s + 1 := ⟨4 - t, by omega⟩
      rw [hs, partialIns_succ] at hps
      have hs2 : 5 - (t + 1) = s := by omega
      have HS2 := Lib.hid hs2
      have HPS := Lib.hid hps
      clear hs hps HR hs2
      go_upto_block 2 with fail
      go_cut [9] (fun v wc => ∃ i : Nat, v = .int .i64 (i : Nat) ∧ i0 ≤ i ∧ i ≤ b ∧ Hid (SortW w0 g c n dk wc) ∧ Hid (scanSorted (ltR n rank by_) dk b i0 = i))
      case first =>
        go_wp2_with fail
        go_loopg [9] (b - i0) (fun k v wr => ∃ i : Nat, v = .int .i64 (i : Nat) ∧ i0 ≤ i ∧ i ≤ b ∧ k = b - i ∧ Hid (SortW w0 g c n dk wr) ∧ Hid (scanSorted (ltR n rank by_) dk b i0 = scanSorted (ltR n rank by_) dk b i))
        case atStart => exact ⟨i0, rfl, Nat.le_refl _, by omega, by omega, HS, Lib.hid rfl⟩
        case round =>
          obtain ⟨i, rfl, hii, hib, hk, HS9, HI⟩ := hrel
          have Hk := Lib.hid hk
          clear hk HS
          obtain ⟨im, him⟩ : ∃ im, im + 1 = i := ⟨i - 1, by omega⟩
          have eim : (i : Int) - 1 = (im : Int) := by omega
          have wim : IntKind.i64.wrap (im : Int) = (im : Int) := IntWalk.i64_in _ (by omega)
          by_cases hle : i < b
          · have hlei : (i : Int) < (b : Int) := by omega
            have hin : (i : Int) < (n : Int) := by omega
            have himn : (im : Int) < (n : Int) := by omega
            obtain ⟨x1, y1, r1, ca1, cb1, hlr1, hcall1⟩ := HC.out.test HS9.out rc i im (by omega) (by omega)
            have HCALL1 := Lib.hid hcall1
            have HSW1 := HS9
            clear hcall1
            by_cases hneg1 : r1 < 0
            · have hdr1 : decide (r1 < 0) = true := decide_eq_true hneg1
              have HLT1 := Lib.hid (hlr1.trans hdr1)
              clear hlr1 hneg1
              go_wp2_with fail
              go_region_held3 (fun w' => Kept [] wr w' ∧ w'.cell? ⟨g, i, none⟩ = some (.int .i64 (x1 : Int)) ∧ w'.cell? ⟨g, im, none⟩ = some (.int .i64 (y1 : Int)))
                (first | exact ⟨Kept.refl _ _, ca1, cb1⟩ | exact ⟨(Kept.refl _ _).drew, ca1, cb1⟩ | exact ⟨hk1, hk1.cellOf ca1 (by simp), hk1.cellOf cb1 (by simp)⟩)
                (first | (go_at_call 32; refine (HCALL1.out _ (Kept.refl [] wr).drew).mono ?_; rintro e w1 ⟨rfl, hk1⟩))
              have HS1 := Lib.hid (HSW1.out.kept0 hk1)
              rename_i hS1
              clear hS1 hk1 ca1 cb1 HCALL1 HSW1
              go_wp2_with fail
              have hst := ss_stop (lt := ltR n rank by_) (d := dk) (b := b) (i := i) (im := im) him (fun _ => HLT1.out)
              have HST := Lib.hid (HI.out.trans hst)
              clear hst
              go_meet
              exact ⟨i, rfl, by omega, by omega, HS1, HST⟩
            · have hdr1 : decide (r1 < 0) = false := decide_eq_false hneg1
              have HLT1 := Lib.hid (hlr1.trans hdr1)
              clear hlr1 hneg1
              go_wp2_with fail
              go_region_held3 (fun w' => Kept [] wr w' ∧ w'.cell? ⟨g, i, none⟩ = some (.int .i64 (x1 : Int)) ∧ w'.cell? ⟨g, im, none⟩ = some (.int .i64 (y1 : Int)))
                (first | exact ⟨Kept.refl _ _, ca1, cb1⟩ | exact ⟨(Kept.refl _ _).drew, ca1, cb1⟩ | exact ⟨hk1, hk1.cellOf ca1 (by simp), hk1.cellOf cb1 (by simp)⟩)
                (first | (go_at_call 32; refine (HCALL1.out _ (Kept.refl [] wr).drew).mono ?_; rintro e w1 ⟨rfl, hk1⟩))
              have HS1 := Lib.hid (HSW1.out.kept0 hk1)
              rename_i hS1
              clear hS1 hk1 ca1 cb1 HCALL1 HSW1
              go_wp2_with fail
              have hgo := ss_go (lt := ltR n rank by_) (d := dk) (b := b) (i := i) (im := im) hle him HLT1.out
              have HG := Lib.hid (HI.out.trans hgo)
              clear hgo
              go_roundg (b - (i + 1))
              case measure => have := Hk.out; omega
              case rel => exact ⟨i + 1, by go_num, by omega, by omega, rfl, HS1, HG⟩
          · have hlei : ¬ (i : Int) < (b : Int) := by omega
            go_wp2_with fail
            go_quiet (fail)
            go_wp2_with fail
            have hst := ss_stop (lt := ltR n rank by_) (d := dk) (b := b) (i := i) (im := im) him (fun h => absurd h hle)
            have HST := Lib.hid (HI.out.trans hst)
            clear hst
            go_meet
            exact ⟨i, rfl, by omega, by omega, Lib.hid (HS9.out.kept0 ((Kept.refl _ _).drewN _)), HST⟩
      case rest =>
        obtain ⟨i, rfl, hi1, hi2, HS1, HI⟩ := hcut
        have hps := HPS.out
        rw [HI.out] at hps
        have HPS2 := Lib.hid hps
        clear HS hps HPS HI
        by_cases hib2 : i = b
        · have hfin := HPS2.out
          rw [if_pos hib2] at hfin
          have HF := Lib.hid hfin
          subst hib2
          clear hfin
          go_wp2_with fail
          go_ret
          exact ⟨by rw [← HF.out]; rfl, by rw [← HF.out]; exact HS1.out⟩
        · have hibb : ((i : Int) == (b : Int)) = false := beq_eq_false_iff_ne.2 (by omega)
          by_cases h50 : l < 50
          · have h50i : decide ((l : Int) < 50) = true := by simp; omega
            have hfin := HPS2.out
            rw [if_neg hib2, if_pos (by omega)] at hfin
            have HF := Lib.hid hfin
            clear hfin hib2
            go_wp2_with fail
            go_ret
            exact ⟨by rw [← HF.out]; rfl, by rw [← HF.out]; exact HS1.out⟩
          · have h50i : decide ((l : Int) < 50) = false := by simp; omega
            have hfin := HPS2.out
            rw [if_neg hib2, if_neg (by omega)] at hfin
            obtain ⟨im, him⟩ : ∃ im, im + 1 = i := ⟨i - 1, by omega⟩
            have him2 : i - 1 = im := by omega
            rw [him2] at hfin
            have hib3 : i < b := by omega
            have eim : (i : Int) - 1 = (im : Int) := by omega
            have wim : IntKind.i64.wrap (im : Int) = (im : Int) := IntWalk.i64_in _ (by omega)
            have hin : (i : Int) < (n : Int) := by omega
            have himn : (im : Int) < (n : Int) := by omega
            obtain ⟨D1, hD1⟩ : ∃ D1, swp dk i im = D1 := ⟨_, rfl⟩
            obtain ⟨D2, hD2⟩ : ∃ D2, fixDown (ltR n rank by_) a i D1 = D2 := ⟨_, rfl⟩
            obtain ⟨D3, hD3⟩ : ∃ D3, fixUp (ltR n rank by_) b i D2 = D3 := ⟨_, rfl⟩
            rw [hD1, hD2, hD3] at hfin
            have HF := Lib.hid hfin
            have HD1 := Lib.hid hD1
            have HD2 := Lib.hid hD2
            have HD3 := Lib.hid hD3
            have hii : ¬ i = im := by omega
            have hii2 : ¬ im = i := by omega
            clear hfin him2 hD1 hD2 hD3 HPS2 hib2
            go_upto_region 11 with (fail)
            go_cut [] (fun wc => Hid (SortW w0 g c n D1 wc))
            case first =>
              obtain ⟨u5, v5, da5, db5, fa5, fb5, H15, H25⟩ := HS1.out.exch i im (by omega) (by omega)
              go_wp2_with fail
              go_region
              all_goals
                go_wp2_with fail
                go_meet
                have HX := (by first | exact H15 | exact H25)
                rw [HD1.out] at HX
                exact HX
            case rest =>
              have HS4 := hcut
              clear HS1 hcut
              obtain ⟨ia, hia⟩ : ∃ ia, i - a = ia := ⟨_, rfl⟩
              have eia : (i : Int) - (a : Int) = (ia : Int) := by omega
              obtain ⟨bi, hbi⟩ : ∃ bi, b - i = bi := ⟨_, rfl⟩
              have ebi : (b : Int) - (i : Int) = (bi : Int) := by omega
              obtain ⟨i1, hi1e⟩ : ∃ i1, i + 1 = i1 := ⟨_, rfl⟩
              have ei1 : (i : Int) + 1 = (i1 : Int) := by omega
              have HIA := Lib.hid hia
              have HBI := Lib.hid hbi
              have HI1 := Lib.hid hi1e
              have hi1b : i < i1 ∧ i1 ≤ b := by omega
              clear hia hbi hi1e
              obtain ⟨bq, hbq⟩ : ∃ bq, decide ((2 : Int) ≤ (ia : Int)) = bq := ⟨_, rfl⟩
              go_upto_if 65 with (fail)
              go_cut [] (fun wc => Hid (SortW w0 g c n D2 wc))
              case first =>
                rcases Bool.eq_false_or_eq_true bq with hb | hb
                · subst hb
                  have h2 : 2 ≤ ia := by have := of_decide_eq_true hbq; omega
                  clear hbq
                  have hfd : D2 = shiftDown (ltR n rank by_) im D1 := by
                    have := HD2.out
                    unfold fixDown at this
                    rw [if_pos (by rw [HIA.out]; exact h2), show i - 1 = im by omega] at this
                    exact this.symm
                  have HFD := Lib.hid hfd
                  clear hfd
                  go_wp2_with fail
                  go_loopg [11] im (fun k v wr => ∃ (j : Nat) (dj : Array Nat), v = .int .i64 (j : Nat) ∧ j ≤ im ∧ k = j ∧ Hid (SortW w0 g c n dj wr) ∧ Hid (shiftDown (ltR n rank by_) im D1 = shiftDown (ltR n rank by_) j dj))
                  case atStart => exact ⟨im, D1, rfl, Nat.le_refl _, rfl, HS4, Lib.hid rfl⟩
                  case round =>
                    obtain ⟨j, dj, rfl, hjim, hk, HS9, HI⟩ := hrel
                    have Hk := Lib.hid hk
                    clear hk HS4
                    by_cases hj1 : 1 ≤ j
                    · have hj1i : (1 : Int) ≤ (j : Int) := by omega
                      obtain ⟨jm, hjm⟩ : ∃ jm, jm + 1 = j := ⟨j - 1, by omega⟩
                      have ejm : (j : Int) - 1 = (jm : Int) := by omega
                      have wjm : IntKind.i64.wrap (jm : Int) = (jm : Int) := IntWalk.i64_in _ (by omega)
                      have hjn : (j : Int) < (n : Int) := by omega
                      have hjmn : (jm : Int) < (n : Int) := by omega
                      obtain ⟨x1, y1, r1, ca1, cb1, hlr1, hcall1⟩ := HC.out.test HS9.out rc j jm (by omega) (by omega)
                      have HCALL1 := Lib.hid hcall1
                      have HSW1 := HS9
                      clear hcall1
                      by_cases hneg1 : r1 < 0
                      · have hdr1 : decide (r1 < 0) = true := decide_eq_true hneg1
                        have HLT1 := Lib.hid (hlr1.trans hdr1)
                        clear hlr1 hneg1
                        go_wp2_with fail
                        go_region_held3 (fun w' => Kept [] wr w' ∧ w'.cell? ⟨g, j, none⟩ = some (.int .i64 (x1 : Int)) ∧ w'.cell? ⟨g, jm, none⟩ = some (.int .i64 (y1 : Int)))
                          (first | exact ⟨Kept.refl _ _, ca1, cb1⟩ | exact ⟨(Kept.refl _ _).drew, ca1, cb1⟩ | exact ⟨hk1, hk1.cellOf ca1 (by simp), hk1.cellOf cb1 (by simp)⟩)
                          (first | (go_at_call 32; refine (HCALL1.out _ (Kept.refl [] wr).drew).mono ?_; rintro e w1 ⟨rfl, hk1⟩))
                        have HS1 := Lib.hid (HSW1.out.kept0 hk1)
                        rename_i hS1
                        clear hS1 hk1 ca1 cb1 HCALL1 HSW1
                        have hgo := sdn_go (lt := ltR n rank by_) (d := dj) hjm HLT1.out
                        have HG := Lib.hid (HI.out.trans hgo)
                        clear hgo
                        have hjj : ¬ j = jm := by omega
                        have hjj2 : ¬ jm = j := by omega
                        go_wp2_with fail
                        obtain ⟨u2, v2, da2, db2, fa2, fb2, H12, H22⟩ := HS1.out.exch j jm (by omega) (by omega)
                        go_wp2_with fail
                        go_region
                        all_goals
                          go_wp2_with fail
                          go_roundg jm
                          case measure => have := Hk.out; omega
                          case rel => exact ⟨jm, _, rfl, by omega, rfl, (by first | exact H12 | exact H22), HG⟩
                      · have hdr1 : decide (r1 < 0) = false := decide_eq_false hneg1
                        have HLT1 := Lib.hid (hlr1.trans hdr1)
                        clear hlr1 hneg1
                        go_wp2_with fail
                        go_region_held3 (fun w' => Kept [] wr w' ∧ w'.cell? ⟨g, j, none⟩ = some (.int .i64 (x1 : Int)) ∧ w'.cell? ⟨g, jm, none⟩ = some (.int .i64 (y1 : Int)))
                          (first | exact ⟨Kept.refl _ _, ca1, cb1⟩ | exact ⟨(Kept.refl _ _).drew, ca1, cb1⟩ | exact ⟨hk1, hk1.cellOf ca1 (by simp), hk1.cellOf cb1 (by simp)⟩)
                          (first | (go_at_call 32; refine (HCALL1.out _ (Kept.refl [] wr).drew).mono ?_; rintro e w1 ⟨rfl, hk1⟩))
                        have HS1 := Lib.hid (HSW1.out.kept0 hk1)
                        rename_i hS1
                        clear hS1 hk1 ca1 cb1 HCALL1 HSW1
                        go_wp2_with fail
                        have hst := sdn_stop (lt := ltR n rank by_) (d := dj) hjm HLT1.out
                        have HST := Lib.hid (HI.out.trans hst)
                        clear hst
                        go_meet
                        rw [HFD.out, HST.out]
                        exact HS1
                    · have hj1i : ¬ (1 : Int) ≤ (j : Int) := by omega
                      have hj0 : j = 0 := by omega
                      have HST := Lib.hid (show shiftDown (ltR n rank by_) im D1 = dj by rw [HI.out, hj0]; rfl)
                      clear hj0
                      go_wp2_with fail
                      go_meet
                      rw [HFD.out, HST.out]
                      exact HS9
                · subst hb
                  have h2 : ¬ 2 ≤ ia := by have := of_decide_eq_false hbq; omega
                  clear hbq
                  have hfd : D2 = D1 := by
                    have := HD2.out
                    unfold fixDown at this
                    rw [if_neg (by rw [HIA.out]; exact h2)] at this
                    exact this.symm
                  have HFD := Lib.hid hfd
                  clear hfd
                  go_wp2_with fail
                  go_meet
                  rw [HFD.out]
                  exact HS4
              case rest =>
                have HS5 := hcut
                clear HS4 hcut hbq
                by_cases h2 : 2 ≤ bi
                · have h2i : (2 : Int) ≤ (bi : Int) := by omega
                  have hfu : D3 = shiftUp (ltR n rank by_) b i1 D2 := by
                    have := HD3.out
                    unfold fixUp at this
                    rw [if_pos (by rw [HBI.out]; exact h2), HI1.out] at this
                    exact this.symm
                  have HFU := Lib.hid hfu
                  clear hfu
                  go_wp2_with fail
                  go_loopg [12] (b - i1) (fun k v wr => ∃ (j : Nat) (dj : Array Nat), v = .int .i64 (j : Nat) ∧ i < j ∧ j ≤ b ∧ k = b - j ∧ Hid (SortW w0 g c n dj wr) ∧ Hid (shiftUp (ltR n rank by_) b i1 D2 = shiftUp (ltR n rank by_) b j dj))
                  case atStart => exact ⟨i1, D2, rfl, by omega, by omega, rfl, HS5, Lib.hid rfl⟩
                  case round =>
                    obtain ⟨j, dj, rfl, hij, hjb, hk, HS9, HI⟩ := hrel
                    have Hk := Lib.hid hk
                    clear hk HS5
                    obtain ⟨jm, hjm⟩ : ∃ jm, jm + 1 = j := ⟨j - 1, by omega⟩
                    have ejm : (j : Int) - 1 = (jm : Int) := by omega
                    have wjm : IntKind.i64.wrap (jm : Int) = (jm : Int) := IntWalk.i64_in _ (by omega)
                    by_cases hj1 : j < b
                    · have hj1i : (j : Int) < (b : Int) := by omega
                      have hjn : (j : Int) < (n : Int) := by omega
                      have hjmn : (jm : Int) < (n : Int) := by omega
                      obtain ⟨x1, y1, r1, ca1, cb1, hlr1, hcall1⟩ := HC.out.test HS9.out rc j jm (by omega) (by omega)
                      have HCALL1 := Lib.hid hcall1
                      have HSW1 := HS9
                      clear hcall1
                      by_cases hneg1 : r1 < 0
                      · have hdr1 : decide (r1 < 0) = true := decide_eq_true hneg1
                        have HLT1 := Lib.hid (hlr1.trans hdr1)
                        clear hlr1 hneg1
                        go_wp2_with fail
                        go_region_held3 (fun w' => Kept [] wr w' ∧ w'.cell? ⟨g, j, none⟩ = some (.int .i64 (x1 : Int)) ∧ w'.cell? ⟨g, jm, none⟩ = some (.int .i64 (y1 : Int)))
                          (first | exact ⟨Kept.refl _ _, ca1, cb1⟩ | exact ⟨(Kept.refl _ _).drew, ca1, cb1⟩ | exact ⟨hk1, hk1.cellOf ca1 (by simp), hk1.cellOf cb1 (by simp)⟩)
                          (first | (go_at_call 32; refine (HCALL1.out _ (Kept.refl [] wr).drew).mono ?_; rintro e w1 ⟨rfl, hk1⟩))
                        have HS1 := Lib.hid (HSW1.out.kept0 hk1)
                        rename_i hS1
                        clear hS1 hk1 ca1 cb1 HCALL1 HSW1
                        have hgo := sup_go (lt := ltR n rank by_) (d := dj) hjm hj1 HLT1.out
                        have HG := Lib.hid (HI.out.trans hgo)
                        clear hgo
                        have hjj : ¬ j = jm := by omega
                        have hjj2 : ¬ jm = j := by omega
                        go_wp2_with fail
                        obtain ⟨u2, v2, da2, db2, fa2, fb2, H12, H22⟩ := HS1.out.exch j jm (by omega) (by omega)
                        go_wp2_with fail
                        go_region
                        all_goals
                          go_wp2_with fail
                          go_roundg (b - (j + 1))
                          case measure => have := Hk.out; omega
                          case rel => exact ⟨j + 1, _, by go_num, by omega, by omega, rfl, (by first | exact H12 | exact H22), HG⟩
                      · have hdr1 : decide (r1 < 0) = false := decide_eq_false hneg1
                        have HLT1 := Lib.hid (hlr1.trans hdr1)
                        clear hlr1 hneg1
                        go_wp2_with fail
                        go_region_held3 (fun w' => Kept [] wr w' ∧ w'.cell? ⟨g, j, none⟩ = some (.int .i64 (x1 : Int)) ∧ w'.cell? ⟨g, jm, none⟩ = some (.int .i64 (y1 : Int)))
                          (first | exact ⟨Kept.refl _ _, ca1, cb1⟩ | exact ⟨(Kept.refl _ _).drew, ca1, cb1⟩ | exact ⟨hk1, hk1.cellOf ca1 (by simp), hk1.cellOf cb1 (by simp)⟩)
                          (first | (go_at_call 32; refine (HCALL1.out _ (Kept.refl [] wr).drew).mono ?_; rintro e w1 ⟨rfl, hk1⟩))
                        have HS1 := Lib.hid (HSW1.out.kept0 hk1)
                        rename_i hS1
                        clear hS1 hk1 ca1 cb1 HCALL1 HSW1
                        go_wp2_with fail
                        have hst := sup_stop (lt := ltR n rank by_) (d := dj) (b := b) hjm (fun _ => HLT1.out)
                        have HST := Lib.hid (HI.out.trans hst)
                        clear hst
                        have HS6 := Lib.hid (show SortW w0 g c n D3 _ from by rw [HFU.out, HST.out]; exact HS1.out)
                        go_roundg (5 - (t + 1))
                        case measure => have := Hk0.out; omega
                        case rel => exact ⟨i, t + 1, D3, rfl, by go_num, by omega, by omega, by omega, rfl, HS6, Lib.hid (by rw [HS2.out]; exact HF.out)⟩
                    · have hj1i : ¬ (j : Int) < (b : Int) := by omega
                      have hst := sup_stop (lt := ltR n rank by_) (d := dj) (b := b) hjm (fun h => absurd h hj1)
                      have HST := Lib.hid (HI.out.trans hst)
                      clear hst
                      go_wp2_with fail
                      have HS6 := Lib.hid (show SortW w0 g c n D3 _ from by rw [HFU.out, HST.out]; exact HS9.out)
                      go_roundg (5 - (t + 1))
                      case measure => have := Hk0.out; omega
                      case rel => exact ⟨i, t + 1, D3, rfl, by go_num, by omega, by omega, by omega, rfl, HS6, Lib.hid (by rw [HS2.out]; exact HF.out)⟩
                · have h2i : ¬ (2 : Int) ≤ (bi : Int) := by omega
                  have hfu : D3 = D2 := by
                    have := HD3.out
                    unfold fixUp at this
                    rw [if_neg (by rw [HBI.out]; exact h2)] at this
                    exact this.symm
                  have HFU := Lib.hid hfu
                  clear hfu
                  go_wp2_with fail
                  have HS6 := Lib.hid (show SortW w0 g c n D3 _ from by rw [HFU.out]; exact HS5.out)
                  go_roundg (5 - (t + 1))
                  case measure => have := Hk0.out; omega
                  case rel => exact ⟨i, t + 1, D3, rfl, by go_num, by omega, by omega, by omega, rfl, HS6, Lib.hid (by rw [HS2.out]; exact HF.out)⟩
    · have hti : ¬ (t : Int) < 5 := by omega
      have hfin := HR.out
      rw [show 5 - t = 0 by omega] at hfin
      have HF := Lib.hid (show (dk, false) = R from hfin)
      clear hfin
      go_wp2_with fail
      go_ret
      exact ⟨by rw [← HF.out]; rfl, by rw [← HF.out]; exact HS.out⟩
end Go.Proofs.Ytaeppgooenbfiaa
