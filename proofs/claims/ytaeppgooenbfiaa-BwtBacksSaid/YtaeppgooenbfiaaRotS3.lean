/-
  Of the sort's functions at rotate's compare: the walks of siftDown and heapSort.
-/
import Derived.Test.YtaeppgooenbfiaaRotS2
namespace Go.Proofs.Ytaeppgooenbfiaa
open Go.RowKit Go.Sort
set_option linter.unusedVariables false
set_option linter.unusedSimpArgs false

theorem sd_stop {lt : Nat → Nat → Bool} {hi first root : Nat} {d : Array Nat} (h : hi ≤ 2 * root + 1) : siftDown lt hi first root d = d := by
  rw [siftDown, dif_pos h]
/-- The child that is taken. -/
def Child (lt : Nat → Nat → Bool) (hi first root : Nat) (d : Array Nat) (ch : Nat) : Prop :=
  (hi ≤ 2 * root + 2 ∧ ch = 2 * root + 1) ∨ (2 * root + 2 < hi ∧ lt d[first + (2 * root + 1)]! d[first + (2 * root + 2)]! = true ∧ ch = 2 * root + 2) ∨
    (2 * root + 2 < hi ∧ lt d[first + (2 * root + 1)]! d[first + (2 * root + 2)]! = false ∧ ch = 2 * root + 1)
theorem sd_no {lt : Nat → Nat → Bool} {hi first root : Nat} {d : Array Nat} {ch : Nat} (h : 2 * root + 1 < hi) (hc : Child lt hi first root d ch) (hl : lt d[first + root]! d[first + ch]! = false) : siftDown lt hi first root d = d := by
  rw [siftDown, dif_neg (by omega)]
  have e : first + (2 * root + 1) + 1 = first + (2 * root + 2) := by omega
  have e2 : 2 * root + 1 + 1 = 2 * root + 2 := by omega
  rw [e, e2]
  rcases hc with ⟨h1, rfl⟩ | ⟨h1, h2, rfl⟩ | ⟨h1, h2, rfl⟩
  · rw [if_neg (by simp; omega), if_pos (by rw [hl]; rfl)]
  · rw [if_pos (by rw [h2]; simp; omega), if_pos (by rw [hl]; rfl)]
  · rw [if_neg (by rw [h2]; simp), if_pos (by rw [hl]; rfl)]
theorem sd_yes {lt : Nat → Nat → Bool} {hi first root : Nat} {d : Array Nat} {ch : Nat} (h : 2 * root + 1 < hi) (hc : Child lt hi first root d ch) (hl : lt d[first + root]! d[first + ch]! = true) :
    siftDown lt hi first root d = siftDown lt hi first ch (swp d (first + root) (first + ch)) := by
  rw [siftDown, dif_neg (by omega)]
  have e : first + (2 * root + 1) + 1 = first + (2 * root + 2) := by omega
  have e2 : 2 * root + 1 + 1 = 2 * root + 2 := by omega
  rw [e, e2]
  rcases hc with ⟨h1, rfl⟩ | ⟨h1, h2, rfl⟩ | ⟨h1, h2, rfl⟩
  · rw [if_neg (by simp; omega), if_neg (by rw [hl]; decide)]
  · rw [if_pos (by rw [h2]; simp; omega), if_neg (by rw [hl]; decide), dif_pos (by omega)]
  · rw [if_neg (by rw [h2]; simp), if_neg (by rw [hl]; decide)]

set_option maxRecDepth 100000 in
set_option maxHeartbeats 8000000 in
theorem sift_ok (w0 : World) (g c n rb ro rc by_ : Nat) (rank : List Nat) (d : Array Nat) (lo hi first : Nat) (w : World) (hC : CmpW w0 g rb ro n by_ rank) (hW : SortW w0 g c n d w) (hlo : lo ≤ hi) (hb : first + hi ≤ n) :
    Calls Try.prog 52 #[.slice (some ⟨g, 0, none⟩) n c, .int .i64 lo, .int .i64 hi, .int .i64 first, cmpV (some ⟨rb, ro, none⟩) n rc by_] w fun e w' => e = .returned (.tuple #[]) ∧ SortW w0 g c n (siftDown (ltR n rank by_) hi first lo d) w' := by
  have hn9 := hC.n9
  have HC := Lib.hid hC
  have HW := Lib.hid hW
  obtain ⟨R, hR⟩ : ∃ R, siftDown (ltR n rank by_) hi first lo d = R := ⟨_, rfl⟩
  rw [hR]
  have HR := Lib.hid hR
  clear hC hW hR
  unfold cmpV
  go_enter Try.func52, Try.ntmps52
  go_wp2_with fail
  go_loopg [10] (hi - lo) (fun k v wr => ∃ (root : Nat) (dk : Array Nat), v = .int .i64 root ∧ root ≤ hi ∧ hi - root ≤ k ∧ k = hi - root ∧ Hid (SortW w0 g c n dk wr) ∧ Hid (siftDown (ltR n rank by_) hi first root dk = R))
  case atStart => exact ⟨lo, d, rfl, hlo, Nat.le_refl _, rfl, HW, HR⟩
  case round =>
    obtain ⟨root, dk, rfl, hr, -, hkk, HS, HR⟩ := hrel
    have Hk := Lib.hid hkk
    clear hkk HW
    obtain ⟨c1, hc1⟩ : ∃ c1, 2 * root + 1 = c1 := ⟨_, rfl⟩
    have e1 : 2 * (root : Int) + 1 = (c1 : Int) := by omega
    by_cases h0 : hi ≤ c1
    · have h0i : (hi : Int) ≤ (c1 : Int) := by omega
      have hfin := sd_stop (lt := ltR n rank by_) (first := first) (d := dk) (show hi ≤ 2 * root + 1 by omega)
      have HF := Lib.hid (hfin.symm.trans HR.out)
      clear hfin
      go_wp2_with fail
      go_end0
      exact ⟨rfl, by rw [← HF.out]; exact HS.out⟩
    · have h0i : ¬ (hi : Int) ≤ (c1 : Int) := by omega
      obtain ⟨pr, hpr⟩ : ∃ pr, first + root = pr := ⟨_, rfl⟩
      obtain ⟨p1, hp1⟩ : ∃ p1, first + c1 = p1 := ⟨_, rfl⟩
      obtain ⟨c2, hc2⟩ : ∃ c2, c1 + 1 = c2 := ⟨_, rfl⟩
      obtain ⟨p2, hp2⟩ : ∃ p2, first + c2 = p2 := ⟨_, rfl⟩
      have EPR := Lib.hid hpr
      have EP_c1 := Lib.hid hp1
      have EP_c2 := Lib.hid hp2
      have er : (first : Int) + (root : Int) = (pr : Int) := by omega
      have e2 : (c1 : Int) + 1 = (c2 : Int) := by omega
      have f1 : (first : Int) + (c1 : Int) = (p1 : Int) := by omega
      have f2 : (first : Int) + (c2 : Int) = (p2 : Int) := by omega
      have f3 : (p1 : Int) + 1 = (p2 : Int) := by omega
      have wr0 : IntKind.i64.wrap (pr : Int) = (pr : Int) := IntWalk.i64_in _ (by omega)
      have wr1 : IntKind.i64.wrap (p1 : Int) = (p1 : Int) := IntWalk.i64_in _ (by omega)
      have wr2 : IntKind.i64.wrap (p2 : Int) = (p2 : Int) := IntWalk.i64_in _ (by omega)
      have wr3 : IntKind.i64.wrap (c2 : Int) = (c2 : Int) := IntWalk.i64_in _ (by omega)
      have hprn : pr < n := by omega
      have hp1n : p1 < n := by omega
      have hpri : (pr : Int) < (n : Int) := by omega
      have hp1i : (p1 : Int) < (n : Int) := by omega
      have hc12 : c1 = 2 * root + 1 := by omega
      have HC12 := Lib.hid hc12
      have hc22 : c2 = 2 * root + 2 := by omega
      have HC22 := Lib.hid hc22
      have hroot1 : root < c1 ∧ c1 < c2 := by omega
      have hpr1 : ¬ pr = p1 := by omega
      have hpr1' : ¬ p1 = pr := by omega
      have hpr2 : ¬ pr = p2 := by omega
      have hpr2' : ¬ p2 = pr := by omega
      clear hc1 hpr hp1 hc2 hp2 hc12 hc22
      by_cases h2 : c2 < hi
      · have h2i : (c2 : Int) < (hi : Int) := by omega
        have hp2n : p2 < n := by have := EP_c2.out; omega
        have hp2i : (p2 : Int) < (n : Int) := by omega
        obtain ⟨x1, y1, r1, ca1, cb1, hlr1, hcall1⟩ := HC.out.test HS.out rc p1 p2 (by omega) (by omega)
        have HCALL1 := Lib.hid hcall1
        have HSW1 := HS
        clear hcall1
        by_cases hneg1 : r1 < 0
        · have hdr1 : decide (r1 < 0) = true := decide_eq_true hneg1
          have HLT1 := Lib.hid (hlr1.trans hdr1)
          clear hlr1 hneg1
          go_wp2_with fail
          go_region_held3 (fun w' => Kept [] wr w' ∧ w'.cell? ⟨g, p1, none⟩ = some (.int .i64 (x1 : Int)) ∧ w'.cell? ⟨g, p2, none⟩ = some (.int .i64 (y1 : Int)))
            (first | exact ⟨Kept.refl _ _, ca1, cb1⟩ | exact ⟨(Kept.refl _ _).drew, ca1, cb1⟩ | exact ⟨hk1, hk1.cellOf ca1 (by simp), hk1.cellOf cb1 (by simp)⟩)
            (first | (go_at_call 32; refine (HCALL1.out _ (Kept.refl [] wr).drew).mono ?_; rintro e w1 ⟨rfl, hk1⟩))
          have HS1 := Lib.hid (HSW1.out.kept0 hk1)
          rename_i hS1
          clear hS1 hk1 ca1 cb1 HCALL1 HSW1
          obtain ⟨x2, y2, r2, ca2, cb2, hlr2, hcall2⟩ := HC.out.test HS1.out rc pr p2 hprn (by omega)
          have HCALL2 := Lib.hid hcall2
          have HSW2 := HS1
          clear hcall2
          by_cases hneg2 : r2 < 0
          · have hdr2 : decide (r2 < 0) = true := decide_eq_true hneg2
            have HLT2 := Lib.hid (hlr2.trans hdr2)
            clear hlr2 hneg2
            go_wp2_with fail
            go_region_held3 (fun w' => Kept [] w1 w' ∧ w'.cell? ⟨g, pr, none⟩ = some (.int .i64 (x2 : Int)) ∧ w'.cell? ⟨g, p2, none⟩ = some (.int .i64 (y2 : Int)))
              (first | exact ⟨Kept.refl _ _, ca2, cb2⟩ | exact ⟨(Kept.refl _ _).drew, ca2, cb2⟩ | exact ⟨hk2, hk2.cellOf ca2 (by simp), hk2.cellOf cb2 (by simp)⟩)
              (first | (go_at_call 32; refine (HCALL2.out _ (Kept.refl [] w1).drew).mono ?_; rintro e w2 ⟨rfl, hk2⟩))
            have HS2 := Lib.hid (HSW2.out.kept0 hk2)
            rename_i hS2
            clear hS2 hk2 ca2 cb2 HCALL2 HSW2
            have hgo := sd_yes (lt := ltR n rank by_) (hi := hi) (first := first) (root := root) (d := dk) (ch := c2) (by omega) (by exact (.inr (.inl ⟨by have := HC22.out; omega, by have := HLT1.out; rwa [← EP_c1.out, ← EP_c2.out, HC12.out, HC22.out] at this, HC22.out⟩))) (by rw [EPR.out, EP_c2.out]; exact HLT2.out)
            rw [EPR.out, EP_c2.out] at hgo
            have HGO := Lib.hid hgo
            clear hgo
            obtain ⟨u3, v3, da3, db3, fa3, fb3, H13, H23⟩ := HS2.out.exch pr p2 hprn (by omega)
            go_wp2_with fail
            go_region
            all_goals
              go_wp2_with fail
              go_roundg (hi - c2)
              case measure => have := Hk.out; omega
              case rel => exact ⟨c2, swp dk pr p2, rfl, by omega, by omega, rfl, (by first | exact H13 | exact H23), Lib.hid (HGO.out.symm.trans HR.out)⟩
          · have hdr2 : decide (r2 < 0) = false := decide_eq_false hneg2
            have HLT2 := Lib.hid (hlr2.trans hdr2)
            clear hlr2 hneg2
            go_wp2_with fail
            go_region_held3 (fun w' => Kept [] w1 w' ∧ w'.cell? ⟨g, pr, none⟩ = some (.int .i64 (x2 : Int)) ∧ w'.cell? ⟨g, p2, none⟩ = some (.int .i64 (y2 : Int)))
              (first | exact ⟨Kept.refl _ _, ca2, cb2⟩ | exact ⟨(Kept.refl _ _).drew, ca2, cb2⟩ | exact ⟨hk2, hk2.cellOf ca2 (by simp), hk2.cellOf cb2 (by simp)⟩)
              (first | (go_at_call 32; refine (HCALL2.out _ (Kept.refl [] w1).drew).mono ?_; rintro e w2 ⟨rfl, hk2⟩))
            have HS2 := Lib.hid (HSW2.out.kept0 hk2)
            rename_i hS2
            clear hS2 hk2 ca2 cb2 HCALL2 HSW2
            have hfin := sd_no (lt := ltR n rank by_) (hi := hi) (first := first) (root := root) (d := dk) (ch := c2) (by omega) (by exact (.inr (.inl ⟨by have := HC22.out; omega, by have := HLT1.out; rwa [← EP_c1.out, ← EP_c2.out, HC12.out, HC22.out] at this, HC22.out⟩))) (by rw [EPR.out, EP_c2.out]; exact HLT2.out)
            have HF := Lib.hid (hfin.symm.trans HR.out)
            clear hfin
            go_wp2_with fail
            refine bodyPost_ret (results_none rfl _ _ _) rfl ?_
            exact ⟨rfl, by rw [← HF.out]; exact HS2.out⟩
        · have hdr1 : decide (r1 < 0) = false := decide_eq_false hneg1
          have HLT1 := Lib.hid (hlr1.trans hdr1)
          clear hlr1 hneg1
          go_wp2_with fail
          go_region_held3 (fun w' => Kept [] wr w' ∧ w'.cell? ⟨g, p1, none⟩ = some (.int .i64 (x1 : Int)) ∧ w'.cell? ⟨g, p2, none⟩ = some (.int .i64 (y1 : Int)))
            (first | exact ⟨Kept.refl _ _, ca1, cb1⟩ | exact ⟨(Kept.refl _ _).drew, ca1, cb1⟩ | exact ⟨hk1, hk1.cellOf ca1 (by simp), hk1.cellOf cb1 (by simp)⟩)
            (first | (go_at_call 32; refine (HCALL1.out _ (Kept.refl [] wr).drew).mono ?_; rintro e w1 ⟨rfl, hk1⟩))
          have HS1 := Lib.hid (HSW1.out.kept0 hk1)
          rename_i hS1
          clear hS1 hk1 ca1 cb1 HCALL1 HSW1
          obtain ⟨x2, y2, r2, ca2, cb2, hlr2, hcall2⟩ := HC.out.test HS1.out rc pr p1 hprn (by omega)
          have HCALL2 := Lib.hid hcall2
          have HSW2 := HS1
          clear hcall2
          by_cases hneg2 : r2 < 0
          · have hdr2 : decide (r2 < 0) = true := decide_eq_true hneg2
            have HLT2 := Lib.hid (hlr2.trans hdr2)
            clear hlr2 hneg2
            go_wp2_with fail
            go_region_held3 (fun w' => Kept [] w1 w' ∧ w'.cell? ⟨g, pr, none⟩ = some (.int .i64 (x2 : Int)) ∧ w'.cell? ⟨g, p1, none⟩ = some (.int .i64 (y2 : Int)))
              (first | exact ⟨Kept.refl _ _, ca2, cb2⟩ | exact ⟨(Kept.refl _ _).drew, ca2, cb2⟩ | exact ⟨hk2, hk2.cellOf ca2 (by simp), hk2.cellOf cb2 (by simp)⟩)
              (first | (go_at_call 32; refine (HCALL2.out _ (Kept.refl [] w1).drew).mono ?_; rintro e w2 ⟨rfl, hk2⟩))
            have HS2 := Lib.hid (HSW2.out.kept0 hk2)
            rename_i hS2
            clear hS2 hk2 ca2 cb2 HCALL2 HSW2
            have hgo := sd_yes (lt := ltR n rank by_) (hi := hi) (first := first) (root := root) (d := dk) (ch := c1) (by omega) (by exact (.inr (.inr ⟨by have := HC22.out; omega, by have := HLT1.out; rwa [← EP_c1.out, ← EP_c2.out, HC12.out, HC22.out] at this, HC12.out⟩))) (by rw [EPR.out, EP_c1.out]; exact HLT2.out)
            rw [EPR.out, EP_c1.out] at hgo
            have HGO := Lib.hid hgo
            clear hgo
            obtain ⟨u3, v3, da3, db3, fa3, fb3, H13, H23⟩ := HS2.out.exch pr p1 hprn (by omega)
            go_wp2_with fail
            go_region
            all_goals
              go_wp2_with fail
              go_roundg (hi - c1)
              case measure => have := Hk.out; omega
              case rel => exact ⟨c1, swp dk pr p1, rfl, by omega, by omega, rfl, (by first | exact H13 | exact H23), Lib.hid (HGO.out.symm.trans HR.out)⟩
          · have hdr2 : decide (r2 < 0) = false := decide_eq_false hneg2
            have HLT2 := Lib.hid (hlr2.trans hdr2)
            clear hlr2 hneg2
            go_wp2_with fail
            go_region_held3 (fun w' => Kept [] w1 w' ∧ w'.cell? ⟨g, pr, none⟩ = some (.int .i64 (x2 : Int)) ∧ w'.cell? ⟨g, p1, none⟩ = some (.int .i64 (y2 : Int)))
              (first | exact ⟨Kept.refl _ _, ca2, cb2⟩ | exact ⟨(Kept.refl _ _).drew, ca2, cb2⟩ | exact ⟨hk2, hk2.cellOf ca2 (by simp), hk2.cellOf cb2 (by simp)⟩)
              (first | (go_at_call 32; refine (HCALL2.out _ (Kept.refl [] w1).drew).mono ?_; rintro e w2 ⟨rfl, hk2⟩))
            have HS2 := Lib.hid (HSW2.out.kept0 hk2)
            rename_i hS2
            clear hS2 hk2 ca2 cb2 HCALL2 HSW2
            have hfin := sd_no (lt := ltR n rank by_) (hi := hi) (first := first) (root := root) (d := dk) (ch := c1) (by omega) (by exact (.inr (.inr ⟨by have := HC22.out; omega, by have := HLT1.out; rwa [← EP_c1.out, ← EP_c2.out, HC12.out, HC22.out] at this, HC12.out⟩))) (by rw [EPR.out, EP_c1.out]; exact HLT2.out)
            have HF := Lib.hid (hfin.symm.trans HR.out)
            clear hfin
            go_wp2_with fail
            refine bodyPost_ret (results_none rfl _ _ _) rfl ?_
            exact ⟨rfl, by rw [← HF.out]; exact HS2.out⟩
      · have h2i : ¬ (c2 : Int) < (hi : Int) := by omega
        go_wp2_with fail
        go_quiet (fail)
        have HS0 := Lib.hid (HS.out.kept0 ((Kept.refl [] wr).drewN nq))
        clear HS
        generalize wr.drewN nq = w1 at HS0 ⊢
        obtain ⟨x2, y2, r2, ca2, cb2, hlr2, hcall2⟩ := HC.out.test HS0.out rc pr p1 hprn (by omega)
        have HCALL2 := Lib.hid hcall2
        have HSW2 := HS0
        clear hcall2
        by_cases hneg2 : r2 < 0
        · have hdr2 : decide (r2 < 0) = true := decide_eq_true hneg2
          have HLT2 := Lib.hid (hlr2.trans hdr2)
          clear hlr2 hneg2
          go_wp2_with fail
          go_region_held3 (fun w' => Kept [] w1 w' ∧ w'.cell? ⟨g, pr, none⟩ = some (.int .i64 (x2 : Int)) ∧ w'.cell? ⟨g, p1, none⟩ = some (.int .i64 (y2 : Int)))
            (first | exact ⟨Kept.refl _ _, ca2, cb2⟩ | exact ⟨(Kept.refl _ _).drew, ca2, cb2⟩ | exact ⟨hk2, hk2.cellOf ca2 (by simp), hk2.cellOf cb2 (by simp)⟩)
            (first | (go_at_call 32; refine (HCALL2.out _ (Kept.refl [] w1).drew).mono ?_; rintro e w2 ⟨rfl, hk2⟩))
          have HS2 := Lib.hid (HSW2.out.kept0 hk2)
          rename_i hS2
          clear hS2 hk2 ca2 cb2 HCALL2 HSW2
          have hgo := sd_yes (lt := ltR n rank by_) (hi := hi) (first := first) (root := root) (d := dk) (ch := c1) (by omega) (by exact (.inl ⟨by have := HC22.out; omega, HC12.out⟩)) (by rw [EPR.out, EP_c1.out]; exact HLT2.out)
          rw [EPR.out, EP_c1.out] at hgo
          have HGO := Lib.hid hgo
          clear hgo
          obtain ⟨u3, v3, da3, db3, fa3, fb3, H13, H23⟩ := HS2.out.exch pr p1 hprn (by omega)
          go_wp2_with fail
          go_region
          all_goals
            go_wp2_with fail
            go_roundg (hi - c1)
            case measure => have := Hk.out; omega
            case rel => exact ⟨c1, swp dk pr p1, rfl, by omega, by omega, rfl, (by first | exact H13 | exact H23), Lib.hid (HGO.out.symm.trans HR.out)⟩
        · have hdr2 : decide (r2 < 0) = false := decide_eq_false hneg2
          have HLT2 := Lib.hid (hlr2.trans hdr2)
          clear hlr2 hneg2
          go_wp2_with fail
          go_region_held3 (fun w' => Kept [] w1 w' ∧ w'.cell? ⟨g, pr, none⟩ = some (.int .i64 (x2 : Int)) ∧ w'.cell? ⟨g, p1, none⟩ = some (.int .i64 (y2 : Int)))
            (first | exact ⟨Kept.refl _ _, ca2, cb2⟩ | exact ⟨(Kept.refl _ _).drew, ca2, cb2⟩ | exact ⟨hk2, hk2.cellOf ca2 (by simp), hk2.cellOf cb2 (by simp)⟩)
            (first | (go_at_call 32; refine (HCALL2.out _ (Kept.refl [] w1).drew).mono ?_; rintro e w2 ⟨rfl, hk2⟩))
          have HS2 := Lib.hid (HSW2.out.kept0 hk2)
          rename_i hS2
          clear hS2 hk2 ca2 cb2 HCALL2 HSW2
          have hfin := sd_no (lt := ltR n rank by_) (hi := hi) (first := first) (root := root) (d := dk) (ch := c1) (by omega) (by exact (.inl ⟨by have := HC22.out; omega, HC12.out⟩)) (by rw [EPR.out, EP_c1.out]; exact HLT2.out)
          have HF := Lib.hid (hfin.symm.trans HR.out)
          clear hfin
          go_wp2_with fail
          refine bodyPost_ret (results_none rfl _ _ _) rfl ?_
          exact ⟨rfl, by rw [← HF.out]; exact HS2.out⟩
end Go.Proofs.Ytaeppgooenbfiaa
