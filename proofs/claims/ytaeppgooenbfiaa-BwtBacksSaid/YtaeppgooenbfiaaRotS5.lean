/-
  Of the sort's functions at rotate's compare: the walks of partitionEqual.
-/
import Derived.Test.YtaeppgooenbfiaaRotS4
namespace Go.Proofs.Ytaeppgooenbfiaa
open Go.RowKit Go.Sort
set_option linter.unusedVariables false
set_option linter.unusedSimpArgs false

/-- What partitionEqual leaves. -/
def EqPost (w0 : World) (g c n : Nat) (R : Nat × Array Nat) (e : Ending) (w' : World) : Prop := e = .returned (.int .i64 (R.1 : Nat)) ∧ SortW w0 g c n R.2 w'
theorem eq_round {lt : Nat → Nat → Bool} {a i j i2 j2 : Nat} {d : Array Nat} {R : Nat × Array Nat} (hR : partEqLoop lt a i j d = R) (h1 : scanUp (fun x => !lt d[a]! x) d j i = i2) (h2 : scanDown (fun x => lt d[a]! x) d i2 j = j2) :
    (j2 < i2 → R = (i2, d)) ∧ (¬ j2 < i2 → partEqLoop lt a (i2 + 1) (j2 - 1) (swp d i2 j2) = R) := by
  rw [partEqLoop_eq, h1, h2] at hR
  constructor
  · intro h; rw [if_pos h] at hR; exact hR.symm
  · intro h; rw [if_neg h] at hR; exact hR

set_option maxRecDepth 100000 in
set_option maxHeartbeats 16000000 in
theorem parteq_ok (w0 : World) (g c n rb ro rc by_ : Nat) (rank : List Nat) (d : Array Nat) (a b pivot : Nat) (w : World) (hC : CmpW w0 g rb ro n by_ rank) (hW : SortW w0 g c n d w) (hab : a + 12 < b) (hb : b ≤ n) (hp1 : a ≤ pivot) (hp2 : pivot < b) :
    Calls Try.prog 48 #[.slice (some ⟨g, 0, none⟩) n c, .int .i64 a, .int .i64 b, .int .i64 pivot, cmpV (some ⟨rb, ro, none⟩) n rc by_] w (EqPost w0 g c n (partitionEqual (ltR n rank by_) d a b pivot)) := by
  have hn9 := hC.n9
  have HC := Lib.hid hC
  have HW := Lib.hid hW
  obtain ⟨b1, hb1⟩ : ∃ b1, b - 1 = b1 := ⟨_, rfl⟩
  obtain ⟨a1, ha1⟩ : ∃ a1, a + 1 = a1 := ⟨_, rfl⟩
  obtain ⟨D1, hD1⟩ : ∃ D1, swp d a pivot = D1 := ⟨_, rfl⟩
  obtain ⟨R, hR⟩ : ∃ R, partEqLoop (ltR n rank by_) a a1 b1 D1 = R := ⟨_, rfl⟩
  have hfin : partitionEqual (ltR n rank by_) d a b pivot = R := by
    unfold partitionEqual
    rw [ha1, hb1, hD1, hR]
  rw [hfin]
  have HR := Lib.hid hR
  have HD1 := Lib.hid hD1
  have eb : (b : Int) - 1 = (b1 : Int) := by omega
  have ea : (a : Int) + 1 = (a1 : Int) := by omega
  have hai : (a : Int) < (n : Int) := by omega
  have hpi : (pivot : Int) < (n : Int) := by omega
  have hbb : b1 + 1 = b := by omega
  have haa : a + 1 = a1 := by omega
  clear hC hW hfin hR hD1 hb1 ha1
  unfold cmpV
  go_enter Try.func48, Try.ntmps48
  go_upto_region 1 with (fail)
  go_cut [] (fun wc => Hid (SortW w0 g c n D1 wc))
  case first =>
    by_cases hij1 : a = pivot
    · subst hij1
      obtain ⟨u1, da1, fa1, H11⟩ := HW.out.exch1 a (by omega)
      go_wp2_with fail
      go_region
      all_goals
        go_wp2_with fail
        go_meet
        have HX := H11
        rw [HD1.out] at HX
        exact HX
    · have hji1 : ¬ pivot = a := fun h => hij1 h.symm
      obtain ⟨u1, v1, da1, db1, fa1, fb1, H11, H21⟩ := HW.out.exch a pivot (by omega) (by omega)
      go_wp2_with fail
      go_region
      all_goals
        go_wp2_with fail
        go_meet
        have HX := (by first | exact H11 | exact H21)
        rw [HD1.out] at HX
        exact HX
  case rest =>
    have HS1 := hcut
    clear HW hcut
    go_wp2_with fail
    go_loopg [11, 12] (b1 + 1 - a1) (fun k v u wr => ∃ (i j : Nat) (dk : Array Nat), v = .int .i64 (i : Nat) ∧ u = .int .i64 (j : Nat) ∧ a < i ∧ i ≤ j + 1 ∧ j < b ∧ k = j + 1 - i ∧ Hid (SortW w0 g c n dk wr) ∧ Hid (partEqLoop (ltR n rank by_) a i j dk = R))
    case atStart => exact ⟨a1, b1, _, rfl, rfl, by omega, by omega, by omega, rfl, HS1, HR⟩
    case round =>
      clear HS1 HR ea eb
      obtain ⟨i0, j0, dk, rfl, rfl, hai0, hij0, hjb0, hk, HS5, HR5⟩ := hrel
      have Hk0 := Lib.hid hk
      clear hk
      go_upto_block 2 with fail
      go_cut [11] (fun v wc => ∃ i : Nat, v = .int .i64 (i : Nat) ∧ i0 ≤ i ∧ i ≤ j0 + 1 ∧ Hid (SortW w0 g c n dk wc) ∧ Hid (scanUp (fun x => !ltR n rank by_ dk[a]! x) dk j0 i0 = i))
      case first =>
        go_wp2_with fail
        go_loopg [11] (j0 + 1 - i0) (fun k v wr => ∃ i : Nat, v = .int .i64 (i : Nat) ∧ i0 ≤ i ∧ i ≤ j0 + 1 ∧ k = j0 + 1 - i ∧ Hid (SortW w0 g c n dk wr) ∧ Hid (scanUp (fun x => !ltR n rank by_ dk[a]! x) dk j0 i0 = scanUp (fun x => !ltR n rank by_ dk[a]! x) dk j0 i))
        case atStart => exact ⟨i0, by first | rfl | go_num, Nat.le_refl _, by omega, by omega, HS5, Lib.hid rfl⟩
        case round =>
          obtain ⟨i, rfl, hii, hij, hk, HS, HI⟩ := hrel
          have Hk := Lib.hid hk
          clear hk HS5
          by_cases hle : i ≤ j0
          · have hlei : (i : Int) ≤ (j0 : Int) := by omega
            have hin : (i : Int) < (n : Int) := by omega
            have hai : (a : Int) < (n : Int) := by omega
            obtain ⟨x1, y1, r1, ca1, cb1, hlr1, hcall1⟩ := HC.out.test HS.out rc a i (by omega) (by omega)
            have HCALL1 := Lib.hid hcall1
            have HSW1 := HS
            clear hcall1
            by_cases hneg1 : r1 < 0
            · have hdr1 : decide (r1 < 0) = true := decide_eq_true hneg1
              have HLT1 := Lib.hid (hlr1.trans hdr1)
              clear hlr1 hneg1
              go_wp2_with fail
              go_region_held3 (fun w' => Kept [] wr w' ∧ w'.cell? ⟨g, a, none⟩ = some (.int .i64 (x1 : Int)) ∧ w'.cell? ⟨g, i, none⟩ = some (.int .i64 (y1 : Int)))
                (first | exact ⟨Kept.refl _ _, ca1, cb1⟩ | exact ⟨(Kept.refl _ _).drew, ca1, cb1⟩ | exact ⟨hk1, hk1.cellOf ca1 (by simp), hk1.cellOf cb1 (by simp)⟩)
                (first | (go_at_call 32; refine (HCALL1.out _ (Kept.refl [] wr).drew).mono ?_; rintro e w1 ⟨rfl, hk1⟩))
              have HS1 := Lib.hid (HSW1.out.kept0 hk1)
              rename_i hS1
              clear hS1 hk1 ca1 cb1 HCALL1 HSW1
              go_wp2_with fail
              have hst := up_stop (p := (fun x => !ltR n rank by_ dk[a]! x)) (d := dk) (j := j0) (i := i) (fun _ => by first | exact HLT1.out | exact not_t HLT1.out | exact not_f HLT1.out)
              have HST := Lib.hid (HI.out.trans hst)
              clear hst
              go_meet
              exact ⟨i, rfl, by omega, by omega, HS1, HST⟩
            · have hdr1 : decide (r1 < 0) = false := decide_eq_false hneg1
              have HLT1 := Lib.hid (hlr1.trans hdr1)
              clear hlr1 hneg1
              go_wp2_with fail
              go_region_held3 (fun w' => Kept [] wr w' ∧ w'.cell? ⟨g, a, none⟩ = some (.int .i64 (x1 : Int)) ∧ w'.cell? ⟨g, i, none⟩ = some (.int .i64 (y1 : Int)))
                (first | exact ⟨Kept.refl _ _, ca1, cb1⟩ | exact ⟨(Kept.refl _ _).drew, ca1, cb1⟩ | exact ⟨hk1, hk1.cellOf ca1 (by simp), hk1.cellOf cb1 (by simp)⟩)
                (first | (go_at_call 32; refine (HCALL1.out _ (Kept.refl [] wr).drew).mono ?_; rintro e w1 ⟨rfl, hk1⟩))
              have HS1 := Lib.hid (HSW1.out.kept0 hk1)
              rename_i hS1
              clear hS1 hk1 ca1 cb1 HCALL1 HSW1
              go_wp2_with fail
              have hgo := up_go (p := (fun x => !ltR n rank by_ dk[a]! x)) (d := dk) (j := j0) (i := i) hle (by first | exact HLT1.out | exact not_t HLT1.out | exact not_f HLT1.out)
              have HG := Lib.hid (HI.out.trans hgo)
              clear hgo
              go_roundg (j0 + 1 - (i + 1))
              case measure => have := Hk.out; omega
              case rel => exact ⟨i + 1, by go_num, by omega, by omega, rfl, HS1, HG⟩
          · have hlei : ¬ (i : Int) ≤ (j0 : Int) := by omega
            go_wp2_with fail
            go_quiet (fail)
            go_wp2_with fail
            have hst := up_stop (p := (fun x => !ltR n rank by_ dk[a]! x)) (d := dk) (j := j0) (i := i) (fun h => absurd h hle)
            have HST := Lib.hid (HI.out.trans hst)
            clear hst
            go_meet
            exact ⟨i, rfl, by omega, by omega, Lib.hid (HS.out.kept0 ((Kept.refl _ _).drewN _)), HST⟩
      case rest =>
        obtain ⟨i, rfl, hi1, hi2, HS6, HI⟩ := hcut
        clear HS5
        go_upto_block 4 with fail
        go_cut [12] (fun v wc => ∃ j : Nat, v = .int .i64 (j : Nat) ∧ j ≤ j0 ∧ i ≤ j + 1 ∧ Hid (SortW w0 g c n dk wc) ∧ Hid (scanDown (fun x => ltR n rank by_ dk[a]! x) dk i j0 = j))
        case first =>
          go_wp2_with fail
          go_loopg [12] (j0 + 1 - i) (fun k v wr => ∃ j : Nat, v = .int .i64 (j : Nat) ∧ j ≤ j0 ∧ i ≤ j + 1 ∧ k = j + 1 - i ∧ Hid (SortW w0 g c n dk wr) ∧ Hid (scanDown (fun x => ltR n rank by_ dk[a]! x) dk i j0 = scanDown (fun x => ltR n rank by_ dk[a]! x) dk i j))
          case atStart => exact ⟨j0, by first | rfl | go_num, Nat.le_refl _, by omega, by omega, HS6, Lib.hid rfl⟩
          case round =>
            obtain ⟨j, rfl, hjj, hij, hk, HS, HI⟩ := hrel
            have Hk := Lib.hid hk
            clear hk HS6
            by_cases hle : i ≤ j
            · have hlei : (i : Int) ≤ (j : Int) := by omega
              have hjn : (j : Int) < (n : Int) := by omega
              have hai : (a : Int) < (n : Int) := by omega
              obtain ⟨jm, hjm⟩ : ∃ jm, jm + 1 = j := ⟨j - 1, by omega⟩
              have ejm : (j : Int) - 1 = (jm : Int) := by omega
              obtain ⟨x1, y1, r1, ca1, cb1, hlr1, hcall1⟩ := HC.out.test HS.out rc a j (by omega) (by omega)
              have HCALL1 := Lib.hid hcall1
              have HSW1 := HS
              clear hcall1
              by_cases hneg1 : r1 < 0
              · have hdr1 : decide (r1 < 0) = true := decide_eq_true hneg1
                have HLT1 := Lib.hid (hlr1.trans hdr1)
                clear hlr1 hneg1
                go_wp2_with fail
                go_region_held3 (fun w' => Kept [] wr w' ∧ w'.cell? ⟨g, a, none⟩ = some (.int .i64 (x1 : Int)) ∧ w'.cell? ⟨g, j, none⟩ = some (.int .i64 (y1 : Int)))
                  (first | exact ⟨Kept.refl _ _, ca1, cb1⟩ | exact ⟨(Kept.refl _ _).drew, ca1, cb1⟩ | exact ⟨hk1, hk1.cellOf ca1 (by simp), hk1.cellOf cb1 (by simp)⟩)
                  (first | (go_at_call 32; refine (HCALL1.out _ (Kept.refl [] wr).drew).mono ?_; rintro e w1 ⟨rfl, hk1⟩))
                have HS1 := Lib.hid (HSW1.out.kept0 hk1)
                rename_i hS1
                clear hS1 hk1 ca1 cb1 HCALL1 HSW1
                go_wp2_with fail
                have hgo := down_go (p := (fun x => ltR n rank by_ dk[a]! x)) (d := dk) (i := i) (j := j) (jm := jm) hjm hle (by first | exact HLT1.out | exact not_t HLT1.out | exact not_f HLT1.out)
                have HG := Lib.hid (HI.out.trans hgo)
                clear hgo
                go_roundg (jm + 1 - i)
                case measure => have := Hk.out; omega
                case rel => exact ⟨jm, by first | rfl | go_num, by omega, by omega, rfl, HS1, HG⟩
              · have hdr1 : decide (r1 < 0) = false := decide_eq_false hneg1
                have HLT1 := Lib.hid (hlr1.trans hdr1)
                clear hlr1 hneg1
                go_wp2_with fail
                go_region_held3 (fun w' => Kept [] wr w' ∧ w'.cell? ⟨g, a, none⟩ = some (.int .i64 (x1 : Int)) ∧ w'.cell? ⟨g, j, none⟩ = some (.int .i64 (y1 : Int)))
                  (first | exact ⟨Kept.refl _ _, ca1, cb1⟩ | exact ⟨(Kept.refl _ _).drew, ca1, cb1⟩ | exact ⟨hk1, hk1.cellOf ca1 (by simp), hk1.cellOf cb1 (by simp)⟩)
                  (first | (go_at_call 32; refine (HCALL1.out _ (Kept.refl [] wr).drew).mono ?_; rintro e w1 ⟨rfl, hk1⟩))
                have HS1 := Lib.hid (HSW1.out.kept0 hk1)
                rename_i hS1
                clear hS1 hk1 ca1 cb1 HCALL1 HSW1
                go_wp2_with fail
                have hst := down_stop (p := (fun x => ltR n rank by_ dk[a]! x)) (d := dk) (i := i) (j := j) (fun _ => by first | exact HLT1.out | exact not_t HLT1.out | exact not_f HLT1.out)
                have HST := Lib.hid (HI.out.trans hst)
                clear hst
                go_meet
                exact ⟨j, rfl, by omega, by omega, HS1, HST⟩
            · have hlei : ¬ (i : Int) ≤ (j : Int) := by omega
              go_wp2_with fail
              go_quiet (fail)
              go_wp2_with fail
              have hst := down_stop (p := (fun x => ltR n rank by_ dk[a]! x)) (d := dk) (i := i) (j := j) (fun h => absurd h hle)
              have HST := Lib.hid (HI.out.trans hst)
              clear hst
              go_meet
              exact ⟨j, rfl, by omega, by omega, Lib.hid (HS.out.kept0 ((Kept.refl _ _).drewN _)), HST⟩
        case rest =>
          obtain ⟨j, rfl, hj1, hj2, HS7, HJ⟩ := hcut
          clear HS6
          have hrd := eq_round HR5.out HI.out HJ.out
          have hsn := scan_ne (fun _ => (Bool.not_not _).symm) HI.out HJ.out (by omega)
          have HRD := Lib.hid hrd
          have hjn : (j : Int) < (n : Int) := by omega
          have HSN := Lib.hid hsn
          clear hrd hsn
          by_cases hij : j < i
          · have hiji : (j : Int) < (i : Int) := by omega
            have hre := HRD.out.1 hij
            have HRE := Lib.hid hre
            clear hre
            go_wp2_with fail
            go_ret
            exact ⟨by rw [HRE.out]; rfl, by rw [HRE.out]; exact HS7.out⟩
          · have hiji : ¬ (j : Int) < (i : Int) := by omega
            have hre := HRD.out.2 hij
            have hlt := HSN.out hij
            have hin : (i : Int) < (n : Int) := by omega
            obtain ⟨jm, hjm⟩ : ∃ jm, j - 1 = jm := ⟨_, rfl⟩
            have ejm : (j : Int) - 1 = (jm : Int) := by omega
            obtain ⟨ip, hip⟩ : ∃ ip, i + 1 = ip := ⟨_, rfl⟩
            have eip : (i : Int) + 1 = (ip : Int) := by omega
            rw [hjm, hip] at hre
            have HRE := Lib.hid hre
            have hnij : ¬ i = j := by omega
            have hnji : ¬ j = i := by omega
            have hb3 : a < ip ∧ ip ≤ jm + 1 ∧ jm < b ∧ jm + 1 - ip < j0 + 1 - i0 := by omega
            clear hre hjm hip
            go_wp2_with fail
            obtain ⟨u2, v2, da2, db2, fa2, fb2, H12, H22⟩ := HS7.out.exch i j (by omega) (by omega)
            go_wp2_with fail
            go_region
            all_goals
              go_wp2_with fail
              go_roundg (jm + 1 - ip)
              case measure => have := Hk0.out; omega
              case rel => exact ⟨ip, jm, _, rfl, rfl, hb3.1, hb3.2.1, hb3.2.2.1, rfl, (by first | exact H12 | exact H22), HRE⟩
end Go.Proofs.Ytaeppgooenbfiaa
