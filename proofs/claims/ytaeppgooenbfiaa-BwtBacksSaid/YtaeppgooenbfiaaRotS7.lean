/-
  Of the sort's functions at rotate's compare: the walks of pdqsort and SortFunc.
-/
import Derived.Test.YtaeppgooenbfiaaRotS6
import Derived.Test.YtaeppgooenbfiaaRotS5
import Derived.Sort.LotD3
namespace Go.Proofs.Ytaeppgooenbfiaa
open Go.RowKit Go.Sort
set_option linter.unusedVariables false
set_option linter.unusedSimpArgs false

/-- A part sorted. -/
def SortPost (w0 : World) (g c n : Nat) (lt : Nat → Nat → Bool) (d : Array Nat) (a b : Nat) (e : Ending) (w' : World) : Prop :=
  e = .returned (.tuple #[]) ∧ ∃ d', SortW w0 g c n d' w' ∧ PermIn a b d d' ∧ SortedIn lt a b d'
section
variable (w0 : World) (g c n rb ro rc by_ : Nat) (rank : List Nat)
/-- compare as a value, written out. -/
theorem part_ok' (d : Array Nat) (a b pivot : Nat) (w : World) (hC : CmpW w0 g rb ro n by_ rank) (hW : SortW w0 g c n d w) (hab : a + 12 < b) (hb : b ≤ n) (hp1 : a ≤ pivot) (hp2 : pivot < b) :
    Calls Try.prog 49 #[.slice (some ⟨g, 0, none⟩) n c, .int .i64 a, .int .i64 b, .int .i64 pivot, .func (.func 32) #[ranksV (some ⟨rb, ro, none⟩) n rc by_] #[]] w (PartPost w0 g c n (partition (ltR n rank by_) d a b pivot)) :=
  part_ok w0 g c n rb ro rc by_ rank d a b pivot w hC hW hab hb hp1 hp2
theorem parteq_ok' (d : Array Nat) (a b pivot : Nat) (w : World) (hC : CmpW w0 g rb ro n by_ rank) (hW : SortW w0 g c n d w) (hab : a + 12 < b) (hb : b ≤ n) (hp1 : a ≤ pivot) (hp2 : pivot < b) :
    Calls Try.prog 48 #[.slice (some ⟨g, 0, none⟩) n c, .int .i64 a, .int .i64 b, .int .i64 pivot, .func (.func 32) #[ranksV (some ⟨rb, ro, none⟩) n rc by_] #[]] w (EqPost w0 g c n (partitionEqual (ltR n rank by_) d a b pivot)) :=
  parteq_ok w0 g c n rb ro rc by_ rank d a b pivot w hC hW hab hb hp1 hp2
end

set_option maxRecDepth 100000 in
set_option maxHeartbeats 16000000 in
theorem pdq_step (w0 : World) (g c n rb ro rc by_ : Nat) (rank : List Nat) (K : Nat) (hC : CmpW w0 g rb ro n by_ rank)
    (hIH : ∀ (a b l : Nat) (d : Array Nat) (w : World), b - a < K → SortW w0 g c n d w → a ≤ b → b ≤ n → Go.Sort.Below (ltR n rank by_) a b d → l ≤ 1000 →
      Calls Try.prog 39 #[.slice (some ⟨g, 0, none⟩) n c, .int .i64 a, .int .i64 b, .int .i64 l, .func (.func 32) #[ranksV (some ⟨rb, ro, none⟩) n rc by_] #[]] w (SortPost w0 g c n (ltR n rank by_) d a b))
    (A B l : Nat) (d : Array Nat) (w : World) (hK : B - A ≤ K) (hW : SortW w0 g c n d w) (hAB : A ≤ B) (hB : B ≤ n) (hBE : Go.Sort.Below (ltR n rank by_) A B d) (hl : l ≤ 1000) :
    Calls Try.prog 39 #[.slice (some ⟨g, 0, none⟩) n c, .int .i64 A, .int .i64 B, .int .i64 l, .func (.func 32) #[ranksV (some ⟨rb, ro, none⟩) n rc by_] #[]] w (SortPost w0 g c n (ltR n rank by_) d A B) := by
  have hn9 := hC.n9
  have HC := Lib.hid hC
  have HW := Lib.hid hW
  have HIH := Lib.hid hIH
  have HBE := Lib.hid hBE
  have HFI0 := Lib.hid (show ∀ R, PermIn A B d R → SortedIn (ltR n rank by_) A B R → PermIn A B d R ∧ SortedIn (ltR n rank by_) A B R from fun R h1 h2 => ⟨h1, h2⟩)
  clear hC hW hIH hBE
  go_enter Try.func39, Try.ntmps39
  go_wp2_with fail
  go_loopg [1, 2, 3, 10, 11] (B - A) (fun k v1 v2 v3 v10 v11 wr => ∃ (a b l : Nat) (dk : Array Nat) (bal par : Bool), v1 = .int .i64 (a : Nat) ∧ v2 = .int .i64 (b : Nat) ∧ v3 = .int .i64 (l : Nat) ∧ v10 = .bool bal ∧ v11 = .bool par ∧
    a ≤ b ∧ b ≤ n ∧ b - a ≤ K ∧ l ≤ 1000 ∧ k = b - a ∧ Hid (SortW w0 g c n dk wr) ∧ Hid (Go.Sort.Below (ltR n rank by_) a b dk) ∧ Hid (∀ R, PermIn a b dk R → SortedIn (ltR n rank by_) a b R → PermIn A B d R ∧ SortedIn (ltR n rank by_) A B R))
  case atStart => exact ⟨A, B, l, d, true, true, rfl, rfl, rfl, rfl, rfl, hAB, hB, hK, hl, rfl, HW, HBE, HFI0⟩
  case round =>
    clear HW HBE HFI0 hK hAB hB hl
    obtain ⟨a, b, l, dk, bal, par, rfl, rfl, rfl, rfl, rfl, hab, hbn, hbK, hl, hk, HS0, HBE, HFI⟩ := hrel
    have Hk := Lib.hid hk
    obtain ⟨len, hlen⟩ : ∃ len, b - a = len := ⟨_, rfl⟩
    have elen : (b : Int) - (a : Int) = (len : Int) := by omega
    have hal : a + len = b := by omega
    clear hk hlen
    by_cases h12 : len ≤ 12
    · have g1 : decide ((len : Int) ≤ 12) = true := by simp; omega
      have hfin := insertionSort_holds (swoR n rank by_) dk a b hab (by rw [HS0.out.size]; exact hbn)
      have hins := insertion_ok w0 g c n rb ro rc by_ rank dk a b _ HC.out HS0.out hab hbn
      unfold cmpV at hins
      have hF := HFI.out _ hfin.1 hfin.2
      have HF := Lib.hid hF
      have HI := Lib.hid hins
      clear hfin hins hF
      go_wp2_with fail
      refine HI.out.mono ?_
      rintro e w1 ⟨rfl, hS1⟩
      have HS1 := Lib.hid hS1
      clear hS1 HI
      go_wp2_with fail
      refine bodyPost_ret (results_none rfl _ _ _) rfl ?_
      exact ⟨rfl, _, HS1.out, HF.out.1, HF.out.2⟩
    · have g1 : decide ((len : Int) ≤ 12) = false := by simp; omega
      by_cases hl0 : l = 0
      · have hfin := heapSort_holds (swoR n rank by_) dk a b hab (by rw [HS0.out.size]; exact hbn)
        have hins := heap_ok w0 g c n rb ro rc by_ rank dk a b _ HC.out HS0.out (by omega) hbn
        unfold cmpV at hins
        have hF := HFI.out _ hfin.1 hfin.2
        have HF := Lib.hid hF
        have HI := Lib.hid hins
        subst hl0
        clear hfin hins hF
        go_wp2_with fail
        refine HI.out.mono ?_
        rintro e w1 ⟨rfl, hS1⟩
        have HS1 := Lib.hid hS1
        clear hS1 HI
        go_wp2_with fail
        refine bodyPost_ret (results_none rfl _ _ _) rfl ?_
        exact ⟨rfl, _, HS1.out, HF.out.1, HF.out.2⟩
      · have hl0b : ((l : Int) == 0) = false := beq_eq_false_iff_ne.2 (by omega)
        have hl1 : 1 ≤ l := by omega
        have h12' : 12 < len := by omega
        clear hl0 h12
        go_upto_if 39 with (fail)
        go_cut [3] (fun v wc => ∃ (l2 : Nat) (d1 : Array Nat), v = .int .i64 (l2 : Nat) ∧ l2 ≤ 1000 ∧ Hid (SortW w0 g c n d1 wc) ∧ Hid (PermIn a b dk d1))
        case first =>
          cases bal with
          | true =>
            go_wp2_with fail
            go_meet
            exact ⟨l, dk, rfl, hl, HS0, Lib.hid (permIn_refl _ _ _)⟩
          | false =>
            obtain ⟨lm, hlm⟩ : ∃ lm, lm + 1 = l := ⟨l - 1, by omega⟩
            have elm : (l : Int) - 1 = (lm : Int) := by omega
            go_wp2_with fail
            refine (break_ok w0 g c n _ dk a b _ HS0.out (by omega) hbn hn9).mono ?_
            rintro e w1 ⟨rfl, d1, hS1, hP1⟩
            have HS1 := Lib.hid hS1
            have HP1 := Lib.hid hP1
            clear hS1 hP1
            go_wp2_with fail
            go_meet
            exact ⟨lm, d1, rfl, by omega, HS1, HP1⟩
        case rest =>
          obtain ⟨l2, d1, rfl, hl2, HS1, HP1⟩ := hcut
          clear HS0
          go_wp2_with fail
          have hpv := pivot_ok w0 g c n rb ro rc by_ rank d1 a b _ HC.out HS1.out (by omega) hbn
          unfold cmpV at hpv
          refine hpv.mono ?_
          rintro e w2 ⟨p, hnt, rfl, hp1, hp2, hS2⟩
          have HS2 := Lib.hid hS2
          clear hS2 hpv HS1
          go_upto_if 56 with (fail)
          go_cut [13, 14] (fun vp vh wc => ∃ (p2 : Nat) (h2 : Int) (d2 : Array Nat), vp = .int .i64 (p2 : Nat) ∧ vh = .int .i64 h2 ∧ (a ≤ p2 ∧ p2 < b) ∧ Hid (SortW w0 g c n d2 wc) ∧ Hid (PermIn a b dk d2))
          case first =>
            by_cases h2 : hnt = 2
            · subst h2
              obtain ⟨q, hq⟩ : ∃ q, b - 1 - (p - a) = q := ⟨_, rfl⟩
              have eq1 : (b : Int) - 1 - ((p : Int) - (a : Int)) = (q : Int) := by omega
              have hqb : a ≤ q ∧ q < b := by omega
              clear hq
              go_wp2_with fail
              refine (reverse_ok w0 g c n _ d1 a b _ HS2.out (by omega) hbn hn9).mono ?_
              rintro e w1 ⟨rfl, d2, hS3, hP2⟩
              have HS3 := Lib.hid hS3
              have HP2 := Lib.hid (permIn_trans _ _ _ a b HP1.out hP2)
              clear hS3 hP2
              go_wp2_with fail
              go_meet
              exact ⟨q, 1, d2, rfl, rfl, hqb, HS3, HP2⟩
            · have h2b : (hnt == 2) = false := beq_eq_false_iff_ne.2 h2
              clear h2
              go_wp2_with fail
              go_meet
              exact ⟨p, hnt, d1, rfl, rfl, ⟨hp1, hp2⟩, HS2, HP1⟩
          case rest =>
            obtain ⟨p2, h2, d2, rfl, rfl, hp2, HS3, HP2⟩ := hcut
            clear HS2 HP1
            have HBE2 := Lib.hid (Go.Sort.Below.perm HBE.out (by rw [← HP2.out.1, HS3.out.size]; exact hbn) HP2.out)
            go_upto_region 15 with (fail)
            go_cut [75] (fun v wc => ∃ tb : Bool, v = .bool tb ∧ Hid (SortW w0 g c n d2 wc))
            case first =>
              cases bal with
              | false =>
                go_wp2_with fail
                go_meet
                exact ⟨false, rfl, HS3⟩
              | true =>
                cases par with
                | false =>
                  go_wp2_with fail
                  go_meet
                  exact ⟨false, rfl, HS3⟩
                | true =>
                  obtain ⟨hb, hhb⟩ : ∃ hb, (h2 == 1) = hb := ⟨_, rfl⟩
                  go_wp2_with fail
                  go_meet
                  exact ⟨hb, rfl, HS3⟩
            case rest =>
             obtain ⟨tb, rfl, HS3'⟩ := hcut
             clear HS3
             have HS3 := HS3'
             clear HS3'
             go_upto_if 75 with (fail)
             go_cut [] (fun wc => ∃ d3 : Array Nat, Hid (SortW w0 g c n d3 wc) ∧ Hid (PermIn a b dk d3))
             case first =>
              cases tb with
              | false =>
                go_wp2_with fail
                go_meet
                exact ⟨d2, HS3, HP2⟩
              | true =>
                have hpi := pins_ok w0 g c n rb ro rc by_ rank d2 a b _ HC.out HS3.out (by omega) hbn
                unfold cmpV at hpi
                have hspec := partialInsertionSort_holds (swoR n rank by_) d2 a b (by omega) (by rw [HS3.out.size]; exact hbn) HBE2.out
                obtain ⟨dp, fl, hR⟩ : ∃ dp fl, partialInsertionSort (ltR n rank by_) d2 a b = (dp, fl) := ⟨_, _, rfl⟩
                rw [hR] at hpi hspec
                have HSP := Lib.hid hspec
                have HPI := Lib.hid hpi
                clear hpi hspec hR
                go_wp2_with fail
                refine HPI.out.mono ?_
                rintro e w4 ⟨rfl, hS4⟩
                have HS4 := Lib.hid hS4
                clear hS4 HPI
                cases fl with
                | false =>
                  go_wp2_with fail
                  go_meet
                  exact ⟨dp, HS4, Lib.hid (permIn_trans _ _ _ a b HP2.out HSP.out.1)⟩
                | true =>
                  have hF := HFI.out dp (permIn_trans _ _ _ a b HP2.out HSP.out.1) (HSP.out.2 rfl)
                  have HF := Lib.hid hF
                  clear hF
                  go_wp2_with fail
                  refine bodyPost_ret (results_none rfl _ _ _) rfl ?_
                  exact ⟨rfl, _, HS4.out, HF.out.1, HF.out.2⟩
             case rest =>
              obtain ⟨d3, HS, HP3⟩ := hcut
              clear HS3 HP2 HBE2
              have HBE3 := Lib.hid (Go.Sort.Below.perm HBE.out (by rw [← HP3.out.1, HS.out.size]; exact hbn) HP3.out)
              clear HBE
              by_cases ha0 : 0 < a
              · have ha0i : (0 : Int) < (a : Int) := by omega
                obtain ⟨am, ham⟩ : ∃ am, a - 1 = am := ⟨_, rfl⟩
                have eam : (a : Int) - 1 = (am : Int) := by omega
                have wam : IntKind.i64.wrap (am : Int) = (am : Int) := IntWalk.i64_in _ (by omega)
                have hamn : (am : Int) < (n : Int) := by omega
                have hp2n : (p2 : Int) < (n : Int) := by omega
                have HS0 := HS
                clear HS
                obtain ⟨x1, y1, r1, ca1, cb1, hlr1, hcall1⟩ := HC.out.test HS0.out rc am p2 (by omega) (by omega)
                have HCALL1 := Lib.hid hcall1
                have HSW1 := HS0
                clear hcall1
                by_cases hneg1 : r1 < 0
                · have hdr1 : decide (r1 < 0) = true := decide_eq_true hneg1
                  have HLT1 := Lib.hid (hlr1.trans hdr1)
                  clear hlr1 hneg1
                  go_wp2_with fail
                  go_region_held3 (fun w' => Kept [] wc w' ∧ w'.cell? ⟨g, am, none⟩ = some (.int .i64 (x1 : Int)) ∧ w'.cell? ⟨g, p2, none⟩ = some (.int .i64 (y1 : Int)))
                    (first | exact ⟨Kept.refl _ _, ca1, cb1⟩ | exact ⟨(Kept.refl _ _).drew, ca1, cb1⟩ | exact ⟨hk1, hk1.cellOf ca1 (by simp), hk1.cellOf cb1 (by simp)⟩)
                    (first | (go_at_call 32; refine (HCALL1.out _ (Kept.refl [] wc).drew).mono ?_; rintro e w1 ⟨rfl, hk1⟩))
                  have HS1 := Lib.hid (HSW1.out.kept0 hk1)
                  rename_i hS1
                  clear hS1 hk1 ca1 cb1 HCALL1 HSW1
                  have HS := HS1
                  go_wp2_with fail
                  refine (part_ok' w0 g c n rb ro rc by_ rank d3 a b p2 _ HC.out HS.out (by omega) hbn hp2.1 hp2.2).mono ?_
                  rintro e w5 ⟨ap, rfl, hS5⟩
                  obtain ⟨mid, ap0, d4, hpt⟩ : ∃ mid ap0 d4, partition (ltR n rank by_) d3 a b p2 = (mid, ap0, d4) := ⟨_, _, _, rfl⟩
                  have hrp := round_part (swoR n rank by_) (partition_holds _) hp2.1 hp2.2 (by rw [HS.out.size]; exact hbn) HBE3.out hpt
                  rw [hpt] at hS5 ⊢
                  have HS5 := Lib.hid hS5
                  obtain ⟨hm1, hm2, hsz4, hBa, hBr, hleft, hright⟩ := hrp
                  have HBA := Lib.hid hBa
                  have HBR := Lib.hid hBr
                  have HLE := Lib.hid hleft
                  have HRI := Lib.hid hright
                  have emid : (mid : Int) + 1 = ((mid + 1 : Nat) : Int) := by omega
                  obtain ⟨m1, hm1e⟩ : ∃ m1, mid + 1 = m1 := ⟨_, rfl⟩
                  have em1 : (mid : Int) + 1 = (m1 : Int) := by omega
                  rw [hm1e] at HBR HLE HRI
                  have hm1b : m1 ≤ b := by omega
                  obtain ⟨ll, hll⟩ : ∃ ll, mid - a = ll := ⟨_, rfl⟩
                  obtain ⟨rl, hrl⟩ : ∃ rl, b - mid = rl := ⟨_, rfl⟩
                  have ell : (mid : Int) - (a : Int) = (ll : Int) := by omega
                  have erl : (b : Int) - (mid : Int) = (rl : Int) := by omega
                  have hlm1 : mid < m1 := by omega
                  clear hS5 hpt hsz4 hBa hBr hleft hright emid hm1e HBE3
                  by_cases hlr : ll < rl
                  · have hlri : (ll : Int) < (rl : Int) := by omega
                    clear hll hrl
                    go_wp2_with fail
                    refine (HIH.out a mid l2 d4 _ (by omega) HS5.out hm1 (by omega) HBA.out hl2).mono ?_
                    rintro e w6 ⟨rfl, L, hS6, hLP, hLS⟩
                    have hL := HLE.out L hLP hLS
                    have HBL := Lib.hid hL.1
                    have HFL := Lib.hid (show ∀ R, PermIn m1 b L R → SortedIn (ltR n rank by_) m1 b R → PermIn A B d R ∧ SortedIn (ltR n rank by_) A B R from fun R h1 h2 => by
                      have := hL.2 R h1 h2
                      exact HFI.out R (permIn_trans _ _ _ a b HP3.out this.1) this.2)
                    have HS6 := Lib.hid hS6
                    clear hL hLP hLS hS6
                    go_wp2_with fail
                    go_roundg (b - m1)
                    case measure => have := Hk.out; omega
                    case rel => exact ⟨m1, b, l2, L, _, _, rfl, rfl, rfl, rfl, rfl, hm1b, hbn, by omega, hl2, rfl, HS6, HBL, HFL⟩
                  · have hlri : ¬ (ll : Int) < (rl : Int) := by omega
                    clear hll hrl
                    go_wp2_with fail
                    refine (HIH.out m1 b l2 d4 _ (by omega) HS5.out hm1b hbn HBR.out hl2).mono ?_
                    rintro e w6 ⟨rfl, L, hS6, hLP, hLS⟩
                    have hL := HRI.out L hLP hLS
                    have HBL := Lib.hid hL.1
                    have HFL := Lib.hid (show ∀ R, PermIn a mid L R → SortedIn (ltR n rank by_) a mid R → PermIn A B d R ∧ SortedIn (ltR n rank by_) A B R from fun R h1 h2 => by
                      have := hL.2 R h1 h2
                      exact HFI.out R (permIn_trans _ _ _ a b HP3.out this.1) this.2)
                    have HS6 := Lib.hid hS6
                    clear hL hLP hLS hS6
                    go_wp2_with fail
                    go_roundg (mid - a)
                    case measure => have := Hk.out; omega
                    case rel => exact ⟨a, mid, l2, L, _, _, rfl, rfl, rfl, rfl, rfl, hm1, by omega, by omega, hl2, rfl, HS6, HBL, HFL⟩
                · have hdr1 : decide (r1 < 0) = false := decide_eq_false hneg1
                  have HLT1 := Lib.hid (hlr1.trans hdr1)
                  clear hlr1 hneg1
                  go_wp2_with fail
                  go_region_held3 (fun w' => Kept [] wc w' ∧ w'.cell? ⟨g, am, none⟩ = some (.int .i64 (x1 : Int)) ∧ w'.cell? ⟨g, p2, none⟩ = some (.int .i64 (y1 : Int)))
                    (first | exact ⟨Kept.refl _ _, ca1, cb1⟩ | exact ⟨(Kept.refl _ _).drew, ca1, cb1⟩ | exact ⟨hk1, hk1.cellOf ca1 (by simp), hk1.cellOf cb1 (by simp)⟩)
                    (first | (go_at_call 32; refine (HCALL1.out _ (Kept.refl [] wc).drew).mono ?_; rintro e w1 ⟨rfl, hk1⟩))
                  have HS1 := Lib.hid (HSW1.out.kept0 hk1)
                  rename_i hS1
                  clear hS1 hk1 ca1 cb1 HCALL1 HSW1
                  go_wp2_with fail
                  refine (parteq_ok' w0 g c n rb ro rc by_ rank d3 a b p2 _ HC.out HS1.out (by omega) hbn hp2.1 hp2.2).mono ?_
                  rintro e w5 ⟨rfl, hS5⟩
                  obtain ⟨mid, d4, hpt⟩ : ∃ mid d4, partitionEqual (ltR n rank by_) d3 a b p2 = (mid, d4) := ⟨_, _, rfl⟩
                  have hre := round_eq (swoR n rank by_) (partitionEqual_holds _) ha0 hp2.1 hp2.2 (by rw [HS1.out.size]; exact hbn) HBE3.out (by have := HLT1.out; rwa [← ham] at this) hpt
                  rw [hpt] at hS5 ⊢
                  obtain ⟨hm1, hm2, hsz4, hBm, hfin⟩ := hre
                  have HFL := Lib.hid (show ∀ R, PermIn mid b d4 R → SortedIn (ltR n rank by_) mid b R → PermIn A B d R ∧ SortedIn (ltR n rank by_) A B R from fun R h1 h2 => by
                    have := hfin R h1 h2
                    exact HFI.out R (permIn_trans _ _ _ a b HP3.out this.1) this.2)
                  have HS5 := Lib.hid hS5
                  have HBM := Lib.hid hBm
                  clear hS5 hpt hsz4 hBm hfin HBE3
                  go_wp2_with fail
                  go_roundg (b - mid)
                  case measure => have := Hk.out; omega
                  case rel => exact ⟨mid, b, l2, d4, _, _, rfl, rfl, rfl, rfl, rfl, hm2, hbn, by omega, hl2, rfl, HS5, HBM, HFL⟩
              · have ha0i : ¬ (0 : Int) < (a : Int) := by omega
                go_wp2_with fail
                go_quiet (fail)
                have HS0 := Lib.hid (HS.out.kept0 ((Kept.refl [] wc).drewN nq))
                clear HS
                generalize wc.drewN nq = w1 at HS0 ⊢
                have HS := HS0
                clear HS0
                go_wp2_with fail
                refine (part_ok' w0 g c n rb ro rc by_ rank d3 a b p2 _ HC.out HS.out (by omega) hbn hp2.1 hp2.2).mono ?_
                rintro e w5 ⟨ap, rfl, hS5⟩
                obtain ⟨mid, ap0, d4, hpt⟩ : ∃ mid ap0 d4, partition (ltR n rank by_) d3 a b p2 = (mid, ap0, d4) := ⟨_, _, _, rfl⟩
                have hrp := round_part (swoR n rank by_) (partition_holds _) hp2.1 hp2.2 (by rw [HS.out.size]; exact hbn) HBE3.out hpt
                rw [hpt] at hS5 ⊢
                have HS5 := Lib.hid hS5
                obtain ⟨hm1, hm2, hsz4, hBa, hBr, hleft, hright⟩ := hrp
                have HBA := Lib.hid hBa
                have HBR := Lib.hid hBr
                have HLE := Lib.hid hleft
                have HRI := Lib.hid hright
                have emid : (mid : Int) + 1 = ((mid + 1 : Nat) : Int) := by omega
                obtain ⟨m1, hm1e⟩ : ∃ m1, mid + 1 = m1 := ⟨_, rfl⟩
                have em1 : (mid : Int) + 1 = (m1 : Int) := by omega
                rw [hm1e] at HBR HLE HRI
                have hm1b : m1 ≤ b := by omega
                obtain ⟨ll, hll⟩ : ∃ ll, mid - a = ll := ⟨_, rfl⟩
                obtain ⟨rl, hrl⟩ : ∃ rl, b - mid = rl := ⟨_, rfl⟩
                have ell : (mid : Int) - (a : Int) = (ll : Int) := by omega
                have erl : (b : Int) - (mid : Int) = (rl : Int) := by omega
                have hlm1 : mid < m1 := by omega
                clear hS5 hpt hsz4 hBa hBr hleft hright emid hm1e HBE3
                by_cases hlr : ll < rl
                · have hlri : (ll : Int) < (rl : Int) := by omega
                  clear hll hrl
                  go_wp2_with fail
                  refine (HIH.out a mid l2 d4 _ (by omega) HS5.out hm1 (by omega) HBA.out hl2).mono ?_
                  rintro e w6 ⟨rfl, L, hS6, hLP, hLS⟩
                  have hL := HLE.out L hLP hLS
                  have HBL := Lib.hid hL.1
                  have HFL := Lib.hid (show ∀ R, PermIn m1 b L R → SortedIn (ltR n rank by_) m1 b R → PermIn A B d R ∧ SortedIn (ltR n rank by_) A B R from fun R h1 h2 => by
                    have := hL.2 R h1 h2
                    exact HFI.out R (permIn_trans _ _ _ a b HP3.out this.1) this.2)
                  have HS6 := Lib.hid hS6
                  clear hL hLP hLS hS6
                  go_wp2_with fail
                  go_roundg (b - m1)
                  case measure => have := Hk.out; omega
                  case rel => exact ⟨m1, b, l2, L, _, _, rfl, rfl, rfl, rfl, rfl, hm1b, hbn, by omega, hl2, rfl, HS6, HBL, HFL⟩
                · have hlri : ¬ (ll : Int) < (rl : Int) := by omega
                  clear hll hrl
                  go_wp2_with fail
                  refine (HIH.out m1 b l2 d4 _ (by omega) HS5.out hm1b hbn HBR.out hl2).mono ?_
                  rintro e w6 ⟨rfl, L, hS6, hLP, hLS⟩
                  have hL := HRI.out L hLP hLS
                  have HBL := Lib.hid hL.1
                  have HFL := Lib.hid (show ∀ R, PermIn a mid L R → SortedIn (ltR n rank by_) a mid R → PermIn A B d R ∧ SortedIn (ltR n rank by_) A B R from fun R h1 h2 => by
                    have := hL.2 R h1 h2
                    exact HFI.out R (permIn_trans _ _ _ a b HP3.out this.1) this.2)
                  have HS6 := Lib.hid hS6
                  clear hL hLP hLS hS6
                  go_wp2_with fail
                  go_roundg (mid - a)
                  case measure => have := Hk.out; omega
                  case rel => exact ⟨a, mid, l2, L, _, _, rfl, rfl, rfl, rfl, rfl, hm1, by omega, by omega, hl2, rfl, HS6, HBL, HFL⟩

theorem pdq_all (w0 : World) (g c n rb ro rc by_ : Nat) (rank : List Nat) (hC : CmpW w0 g rb ro n by_ rank) : ∀ (K a b l : Nat) (d : Array Nat) (w : World), b - a < K → SortW w0 g c n d w → a ≤ b → b ≤ n → Go.Sort.Below (ltR n rank by_) a b d → l ≤ 1000 →
      Calls Try.prog 39 #[.slice (some ⟨g, 0, none⟩) n c, .int .i64 a, .int .i64 b, .int .i64 l, .func (.func 32) #[ranksV (some ⟨rb, ro, none⟩) n rc by_] #[]] w (SortPost w0 g c n (ltR n rank by_) d a b)
  | 0, a, b, l, d, w, h, _, _, _, _, _ => absurd h (Nat.not_lt_zero _)
  | K + 1, a, b, l, d, w, h, hW, hab, hb, hB, hl => pdq_step w0 g c n rb ro rc by_ rank K hC (pdq_all w0 g c n rb ro rc by_ rank hC K) a b l d w (by omega) hW hab hb hB hl

set_option maxRecDepth 100000 in
set_option maxHeartbeats 1000000 in
theorem sort_any (n : Nat) (hn9 : n ≤ 1000000) : SortC n := by
  intro g c rb ro rc by_ rank d w hC hW
  have hsz := hW.size
  have hkk : ∀ w' : World, Kept [] w w' → ∀ l : Nat, l ≤ 1000 → Calls Try.prog 39 #[.slice (some ⟨g, 0, none⟩) n c, .int .i64 0, .int .i64 n, .int .i64 l, cmpV (some ⟨rb, ro, none⟩) n rc by_] w' (SortPost w' g c n (ltR n rank by_) d 0 n) := by
    intro w' hk l hl
    exact pdq_all w' g c n rb ro rc by_ rank ⟨hC.sees.kept0 hk, hC.len, hC.small, hC.n9, hC.by12, hC.ne⟩ (n + 1) 0 n l d w' (by omega) ⟨hW.row.kept hk (by simp), hW.size, hW.lt, Kept.refl _ _⟩ (Nat.zero_le _) (Nat.le_refl _) (.inl rfl) hl
  have HKK := Lib.hid hkk
  have hu : IntKind.u64.wrap (n : Int) = (n : Int) := by rw [IntKind.wrap_u64]; omega
  have hbl : Lib.bitLen n ≤ 1000 := by
    rcases Nat.eq_zero_or_pos n with h0 | h0
    · subst h0; decide +kernel
    · have := bitLen_two n (by omega) (by omega)
      rcases Nat.lt_or_ge (Lib.bitLen n) 32 with h | h
      · omega
      · have := Nat.pow_le_pow_right (n := 2) (by decide) h
        omega
  clear hC hW hkk
  go_enter Try.func31, Try.ntmps31
  go_wp2_with fail
  refine (len_any n _ (by omega)).mono ?_
  rintro e w1 ⟨rfl, rfl⟩
  have HK1 := Lib.hid (Kept.refl [] w1)
  go_wp2_with fail
  refine (HKK.out w1 HK1.out _ hbl).mono ?_
  rintro e w2 ⟨rfl, d', hW2, hP2, hS2⟩
  have HW2 := Lib.hid hW2
  have HP2 := Lib.hid hP2
  have HS2 := Lib.hid hS2
  clear hW2 hP2 hS2
  go_wp2_with fail
  go_end0
  exact ⟨rfl, d', ⟨HW2.out.row, HW2.out.size, HW2.out.lt, (HK1.out.mono (by simp)).trans HW2.out.kept (by simp)⟩, HP2.out, HS2.out⟩
end Go.Proofs.Ytaeppgooenbfiaa
