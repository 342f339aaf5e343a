/-
  Of the sort's functions at rotate's compare: the walks of heapSort, partition and partitionEqual.
-/
import Derived.Test.YtaeppgooenbfiaaRotS3
import Derived.Sort.LotC
import Derived.Deep.CutRange
import Derived.Deep.CutBlock
namespace Go.Proofs.Ytaeppgooenbfiaa
open Go.RowKit Go.Sort
set_option linter.unusedVariables false
set_option linter.unusedSimpArgs false

/-- What is left of the heap's first loop. -/
def CntV (k : Nat) (v : Value) : Prop := (k = 0 ∧ v = .int .i64 (-1)) ∨ ∃ j : Nat, k = j + 1 ∧ v = .int .i64 (j : Nat)
theorem CntV.pred (j : Nat) : CntV j (.int .i64 ((j : Int) - 1)) := by
  rcases Nat.eq_zero_or_pos j with h | h
  · subst h; exact .inl ⟨rfl, rfl⟩
  · exact .inr ⟨j - 1, by omega, by congr 1; omega⟩

set_option maxRecDepth 100000 in
set_option maxHeartbeats 8000000 in
theorem heap_ok (w0 : World) (g c n rb ro rc by_ : Nat) (rank : List Nat) (d : Array Nat) (a b : Nat) (w : World) (hC : CmpW w0 g rb ro n by_ rank) (hW : SortW w0 g c n d w) (hab : a + 12 < b) (hb : b ≤ n) :
    Calls Try.prog 43 #[.slice (some ⟨g, 0, none⟩) n c, .int .i64 a, .int .i64 b, cmpV (some ⟨rb, ro, none⟩) n rc by_] w fun e w' => e = .returned (.tuple #[]) ∧ SortW w0 g c n (heapSort (ltR n rank by_) d a b) w' := by
  have hn9 := hC.n9
  have HC := Lib.hid hC
  have HW := Lib.hid hW
  obtain ⟨hi, hhi⟩ : ∃ hi, b - a = hi := ⟨_, rfl⟩
  obtain ⟨h1, hh1⟩ : ∃ h1, hi - 1 = h1 := ⟨_, rfl⟩
  obtain ⟨m, hm⟩ : ∃ m, h1 / 2 = m := ⟨_, rfl⟩
  have e1 : (b : Int) - (a : Int) = (hi : Int) := by omega
  have e2 : (hi : Int) - 1 = (h1 : Int) := by omega
  have e3 : (h1 : Int) / 2 = (m : Int) := by omega
  have hahi : a + hi = b := by omega
  have hh12 : h1 + 1 = hi := by omega
  have hm2 : m < hi := by omega
  obtain ⟨R1, hR1⟩ : ∃ R, heapBuild (ltR n rank by_) hi a (m + 1) d = R := ⟨_, rfl⟩
  obtain ⟨R2, hR2⟩ : ∃ R, heapPop (ltR n rank by_) a hi R1 = R := ⟨_, rfl⟩
  have hR : heapSort (ltR n rank by_) d a b = R2 := by
    unfold heapSort
    rw [hhi, hh1, hm, hR1, hR2]
  rw [hR]
  have HR1 := Lib.hid hR1
  have HR2 := Lib.hid hR2
  clear hC hW hR1 hR2 hR hhi hh1 hm
  have hsift : ∀ (w1 : World) (dk : Array Nat) (lo hi : Nat), SortW w0 g c n dk w1 → lo ≤ hi → a + hi ≤ n → Calls Try.prog 52 #[.slice (some ⟨g, 0, none⟩) n c, .int .i64 lo, .int .i64 hi, .int .i64 a, .func (.func 32) #[ranksV (some ⟨rb, ro, none⟩) n rc by_] #[]] w1 fun e w' => e = .returned (.tuple #[]) ∧ SortW w0 g c n (siftDown (ltR n rank by_) hi a lo dk) w' :=
    fun w1 dk lo hi h1 h2 h3 => sift_ok w0 g c n rb ro rc by_ rank dk lo hi a w1 HC.out h1 h2 h3
  have HSIFT := Lib.hid hsift
  clear hsift
  unfold cmpV
  go_enter Try.func43, Try.ntmps43
  go_wp2_with fail
  go_loopg [11] (m + 1) (fun k v wr => ∃ dk : Array Nat, k ≤ m + 1 ∧ CntV k v ∧ Hid (SortW w0 g c n dk wr) ∧ Hid (heapBuild (ltR n rank by_) hi a k dk = R1))
  case atStart => exact ⟨d, Nat.le_refl _, .inr ⟨m, rfl, rfl⟩, HW, HR1⟩
  case round =>
    obtain ⟨dk, hk, hv, HS, HB⟩ := hrel
    rcases hv with ⟨hk0, rfl⟩ | ⟨j, hkj, rfl⟩
    · have HB1 := Lib.hid (show dk = R1 by have := HB.out; rw [hk0] at this; exact this)
      clear HB hk0 HW
      go_wp2_with fail
      go_loopg [12] hi (fun k v wr => ∃ dk : Array Nat, k ≤ hi ∧ CntV k v ∧ Hid (SortW w0 g c n dk wr) ∧ Hid (heapPop (ltR n rank by_) a k dk = R2))
      case atStart => exact ⟨dk, Nat.le_refl _, .inr ⟨h1, hh12.symm, rfl⟩, HS, Lib.hid (by rw [HB1.out]; exact HR2.out)⟩
      case round =>
        obtain ⟨dk, hk2, hv, HS, HP⟩ := hrel
        rcases hv with ⟨hk0, rfl⟩ | ⟨j, hkj, rfl⟩
        · have HP1 := Lib.hid (show dk = R2 by have := HP.out; rw [hk0] at this; exact this)
          clear HP hk0
          go_wp2_with fail
          go_end0
          exact ⟨rfl, by rw [← HP1.out]; exact HS.out⟩
        · have HK := Lib.hid hkj
          have hjh : j < hi := by omega
          have HP1 := Lib.hid (show heapPop (ltR n rank by_) a j (siftDown (ltR n rank by_) j a 0 (swp dk a (a + j))) = R2 by have := HP.out; rw [hkj] at this; exact this)
          obtain ⟨p, hp⟩ : ∃ p, a + j = p := ⟨_, rfl⟩
          have ep : (a : Int) + (j : Int) = (p : Int) := by omega
          have wp0 : IntKind.i64.wrap (p : Int) = (p : Int) := IntWalk.i64_in _ (by omega)
          have hpn : p < n := by omega
          have hpi : (p : Int) < (n : Int) := by omega
          have hai : (a : Int) < (n : Int) := by omega
          rw [hp] at HP1
          clear HP hkj hp
          by_cases hij1 : a = p
          · subst hij1
            obtain ⟨u1, da1, fa1, H11⟩ := HS.out.exch1 a (by omega)
            go_wp2_with fail
            go_region
            all_goals
              go_wp2_with fail
              have HX := H11
              refine (HSIFT.out _ _ 0 j HX.out (by omega) (by omega)).mono ?_
              rintro e w5 ⟨rfl, hS5⟩
              have HS5 := Lib.hid hS5
              clear hS5 HX
              go_wp2_with fail
              go_roundg j
              case measure => have := HK.out; omega
              case rel => exact ⟨_, by omega, CntV.pred j, HS5, HP1⟩
          · have hji1 : ¬ p = a := fun h => hij1 h.symm
            obtain ⟨u1, v1, da1, db1, fa1, fb1, H11, H21⟩ := HS.out.exch a p (by omega) (by omega)
            go_wp2_with fail
            go_region
            all_goals
              go_wp2_with fail
              have HX := (by first | exact H11 | exact H21)
              refine (HSIFT.out _ _ 0 j HX.out (by omega) (by omega)).mono ?_
              rintro e w5 ⟨rfl, hS5⟩
              have HS5 := Lib.hid hS5
              clear hS5 HX
              go_wp2_with fail
              go_roundg j
              case measure => have := HK.out; omega
              case rel => exact ⟨_, by omega, CntV.pred j, HS5, HP1⟩
    · have HK := Lib.hid hkj
      have HB1 := Lib.hid (show heapBuild (ltR n rank by_) hi a j (siftDown (ltR n rank by_) hi a j dk) = R1 by have := HB.out; rw [hkj] at this; exact this)
      have hjm : j ≤ m := by omega
      clear HB hkj HW
      go_wp2_with fail
      refine (HSIFT.out _ _ j hi HS.out (by omega) (by omega)).mono ?_
      rintro e w5 ⟨rfl, hS5⟩
      have HS5 := Lib.hid hS5
      clear hS5
      go_wp2_with fail
      go_roundg j
      case measure => have := HK.out; omega
      case rel => exact ⟨_, by omega, CntV.pred j, HS5, HB1⟩

theorem not_t {b : Bool} (h : b = false) : (!b) = true := by rw [h]; rfl
theorem not_f {b : Bool} (h : b = true) : (!b) = false := by rw [h]; rfl
theorem scan_ne {p q : Nat → Bool} {d : Array Nat} {i j i2 j2 : Nat} (hq : ∀ x, q x = !p x) (h1 : scanUp p d j i = i2) (h2 : scanDown q d i2 j = j2) (hi : 0 < i) (h : ¬ j2 < i2) : i2 < j2 := by
  have a := scanUp_spec p d j _ i rfl
  have b := scanDown_spec q d i2 j
  rw [h1] at a
  rw [h2] at b
  rcases Nat.lt_or_ge i2 j2 with h3 | h3
  · exact h3
  · have he : i2 = j2 := by omega
    have a4 := a.2.2.2 (by omega)
    have b4 := b.2.2.2 (by omega) (by omega)
    rw [hq, ← he, a4] at b4
    exact absurd b4 (by decide)
theorem up_go {p : Nat → Bool} {d : Array Nat} {j i : Nat} (h : i ≤ j) (hp : p d[i]! = true) : scanUp p d j i = scanUp p d j (i + 1) := by
  rw [scanUp, if_pos (by rw [hp]; simp; omega)]
theorem up_stop {p : Nat → Bool} {d : Array Nat} {j i : Nat} (h : i ≤ j → p d[i]! = false) : scanUp p d j i = i := by
  rw [scanUp, if_neg]
  intro hc
  simp only [Bool.and_eq_true, decide_eq_true_eq] at hc
  rw [h hc.1] at hc
  exact absurd hc.2 (by decide)
theorem down_go {p : Nat → Bool} {d : Array Nat} {i j jm : Nat} (hj : jm + 1 = j) (h : i ≤ j) (hp : p d[j]! = true) : scanDown p d i j = scanDown p d i jm := by
  subst hj
  rw [scanDown, if_pos (by rw [hp]; simp; omega)]
theorem down_stop {p : Nat → Bool} {d : Array Nat} {i j : Nat} (h : i ≤ j → p d[j]! = false) : scanDown p d i j = j := by
  cases j with
  | zero => rfl
  | succ j =>
    rw [scanDown, if_neg]
    intro hc
    simp only [Bool.and_eq_true, decide_eq_true_eq] at hc
    rw [h hc.1] at hc
    exact absurd hc.2 (by decide)

/-- Where the pivot stands, and what is left. -/
def PartPost (w0 : World) (g c n : Nat) (R : Nat × Bool × Array Nat) (e : Ending) (w' : World) : Prop :=
  ∃ ap : Bool, e = .returned (.tuple #[.int .i64 (R.1 : Nat), .bool ap]) ∧ SortW w0 g c n R.2.2 w'
theorem part_round {lt : Nat → Nat → Bool} {a i j i2 j2 : Nat} {d : Array Nat} {R : Nat × Array Nat} (hR : partLoop lt a i j d = R) (h1 : scanUp (fun x => lt x d[a]!) d j i = i2) (h2 : scanDown (fun x => !lt x d[a]!) d i2 j = j2) :
    (j2 < i2 → R = (j2, d)) ∧ (¬ j2 < i2 → partLoop lt a (i2 + 1) (j2 - 1) (swp d i2 j2) = R) := by
  rw [partLoop_eq, h1, h2] at hR
  constructor
  · intro h; rw [if_pos h] at hR; exact hR.symm
  · intro h; rw [if_neg h] at hR; exact hR

set_option maxRecDepth 100000 in
set_option maxHeartbeats 16000000 in
theorem part_ok (w0 : World) (g c n rb ro rc by_ : Nat) (rank : List Nat) (d : Array Nat) (a b pivot : Nat) (w : World) (hC : CmpW w0 g rb ro n by_ rank) (hW : SortW w0 g c n d w) (hab : a + 12 < b) (hb : b ≤ n) (hp1 : a ≤ pivot) (hp2 : pivot < b) :
    Calls Try.prog 49 #[.slice (some ⟨g, 0, none⟩) n c, .int .i64 a, .int .i64 b, .int .i64 pivot, cmpV (some ⟨rb, ro, none⟩) n rc by_] w (PartPost w0 g c n (partition (ltR n rank by_) d a b pivot)) := by
  have hn9 := hC.n9
  have HC := Lib.hid hC
  have HW := Lib.hid hW
  obtain ⟨b1, hb1⟩ : ∃ b1, b - 1 = b1 := ⟨_, rfl⟩
  obtain ⟨a1, ha1⟩ : ∃ a1, a + 1 = a1 := ⟨_, rfl⟩
  obtain ⟨D1, hD1⟩ : ∃ D1, swp d a pivot = D1 := ⟨_, rfl⟩
  obtain ⟨R, hR⟩ : ∃ R, partLoop (ltR n rank by_) a a1 b1 D1 = R := ⟨_, rfl⟩
  have hfin : ∀ (ap : Bool) (e : Ending) (w' : World), e = .returned (.tuple #[.int .i64 (R.1 : Nat), .bool ap]) → SortW w0 g c n (swp R.2 R.1 a) w' → PartPost w0 g c n (partition (ltR n rank by_) d a b pivot) e w' := by
    intro ap e w' he hw
    have h1 := partition_fst (lt := ltR n rank by_) d a b pivot
    have h2 := partition_arr (lt := ltR n rank by_) d a b pivot
    rw [ha1, hb1, hD1, hR] at h1 h2
    exact ⟨ap, by rw [h1]; exact he, by rw [h2]; exact hw⟩
  have HFIN := Lib.hid hfin
  have HR := Lib.hid hR
  have HD1 := Lib.hid hD1
  have eb : (b : Int) - 1 = (b1 : Int) := by omega
  have ea : (a : Int) + 1 = (a1 : Int) := by omega
  have hai : (a : Int) < (n : Int) := by omega
  have hpi : (pivot : Int) < (n : Int) := by omega
  have hbb : b1 + 1 = b := by omega
  have haa : a + 1 = a1 := by omega
  clear hC hW hfin hR hD1 hb1 ha1
  unfold cmpV
  go_enter Try.func49, Try.ntmps49
  go_upto_region 1 with (fail)
  go_cut [] (fun wc => Hid (SortW w0 g c n D1 wc))
  case first =>
    by_cases hij1 : a = pivot
    · subst hij1
      obtain ⟨u1, da1, fa1, H11⟩ := HW.out.exch1 a (by omega)
      go_wp2_with fail
      go_region
      all_goals
        go_wp2_with fail
        go_meet
        have HX := H11
        rw [HD1.out] at HX
        exact HX
    · have hji1 : ¬ pivot = a := fun h => hij1 h.symm
      obtain ⟨u1, v1, da1, db1, fa1, fb1, H11, H21⟩ := HW.out.exch a pivot (by omega) (by omega)
      go_wp2_with fail
      go_region
      all_goals
        go_wp2_with fail
        go_meet
        have HX := (by first | exact H11 | exact H21)
        rw [HD1.out] at HX
        exact HX
  case rest =>
    have HS1 := hcut
    clear HW hcut
    go_upto_block 0 with fail
    go_cut [12] (fun v wc => ∃ i : Nat, v = .int .i64 (i : Nat) ∧ a1 ≤ i ∧ i ≤ b1 + 1 ∧ Hid (SortW w0 g c n D1 wc) ∧ Hid (scanUp (fun x => ltR n rank by_ x D1[a]!) D1 b1 a1 = i))
    case first =>
      go_wp2_with fail
      go_loopg [12] (b1 + 1 - a1) (fun k v wr => ∃ i : Nat, v = .int .i64 (i : Nat) ∧ a1 ≤ i ∧ i ≤ b1 + 1 ∧ k = b1 + 1 - i ∧ Hid (SortW w0 g c n D1 wr) ∧ Hid (scanUp (fun x => ltR n rank by_ x D1[a]!) D1 b1 a1 = scanUp (fun x => ltR n rank by_ x D1[a]!) D1 b1 i))
      case atStart => exact ⟨a1, by first | rfl | go_num, Nat.le_refl _, by omega, by omega, HS1, Lib.hid rfl⟩
      case round =>
        obtain ⟨i, rfl, hii, hij, hk, HS, HI⟩ := hrel
        have Hk := Lib.hid hk
        clear hk HS1
        by_cases hle : i ≤ b1
        · have hlei : (i : Int) ≤ (b1 : Int) := by omega
          have hin : (i : Int) < (n : Int) := by omega
          have hai : (a : Int) < (n : Int) := by omega
          obtain ⟨x1, y1, r1, ca1, cb1, hlr1, hcall1⟩ := HC.out.test HS.out rc i a (by omega) (by omega)
          have HCALL1 := Lib.hid hcall1
          have HSW1 := HS
          clear hcall1
          by_cases hneg1 : r1 < 0
          · have hdr1 : decide (r1 < 0) = true := decide_eq_true hneg1
            have HLT1 := Lib.hid (hlr1.trans hdr1)
            clear hlr1 hneg1
            go_wp2_with fail
            go_region_held3 (fun w' => Kept [] wr w' ∧ w'.cell? ⟨g, i, none⟩ = some (.int .i64 (x1 : Int)) ∧ w'.cell? ⟨g, a, none⟩ = some (.int .i64 (y1 : Int)))
              (first | exact ⟨Kept.refl _ _, ca1, cb1⟩ | exact ⟨(Kept.refl _ _).drew, ca1, cb1⟩ | exact ⟨hk1, hk1.cellOf ca1 (by simp), hk1.cellOf cb1 (by simp)⟩)
              (first | (go_at_call 32; refine (HCALL1.out _ (Kept.refl [] wr).drew).mono ?_; rintro e w1 ⟨rfl, hk1⟩))
            have HS1 := Lib.hid (HSW1.out.kept0 hk1)
            rename_i hS1
            clear hS1 hk1 ca1 cb1 HCALL1 HSW1
            go_wp2_with fail
            have hgo := up_go (p := (fun x => ltR n rank by_ x D1[a]!)) (d := D1) (j := b1) (i := i) hle (by first | exact HLT1.out | exact not_t HLT1.out | exact not_f HLT1.out)
            have HG := Lib.hid (HI.out.trans hgo)
            clear hgo
            go_roundg (b1 + 1 - (i + 1))
            case measure => have := Hk.out; omega
            case rel => exact ⟨i + 1, by go_num, by omega, by omega, rfl, HS1, HG⟩
          · have hdr1 : decide (r1 < 0) = false := decide_eq_false hneg1
            have HLT1 := Lib.hid (hlr1.trans hdr1)
            clear hlr1 hneg1
            go_wp2_with fail
            go_region_held3 (fun w' => Kept [] wr w' ∧ w'.cell? ⟨g, i, none⟩ = some (.int .i64 (x1 : Int)) ∧ w'.cell? ⟨g, a, none⟩ = some (.int .i64 (y1 : Int)))
              (first | exact ⟨Kept.refl _ _, ca1, cb1⟩ | exact ⟨(Kept.refl _ _).drew, ca1, cb1⟩ | exact ⟨hk1, hk1.cellOf ca1 (by simp), hk1.cellOf cb1 (by simp)⟩)
              (first | (go_at_call 32; refine (HCALL1.out _ (Kept.refl [] wr).drew).mono ?_; rintro e w1 ⟨rfl, hk1⟩))
            have HS1 := Lib.hid (HSW1.out.kept0 hk1)
            rename_i hS1
            clear hS1 hk1 ca1 cb1 HCALL1 HSW1
            go_wp2_with fail
            have hst := up_stop (p := (fun x => ltR n rank by_ x D1[a]!)) (d := D1) (j := b1) (i := i) (fun _ => by first | exact HLT1.out | exact not_t HLT1.out | exact not_f HLT1.out)
            have HST := Lib.hid (HI.out.trans hst)
            clear hst
            go_meet
            exact ⟨i, rfl, by omega, by omega, HS1, HST⟩
        · have hlei : ¬ (i : Int) ≤ (b1 : Int) := by omega
          go_wp2_with fail
          go_quiet (fail)
          go_wp2_with fail
          have hst := up_stop (p := (fun x => ltR n rank by_ x D1[a]!)) (d := D1) (j := b1) (i := i) (fun h => absurd h hle)
          have HST := Lib.hid (HI.out.trans hst)
          clear hst
          go_meet
          exact ⟨i, rfl, by omega, by omega, Lib.hid (HS.out.kept0 ((Kept.refl _ _).drewN _)), HST⟩
    case rest =>
      obtain ⟨i, rfl, hi1, hi2, HS2, HI⟩ := hcut
      clear HS1
      go_upto_block 2 with fail
      go_cut [13] (fun v wc => ∃ j : Nat, v = .int .i64 (j : Nat) ∧ j ≤ b1 ∧ i ≤ j + 1 ∧ Hid (SortW w0 g c n D1 wc) ∧ Hid (scanDown (fun x => !ltR n rank by_ x D1[a]!) D1 i b1 = j))
      case first =>
        go_wp2_with fail
        go_loopg [13] (b1 + 1 - i) (fun k v wr => ∃ j : Nat, v = .int .i64 (j : Nat) ∧ j ≤ b1 ∧ i ≤ j + 1 ∧ k = j + 1 - i ∧ Hid (SortW w0 g c n D1 wr) ∧ Hid (scanDown (fun x => !ltR n rank by_ x D1[a]!) D1 i b1 = scanDown (fun x => !ltR n rank by_ x D1[a]!) D1 i j))
        case atStart => exact ⟨b1, by first | rfl | go_num, Nat.le_refl _, by omega, by omega, HS2, Lib.hid rfl⟩
        case round =>
          obtain ⟨j, rfl, hjj, hij, hk, HS, HI⟩ := hrel
          have Hk := Lib.hid hk
          clear hk HS2
          by_cases hle : i ≤ j
          · have hlei : (i : Int) ≤ (j : Int) := by omega
            have hjn : (j : Int) < (n : Int) := by omega
            have hai : (a : Int) < (n : Int) := by omega
            obtain ⟨jm, hjm⟩ : ∃ jm, jm + 1 = j := ⟨j - 1, by omega⟩
            have ejm : (j : Int) - 1 = (jm : Int) := by omega
            obtain ⟨x1, y1, r1, ca1, cb1, hlr1, hcall1⟩ := HC.out.test HS.out rc j a (by omega) (by omega)
            have HCALL1 := Lib.hid hcall1
            have HSW1 := HS
            clear hcall1
            by_cases hneg1 : r1 < 0
            · have hdr1 : decide (r1 < 0) = true := decide_eq_true hneg1
              have HLT1 := Lib.hid (hlr1.trans hdr1)
              clear hlr1 hneg1
              go_wp2_with fail
              go_region_held3 (fun w' => Kept [] wr w' ∧ w'.cell? ⟨g, j, none⟩ = some (.int .i64 (x1 : Int)) ∧ w'.cell? ⟨g, a, none⟩ = some (.int .i64 (y1 : Int)))
                (first | exact ⟨Kept.refl _ _, ca1, cb1⟩ | exact ⟨(Kept.refl _ _).drew, ca1, cb1⟩ | exact ⟨hk1, hk1.cellOf ca1 (by simp), hk1.cellOf cb1 (by simp)⟩)
                (first | (go_at_call 32; refine (HCALL1.out _ (Kept.refl [] wr).drew).mono ?_; rintro e w1 ⟨rfl, hk1⟩))
              have HS1 := Lib.hid (HSW1.out.kept0 hk1)
              rename_i hS1
              clear hS1 hk1 ca1 cb1 HCALL1 HSW1
              go_wp2_with fail
              have hst := down_stop (p := (fun x => !ltR n rank by_ x D1[a]!)) (d := D1) (i := i) (j := j) (fun _ => by first | exact HLT1.out | exact not_t HLT1.out | exact not_f HLT1.out)
              have HST := Lib.hid (HI.out.trans hst)
              clear hst
              go_meet
              exact ⟨j, rfl, by omega, by omega, HS1, HST⟩
            · have hdr1 : decide (r1 < 0) = false := decide_eq_false hneg1
              have HLT1 := Lib.hid (hlr1.trans hdr1)
              clear hlr1 hneg1
              go_wp2_with fail
              go_region_held3 (fun w' => Kept [] wr w' ∧ w'.cell? ⟨g, j, none⟩ = some (.int .i64 (x1 : Int)) ∧ w'.cell? ⟨g, a, none⟩ = some (.int .i64 (y1 : Int)))
                (first | exact ⟨Kept.refl _ _, ca1, cb1⟩ | exact ⟨(Kept.refl _ _).drew, ca1, cb1⟩ | exact ⟨hk1, hk1.cellOf ca1 (by simp), hk1.cellOf cb1 (by simp)⟩)
                (first | (go_at_call 32; refine (HCALL1.out _ (Kept.refl [] wr).drew).mono ?_; rintro e w1 ⟨rfl, hk1⟩))
              have HS1 := Lib.hid (HSW1.out.kept0 hk1)
              rename_i hS1
              clear hS1 hk1 ca1 cb1 HCALL1 HSW1
              go_wp2_with fail
              have hgo := down_go (p := (fun x => !ltR n rank by_ x D1[a]!)) (d := D1) (i := i) (j := j) (jm := jm) hjm hle (by first | exact HLT1.out | exact not_t HLT1.out | exact not_f HLT1.out)
              have HG := Lib.hid (HI.out.trans hgo)
              clear hgo
              go_roundg (jm + 1 - i)
              case measure => have := Hk.out; omega
              case rel => exact ⟨jm, by first | rfl | go_num, by omega, by omega, rfl, HS1, HG⟩
          · have hlei : ¬ (i : Int) ≤ (j : Int) := by omega
            go_wp2_with fail
            go_quiet (fail)
            go_wp2_with fail
            have hst := down_stop (p := (fun x => !ltR n rank by_ x D1[a]!)) (d := D1) (i := i) (j := j) (fun h => absurd h hle)
            have HST := Lib.hid (HI.out.trans hst)
            clear hst
            go_meet
            exact ⟨j, rfl, by omega, by omega, Lib.hid (HS.out.kept0 ((Kept.refl _ _).drewN _)), HST⟩
      case rest =>
        obtain ⟨j, rfl, hj1, hj2, HS3, HJ⟩ := hcut
        clear HS2
        have hrd := part_round HR.out HI.out HJ.out
        have hsn := scan_ne (fun _ => rfl) HI.out HJ.out (by omega)
        have HRD := Lib.hid hrd
        have hin0 : i ≤ b1 + 1 := hi2
        have hjn : (j : Int) < (n : Int) := by omega
        have HSN := Lib.hid hsn
        clear hrd hsn
        by_cases hij : j < i
        · have hiji : (j : Int) < (i : Int) := by omega
          have hre := HRD.out.1 hij
          have HRE := Lib.hid hre
          clear hre
          go_wp2_with fail
          by_cases hij2 : j = a
          · subst hij2
            obtain ⟨u2, da2, fa2, H12⟩ := HS3.out.exch1 j (by omega)
            go_wp2_with fail
            go_region
            all_goals
              go_wp2_with fail
              go_ret2
              have HX := H12
              exact HFIN.out true _ _ (by rw [HRE.out]; rfl) (by rw [HRE.out]; exact HX.out)
          · have hji2 : ¬ a = j := fun h => hij2 h.symm
            obtain ⟨u2, v2, da2, db2, fa2, fb2, H12, H22⟩ := HS3.out.exch j a (by omega) (by omega)
            go_wp2_with fail
            go_region
            all_goals
              go_wp2_with fail
              go_ret2
              have HX := (by first | exact H12 | exact H22)
              exact HFIN.out true _ _ (by rw [HRE.out]; rfl) (by rw [HRE.out]; exact HX.out)
        · have hiji : ¬ (j : Int) < (i : Int) := by omega
          have hre := HRD.out.2 hij
          have hlt := HSN.out hij
          have HRE := Lib.hid hre
          have hin : (i : Int) < (n : Int) := by omega
          obtain ⟨jm, hjm⟩ : ∃ jm, j - 1 = jm := ⟨_, rfl⟩
          have ejm : (j : Int) - 1 = (jm : Int) := by omega
          obtain ⟨ip, hip⟩ : ∃ ip, i + 1 = ip := ⟨_, rfl⟩
          have eip : (i : Int) + 1 = (ip : Int) := by omega
          rw [hjm, hip] at HRE
          have hb2 : a < ip ∧ jm < b := by omega
          have hb3 : ip ≤ jm + 1 := by omega
          clear hre hjm hip
          go_upto_region 10 with (fail)
          go_cut [] (fun wc => Hid (SortW w0 g c n (swp D1 i j) wc))
          case first =>
            have hnij : ¬ i = j := by omega
            have hnji : ¬ j = i := by omega
            obtain ⟨u2, v2, da2, db2, fa2, fb2, H12, H22⟩ := HS3.out.exch i j (by omega) (by omega)
            go_wp2_with fail
            go_region
            all_goals
              go_wp2_with fail
              go_meet
              exact (by first | exact H12 | exact H22)
          case rest =>
            have HS4 := hcut
            clear HS3 hcut
            go_wp2_with fail
            go_loopg [12, 13] (jm + 1 - ip) (fun k v u wr => ∃ (i j : Nat) (dk : Array Nat), v = .int .i64 (i : Nat) ∧ u = .int .i64 (j : Nat) ∧ a < i ∧ i ≤ j + 1 ∧ j < b ∧ k = j + 1 - i ∧ Hid (SortW w0 g c n dk wr) ∧ Hid (partLoop (ltR n rank by_) a i j dk = R))
            case atStart => exact ⟨ip, jm, _, rfl, rfl, hb2.1, hb3, hb2.2, rfl, HS4, HRE⟩
            case round =>
              clear HS4 HRE ejm eip
              obtain ⟨i0, j0, dk, rfl, rfl, hai0, hij0, hjb0, hk, HS5, HR5⟩ := hrel
              have Hk0 := Lib.hid hk
              clear hk
              go_upto_block 6 with fail
              go_cut [12] (fun v wc => ∃ i : Nat, v = .int .i64 (i : Nat) ∧ i0 ≤ i ∧ i ≤ j0 + 1 ∧ Hid (SortW w0 g c n dk wc) ∧ Hid (scanUp (fun x => ltR n rank by_ x dk[a]!) dk j0 i0 = i))
              case first =>
                go_wp2_with fail
                go_loopg [12] (j0 + 1 - i0) (fun k v wr => ∃ i : Nat, v = .int .i64 (i : Nat) ∧ i0 ≤ i ∧ i ≤ j0 + 1 ∧ k = j0 + 1 - i ∧ Hid (SortW w0 g c n dk wr) ∧ Hid (scanUp (fun x => ltR n rank by_ x dk[a]!) dk j0 i0 = scanUp (fun x => ltR n rank by_ x dk[a]!) dk j0 i))
                case atStart => exact ⟨i0, by first | rfl | go_num, Nat.le_refl _, by omega, by omega, HS5, Lib.hid rfl⟩
                case round =>
                  obtain ⟨i, rfl, hii, hij, hk, HS, HI⟩ := hrel
                  have Hk := Lib.hid hk
                  clear hk HS5
                  by_cases hle : i ≤ j0
                  · have hlei : (i : Int) ≤ (j0 : Int) := by omega
                    have hin : (i : Int) < (n : Int) := by omega
                    have hai : (a : Int) < (n : Int) := by omega
                    obtain ⟨x1, y1, r1, ca1, cb1, hlr1, hcall1⟩ := HC.out.test HS.out rc i a (by omega) (by omega)
                    have HCALL1 := Lib.hid hcall1
                    have HSW1 := HS
                    clear hcall1
                    by_cases hneg1 : r1 < 0
                    · have hdr1 : decide (r1 < 0) = true := decide_eq_true hneg1
                      have HLT1 := Lib.hid (hlr1.trans hdr1)
                      clear hlr1 hneg1
                      go_wp2_with fail
                      go_region_held3 (fun w' => Kept [] wr w' ∧ w'.cell? ⟨g, i, none⟩ = some (.int .i64 (x1 : Int)) ∧ w'.cell? ⟨g, a, none⟩ = some (.int .i64 (y1 : Int)))
                        (first | exact ⟨Kept.refl _ _, ca1, cb1⟩ | exact ⟨(Kept.refl _ _).drew, ca1, cb1⟩ | exact ⟨hk1, hk1.cellOf ca1 (by simp), hk1.cellOf cb1 (by simp)⟩)
                        (first | (go_at_call 32; refine (HCALL1.out _ (Kept.refl [] wr).drew).mono ?_; rintro e w1 ⟨rfl, hk1⟩))
                      have HS1 := Lib.hid (HSW1.out.kept0 hk1)
                      rename_i hS1
                      clear hS1 hk1 ca1 cb1 HCALL1 HSW1
                      go_wp2_with fail
                      have hgo := up_go (p := (fun x => ltR n rank by_ x dk[a]!)) (d := dk) (j := j0) (i := i) hle (by first | exact HLT1.out | exact not_t HLT1.out | exact not_f HLT1.out)
                      have HG := Lib.hid (HI.out.trans hgo)
                      clear hgo
                      go_roundg (j0 + 1 - (i + 1))
                      case measure => have := Hk.out; omega
                      case rel => exact ⟨i + 1, by go_num, by omega, by omega, rfl, HS1, HG⟩
                    · have hdr1 : decide (r1 < 0) = false := decide_eq_false hneg1
                      have HLT1 := Lib.hid (hlr1.trans hdr1)
                      clear hlr1 hneg1
                      go_wp2_with fail
                      go_region_held3 (fun w' => Kept [] wr w' ∧ w'.cell? ⟨g, i, none⟩ = some (.int .i64 (x1 : Int)) ∧ w'.cell? ⟨g, a, none⟩ = some (.int .i64 (y1 : Int)))
                        (first | exact ⟨Kept.refl _ _, ca1, cb1⟩ | exact ⟨(Kept.refl _ _).drew, ca1, cb1⟩ | exact ⟨hk1, hk1.cellOf ca1 (by simp), hk1.cellOf cb1 (by simp)⟩)
                        (first | (go_at_call 32; refine (HCALL1.out _ (Kept.refl [] wr).drew).mono ?_; rintro e w1 ⟨rfl, hk1⟩))
                      have HS1 := Lib.hid (HSW1.out.kept0 hk1)
                      rename_i hS1
                      clear hS1 hk1 ca1 cb1 HCALL1 HSW1
                      go_wp2_with fail
                      have hst := up_stop (p := (fun x => ltR n rank by_ x dk[a]!)) (d := dk) (j := j0) (i := i) (fun _ => by first | exact HLT1.out | exact not_t HLT1.out | exact not_f HLT1.out)
                      have HST := Lib.hid (HI.out.trans hst)
                      clear hst
                      go_meet
                      exact ⟨i, rfl, by omega, by omega, HS1, HST⟩
                  · have hlei : ¬ (i : Int) ≤ (j0 : Int) := by omega
                    go_wp2_with fail
                    go_quiet (fail)
                    go_wp2_with fail
                    have hst := up_stop (p := (fun x => ltR n rank by_ x dk[a]!)) (d := dk) (j := j0) (i := i) (fun h => absurd h hle)
                    have HST := Lib.hid (HI.out.trans hst)
                    clear hst
                    go_meet
                    exact ⟨i, rfl, by omega, by omega, Lib.hid (HS.out.kept0 ((Kept.refl _ _).drewN _)), HST⟩
              case rest =>
                obtain ⟨i, rfl, hi1, hi2, HS6, HI⟩ := hcut
                clear HS5
                go_upto_block 8 with fail
                go_cut [13] (fun v wc => ∃ j : Nat, v = .int .i64 (j : Nat) ∧ j ≤ j0 ∧ i ≤ j + 1 ∧ Hid (SortW w0 g c n dk wc) ∧ Hid (scanDown (fun x => !ltR n rank by_ x dk[a]!) dk i j0 = j))
                case first =>
                  go_wp2_with fail
                  go_loopg [13] (j0 + 1 - i) (fun k v wr => ∃ j : Nat, v = .int .i64 (j : Nat) ∧ j ≤ j0 ∧ i ≤ j + 1 ∧ k = j + 1 - i ∧ Hid (SortW w0 g c n dk wr) ∧ Hid (scanDown (fun x => !ltR n rank by_ x dk[a]!) dk i j0 = scanDown (fun x => !ltR n rank by_ x dk[a]!) dk i j))
                  case atStart => exact ⟨j0, by first | rfl | go_num, Nat.le_refl _, by omega, by omega, HS6, Lib.hid rfl⟩
                  case round =>
                    obtain ⟨j, rfl, hjj, hij, hk, HS, HI⟩ := hrel
                    have Hk := Lib.hid hk
                    clear hk HS6
                    by_cases hle : i ≤ j
                    · have hlei : (i : Int) ≤ (j : Int) := by omega
                      have hjn : (j : Int) < (n : Int) := by omega
                      have hai : (a : Int) < (n : Int) := by omega
                      obtain ⟨jm, hjm⟩ : ∃ jm, jm + 1 = j := ⟨j - 1, by omega⟩
                      have ejm : (j : Int) - 1 = (jm : Int) := by omega
                      obtain ⟨x1, y1, r1, ca1, cb1, hlr1, hcall1⟩ := HC.out.test HS.out rc j a (by omega) (by omega)
                      have HCALL1 := Lib.hid hcall1
                      have HSW1 := HS
                      clear hcall1
                      by_cases hneg1 : r1 < 0
                      · have hdr1 : decide (r1 < 0) = true := decide_eq_true hneg1
                        have HLT1 := Lib.hid (hlr1.trans hdr1)
                        clear hlr1 hneg1
                        go_wp2_with fail
                        go_region_held3 (fun w' => Kept [] wr w' ∧ w'.cell? ⟨g, j, none⟩ = some (.int .i64 (x1 : Int)) ∧ w'.cell? ⟨g, a, none⟩ = some (.int .i64 (y1 : Int)))
                          (first | exact ⟨Kept.refl _ _, ca1, cb1⟩ | exact ⟨(Kept.refl _ _).drew, ca1, cb1⟩ | exact ⟨hk1, hk1.cellOf ca1 (by simp), hk1.cellOf cb1 (by simp)⟩)
                          (first | (go_at_call 32; refine (HCALL1.out _ (Kept.refl [] wr).drew).mono ?_; rintro e w1 ⟨rfl, hk1⟩))
                        have HS1 := Lib.hid (HSW1.out.kept0 hk1)
                        rename_i hS1
                        clear hS1 hk1 ca1 cb1 HCALL1 HSW1
                        go_wp2_with fail
                        have hst := down_stop (p := (fun x => !ltR n rank by_ x dk[a]!)) (d := dk) (i := i) (j := j) (fun _ => by first | exact HLT1.out | exact not_t HLT1.out | exact not_f HLT1.out)
                        have HST := Lib.hid (HI.out.trans hst)
                        clear hst
                        go_meet
                        exact ⟨j, rfl, by omega, by omega, HS1, HST⟩
                      · have hdr1 : decide (r1 < 0) = false := decide_eq_false hneg1
                        have HLT1 := Lib.hid (hlr1.trans hdr1)
                        clear hlr1 hneg1
                        go_wp2_with fail
                        go_region_held3 (fun w' => Kept [] wr w' ∧ w'.cell? ⟨g, j, none⟩ = some (.int .i64 (x1 : Int)) ∧ w'.cell? ⟨g, a, none⟩ = some (.int .i64 (y1 : Int)))
                          (first | exact ⟨Kept.refl _ _, ca1, cb1⟩ | exact ⟨(Kept.refl _ _).drew, ca1, cb1⟩ | exact ⟨hk1, hk1.cellOf ca1 (by simp), hk1.cellOf cb1 (by simp)⟩)
                          (first | (go_at_call 32; refine (HCALL1.out _ (Kept.refl [] wr).drew).mono ?_; rintro e w1 ⟨rfl, hk1⟩))
                        have HS1 := Lib.hid (HSW1.out.kept0 hk1)
                        rename_i hS1
                        clear hS1 hk1 ca1 cb1 HCALL1 HSW1
                        go_wp2_with fail
                        have hgo := down_go (p := (fun x => !ltR n rank by_ x dk[a]!)) (d := dk) (i := i) (j := j) (jm := jm) hjm hle (by first | exact HLT1.out | exact not_t HLT1.out | exact not_f HLT1.out)
                        have HG := Lib.hid (HI.out.trans hgo)
                        clear hgo
                        go_roundg (jm + 1 - i)
                        case measure => have := Hk.out; omega
                        case rel => exact ⟨jm, by first | rfl | go_num, by omega, by omega, rfl, HS1, HG⟩
                    · have hlei : ¬ (i : Int) ≤ (j : Int) := by omega
                      go_wp2_with fail
                      go_quiet (fail)
                      go_wp2_with fail
                      have hst := down_stop (p := (fun x => !ltR n rank by_ x dk[a]!)) (d := dk) (i := i) (j := j) (fun h => absurd h hle)
                      have HST := Lib.hid (HI.out.trans hst)
                      clear hst
                      go_meet
                      exact ⟨j, rfl, by omega, by omega, Lib.hid (HS.out.kept0 ((Kept.refl _ _).drewN _)), HST⟩
                case rest =>
                  obtain ⟨j, rfl, hj1, hj2, HS7, HJ⟩ := hcut
                  clear HS6
                  have hrd := part_round HR5.out HI.out HJ.out
                  have hsn := scan_ne (fun _ => rfl) HI.out HJ.out (by omega)
                  have HRD := Lib.hid hrd
                  have hjn : (j : Int) < (n : Int) := by omega
                  have HSN := Lib.hid hsn
                  clear hrd hsn
                  by_cases hij : j < i
                  · have hiji : (j : Int) < (i : Int) := by omega
                    have hre := HRD.out.1 hij
                    have HRE := Lib.hid hre
                    clear hre
                    go_wp2_with fail
                    by_cases hij2 : j = a
                    · subst hij2
                      obtain ⟨u2, da2, fa2, H12⟩ := HS7.out.exch1 j (by omega)
                      go_wp2_with fail
                      go_region
                      all_goals
                        go_wp2_with fail
                        go_ret2
                        have HX := H12
                        exact HFIN.out false _ _ (by rw [HRE.out]; rfl) (by rw [HRE.out]; exact HX.out)
                    · have hji2 : ¬ a = j := fun h => hij2 h.symm
                      obtain ⟨u2, v2, da2, db2, fa2, fb2, H12, H22⟩ := HS7.out.exch j a (by omega) (by omega)
                      go_wp2_with fail
                      go_region
                      all_goals
                        go_wp2_with fail
                        go_ret2
                        have HX := (by first | exact H12 | exact H22)
                        exact HFIN.out false _ _ (by rw [HRE.out]; rfl) (by rw [HRE.out]; exact HX.out)
                  · have hiji : ¬ (j : Int) < (i : Int) := by omega
                    have hre := HRD.out.2 hij
                    have hlt := HSN.out hij
                    have hin : (i : Int) < (n : Int) := by omega
                    obtain ⟨jm, hjm⟩ : ∃ jm, j - 1 = jm := ⟨_, rfl⟩
                    have ejm : (j : Int) - 1 = (jm : Int) := by omega
                    obtain ⟨ip, hip⟩ : ∃ ip, i + 1 = ip := ⟨_, rfl⟩
                    have eip : (i : Int) + 1 = (ip : Int) := by omega
                    rw [hjm, hip] at hre
                    have HRE := Lib.hid hre
                    have hnij : ¬ i = j := by omega
                    have hnji : ¬ j = i := by omega
                    have hb3 : a < ip ∧ ip ≤ jm + 1 ∧ jm < b ∧ jm + 1 - ip < j0 + 1 - i0 := by omega
                    clear hre hjm hip
                    go_wp2_with fail
                    obtain ⟨u2, v2, da2, db2, fa2, fb2, H12, H22⟩ := HS7.out.exch i j (by omega) (by omega)
                    go_wp2_with fail
                    go_region
                    all_goals
                      go_wp2_with fail
                      go_roundg (jm + 1 - ip)
                      case measure => have := Hk0.out; omega
                      case rel => exact ⟨ip, jm, _, rfl, rfl, hb3.1, hb3.2.1, hb3.2.2.1, rfl, (by first | exact H12 | exact H22), HRE⟩
end Go.Proofs.Ytaeppgooenbfiaa
