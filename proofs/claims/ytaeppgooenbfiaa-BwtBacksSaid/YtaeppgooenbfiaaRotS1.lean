/-
  Of the sort's functions at rotate's compare: what a test and an exchange want; the walks of order2, median, medianAdjacent, choosePivot.
-/
import Derived.Test.YtaeppgooenbfiaaRotC
namespace Go.Proofs.Ytaeppgooenbfiaa
open Go.RowKit Go.Sort
set_option linter.unusedVariables false
set_option linter.unusedSimpArgs false

/-- What a test of two elements wants. -/
theorem CmpW.test {w0 w : World} {g c n rb ro by_ : Nat} {rank : List Nat} {d : Array Nat} (h : CmpW w0 g rb ro n by_ rank) (hW : SortW w0 g c n d w) (rc i j : Nat) (hi : i < n) (hj : j < n) :
    ∃ (x y : Nat) (r : Int), w.cell? ⟨g, i, none⟩ = some (.int .i64 (x : Int)) ∧ w.cell? ⟨g, j, none⟩ = some (.int .i64 (y : Int)) ∧ ltR n rank by_ d[i]! d[j]! = decide (r < 0) ∧
      (∀ w1, Kept [] w w1 → Calls Try.prog 32 #[ranksV (some ⟨rb, ro, none⟩) n rc by_, .int .i64 (x : Nat), .int .i64 (y : Nat)] w1 fun e w' => e = .returned (.int .i64 r) ∧ Kept [] w w') := by
  refine ⟨d[i]!, d[j]!, K.cmpR n rank by_ d[i]! d[j]!, hW.cell i hi, hW.cell j hj, rfl, fun w1 hk => ?_⟩
  refine (h.call (hW.kept0 hk) rc d[i]! d[j]! (hW.lt i hi) (hW.lt j hj)).mono ?_
  rintro e w' ⟨he, hk'⟩
  exact ⟨he, hk.trans hk' (by simp)⟩
theorem SortW.swap2' {w0 w : World} {g c n : Nat} {d : Array Nat} (h : SortW w0 g c n d w) (i j : Nat) (hi : i < n) (hj : j < n) :
    SortW w0 g c n (swp d i j) ((w.setCell ⟨g, j, none⟩ (.int .i64 (d[i]! : Nat))).setCell ⟨g, i, none⟩ (.int .i64 (d[j]! : Nat))) := by
  by_cases hij : i = j
  · subst hij; exact h.swap i i hi hi
  · exact h.swap2 i j hij hi hj
/-- What an exchange of two elements wants. -/
theorem SortW.exch {w0 w : World} {g c n : Nat} {d : Array Nat} (h : SortW w0 g c n d w) (i j : Nat) (hi : i < n) (hj : j < n) :
    ∃ (x y : Nat), w.cell? ⟨g, i, none⟩ = some (.int .i64 (x : Int)) ∧ w.cell? ⟨g, j, none⟩ = some (.int .i64 (y : Int)) ∧ w.frozen? ⟨g, i, none⟩ = false ∧ w.frozen? ⟨g, j, none⟩ = false ∧
      Hid (SortW w0 g c n (swp d i j) (((w.setCell ⟨g, i, none⟩ (.int .i64 (y : Nat))).setCell ⟨g, j, none⟩ (.int .i64 (x : Nat))).drew)) ∧
      Hid (SortW w0 g c n (swp d i j) (((w.setCell ⟨g, j, none⟩ (.int .i64 (x : Nat))).setCell ⟨g, i, none⟩ (.int .i64 (y : Nat))).drew)) :=
  ⟨d[i]!, d[j]!, h.cell i hi, h.cell j hj, h.row.free i, h.row.free j, Lib.hid (h.swap i j hi hj).drew, Lib.hid (h.swap2' i j hi hj).drew⟩

theorem SortW.exch1 {w0 w : World} {g c n : Nat} {d : Array Nat} (h : SortW w0 g c n d w) (i : Nat) (hi : i < n) :
    ∃ (x : Nat), w.cell? ⟨g, i, none⟩ = some (.int .i64 (x : Int)) ∧ w.frozen? ⟨g, i, none⟩ = false ∧
      Hid (SortW w0 g c n (swp d i i) (((w.setCell ⟨g, i, none⟩ (.int .i64 (x : Nat))).setCell ⟨g, i, none⟩ (.int .i64 (x : Nat))).drew)) :=
  ⟨d[i]!, h.cell i hi, h.row.free i, Lib.hid (h.swap i i hi hi).drew⟩

/-- The counter of exchanges. -/
def Ord2Post (w0 : World) (g c n : Nat) (d : Array Nat) (sb s a b : Nat) (e : Ending) (w' : World) : Prop :=
  ∃ p q s' : Nat, e = .returned (.tuple #[.int .i64 p, .int .i64 q]) ∧ ((p = a ∧ q = b) ∨ (p = b ∧ q = a)) ∧ s' ≤ s + 1 ∧ Arr w' sb 3 [.int .i64 (s' : Nat)] ∧ SortW w0 g c n d w'

set_option maxRecDepth 100000 in
set_option maxHeartbeats 1000000 in
theorem order2_ok (w0 : World) (g c n rb ro rc by_ : Nat) (rank : List Nat) (d : Array Nat) (a b sb s : Nat) (w : World) (hC : CmpW w0 g rb ro n by_ rank) (hW : SortW w0 g c n d w) (hA : Arr w sb 3 [.int .i64 (s : Nat)])
    (ha : a < n) (hb : b < n) (hs : s ≤ 100) (hsb : w0.heap.size ≤ sb) (hsg : sb ≠ g) :
    Calls Try.prog 57 #[.slice (some ⟨g, 0, none⟩) n c, .int .i64 a, .int .i64 b, .pointer (some ⟨sb, 0, none⟩), cmpV (some ⟨rb, ro, none⟩) n rc by_] w (Ord2Post w0 g c n d sb s a b) := by
  have hn9 := hC.n9
  obtain ⟨x, y, r, c0, c1, hlr, hcall⟩ := hC.test hW rc b a hb ha
  have hai : (a : Int) < (n : Int) := by omega
  have hbi : (b : Int) < (n : Int) := by omega
  have HW := Lib.hid hW
  have HA := Lib.hid hA
  have HCALL := Lib.hid hcall
  clear hC hW hA hcall hlr
  unfold cmpV
  by_cases hneg : r < 0
  · have hdr : decide (r < 0) = true := decide_eq_true hneg
    go_enter Try.func57, Try.ntmps57
    go_wp2_with fail
    go_region_held3 (fun w' => Kept [] w w' ∧ w'.cell? ⟨g, b, none⟩ = some (.int .i64 (x : Int)) ∧ w'.cell? ⟨g, a, none⟩ = some (.int .i64 (y : Int)))
      (first | exact ⟨Kept.refl _ _, c0, c1⟩ | exact ⟨(Kept.refl _ _).drew, c0, c1⟩ | exact ⟨hk2, hk2.cellOf c0 (by simp), hk2.cellOf c1 (by simp)⟩)
      (first | (go_at_call 32; refine (HCALL.out _ (Kept.refl [] w).drew).mono ?_; rintro e w2 ⟨rfl, hk2⟩))
    have hA2 := HA.out.kept hk2 (by simp)
    have a0 := hA2.cell (i := 0) rfl
    have f0 := hA2.free 0
    have hW2 := HW.out.kept0 hk2
    have HA2 := Lib.hid (hA2.set 0 (.int .i64 ((s + 1 : Nat) : Int)))
    have HW2 := Lib.hid hW2
    have HK2 := Lib.hid hk2
    clear hA2 hW2 hk2 c0 c1
    go_wp2_with fail
    go_ret2
    refine ⟨b, a, s + 1, rfl, .inr ⟨rfl, rfl⟩, Nat.le_refl _, HA2.out, HW2.out.row.setCell (by simp [foot, Value.ownBlock]; exact hsg) _, HW2.out.size, HW2.out.lt, HW2.out.kept.setCell (.inr hsb) _⟩
  · have hdr : decide (r < 0) = false := decide_eq_false hneg
    go_enter Try.func57, Try.ntmps57
    go_wp2_with fail
    go_region_held3 (fun w' => Kept [] w w' ∧ w'.cell? ⟨g, b, none⟩ = some (.int .i64 (x : Int)) ∧ w'.cell? ⟨g, a, none⟩ = some (.int .i64 (y : Int)))
      (first | exact ⟨Kept.refl _ _, c0, c1⟩ | exact ⟨(Kept.refl _ _).drew, c0, c1⟩ | exact ⟨hk2, hk2.cellOf c0 (by simp), hk2.cellOf c1 (by simp)⟩)
      (first | (go_at_call 32; refine (HCALL.out _ (Kept.refl [] w).drew).mono ?_; rintro e w2 ⟨rfl, hk2⟩))
    have HA2 := Lib.hid (HA.out.kept hk2 (by simp))
    have HW2 := Lib.hid (HW.out.kept0 hk2)
    clear hk2 c0 c1
    go_wp2_with fail
    go_ret2
    exact ⟨a, b, s, rfl, .inl ⟨rfl, rfl⟩, by omega, HA2.out, HW2.out⟩
/-- One of three, and the counter. -/
def MedPost (w0 : World) (g c n : Nat) (d : Array Nat) (sb s a b k : Nat) (e : Ending) (w' : World) : Prop :=
  ∃ p s' : Nat, e = .returned (.int .i64 p) ∧ (p = a ∨ p = b ∨ p = k) ∧ s' ≤ s + 3 ∧ Arr w' sb 3 [.int .i64 (s' : Nat)] ∧ SortW w0 g c n d w'

set_option maxRecDepth 100000 in
set_option maxHeartbeats 1000000 in
theorem median_ok (w0 : World) (g c n rb ro rc by_ : Nat) (rank : List Nat) (d : Array Nat) (a b k sb s : Nat) (w : World) (hC : CmpW w0 g rb ro n by_ rank) (hW : SortW w0 g c n d w) (hA : Arr w sb 3 [.int .i64 (s : Nat)])
    (ha : a < n) (hb : b < n) (hk : k < n) (hs : s ≤ 97) (hsb : w0.heap.size ≤ sb) (hsg : sb ≠ g) :
    Calls Try.prog 56 #[.slice (some ⟨g, 0, none⟩) n c, .int .i64 a, .int .i64 b, .int .i64 k, .pointer (some ⟨sb, 0, none⟩), cmpV (some ⟨rb, ro, none⟩) n rc by_] w (MedPost w0 g c n d sb s a b k) := by
  have HC := Lib.hid hC
  have h1 := order2_ok w0 g c n rb ro rc by_ rank d a b sb s w hC hW hA ha hb (by omega) hsb hsg
  have H1 := Lib.hid h1
  clear hC hW hA h1
  unfold cmpV at H1 ⊢
  go_enter Try.func56, Try.ntmps56
  go_wp2_with fail
  refine H1.out.mono ?_
  rintro e w1 ⟨p, q, s1, rfl, hpq, hs1, hA1, hW1⟩
  have h2 := order2_ok w0 g c n rb ro rc by_ rank d q k sb s1 w1 HC.out hW1 hA1 (by omega) hk (by omega) hsb hsg
  unfold cmpV at h2
  have H2 := Lib.hid h2
  have HPQ := Lib.hid hpq
  have hp : p < n := by omega
  clear hA1 hW1 h2 H1 hpq
  go_wp2_with fail
  refine H2.out.mono ?_
  rintro e w2 ⟨q2, k2, s2, rfl, hqk, hs2, hA2, hW2⟩
  have h3 := order2_ok w0 g c n rb ro rc by_ rank d p q2 sb s2 w2 HC.out hW2 hA2 hp (by have := HPQ.out; omega) (by omega) hsb hsg
  unfold cmpV at h3
  have H3 := Lib.hid h3
  have HQK := Lib.hid hqk
  clear hA2 hW2 h3 H2 hqk
  go_wp2_with fail
  refine H3.out.mono ?_
  rintro e w3 ⟨p3, q3, s3, rfl, hpq3, hs3, hA3, hW3⟩
  have HPQ3 := Lib.hid hpq3
  have HA3 := Lib.hid hA3
  have HW3 := Lib.hid hW3
  clear hA3 hW3 H3 hpq3
  go_wp2_with fail
  go_ret
  exact ⟨q3, s3, rfl, by have := HPQ.out; have := HQK.out; have := HPQ3.out; omega, by omega, HA3.out, HW3.out⟩

set_option maxRecDepth 100000 in
theorem medianA_ok (w0 : World) (g c n rb ro rc by_ : Nat) (rank : List Nat) (d : Array Nat) (a sb s : Nat) (w : World) (hC : CmpW w0 g rb ro n by_ rank) (hW : SortW w0 g c n d w) (hA : Arr w sb 3 [.int .i64 (s : Nat)])
    (h1 : 1 ≤ a) (ha : a + 1 < n) (hs : s ≤ 97) (hsb : w0.heap.size ≤ sb) (hsg : sb ≠ g) :
    Calls Try.prog 55 #[.slice (some ⟨g, 0, none⟩) n c, .int .i64 a, .pointer (some ⟨sb, 0, none⟩), cmpV (some ⟨rb, ro, none⟩) n rc by_] w (MedPost w0 g c n d sb s (a - 1) a (a + 1)) := by
  have hn9 := hC.n9
  have hm := median_ok w0 g c n rb ro rc by_ rank d (a - 1) a (a + 1) sb s w hC hW hA (by omega) (by omega) ha hs hsb hsg
  have e1 : IntKind.i64.wrap ((a : Int) - 1) = ((a - 1 : Nat) : Int) := by rw [IntWalk.i64_in _ (by omega)]; omega
  have e2 : IntKind.i64.wrap ((a : Int) + 1) = ((a + 1 : Nat) : Int) := by rw [IntWalk.i64_in _ (by omega)]; omega
  have e1' : (a : Int) - 1 = ((a - 1 : Nat) : Int) := by omega
  rw [show ((a + 1 : Nat) : Int) = (a : Int) + 1 by omega] at hm
  have HM := Lib.hid hm
  clear hC hW hA hm e1 e2
  unfold cmpV at HM ⊢
  go_enter Try.func55, Try.ntmps55
  go_wp2_with fail
  refine HM.out.mono ?_
  rintro e w1 ⟨p, s1, rfl, hp, hs1, hA1, hW1⟩
  have H := Lib.hid (show MedPost w0 g c n d sb s (a - 1) a (a + 1) (.returned (.int .i64 p)) w1 from ⟨p, s1, rfl, hp, hs1, hA1, hW1⟩)
  clear hA1 hW1 hp HM
  go_wp2_with fail
  go_ret
  exact H.out

/-- The pivot. -/
def PivPost (w0 : World) (g c n : Nat) (d : Array Nat) (a b : Nat) (e : Ending) (w' : World) : Prop :=
  ∃ (p : Nat) (h : Int), e = .returned (.tuple #[.int .i64 p, .int .i64 h]) ∧ a ≤ p ∧ p < b ∧ SortW w0 g c n d w'

set_option maxRecDepth 100000 in
set_option maxHeartbeats 2000000 in
theorem pivot_ok (w0 : World) (g c n rb ro rc by_ : Nat) (rank : List Nat) (d : Array Nat) (a b : Nat) (w : World) (hC : CmpW w0 g rb ro n by_ rank) (hW : SortW w0 g c n d w) (hab : a + 12 < b) (hb : b ≤ n) :
    Calls Try.prog 45 #[.slice (some ⟨g, 0, none⟩) n c, .int .i64 a, .int .i64 b, cmpV (some ⟨rb, ro, none⟩) n rc by_] w (PivPost w0 g c n d a b) := by
  have hn9 := hC.n9
  have HC := Lib.hid hC
  obtain ⟨l, hl⟩ : ∃ l, b - a = l := ⟨_, rfl⟩
  obtain ⟨q, hq⟩ : ∃ q, l / 4 = q := ⟨_, rfl⟩
  obtain ⟨i, hi⟩ : ∃ i, a + q = i := ⟨_, rfl⟩
  obtain ⟨j, hj⟩ : ∃ j, a + q * 2 = j := ⟨_, rfl⟩
  obtain ⟨k, hk⟩ : ∃ k, a + q * 3 = k := ⟨_, rfl⟩
  have hq3 : 3 ≤ q := by omega
  have b1 : a + 3 ≤ i ∧ i + 1 < b := by omega
  have b2 : a + 3 ≤ j ∧ j + 1 < b := by omega
  have b3 : a + 3 ≤ k ∧ k + 1 < b := by omega
  have el : (b : Int) - (a : Int) = (l : Int) := by omega
  have eq : (l : Int) / 4 = (q : Int) := by omega
  have ei : (a : Int) + (q : Int) = (i : Int) := by omega
  have ej : (a : Int) + (q : Int) * 2 = (j : Int) := by omega
  have ek : (a : Int) + (q : Int) * 3 = (k : Int) := by omega
  have hsb0 : w0.heap.size ≤ w.heap.size := hW.kept.size
  have hgl : g < w.heap.size := hW.row.lt g (by simp [foot, Value.ownBlock])
  have hW1 : SortW w0 g c n d (w.alloc (.cells #[.int .i64 0] 3)) := hW.kept0 ((Kept.refl _ _).alloc _)
  have hA1 : Arr (w.alloc (.cells #[.int .i64 0] 3)) w.heap.size 3 [.int .i64 ((0 : Nat) : Int)] := Arr.new w [.int .i64 ((0 : Nat) : Int)] 3
  have HW1 := Lib.hid hW1
  have HA1 := Lib.hid hA1
  have g8 : decide (8 ≤ (l : Int)) = true := by simp; omega
  have hl2 : a + l = b := by omega
  have hlb : l ≤ 1000000000 := by omega
  clear hW hW1 hA1 hC hl hq hi hj hk
  unfold cmpV
  -- what follows the choice of three
  have fin : ∀ (i j k s : Nat) (w1 : World), a ≤ i ∧ i < b → a ≤ j ∧ j < b → a ≤ k ∧ k < b → s ≤ 9 → SortW w0 g c n d w1 → Arr w1 w.heap.size 3 [.int .i64 (s : Nat)] → w.heap.size < w1.heap.size →
      Calls Try.prog 56 #[.slice (some ⟨g, 0, none⟩) n c, .int .i64 i, .int .i64 j, .int .i64 k, .pointer (some ⟨w.heap.size, 0, none⟩), .func (.func 32) #[ranksV (some ⟨rb, ro, none⟩) n rc by_] #[]] w1
        fun e w' => ∃ p s' : Nat, e = .returned (.int .i64 p) ∧ (a ≤ p ∧ p < b) ∧ s' ≤ 12 ∧ Arr w' w.heap.size 3 [.int .i64 (s' : Nat)] ∧ SortW w0 g c n d w' := by
    intro i j k s w1 h1 h2 h3 hs hW hA hz
    have hm := median_ok w0 g c n rb ro rc by_ rank d i j k w.heap.size s w1 HC.out hW hA (by omega) (by omega) (by omega) (by omega) hsb0 (by omega)
    unfold cmpV at hm
    refine hm.mono ?_
    rintro e w2 ⟨p, s', rfl, hp, hs', hA2, hW2⟩
    exact ⟨p, s', rfl, by omega, by omega, hA2, hW2⟩
  have FIN := Lib.hid fin
  clear fin
  by_cases h50 : 50 ≤ l
  · have g50 : decide (50 ≤ (l : Int)) = true := by simp; omega
    clear h50
    go_enter Try.func45, Try.ntmps45
    go_wp2_with fail
    have hm1 := medianA_ok w0 g c n rb ro rc by_ rank d i w.heap.size 0 _ HC.out HW1.out HA1.out (by omega) (by omega) (by omega) hsb0 (by omega)
    unfold cmpV at hm1
    refine hm1.mono ?_
    rintro e w1 ⟨i2, s1, rfl, hi2, hs1, hA2, hW2⟩
    have HI2 := Lib.hid (show a ≤ i2 ∧ i2 < b by omega)
    have HW2 := Lib.hid hW2
    have HA2 := Lib.hid hA2
    clear hm1 hi2 hA2 hW2
    go_wp2_with fail
    have hm2 := medianA_ok w0 g c n rb ro rc by_ rank d j w.heap.size s1 _ HC.out HW2.out HA2.out (by omega) (by omega) (by omega) hsb0 (by omega)
    unfold cmpV at hm2
    refine hm2.mono ?_
    rintro e w2 ⟨j2, s2, rfl, hj2, hs2, hA3, hW3⟩
    have HJ2 := Lib.hid (show a ≤ j2 ∧ j2 < b by omega)
    have HW3 := Lib.hid hW3
    have HA3 := Lib.hid hA3
    clear hm2 hj2 hA3 hW3
    go_wp2_with fail
    have hm3 := medianA_ok w0 g c n rb ro rc by_ rank d k w.heap.size s2 _ HC.out HW3.out HA3.out (by omega) (by omega) (by omega) hsb0 (by omega)
    unfold cmpV at hm3
    refine hm3.mono ?_
    rintro e w3 ⟨k2, s3, rfl, hk2, hs3, hA4, hW4⟩
    have HK2 := Lib.hid (show a ≤ k2 ∧ k2 < b by omega)
    have HW4 := Lib.hid hW4
    have HA4 := Lib.hid hA4
    clear hm3 hk2 hA4 hW4
    go_wp2_with fail
    refine (FIN.out i2 j2 k2 s3 _ HI2.out HJ2.out HK2.out (by omega) HW4.out HA4.out HA4.out.lt).mono ?_
    rintro e w4 ⟨p, s4, rfl, hp, hs4, hA5, hW5⟩
    have HP := Lib.hid hp
    have HW5 := Lib.hid hW5
    have c0 := hA5.cell (i := 0) rfl
    clear hp hA5 hW5
    by_cases z0 : s4 = 0
    · subst z0
      go_wp2_with fail
      go_ret2
      exact ⟨p, _, rfl, HP.out.1, HP.out.2, HW5.out⟩
    · by_cases z12 : s4 = 12
      · subst z12
        go_wp2_with fail
        go_ret2
        exact ⟨p, _, rfl, HP.out.1, HP.out.2, HW5.out⟩
      · have e0 : ((s4 : Int) == 0) = false := beq_eq_false_iff_ne.2 (by omega)
        have e12 : ((s4 : Int) == 12) = false := beq_eq_false_iff_ne.2 (by omega)
        clear z0 z12
        go_wp2_with fail
        go_ret2
        exact ⟨p, _, rfl, HP.out.1, HP.out.2, HW5.out⟩
  · have g50 : decide (50 ≤ (l : Int)) = false := by simp; omega
    clear h50
    go_enter Try.func45, Try.ntmps45
    go_wp2_with fail
    refine (FIN.out i j k 0 _ (by omega) (by omega) (by omega) (by omega) HW1.out HA1.out HA1.out.lt).mono ?_
    rintro e w4 ⟨p, s4, rfl, hp, hs4, hA5, hW5⟩
    have HP := Lib.hid hp
    have HW5 := Lib.hid hW5
    have c0 := hA5.cell (i := 0) rfl
    clear hp hA5 hW5
    by_cases z0 : s4 = 0
    · subst z0
      go_wp2_with fail
      go_ret2
      exact ⟨p, _, rfl, HP.out.1, HP.out.2, HW5.out⟩
    · by_cases z12 : s4 = 12
      · subst z12
        go_wp2_with fail
        go_ret2
        exact ⟨p, _, rfl, HP.out.1, HP.out.2, HW5.out⟩
      · have e0 : ((s4 : Int) == 0) = false := beq_eq_false_iff_ne.2 (by omega)
        have e12 : ((s4 : Int) == 12) = false := beq_eq_false_iff_ne.2 (by omega)
        clear z0 z12
        go_wp2_with fail
        go_ret2
        exact ⟨p, _, rfl, HP.out.1, HP.out.2, HW5.out⟩
end Go.Proofs.Ytaeppgooenbfiaa
