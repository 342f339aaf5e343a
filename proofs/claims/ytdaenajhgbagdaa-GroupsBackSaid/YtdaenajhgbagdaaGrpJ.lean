/-
  The walk of groups.Take.
-/
import Derived.Test.YtdaenajhgbagdaaRefG8
import Derived.Test.YtdaenajhgbagdaaGrpX
import Derived.Test.YtdaenajhgbagdaaDTake
import Derived.Deep.RegionLaw
namespace Go.Proofs.Ytdaenajhgbagdaa
open Go.RowKit
set_option linter.unusedVariables false
set_option linter.unusedSimpArgs false

/-- In Take's first loop: i picks are read. -/
def GPickI (w : World) (s : ByteArray) (r q g gP m M : Nat) (R : List Nat × Nat × Nat) (k : Nat) (v : Value) (wr : World) : Prop :=
  ∃ (i p : Nat) (out ord : List Nat) (a : Option Addr) (c : Nat), k = M - i ∧ i ≤ M ∧ v = .int .u64 (i : Nat) ∧ p ≤ 8 * s.size ∧ out.length ≤ i ∧ Hid (ord.length = m) ∧ Hid (R = K.picksG (K.bitsOf s.data.toList) m (M - i) ord out p) ∧
    Hid (Row wr 3 (.slice a out.length c) (natVals out)) ∧ Hid (Blk wr g (natVals ord)) ∧ Hid (Rd wr r q s p) ∧ Hid (Arr wr gP 32 [.slice none 0 0, .slice a out.length c]) ∧ Hid (Arr wr w.heap.size 32 [.slice none 0 0, .slice none 0 0]) ∧
    Hid (Apart (footA a) [w.heap.size, r, q, gP, g]) ∧ Hid (Kept [] w wr) ∧ Hid (Fresh w.heap.size (footA a))
/-- What a round leaves: a pick more. -/
theorem gpick_next {w wr w3 w4 w5 : World} {s : ByteArray} {r q g gP n p : Nat} {a a5 : Option Addr} {c c5 x : Nat} {out ord2 : List Nat} (hn : n = out.length) (hR : Row wr 3 (.slice a out.length c) (natVals out))
    (hA : Arr wr gP 32 [.slice none 0 0, .slice a out.length c]) (hB : Arr wr w.heap.size 32 [.slice none 0 0, .slice none 0 0]) (hap : Apart (footA a) [w.heap.size, r, q, gP, g]) (hK : Kept [] w wr) (hF : Fresh w.heap.size (footA a))
    (hord : w.heap.size < r ∧ w.heap.size < q ∧ r < gP ∧ q < gP ∧ gP < g ∧ g < wr.heap.size) (hk3 : Kept [r] wr w3) (hrd : Rd w3 r q s p) (hk4 : Kept [g] w3 w4) (hb4 : Blk w4 g (natVals ord2))
    (hr5 : Row w5 3 (.slice a5 (out.length + 1) c5) (natVals (out ++ [x]))) (hk5 : Kept (foot (.slice a out.length c)) w4 w5) (hg5 : Grew w4.heap.size (foot (.slice a out.length c)) (foot (.slice a5 (out.length + 1) c5))) :
    Row (w5.setCell ⟨gP, 1, none⟩ (.slice a5 (out.length + 1) c5)) 3 (.slice a5 (out ++ [x]).length c5) (natVals (out ++ [x])) ∧ Blk (w5.setCell ⟨gP, 1, none⟩ (.slice a5 (out.length + 1) c5)) g (natVals ord2) ∧ Rd (w5.setCell ⟨gP, 1, none⟩ (.slice a5 (out.length + 1) c5)) r q s p ∧
      Arr (w5.setCell ⟨gP, 1, none⟩ (.slice a5 (out.length + 1) c5)) gP 32 [.slice none 0 0, .slice a5 (out ++ [x]).length c5] ∧ Arr (w5.setCell ⟨gP, 1, none⟩ (.slice a5 (out.length + 1) c5)) w.heap.size 32 [.slice none 0 0, .slice none 0 0] ∧
      Apart (footA a5) [w.heap.size, r, q, gP, g] ∧ Kept [] w (w5.setCell ⟨gP, 1, none⟩ (.slice a5 (out.length + 1) c5)) ∧ Fresh w.heap.size (footA a5) := by
  have e : (out ++ [x]).length = out.length + 1 := by simp
  rw [foot_slice] at hk5 hg5
  rw [foot_slice] at hg5
  obtain ⟨o1, o2, o3, o4, o5, o6⟩ := hord
  have z3 := hk3.size
  have z4 := hk4.size
  have hapn : ∀ y ∈ [w.heap.size, r, q, gP, g], y ∉ footA a := fun y hy hm => hap y hm hy
  have hA4 := (hA.kept hk3 (by simp; omega)).kept hk4 (by simp; omega)
  have hB4 := (hB.kept hk3 (by simp; omega)).kept hk4 (by simp; omega)
  have hrd4 := hrd.kept hk4 (by intro y hy hm; simp at hy hm; omega)
  have hA5 := hA4.kept hk5 (hapn gP (by simp))
  have hB5 := hB4.kept hk5 (hapn _ (by simp))
  have hrd5 := hrd4.kept hk5 (by intro y hy hm; simp at hy; rcases hy with rfl | rfl; exact hapn y (by simp) hm; exact hapn y (by simp) hm)
  have hb5 := hb4.kept hk5 (hapn g (by simp))
  have hkS : Kept [gP] w5 (w5.setCell ⟨gP, 1, none⟩ (.slice a5 (out.length + 1) c5)) := (Kept.refl [gP] w5).setCell (p := ⟨gP, 1, none⟩) (by simp) _
  have hap5 : Apart (footA a5) [w.heap.size, r, q, gP, g] := by
    intro y hy hm
    rcases hg5 y hy with h | h
    · exact hap y h hm
    · simp at hm; omega
  have hK4 : Kept [] w w4 := (hK.trans hk3 (by intro y hy; simp at hy; omega)).trans hk4 (by intro y hy; simp at hy; omega)
  refine ⟨?_, hb5.kept hkS (by simp; omega), hrd5.kept hkS (by intro y hy hm; simp at hy hm; omega), ?_, hB5.kept hkS (by simp; omega), hap5, (hK4.new hk5 hF).trans hkS (by intro y hy; simp at hy; omega), hF.grow hg5 hK4.size⟩
  · rw [e]
    exact hr5.kept hkS (fun y hy hm => by rw [foot_slice] at hy; simp at hm; subst hm; exact hap5 y hy (by simp))
  · rw [e]; exact hA5.set 1 _
/-- In Take's second loop: i tables are read. -/
def GTakI (w : World) (gP : Nat) (pv : Value) (aC : Option Addr) (M : Nat) (C : List Nat) (bs : List Bool) (n : Int) (many : Nat) (R : List (List Int) × Nat × Nat) (k : Nat) (v1 v : Value) (wr : World) : Prop :=
  ∃ (i p : Nat) (T : List (List Int)) (vs : List Value) (a : Option Addr) (c : Nat), k = many - i ∧ i ≤ many ∧ v = .int .u64 (i : Nat) ∧ v1 = .int .i64 (p : Nat) ∧ p ≤ bs.length ∧ Hid (T.length = i ∧ ∀ t ∈ T, t.length ≤ 258) ∧ Hid (R = K.tabsG bs n (many - i) T p) ∧
    Hid (Row wr 30 (.slice a i c) vs) ∧ Hid (TabsI wr (w.heap.size :: gP :: footA a) vs T) ∧ Hid (FirmS wr (w.heap.size :: gP :: footA a) aC M (natVals C)) ∧ Hid (Arr wr gP 32 [.slice a i c, pv]) ∧ Hid (Arr wr w.heap.size 32 [.slice none 0 0, .slice none 0 0]) ∧
    Hid (Apart (footA a) [w.heap.size, gP]) ∧ Hid (Kept [] w wr) ∧ Hid (Fresh w.heap.size (footA a))
set_option maxRecDepth 100000 in
set_option maxHeartbeats 4000000 in
theorem gtake_any (s : ByteArray) (at_ n : Int) (w : World) (hs : s.size ≤ 1000000000) :
    Calls Try.prog 26 #[.string s, .int .i64 at_, .int .i64 n] w (PlanAtPost (K.takeGR (K.bitsOf s.data.toList) at_ n) w) := by
  have hbl := bitsOf_len s
  have hk : Kept [] w (w.alloc (.cells #[.slice none 0 0, .slice none 0 0] 32)) := (Kept.refl _ _).alloc _
  have hA := Arr.new w [.slice none 0 0, .slice none 0 0] 32
  have HK := Lib.hid hk
  have HA := Lib.hid hA
  have HBL := Lib.hid hbl
  clear hk hA hbl
  by_cases h1 : at_ < 0 ∨ (8 * s.size : Nat) < at_
  · have HR := Lib.hid (takeGR_bad (bs := K.bitsOf s.data.toList) (at_ := at_) (n := n) (by rw [HBL.out]; omega))
    go_enter Try.func26, Try.ntmps26
    go_wp2_with fail
    refine (newReader_no s at_ _ (by omega) h1).mono ?_
    rintro e w1 ⟨rfl, hw1⟩
    have hk1 : Kept [] (w.alloc (.cells #[.slice none 0 0, .slice none 0 0] 32)) w1 := by rw [hw1]; exact (Kept.refl _ _).alloc _
    have HK1 := Lib.hid (HK.out.trans hk1 (by simp))
    have HA1 := Lib.hid (HA.out.kept hk1 (by simp))
    clear hw1 hk1 h1
    have hB3 := HA1.out
    have r0 := hB3.cell (i := 0) (u := .slice none 0 0) rfl
    have r1 := hB3.cell (i := 1) (u := .slice none 0 0) rfl
    have f0 := hB3.free 0
    have f1 := hB3.free 1
    have s0 := ((hB3.set 0 (.slice none 0 0)).set 1 (.slice none 0 0)).cell (i := 0) (u := .slice none 0 0) rfl
    have s1 := ((hB3.set 0 (.slice none 0 0)).set 1 (.slice none 0 0)).cell (i := 1) (u := .slice none 0 0) rfl
    clear hB3
    go_wp2_with fail
    refine bodyPost_ret (v := .tuple #[planV none 0 0 none 0 0, .int .i64 0, .int .i64 (2 : Nat)]) (by simp [results, Try.results26, go_sem, planV, s0, s1]) rfl ?_
    exact PlanAtPost.err HR.out (by rfl) ((HK1.out.setCell (p := ⟨w.heap.size, 0, none⟩) (.inr (by simp)) _).setCell (p := ⟨w.heap.size, 1, none⟩) (.inr (by simp)) _)
  obtain ⟨p, rfl⟩ := Int.eq_ofNat_of_zero_le (show 0 ≤ at_ by omega)
  have hp8 : p ≤ 8 * s.size := by omega
  clear h1
  by_cases h3 : n < 3
  · have g3 : decide (n < 3) = true := decide_eq_true h3
    have HR := Lib.hid (takeGR_bad (bs := K.bitsOf s.data.toList) (at_ := (p : Int)) (n := n) (.inr (.inr (.inl h3))))
    go_enter Try.func26, Try.ntmps26
    go_wp2_with fail
    refine (newReader_new s (p : Int) _ (by omega) (by omega) (by simpa using hp8)).mono ?_
    rintro e w1 ⟨r, q, rfl, -, hk1, -⟩
    have HK1 := Lib.hid (HK.out.trans hk1 (by simp))
    have HA1 := Lib.hid (HA.out.kept hk1 (by simp))
    clear hk1 h3
    have hB3 := HA1.out
    have r0 := hB3.cell (i := 0) (u := .slice none 0 0) rfl
    have r1 := hB3.cell (i := 1) (u := .slice none 0 0) rfl
    have f0 := hB3.free 0
    have f1 := hB3.free 1
    have s0 := ((hB3.set 0 (.slice none 0 0)).set 1 (.slice none 0 0)).cell (i := 0) (u := .slice none 0 0) rfl
    have s1 := ((hB3.set 0 (.slice none 0 0)).set 1 (.slice none 0 0)).cell (i := 1) (u := .slice none 0 0) rfl
    clear hB3
    go_wp2_with fail
    refine bodyPost_ret (v := .tuple #[planV none 0 0 none 0 0, .int .i64 0, .int .i64 (2 : Nat)]) (by simp [results, Try.results26, go_sem, planV, s0, s1]) rfl ?_
    exact PlanAtPost.err HR.out (by rfl) ((HK1.out.setCell (p := ⟨w.heap.size, 0, none⟩) (.inr (by simp)) _).setCell (p := ⟨w.heap.size, 1, none⟩) (.inr (by simp)) _)
  have g3 : decide (n < 3) = false := decide_eq_false h3
  by_cases h4 : 258 < n
  · have g4 : decide (258 < n) = true := decide_eq_true h4
    have HR := Lib.hid (takeGR_bad (bs := K.bitsOf s.data.toList) (at_ := (p : Int)) (n := n) (.inr (.inr (.inr h4))))
    go_enter Try.func26, Try.ntmps26
    go_wp2_with fail
    refine (newReader_new s (p : Int) _ (by omega) (by omega) (by simpa using hp8)).mono ?_
    rintro e w1 ⟨r, q, rfl, -, hk1, -⟩
    have HK1 := Lib.hid (HK.out.trans hk1 (by simp))
    have HA1 := Lib.hid (HA.out.kept hk1 (by simp))
    clear hk1 h3 h4
    have hB3 := HA1.out
    have r0 := hB3.cell (i := 0) (u := .slice none 0 0) rfl
    have r1 := hB3.cell (i := 1) (u := .slice none 0 0) rfl
    have f0 := hB3.free 0
    have f1 := hB3.free 1
    have s0 := ((hB3.set 0 (.slice none 0 0)).set 1 (.slice none 0 0)).cell (i := 0) (u := .slice none 0 0) rfl
    have s1 := ((hB3.set 0 (.slice none 0 0)).set 1 (.slice none 0 0)).cell (i := 1) (u := .slice none 0 0) rfl
    clear hB3
    go_wp2_with fail
    refine bodyPost_ret (v := .tuple #[planV none 0 0 none 0 0, .int .i64 0, .int .i64 (2 : Nat)]) (by simp [results, Try.results26, go_sem, planV, s0, s1]) rfl ?_
    exact PlanAtPost.err HR.out (by rfl) ((HK1.out.setCell (p := ⟨w.heap.size, 0, none⟩) (.inr (by simp)) _).setCell (p := ⟨w.heap.size, 1, none⟩) (.inr (by simp)) _)
  have g4 : decide (258 < n) = false := decide_eq_false h4
  obtain ⟨bs, hbs⟩ : ∃ bs, K.bitsOf s.data.toList = bs := ⟨_, rfl⟩
  have hgr : K.takeGR bs (p : Int) n = if (K.takeR bs p 3).2 ≠ 0 then ([], [], 0, (K.takeR bs p 3).2) else if (K.takeR bs p 3).1 < 2 ∨ 6 < (K.takeR bs p 3).1 then ([], [], 0, 110) else
      if (K.takeR bs (p + 3) 15).2 ≠ 0 then ([], [], 0, (K.takeR bs (p + 3) 15).2) else if (K.takeR bs (p + 3) 15).1 = 0 then ([], [], 0, 110) else
      if (K.picksG bs (K.takeR bs p 3).1 (K.takeR bs (p + 3) 15).1 (List.range (K.takeR bs p 3).1) [] (p + 18)).2.2 ≠ 0 then ([], [], 0, (K.picksG bs (K.takeR bs p 3).1 (K.takeR bs (p + 3) 15).1 (List.range (K.takeR bs p 3).1) [] (p + 18)).2.2) else
      if (K.tabsG bs n (K.takeR bs p 3).1 [] (K.picksG bs (K.takeR bs p 3).1 (K.takeR bs (p + 3) 15).1 (List.range (K.takeR bs p 3).1) [] (p + 18)).2.1).2.2 ≠ 0 then ([], [], 0, (K.tabsG bs n (K.takeR bs p 3).1 [] (K.picksG bs (K.takeR bs p 3).1 (K.takeR bs (p + 3) 15).1 (List.range (K.takeR bs p 3).1) [] (p + 18)).2.1).2.2) else
      ((K.tabsG bs n (K.takeR bs p 3).1 [] (K.picksG bs (K.takeR bs p 3).1 (K.takeR bs (p + 3) 15).1 (List.range (K.takeR bs p 3).1) [] (p + 18)).2.1).1, (K.picksG bs (K.takeR bs p 3).1 (K.takeR bs (p + 3) 15).1 (List.range (K.takeR bs p 3).1) [] (p + 18)).1, (K.tabsG bs n (K.takeR bs p 3).1 [] (K.picksG bs (K.takeR bs p 3).1 (K.takeR bs (p + 3) 15).1 (List.range (K.takeR bs p 3).1) [] (p + 18)).2.1).2.1, 0) := by
    unfold K.takeGR
    rw [if_neg (by rw [← hbs, HBL.out]; omega), Int.toNat_natCast]
  have hk15 : (K.takeR bs (p + 3) 15).1 ≤ 32767 := by
    unfold K.takeR
    split
    · simp
    · split
      · simp
      · have h1 := K.num_lt (K.piece bs (p + 3) (15 : Int).toNat)
        have h2 : (K.piece bs (p + 3) (15 : Int).toNat).length ≤ 15 := by unfold K.piece; rw [List.length_take]; simp; omega
        have h3 : 2 ^ (K.piece bs (p + 3) (15 : Int).toNat).length ≤ 2 ^ 15 := Nat.pow_le_pow_right (by decide) h2
        simp only
        omega
  have hT3 := K.takeR_zero bs p 3
  have hT15 := K.takeR_zero bs (p + 3) 15
  have HC1 := Lib.hid (fun (W : World) (r q : Nat) (hr : Rd W r q s p) => take_any r q s p 3 W hr (by omega) hp8)
  have HC2 := Lib.hid (fun (W : World) (r q : Nat) (hr : Rd W r q s (p + 3)) (h : p + 3 ≤ 8 * s.size) => take_any r q s (p + 3) 15 W hr (by omega) h)
  rw [hbs] at HC1 HC2
  obtain ⟨⟨m, e1⟩, hA1⟩ : ∃ A, K.takeR bs p 3 = A := ⟨_, rfl⟩
  obtain ⟨⟨M, e2⟩, hA2⟩ : ∃ A, K.takeR bs (p + 3) 15 = A := ⟨_, rfl⟩
  rw [← hbs] at hgr hA1 hA2 hk15 hT3 hT15 HC1 HC2
  clear hbs bs
  rw [hA1] at hT3 hgr HC1
  rw [hA2] at hT15 hk15 hgr HC2
  have hle1 : e1 = 0 → p + 3 ≤ 8 * s.size := by
    intro h
    have := (hT3 h).2.2
    rw [HBL.out] at this
    simp at this; omega
  have hle2 : e2 = 0 → p + 18 ≤ 8 * s.size := by
    intro h
    have := (hT15 h).2.2
    rw [HBL.out] at this
    simp at this; omega
  have hk15 : M ≤ 32767 := hk15
  have HGR := Lib.hid hgr
  have HN := Lib.hid (show 3 ≤ n ∧ n ≤ 258 by omega)
  have HLE1 := Lib.hid hle1
  have HLE2 := Lib.hid hle2
  clear hgr hA1 hA2 hle1 hle2 hT3 hT15 h3 h4
  go_enter Try.func26, Try.ntmps26
  go_wp2_with fail
  refine (newReader_new s (p : Int) _ (by omega) (by omega) (by simpa using hp8)).mono ?_
  rintro e w1 ⟨r, q, rfl, hrd, hk1, hfr⟩
  rw [Int.toNat_natCast] at hrd
  have HK1 := Lib.hid (HK.out.trans hk1 (by simp))
  have HA1 := Lib.hid (HA.out.kept hk1 (by simp))
  have HRD := Lib.hid hrd
  have HRQ := Lib.hid (show w.heap.size < r ∧ w.heap.size < q ∧ r < w1.heap.size ∧ q < w1.heap.size by
    have h1 := hfr r (by simp)
    have h2 := hfr q (by simp)
    have h3 := hrd.lt r (by simp)
    have h4 := hrd.lt q (by simp)
    simp at h1 h2
    omega)
  clear hrd hk1 hfr HK HA
  go_wp2_with fail
  refine (HC1.out w1 r q HRD.out).mono ?_
  rintro e w2 ⟨rfl, hrd, hk2⟩
  have HK2 := Lib.hid (HK1.out.trans hk2 (by intro y hy; simp at hy; subst hy; exact .inr (by have := HRQ.out; omega)))
  have HA2 := Lib.hid (HA1.out.kept hk2 (by simp; have := HRQ.out; omega))
  have HRD2 := Lib.hid hrd
  have HZ2 := Lib.hid hk2.size
  clear hrd hk2 HK1 HA1 HRD HC1 g3 g4
  by_cases hz1 : e1 = 0
  · subst hz1
    have hp3 := HLE1.out rfl
    have HRD2 := Lib.hid (show Rd w2 r q s (p + 3) from HRD2.out)
    by_cases hm2 : m < 2
    · have q1 : decide ((m : Int) < 2) = true := by simp; omega
      have HR := Lib.hid (show K.takeGR (K.bitsOf s.data.toList) (p : Int) n = ([], [], 0, 110) by rw [HGR.out, if_neg (by simp), if_pos (.inl hm2)])
      clear hm2
      have hB3 := HA2.out
      have r0 := hB3.cell (i := 0) (u := .slice none 0 0) rfl
      have r1 := hB3.cell (i := 1) (u := .slice none 0 0) rfl
      have f0 := hB3.free 0
      have f1 := hB3.free 1
      have s0 := ((hB3.set 0 (.slice none 0 0)).set 1 (.slice none 0 0)).cell (i := 0) (u := .slice none 0 0) rfl
      have s1 := ((hB3.set 0 (.slice none 0 0)).set 1 (.slice none 0 0)).cell (i := 1) (u := .slice none 0 0) rfl
      clear hB3
      go_wp2_with fail
      refine bodyPost_ret (v := .tuple #[planV none 0 0 none 0 0, .int .i64 0, .int .i64 (110 : Nat)]) (by simp [results, Try.results26, go_sem, planV, s0, s1]) rfl ?_
      exact PlanAtPost.err HR.out (by rfl) ((HK2.out.setCell (p := ⟨w.heap.size, 0, none⟩) (.inr (by simp)) _).setCell (p := ⟨w.heap.size, 1, none⟩) (.inr (by simp)) _)
    have q1 : decide ((m : Int) < 2) = false := by simp; omega
    by_cases hm6 : 6 < m
    · have q2 : decide (6 < (m : Int)) = true := by simp; omega
      have HR := Lib.hid (show K.takeGR (K.bitsOf s.data.toList) (p : Int) n = ([], [], 0, 110) by rw [HGR.out, if_neg (by simp), if_pos (.inr hm6)])
      clear hm2 hm6
      have hB3 := HA2.out
      have r0 := hB3.cell (i := 0) (u := .slice none 0 0) rfl
      have r1 := hB3.cell (i := 1) (u := .slice none 0 0) rfl
      have f0 := hB3.free 0
      have f1 := hB3.free 1
      have s0 := ((hB3.set 0 (.slice none 0 0)).set 1 (.slice none 0 0)).cell (i := 0) (u := .slice none 0 0) rfl
      have s1 := ((hB3.set 0 (.slice none 0 0)).set 1 (.slice none 0 0)).cell (i := 1) (u := .slice none 0 0) rfl
      clear hB3
      go_wp2_with fail
      refine bodyPost_ret (v := .tuple #[planV none 0 0 none 0 0, .int .i64 0, .int .i64 (110 : Nat)]) (by simp [results, Try.results26, go_sem, planV, s0, s1]) rfl ?_
      exact PlanAtPost.err HR.out (by rfl) ((HK2.out.setCell (p := ⟨w.heap.size, 0, none⟩) (.inr (by simp)) _).setCell (p := ⟨w.heap.size, 1, none⟩) (.inr (by simp)) _)
    have q2 : decide (6 < (m : Int)) = false := by simp; omega
    have HM26 := Lib.hid (show 2 ≤ m ∧ m ≤ 6 by omega)
    clear hm2 hm6
    go_wp2_with fail
    refine (HC2.out w2 r q HRD2.out hp3).mono ?_
    rintro e w3 ⟨rfl, hrd, hk3⟩
    have HK3 := Lib.hid (HK2.out.trans hk3 (by intro y hy; simp at hy; subst hy; exact .inr (by have := HRQ.out; omega)))
    have HA3 := Lib.hid (HA2.out.kept hk3 (by simp; have := HRQ.out; omega))
    have HRD3 := Lib.hid hrd
    have HZ3 := Lib.hid (Nat.le_trans HZ2.out hk3.size)
    clear hrd hk3 HK2 HA2 HRD2 HC2 HZ2
    by_cases hz2 : e2 = 0
    · subst hz2
      have hp18 := HLE2.out rfl
      have HRD3 := Lib.hid (show Rd w3 r q s (p + 18) from HRD3.out)
      by_cases hM0 : M = 0
      · have q3 : ((M : Int) == 0) = true := by simp; omega
        have HR := Lib.hid (show K.takeGR (K.bitsOf s.data.toList) (p : Int) n = ([], [], 0, 110) by rw [HGR.out, if_neg (by simp), if_neg (by have := HM26.out; omega), if_neg (by simp), if_pos hM0])
        subst hM0
        have hB3 := HA3.out
        have r0 := hB3.cell (i := 0) (u := .slice none 0 0) rfl
        have r1 := hB3.cell (i := 1) (u := .slice none 0 0) rfl
        have f0 := hB3.free 0
        have f1 := hB3.free 1
        have s0 := ((hB3.set 0 (.slice none 0 0)).set 1 (.slice none 0 0)).cell (i := 0) (u := .slice none 0 0) rfl
        have s1 := ((hB3.set 0 (.slice none 0 0)).set 1 (.slice none 0 0)).cell (i := 1) (u := .slice none 0 0) rfl
        clear hB3
        go_wp2_with fail
        refine bodyPost_ret (v := .tuple #[planV none 0 0 none 0 0, .int .i64 0, .int .i64 (110 : Nat)]) (by simp [results, Try.results26, go_sem, planV, s0, s1]) rfl ?_
        exact PlanAtPost.err HR.out (by rfl) ((HK3.out.setCell (p := ⟨w.heap.size, 0, none⟩) (.inr (by simp)) _).setCell (p := ⟨w.heap.size, 1, none⟩) (.inr (by simp)) _)
      have q3 : ((M : Int) == 0) = false := by simp; omega
      have hmw : IntKind.i64.wrap (m : Int) = (m : Int) := IntWalk.i64_in _ (by have := HM26.out; omega)
      have hm6 := HM26.out.2
      have hpk := K.picksG_ok (K.bitsOf s.data.toList) m (by have := HM26.out; omega) M (List.range m) [] (p + 18) (by simp) (by rw [HBL.out]; exact hp18) (by simp) (by simp)
      have hgr := HGR.out
      rw [if_neg (by simp), if_neg (by have := HM26.out; omega), if_neg (by simp), if_neg hM0] at hgr
      obtain ⟨⟨C, qq, e3⟩, hC⟩ : ∃ C, K.picksG (K.bitsOf s.data.toList) m M (List.range m) [] (p + 18) = C := ⟨_, rfl⟩
      rw [hC] at hpk
      simp only [hC] at hgr
      have HCE := Lib.hid hC
      have HPK := Lib.hid hpk
      have HGR2 := Lib.hid hgr
      clear hgr hpk hC HGR HLE1 HLE2 hM0
      go_wp2_with fail
      have hkP : Kept [] w3 (w3.alloc (.cells #[.slice none 0 0, .slice none 0 0] 32)) := (Kept.refl _ _).alloc _
      have hAP := Arr.new w3 [.slice none 0 0, .slice none 0 0] 32
      obtain ⟨WP, hWP⟩ : ∃ WP, w3.alloc (.cells #[.slice none 0 0, .slice none 0 0] 32) = WP := ⟨_, rfl⟩
      obtain ⟨gP, hgPe⟩ : ∃ gP, w3.heap.size = gP := ⟨_, rfl⟩
      rw [hWP] at hkP hAP
      rw [hWP]
      rw [hgPe] at hAP ⊢
      have HAP := Lib.hid hAP
      have HKP := Lib.hid (HK3.out.trans hkP (by simp))
      have HAR := Lib.hid (HA3.out.kept hkP (by simp))
      have HRDP := Lib.hid (HRD3.out.kept hkP (by simp [Apart]))
      have HQP := Lib.hid (show r < gP ∧ q < gP by have h1 := HZ3.out; have h2 := HRQ.out; omega)
      clear hkP hAP hWP hgPe HK3 HA3 HRD3 HZ3
      refine (gorder_any m WP (by omega)).mono ?_
      rintro e w4 ⟨g, rfl, hrow4, hk4, hg4⟩
      have HK4 := Lib.hid (HKP.out.trans hk4 (by simp))
      have HAP4 := Lib.hid (HAP.out.kept hk4 (by simp))
      have HAR4 := Lib.hid (HAR.out.kept hk4 (by simp))
      have HRD4 := Lib.hid (HRDP.out.kept hk4 (by simp [Apart]))
      have HBO := Lib.hid hrow4.blk
      have HORD := Lib.hid (show w.heap.size < r ∧ w.heap.size < q ∧ r < gP ∧ q < gP ∧ gP < g ∧ g < w4.heap.size by
        have h1 := HRQ.out
        have h2 := HQP.out
        have h3 := HAP.out.lt
        have h4 := hrow4.lt g (by simp [foot, Value.ownBlock])
        omega)
      clear hrow4 hk4 hg4 HKP HAP HAR HRDP
      go_wp2_with fail
      have HMONO := Lib.hid (Nat.le_refl w4.heap.size)
      go_loopg [66] M (fun k v wr => Hid (w4.heap.size ≤ wr.heap.size) ∧ GPickI w s r q g gP m M (C, qq, e3) k v wr)
      case atStart => exact ⟨HMONO, 0, p + 18, [], List.range m, none, 0, by omega, by omega, rfl, hp18, by simp, Lib.hid (by simp), Lib.hid HCE.out.symm, Lib.hid (Row.nil _ _), HBO, HRD4, HAP4, HAR4, Lib.hid (by simp [Apart, footA]), HK4, Lib.hid (by simp [Fresh, footA])⟩
      case round =>
        clear HBO HRD4 HAP4 HAR4 HK4 HCE HMONO
        obtain ⟨HMO, i, pp, out, ord, a9, c9, hk, hi, rfl, hpp, hol, HOL, HRR, HRO, HBO, HRD, HAP, HAR, HPT, HKW, HF⟩ := hrel
        have Hk := Lib.hid hk
        clear hk
        by_cases hlt : i < M
        · have hli : (i : Int) < (M : Int) := by omega
          have hun : K.unaryR (K.bitsOf s.data.toList) pp ((m : Int) - 1) = K.unary ((m : Int) - 1) 0 ((K.bitsOf s.data.toList).drop pp) := by unfold K.unaryR; rw [if_neg (by have := HM26.out; omega)]
          have HC4 := Lib.hid (unary_any r q s pp ((m : Int) - 1) wr HRD.out (by omega) hpp)
          have hstep : (C, qq, e3) = if (K.unary ((m : Int) - 1) 0 ((K.bitsOf s.data.toList).drop pp)).2 = 0 then K.picksG (K.bitsOf s.data.toList) m (M - (i + 1)) (K.turned ord (K.unary ((m : Int) - 1) 0 ((K.bitsOf s.data.toList).drop pp)).1) (out ++ [ord.getD (K.unary ((m : Int) - 1) 0 ((K.bitsOf s.data.toList).drop pp)).1 0]) (pp + (K.unary ((m : Int) - 1) 0 ((K.bitsOf s.data.toList).drop pp)).1 + 1)
              else ([], 0, if (K.unary ((m : Int) - 1) 0 ((K.bitsOf s.data.toList).drop pp)).2 = 3 then 110 else (K.unary ((m : Int) - 1) 0 ((K.bitsOf s.data.toList).drop pp)).2) := by
            rw [HRR.out, show M - i = (M - (i + 1)) + 1 by omega, K.picksG]
          have hlt1 := K.unary_lt ((m : Int) - 1) ((K.bitsOf s.data.toList).drop pp) 0 (by have := HM26.out; omega)
          have hto := K.unary_to ((m : Int) - 1) (K.bitsOf s.data.toList) pp (by rw [HBL.out]; exact hpp)
          rw [hun] at HC4
          obtain ⟨⟨u, er⟩, hU⟩ : ∃ U, K.unary ((m : Int) - 1) 0 ((K.bitsOf s.data.toList).drop pp) = U := ⟨_, rfl⟩
          rw [hU] at HC4 hstep hlt1 hto
          have HST := Lib.hid hstep
          have HLT := Lib.hid hlt1
          have HTO := Lib.hid hto
          clear hU hstep hlt1 hto hun
          go_wp2_with fail
          refine HC4.out.mono ?_
          rintro e w5 ⟨rfl, hrd5, hk5⟩
          have HRD5 := Lib.hid hrd5
          have HK5 := Lib.hid hk5
          clear hrd5 hk5 HC4
          rcases HLT.out.2 with hz | hz | hz
          · have hz : er = 0 := hz
            subst hz
            have hu : (u : Int) ≤ (m : Int) - 1 := HLT.out.1 rfl
            have hto := HTO.out rfl
            rw [HBL.out] at hto
            have hq2 : pp + u + 1 ≤ 8 * s.size := hto
            have HRD6 := Lib.hid (show Rd w5 r q s (pp + u + 1) from HRD5.out)
            obtain ⟨x, hx⟩ : ∃ x, ord[u]? = some x := ⟨_, List.getElem?_eq_getElem (by have := HOL.out; omega)⟩
            have HX := Lib.hid (show ord.getD u 0 = x by rw [List.getD, hx]; rfl)
            have HR2 := Lib.hid (show (C, qq, e3) = K.picksG (K.bitsOf s.data.toList) m (M - (i + 1)) (K.turned ord u) (out ++ [x]) (pp + u + 1) by
              have hR := HST.out
              rw [if_pos (show ((u, 0) : Nat × Nat).2 = 0 from rfl), HX.out] at hR
              exact hR)
            have HORW := Lib.hid (show w.heap.size < r ∧ w.heap.size < q ∧ r < gP ∧ q < gP ∧ gP < g ∧ g < wr.heap.size by have h1 := HORD.out; have h2 := HMO.out; omega)
            have HB5 := Lib.hid (HBO.out.kept HK5.out (by simp; have := HORD.out; omega))
            have hA5 := HAP.out.kept HK5.out (by simp; have := HORD.out; omega)
            have d0 := hA5.cell (i := 1) (u := .slice a9 out.length c9) rfl
            have HA5 := Lib.hid hA5
            have HRO5 := Lib.hid (HRO.out.kept HK5.out (fun y hy hm => by rw [foot_slice] at hy; simp at hm; subst hm; exact HPT.out y hy (by simp)))
            have HMV := Lib.hid (fun (W : World) (hb : Blk W g (natVals ord)) => show Calls Try.prog 41 #[.slice (some ⟨g, 0, none⟩) m m, .int .i64 u] W _ from by
              have h := gmoved_ok g m u ord W (by have := HOL.out; omega) (by have := HOL.out; omega) (by have := HM26.out; omega) (by have := HOL.out; omega) hb
              rw [HOL.out, HX.out] at h
              exact h)
            have hnf : g ∉ foot (.slice a9 out.length c9) ∧ gP ∉ foot (.slice a9 out.length c9) := by
              rw [foot_slice]; exact ⟨fun hm => HPT.out g hm (by simp), fun hm => HPT.out gP hm (by simp)⟩
            have HNF := Lib.hid hnf
            have HGG := Lib.hid (show gP ≠ g by have := HORD.out; omega)
            have L1 : (natVals out).length + 1 ≤ maxLen := by rw [natVals_length]; simp only [maxLen]; omega
            have L2 : ((natVals out).length + 1) * 8 ≤ 140737488355328 := by rw [natVals_length]; omega
            clear hto hx hA5 HST HLT HTO hnf
            go_wp2_with fail
            go_region_law (first
                | (refine step_appS rfl _ _ 30 rfl 3 (.int .i64 0) 8 Try.underlying30 Try.infoInt rfl (.slice a9 out.length c9) (natVals out) [.int .i64 (x : Int)] (some ⟨w6.heap.size, 0, none⟩) 1 1 rfl rfl (by simp [Value.oneCell']) HROW6.out HSEE6.out (fun h => by cases h) L1 L2 ?_; intro a7 cap7 w7 hrow7 hk7 hg7; have hA7 := (HA6.out.alloc (.cells #[.int .i64 (x : Int)] 3)).kept hk7 HNF.out.2; have k0 := hA7.cell (i := 1) (u := .slice a9 out.length c9) rfl; have k1 := hA7.free 1; clear hA7)
                | (go_simp; go_at_call 41; refine (HMV.out _ (HB5.out.kept (Kept.refl [] w5).drew (by simp))).mono ?_; rintro e w6 ⟨rfl, hb6, hk6'⟩; have hk6 : Kept [g] w5 w6 := (Kept.refl [g] w5).drew.trans hk6' (fun y hy => .inl hy); have d6 := hk6.cellOf d0 (by simp; exact HGG.out); have HA6 := Lib.hid (HA5.out.kept hk6 (by simp; exact HGG.out)); have n6 := HA6.out.lt; have HROW6 := Lib.hid ((HRO5.out.kept hk6 (fun y hy hm => by simp at hm; subst hm; exact HNF.out.1 hy)).alloc (.cells #[.int .i64 (x : Int)] 3)); have HSEE6 := Lib.hid (show Sees (w6.alloc (.cells #[.int .i64 (x : Int)] 3)) 1 (some ⟨w6.heap.size, 0, none⟩) 1 [.int .i64 (x : Int)] from Sees.lit (news := [.int .i64 (x : Int)]) rfl)))
            all_goals (
              go_wp2_with fail
              go_roundg (M - (i + 1))
              case measure => have := Hk.out; omega
              case rel =>
                have hrow7 : Row w7 3 (.slice a7 (out.length + 1) cap7) (natVals (out ++ [x])) := by
                  have e1 : natVals out ++ [Value.int .i64 (x : Int)] = natVals (out ++ [x]) := by simp [natVals]
                  rw [← e1]
                  have h := hrow7
                  rw [natVals_length] at h
                  exact h
                have hk7 : Kept (foot (.slice a9 out.length c9)) (w6.alloc (.cells #[.int .i64 (x : Int)] 3)) w7 := hk7
                have hg7 : Grew (w6.alloc (.cells #[.int .i64 (x : Int)] 3)).heap.size (foot (.slice a9 out.length c9)) (foot (.slice a7 (out.length + 1) cap7)) := by
                  have h := hg7
                  rw [natVals_length] at h
                  exact h
                have hkA : Kept [g] w5 (w6.alloc (.cells #[.int .i64 (x : Int)] 3)) := hk6.alloc _
                have hbA : Blk (w6.alloc (.cells #[.int .i64 (x : Int)] 3)) g (natVals (K.turned ord u)) := hb6.kept ((Kept.refl [] w6).alloc _) (by simp)
                obtain ⟨r1, r2, r3, r4, r5, r6, r7, r8⟩ := gpick_next rfl HRO.out HAP.out HAR.out HPT.out HKW.out HF.out HORW.out HK5.out HRD6.out hkA hbA hrow7 hk7 hg7
                have hsz := r7.size
                have hszz : w4.heap.size ≤ (w7.setCell ⟨gP, 1, none⟩ (.slice a7 (out.length + 1) cap7)).heap.size := by
                  have z1 := HMO.out
                  have z2 := HK5.out.size
                  have z3 := hkA.size
                  have z4 := hk7.size
                  have z5 : (w7.setCell ⟨gP, 1, none⟩ (.slice a7 (out.length + 1) cap7)).heap.size = w7.heap.size := by simp [World.setCell]
                  omega
                simp only [natVals_length]
                exact ⟨Lib.hid hszz, i + 1, pp + u + 1, out ++ [x], K.turned ord u, a7, cap7, rfl, by omega, by simp, hq2, by simp; omega, Lib.hid (by rw [K.turned_length _ _ (by have := HOL.out; omega)]; exact HOL.out), HR2, Lib.hid r1, Lib.hid r2, Lib.hid r3, Lib.hid r4, Lib.hid r5, Lib.hid r6, Lib.hid r7, Lib.hid r8⟩)
          · have hz : er = 3 := hz
            subst hz
            have hE : (C, qq, e3) = ([], 0, 110) := by rw [HST.out, if_neg (by simp)]; rfl
            injection hE with h5 h6
            injection h6 with h6 h7
            subst h7
            have HR := Lib.hid (show K.takeGR (K.bitsOf s.data.toList) (p : Int) n = ([], [], 0, 110) by rw [HGR2.out, if_pos (by simp)])
            have HKE := Lib.hid (HKW.out.trans HK5.out (by intro y hy; simp at hy; subst hy; exact .inr (by have := HRQ.out; omega)))
            have HBE := Lib.hid (HAR.out.kept HK5.out (by simp; have := HRQ.out; omega))
            clear h5 h6 HST HLT HTO
            have hB3 := HBE.out
            have r0 := hB3.cell (i := 0) (u := .slice none 0 0) rfl
            have r1 := hB3.cell (i := 1) (u := .slice none 0 0) rfl
            have f0 := hB3.free 0
            have f1 := hB3.free 1
            have s0 := ((hB3.set 0 (.slice none 0 0)).set 1 (.slice none 0 0)).cell (i := 0) (u := .slice none 0 0) rfl
            have s1 := ((hB3.set 0 (.slice none 0 0)).set 1 (.slice none 0 0)).cell (i := 1) (u := .slice none 0 0) rfl
            clear hB3
            go_wp2_with fail
            refine bodyPost_ret (v := .tuple #[planV none 0 0 none 0 0, .int .i64 0, .int .i64 (110 : Nat)]) (by simp [results, Try.results26, go_sem, planV, s0, s1]) rfl ?_
            exact PlanAtPost.err HR.out (by rfl) ((HKE.out.setCell (p := ⟨w.heap.size, 0, none⟩) (.inr (by simp)) _).setCell (p := ⟨w.heap.size, 1, none⟩) (.inr (by simp)) _)
          · have hz : er = 10 := hz
            subst hz
            have hE : (C, qq, e3) = ([], 0, 10) := by rw [HST.out, if_neg (by simp)]; rfl
            injection hE with h5 h6
            injection h6 with h6 h7
            subst h7
            have HR := Lib.hid (show K.takeGR (K.bitsOf s.data.toList) (p : Int) n = ([], [], 0, 10) by rw [HGR2.out, if_pos (by simp)])
            have HKE := Lib.hid (HKW.out.trans HK5.out (by intro y hy; simp at hy; subst hy; exact .inr (by have := HRQ.out; omega)))
            have HBE := Lib.hid (HAR.out.kept HK5.out (by simp; have := HRQ.out; omega))
            clear h5 h6 HST HLT HTO
            have hB3 := HBE.out
            have r0 := hB3.cell (i := 0) (u := .slice none 0 0) rfl
            have r1 := hB3.cell (i := 1) (u := .slice none 0 0) rfl
            have f0 := hB3.free 0
            have f1 := hB3.free 1
            have s0 := ((hB3.set 0 (.slice none 0 0)).set 1 (.slice none 0 0)).cell (i := 0) (u := .slice none 0 0) rfl
            have s1 := ((hB3.set 0 (.slice none 0 0)).set 1 (.slice none 0 0)).cell (i := 1) (u := .slice none 0 0) rfl
            clear hB3
            go_wp2_with fail
            refine bodyPost_ret (v := .tuple #[planV none 0 0 none 0 0, .int .i64 0, .int .i64 (10 : Nat)]) (by simp [results, Try.results26, go_sem, planV, s0, s1]) rfl ?_
            exact PlanAtPost.err HR.out (by rfl) ((HKE.out.setCell (p := ⟨w.heap.size, 0, none⟩) (.inr (by simp)) _).setCell (p := ⟨w.heap.size, 1, none⟩) (.inr (by simp)) _)
        · obtain rfl : i = M := by omega
          have hll : ¬ (i : Int) < (i : Int) := by omega
          have hE : (C, qq, e3) = (out, pp, 0) := by rw [HRR.out, Nat.sub_self]; rfl
          injection hE with h5 h6
          injection h6 with h6 h7
          subst h5 h6 h7
          obtain ⟨hCl0, hq0, hCm⟩ := HPK.out rfl
          have HCL := Lib.hid (show C.length ≤ 32767 by have h : C.length = 0 + i := hCl0; omega)
          have hgr := HGR2.out
          rw [if_neg (by simp)] at hgr
          obtain ⟨⟨TT, tq, e4⟩, hD⟩ : ∃ D, K.tabsG (K.bitsOf s.data.toList) n m [] qq = D := ⟨_, rfl⟩
          simp only [hD] at hgr
          have HGR3 := Lib.hid hgr
          have HD := Lib.hid hD
          have hq : qq ≤ (K.bitsOf s.data.toList).length := hq0
          have HFS0 := Lib.hid (show FirmS wr [w.heap.size, gP] a9 C.length (natVals C) from fun w' hw => by
            refine HRO.out.seeA.kept hw fun y hy hm => HPT.out y hy ?_
            simp at hm
            rcases hm with rfl | rfl <;> simp)
          have HGRP := Lib.hid (show w.heap.size < gP by have := HORD.out; omega)
          have HS := HRD
          clear hgr hD HGR2 HPK hCm hCl0 hq0 HRR HBO HPT hpp hol
          go_wp2_with fail
          refine (at_ok r q s qq wr (by exact HRD.out)).mono ?_
          rintro e w5 ⟨rfl, rfl⟩
          go_wp2_with fail
          go_loopg [1, 94] m (fun k v1 v wr => GTakI w gP (.slice a9 C.length c9) a9 C.length C (K.bitsOf s.data.toList) n m (TT, tq, e4) k v1 v wr)
          case atStart => exact ⟨0, qq, [], [], none, 0, by omega, by omega, rfl, rfl, hq, Lib.hid ⟨rfl, by simp⟩, Lib.hid HD.out.symm, Lib.hid (Row.nil _ _), Lib.hid (TabsI.nil _ _), HFS0, HAP, HAR, Lib.hid (by simp [Apart, footA]), HKW, Lib.hid (by simp [Fresh, footA])⟩
          case round =>
            clear HAP HAR HFS0 HD hq HRO HRD HS HKW HF
            obtain ⟨i2, q2, T, vs, a8, c8, hk, hi, rfl, rfl, hq, HTL, HRR, HRW, HTI, HFI, HAP, HAR, HPT, HKW, HF⟩ := hrel
            have Hk2 := Lib.hid hk
            clear hk
            by_cases hlt : i2 < m
            · have hli : (i2 : Int) < (m : Int) := by omega
              have HC4 := Lib.hid (dtake_any s (q2 : Int) n wr hs)
              have hstep : (TT, tq, e4) = if (K.lensR (K.bitsOf s.data.toList) (q2 : Int) n).2.2 ≠ 0 then ([], 0, (K.lensR (K.bitsOf s.data.toList) (q2 : Int) n).2.2) else if K.goodL (K.lensR (K.bitsOf s.data.toList) (q2 : Int) n).1 then K.tabsG (K.bitsOf s.data.toList) n (m - (i2 + 1)) (T ++ [(K.lensR (K.bitsOf s.data.toList) (q2 : Int) n).1]) (K.lensR (K.bitsOf s.data.toList) (q2 : Int) n).2.1 else ([], 0, 80) := by
                rw [HRR.out, show m - i2 = (m - (i2 + 1)) + 1 by omega, K.tabsG]
              have hok := K.lensR_ok (K.bitsOf s.data.toList) (q2 : Int) n
              obtain ⟨⟨t, tp, e5⟩, hD⟩ : ∃ D, K.lensR (K.bitsOf s.data.toList) (q2 : Int) n = D := ⟨_, rfl⟩
              rw [hD] at HC4 hstep hok
              have HST := Lib.hid hstep
              have HOK := Lib.hid hok
              clear hstep hok hD
              go_wp2_with fail
              refine HC4.out.mono ?_
              rintro e w5 ⟨a5, c5, rfl, hrow5, hk5, hf5⟩
              have HR5 := Lib.hid (show Row w5 3 (.slice a5 t.length c5) (intVals t) from hrow5)
              have HK5 := Lib.hid hk5
              have HF5 := Lib.hid (show Fresh wr.heap.size (footA a5) from hf5)
              clear hrow5 hk5 hf5 HC4
              by_cases hz5 : e5 = 0
              · subst hz5
                obtain ⟨htl0, htp0⟩ := HOK.out rfl
                have htl : t.length = n.toNat := htl0
                have htp : tp ≤ (K.bitsOf s.data.toList).length := htp0
                have HSEE := Lib.hid (HR5.out.seeA)
                have htb : t.length ≤ 258 := by have := HN.out; omega
                clear HOK htl htl0 htp0
                cases hg : K.goodL t with
                | false =>
                  have HC := Lib.hid (show checkR t = 80 by unfold checkR; rw [hg]; rfl)
                  have hE : (TT, tq, e4) = ([], 0, 80) := by rw [HST.out, if_neg (by simp), hg]; rfl
                  injection hE with h5 h6
                  injection h6 with h6 h7
                  subst h7
                  have HR := Lib.hid (show K.takeGR (K.bitsOf s.data.toList) (p : Int) n = ([], [], 0, 80) by rw [HGR3.out, if_pos (by simp)])
                  clear hg h5 h6 HST
                  go_wp2_with fail
                  refine (check_any a5 c5 t _ HSEE.out (by omega)).mono ?_
                  rintro e w6 ⟨rfl, rfl⟩
                  rw [HC.out]
                  have HKE := Lib.hid (HKW.out.trans HK5.out (by simp))
                  have HBE := Lib.hid (HAR.out.kept HK5.out (by simp))
                  have hB3 := HBE.out
                  have r0 := hB3.cell (i := 0) (u := .slice none 0 0) rfl
                  have r1 := hB3.cell (i := 1) (u := .slice none 0 0) rfl
                  have f0 := hB3.free 0
                  have f1 := hB3.free 1
                  have s0 := ((hB3.set 0 (.slice none 0 0)).set 1 (.slice none 0 0)).cell (i := 0) (u := .slice none 0 0) rfl
                  have s1 := ((hB3.set 0 (.slice none 0 0)).set 1 (.slice none 0 0)).cell (i := 1) (u := .slice none 0 0) rfl
                  clear hB3
                  go_wp2_with fail
                  refine bodyPost_ret (v := .tuple #[planV none 0 0 none 0 0, .int .i64 0, .int .i64 (80 : Nat)]) (by simp [results, Try.results26, go_sem, planV, s0, s1]) rfl ?_
                  exact PlanAtPost.err HR.out (by rfl) ((HKE.out.setCell (p := ⟨w.heap.size, 0, none⟩) (.inr (by simp)) _).setCell (p := ⟨w.heap.size, 1, none⟩) (.inr (by simp)) _)
                | true =>
                  have HC := Lib.hid (show checkR t = 0 by unfold checkR; rw [hg]; rfl)
                  have HR2 := Lib.hid (show (TT, tq, e4) = K.tabsG (K.bitsOf s.data.toList) n (m - (i2 + 1)) (T ++ [t]) tp by rw [HST.out, if_neg (by simp), hg]; rfl)
                  have hrow9 := HRW.out.kept HK5.out (by simp)
                  have hvl := HRW.out.len
                  have L1 : vs.length + 1 ≤ maxLen := by rw [hvl]; simp only [maxLen]; omega
                  have L2 : (vs.length + 1) * 24 ≤ 140737488355328 := by rw [hvl]; omega
                  have hA5 := HAP.out.kept HK5.out (by simp)
                  have d0 := hA5.cell (i := 0) (u := .slice a8 i2 c8) rfl
                  have HA5 := Lib.hid hA5
                  have HNP := Lib.hid (show gP ∉ foot (.slice a8 i2 c8) by rw [foot_slice]; exact fun hm => HPT.out gP hm (by simp))
                  clear hg HST hvl hA5
                  go_wp2_with fail
                  refine (check_any a5 c5 t _ HSEE.out (by omega)).mono ?_
                  rintro e w6 ⟨rfl, rfl⟩
                  rw [HC.out]
                  go_wp2_with ((at_builtin; refine wp_appL _ rfl _ _ 29 rfl 30 (.slice none 0 0) 24 Try.underlying29 Try.infoInts rfl _ _ [.slice a5 t.length c5] 1 rfl rfl rfl rfl (by simp [Value.oneCell']) hrow9 L1 L2 ?_; intro a6 cap6 w6 hrow6 hk6 hg6; have hk6 : Kept (foot (.slice a8 i2 c8)) w5 w6 := hk6; have hA6 := HA5.out.kept hk6 HNP.out; have k0 := hA6.cell (i := 0) (u := .slice a8 i2 c8) rfl; have k1 := hA6.free 0; clear hA6))
                  go_roundg (m - (i2 + 1))
                  case measure => have := Hk2.out; omega
                  case rel =>
                    have hvl := HRW.out.len
                    obtain ⟨r1, r2, r3, r4, r5, r6, r7, r8⟩ := rtak_next HRW.out HTI.out HFI.out HAP.out HAR.out HPT.out HKW.out HF.out HGRP.out HK5.out HR5.out HF5.out hrow6 hk6 hg6
                    obtain ⟨k5, k6⟩ := HTL.out
                    rw [hvl]
                    refine ⟨i2 + 1, tp, T ++ [t], _, a6, cap6, rfl, by omega, by simp, rfl, htp, Lib.hid ⟨by rw [List.length_append, k5]; rfl, fun u hu => ?_⟩, HR2, Lib.hid r1, Lib.hid r2, Lib.hid r3, Lib.hid r4, Lib.hid r5, Lib.hid r6, Lib.hid r7, Lib.hid r8⟩
                    rcases List.mem_append.1 hu with h | h
                    · exact k6 u h
                    · rw [List.mem_singleton.1 h]; exact htb
              · have q5 : ((e5 : Int) != 0) = true := bne_iff_ne.2 (by omega)
                have q6 : ((e5 : Int) == 0) = false := by simp; omega
                have hE : (TT, tq, e4) = ([], 0, e5) := by rw [HST.out, if_pos hz5]
                injection hE with h5 h6
                injection h6 with h6 h7
                subst h7
                have HR := Lib.hid (show K.takeGR (K.bitsOf s.data.toList) (p : Int) n = ([], [], 0, e4) by rw [HGR3.out, if_pos hz5])
                have HKE := Lib.hid (HKW.out.trans HK5.out (by simp))
                have HBE := Lib.hid (HAR.out.kept HK5.out (by simp))
                clear h5 h6 HST hz5
                have hB3 := HBE.out
                have r0 := hB3.cell (i := 0) (u := .slice none 0 0) rfl
                have r1 := hB3.cell (i := 1) (u := .slice none 0 0) rfl
                have f0 := hB3.free 0
                have f1 := hB3.free 1
                have s0 := ((hB3.set 0 (.slice none 0 0)).set 1 (.slice none 0 0)).cell (i := 0) (u := .slice none 0 0) rfl
                have s1 := ((hB3.set 0 (.slice none 0 0)).set 1 (.slice none 0 0)).cell (i := 1) (u := .slice none 0 0) rfl
                clear hB3
                go_wp2_with fail
                refine bodyPost_ret (v := .tuple #[planV none 0 0 none 0 0, .int .i64 0, .int .i64 (e4 : Nat)]) (by simp [results, Try.results26, go_sem, planV, s0, s1]) rfl ?_
                exact PlanAtPost.err HR.out (by rfl) ((HKE.out.setCell (p := ⟨w.heap.size, 0, none⟩) (.inr (by simp)) _).setCell (p := ⟨w.heap.size, 1, none⟩) (.inr (by simp)) _)
            · obtain rfl : m = i2 := by omega
              have hll : ¬ (m : Int) < (m : Int) := by omega
              have hE : (TT, tq, e4) = (T, q2, 0) := by rw [HRR.out, Nat.sub_self]; rfl
              injection hE with h5 h6
              injection h6 with h6 h7
              subst h5 h6 h7
              have HR := Lib.hid (show K.takeGR (K.bitsOf s.data.toList) (p : Int) n = (TT, C, tq, 0) by rw [HGR3.out, if_neg (by simp)])
              have d0 := HAP.out.cell (i := 0) (u := .slice a8 m c8) rfl
              have d1 := HAP.out.cell (i := 1) (u := .slice a9 C.length c9) rfl
              have r0 := HAR.out.cell (i := 0) (u := .slice none 0 0) rfl
              have r1 := HAR.out.cell (i := 1) (u := .slice none 0 0) rfl
              have f0 := HAR.out.free 0
              have f1 := HAR.out.free 1
              have s0 := ((HAR.out.set 0 (.slice a8 m c8)).set 1 (.slice a9 C.length c9)).cell (i := 0) (u := .slice a8 m c8) rfl
              have s1 := ((HAR.out.set 0 (.slice a8 m c8)).set 1 (.slice a9 C.length c9)).cell (i := 1) (u := .slice a9 C.length c9) rfl
              go_wp2_with fail
              refine bodyPost_ret (v := .tuple #[planV a8 m c8 a9 C.length c9, .int .i64 (tq : Nat), .int .i64 0]) (by simp [results, Try.results26, go_sem, planV, s0, s1]) rfl ?_
              have hst : Kept [w.heap.size] wr ((wr.setCell ⟨w.heap.size, 0, none⟩ (.slice a8 m c8)).setCell ⟨w.heap.size, 1, none⟩ (.slice a9 C.length c9)) := ((Kept.refl [w.heap.size] wr).setCell (p := ⟨w.heap.size, 0, none⟩) (by simp) _).setCell (p := ⟨w.heap.size, 1, none⟩) (by simp) _
              obtain ⟨WF, hWF⟩ : ∃ WF, (wr.setCell ⟨w.heap.size, 0, none⟩ (.slice a8 m c8)).setCell ⟨w.heap.size, 1, none⟩ (.slice a9 C.length c9) = WF := ⟨_, rfl⟩
              rw [hWF] at hst ⊢
              have hst2 : Kept (w.heap.size :: gP :: footA a8) wr WF := hst.mono (by intro x hx; simp at hx; simp [hx])
              obtain ⟨k5, k6⟩ := HTL.out
              have hsee : Sees WF 1 a8 m vs := HRW.out.seeA.kept hst (fun x hx hm => HPT.out x hx (by simp at hm; simp [hm]))
              have hM := HTI.out.seesM hst2 hsee
              rw [HR.out]
              have hCC := HFI.out WF hst2
              rw [natVals_int] at hCC
              refine ⟨a8, c8, a9, c9, by rw [← k5]; rfl, ⟨by rw [k5]; exact hM, by rw [List.length_map]; exact hCC, by rw [k5]; have := HM26.out; omega, by rw [List.length_map]; exact Nat.le_trans HCL.out (by decide), fun t ht => by have := k6 t ht; omega⟩, HKW.out.trans hst (by intro x hx; simp at hx; subst hx; exact .inr (Nat.le_refl _))⟩
    · have q3 : ((e2 : Int) != 0) = true := bne_iff_ne.2 (by omega)
      have HR := Lib.hid (show K.takeGR (K.bitsOf s.data.toList) (p : Int) n = ([], [], 0, e2) by rw [HGR.out, if_neg (by simp), if_neg (by have := HM26.out; omega), if_pos hz2])
      clear hz2
      have hB3 := HA3.out
      have r0 := hB3.cell (i := 0) (u := .slice none 0 0) rfl
      have r1 := hB3.cell (i := 1) (u := .slice none 0 0) rfl
      have f0 := hB3.free 0
      have f1 := hB3.free 1
      have s0 := ((hB3.set 0 (.slice none 0 0)).set 1 (.slice none 0 0)).cell (i := 0) (u := .slice none 0 0) rfl
      have s1 := ((hB3.set 0 (.slice none 0 0)).set 1 (.slice none 0 0)).cell (i := 1) (u := .slice none 0 0) rfl
      clear hB3
      go_wp2_with fail
      refine bodyPost_ret (v := .tuple #[planV none 0 0 none 0 0, .int .i64 0, .int .i64 (e2 : Nat)]) (by simp [results, Try.results26, go_sem, planV, s0, s1]) rfl ?_
      exact PlanAtPost.err HR.out (by rfl) ((HK3.out.setCell (p := ⟨w.heap.size, 0, none⟩) (.inr (by simp)) _).setCell (p := ⟨w.heap.size, 1, none⟩) (.inr (by simp)) _)
  · have q1 : ((e1 : Int) != 0) = true := bne_iff_ne.2 (by omega)
    have HR := Lib.hid (show K.takeGR (K.bitsOf s.data.toList) (p : Int) n = ([], [], 0, e1) by rw [HGR.out, if_pos hz1])
    clear hz1
    have hB3 := HA2.out
    have r0 := hB3.cell (i := 0) (u := .slice none 0 0) rfl
    have r1 := hB3.cell (i := 1) (u := .slice none 0 0) rfl
    have f0 := hB3.free 0
    have f1 := hB3.free 1
    have s0 := ((hB3.set 0 (.slice none 0 0)).set 1 (.slice none 0 0)).cell (i := 0) (u := .slice none 0 0) rfl
    have s1 := ((hB3.set 0 (.slice none 0 0)).set 1 (.slice none 0 0)).cell (i := 1) (u := .slice none 0 0) rfl
    clear hB3
    go_wp2_with fail
    refine bodyPost_ret (v := .tuple #[planV none 0 0 none 0 0, .int .i64 0, .int .i64 (e1 : Nat)]) (by simp [results, Try.results26, go_sem, planV, s0, s1]) rfl ?_
    exact PlanAtPost.err HR.out (by rfl) ((HK2.out.setCell (p := ⟨w.heap.size, 0, none⟩) (.inr (by simp)) _).setCell (p := ⟨w.heap.size, 1, none⟩) (.inr (by simp)) _)
end Go.Proofs.Ytdaenajhgbagdaa
