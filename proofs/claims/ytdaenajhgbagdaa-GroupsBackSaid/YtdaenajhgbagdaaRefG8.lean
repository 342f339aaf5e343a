/-
  The walk of layer 11's reference Take.
-/
import Derived.Test.YtdaenajhgbagdaaRefG7
import Derived.Test.YtdaenajhgbagdaaGrpE
namespace Go.Proofs.Ytdaenajhgbagdaa
open Go.RowKit
set_option linter.unusedVariables false
set_option linter.unusedSimpArgs false

/-- The slice values vs show tables of lengths, whatever turns in the blocks F. -/
def TabsI (w : World) (F : List Nat) (vs : List Value) (T : List (List Int)) : Prop :=
  vs.length = T.length ∧ ∀ (i : Nat) (u : Value) (t : List Int), vs[i]? = some u → T[i]? = some t → ∃ b c, u = .slice b t.length c ∧ t.length ≤ c ∧ c ≤ maxLen ∧ ∀ w', Kept F w w' → Sees w' 1 b t.length (intVals t)
theorem TabsI.step {w w2 : World} {F F2 : List Nat} {vs : List Value} {T : List (List Int)} (h : TabsI w F vs T) (hk : Kept F w w2) (hg : Grew w.heap.size F F2) : TabsI w2 F2 vs T :=
  ⟨h.1, fun i u t h1 h2 => by
    obtain ⟨b, c, h3, h4, h5, h6⟩ := h.2 i u t h1 h2
    exact ⟨b, c, h3, h4, h5, fun w' hw => h6 w' (hk.trans hw hg)⟩⟩
theorem TabsI.kept0 {w w2 : World} {F : List Nat} {vs : List Value} {T : List (List Int)} (h : TabsI w F vs T) (hk : Kept [] w w2) : TabsI w2 F vs T := h.step (hk.mono (by simp)) (Grew.refl _ _)
theorem TabsI.nil (w : World) (F : List Nat) : TabsI w F [] [] := ⟨rfl, fun i u t h => by simp at h⟩
theorem TabsI.snoc {w0 w : World} {F : List Nat} {vs : List Value} {T : List (List Int)} (h : TabsI w F vs T) (hF : ∀ x ∈ F, x < w0.heap.size) {b : Option Addr} {c : Nat} {t : List Int} (hr : Row w 3 (.slice b t.length c) (intVals t)) (hf : Fresh w0.heap.size (footA b)) :
    TabsI w F (vs ++ [.slice b t.length c]) (T ++ [t]) := by
  refine ⟨by simp [h.1], fun i u t' h1 h2 => ?_⟩
  rcases Nat.lt_or_ge i vs.length with hl | hl
  · rw [List.getElem?_append_left hl] at h1
    rw [List.getElem?_append_left (by rw [← h.1]; exact hl)] at h2
    exact h.2 i u t' h1 h2
  · rw [List.getElem?_append_right hl] at h1
    rw [List.getElem?_append_right (by rw [← h.1]; exact hl)] at h2
    have h0 : i - vs.length = 0 := by
      have := (List.getElem?_eq_some_iff.1 h1).1
      simp at this; omega
    rw [h0] at h1
    rw [← h.1, h0] at h2
    simp at h1 h2
    subst h1 h2
    obtain ⟨a2, c2, hv, k1, k2, -, -⟩ := hr.sees
    rw [intVals_length] at hv k1
    injection hv with e1 e2 e3
    subst e3
    refine ⟨b, c, rfl, k1, k2, fun w' hw => ?_⟩
    exact (hr.kept hw (fun x hx hm => by
      rw [foot_slice] at hx
      have := hf x hx
      have := hF x hm
      omega)).seeA
theorem TabsI.seesM {w w' : World} {F : List Nat} {vs : List Value} {T : List (List Int)} (h : TabsI w F vs T) (hk : Kept F w w') {a : Option Addr} {n : Nat} (hs : Sees w' 1 a n vs) : SeesM w' a n (T.map intVals) := by
  refine ⟨vs, hs, by rw [List.length_map]; exact h.1, fun i u r h1 h2 => ?_⟩
  rw [List.getElem?_map] at h2
  cases ht : T[i]? with
  | none => rw [ht] at h2; cases h2
  | some t =>
    rw [ht] at h2
    injection h2 with h2
    subst h2
    obtain ⟨b, c, rfl, k1, k2, k3⟩ := h.2 i u t h1 ht
    rw [intVals_length]
    exact ⟨b, c, rfl, k3 w' hk, k1, k2⟩
/-- A slice that can be read, whatever turns in the blocks F. -/
def FirmS (w : World) (F : List Nat) (a : Option Addr) (n : Nat) (xs : List Value) : Prop := ∀ w', Kept F w w' → Sees w' 1 a n xs
theorem FirmS.step {w w2 : World} {F F2 : List Nat} {a : Option Addr} {n : Nat} {xs : List Value} (h : FirmS w F a n xs) (hk : Kept F w w2) (hg : Grew w.heap.size F F2) : FirmS w2 F2 a n xs := fun w' hw => h w' (hk.trans hw hg)
/-- What a function leaves that answers a plan, a place and an error. -/
def PlanAtPost (R : List (List Int) × List Nat × Nat × Nat) (w : World) (e : Ending) (w' : World) : Prop :=
  ∃ aT cT aP cP, e = .returned (.tuple #[planV aT R.1.length cT aP R.2.1.length cP, .int .i64 (R.2.2.1 : Nat), .int .i64 (R.2.2.2 : Nat)]) ∧ PlanAt w' aT aP cT cP R.1 (R.2.1.map fun n : Nat => (n : Int)) ∧ Kept [] w w'
theorem PlanAtPost.err {w w' : World} {e : Ending} {x : Nat} {R : List (List Int) × List Nat × Nat × Nat} (hR : R = ([], [], 0, x)) (he : e = .returned (.tuple #[planV none 0 0 none 0 0, .int .i64 0, .int .i64 (x : Nat)])) (hk : Kept [] w w') : PlanAtPost R w e w' := by
  subst hR
  exact ⟨none, 0, none, 0, he, PlanAt.nil _, hk⟩
theorem takeGR_bad {bs : List Bool} {at_ n : Int} (h : at_ < 0 ∨ (bs.length : Int) < at_ ∨ n < 3 ∨ 258 < n) : K.takeGR bs at_ n = ([], [], 0, 2) := by unfold K.takeGR; rw [if_pos h]
/-- In Take's loop over the tables: i are read. -/
def RTakI (w : World) (gP : Nat) (pv : Value) (aC : Option Addr) (M : Nat) (C : List Nat) (bs : List Bool) (n : Int) (many : Nat) (R : List (List Int) × Nat × Nat) (k : Nat) (v1 v : Value) (wr : World) : Prop :=
  ∃ (i p : Nat) (T : List (List Int)) (vs : List Value) (a : Option Addr) (c : Nat), k = many - i ∧ i ≤ many ∧ v = .int .i64 (i : Nat) ∧ v1 = .int .i64 (p : Nat) ∧ p ≤ bs.length ∧ Hid (T.length = i ∧ ∀ t ∈ T, t.length ≤ 258) ∧ Hid (R = K.tabsG bs n (many - i) T p) ∧
    Hid (Row wr 30 (.slice a i c) vs) ∧ Hid (TabsI wr (w.heap.size :: gP :: footA a) vs T) ∧ Hid (FirmS wr (w.heap.size :: gP :: footA a) aC M (natVals C)) ∧ Hid (Arr wr gP 32 [.slice a i c, pv]) ∧ Hid (Arr wr w.heap.size 32 [.slice none 0 0, .slice none 0 0]) ∧
    Hid (Apart (footA a) [w.heap.size, gP]) ∧ Hid (Kept [] w wr) ∧ Hid (Fresh w.heap.size (footA a))
/-- What a round leaves: a table more. -/
theorem rtak_next {w wr w5 w6 : World} {gP i M : Nat} {pv : Value} {a aC a6 b : Option Addr} {c c6 cb : Nat} {C : List Nat} {vs : List Value} {T : List (List Int)} {t : List Int} (hR : Row wr 30 (.slice a i c) vs) (hT : TabsI wr (w.heap.size :: gP :: footA a) vs T)
    (hC : FirmS wr (w.heap.size :: gP :: footA a) aC M (natVals C)) (hA : Arr wr gP 32 [.slice a i c, pv]) (hB : Arr wr w.heap.size 32 [.slice none 0 0, .slice none 0 0]) (hap : Apart (footA a) [w.heap.size, gP]) (hK : Kept [] w wr) (hF : Fresh w.heap.size (footA a))
    (hgP : w.heap.size < gP) (hk5 : Kept [] wr w5) (hr5 : Row w5 3 (.slice b t.length cb) (intVals t)) (hf5 : Fresh wr.heap.size (footA b))
    (hr6 : Row w6 30 (.slice a6 (vs.length + 1) c6) (vs ++ [.slice b t.length cb])) (hk6 : Kept (foot (.slice a i c)) w5 w6) (hg6 : Grew w5.heap.size (foot (.slice a i c)) (foot (.slice a6 (vs.length + 1) c6))) :
    Row (w6.setCell ⟨gP, 0, none⟩ (.slice a6 (i + 1) c6)) 30 (.slice a6 (i + 1) c6) (vs ++ [.slice b t.length cb]) ∧ TabsI (w6.setCell ⟨gP, 0, none⟩ (.slice a6 (i + 1) c6)) (w.heap.size :: gP :: footA a6) (vs ++ [.slice b t.length cb]) (T ++ [t]) ∧
      FirmS (w6.setCell ⟨gP, 0, none⟩ (.slice a6 (i + 1) c6)) (w.heap.size :: gP :: footA a6) aC M (natVals C) ∧ Arr (w6.setCell ⟨gP, 0, none⟩ (.slice a6 (i + 1) c6)) gP 32 [.slice a6 (i + 1) c6, pv] ∧
      Arr (w6.setCell ⟨gP, 0, none⟩ (.slice a6 (i + 1) c6)) w.heap.size 32 [.slice none 0 0, .slice none 0 0] ∧ Apart (footA a6) [w.heap.size, gP] ∧ Kept [] w (w6.setCell ⟨gP, 0, none⟩ (.slice a6 (i + 1) c6)) ∧ Fresh w.heap.size (footA a6) := by
  have hl := hR.len
  rw [hl] at hr6 hg6
  rw [foot_slice] at hk6 hg6
  rw [foot_slice] at hg6
  have hA5 := hA.kept hk5 (by simp)
  have hB5 := hB.kept hk5 (by simp)
  have hgPa : gP ∉ footA a := fun hm => hap gP hm (by simp)
  have hgRa : w.heap.size ∉ footA a := fun hm => hap _ hm (by simp)
  have hlt : ∀ x ∈ w.heap.size :: gP :: footA a, x < wr.heap.size := by
    intro x hx
    rcases List.mem_cons.1 hx with rfl | hx
    · exact hB.lt
    · rcases List.mem_cons.1 hx with rfl | hx
      · exact hA.lt
      · exact hR.lt x (by rw [foot_slice]; exact hx)
  have hA6 := hA5.kept hk6 hgPa
  have hB6 := hB5.kept hk6 hgRa
  have hkS : Kept [gP] w6 (w6.setCell ⟨gP, 0, none⟩ (.slice a6 (i + 1) c6)) := (Kept.refl [gP] w6).setCell (p := ⟨gP, 0, none⟩) (by simp) _
  have hk57 : Kept (w.heap.size :: gP :: footA a) w5 (w6.setCell ⟨gP, 0, none⟩ (.slice a6 (i + 1) c6)) := (hk6.mono (by intro x hx; simp [hx])).trans hkS (by intro x hx; simp at hx; subst hx; left; simp)
  have hgrew : Grew w5.heap.size (w.heap.size :: gP :: footA a) (w.heap.size :: gP :: footA a6) := by
    intro x hx
    rcases List.mem_cons.1 hx with rfl | hx
    · left; simp
    · rcases List.mem_cons.1 hx with rfl | hx
      · left; simp
      · rcases hg6 x hx with h | h
        · left; simp [h]
        · exact .inr h
  have hap6 : Apart (footA a6) [w.heap.size, gP] := by
    intro x hx hm
    rcases hg6 x hx with h | h
    · exact hap x h hm
    · simp at hm
      rcases hm with rfl | rfl
      · have := hB5.lt; omega
      · have := hA5.lt; omega
  have hK5 := hK.trans hk5 (by simp)
  refine ⟨hr6.kept hkS (fun x hx hm => ?_), ((hT.kept0 hk5).snoc hlt hr5 hf5).step hk57 hgrew, (hC.step (hk5.mono (by simp)) (Grew.refl _ _)).step hk57 hgrew, hA6.set 0 _, hB6.kept hkS (by simp; omega), hap6, (hK5.new hk6 hF).trans hkS (by intro x hx; simp at hx; subst hx; exact .inr (by omega)), hF.grow hg6 hK5.size⟩
  rw [foot_slice] at hx
  exact hap6 x hx (by simp at hm; simp [hm])
set_option maxRecDepth 100000 in
set_option maxHeartbeats 4000000 in
theorem rtakeG_any (a : Option Addr) (L cap : Nat) (bs : List Bool) (at_ n : Int) (w : World) (hL : bs.length = L) (hl : L ≤ 1000000000000) (hc : L ≤ cap) (hcm : cap ≤ maxLen) (hs : Sees w 1 a L (bis bs)) :
    Calls Try.prog 27 #[.slice a L cap, .int .i64 at_, .int .i64 n] w (PlanAtPost (K.takeGR bs at_ n) w) := by
  subst hL
  have hk : Kept [] w (w.alloc (.cells #[.slice none 0 0, .slice none 0 0] 32)) := (Kept.refl _ _).alloc _
  have hA := Arr.new w [.slice none 0 0, .slice none 0 0] 32
  have s0 : (w.alloc (.cells #[.slice none 0 0, .slice none 0 0] 32)).cell? ⟨w.heap.size, 0, none⟩ = some (.slice none 0 0) := hA.cell (i := 0) rfl
  have s1 : (w.alloc (.cells #[.slice none 0 0, .slice none 0 0] 32)).cell? ⟨w.heap.size, 1, none⟩ = some (.slice none 0 0) := hA.cell (i := 1) rfl
  have HK := Lib.hid hk
  have HA := Lib.hid hA
  have HS := Lib.hid hs
  have HS1 := Lib.hid (hs.kept0 hk)
  clear hk hA hs
  by_cases h1 : at_ < 0
  · have g1 : decide (at_ < 0) = true := decide_eq_true h1
    have HR := Lib.hid (takeGR_bad (bs := bs) (at_ := at_) (n := n) (.inl h1))
    go_enter Try.func27, Try.ntmps27
    go_wp2_with fail
    refine bodyPost_ret (v := .tuple #[planV none 0 0 none 0 0, .int .i64 0, .int .i64 (2 : Nat)]) (by simp [results, Try.results27, go_sem, planV, s0, s1]) rfl ?_
    exact PlanAtPost.err HR.out (by rfl) HK.out
  have g1 : decide (at_ < 0) = false := decide_eq_false h1
  obtain ⟨p, rfl⟩ := Int.eq_ofNat_of_zero_le (show 0 ≤ at_ by omega)
  by_cases h2 : bs.length < p
  · have h2i : (bs.length : Int) < (p : Int) := by omega
    have HR := Lib.hid (takeGR_bad (bs := bs) (at_ := (p : Int)) (n := n) (.inr (.inl h2i)))
    go_enter Try.func27, Try.ntmps27
    go_wp2_with fail
    refine bodyPost_ret (v := .tuple #[planV none 0 0 none 0 0, .int .i64 0, .int .i64 (2 : Nat)]) (by simp [results, Try.results27, go_sem, planV, s0, s1]) rfl ?_
    exact PlanAtPost.err HR.out (by rfl) HK.out
  have h2i : ¬ (bs.length : Int) < (p : Int) := by omega
  by_cases h3 : n < 3
  · have g3 : decide (n < 3) = true := decide_eq_true h3
    have HR := Lib.hid (takeGR_bad (bs := bs) (at_ := (p : Int)) (n := n) (.inr (.inr (.inl h3))))
    go_enter Try.func27, Try.ntmps27
    go_wp2_with fail
    refine bodyPost_ret (v := .tuple #[planV none 0 0 none 0 0, .int .i64 0, .int .i64 (2 : Nat)]) (by simp [results, Try.results27, go_sem, planV, s0, s1]) rfl ?_
    exact PlanAtPost.err HR.out (by rfl) HK.out
  have g3 : decide (n < 3) = false := decide_eq_false h3
  by_cases h4 : 258 < n
  · have g4 : decide (258 < n) = true := decide_eq_true h4
    have HR := Lib.hid (takeGR_bad (bs := bs) (at_ := (p : Int)) (n := n) (.inr (.inr (.inr h4))))
    go_enter Try.func27, Try.ntmps27
    go_wp2_with fail
    refine bodyPost_ret (v := .tuple #[planV none 0 0 none 0 0, .int .i64 0, .int .i64 (2 : Nat)]) (by simp [results, Try.results27, go_sem, planV, s0, s1]) rfl ?_
    exact PlanAtPost.err HR.out (by rfl) HK.out
  have g4 : decide (258 < n) = false := decide_eq_false h4
  have hT3 := K.takeR_zero bs p 3
  have hT3l := K.num_lt (K.piece bs p 3)
  have hgr : K.takeGR bs (p : Int) n = if (K.takeR bs p 3).2 ≠ 0 then ([], [], 0, (K.takeR bs p 3).2) else if (K.takeR bs p 3).1 < 2 ∨ 6 < (K.takeR bs p 3).1 then ([], [], 0, 110) else
      if (K.takeR bs (p + 3) 15).2 ≠ 0 then ([], [], 0, (K.takeR bs (p + 3) 15).2) else if (K.takeR bs (p + 3) 15).1 = 0 then ([], [], 0, 110) else
      if (K.picksG bs (K.takeR bs p 3).1 (K.takeR bs (p + 3) 15).1 (List.range (K.takeR bs p 3).1) [] (p + 18)).2.2 ≠ 0 then ([], [], 0, (K.picksG bs (K.takeR bs p 3).1 (K.takeR bs (p + 3) 15).1 (List.range (K.takeR bs p 3).1) [] (p + 18)).2.2) else
      if (K.tabsG bs n (K.takeR bs p 3).1 [] (K.picksG bs (K.takeR bs p 3).1 (K.takeR bs (p + 3) 15).1 (List.range (K.takeR bs p 3).1) [] (p + 18)).2.1).2.2 ≠ 0 then ([], [], 0, (K.tabsG bs n (K.takeR bs p 3).1 [] (K.picksG bs (K.takeR bs p 3).1 (K.takeR bs (p + 3) 15).1 (List.range (K.takeR bs p 3).1) [] (p + 18)).2.1).2.2) else
      ((K.tabsG bs n (K.takeR bs p 3).1 [] (K.picksG bs (K.takeR bs p 3).1 (K.takeR bs (p + 3) 15).1 (List.range (K.takeR bs p 3).1) [] (p + 18)).2.1).1, (K.picksG bs (K.takeR bs p 3).1 (K.takeR bs (p + 3) 15).1 (List.range (K.takeR bs p 3).1) [] (p + 18)).1, (K.tabsG bs n (K.takeR bs p 3).1 [] (K.picksG bs (K.takeR bs p 3).1 (K.takeR bs (p + 3) 15).1 (List.range (K.takeR bs p 3).1) [] (p + 18)).2.1).2.1, 0) := by
    unfold K.takeGR
    rw [if_neg (by omega), Int.toNat_natCast]
  have hk15 : (K.takeR bs (p + 3) 15).1 ≤ 32767 := by
    unfold K.takeR
    split
    · simp
    · split
      · simp
      · have h1 := K.num_lt (K.piece bs (p + 3) (15 : Int).toNat)
        have h2 : (K.piece bs (p + 3) (15 : Int).toNat).length ≤ 15 := by unfold K.piece; rw [List.length_take]; simp; omega
        have h3 : 2 ^ (K.piece bs (p + 3) (15 : Int).toNat).length ≤ 2 ^ 15 := Nat.pow_le_pow_right (by decide) h2
        simp only
        omega
  have HC1 := Lib.hid (fun W (hW : Kept [] (w.alloc (.cells #[.slice none 0 0, .slice none 0 0] 32)) W) => refTake_any a bs.length cap bs p 3 W rfl hl hc hcm (by omega) (HS1.out.kept0 hW))
  have HC2 := Lib.hid (fun W (hW : Kept [] (w.alloc (.cells #[.slice none 0 0, .slice none 0 0] 32)) W) (hle : p + 3 ≤ bs.length) => show Calls Try.prog 61 #[.slice a bs.length cap, .int .i64 ((p : Int) + 3), .int .i64 15] W _ from
    refTake_any a bs.length cap bs (p + 3) 15 W rfl hl hc hcm hle (HS1.out.kept0 hW))
  obtain ⟨⟨m, e1⟩, hA1⟩ : ∃ A, K.takeR bs p 3 = A := ⟨_, rfl⟩
  obtain ⟨⟨M, e2⟩, hA2⟩ : ∃ A, K.takeR bs (p + 3) 15 = A := ⟨_, rfl⟩
  rw [hA1] at hT3
  have hle2 : e2 = 0 → p + 18 ≤ bs.length := by
    intro h
    have := (K.takeR_zero bs (p + 3) 15 (by rw [hA2]; exact h)).2.2
    simp at this; omega
  rw [hA1, hA2] at hgr
  simp only [hA1] at HC1
  simp only [hA2] at HC2
  rw [hA2] at hk15
  have hk15 : M ≤ 32767 := hk15
  have HGR := Lib.hid hgr
  have HLE := Lib.hid hle2
  clear hgr hA1 hA2 hle2 hT3l
  go_enter Try.func27, Try.ntmps27
  go_wp2_with fail
  refine (HC1.out _ (Kept.refl _ _)).mono ?_
  rintro e w2 ⟨rfl, rfl⟩
  obtain ⟨W, hW⟩ : ∃ W, w.alloc (.cells #[.slice none 0 0, .slice none 0 0] 32) = W := ⟨_, rfl⟩
  rw [hW] at HK HA HS1 HC2 ⊢
  clear s0 s1 hW HC1 g1 g3 g4 h1
  by_cases hz1 : e1 = 0
  · subst hz1
    have hp3 : p + 3 ≤ bs.length := by have := (hT3 rfl).2.2; simp at this; omega
    clear hT3
    by_cases hm2 : m < 2
    · have q1 : decide ((m : Int) < 2) = true := by simp; omega
      have HR := Lib.hid (show K.takeGR bs (p : Int) n = ([], [], 0, 110) by rw [HGR.out, if_neg (by simp), if_pos (.inl hm2)])
      clear hm2
      have hB3 := HA.out
      have r0 := hB3.cell (i := 0) (u := .slice none 0 0) rfl
      have r1 := hB3.cell (i := 1) (u := .slice none 0 0) rfl
      have f0 := hB3.free 0
      have f1 := hB3.free 1
      have s0 := ((hB3.set 0 (.slice none 0 0)).set 1 (.slice none 0 0)).cell (i := 0) (u := .slice none 0 0) rfl
      have s1 := ((hB3.set 0 (.slice none 0 0)).set 1 (.slice none 0 0)).cell (i := 1) (u := .slice none 0 0) rfl
      clear hB3
      go_wp2_with fail
      refine bodyPost_ret (v := .tuple #[planV none 0 0 none 0 0, .int .i64 0, .int .i64 (110 : Nat)]) (by simp [results, Try.results27, go_sem, planV, s0, s1]) rfl ?_
      exact PlanAtPost.err HR.out (by rfl) ((HK.out.setCell (p := ⟨w.heap.size, 0, none⟩) (.inr (by simp)) _).setCell (p := ⟨w.heap.size, 1, none⟩) (.inr (by simp)) _)
    have q1 : decide ((m : Int) < 2) = false := by simp; omega
    by_cases hm6 : 6 < m
    · have q2 : decide (6 < (m : Int)) = true := by simp; omega
      have HR := Lib.hid (show K.takeGR bs (p : Int) n = ([], [], 0, 110) by rw [HGR.out, if_neg (by simp), if_pos (.inr hm6)])
      clear hm2 hm6
      have hB3 := HA.out
      have r0 := hB3.cell (i := 0) (u := .slice none 0 0) rfl
      have r1 := hB3.cell (i := 1) (u := .slice none 0 0) rfl
      have f0 := hB3.free 0
      have f1 := hB3.free 1
      have s0 := ((hB3.set 0 (.slice none 0 0)).set 1 (.slice none 0 0)).cell (i := 0) (u := .slice none 0 0) rfl
      have s1 := ((hB3.set 0 (.slice none 0 0)).set 1 (.slice none 0 0)).cell (i := 1) (u := .slice none 0 0) rfl
      clear hB3
      go_wp2_with fail
      refine bodyPost_ret (v := .tuple #[planV none 0 0 none 0 0, .int .i64 0, .int .i64 (110 : Nat)]) (by simp [results, Try.results27, go_sem, planV, s0, s1]) rfl ?_
      exact PlanAtPost.err HR.out (by rfl) ((HK.out.setCell (p := ⟨w.heap.size, 0, none⟩) (.inr (by simp)) _).setCell (p := ⟨w.heap.size, 1, none⟩) (.inr (by simp)) _)
    have q2 : decide (6 < (m : Int)) = false := by simp; omega
    have HM26 := Lib.hid (show 2 ≤ m ∧ m ≤ 6 by omega)
    clear hm2 hm6
    go_wp2_with fail
    refine (HC2.out _ (Kept.refl _ _) hp3).mono ?_
    rintro e w2 ⟨rfl, rfl⟩
    clear HC2
    by_cases hz2 : e2 = 0
    · subst hz2
      have hp18 := HLE.out rfl
      by_cases hM0 : M = 0
      · have q3 : ((M : Int) == 0) = true := by simp; omega
        have HR := Lib.hid (show K.takeGR bs (p : Int) n = ([], [], 0, 110) by rw [HGR.out, if_neg (by simp), if_neg (by have := HM26.out; omega), if_neg (by simp), if_pos hM0])
        subst hM0
        have hB3 := HA.out
        have r0 := hB3.cell (i := 0) (u := .slice none 0 0) rfl
        have r1 := hB3.cell (i := 1) (u := .slice none 0 0) rfl
        have f0 := hB3.free 0
        have f1 := hB3.free 1
        have s0 := ((hB3.set 0 (.slice none 0 0)).set 1 (.slice none 0 0)).cell (i := 0) (u := .slice none 0 0) rfl
        have s1 := ((hB3.set 0 (.slice none 0 0)).set 1 (.slice none 0 0)).cell (i := 1) (u := .slice none 0 0) rfl
        clear hB3
        go_wp2_with fail
        refine bodyPost_ret (v := .tuple #[planV none 0 0 none 0 0, .int .i64 0, .int .i64 (110 : Nat)]) (by simp [results, Try.results27, go_sem, planV, s0, s1]) rfl ?_
        exact PlanAtPost.err HR.out (by rfl) ((HK.out.setCell (p := ⟨w.heap.size, 0, none⟩) (.inr (by simp)) _).setCell (p := ⟨w.heap.size, 1, none⟩) (.inr (by simp)) _)
      have q3 : ((M : Int) == 0) = false := by simp; omega
      have hmw : IntKind.i64.wrap (m : Int) = (m : Int) := IntWalk.i64_in _ (by have := HM26.out; omega)
      have hMw : IntKind.i64.wrap (M : Int) = (M : Int) := IntWalk.i64_in _ (by omega)
      have HC3 := Lib.hid (show Calls Try.prog 62 #[.slice a bs.length cap, .int .i64 ((p : Int) + 18), .int .i64 m, .int .i64 M] W _ from rpicked_any a bs.length cap bs (p + 18) m M W rfl hl hp18 HM26.out.1 HM26.out.2 hk15 HS1.out)
      have hpk := K.picksG_ok bs m (by have := HM26.out; omega) M (List.range m) [] (p + 18) (by simp) hp18 (by simp) (by simp)
      have hgr := HGR.out
      rw [if_neg (by simp), if_neg (by have := HM26.out; omega), if_neg (by simp), if_neg hM0] at hgr
      obtain ⟨⟨C, q, e3⟩, hC⟩ : ∃ C, K.picksG bs m M (List.range m) [] (p + 18) = C := ⟨_, rfl⟩
      rw [hC] at HC3 hpk
      simp only [hC] at hgr
      have HPK := Lib.hid hpk
      have HGR2 := Lib.hid hgr
      clear hgr hpk hC HGR HLE hM0
      go_wp2_with fail
      refine HC3.out.mono ?_
      rintro e w3 ⟨aC, cC, rfl, hrowC, hk3, hfC⟩
      have HK3 := Lib.hid (HK.out.trans hk3 (by simp))
      have HA3 := Lib.hid (HA.out.kept hk3 (by simp))
      have HRC := Lib.hid (show Row w3 3 (.slice aC C.length cC) (natVals C) from hrowC)
      have HFC := Lib.hid (show ∀ x ∈ footA aC, w.heap.size < x by
        intro x hx
        have h1 := hfC x hx
        have h2 := HA.out.lt
        omega)
      clear hk3 hrowC hfC HC3
      by_cases hz3 : e3 = 0
      · subst hz3
        obtain ⟨hCl0, hq0, hCm⟩ := HPK.out rfl
        have hCl : C.length = M := by simpa using hCl0
        have hq : q ≤ bs.length := hq0
        clear hCl0 hq0
        have HCM := Lib.hid hCm
        have hgr := HGR2.out
        rw [if_neg (by simp)] at hgr
        obtain ⟨⟨TT, tq, e4⟩, hD⟩ : ∃ D, K.tabsG bs n m [] q = D := ⟨_, rfl⟩
        simp only [hD] at hgr
        have HGR3 := Lib.hid hgr
        have HD := Lib.hid hD
        have HCL := Lib.hid hCl
        clear hgr hD HGR2 HPK hCm hCl
        go_wp2_with fail
        have hkP : Kept [] w (w3.alloc (.cells #[.slice none 0 0, .slice aC C.length cC] 32)) := HK3.out.alloc _
        have hAP := Arr.new w3 [.slice none 0 0, .slice aC C.length cC] 32
        have hAR := HA3.out.kept ((Kept.refl [] w3).alloc (.cells #[.slice none 0 0, .slice aC C.length cC] 32)) (by simp)
        have hFS : FirmS (w3.alloc (.cells #[.slice none 0 0, .slice aC C.length cC] 32)) [w.heap.size, w3.heap.size] aC C.length (natVals C) := by
          intro w' hw
          refine (HRC.out.alloc _).seeA.kept hw fun x hx hm => ?_
          have h1 := HFC.out x hx
          have h2 := HRC.out.lt x (by rw [foot_slice]; exact hx)
          simp at hm
          omega
        have hgP : w.heap.size < w3.heap.size := HA3.out.lt
        obtain ⟨WP, hWP⟩ : ∃ WP, w3.alloc (.cells #[.slice none 0 0, .slice aC C.length cC] 32) = WP := ⟨_, rfl⟩
        obtain ⟨gP, hgPe⟩ : ∃ gP, w3.heap.size = gP := ⟨_, rfl⟩
        rw [hWP] at hkP hAP hAR hFS
        rw [hWP]
        rw [hgPe] at hAP hFS hgP ⊢
        have HKP := Lib.hid hkP
        have HAP0 := Lib.hid hAP
        have HAR0 := Lib.hid hAR
        have HFS0 := Lib.hid hFS
        clear hkP hAP hAR hFS hWP hgPe HK3 HA3 HRC HFC
        have hm26 := HM26.out
        go_loopg [1, 14] m (fun k v1 v wr => RTakI w gP (.slice aC C.length cC) aC C.length C bs n m (TT, tq, e4) k v1 v wr)
        case atStart => exact ⟨0, q, [], [], none, 0, by omega, by omega, rfl, rfl, hq, Lib.hid ⟨rfl, by simp⟩, Lib.hid HD.out.symm, Lib.hid (Row.nil _ _), Lib.hid (TabsI.nil _ _), HFS0, HAP0, HAR0, Lib.hid (by simp [Apart, footA]), HKP, Lib.hid (by simp [Fresh, footA])⟩
        case round =>
          clear HKP HAP0 HAR0 HFS0 HD hq
          obtain ⟨i, q, T, vs, a9, c9, hk, hi, rfl, rfl, hq, HTL, HRR, HRW, HTI, HFI, HAP, HAR, HPT, HKW, HF⟩ := hrel
          have Hk := Lib.hid hk
          clear hk
          by_cases hlt : i < m
          · have hli : (i : Int) < (m : Int) := by omega
            have HC4 := Lib.hid (rtake_any a bs.length cap bs (q : Int) n wr rfl hl hc hcm (HS.out.kept0 HKW.out))
            have hstep : (TT, tq, e4) = if (K.lensR bs (q : Int) n).2.2 ≠ 0 then ([], 0, (K.lensR bs (q : Int) n).2.2) else if K.goodL (K.lensR bs (q : Int) n).1 then K.tabsG bs n (m - (i + 1)) (T ++ [(K.lensR bs (q : Int) n).1]) (K.lensR bs (q : Int) n).2.1 else ([], 0, 80) := by
              rw [HRR.out, show m - i = (m - (i + 1)) + 1 by omega, K.tabsG]
            have hok := K.lensR_ok bs (q : Int) n
            obtain ⟨⟨t, tp, e5⟩, hD⟩ : ∃ D, K.lensR bs (q : Int) n = D := ⟨_, rfl⟩
            rw [hD] at HC4 hstep hok
            have HST := Lib.hid hstep
            have HOK := Lib.hid hok
            clear hstep hok hD
            go_wp2_with fail
            refine HC4.out.mono ?_
            rintro e w5 ⟨a5, c5, rfl, hrow5, hk5, hf5⟩
            have HR5 := Lib.hid (show Row w5 3 (.slice a5 t.length c5) (intVals t) from hrow5)
            have HK5 := Lib.hid hk5
            have HF5 := Lib.hid (show Fresh wr.heap.size (footA a5) from hf5)
            clear hrow5 hk5 hf5 HC4
            by_cases hz5 : e5 = 0
            · subst hz5
              obtain ⟨htl0, htp0⟩ := HOK.out rfl
              have htl : t.length = n.toNat := htl0
              have htp : tp ≤ bs.length := htp0
              clear htl0 htp0
              have HTP := Lib.hid htl
              have HSEE := Lib.hid (HR5.out.seeA)
              have htb : t.length ≤ 258 := by omega
              clear HOK htl
              cases hg : K.goodL t with
              | false =>
                have HC := Lib.hid (show checkR t = 80 by unfold checkR; rw [hg]; rfl)
                have hE : (TT, tq, e4) = ([], 0, 80) := by rw [HST.out, if_neg (by simp), hg]; rfl
                injection hE with h5 h6
                injection h6 with h6 h7
                subst h7
                have HR := Lib.hid (show K.takeGR bs (p : Int) n = ([], [], 0, 80) by rw [HGR3.out, if_pos (by simp)])
                clear hg h5 h6 HST
                go_wp2_with fail
                refine (rcheck_any a5 c5 t _ HSEE.out (by omega)).mono ?_
                rintro e w6 ⟨rfl, rfl⟩
                rw [HC.out]
                have HKE := Lib.hid (HKW.out.trans HK5.out (by simp))
                have HBE := Lib.hid (HAR.out.kept HK5.out (by simp))
                have hB3 := HBE.out
                have r0 := hB3.cell (i := 0) (u := .slice none 0 0) rfl
                have r1 := hB3.cell (i := 1) (u := .slice none 0 0) rfl
                have f0 := hB3.free 0
                have f1 := hB3.free 1
                have s0 := ((hB3.set 0 (.slice none 0 0)).set 1 (.slice none 0 0)).cell (i := 0) (u := .slice none 0 0) rfl
                have s1 := ((hB3.set 0 (.slice none 0 0)).set 1 (.slice none 0 0)).cell (i := 1) (u := .slice none 0 0) rfl
                clear hB3
                go_wp2_with fail
                refine bodyPost_ret (v := .tuple #[planV none 0 0 none 0 0, .int .i64 0, .int .i64 (80 : Nat)]) (by simp [results, Try.results27, go_sem, planV, s0, s1]) rfl ?_
                exact PlanAtPost.err HR.out (by rfl) ((HKE.out.setCell (p := ⟨w.heap.size, 0, none⟩) (.inr (by simp)) _).setCell (p := ⟨w.heap.size, 1, none⟩) (.inr (by simp)) _)
              | true =>
                have HC := Lib.hid (show checkR t = 0 by unfold checkR; rw [hg]; rfl)
                have HR2 := Lib.hid (show (TT, tq, e4) = K.tabsG bs n (m - (i + 1)) (T ++ [t]) tp by rw [HST.out, if_neg (by simp), hg]; rfl)
                have hrow9 := HRW.out.kept HK5.out (by simp)
                have hvl := HRW.out.len
                have L1 : vs.length + 1 ≤ maxLen := by rw [hvl]; simp only [maxLen]; omega
                have L2 : (vs.length + 1) * 24 ≤ 140737488355328 := by rw [hvl]; omega
                have hA5 := HAP.out.kept HK5.out (by simp)
                have d0 := hA5.cell (i := 0) (u := .slice a9 i c9) rfl
                have HA5 := Lib.hid hA5
                have HNP := Lib.hid (show gP ∉ foot (.slice a9 i c9) by rw [foot_slice]; exact fun hm => HPT.out gP hm (by simp))
                clear hg HST hvl hA5
                go_wp2_with fail
                refine (rcheck_any a5 c5 t _ HSEE.out (by omega)).mono ?_
                rintro e w6 ⟨rfl, rfl⟩
                rw [HC.out]
                go_wp2_with ((at_builtin; refine wp_appL _ rfl _ _ 29 rfl 30 (.slice none 0 0) 24 Try.underlying29 Try.infoInts rfl _ _ [.slice a5 t.length c5] 1 rfl rfl rfl rfl (by simp [Value.oneCell']) hrow9 L1 L2 ?_; intro a6 cap6 w6 hrow6 hk6 hg6; have hk6 : Kept (foot (.slice a9 i c9)) w5 w6 := hk6; have hA6 := HA5.out.kept hk6 HNP.out; have k0 := hA6.cell (i := 0) (u := .slice a9 i c9) rfl; have k1 := hA6.free 0; clear hA6))
                go_roundg (m - (i + 1))
                case measure => have := Hk.out; omega
                case rel =>
                  have hvl := HRW.out.len
                  obtain ⟨r1, r2, r3, r4, r5, r6, r7, r8⟩ := rtak_next HRW.out HTI.out HFI.out HAP.out HAR.out HPT.out HKW.out HF.out hgP HK5.out HR5.out HF5.out hrow6 hk6 hg6
                  obtain ⟨k5, k6⟩ := HTL.out
                  rw [hvl]
                  refine ⟨i + 1, tp, T ++ [t], _, a6, cap6, rfl, by omega, by simp, rfl, htp, Lib.hid ⟨by rw [List.length_append, k5]; rfl, fun u hu => ?_⟩, HR2, Lib.hid r1, Lib.hid r2, Lib.hid r3, Lib.hid r4, Lib.hid r5, Lib.hid r6, Lib.hid r7, Lib.hid r8⟩
                  rcases List.mem_append.1 hu with h | h
                  · exact k6 u h
                  · rw [List.mem_singleton.1 h]; exact htb
            · have q5 : ((e5 : Int) != 0) = true := bne_iff_ne.2 (by omega)
              have hE : (TT, tq, e4) = ([], 0, e5) := by rw [HST.out, if_pos hz5]
              injection hE with h5 h6
              injection h6 with h6 h7
              subst h7
              have HR := Lib.hid (show K.takeGR bs (p : Int) n = ([], [], 0, e4) by rw [HGR3.out, if_pos hz5])
              have HKE := Lib.hid (HKW.out.trans HK5.out (by simp))
              have HBE := Lib.hid (HAR.out.kept HK5.out (by simp))
              clear h5 h6 HST hz5
              have hB3 := HBE.out
              have r0 := hB3.cell (i := 0) (u := .slice none 0 0) rfl
              have r1 := hB3.cell (i := 1) (u := .slice none 0 0) rfl
              have f0 := hB3.free 0
              have f1 := hB3.free 1
              have s0 := ((hB3.set 0 (.slice none 0 0)).set 1 (.slice none 0 0)).cell (i := 0) (u := .slice none 0 0) rfl
              have s1 := ((hB3.set 0 (.slice none 0 0)).set 1 (.slice none 0 0)).cell (i := 1) (u := .slice none 0 0) rfl
              clear hB3
              go_wp2_with fail
              refine bodyPost_ret (v := .tuple #[planV none 0 0 none 0 0, .int .i64 0, .int .i64 (e4 : Nat)]) (by simp [results, Try.results27, go_sem, planV, s0, s1]) rfl ?_
              exact PlanAtPost.err HR.out (by rfl) ((HKE.out.setCell (p := ⟨w.heap.size, 0, none⟩) (.inr (by simp)) _).setCell (p := ⟨w.heap.size, 1, none⟩) (.inr (by simp)) _)
          · obtain rfl : m = i := by omega
            have hll : ¬ (m : Int) < (m : Int) := by omega
            have hE : (TT, tq, e4) = (T, q, 0) := by rw [HRR.out, Nat.sub_self]; rfl
            injection hE with h5 h6
            injection h6 with h6 h7
            subst h5 h6 h7
            have HR := Lib.hid (show K.takeGR bs (p : Int) n = (TT, C, tq, 0) by rw [HGR3.out, if_neg (by simp)])
            have d0 := HAP.out.cell (i := 0) (u := .slice a9 m c9) rfl
            have d1 := HAP.out.cell (i := 1) (u := .slice aC C.length cC) rfl
            have r0 := HAR.out.cell (i := 0) (u := .slice none 0 0) rfl
            have r1 := HAR.out.cell (i := 1) (u := .slice none 0 0) rfl
            have f0 := HAR.out.free 0
            have f1 := HAR.out.free 1
            have s0 := ((HAR.out.set 0 (.slice a9 m c9)).set 1 (.slice aC C.length cC)).cell (i := 0) (u := .slice a9 m c9) rfl
            have s1 := ((HAR.out.set 0 (.slice a9 m c9)).set 1 (.slice aC C.length cC)).cell (i := 1) (u := .slice aC C.length cC) rfl
            go_wp2_with fail
            refine bodyPost_ret (v := .tuple #[planV a9 m c9 aC C.length cC, .int .i64 (tq : Nat), .int .i64 0]) (by simp [results, Try.results27, go_sem, planV, s0, s1]) rfl ?_
            have hst : Kept [w.heap.size] wr ((wr.setCell ⟨w.heap.size, 0, none⟩ (.slice a9 m c9)).setCell ⟨w.heap.size, 1, none⟩ (.slice aC C.length cC)) := ((Kept.refl [w.heap.size] wr).setCell (p := ⟨w.heap.size, 0, none⟩) (by simp) _).setCell (p := ⟨w.heap.size, 1, none⟩) (by simp) _
            obtain ⟨WF, hWF⟩ : ∃ WF, (wr.setCell ⟨w.heap.size, 0, none⟩ (.slice a9 m c9)).setCell ⟨w.heap.size, 1, none⟩ (.slice aC C.length cC) = WF := ⟨_, rfl⟩
            rw [hWF] at hst ⊢
            have hst2 : Kept (w.heap.size :: gP :: footA a9) wr WF := hst.mono (by intro x hx; simp at hx; simp [hx])
            obtain ⟨k5, k6⟩ := HTL.out
            have hsee : Sees WF 1 a9 m vs := HRW.out.seeA.kept hst (fun x hx hm => HPT.out x hx (by simp at hm; simp [hm]))
            have hM := HTI.out.seesM hst2 hsee
            rw [HR.out]
            have hCC := HFI.out WF hst2
            rw [natVals_int] at hCC
            refine ⟨a9, c9, aC, cC, by rw [← k5]; rfl, ⟨by rw [k5]; exact hM, by rw [List.length_map]; exact hCC, by rw [k5]; omega, by rw [List.length_map, HCL.out]; omega, fun t ht => by have := k6 t ht; omega⟩, HKW.out.trans hst (by intro x hx; simp at hx; subst hx; exact .inr (Nat.le_refl _))⟩
      · have q4 : ((e3 : Int) != 0) = true := bne_iff_ne.2 (by omega)
        have HR := Lib.hid (show K.takeGR bs (p : Int) n = ([], [], 0, e3) by rw [HGR2.out, if_pos hz3])
        clear hz3
        have hB3 := HA3.out
        have r0 := hB3.cell (i := 0) (u := .slice none 0 0) rfl
        have r1 := hB3.cell (i := 1) (u := .slice none 0 0) rfl
        have f0 := hB3.free 0
        have f1 := hB3.free 1
        have s0 := ((hB3.set 0 (.slice none 0 0)).set 1 (.slice none 0 0)).cell (i := 0) (u := .slice none 0 0) rfl
        have s1 := ((hB3.set 0 (.slice none 0 0)).set 1 (.slice none 0 0)).cell (i := 1) (u := .slice none 0 0) rfl
        clear hB3
        go_wp2_with fail
        refine bodyPost_ret (v := .tuple #[planV none 0 0 none 0 0, .int .i64 0, .int .i64 (e3 : Nat)]) (by simp [results, Try.results27, go_sem, planV, s0, s1]) rfl ?_
        exact PlanAtPost.err HR.out (by rfl) ((HK3.out.setCell (p := ⟨w.heap.size, 0, none⟩) (.inr (by simp)) _).setCell (p := ⟨w.heap.size, 1, none⟩) (.inr (by simp)) _)
    · have q3 : ((e2 : Int) != 0) = true := bne_iff_ne.2 (by omega)
      have HR := Lib.hid (show K.takeGR bs (p : Int) n = ([], [], 0, e2) by rw [HGR.out, if_neg (by simp), if_neg (by have := HM26.out; omega), if_pos hz2])
      clear hz2
      have hB3 := HA.out
      have r0 := hB3.cell (i := 0) (u := .slice none 0 0) rfl
      have r1 := hB3.cell (i := 1) (u := .slice none 0 0) rfl
      have f0 := hB3.free 0
      have f1 := hB3.free 1
      have s0 := ((hB3.set 0 (.slice none 0 0)).set 1 (.slice none 0 0)).cell (i := 0) (u := .slice none 0 0) rfl
      have s1 := ((hB3.set 0 (.slice none 0 0)).set 1 (.slice none 0 0)).cell (i := 1) (u := .slice none 0 0) rfl
      clear hB3
      go_wp2_with fail
      refine bodyPost_ret (v := .tuple #[planV none 0 0 none 0 0, .int .i64 0, .int .i64 (e2 : Nat)]) (by simp [results, Try.results27, go_sem, planV, s0, s1]) rfl ?_
      exact PlanAtPost.err HR.out (by rfl) ((HK.out.setCell (p := ⟨w.heap.size, 0, none⟩) (.inr (by simp)) _).setCell (p := ⟨w.heap.size, 1, none⟩) (.inr (by simp)) _)
  · have q1 : ((e1 : Int) != 0) = true := bne_iff_ne.2 (by omega)
    have HR := Lib.hid (show K.takeGR bs (p : Int) n = ([], [], 0, e1) by rw [HGR.out, if_pos hz1])
    clear hz1
    have hB3 := HA.out
    have r0 := hB3.cell (i := 0) (u := .slice none 0 0) rfl
    have r1 := hB3.cell (i := 1) (u := .slice none 0 0) rfl
    have f0 := hB3.free 0
    have f1 := hB3.free 1
    have s0 := ((hB3.set 0 (.slice none 0 0)).set 1 (.slice none 0 0)).cell (i := 0) (u := .slice none 0 0) rfl
    have s1 := ((hB3.set 0 (.slice none 0 0)).set 1 (.slice none 0 0)).cell (i := 1) (u := .slice none 0 0) rfl
    clear hB3
    go_wp2_with fail
    refine bodyPost_ret (v := .tuple #[planV none 0 0 none 0 0, .int .i64 0, .int .i64 (e1 : Nat)]) (by simp [results, Try.results27, go_sem, planV, s0, s1]) rfl ?_
    exact PlanAtPost.err HR.out (by rfl) ((HK.out.setCell (p := ⟨w.heap.size, 0, none⟩) (.inr (by simp)) _).setCell (p := ⟨w.heap.size, 1, none⟩) (.inr (by simp)) _)
end Go.Proofs.Ytdaenajhgbagdaa
