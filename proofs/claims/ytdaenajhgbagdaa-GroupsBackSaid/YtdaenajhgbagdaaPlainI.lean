/-
  Plans by rounds, plainly: costs of groups, the best table, counts, rounds.
-/
import Derived.Test.YtdaenajhgbagdaaPlainH
import Derived.Test.YtdaenajhgbagdaaHufWalk
import Derived.Test.YtdaenajhgbagdaaGrpE
namespace Go.Proofs.Ytdaenajhgbagdaa
namespace K
set_option linter.unusedVariables false
set_option linter.unusedSimpArgs false

def costL (t g : List Nat) : Nat := (g.map fun s => t.getD s 0).sum
theorem costL_le (t : List Nat) (b : Nat) (h : ∀ x ∈ t, x ≤ b) : ∀ g : List Nat, costL t g ≤ b * g.length
  | [] => by simp [costL]
  | s :: r => by
    have ih := costL_le t b h r
    unfold costL at ih ⊢
    rw [List.map_cons, List.sum_cons, List.length_cons, Nat.mul_add, Nat.mul_one]
    have : t.getD s 0 ≤ b := by
      rw [List.getD]
      cases hs : t[s]? with
      | none => simp
      | some x => exact h x (List.mem_of_getElem? hs)
    omega
theorem costL_snoc (t : List Nat) (g : List Nat) (s : Nat) : costL t (g ++ [s]) = costL t g + t.getD s 0 := by simp [costL]
theorem costL_take (t g : List Nat) (j s : Nat) (h : g[j]? = some s) : costL t (g.take (j + 1)) = costL t (g.take j) + t.getD s 0 := by
  rw [List.take_add_one, h]
  exact costL_snoc t _ s
/-- The best of the first t + 1 tables. -/
def bestTo (T : List (List Nat)) (g : List Nat) : Nat → Nat
  | 0 => 0
  | t + 1 => if costL (T.getD (t + 1) []) g < costL (T.getD (bestTo T g t) []) g then t + 1 else bestTo T g t
theorem bestTo_le (T : List (List Nat)) (g : List Nat) : ∀ t, bestTo T g t ≤ t
  | 0 => Nat.le_refl _
  | t + 1 => by
    rw [bestTo]
    split
    · exact Nat.le_refl _
    · exact Nat.le_succ_of_le (bestTo_le T g t)
/-- How often each symbol stands in the first i, in the groups whose pick is t. -/
def cntAt (L P : List Nat) (t n i : Nat) : List Nat := (List.range n).map fun s => (List.range i).countP fun j => P.getD (j / 50) 0 == t && L.getD j 0 == s
theorem cntAt_length (L P : List Nat) (t n i : Nat) : (cntAt L P t n i).length = n := by simp [cntAt]
theorem cntAt_zero (L P : List Nat) (t n : Nat) : cntAt L P t n 0 = List.replicate n 0 := by
  unfold cntAt
  apply List.ext_getElem?
  intro j
  by_cases h : j < n
  · simp [List.getElem?_range h, h]
  · rw [List.getElem?_eq_none (by simp; omega), List.getElem?_eq_none (by simp; omega)]
theorem cntAt_get (L P : List Nat) (t n i s : Nat) (h : s < n) : (cntAt L P t n i)[s]? = some ((List.range i).countP fun j => P.getD (j / 50) 0 == t && L.getD j 0 == s) := by simp [cntAt, List.getElem?_range h]
theorem cntAt_le (L P : List Nat) (t n i : Nat) : ∀ c ∈ cntAt L P t n i, c ≤ i := by
  intro c hc
  obtain ⟨s, -, rfl⟩ := List.mem_map.1 hc
  have := List.countP_le_length (p := fun j => P.getD (j / 50) 0 == t && L.getD j 0 == s) (l := List.range i)
  rwa [List.length_range] at this
theorem cntAt_hit (L P : List Nat) (t n i x : Nat) (hp : P.getD (i / 50) 0 = t) (hx : L[i]? = some x) (c : Nat) (hc : (cntAt L P t n i)[x]? = some c) : (cntAt L P t n i).set x (c + 1) = cntAt L P t n (i + 1) := by
  apply List.ext_getElem?
  intro s
  have hgx : L.getD i 0 = x := by rw [List.getD, hx]; rfl
  rw [List.getElem?_set]
  by_cases hs : s < n
  · rw [cntAt_get _ _ _ _ _ _ hs, cntAt_get _ _ _ _ _ _ hs, List.range_succ, List.countP_append]
    by_cases he : x = s
    · subst he
      rw [cntAt_get _ _ _ _ _ _ hs] at hc
      injection hc with hc
      rw [if_pos rfl, if_pos (by rw [cntAt_length]; exact hs), ← hc, List.countP_singleton]
      simp only [hp, hgx, beq_self_eq_true, Bool.and_true, if_true]
    · rw [if_neg he, List.countP_singleton, hgx]
      have h2 : (x == s) = false := by simp [he]
      rw [h2, Bool.and_false]
      simp
  · by_cases he : x = s
    · subst he
      rw [if_pos rfl, if_neg (by rw [cntAt_length]; omega), List.getElem?_eq_none (by rw [cntAt_length]; omega)]
    · rw [if_neg he, List.getElem?_eq_none (by rw [cntAt_length]; omega), List.getElem?_eq_none (by rw [cntAt_length]; omega)]
theorem cntAt_miss (L P : List Nat) (t n i : Nat) (hp : P.getD (i / 50) 0 ≠ t) : cntAt L P t n (i + 1) = cntAt L P t n i := by
  unfold cntAt
  apply List.map_congr_left
  intro s _
  rw [List.range_succ, List.countP_append, List.countP_singleton]
  have h2 : (P.getD (i / 50) 0 == t) = false := by simpa using hp
  rw [h2, Bool.false_and]
  simp
/-- The tables ahead of the first round. -/
def initT (n m : Nat) : List (List Nat) := (List.range m).map fun t => (List.range n).map fun s => if s * m / n = t then 1 else 15
/-- Each group's best table. -/
def picksL (T : List (List Nat)) (L : List Nat) (m : Nat) : List Nat := (List.range (groupsN L.length)).map fun k => bestTo T (groupL L k) (m - 1)
theorem picksL_length (T : List (List Nat)) (L : List Nat) (m : Nat) : (picksL T L m).length = groupsN L.length := by simp [picksL]
theorem picksL_get (T : List (List Nat)) (L : List Nat) (m k : Nat) (h : k < groupsN L.length) : (picksL T L m)[k]? = some (bestTo T (groupL L k) (m - 1)) := by simp [picksL, List.getElem?_range h]
theorem picksL_lt (T : List (List Nat)) (L : List Nat) (m : Nat) (hm : 0 < m) : ∀ x ∈ picksL T L m, x < m := by
  intro x hx
  obtain ⟨k, -, rfl⟩ := List.mem_map.1 hx
  have := bestTo_le T (groupL L k) (m - 1)
  omega
/-- What Make makes of weights. -/
noncomputable def makeF (ws : List Nat) : List Nat := (Classical.choose (make_ans (ws.map fun c : Nat => (c : Int)) 17)).1
theorem makeF_ans (ws : List Nat) (h2 : 2 ≤ ws.length) (h3 : ws.length ≤ 258) (hw : ∀ c ∈ ws, c ≤ 1073741824) : MakeAns (ws.map fun c : Nat => (c : Int)) 17 (makeF ws, 0) := by
  have h := Classical.choose_spec (make_ans (ws.map fun c : Nat => (c : Int)) 17)
  have hm : mayL (ws.map fun c : Nat => (c : Int)) = true := by
    unfold mayL
    rw [List.length_map, decide_eq_true h2, decide_eq_true h3, Bool.true_and, Bool.true_and, List.all_eq_true]
    intro y hy
    obtain ⟨c, hc, rfl⟩ := List.mem_map.1 hy
    have := hw c hc
    rw [decide_eq_true_eq]
    omega
  have h0 : (Classical.choose (make_ans (ws.map fun c : Nat => (c : Int)) 17)).2 = 0 := by
    rcases h with ⟨h1, -⟩ | ⟨-, h1, -⟩
    · rw [hm] at h1; simp [mostOk] at h1
    · exact h1
  unfold makeF
  rw [show ((Classical.choose (make_ans (ws.map fun c : Nat => (c : Int)) 17)).1, 0) = Classical.choose (make_ans (ws.map fun c : Nat => (c : Int)) 17) from Prod.ext rfl h0.symm]
  exact h
theorem makeF_ok (ws : List Nat) (h2 : 2 ≤ ws.length) (h3 : ws.length ≤ 258) (hw : ∀ c ∈ ws, c ≤ 1073741824) : (makeF ws).length = ws.length ∧ (∀ x ∈ makeF ws, 1 ≤ x ∧ x ≤ 17) ∧ fullL ((makeF ws).map fun c : Nat => (c : Int)) = true := by
  obtain ⟨-, a, b, c⟩ := (makeF_ans ws h2 h3 hw).ok rfl
  rw [List.length_map] at a
  exact ⟨a, fun x hx => by have := b x hx; omega, c⟩
/-- A round's tables. -/
noncomputable def stepT (L : List Nat) (n m : Nat) (P : List Nat) : List (List Nat) := (List.range m).map fun t => makeF (cntAt L P t n L.length)
noncomputable def tabsC (L : List Nat) (n m : Nat) : Nat → List (List Nat)
  | 0 => initT n m
  | r + 1 => stepT L n m (picksL (tabsC L n m r) L m)
noncomputable def picksC (L : List Nat) (n m : Nat) : Nat → List Nat
  | 0 => List.replicate (groupsN L.length) 0
  | r + 1 => picksL (tabsC L n m r) L m
/-- Tables that serve: m of them, each for n symbols, no length above 20. -/
def GoodT (n m : Nat) (T : List (List Nat)) : Prop := T.length = m ∧ ∀ t ∈ T, t.length = n ∧ ∀ x ∈ t, x ≤ 20
theorem initT_good (n m : Nat) : GoodT n m (initT n m) := by
  refine ⟨by simp [initT], fun t ht => ?_⟩
  obtain ⟨k, -, rfl⟩ := List.mem_map.1 ht
  refine ⟨by simp, fun x hx => ?_⟩
  obtain ⟨s, -, rfl⟩ := List.mem_map.1 hx
  split <;> omega
theorem stepT_good (L P : List Nat) (n m : Nat) (hn : 3 ≤ n ∧ n ≤ 258) (hL : L.length ≤ 1638350) : GoodT n m (stepT L n m P) := by
  refine ⟨by simp [stepT], fun t ht => ?_⟩
  obtain ⟨k, -, rfl⟩ := List.mem_map.1 ht
  obtain ⟨a, b, -⟩ := makeF_ok (cntAt L P k n L.length) (by rw [cntAt_length]; omega) (by rw [cntAt_length]; omega) (fun c hc => by have := cntAt_le L P k n L.length c hc; omega)
  exact ⟨by rw [a, cntAt_length], fun x hx => by have := b x hx; omega⟩
theorem tabsC_good (L : List Nat) (n m : Nat) (hn : 3 ≤ n ∧ n ≤ 258) (hL : L.length ≤ 1638350) : ∀ r, GoodT n m (tabsC L n m r)
  | 0 => initT_good n m
  | r + 1 => stepT_good L _ n m hn hL
theorem picksC_len (L : List Nat) (n m r : Nat) : (picksC L n m r).length = groupsN L.length := by
  cases r with
  | zero => simp [picksC]
  | succ r => exact picksL_length _ _ _
theorem groupL_length {α : Type} (l : List α) (k : Nat) : (groupL l k).length = min 50 (l.length - 50 * k) := by simp [groupL]
theorem groupL_get {α : Type} (l : List α) (k j : Nat) (h : j < (groupL l k).length) : (groupL l k)[j]? = l[50 * k + j]? := by
  rw [groupL_length] at h
  unfold groupL
  rw [List.getElem?_take, if_pos (by omega), List.getElem?_drop]
theorem groupL_map {α β : Type} (f : α → β) (l : List α) (k : Nat) : groupL (l.map f) k = (groupL l k).map f := by simp [groupL, List.map_take, List.map_drop]
end K
end Go.Proofs.Ytdaenajhgbagdaa
