/-
  What bwt.Back's loops hold, plainly.
-/
import Derived.Test.YtaeppgooenbfiaaPlainB1
namespace Go.Proofs.Ytaeppgooenbfiaa
namespace K
set_option linter.unusedVariables false
set_option linter.unusedSimpArgs false

/-- The counts of the first k. -/
def cntA (l : List Nat) (k : Nat) : List Nat := (List.range 256).map fun b => cEq l k b
/-- Below b: how many are lower; from b on: the counts. -/
def sumA (l : List Nat) (b : Nat) : List Nat := (List.range 256).map fun c => if c < b then cLt l c else l.count c
/-- Where the next of each stands. -/
def nextA (l : List Nat) (k : Nat) : List Nat := (List.range 256).map fun b => cLt l b + cEq l k b
theorem range_map_get (f : Nat → Nat) (n b : Nat) (h : b < n) : ((List.range n).map f)[b]? = some (f b) := by simp [List.getElem?_range h]
theorem range_map_set (f g : Nat → Nat) (n b x : Nat) (h : b < n) (hb : g b = x) (ho : ∀ c, c ≠ b → g c = f c) : ((List.range n).map f).set b x = (List.range n).map g := by
  apply List.ext_getElem?
  intro i
  rw [List.getElem?_set]
  simp only [List.length_map, List.length_range]
  by_cases hi : b = i
  · subst hi
    rw [if_pos rfl, if_pos h, range_map_get _ _ _ h, hb]
  · rw [if_neg hi]
    by_cases hl : i < n
    · rw [range_map_get _ _ _ hl, range_map_get _ _ _ hl, ho i (fun h => hi h.symm)]
    · rw [List.getElem?_eq_none (by simp; omega), List.getElem?_eq_none (by simp; omega)]
theorem cntA_length (l : List Nat) (k : Nat) : (cntA l k).length = 256 := by simp [cntA]
theorem sumA_length (l : List Nat) (k : Nat) : (sumA l k).length = 256 := by simp [sumA]
theorem nextA_length (l : List Nat) (k : Nat) : (nextA l k).length = 256 := by simp [nextA]
theorem cntA_zero (l : List Nat) : cntA l 0 = List.replicate 256 0 := by
  unfold cntA
  rw [show (fun b => cEq l 0 b) = fun _ => 0 from funext fun b => cEq_zero l b, List.map_const', List.length_range]
theorem cntA_all (l : List Nat) : cntA l l.length = sumA l 0 := by
  unfold cntA sumA
  refine List.map_congr_left fun b _ => ?_
  rw [cEq_all, if_neg (by omega)]
theorem cntA_step (l : List Nat) (k x : Nat) (h : l[k]? = some x) (hx : x < 256) : (cntA l k).set x (cEq l k x + 1) = cntA l (k + 1) := by
  refine range_map_set _ _ _ _ _ hx ?_ fun c hc => ?_
  · show cEq l (k + 1) x = _
    rw [cEq_succ l k x x h, if_pos rfl]
  · show cEq l (k + 1) c = cEq l k c
    rw [cEq_succ l k c x h, if_neg (fun h => hc h.symm)]; rfl
theorem sumA_step (l : List Nat) (b : Nat) (hb : b < 256) : (sumA l b).set b (cLt l b) = sumA l (b + 1) := by
  refine range_map_set _ _ _ _ _ hb ?_ fun c hc => ?_
  · show (if b < b + 1 then cLt l b else _) = _
    rw [if_pos (by omega)]
  · show (if c < b + 1 then cLt l c else _) = if c < b then cLt l c else _
    by_cases h : c < b
    · rw [if_pos h, if_pos (by omega)]
    · rw [if_neg h, if_neg (by omega)]
theorem sumA_all (l : List Nat) : sumA l 256 = nextA l 0 := by
  unfold sumA nextA
  refine List.map_congr_left fun b hb => ?_
  rw [List.mem_range] at hb
  rw [cEq_zero, if_pos hb]; rfl
theorem nextA_step (l : List Nat) (k x : Nat) (h : l[k]? = some x) (hx : x < 256) : (nextA l k).set x (cLt l x + cEq l k x + 1) = nextA l (k + 1) := by
  refine range_map_set _ _ _ _ _ hx ?_ fun c hc => ?_
  · show cLt l x + cEq l (k + 1) x = _
    rw [cEq_succ l k x x h, if_pos rfl]; omega
  · show cLt l c + cEq l (k + 1) c = cLt l c + cEq l k c
    rw [cEq_succ l k c x h, if_neg (fun h => hc h.symm)]; rfl
/-- The first i have their places. -/
def Placed (l : List Nat) (i : Nat) (P : List Nat) : Prop := P.length = l.length ∧ ∀ j, j < i → P[pos l j]? = some j
theorem Placed.step {l : List Nat} {i : Nat} {P : List Nat} (h : Placed l i P) (hi : i < l.length) : Placed l (i + 1) (P.set (pos l i) i) := by
  refine ⟨by rw [List.length_set, h.1], fun j hj => ?_⟩
  rw [List.getElem?_set]
  by_cases he : pos l i = pos l j
  · have := pos_inj l i j hi (by omega) he
    subst this
    rw [if_pos rfl, if_pos (by rw [h.1]; exact pos_lt l i hi)]
  · rw [if_neg he]
    have : j ≠ i := fun h => he (by rw [h])
    exact h.2 j (by omega)
theorem Placed.done {l P : List Nat} (hb : ∀ x ∈ l, x < 256) (h : Placed l l.length P) : P = stab l 256 := places_stab l P hb h.1 h.2
end K
end Go.Proofs.Ytaeppgooenbfiaa
