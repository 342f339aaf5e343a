/-
  The walk of lengths.Flat.
-/
import Derived.Test.YtodjfgdolegfpaaLenI
import Derived.Test.YtodjfgdolegfpaaLenG
import Derived.Test.YtodjfgdolegfpaaRefP
namespace Go.Proofs.Ytodjfgdolegfpaa
open Go.RowKit
set_option linter.unusedVariables false
set_option linter.unusedSimpArgs false

theorem treesC_zero (n : Nat) : treesC (List.replicate n (0, 0)) = List.replicate (n * 2) (.int .i64 0) := by
  induction n with
  | zero => rfl
  | succ n ih => rw [List.replicate_succ, show (n + 1) * 2 = n * 2 + 1 + 1 by omega, List.replicate_succ, List.replicate_succ, ← ih]; rfl
theorem made_trees (n : Nat) : (madeCells #[.int .i64 0, .int .i64 0] (n * 2)).toList = treesC (List.replicate n (0, 0)) := by
  rw [treesC_zero]
  apply List.ext_getElem?
  intro t
  by_cases h : t < n * 2
  · have e : t % 2 = 0 ∨ t % 2 = 1 := by omega
    simp only [madeCells, Array.toList_map, List.getElem?_map, Array.toList_range, List.getElem?_range h, List.getElem?_replicate, h, if_true, Option.map_some]
    rcases e with e | e <;> simp [e]
  · rw [List.getElem?_eq_none (by simp [madeCells]; omega), List.getElem?_eq_none (by simp; omega)]
/-- The walk's arm at 'make([]tree, n)'. -/
theorem wp_makeT {w : World} {ops : Array Oper} {rest : List Oper} {o : Oper} {a : Act} {Q : Exit → Act → World → Prop}
    (hg : o.guard = none) (l c : Operand) (t : TypeId) (hop : o.op = Op.makeSlice t l c)
    (e : TypeId) (hu : Try.prog.underlying t = some (.slice e)) (T : (Try.prog.info? e).map (fun i => (i.zero, i.size, i.bytes)) = some (some (.agg #[.int .i64 0, .int .i64 0]), 2, 16))
    (kl kc : IntKind) (n : Nat) (hl : a.eval l = .int kl n) (hc : a.eval c = .int kc n) (hm : n ≤ 1000000)
    (hK : ∀ w', RowN w' e 2 (.slice (some ⟨w.heap.size, 0, none⟩) n n) n (treesC (List.replicate n (0, 0))) → Kept [] w w' → wpList Try.prog ops Q rest (a.put o.dst (.slice (some ⟨w.heap.size, 0, none⟩) n n)) w') :
    wpList Try.prog ops Q (o :: rest) a w := by
  obtain ⟨i, hi, h0, h1, h2⟩ := info_parts T
  have hb' : (i.bytes : Int) * (n : Int) ≤ 281474976710656 := by
    rw [h2]; omega
  have hr := run_make (P := Try.prog) w t e i _ hu hi h0 kl kc n n (by omega) (by omega) hb' (by omega)
  refine wpList_plain hg fun K hK' => ?_
  unfold Oper.wp
  simp [execOp, hop, hl, hc, hr, Result.andThen]
  refine hK' _ _ (hK _ ⟨by rw [treesC_length]; simp, .inr ⟨w.heap.size, n, _, by simp, Nat.zero_le _, heap_alloc_new w _, Nat.le_refl _, by simp only [maxLen]; omega, by rw [h1]; simp [size_madeCells], ?_⟩⟩ ((Kept.refl _ _).alloc _))
  rw [h1, show (Value.agg #[.int .i64 0, .int .i64 0]).cells = #[.int .i64 0, .int .i64 0] from by rfl, made_trees, List.take_of_length_le (by rw [treesC_length]; simp)]

/-- The trees that Flat sorts. -/
def pairsF (xs : List Int) (i : Nat) : List (Int × Int) := (List.range i).map fun j => (-(((ownN xs).getD j 0 : Nat) : Int), (j : Int))
theorem pairsF_len (xs : List Int) (i : Nat) : (pairsF xs i).length = i := by simp [pairsF]
theorem pairsF_set (xs : List Int) (i : Nat) (x : Int) (h : xs[i]? = some x) (n : Nat) (hi : i < n) : (pairsF xs i ++ List.replicate (n - i) (0, 0)).set i (-clampI x, (i : Int)) = pairsF xs (i + 1) ++ List.replicate (n - (i + 1)) (0, 0) := by
  have e := ownN_get h
  rw [List.set_append_right _ _ (by rw [pairsF_len]; exact Nat.le_refl _), pairsF_len, Nat.sub_self, show n - i = (n - (i + 1)) + 1 by omega, List.replicate_succ, List.set_cons_zero]
  unfold pairsF
  rw [List.range_succ, List.map_append, List.append_assoc]
  simp only [List.map_cons, List.map_nil, e]
  rfl
/-- What is told when i symbols of the sorted ones have theirs. -/
def outF (ws : List Nat) (i : Nat) : List Nat := (List.range ws.length).map fun j => if K.frontN ws j < i then K.flatAt ws.length (K.frontN ws j) else 0
theorem outF_len (ws : List Nat) (i : Nat) : (outF ws i).length = ws.length := by simp [outF]
theorem outF_zero (ws : List Nat) : outF ws 0 = List.replicate ws.length 0 := by
  unfold outF
  apply List.ext_getElem?
  intro j
  by_cases h : j < ws.length
  · simp [List.getElem?_range h, h]
  · rw [List.getElem?_eq_none (by simp; omega), List.getElem?_eq_none (by simp; omega)]
theorem outF_all (ws : List Nat) : outF ws ws.length = K.flatL ws := by
  unfold outF K.flatL
  apply List.map_congr_left
  intro j hj
  rw [List.mem_range] at hj
  have hp := (K.front_perm ws).mem_iff.1 (List.mem_map.2 ⟨j, List.mem_range.2 hj, rfl⟩)
  rw [List.mem_range] at hp
  rw [if_pos hp]
structure SortedT (ws : List Nat) (l : List (Int × Int)) : Prop where
  len : l.length = ws.length
  at_ : ∀ (p : Nat) (t : Int × Int), l[p]? = some t → ∃ q : Nat, t.2 = (q : Int) ∧ q < ws.length ∧ K.frontN ws q = p
  all : ∀ q, q < ws.length → ∃ (p : Nat) (t : Int × Int), l[p]? = some t ∧ t.2 = (q : Int)
theorem sorted_of {xs : List Int} {l : List (Int × Int)} (hp : l.Perm (pairsF xs xs.length)) (hs : l.Pairwise fun a b => ¬ (b.1 < a.1 ∨ (b.1 = a.1 ∧ b.2 < a.2))) : SortedT (ownN xs) l := by
  have hlen : l.length = xs.length := by rw [hp.length_eq, pairsF_len]
  have hmem : ∀ t ∈ l, ∃ q : Nat, q < xs.length ∧ t = (-(((ownN xs).getD q 0 : Nat) : Int), (q : Int)) := by
    intro t ht
    obtain ⟨q, hq, rfl⟩ := List.mem_map.1 (hp.mem_iff.1 ht)
    exact ⟨q, List.mem_range.1 hq, rfl⟩
  have hL : (l.map fun t => t.2.toNat).Perm (List.range (ownN xs).length) := by
    have h1 := hp.map fun t => t.2.toNat
    have h2 : (pairsF xs xs.length).map (fun t => t.2.toNat) = List.range (ownN xs).length := by
      rw [ownN_length]
      unfold pairsF
      rw [List.map_map]
      conv => rhs; rw [← List.map_id (List.range xs.length)]
      apply List.map_congr_left
      intro j _
      simp
    rwa [h2] at h1
  have hpw : (l.map fun t => t.2.toNat).Pairwise fun a b => K.before (ownN xs) a b = false := by
    rw [List.pairwise_map, List.pairwise_iff_getElem]
    rw [List.pairwise_iff_getElem] at hs
    intro i j hi hj hij
    have h1 := hs i j hi hj hij
    obtain ⟨a, ha, ea⟩ := hmem l[i] (List.getElem_mem _)
    obtain ⟨b, hb, eb⟩ := hmem l[j] (List.getElem_mem _)
    rw [ea, eb] at h1 ⊢
    unfold K.before
    rw [decide_eq_false_iff_not]
    simp only [Int.toNat_natCast] at h1 ⊢
    omega
  refine ⟨by rw [hlen, ownN_length], fun p t ht => ?_, fun q hq => ?_⟩
  · obtain ⟨q, hq, rfl⟩ := hmem t (List.mem_of_getElem? ht)
    refine ⟨q, rfl, by rw [ownN_length]; exact hq, ?_⟩
    exact K.front_at hL hpw p q (by rw [List.getElem?_map, ht]; simp)
  · have hm : q ∈ l.map fun t => t.2.toNat := hL.mem_iff.2 (List.mem_range.2 hq)
    obtain ⟨t, ht, hqe⟩ := List.mem_map.1 hm
    obtain ⟨p, hpl, hpe⟩ := List.mem_iff_getElem.1 ht
    obtain ⟨q2, -, e2⟩ := hmem t ht
    refine ⟨p, t, by rw [← hpe]; exact List.getElem?_eq_getElem hpl, ?_⟩
    rw [e2] at hqe ⊢
    simp at hqe ⊢
    omega
theorem outF_set {ws : List Nat} {l : List (Int × Int)} (h : SortedT ws l) {p q : Nat} {t : Int × Int} (ht : l[p]? = some t) (hq : t.2 = (q : Int)) : (outF ws p).set q (K.flatAt ws.length p) = outF ws (p + 1) := by
  obtain ⟨q', e1, hlt, hf⟩ := h.at_ p t ht
  have : q' = q := by omega
  subst this
  apply List.ext_getElem?
  intro j
  rw [List.getElem?_set]
  by_cases hj : j < ws.length
  · have g : ∀ i, (outF ws i)[j]? = some (if K.frontN ws j < i then K.flatAt ws.length (K.frontN ws j) else 0) := fun i => by simp [outF, List.getElem?_range hj]
    rw [g, g]
    by_cases he : q' = j
    · subst he
      rw [if_pos rfl, if_pos (by rw [outF_len]; exact hlt), hf, if_pos (by omega)]
    · rw [if_neg he]
      have hne : K.frontN ws j ≠ p := by
        intro hfj
        obtain ⟨p2, t2, h2, h3⟩ := h.all j hj
        obtain ⟨q2, e2, -, f2⟩ := h.at_ p2 t2 h2
        have hq2 : q2 = j := by omega
        subst hq2
        have hpp : p2 = p := by omega
        subst hpp
        rw [ht] at h2
        cases h2
        omega
      by_cases h1 : K.frontN ws j < p
      · rw [if_pos h1, if_pos (by omega)]
      · rw [if_neg h1, if_neg (by omega)]
  · rw [if_neg (by omega), List.getElem?_eq_none (by rw [outF_len]; omega), List.getElem?_eq_none (by rw [outF_len]; omega)]

def OrdI (w0 : World) (xs : List Int) (g : Nat) (m : Nat) (v : Value) (wr : World) : Prop :=
  ∃ i : Nat, m = xs.length - i ∧ i ≤ xs.length ∧ v = .int .i64 (i : Nat) ∧ Hid (RowN wr 95 2 (.slice (some ⟨g, 0, none⟩) xs.length xs.length) xs.length (treesC (pairsF xs i ++ List.replicate (xs.length - i) (0, 0)))) ∧ Hid (Kept [] w0 wr)
def OutI (w0 : World) (xs : List Int) (g go : Nat) (l : List (Int × Int)) (m : Nat) (v : Value) (wr : World) : Prop :=
  ∃ i : Nat, m = xs.length - i ∧ i ≤ xs.length ∧ v = .int .i64 (i : Nat) ∧ Hid (Sees wr 2 (some ⟨g, 0, none⟩) xs.length (treesC l)) ∧ Hid (Row wr 3 (.slice (some ⟨go, 0, none⟩) xs.length xs.length) (natVals (outF (ownN xs) i))) ∧ Hid (Kept [] w0 wr)
end Go.Proofs.Ytodjfgdolegfpaa
