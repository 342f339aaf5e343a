/-
  A plan told in bits is read as it was; symbols in a plan's codes are read as they were; plainly.
-/
import Derived.Test.YtdaenajhgbagdaaPlainH
namespace Go.Proofs.Ytdaenajhgbagdaa
namespace K
set_option linter.unusedVariables false
set_option linter.unusedSimpArgs false

theorem unary_told (most : Int) : ∀ (k n : Nat) (rest : List Bool), ((n + k : Nat) : Int) ≤ most → unary most n (List.replicate k true ++ false :: rest) = (n + k, 0)
  | 0, n, rest, h => by simp [unary]
  | k + 1, n, rest, h => by
    rw [List.replicate_succ, List.cons_append, unary, if_neg (by omega), unary_told most k (n + 1) rest (by omega), show n + 1 + k = n + (k + 1) by omega]
theorem picksG_told (many : Nat) (Z : List Bool) : ∀ (P o out : List Nat) (A : List Bool), o.length = many → (∀ p ∈ P, p ∈ o) →
    picksG (A ++ (mtf o P ++ Z)) many P.length o out A.length = (out ++ P, A.length + (mtf o P).length, 0)
  | [], o, out, A, h, hp => by simp [picksG, mtf]
  | p :: r, o, out, A, h, hp => by
    have hm := hp p (by simp)
    have hi : o.idxOf p < o.length := List.idxOf_lt_length_iff.2 hm
    have e0 : mtf o (p :: r) = List.replicate (o.idxOf p) true ++ false :: mtf (turned o (o.idxOf p)) r := rfl
    have e1 : (A ++ (mtf o (p :: r) ++ Z)).drop A.length = List.replicate (o.idxOf p) true ++ false :: (mtf (turned o (o.idxOf p)) r ++ Z) := by
      rw [List.drop_left, e0, List.append_assoc, List.cons_append]
    have hu := unary_told ((many : Int) - 1) (o.idxOf p) 0 (mtf (turned o (o.idxOf p)) r ++ Z) (by omega)
    have hg : o.getD (o.idxOf p) 0 = p := idxOf_getD o p hi
    have ih := picksG_told many Z r (turned o (o.idxOf p)) (out ++ [p]) (A ++ (List.replicate (o.idxOf p) true ++ [false])) (by rw [turned_length o _ hi]; exact h) fun q hq => (turned_mem o _ hi q).2 (hp q (by simp [hq]))
    have e2 : A ++ (List.replicate (o.idxOf p) true ++ [false]) ++ (mtf (turned o (o.idxOf p)) r ++ Z) = A ++ (mtf o (p :: r) ++ Z) := by
      rw [e0]; simp
    have e3 : (A ++ (List.replicate (o.idxOf p) true ++ [false])).length = A.length + (o.idxOf p + 1) := by simp
    rw [e2, e3] at ih
    rw [List.length_cons, picksG, e1, hu]
    simp only [Nat.zero_add, if_true]
    rw [hg, Nat.add_assoc, ih, e0]
    simp [Nat.add_assoc, Nat.add_comm, Nat.add_left_comm]
theorem lensR_told (A Z : List Bool) (t : List Int) (hok : lensOk t = true) :
    lensR (A ++ (showBits t ++ Z)) (A.length : Nat) (t.length : Nat) = (t, A.length + (showBits t).length, 0) := by
  obtain ⟨⟨h1, h2⟩, h3⟩ := (lensOk_iff t).1 hok
  have hx := h3 _ (head_mem t (by omega))
  have e : showBits t = low (t.headD 0).toNat 5 ++ showFrom (t.headD 0) t := rfl
  have hlen : (showBits t).length = 5 + (showFrom (t.headD 0) t).length := by rw [e, List.length_append, low_length]
  rw [hlen, e, List.append_assoc, lensR_tail _ _ _ _ (by omega) ⟨h1, h2⟩]
  rw [show (((t.headD 0).toNat : Nat) : Int) = t.headD 0 by omega, lens_back t.length t [] _ _ _ (by simp) hx h3, List.nil_append, Nat.add_assoc]
theorem tabsG_told (n : Nat) (Z : List Bool) : ∀ (T out : List (List Int)) (A : List Bool), (∀ t ∈ T, t.length = n ∧ goodL t = true) →
    tabsG (A ++ (T.flatMap showBits ++ Z)) (n : Int) T.length out A.length = (out ++ T, A.length + (T.flatMap showBits).length, 0)
  | [], out, A, h => by simp [tabsG]
  | t :: r, out, A, h => by
    obtain ⟨h1, h2⟩ := h t (by simp)
    have hl := lensR_told A (r.flatMap showBits ++ Z) t (goodL_lens h2)
    have e0 : A ++ ((t :: r).flatMap showBits ++ Z) = A ++ (showBits t ++ (r.flatMap showBits ++ Z)) := by
      rw [List.flatMap_cons, List.append_assoc]
    have ih := tabsG_told n Z r (out ++ [t]) (A ++ showBits t) fun u hu => h u (by simp [hu])
    rw [List.append_assoc, List.length_append] at ih
    rw [h1] at hl
    rw [e0, List.length_cons, tabsG]
    simp only [hl]
    rw [if_neg (by simp), h2]
    simp only [if_true]
    rw [ih, List.flatMap_cons, List.length_append, List.append_assoc, Nat.add_assoc]
    rfl
/-- A plan that was told is read. -/
theorem takeG_told (T : List (List Int)) (P : List Int) (A Z : List Bool) (n : Nat) (h : mayPlan T P = true) (hn : n = (T.getD 0 []).length) :
    takeGR (A ++ (planBits T P ++ Z)) (A.length : Nat) (n : Nat) = (T, natsOf P, A.length + (planBits T P).length, 0) := by
  obtain ⟨h1, h2, h3, h4⟩ := mayPlan_get h
  have ht : ∀ t ∈ T, t.length = n ∧ goodL t = true := fun t ht => by rw [hn]; exact ⟨(h3 t ht).1, (h3 t ht).2.2⟩
  obtain ⟨t0, h0⟩ : ∃ t, T[0]? = some t := ⟨_, List.getElem?_eq_getElem (by omega)⟩
  have hm0 := List.mem_of_getElem? h0
  have hn3 := (h3 t0 hm0).2.1
  have hn258 := ((lensOk_iff t0).1 (goodL_lens (h3 t0 hm0).2.2)).1
  rw [(ht t0 hm0).1] at hn3 hn258
  have e0 : planBits T P = low T.length 3 ++ (low P.length 15 ++ (mtf (List.range T.length) (natsOf P) ++ T.flatMap showBits)) := by
    unfold planBits headP; simp
  obtain ⟨M, hM⟩ : ∃ M, mtf (List.range T.length) (natsOf P) = M := ⟨_, rfl⟩
  obtain ⟨F, hF⟩ : ∃ M, T.flatMap showBits = M := ⟨_, rfl⟩
  have hl3 := low_length T.length 3
  have hl15 := low_length P.length 15
  have q1 : takeR (A ++ (planBits T P ++ Z)) A.length 3 = (T.length, 0) := by
    unfold takeR
    rw [if_neg (by omega), if_neg (by rw [e0]; simp only [List.length_append]; omega)]
    have := piece_append A (low T.length 3) (low P.length 15 ++ (M ++ F) ++ Z)
    rw [hl3] at this
    rw [e0, hM, hF]
    simp only [List.append_assoc] at this ⊢
    rw [show (3 : Int).toNat = 3 from rfl, this, num_low, Nat.mod_eq_of_lt (by omega)]
  have q2 : takeR (A ++ (planBits T P ++ Z)) (A.length + 3) 15 = (P.length, 0) := by
    unfold takeR
    rw [if_neg (by omega), if_neg (by rw [e0]; simp only [List.length_append]; omega)]
    have := piece_append (A ++ low T.length 3) (low P.length 15) (M ++ F ++ Z)
    rw [hl15, List.length_append, hl3] at this
    rw [e0, hM, hF]
    simp only [List.append_assoc] at this ⊢
    rw [show (15 : Int).toNat = 15 from rfl, this, num_low, Nat.mod_eq_of_lt (by omega)]
  have q3 := picksG_told T.length (F ++ Z) (natsOf P) (List.range T.length) [] (A ++ (low T.length 3 ++ low P.length 15)) (by simp) fun p hp => by
    obtain ⟨x, hx, rfl⟩ := List.mem_map.1 hp
    have := h4 x hx
    rw [List.mem_range]; omega
  have q4 := tabsG_told n Z T [] (A ++ (low T.length 3 ++ (low P.length 15 ++ M))) ht
  rw [hM] at q3
  rw [hF] at q4
  have e3 : A ++ (low T.length 3 ++ low P.length 15) ++ (M ++ (F ++ Z)) = A ++ (planBits T P ++ Z) := by rw [e0, hM, hF]; simp
  have e4 : A ++ (low T.length 3 ++ (low P.length 15 ++ M)) ++ (F ++ Z) = A ++ (planBits T P ++ Z) := by rw [e0, hM, hF]; simp
  have e5 : (A ++ (low T.length 3 ++ low P.length 15)).length = A.length + 18 := by simp only [List.length_append]; omega
  have e6 : (A ++ (low T.length 3 ++ (low P.length 15 ++ M))).length = A.length + 18 + M.length := by simp only [List.length_append]; omega
  rw [e3, e5, natsOf_length, List.nil_append] at q3
  rw [e4, e6, List.nil_append] at q4
  have e7 : A.length + (planBits T P).length = A.length + 18 + M.length + F.length := by rw [e0, hM, hF]; simp only [List.length_append]; omega
  unfold takeGR
  rw [if_neg (by simp only [List.length_append]; omega), Int.toNat_natCast, q1]
  simp only
  rw [if_neg (by simp), if_neg (by omega), q2]
  simp only
  rw [if_neg (by simp), if_neg (by omega), q3]
  simp only
  rw [if_neg (by simp), q4]
  simp only
  rw [if_neg (by simp), e7]
/-- Symbols that were told in a plan's codes, the end at the end alone, are read. -/
theorem rget_told (T : List (List Int)) (P : List Int) (n : Nat) (Z : List Bool) (hg : ∀ x ∈ P, goodL (T.getD x.toNat []) = true ∧ (T.getD x.toNat []).length = n) :
    ∀ (pre : List Int) (B A : List Bool) (out : List Nat) (f i : Nat), (∀ s ∈ pre, 0 ≤ s ∧ s < (n : Int) - 1) → 1 ≤ n → codG T P n i (pre ++ [(n : Int) - 1]) = some B → pre.length < f → i + pre.length < 50 * P.length →
      rgetGo T (A ++ (B ++ Z)) ((n : Int) - 1) P f i out A.length = (out ++ natsOf (pre ++ [(n : Int) - 1]), A.length + B.length, 0) := by
  have key : ∀ (s : Int) (R B A : List Bool) (i : Nat), (0 ≤ s ∧ s < (n : Int)) → i < 50 * P.length → symP (tabAt T P i) s.toNat ++ R = B → nextR (tabAt T P i) (A ++ (B ++ Z)) A.length = (s.toNat, A.length + (symP (tabAt T P i) s.toNat).length, 0) := by
    intro s R B A i hs hi hB
    have hd : i / 50 < P.length := by omega
    have hx : P.getD (i / 50) 0 ∈ P := by rw [List.getD, List.getElem?_eq_getElem hd]; exact List.getElem_mem hd
    obtain ⟨g1, g2⟩ := hg _ hx
    have hl : (tabAt T P i).length = n := by unfold tabAt; rw [natsOf_length]; exact g2
    have hsl := symP_length (tabAt T P i) s.toNat
    subst hB
    have hp := piece_append A (symP (tabAt T P i) s.toNat) (R ++ Z)
    rw [show A ++ symP (tabAt T P i) s.toNat ++ (R ++ Z) = A ++ (symP (tabAt T P i) s.toNat ++ R ++ Z) by simp, hsl] at hp
    rw [hsl]
    exact next_told (tabAt T P i) (goodL_in g1) (goodL_room g1) _ A.length s.toNat (by omega) (by simp only [List.length_append, hsl]; omega) hp
  intro pre
  induction pre with
  | nil =>
    intro B A out f i hpre h1 hB hf hi
    obtain ⟨f, rfl⟩ : ∃ g, f = g + 1 := ⟨f - 1, by simp at hf; omega⟩
    rw [List.nil_append, codG, if_neg (by omega)] at hB
    have hB : symP (tabAt T P i) ((n : Int) - 1).toNat ++ [] = B := by simpa [codG] using hB
    have hk := key ((n : Int) - 1) [] B A i (by omega) (by simpa using hi) hB
    rw [List.append_nil] at hB
    rw [hB] at hk
    rw [rgetGo]
    have hk : nextR (natsOf (T.getD (P.getD (i / 50) 0).toNat [])) (A ++ (B ++ Z)) A.length = _ := hk
    simp only [hk]
    rw [if_neg (by simp), if_pos (by omega)]
    rfl
  | cons s r ih =>
    intro B A out f i hpre h1 hB hf hi
    obtain ⟨f, rfl⟩ : ∃ g, f = g + 1 := ⟨f - 1, by simp at hf; omega⟩
    have hs := hpre s (by simp)
    rw [List.cons_append, codG, if_neg (by omega)] at hB
    cases he : codG T P n (i + 1) (r ++ [(n : Int) - 1]) with
    | none => rw [he] at hB; cases hB
    | some R =>
      rw [he] at hB
      have hB : symP (tabAt T P i) s.toNat ++ R = B := by simpa using hB
      have hk := key s R B A i (by omega) (by simp at hi; omega) hB
      have ih := ih R (A ++ symP (tabAt T P i) s.toNat) (out ++ [s.toNat]) f (i + 1) (fun x hx => hpre x (by simp [hx])) h1 he (by simp at hf; omega) (by simp at hi; omega)
      rw [show A ++ symP (tabAt T P i) s.toNat ++ (R ++ Z) = A ++ (B ++ Z) by rw [← hB]; simp, List.length_append] at ih
      rw [rgetGo]
      have hk : nextR (natsOf (T.getD (P.getD (i / 50) 0).toNat [])) (A ++ (B ++ Z)) A.length = _ := hk
      simp only [hk]
      rw [if_neg (by simp), if_neg (by omega), ih, ← hB]
      simp [natsOf, Nat.add_assoc]
theorem getG_told (T : List (List Int)) (P pre : List Int) (A B Z : List Bool) (n : Nat) (h : mayPlan T P = true) (hn : n = (T.getD 0 []).length) (hpre : ∀ s ∈ pre, 0 ≤ s ∧ s < (n : Int) - 1) (hB : codG T P n 0 (pre ++ [(n : Int) - 1]) = some B) (hm : groupsN (pre.length + 1) ≤ P.length) :
    getR T P (A ++ (B ++ Z)) (A.length : Nat) = (natsOf (pre ++ [(n : Int) - 1]), A.length + B.length, 0) := by
  obtain ⟨h1, h2, h3, h4⟩ := mayPlan_get h
  have hT : ∀ x ∈ P, T.getD x.toNat [] ∈ T := by
    intro x hx
    have := h4 x hx
    have hl : x.toNat < T.length := by omega
    rw [List.getD, List.getElem?_eq_getElem hl]; exact List.getElem_mem hl
  have hg : ∀ x ∈ P, goodL (T.getD x.toNat []) = true ∧ (T.getD x.toNat []).length = n := fun x hx => ⟨(h3 _ (hT x hx)).2.2, by rw [hn]; exact (h3 _ (hT x hx)).1⟩
  obtain ⟨t0, h0⟩ : ∃ t, T[0]? = some t := ⟨_, List.getElem?_eq_getElem (by omega)⟩
  have hm0 := List.mem_of_getElem? h0
  have hn3 := (h3 t0 hm0).2.1
  rw [(h3 t0 hm0).1, ← hn] at hn3
  unfold groupsN at hm
  have e := rget_get T (A ++ (B ++ Z)) ((n : Int) - 1) P (fun x hx => (hg x hx).1) P.length 0 [] A.length (by omega) (by simp only [List.length_append]; omega)
  have r := rget_told T P n Z hg pre B A [] (50 * P.length) 0 hpre (by omega) hB (by omega) (by omega)
  rw [Nat.mul_zero] at e
  rw [r, List.drop_zero, List.nil_append] at e
  unfold getR
  rw [h, if_pos rfl, if_neg (by simp only [List.length_append]; omega), Int.toNat_natCast, ← hn, ← e]
end K
end Go.Proofs.Ytdaenajhgbagdaa
