/-
  No lengths that may be cost less, plainly: the two lightest stand together in some best code.
-/
import Derived.Test.YtcjkjknahalpnaaHufB
namespace Go.Proofs.Ytcjkjknahalpnaa
namespace K
set_option linter.unusedVariables false
set_option linter.unusedSimpArgs false

/-- Weights with lengths: the room that they take, of 2^20; their cost; how many have length M. -/
def kx (xs : List (Nat × Nat)) : Nat := (xs.map fun p => 2 ^ (20 - p.2)).sum
def cx (xs : List (Nat × Nat)) : Nat := (xs.map fun p => p.1 * p.2).sum
def nx (M : Nat) (xs : List (Nat × Nat)) : Nat := xs.countP fun p => p.2 == M
theorem kx_cons (p : Nat × Nat) (xs : List (Nat × Nat)) : kx (p :: xs) = 2 ^ (20 - p.2) + kx xs := by simp [kx]
theorem cx_cons (p : Nat × Nat) (xs : List (Nat × Nat)) : cx (p :: xs) = p.1 * p.2 + cx xs := by simp [cx]
theorem nx_cons (M : Nat) (p : Nat × Nat) (xs : List (Nat × Nat)) : nx M (p :: xs) = nx M xs + if p.2 = M then 1 else 0 := by
  unfold nx; rw [List.countP_cons]; simp
theorem kx_perm {xs ys : List (Nat × Nat)} (h : xs.Perm ys) : kx xs = kx ys := (h.map _).sum_nat
theorem cx_perm {xs ys : List (Nat × Nat)} (h : xs.Perm ys) : cx xs = cx ys := (h.map _).sum_nat
theorem nx_perm (M : Nat) {xs ys : List (Nat × Nat)} (h : xs.Perm ys) : nx M xs = nx M ys := h.countP_eq _
theorem nx_mem {M : Nat} {xs : List (Nat × Nat)} (h : 1 ≤ nx M xs) : ∃ z, (z, M) ∈ xs := by
  unfold nx at h
  obtain ⟨p, hp, hm⟩ := List.countP_pos_iff.1 (show 0 < _ from h)
  have : p.2 = M := by simpa using hm
  exact ⟨p.1, by rw [← this]; exact hp⟩
theorem take_item {xs : List (Nat × Nat)} {p : Nat × Nat} (h : p ∈ xs) : ∃ zs, xs.Perm (p :: zs) := ⟨xs.erase p, List.perm_cons_erase h⟩
/-- An item of a weight. -/
theorem take_weight {xs : List (Nat × Nat)} {a : Nat} {ws : List Nat} (h : (xs.map Prod.fst).Perm (a :: ws)) : ∃ la zs, xs.Perm ((a, la) :: zs) ∧ (zs.map Prod.fst).Perm ws := by
  have hm : a ∈ xs.map Prod.fst := h.mem_iff.2 (by simp)
  obtain ⟨p, hp, rfl⟩ := List.mem_map.1 hm
  obtain ⟨zs, hz⟩ := take_item hp
  refine ⟨p.2, zs, hz, ?_⟩
  have h2 := (hz.map Prod.fst).symm.trans h
  simp only [List.map_cons] at h2
  exact h2.cons_inv
theorem swap_cost (a z la M : Nat) (h1 : a ≤ z) (h2 : la ≤ M) : a * M + z * la ≤ a * la + z * M := by
  obtain ⟨e, rfl⟩ : ∃ e, M = la + e := ⟨M - la, by omega⟩
  obtain ⟨f, rfl⟩ : ∃ f, z = a + f := ⟨z - a, by omega⟩
  rw [Nat.mul_add, Nat.add_mul, Nat.add_mul a f (la + e), Nat.mul_add, Nat.mul_add]
  omega
/-- A light one takes the greatest length of a heavier one. -/
theorem swap_item {a la M : Nat} {zs : List (Nat × Nat)} (hla : la ≤ M) (hne : la ≠ M) (hn : 1 ≤ nx M zs) (ha : ∀ p ∈ zs, a ≤ p.1) (hM : ∀ p ∈ zs, p.2 ≤ M) :
    ∃ zs', (zs'.map Prod.fst).Perm (zs.map Prod.fst) ∧ kx ((a, M) :: zs') = kx ((a, la) :: zs) ∧ cx ((a, M) :: zs') ≤ cx ((a, la) :: zs) ∧ (∀ p ∈ zs', p.2 ≤ M) ∧ nx M zs' + 1 = nx M zs := by
  obtain ⟨z, hz⟩ := nx_mem hn
  obtain ⟨rs, hr⟩ := take_item hz
  refine ⟨(z, la) :: rs, ?_, ?_, ?_, fun p hp => ?_, ?_⟩
  · exact (hr.map Prod.fst).symm
  · rw [kx_cons, kx_cons, kx_cons, kx_perm hr, kx_cons]
    simp only; omega
  · rw [cx_cons, cx_cons, cx_cons, cx_perm hr, cx_cons]
    have := swap_cost a z la M (ha _ hz) hla
    simp only; omega
  · rcases List.mem_cons.1 hp with rfl | hp
    · exact hla
    · exact hM p (hr.mem_iff.2 (by simp [hp]))
  · rw [nx_perm M hr, nx_cons, nx_cons]
    simp only [if_neg hne]
    simp
theorem dvd_kx {M : Nat} : ∀ zs : List (Nat × Nat), (∀ p ∈ zs, p.2 + 1 ≤ M) → M ≤ 20 → ∃ q, kx zs = 2 ^ (21 - M) * q
  | [], _, _ => ⟨0, rfl⟩
  | p :: zs, h, hM => by
    obtain ⟨q, hq⟩ := dvd_kx zs (fun r hr => h r (by simp [hr])) hM
    have hp := h p (by simp)
    refine ⟨2 ^ (20 - p.2 - (21 - M)) + q, ?_⟩
    rw [kx_cons, hq, Nat.mul_add, ← Nat.pow_add, show 21 - M + (20 - p.2 - (21 - M)) = 20 - p.2 by omega]
theorem max_item : ∀ xs : List (Nat × Nat), xs ≠ [] → ∃ p ∈ xs, ∀ q ∈ xs, q.2 ≤ p.2
  | [], h => absurd rfl h
  | [p], _ => ⟨p, by simp, fun q hq => by simp at hq; rw [hq]; exact Nat.le_refl _⟩
  | p :: r :: xs, _ => by
    obtain ⟨m, hm, hle⟩ := max_item (r :: xs) (by simp)
    by_cases h : p.2 ≤ m.2
    · exact ⟨m, by simp only [List.mem_cons] at hm ⊢; exact .inr hm, fun q hq => by
        rcases List.mem_cons.1 hq with rfl | hq
        · exact h
        · exact hle q hq⟩
    · exact ⟨p, by simp, fun q hq => by
        rcases List.mem_cons.1 hq with rfl | hq
        · exact Nat.le_refl _
        · have := hle q hq; omega⟩

theorem exch : ∀ K (xs : List (Nat × Nat)) (a b : Nat) (ws : List Nat), (xs.map Prod.snd).sum ≤ K → (∀ p ∈ xs, p.2 ≤ 20) → kx xs ≤ 2 ^ 20 → (xs.map Prod.fst).Perm (a :: b :: ws) → a ≤ b → (∀ x ∈ ws, b ≤ x) →
    ∃ ys, (ys.map Prod.fst).Perm ((a + b) :: ws) ∧ (∀ p ∈ ys, p.2 ≤ 20) ∧ kx ys ≤ 2 ^ 20 ∧ cx ys + (a + b) ≤ cx xs := by
  intro K
  induction K using Nat.strongRecOn with
  | ind K ih =>
    intro xs a b ws hK h20 hk hp hab hws
    have hlen : xs.length = ws.length + 2 := by have := hp.length_eq; simpa using this
    obtain ⟨pm, hpm, hmax⟩ := max_item xs (by intro h; rw [h] at hlen; simp at hlen)
    obtain ⟨p, M⟩ := pm
    obtain ⟨x1, hx1⟩ := take_item hpm
    have hM20 : M ≤ 20 := h20 _ hpm
    have hmax' : ∀ q ∈ xs, q.2 ≤ M := hmax
    have hkx := kx_perm hx1
    rw [kx_cons] at hkx
    simp only at hkx
    have hx1l : x1.length = ws.length + 1 := by have := hx1.length_eq; simp at this; omega
    have hM1 : 1 ≤ M := by
      rcases Nat.eq_zero_or_pos M with h0 | h0
      · subst h0
        cases x1 with
        | nil => simp at hx1l
        | cons q r =>
          rw [kx_cons] at hkx
          have hq := hmax' q (hx1.mem_iff.2 (by simp))
          rw [show q.2 = 0 by omega] at hkx
          have e : 2 ^ (20 - 0) = 2 ^ 20 := rfl
          have : 0 < 2 ^ 20 := by decide
          omega
      · exact h0
    by_cases hmore : 1 ≤ nx M x1
    · -- two or more have the greatest length
      have hnM : 2 ≤ nx M xs := by rw [nx_perm M hx1, nx_cons]; simp only [if_true]; omega
      obtain ⟨la, zs, hz, hzw⟩ := take_weight hp
      have hza : ∀ q ∈ zs, a ≤ q.1 := fun q hq => by
        have := hzw.mem_iff.1 (List.mem_map.2 ⟨q, hq, rfl⟩)
        rcases List.mem_cons.1 this with h | h
        · omega
        · have := hws _ h; omega
      have hzM : ∀ q ∈ zs, q.2 ≤ M := fun q hq => hmax' q (hz.mem_iff.2 (by simp [hq]))
      have hlaM : la ≤ M := hmax' (a, la) (hz.mem_iff.2 (by simp))
      have hkz := kx_perm hz
      have hcz := cx_perm hz
      have hnz := nx_perm M hz
      rw [nx_cons] at hnz
      simp only at hnz
      -- a takes the greatest length
      obtain ⟨z1, q1, q2, q3, q4, q5⟩ : ∃ z1, (z1.map Prod.fst).Perm (zs.map Prod.fst) ∧ kx ((a, M) :: z1) = kx ((a, la) :: zs) ∧ cx ((a, M) :: z1) ≤ cx ((a, la) :: zs) ∧ (∀ p ∈ z1, p.2 ≤ M) ∧ 1 ≤ nx M z1 := by
        by_cases hl : la = M
        · subst hl
          rw [if_pos rfl] at hnz
          exact ⟨zs, List.Perm.refl _, rfl, Nat.le_refl _, hzM, by omega⟩
        · rw [if_neg hl] at hnz
          obtain ⟨z1, e1, e2, e3, e4, e5⟩ := swap_item hlaM hl (by omega) hza hzM
          exact ⟨z1, e1, e2, e3, e4, by omega⟩
      obtain ⟨lb, y1, hy, hyw⟩ := take_weight (q1.trans hzw)
      have hyb : ∀ q ∈ y1, b ≤ q.1 := fun q hq => hws _ (hyw.mem_iff.1 (List.mem_map.2 ⟨q, hq, rfl⟩))
      have hyM : ∀ q ∈ y1, q.2 ≤ M := fun q hq => q4 q (hy.mem_iff.2 (by simp [hq]))
      have hlbM : lb ≤ M := q4 (b, lb) (hy.mem_iff.2 (by simp))
      have hky := kx_perm hy
      have hcy := cx_perm hy
      have hny := nx_perm M hy
      rw [nx_cons] at hny
      simp only at hny
      obtain ⟨z2, r1, r2, r3, r4⟩ : ∃ z2, (z2.map Prod.fst).Perm (y1.map Prod.fst) ∧ kx ((b, M) :: z2) = kx ((b, lb) :: y1) ∧ cx ((b, M) :: z2) ≤ cx ((b, lb) :: y1) ∧ (∀ p ∈ z2, p.2 ≤ M) := by
        by_cases hl : lb = M
        · subst hl
          exact ⟨y1, List.Perm.refl _, rfl, Nat.le_refl _, hyM⟩
        · rw [if_neg hl] at hny
          obtain ⟨z2, e1, e2, e3, e4, e5⟩ := swap_item hlbM hl (by omega) hyb hyM
          exact ⟨z2, e1, e2, e3, e4⟩
      rw [kx_cons] at q2 r2
      rw [cx_cons] at q3 r3
      simp only at q2 q3 r2 r3
      obtain ⟨M', rfl⟩ : ∃ M', M = M' + 1 := ⟨M - 1, by omega⟩
      refine ⟨(a + b, M') :: z2, ?_, fun q hq => ?_, ?_, ?_⟩
      · rw [List.map_cons]; exact (r1.trans hyw).cons _
      · rcases List.mem_cons.1 hq with rfl | hq
        · simp only; omega
        · have := r4 q hq; omega
      · rw [kx_cons]
        have e : 2 ^ (20 - M') = 2 ^ (20 - (M' + 1)) + 2 ^ (20 - (M' + 1)) := by
          rw [show 20 - M' = 20 - (M' + 1) + 1 by omega, Nat.pow_succ]; omega
        simp only
        omega
      · rw [cx_cons]
        have e1 : a * (M' + 1) = a * M' + a := Nat.mul_succ _ _
        have e2 : b * (M' + 1) = b * M' + b := Nat.mul_succ _ _
        have e3 : (a + b) * M' = a * M' + b * M' := Nat.add_mul _ _ _
        simp only
        omega
    · -- one alone has it: it may be shorter
      have hx1M : ∀ q ∈ x1, q.2 + 1 ≤ M := fun q hq => by
        have h1 := hmax' q (hx1.mem_iff.2 (by simp [hq]))
        rcases Nat.lt_or_ge q.2 M with h2 | h2
        · exact h2
        · exfalso
          refine hmore ?_
          unfold nx
          exact List.countP_pos_iff.2 ⟨q, hq, by simp; omega⟩
      obtain ⟨q, hq⟩ := dvd_kx x1 hx1M hM20
      obtain ⟨M', rfl⟩ : ∃ M', M = M' + 1 := ⟨M - 1, by omega⟩
      have e1 : 2 ^ (21 - (M' + 1)) = 2 ^ (20 - (M' + 1)) + 2 ^ (20 - (M' + 1)) := by
        rw [show 21 - (M' + 1) = 20 - (M' + 1) + 1 by omega, Nat.pow_succ]; omega
      have e2 : (2 : Nat) ^ 20 = 2 ^ (21 - (M' + 1)) * 2 ^ M' := by rw [← Nat.pow_add]; congr 1; omega
      have hpos : 0 < 2 ^ (20 - (M' + 1)) := Nat.two_pow_pos _
      have hlt : q < 2 ^ M' := by
        rcases Nat.lt_or_ge q (2 ^ M') with h | h
        · exact h
        · have := Nat.mul_le_mul_left (2 ^ (21 - (M' + 1))) h
          omega
      have hle := Nat.mul_le_mul_left (2 ^ (21 - (M' + 1))) (show q + 1 ≤ 2 ^ M' from hlt)
      rw [Nat.mul_add, Nat.mul_one] at hle
      have e3 : 2 ^ (20 - M') = 2 ^ (21 - (M' + 1)) := by rw [show 20 - M' = 21 - (M' + 1) by omega]
      have hsum := (hx1.map Prod.snd).sum_nat
      simp only [List.map_cons, List.sum_cons] at hsum
      obtain ⟨ys, y1, y2, y3, y4⟩ := ih (K - 1) (by omega) ((p, M') :: x1) a b ws (by simp only [List.map_cons, List.sum_cons]; omega) (fun r hr => by
        rcases List.mem_cons.1 hr with rfl | hr
        · simp only; omega
        · exact h20 r (hx1.mem_iff.2 (by simp [hr]))) (by rw [kx_cons]; simp only; omega) (by
        have := (hx1.map Prod.fst).symm.trans hp
        simpa using this) hab hws
      refine ⟨ys, y1, y2, y3, ?_⟩
      have hc := cx_perm hx1
      rw [cx_cons] at hc y4
      have e4 : p * (M' + 1) = p * M' + p := Nat.mul_succ _ _
      simp only at hc y4
      omega
end K
end Go.Proofs.Ytcjkjknahalpnaa
