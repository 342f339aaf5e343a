/-
  A text is read out of its rotations' last column, plainly.
-/
import Derived.Test.YtaeppgooenbfiaaPlainW
import Derived.Test.YtaeppgooenbfiaaPlainB1
namespace Go.Proofs.Ytaeppgooenbfiaa
namespace K
set_option linter.unusedVariables false
set_option linter.unusedSimpArgs false

theorem stab_pairwise (l : List Nat) : ∀ B, (stab l B).Pairwise fun a b => l.getD a 0 < l.getD b 0 ∨ (l.getD a 0 = l.getD b 0 ∧ a < b)
  | 0 => by simp [stab]
  | B + 1 => by
    rw [stab_succ, List.pairwise_append]
    refine ⟨stab_pairwise l B, ?_, fun x hx y hy => ?_⟩
    · have h : (occ l B l.length).Pairwise (· < ·) := List.Pairwise.sublist List.filter_sublist List.pairwise_lt_range
      refine List.Pairwise.imp_of_mem (fun {a b} ha hb hlt => ?_) h
      rw [mem_occ] at ha hb
      exact .inr ⟨by omega, hlt⟩
    · rw [mem_stab] at hx
      rw [mem_occ] at hy
      exact .inl (by omega)
theorem stab_perm (l : List Nat) (hb : ∀ x ∈ l, x < 256) : (stab l 256).Perm (List.range l.length) := by
  refine (List.perm_ext_iff_of_nodup (stab_nodup l 256) List.nodup_range).2 fun a => ?_
  rw [mem_stab, List.mem_range]
  refine ⟨fun h => h.1, fun h => ⟨h, ?_⟩⟩
  rw [List.getD, List.getElem?_eq_getElem h]
  exact hb _ (List.getElem_mem h)

/-- The last column. -/
def lastC (n : Nat) (f : Nat → Nat) (L : List Nat) : List Nat := L.map fun i => f (i + n - 1)

/-- f tells the bytes of a text of n bytes, over and over. -/
structure Per (n : Nat) (f : Nat → Nat) : Prop where
  hf : ∀ i, f i < 256
  hp : ∀ i, f (i % n) = f i
  h0 : 0 < n
theorem per_add {n : Nat} {f : Nat → Nat} (H : Per n f) (i : Nat) : f (i + n) = f i := by rw [← H.hp (i + n), Nat.add_mod_right, H.hp]
theorem N_add_n {n : Nat} {f : Nat → Nat} (H : Per n f) (m i : Nat) : N f m (i + n) = N f m i := by rw [← N_per f n H.hp m (i + n), Nat.add_mod_right, N_per f n H.hp]
theorem R_front {n : Nat} {f : Nat → Nat} (H : Per n f) (i : Nat) : N f n i = f i * 256 ^ (n - 1) + N f (n - 1) (i + 1) := by
  have h := N_add f 1 i (n - 1)
  rw [N_one, show 1 + (n - 1) = n by have := H.h0; omega] at h
  exact h
theorem R_back {n : Nat} {f : Nat → Nat} (H : Per n f) (i : Nat) : N f n i = N f (n - 1) i * 256 + f (i + n - 1) := by
  have h := N_add f (n - 1) i 1
  rw [N_one, show n - 1 + 1 = n by have := H.h0; omega, Nat.pow_one, show i + (n - 1) = i + n - 1 by have := H.h0; omega] at h
  exact h
theorem R_low {n : Nat} {f : Nat → Nat} (H : Per n f) (i : Nat) : N f n i % 256 = f (i + n - 1) := by
  have := H.hf (i + n - 1)
  rw [R_back H i]; omega
theorem R_prev {n : Nat} {f : Nat → Nat} (H : Per n f) (i : Nat) : N f n (i + n - 1) = f (i + n - 1) * 256 ^ (n - 1) + N f n i / 256 := by
  have h := R_front H (i + n - 1)
  rw [show i + n - 1 + 1 = i + n by have := H.h0; omega, N_add_n H] at h
  have h2 := R_back H i
  have := H.hf (i + n - 1)
  have h3 : N f n i / 256 = N f (n - 1) i := by omega
  rw [h3]; exact h
theorem R_next {n : Nat} {f : Nat → Nat} (H : Per n f) (a b : Nat) (h : N f n a = N f n b) : N f n (a + 1) = N f n (b + 1) := by
  have ha := R_front H a
  have hb := R_front H b
  have la := N_lt f H.hf (n - 1) (a + 1)
  have lb := N_lt f H.hf (n - 1) (b + 1)
  have a2 := R_back H (a + 1)
  have b2 := R_back H (b + 1)
  rw [show a + 1 + n - 1 = a + n by have := H.h0; omega, per_add H] at a2
  rw [show b + 1 + n - 1 = b + n by have := H.h0; omega, per_add H] at b2
  rw [ha, hb] at h
  generalize 256 ^ (n - 1) = M at *
  have e1 : f a = f b := by
    rcases Nat.lt_trichotomy (f a) (f b) with h1 | h1 | h1
    · have := (lex_num (A := f a) (C := f b) la lb).2 (.inl h1); omega
    · exact h1
    · have := (lex_num (A := f b) (C := f a) lb la).2 (.inl h1); omega
  rw [e1] at h
  have e2 : N f (n - 1) (a + 1) = N f (n - 1) (b + 1) := by omega
  rw [a2, b2, e1, e2]
theorem R_next_t {n : Nat} {f : Nat → Nat} (H : Per n f) (a b : Nat) (h : N f n a = N f n b) : ∀ t, N f n (a + t) = N f n (b + t)
  | 0 => h
  | t + 1 => by
    have := R_next H _ _ (R_next_t H a b h t)
    rwa [Nat.add_assoc, Nat.add_assoc] at this

theorem turn_perm {n : Nat} (h0 : 0 < n) : ((List.range n).map fun i => (i + n - 1) % n).Perm (List.range n) := by
  refine (List.perm_ext_iff_of_nodup ?_ List.nodup_range).2 fun a => ?_
  · rw [List.Nodup, List.pairwise_map]
    refine List.Pairwise.imp_of_mem (fun {a b} ha hb hlt => ?_) List.pairwise_lt_range
    rw [List.mem_range] at ha hb
    intro he
    rcases Nat.eq_zero_or_pos a with h1 | h1
    · subst h1
      rw [Nat.mod_eq_of_lt (by omega)] at he
      rw [show b + n - 1 = b - 1 + n by omega, Nat.add_mod_right, Nat.mod_eq_of_lt (by omega)] at he
      omega
    · rw [show a + n - 1 = a - 1 + n by omega, show b + n - 1 = b - 1 + n by omega, Nat.add_mod_right, Nat.add_mod_right, Nat.mod_eq_of_lt (by omega), Nat.mod_eq_of_lt (by omega)] at he
      omega
  · simp only [List.mem_map, List.mem_range]
    constructor
    · rintro ⟨i, h1, rfl⟩; exact Nat.mod_lt _ h0
    · intro h
      by_cases h1 : a + 1 = n
      · exact ⟨0, h0, by rw [Nat.mod_eq_of_lt (by omega)]; omega⟩
      · exact ⟨a + 1, by omega, by rw [show a + 1 + n - 1 = a + n by omega, Nat.add_mod_right, Nat.mod_eq_of_lt h]⟩
theorem map_getD (L : List Nat) (g : Nat → Nat) : (List.range L.length).map (fun k => g (L.getD k 0)) = L.map g := by
  apply List.ext_getElem?
  intro i
  by_cases h : i < L.length
  · simp [List.getElem?_range h, List.getElem?_eq_getElem h]
  · rw [List.getElem?_eq_none (by simp; omega), List.getElem?_eq_none (by simp; omega)]
theorem sorted_R {n : Nat} {f : Nat → Nat} {L : List Nat} (hL : Ordered n f n L) : (L.map (N f n)).Pairwise (· ≤ ·) := by
  rw [List.pairwise_map]
  refine hL.asc.imp fun {a b} h => ?_
  unfold rotLt at h
  omega
/-- The rows, moved one on by the places. -/
theorem places_rows {n : Nat} {f : Nat → Nat} (H : Per n f) {L : List Nat} (hL : Ordered n f n L) (p : Nat) (hpn : p < n) : N f n (L.getD ((stab (lastC n f L) 256).getD p 0) 0) = N f n (L.getD p 0 + 1) := by
  have hlen := hL.len
  have h0 := H.h0
  have hlc : (lastC n f L).length = n := by simp [lastC, hlen]
  have hb : ∀ x ∈ lastC n f L, x < 256 := by
    intro x hx; simp only [lastC, List.mem_map] at hx; obtain ⟨i, -, rfl⟩ := hx; exact H.hf _
  have hP := stab_perm (lastC n f L) hb
  have hpw := stab_pairwise (lastC n f L) 256
  rw [hlc] at hP
  have hPl : (stab (lastC n f L) 256).length = n := by rw [hP.length_eq, List.length_range]
  have hget : ∀ a, a < n → (lastC n f L).getD a 0 = f (L.getD a 0 + n - 1) := by
    intro a ha
    simp only [lastC, List.getD, List.getElem?_map]
    rw [List.getElem?_eq_getElem (by omega)]; rfl
  generalize stab (lastC n f L) 256 = P at *
  have e : P.map (fun k => N f n (L.getD k 0 + n - 1)) = L.map (N f n) := by
    have hs1 : (P.map (fun k => N f n (L.getD k 0 + n - 1))).Pairwise (· ≤ ·) := by
      rw [List.pairwise_map]
      refine List.Pairwise.imp_of_mem (fun {a b} ha hb hlt => ?_) hpw
      have ha' : a < n := List.mem_range.1 (hP.mem_iff.1 ha)
      have hb' : b < n := List.mem_range.1 (hP.mem_iff.1 hb)
      rw [hget a ha', hget b hb'] at hlt
      rw [R_prev H, R_prev H]
      have hM : ∀ i, N f n i / 256 < 256 ^ (n - 1) := by
        intro i
        have h1 := N_lt f H.hf n i
        have h2 : 256 ^ n = 256 ^ (n - 1) * 256 := by rw [← Nat.pow_succ, Nat.succ_eq_add_one, show n - 1 + 1 = n by have := H.h0; omega]
        rw [h2] at h1
        exact Nat.div_lt_of_lt_mul (by rw [Nat.mul_comm]; exact h1)
      rcases hlt with hlt | ⟨he, hlt⟩
      · exact Nat.le_of_lt ((lex_num (hM _) (hM _)).2 (.inl hlt))
      · rw [he]
        have hs := List.pairwise_iff_getElem.1 (sorted_R hL) a b (by simp [hlen, ha']) (by simp [hlen, hb']) hlt
        simp only [List.getElem_map] at hs
        have ga : L.getD a 0 = L[a]'(by omega) := by rw [List.getD, List.getElem?_eq_getElem (by omega)]; rfl
        have gb : L.getD b 0 = L[b]'(by omega) := by rw [List.getD, List.getElem?_eq_getElem (by omega)]; rfl
        rw [ga, gb]
        have := Nat.div_le_div_right (c := 256) hs
        omega
    refine List.Perm.eq_of_pairwise (fun a b _ _ h1 h2 => Nat.le_antisymm h1 h2) hs1 (sorted_R hL) ?_
    have s1 : (P.map (fun k => N f n (L.getD k 0 + n - 1))).Perm ((List.range n).map (fun k => N f n (L.getD k 0 + n - 1))) := hP.map _
    have s2 : (List.range n).map (fun k => N f n (L.getD k 0 + n - 1)) = L.map (fun i => N f n (i + n - 1)) := by
      have := map_getD L (fun i => N f n (i + n - 1))
      rwa [hlen] at this
    have s3 : (L.map (fun i => N f n (i + n - 1))).Perm ((List.range n).map (fun i => N f n (i + n - 1))) := hL.perm.map _
    have s4 : (List.range n).map (fun i => N f n (i + n - 1)) = ((List.range n).map fun i => (i + n - 1) % n).map (N f n) := by
      rw [List.map_map]
      refine List.map_congr_left fun i _ => ?_
      simp only [Function.comp]
      rw [N_per f n H.hp]
    have s5 := (turn_perm H.h0).map (N f n)
    rw [s2] at s1
    rw [s4] at s3
    exact ((s1.trans s3).trans s5).trans (hL.perm.map _).symm
  have hk := congrArg (fun l => l[p]?) e
  simp only [List.getElem?_map] at hk
  rw [List.getElem?_eq_getElem (by omega), List.getElem?_eq_getElem (by omega)] at hk
  simp only [Option.map_some, Option.some.injEq] at hk
  have g1 : P.getD p 0 = P[p]'(by omega) := by rw [List.getD, List.getElem?_eq_getElem (by omega)]; rfl
  have g2 : L.getD p 0 = L[p]'(by omega) := by rw [List.getD, List.getElem?_eq_getElem (by omega)]; rfl
  rw [g1, g2]
  have := R_next H _ _ hk
  rw [show L.getD (P[p]'(by omega)) 0 + n - 1 + 1 = L.getD (P[p]'(by omega)) 0 + n by omega, N_add_n H] at this
  exact this
theorem read_rows {n : Nat} {f : Nat → Nat} (H : Per n f) {L : List Nat} (hL : Ordered n f n L) (row : Nat) (hrow : row < n) : readB (lastC n f L) (stab (lastC n f L) 256) n row = (List.range n).map fun t => f (L.getD row 0 + t) := by
  have hlen := hL.len
  have h0 := H.h0
  have hlc : (lastC n f L).length = n := by simp [lastC, hlen]
  have hb : ∀ x ∈ lastC n f L, x < 256 := by
    intro x hx; simp only [lastC, List.mem_map] at hx; obtain ⟨i, -, rfl⟩ := hx; exact H.hf _
  have hP := stab_perm (lastC n f L) hb
  rw [hlc] at hP
  have hPl : (stab (lastC n f L) 256).length = n := by rw [hP.length_eq, List.length_range]
  have hPlt : ∀ p, p < n → (stab (lastC n f L) 256).getD p 0 < n := by
    intro p hpn
    rw [List.getD, List.getElem?_eq_getElem (by omega)]
    exact List.mem_range.1 (hP.mem_iff.1 (List.getElem_mem _))
  have hrows := fun p hpn => places_rows H hL p hpn
  have hget : ∀ a, a < n → (lastC n f L).getD a 0 = f (L.getD a 0 + n - 1) := by
    intro a ha
    simp only [lastC, List.getD, List.getElem?_map]
    rw [List.getElem?_eq_getElem (by omega)]; rfl
  rw [readB_eq]
  generalize stab (lastC n f L) 256 = P at *
  have hw : ∀ t, walkB P t row < n ∧ N f n (L.getD (walkB P t row) 0) = N f n (L.getD row 0 + t) := by
    intro t
    induction t with
    | zero => exact ⟨hrow, rfl⟩
    | succ t ih =>
      refine ⟨hPlt _ ih.1, ?_⟩
      show N f n (L.getD (P.getD (walkB P t row) 0) 0) = _
      rw [hrows _ ih.1]
      have := R_next H _ _ ih.2
      rwa [Nat.add_assoc] at this
  refine List.map_congr_left fun t _ => ?_
  have h := hw (t + 1)
  rw [hget _ h.1, ← R_low H, h.2, R_low H, show L.getD row 0 + (t + 1) + n - 1 = L.getD row 0 + t + n by omega, per_add H]
end K
end Go.Proofs.Ytaeppgooenbfiaa
