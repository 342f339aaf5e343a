/-
  kistref04's ahead, merged, Order: merging, plainly, and the walks.
-/
import Derived.Test.YtaeppgooenbfiaaBwtA
import Derived.Test.YtaeppgooenbfiaaRotH
import Derived.Deep.RegionHeld3
namespace Go.Proofs.Ytaeppgooenbfiaa
open Go.RowKit
set_option linter.unusedVariables false
set_option linter.unusedSimpArgs false

/-- Two lists in order, as one. -/
def mrg (lt : Nat → Nat → Bool) : List Nat → List Nat → List Nat
  | [], ys => ys
  | x :: xs, [] => x :: xs
  | x :: xs, y :: ys => if lt x y then x :: mrg lt xs (y :: ys) else y :: mrg lt (x :: xs) ys
termination_by xs ys => xs.length + ys.length
theorem mrg_nil (lt : Nat → Nat → Bool) (xs : List Nat) : mrg lt xs [] = xs := by cases xs <;> simp [mrg]
theorem nil_mrg (lt : Nat → Nat → Bool) (ys : List Nat) : mrg lt [] ys = ys := by simp [mrg]
theorem mrg_yes {lt : Nat → Nat → Bool} {x y : Nat} {xs ys : List Nat} (h : lt x y = true) : mrg lt (x :: xs) (y :: ys) = x :: mrg lt xs (y :: ys) := by rw [mrg, if_pos h]
theorem mrg_no {lt : Nat → Nat → Bool} {x y : Nat} {xs ys : List Nat} (h : lt x y = false) : mrg lt (x :: xs) (y :: ys) = y :: mrg lt (x :: xs) ys := by rw [mrg, if_neg (by rw [h]; decide)]
theorem mrg_perm (lt : Nat → Nat → Bool) : ∀ k xs ys, xs.length + ys.length = k → (mrg lt xs ys).Perm (xs ++ ys) := by
  intro k
  induction k with
  | zero =>
    intro xs ys h
    have h1 : xs = [] := List.eq_nil_of_length_eq_zero (by omega)
    have h2 : ys = [] := List.eq_nil_of_length_eq_zero (by omega)
    subst h1 h2; rw [mrg_nil]; exact List.Perm.refl _
  | succ k ih =>
    intro xs ys h
    match xs, ys with
    | [], ys => rw [nil_mrg]; exact List.Perm.refl _
    | x :: xs, [] => rw [mrg_nil, List.append_nil]
    | x :: xs, y :: ys =>
      cases hl : lt x y with
      | true => rw [mrg_yes hl]; exact (ih xs (y :: ys) (by simp at h ⊢; omega)).cons x
      | false =>
        rw [mrg_no hl]
        exact ((ih (x :: xs) ys (by simp at h ⊢; omega)).cons y).trans (List.perm_middle.symm)
theorem mrg_sorted (lt : Nat → Nat → Bool) (R : Nat → Nat → Prop) (hR : ∀ x y, lt x y = true ↔ R x y) (htr : ∀ x y z, R x y → R y z → R x z) : ∀ k xs ys, xs.length + ys.length = k → xs.Pairwise R → ys.Pairwise R → (∀ x ∈ xs, ∀ y ∈ ys, R x y ∨ R y x) → (mrg lt xs ys).Pairwise R := by
  intro k
  induction k with
  | zero =>
    intro xs ys h _ _ _
    have h1 : xs = [] := List.eq_nil_of_length_eq_zero (by omega)
    have h2 : ys = [] := List.eq_nil_of_length_eq_zero (by omega)
    subst h1 h2; rw [mrg_nil]; exact List.Pairwise.nil
  | succ k ih =>
    intro xs ys h hx hy hxy
    match xs, ys with
    | [], ys => rw [nil_mrg]; exact hy
    | x :: xs, [] => rw [mrg_nil]; exact hx
    | x :: xs, y :: ys =>
      rw [List.pairwise_cons] at hx hy
      cases hl : lt x y with
      | true =>
        have hlR := (hR x y).1 hl
        rw [mrg_yes hl, List.pairwise_cons]
        refine ⟨fun z hz => ?_, ih xs (y :: ys) (by simp at h ⊢; omega) hx.2 (List.pairwise_cons.2 hy) (fun a ha b hb => hxy a (by simp [ha]) b hb)⟩
        rcases List.mem_append.1 ((mrg_perm lt _ _ _ rfl).mem_iff.1 hz) with h1 | h1
        · exact hx.1 z h1
        · rcases List.mem_cons.1 h1 with rfl | h1
          · exact hlR
          · exact htr _ _ _ hlR (hy.1 z h1)
      | false =>
        have hlR : R y x := by
          rcases hxy x (by simp) y (by simp) with h1 | h1
          · rw [(hR x y).2 h1] at hl; cases hl
          · exact h1
        rw [mrg_no hl, List.pairwise_cons]
        refine ⟨fun z hz => ?_, ih (x :: xs) ys (by simp at h ⊢; omega) (List.pairwise_cons.2 hx) hy.2 (fun a ha b hb => hxy a ha b (by simp [hb]))⟩
        rcases List.mem_append.1 ((mrg_perm lt _ _ _ rfl).mem_iff.1 hz) with h1 | h1
        · rcases List.mem_cons.1 h1 with rfl | h1
          · exact hlR
          · exact htr _ _ _ hlR (hx.1 z h1)
        · exact hy.1 z h1
/-- The lists merged two by two. -/
def lvl (lt : Nat → Nat → Bool) : List (List Nat) → List (List Nat)
  | [] => []
  | [a] => [a]
  | a :: b :: r => mrg lt a b :: lvl lt r
theorem lvl_length (lt : Nat → Nat → Bool) : ∀ k (rows : List (List Nat)), rows.length ≤ k → (lvl lt rows).length = (rows.length + 1) / 2 := by
  intro k
  induction k using Nat.strongRecOn with
  | ind k ih =>
    intro rows h
    match rows with
    | [] => rfl
    | [a] => simp [lvl]
    | a :: b :: r =>
      simp only [List.length_cons] at h
      rw [lvl, List.length_cons, ih (k - 2) (by omega) r (by omega)]
      simp only [List.length_cons]; omega
theorem lvl_flat (lt : Nat → Nat → Bool) : ∀ k (rows : List (List Nat)), rows.length ≤ k → (lvl lt rows).flatten.Perm rows.flatten := by
  intro k
  induction k using Nat.strongRecOn with
  | ind k ih =>
    intro rows h
    match rows with
    | [] => exact List.Perm.refl _
    | [a] => exact List.Perm.refl _
    | a :: b :: r =>
      simp only [List.length_cons] at h
      rw [lvl, List.flatten_cons, List.flatten_cons, List.flatten_cons, ← List.append_assoc]
      exact (mrg_perm lt _ a b rfl).append (ih (k - 2) (by omega) r (by omega))
/-- Lists in order, of all the rotations together. -/
structure GoodR (n : Nat) (f : Nat → Nat) (rows : List (List Nat)) : Prop where
  perm : rows.flatten.Perm (List.range n)
  ne : ∀ l ∈ rows, l ≠ []
  asc : ∀ l ∈ rows, l.Pairwise (K.rotLt f n)
def rotB (n : Nat) (f : Nat → Nat) (i j : Nat) : Bool := decide (K.rotLt f n i j)
theorem rotB_iff (n : Nat) (f : Nat → Nat) (i j : Nat) : rotB n f i j = true ↔ K.rotLt f n i j := by unfold rotB; exact decide_eq_true_iff
theorem rot_trans (n : Nat) (f : Nat → Nat) (x y z : Nat) (h1 : K.rotLt f n x y) (h2 : K.rotLt f n y z) : K.rotLt f n x z := by unfold K.rotLt at *; omega
theorem lvl_ne (lt : Nat → Nat → Bool) : ∀ k (rows : List (List Nat)), rows.length ≤ k → (∀ l ∈ rows, l ≠ []) → ∀ l ∈ lvl lt rows, l ≠ [] := by
  intro k
  induction k using Nat.strongRecOn with
  | ind k ih =>
    intro rows h hne
    match rows with
    | [] => intro l hl; cases hl
    | [a] => exact hne
    | a :: b :: r =>
      simp only [List.length_cons] at h
      rw [lvl]
      intro l hl
      rcases List.mem_cons.1 hl with rfl | hl
      · intro h0
        have := (mrg_perm lt _ a b rfl).length_eq
        rw [h0, List.length_append] at this
        exact hne a (by simp) (List.eq_nil_of_length_eq_zero (by simp at this; omega))
      · exact ih (k - 2) (by omega) r (by omega) (fun l hl => hne l (by simp [hl])) l hl
theorem lvl_asc (n : Nat) (f : Nat → Nat) : ∀ k (rows : List (List Nat)), rows.length ≤ k → rows.flatten.Nodup → (∀ l ∈ rows, l.Pairwise (K.rotLt f n)) → ∀ l ∈ lvl (rotB n f) rows, l.Pairwise (K.rotLt f n) := by
  intro k
  induction k using Nat.strongRecOn with
  | ind k ih =>
    intro rows h hnd has
    match rows with
    | [] => intro l hl; cases hl
    | [a] => exact has
    | a :: b :: r =>
      simp only [List.length_cons] at h
      rw [lvl]
      rw [List.flatten_cons, List.flatten_cons, ← List.append_assoc, List.nodup_append] at hnd
      intro l hl
      rcases List.mem_cons.1 hl with rfl | hl
      · refine mrg_sorted (rotB n f) (K.rotLt f n) (rotB_iff n f) (rot_trans n f) _ a b rfl (has a (by simp)) (has b (by simp)) (fun x hx y hy => ?_)
        have := (List.nodup_append.1 hnd.1).2.2 x hx y hy
        unfold K.rotLt
        omega
      · exact ih (k - 2) (by omega) r (by omega) hnd.2.1 (fun l hl => has l (by simp [hl])) l hl
theorem GoodR.lvl {n : Nat} {f : Nat → Nat} {rows : List (List Nat)} (h : GoodR n f rows) : GoodR n f (lvl (rotB n f) rows) :=
  ⟨(lvl_flat _ _ rows (Nat.le_refl _)).trans h.perm, lvl_ne _ _ rows (Nat.le_refl _) h.ne, lvl_asc n f _ rows (Nat.le_refl _) (h.perm.nodup_iff.2 List.nodup_range) h.asc⟩
theorem GoodR.start (n : Nat) (f : Nat → Nat) : GoodR n f ((List.range n).map fun i => [i]) := by
  refine ⟨?_, ?_, ?_⟩
  · rw [← List.flatMap_def]; simp
  · intro l hl; simp at hl; obtain ⟨i, -, rfl⟩ := hl; simp
  · intro l hl; simp at hl; obtain ⟨i, -, rfl⟩ := hl; simp
theorem GoodR.one {n : Nat} {f : Nat → Nat} {L : List Nat} (h : GoodR n f [L]) : K.Ordered n f n L := ⟨by simpa using h.perm, h.asc L (by simp)⟩
theorem GoodR.none {n : Nat} {f : Nat → Nat} (h : GoodR n f []) : K.Ordered n f n [] := ⟨by simpa using h.perm, List.Pairwise.nil⟩

set_option maxHeartbeats 1000000 in
theorem ahead_in (s : ByteArray) (i j : Nat) (w : World) (hs : s.size ≤ 1000000) (hi : i < s.size) (hj : j < s.size) :
    Calls Try.prog 41 #[.string s, .int .i64 i, .int .i64 j] w fun e w' => e = .returned (.bool (rotB s.size (K.fS s.data.toList) i j)) ∧ w = w' := by
  have hz : ¬ (s.size : Int) = 0 := by omega
  go_enter Try.func41, Try.ntmps41
  go_wp2_with fail
  go_loopg [7] s.size (fun k v wr => ∃ t : Nat, t ≤ s.size ∧ k = s.size - t ∧ v = .int .i64 (t : Nat) ∧ Hid (K.N (K.fS s.data.toList) t i = K.N (K.fS s.data.toList) t j) ∧ w = wr)
  case atStart => exact ⟨0, by omega, by omega, rfl, Lib.hid rfl, rfl⟩
  case round =>
    obtain ⟨t, ht, hk, rfl, HEQ, rfl⟩ := hrel
    have Hk := Lib.hid hk
    clear hk
    by_cases hlt : t < s.size
    · have hli : (t : Int) < (s.size : Int) := by omega
      obtain ⟨ha, hfa⟩ := byte_fS s i t (by omega)
      obtain ⟨hb, hfb⟩ := byte_fS s j t (by omega)
      obtain ⟨a, had⟩ : ∃ a, (i + t) % s.size = a := ⟨_, rfl⟩
      obtain ⟨b, hbd⟩ : ∃ b, (j + t) % s.size = b := ⟨_, rfl⟩
      have ha' : a < s.size := by rw [← had]; exact ha
      have hb' : b < s.size := by rw [← hbd]; exact hb
      have fa : K.fS s.data.toList (i + t) = (s[a]'ha').toNat := by have := hfa; simp only [had] at this; exact this
      have fb : K.fS s.data.toList (j + t) = (s[b]'hb').toNat := by have := hfb; simp only [hbd] at this; exact this
      have hai : (a : Int) < (s.size : Int) := by omega
      have hbi : (b : Int) < (s.size : Int) := by omega
      have hna0 : ((i : Int) + (t : Int)).tmod (s.size : Int) = (a : Int) := by rw [Int.tmod_eq_emod_of_nonneg (by omega), ← had]; norm_cast
      have hnb0 : ((j : Int) + (t : Int)).tmod (s.size : Int) = (b : Int) := by rw [Int.tmod_eq_emod_of_nonneg (by omega), ← hbd]; norm_cast
      have hna1 : ((i : Int) + (t : Int)) % (s.size : Int) = (a : Int) := by rw [← had]; norm_cast
      have hnb1 : ((j : Int) + (t : Int)) % (s.size : Int) = (b : Int) := by rw [← hbd]; norm_cast
      have HX := Lib.hid fa
      have HY := Lib.hid fb
      clear fa fb ha hb hfa hfb had hbd
      by_cases hne : (s[a]'ha').toNat = (s[b]'hb').toNat
      · have hneb : (((s[a]'ha').toNat : Int) != ((s[b]'hb').toNat : Int)) = false := by simp [hne]
        have HN := Lib.hid (show K.N (K.fS s.data.toList) (t + 1) i = K.N (K.fS s.data.toList) (t + 1) j by rw [K.N, K.N, HEQ.out, HX.out, HY.out, hne])
        clear hne
        go_wp2_with fail
        go_roundg (s.size - (t + 1))
        case measure => have := Hk.out; omega
        case rel => exact ⟨t + 1, by omega, rfl, by go_num, HN, rfl⟩
      · have hneb : (((s[a]'ha').toNat : Int) != ((s[b]'hb').toNat : Int)) = true := bne_iff_ne.2 (by omega)
        by_cases hlt2 : (s[a]'ha').toNat < (s[b]'hb').toNat
        · have hl2 : decide ((s[a]'ha').toNat < (s[b]'hb').toNat) = true := by simp; omega
          have h1 := sgn_lt (K.fS s.data.toList) (K.fS_lt _) s.size i j t hlt HEQ.out (by rw [HX.out, HY.out]; exact hlt2)
          have HF := Lib.hid (show rotB s.size (K.fS s.data.toList) i j = true by rw [rotB_iff]; exact .inl h1)
          clear hne hlt2 h1
          go_wp2_with fail
          go_ret
          exact ⟨by rw [HF.out]; rfl, rfl⟩
        · have hl2 : decide ((s[a]'ha').toNat < (s[b]'hb').toNat) = false := by simp; omega
          have h1 := sgn_lt (K.fS s.data.toList) (K.fS_lt _) s.size j i t hlt HEQ.out.symm (by rw [HX.out, HY.out]; omega)
          have HF := Lib.hid (show rotB s.size (K.fS s.data.toList) i j = false by unfold rotB; rw [decide_eq_false_iff_not]; unfold K.rotLt; omega)
          clear hne hlt2 h1
          go_wp2_with fail
          go_ret
          exact ⟨by rw [HF.out]; rfl, rfl⟩
    · obtain rfl : t = s.size := by omega
      have hss : ¬ (s.size : Int) < (s.size : Int) := by omega
      have hf : rotB s.size (K.fS s.data.toList) i j = decide (i < j) := by
        have := HEQ.out
        unfold rotB K.rotLt
        congr 1
        simp only [eq_iff_iff]
        omega
      have HF := Lib.hid hf
      clear hf
      go_wp2_with fail
      go_ret
      exact ⟨by rw [HF.out]; rfl, rfl⟩
theorem ret_slice {a : Option Addr} {n m c : Nat} (h : n = m) : Ending.returned (.slice a n c) = .returned (.slice a m c) := by rw [h]
/-- In merged's loop: a list that is left. -/
def LeftL (w : World) (v : Value) (xs : List Nat) : Prop := ∃ a c, v = .slice a xs.length c ∧ Sees w 1 a xs.length (natVals xs) ∧ xs.length ≤ c ∧ c ≤ maxLen ∧ (a = none → c = 0)
theorem LeftL.kept0 {w w' : World} {v : Value} {xs : List Nat} (h : LeftL w v xs) (hk : Kept [] w w') : LeftL w' v xs := by
  obtain ⟨a, c, h1, h2, h3⟩ := h
  exact ⟨a, c, h1, h2.kept0 hk, h3⟩
theorem LeftL.keptF {S : List Nat} {w w' : World} {v : Value} {xs : List Nat} (h : LeftL w v xs) (hk : Kept S w w') (hS : Fresh w.heap.size S) : LeftL w' v xs := by
  obtain ⟨a, c, h1, h2, h3⟩ := h
  refine ⟨a, c, h1, ⟨h2.1, fun j u hu => ?_⟩, h3⟩
  obtain ⟨b, off, he, hc⟩ := h2.2 j u hu
  refine ⟨b, off, he, hk.cellOf hc fun hm => ?_⟩
  have h1 := hS b hm
  have h2 : b < w.heap.size := World.block_lt_of_cell? w _ hc
  omega
/-- The first of it, and what is left behind it. -/
theorem LeftL.cons {w : World} {v : Value} {x : Nat} {xs : List Nat} (h : LeftL w v (x :: xs)) :
    ∃ b off c, v = .slice (some ⟨b, off, none⟩) (xs.length + 1) c ∧ w.cell? ⟨b, off, none⟩ = some (.int .i64 (x : Int)) ∧ xs.length + 1 ≤ c ∧ c ≤ maxLen ∧
      LeftL w (.slice (if c = 1 then some ⟨b, off, none⟩ else some ⟨b, off + 1, none⟩) xs.length (c - 1)) xs := by
  obtain ⟨a, c, rfl, h2, h3, h4, h5⟩ := h
  obtain ⟨b, off, rfl, hc⟩ := h2.at (by rw [natVals_length]; simp)
  have h6 := hc 0 _ rfl
  simp only [List.length_cons] at h3
  refine ⟨b, off, c, rfl, h6, h3, h4, _, c - 1, rfl, ⟨by rw [natVals_length]; omega, fun j u hu => ?_⟩, by omega, by omega, ?_⟩
  · have hj := (List.getElem?_eq_some_iff.1 hu).1
    rw [natVals_length] at hj
    refine ⟨b, off + 1, if_neg (by omega), ?_⟩
    have := hc (j + 1) u (by simpa [natVals] using hu)
    rwa [show off + (j + 1) = off + 1 + j by omega] at this
  · intro he
    split at he <;> cases he

set_option maxRecDepth 100000 in
set_option maxHeartbeats 4000000 in
theorem merged_ok (s : ByteArray) (v1 v2 : Value) (xs ys : List Nat) (w : World) (hs : s.size ≤ 1000000) (h1 : LeftL w v1 xs) (h2 : LeftL w v2 ys) (hx : ∀ x ∈ xs, x < s.size) (hy : ∀ y ∈ ys, y < s.size) (hl : xs.length + ys.length ≤ 1000000) :
    Calls Try.prog 33 #[.string s, v1, v2] w (ListPost (mrg (rotB s.size (K.fS s.data.toList)) xs ys) w) := by
  have H1 := Lib.hid h1
  have H2 := Lib.hid h2
  have HX := Lib.hid hx
  have HY := Lib.hid hy
  obtain ⟨R, hR⟩ : ∃ R, mrg (rotB s.size (K.fS s.data.toList)) xs ys = R := ⟨_, rfl⟩
  rw [hR]
  have HR := Lib.hid (show [] ++ mrg (rotB s.size (K.fS s.data.toList)) xs ys = R from hR)
  clear h1 h2 hx hy hR
  go_enter Try.func33, Try.ntmps33
  go_wp2_with fail
  go_loopg [1, 2, 7] (xs.length + ys.length) (fun k u1 u2 v wr => ∃ ps qs out : List Nat, k = ps.length + qs.length ∧ out.length + ps.length + qs.length ≤ 1000000 ∧ Hid (LeftL w u1 ps) ∧ Hid (LeftL w u2 qs) ∧ Hid (∀ x ∈ ps, x < s.size) ∧ Hid (∀ y ∈ qs, y < s.size) ∧ Hid (out ++ mrg (rotB s.size (K.fS s.data.toList)) ps qs = R) ∧ Hid (Row wr 3 v (natVals out)) ∧ Hid (Kept [] w wr) ∧ Hid (Fresh w.heap.size (foot v)))
  case atStart => exact ⟨xs, ys, [], rfl, by simpa using hl, H1, H2, HX, HY, HR, Lib.hid (Row.nil _ _), Lib.hid (Kept.refl _ _), Lib.hid (by simp [Fresh, foot, Value.ownBlock])⟩
  case round =>
    obtain ⟨ps, qs, out, hk, hlen, HA, HB, HXA, HYB, HM, HO, HKE, HFR⟩ := hrel
    have Hk := Lib.hid hk
    clear hk H1 H2 HX HY HR
    cases ps with
    | nil =>
      have hR : (out ++ []) ++ qs = R := by have := HM.out; rw [nil_mrg] at this; simpa using this
      have HRR := Lib.hid hR
      obtain ⟨aa, ca, rfl, ha1, ha2, ha3, ha4⟩ := HA.out.kept0 HKE.out
      obtain ⟨ab, cb, rfl, hb1, hb2, hb3, hb4⟩ := HB.out
      have hrow := HO.out
      have L1 : (natVals out).length + ([] : List Nat).length ≤ maxLen := by rw [natVals_length]; simp only [maxLen]; simp only [List.length_cons, List.length_nil] at hlen ⊢; omega
      have L2 : ((natVals out).length + ([] : List Nat).length) * 8 ≤ 140737488355328 := by rw [natVals_length]; simp only [List.length_cons, List.length_nil] at hlen ⊢; omega
      have hone : ∀ (l : List Nat), ∀ u ∈ natVals l, u.oneCell' = true := by intro l u hu; simp only [natVals, List.mem_map] at hu; obtain ⟨n, -, rfl⟩ := hu; rfl
      have HONE := Lib.hid hone
      have HHA := Lib.hid ha4
      have HHB := Lib.hid hb4
      clear hR hone ha4 hb4 HM
      go_wp2_with (first
        | (at_builtin; refine wp_appS rfl _ _ 23 rfl 3 (.int .i64 0) 8 Try.underlying23 Try.infoInt rfl _ _ (natVals ([])) aa _ ca rfl rfl (HONE.out _) hrow ha1 HHA.out L1 L2 ?_; intro a5 cap5 w5 hrow5 hk5 hg5; have hk5' := HKE.out.new hk5 HFR.out; have hrow5' : Row w5 3 (.slice a5 ((natVals out).length + ([] : List Nat).length) cap5) (natVals (out ++ [])) := (by rw [natVals_append]; exact hrow5); have hb5 : Sees w5 1 ab (qs : List Nat).length (natVals (qs)) := hb1.kept0 hk5'; have M1 : (natVals (out ++ [])).length + (qs : List Nat).length ≤ maxLen := (by rw [natVals_length, List.length_append]; simp only [maxLen]; simp only [List.length_cons, List.length_nil] at hlen ⊢; omega); have M2 : ((natVals (out ++ [])).length + (qs : List Nat).length) * 8 ≤ 140737488355328 := (by rw [natVals_length, List.length_append]; simp only [List.length_cons, List.length_nil] at hlen ⊢; omega); have HFR5 := Lib.hid (HFR.out.grow hg5 HKE.out.size); have HK5 := Lib.hid hk5'; clear hrow5 hk5 hg5 hk5')
        | (at_builtin; refine wp_appS rfl _ _ 23 rfl 3 (.int .i64 0) 8 Try.underlying23 Try.infoInt rfl _ _ (natVals (qs)) ab _ cb rfl rfl (HONE.out _) hrow5' hb5 HHB.out M1 M2 ?_; intro a6 cap6 w6 hrow6 hk6 hg6))
      have hl : (natVals (out ++ [])).length + (qs : List Nat).length = R.length := by rw [← HRR.out]; simp [natVals_length]; try omega
      have hrow7 : Row w6 3 (.slice a6 ((natVals (out ++ [])).length + (qs : List Nat).length) cap6) (natVals R) := by rw [← HRR.out, natVals_append (out ++ [])]; exact hrow6
      have hfr7 := HFR5.out.grow hg6 HK5.out.size
      rw [hl] at hrow7
      rw [foot_slice] at hfr7
      have HF1 := Lib.hid hrow7
      have HF2 := Lib.hid hfr7
      have HF3 := Lib.hid (HK5.out.new hk6 HFR5.out)
      clear hrow7 hfr7 hrow6 hk6 hg6 hl
      go_ret
      exact ⟨a6, cap6, ret_slice (by rw [← HRR.out]; simp [natVals_length]; try omega), HF1.out, HF3.out, HF2.out⟩
    | cons x ps =>
      cases qs with
      | nil =>
        have q0 : (0 : Int) < ((ps.length + 1 : Nat) : Int) := by omega
        have hR : (out ++ x :: ps) ++ [] = R := by have := HM.out; rw [mrg_nil] at this; simpa using this
        have HRR := Lib.hid hR
        obtain ⟨aa, ca, rfl, ha1, ha2, ha3, ha4⟩ := HA.out.kept0 HKE.out
        obtain ⟨ab, cb, rfl, hb1, hb2, hb3, hb4⟩ := HB.out
        have hrow := HO.out
        have L1 : (natVals out).length + (x :: ps : List Nat).length ≤ maxLen := by rw [natVals_length]; simp only [maxLen]; simp only [List.length_cons, List.length_nil] at hlen ⊢; omega
        have L2 : ((natVals out).length + (x :: ps : List Nat).length) * 8 ≤ 140737488355328 := by rw [natVals_length]; simp only [List.length_cons, List.length_nil] at hlen ⊢; omega
        have hone : ∀ (l : List Nat), ∀ u ∈ natVals l, u.oneCell' = true := by intro l u hu; simp only [natVals, List.mem_map] at hu; obtain ⟨n, -, rfl⟩ := hu; rfl
        have HONE := Lib.hid hone
        have HHA := Lib.hid ha4
        have HHB := Lib.hid hb4
        clear hR hone ha4 hb4 HM
        go_wp2_with (first
          | (at_builtin; refine wp_appS rfl _ _ 23 rfl 3 (.int .i64 0) 8 Try.underlying23 Try.infoInt rfl _ _ (natVals (x :: ps)) aa _ ca rfl rfl (HONE.out _) hrow ha1 HHA.out L1 L2 ?_; intro a5 cap5 w5 hrow5 hk5 hg5; have hk5' := HKE.out.new hk5 HFR.out; have hrow5' : Row w5 3 (.slice a5 ((natVals out).length + (x :: ps : List Nat).length) cap5) (natVals (out ++ x :: ps)) := (by rw [natVals_append]; exact hrow5); have hb5 : Sees w5 1 ab ([] : List Nat).length (natVals ([])) := hb1.kept0 hk5'; have M1 : (natVals (out ++ x :: ps)).length + ([] : List Nat).length ≤ maxLen := (by rw [natVals_length, List.length_append]; simp only [maxLen]; simp only [List.length_cons, List.length_nil] at hlen ⊢; omega); have M2 : ((natVals (out ++ x :: ps)).length + ([] : List Nat).length) * 8 ≤ 140737488355328 := (by rw [natVals_length, List.length_append]; simp only [List.length_cons, List.length_nil] at hlen ⊢; omega); have HFR5 := Lib.hid (HFR.out.grow hg5 HKE.out.size); have HK5 := Lib.hid hk5'; clear hrow5 hk5 hg5 hk5')
          | (at_builtin; refine wp_appS rfl _ _ 23 rfl 3 (.int .i64 0) 8 Try.underlying23 Try.infoInt rfl _ _ (natVals ([])) ab _ cb rfl rfl (HONE.out _) hrow5' hb5 HHB.out M1 M2 ?_; intro a6 cap6 w6 hrow6 hk6 hg6))
        have hl : (natVals (out ++ x :: ps)).length + ([] : List Nat).length = R.length := by rw [← HRR.out]; simp [natVals_length]; try omega
        have hrow7 : Row w6 3 (.slice a6 ((natVals (out ++ x :: ps)).length + ([] : List Nat).length) cap6) (natVals R) := by rw [← HRR.out, natVals_append (out ++ x :: ps)]; exact hrow6
        have hfr7 := HFR5.out.grow hg6 HK5.out.size
        rw [hl] at hrow7
        rw [foot_slice] at hfr7
        have HF1 := Lib.hid hrow7
        have HF2 := Lib.hid hfr7
        have HF3 := Lib.hid (HK5.out.new hk6 HFR5.out)
        clear hrow7 hfr7 hrow6 hk6 hg6 hl
        go_ret
        exact ⟨a6, cap6, ret_slice (by rw [← HRR.out]; simp [natVals_length]; try omega), HF1.out, HF3.out, HF2.out⟩
      | cons y qs =>
        obtain ⟨b0, o0, c0, rfl, e0, hc0, hm0, hl0⟩ := HA.out.cons
        obtain ⟨b1, o1, c1, rfl, e1, hc1, hm1, hl1⟩ := HB.out.cons
        have hxl := HXA.out x (by simp)
        have hyl := HYB.out y (by simp)
        have hah := fun w => ahead_in s x y w hs hxl hyl
        obtain ⟨rb, hrb⟩ : ∃ rb, rotB s.size (K.fS s.data.toList) x y = rb := ⟨_, rfl⟩
        rw [hrb] at hah
        have HAH := Lib.hid hah
        have HL0 := Lib.hid hl0
        have HL1 := Lib.hid hl1
        have f0 := HKE.out.cellOf e0 (by simp)
        have f1 := HKE.out.cellOf e1 (by simp)
        have q0 : (0 : Int) < ((ps.length + 1 : Nat) : Int) := by omega
        have q1 : (0 : Int) < ((qs.length + 1 : Nat) : Int) := by omega
        clear hl0 hl1 hah
        cases rb with
        | true =>
          have hm := HM.out
          rw [mrg_yes hrb] at hm
          have HM2 := Lib.hid hm
          clear hm hrb
          go_wp2_with fail
          go_quiet ((go_at_call 41; exact quietly (HAH.out _)))
          have HKE1 := Lib.hid (HKE.out.drewN nq)
          have d0 := HKE1.out.cellOf e0 (by simp)
          have hrow := HO.out.drewN nq
          clear e0 e1 f0 f1 HKE HO
          generalize wr.drewN nq = w1 at HKE1 d0 hrow ⊢
          have L1 : (natVals out).length + 1 ≤ maxLen := by rw [natVals_length]; simp only [maxLen]; simp only [List.length_cons] at hlen; omega
          have L2 : ((natVals out).length + 1) * 8 ≤ 140737488355328 := by rw [natVals_length]; simp only [List.length_cons] at hlen; omega
          by_cases hcc : c0 = 1
          · subst hcc
            obtain rfl : ps = [] := List.eq_nil_of_length_eq_zero (by omega)
            go_wp2_with ((at_builtin; refine wp_appL _ rfl _ _ 23 rfl 3 (.int .i64 0) 8 Try.underlying23 Try.infoInt rfl _ _ [.int .i64 (x : Int)] 1 rfl rfl rfl rfl (by simp [Value.oneCell']) hrow L1 L2 ?_; intro a5 cap5 w5 hrow5 hk5 hg5))
            go_roundg (0 + (qs.length + 1))
            case measure => have := Hk.out; simp only [List.length_cons] at this; omega
            case rel =>
              refine ⟨[], y :: qs, out ++ [x], by simp, by simp only [List.length_append, List.length_cons, List.length_nil] at hlen ⊢; omega, Lib.hid (by have := HL0.out; simpa using this), HB, Lib.hid (fun z hz => HXA.out z (by simp [hz])), HYB, Lib.hid (by rw [List.append_assoc]; exact HM2.out), Lib.hid ?_, Lib.hid (HKE1.out.new hk5 HFR.out), Lib.hid (HFR.out.grow hg5 HKE1.out.size)⟩
              rw [natVals_append]; exact hrow5
          · go_wp2_with ((at_builtin; refine wp_appL _ rfl _ _ 23 rfl 3 (.int .i64 0) 8 Try.underlying23 Try.infoInt rfl _ _ [.int .i64 (x : Int)] 1 rfl rfl rfl rfl (by simp [Value.oneCell']) hrow L1 L2 ?_; intro a5 cap5 w5 hrow5 hk5 hg5))
            go_roundg (ps.length + (qs.length + 1))
            case measure => have := Hk.out; simp only [List.length_cons] at this; omega
            case rel =>
              refine ⟨ps, y :: qs, out ++ [x], by simp, by simp only [List.length_append, List.length_cons, List.length_nil] at hlen ⊢; omega, Lib.hid (by have := HL0.out; rw [if_neg hcc] at this; exact this), HB, Lib.hid (fun z hz => HXA.out z (by simp [hz])), HYB, Lib.hid (by rw [List.append_assoc]; exact HM2.out), Lib.hid ?_, Lib.hid (HKE1.out.new hk5 HFR.out), Lib.hid (HFR.out.grow hg5 HKE1.out.size)⟩
              rw [natVals_append]; exact hrow5
        | false =>
          have hm := HM.out
          rw [mrg_no hrb] at hm
          have HM2 := Lib.hid hm
          clear hm hrb
          go_wp2_with fail
          go_quiet ((go_at_call 41; exact quietly (HAH.out _)))
          have HKE1 := Lib.hid (HKE.out.drewN nq)
          have d0 := HKE1.out.cellOf e1 (by simp)
          have hrow := HO.out.drewN nq
          clear e0 e1 f0 f1 HKE HO
          generalize wr.drewN nq = w1 at HKE1 d0 hrow ⊢
          have L1 : (natVals out).length + 1 ≤ maxLen := by rw [natVals_length]; simp only [maxLen]; simp only [List.length_cons] at hlen; omega
          have L2 : ((natVals out).length + 1) * 8 ≤ 140737488355328 := by rw [natVals_length]; simp only [List.length_cons] at hlen; omega
          by_cases hcc : c1 = 1
          · subst hcc
            obtain rfl : qs = [] := List.eq_nil_of_length_eq_zero (by omega)
            go_wp2_with ((at_builtin; refine wp_appL _ rfl _ _ 23 rfl 3 (.int .i64 0) 8 Try.underlying23 Try.infoInt rfl _ _ [.int .i64 (y : Int)] 1 rfl rfl rfl rfl (by simp [Value.oneCell']) hrow L1 L2 ?_; intro a5 cap5 w5 hrow5 hk5 hg5))
            go_roundg (ps.length + 1 + 0)
            case measure => have := Hk.out; simp only [List.length_cons] at this; omega
            case rel =>
              refine ⟨x :: ps, [], out ++ [y], by simp, by simp only [List.length_append, List.length_cons, List.length_nil] at hlen ⊢; omega, HA, Lib.hid (by have := HL1.out; simpa using this), HXA, Lib.hid (fun z hz => HYB.out z (by simp [hz])), Lib.hid (by rw [List.append_assoc]; exact HM2.out), Lib.hid ?_, Lib.hid (HKE1.out.new hk5 HFR.out), Lib.hid (HFR.out.grow hg5 HKE1.out.size)⟩
              rw [natVals_append]; exact hrow5
          · go_wp2_with ((at_builtin; refine wp_appL _ rfl _ _ 23 rfl 3 (.int .i64 0) 8 Try.underlying23 Try.infoInt rfl _ _ [.int .i64 (y : Int)] 1 rfl rfl rfl rfl (by simp [Value.oneCell']) hrow L1 L2 ?_; intro a5 cap5 w5 hrow5 hk5 hg5))
            go_roundg (ps.length + 1 + qs.length)
            case measure => have := Hk.out; simp only [List.length_cons] at this; omega
            case rel =>
              refine ⟨x :: ps, qs, out ++ [y], by simp, by simp only [List.length_append, List.length_cons, List.length_nil] at hlen ⊢; omega, HA, Lib.hid (by have := HL1.out; rw [if_neg hcc] at this; exact this), HXA, Lib.hid (fun z hz => HYB.out z (by simp [hz])), Lib.hid (by rw [List.append_assoc]; exact HM2.out), Lib.hid ?_, Lib.hid (HKE1.out.new hk5 HFR.out), Lib.hid (HFR.out.grow hg5 HKE1.out.size)⟩
              rw [natVals_append]; exact hrow5
end Go.Proofs.Ytaeppgooenbfiaa
