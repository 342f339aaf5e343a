/-
  RotateRanks: the walks of both Rank functions and of the law.
-/
import Derived.Test.YtaeppgooenbfiaaRefOrdB
import Derived.Test.YtaeppgooenbfiaaAwakeR
import Derived.Test.YtaeppgooenbfiaaRotS7
namespace Go.Proofs.Ytaeppgooenbfiaa
open Go.RowKit Go.Sort
set_option linter.unusedVariables false
set_option linter.unusedSimpArgs false

/-- Where i stands. -/
def rankA (L : List Nat) (i : Int) (n : Nat) : Int × Nat := if i < 0 ∨ (n : Int) ≤ i then (0, 2) else ((L.idxOf i.toNat : Nat), 0)
def RankPost (n : Nat) (f : Nat → Nat) (i : Int) (w : World) (e : Ending) (w' : World) : Prop :=
  ∀ L, K.Ordered n f n L → e = .returned (.tuple #[.int .i64 (rankA L i n).1, .int .i64 ((rankA L i n).2 : Nat)]) ∧ Kept [] w w'
theorem idx_of (L : List Nat) (k i : Nat) (hk : L[k]? = some i) (hnd : L.Nodup) : L.idxOf i = k := by
  obtain ⟨h, he⟩ := List.getElem?_eq_some_iff.1 hk
  have hm : i ∈ L := List.mem_of_getElem? hk
  have hi := List.idxOf_lt_length_of_mem hm
  have h0 : L[L.idxOf i] = i := List.getElem_idxOf hi
  have hne := List.pairwise_iff_getElem.1 (show L.Pairwise (· ≠ ·) from hnd)
  rcases Nat.lt_trichotomy (L.idxOf i) k with h1 | h1 | h1
  · exact absurd (h0.trans he.symm) (hne _ _ hi h h1)
  · exact h1
  · exact absurd (he.trans h0.symm) (hne _ _ h hi h1)

theorem rotLe (n : Nat) (f : Nat → Nat) (a b : Nat) : (!rotB n f b a) = true ↔ ¬ K.rotLt f n b a := by
  rw [← rotB_iff]; cases rotB n f b a <;> simp
theorem ordered_some (n : Nat) (f : Nat → Nat) : ∃ L, K.Ordered n f n L := by
  have hp := List.mergeSort_perm (List.range n) (fun a b => !rotB n f b a)
  have hs := List.pairwise_mergeSort (le := fun a b => !rotB n f b a) (fun a b c h1 h2 => by
    rw [rotLe] at h1 h2 ⊢
    unfold K.rotLt at *
    omega) (fun a b => by
    rw [Bool.or_eq_true, rotLe, rotLe]
    unfold K.rotLt
    omega) (List.range n)
  refine ⟨_, hp, ?_⟩
  have hnd : (List.mergeSort (List.range n) (fun a b => !rotB n f b a)).Pairwise (· ≠ ·) := hp.nodup_iff.2 List.nodup_range
  refine (hs.and hnd).imp fun {a b} h => ?_
  obtain ⟨h1, h2⟩ := h
  rw [rotLe] at h1
  unfold K.rotLt at *
  omega

theorem rank_any (s : ByteArray) (i : Int) (w : World) (hs : s.size ≤ 150) : Calls Try.prog 18 #[.string s, .int .i64 i] w (RankPost s.size (K.fS s.data.toList) i w) := by
  by_cases h1 : i < 0
  · have g2 : decide (i < 0) = true := decide_eq_true h1
    go_enter Try.func18, Try.ntmps18
    go_wp2_with fail
    go_ret2
    intro L hL
    exact ⟨by unfold rankA; rw [if_pos (.inl h1)]; rfl, Kept.refl _ _⟩
  · obtain ⟨r, rfl⟩ := Int.eq_ofNat_of_zero_le (show 0 ≤ i by omega)
    by_cases h2 : s.size ≤ r
    · have g3 : (s.size : Int) ≤ (r : Int) := by omega
      clear h1
      go_enter Try.func18, Try.ntmps18
      go_wp2_with fail
      go_ret2
      intro L hL
      exact ⟨by unfold rankA; rw [if_pos (.inr g3)]; rfl, Kept.refl _ _⟩
    · refine (rank_in s r w (by omega) (by omega) (sort_any s.size (by omega))).mono ?_
      rintro e w' ⟨⟨L, p, hO, hI, rfl⟩, hk⟩ L2 hL2
      obtain rfl := hO.one hL2
      refine ⟨?_, hk⟩
      unfold rankA
      rw [if_neg (by omega), Int.toNat_natCast]
      rcases hI with ⟨q, h3, h4, -⟩ | ⟨-, h3⟩
      · rw [idx_of L q r h4 hO.nodup, h3]; rfl
      · exact absurd (hO.perm.mem_iff.2 (List.mem_range.2 (by omega))) h3

theorem rrank_any (s : ByteArray) (i : Int) (w : World) (hs : s.size ≤ 150) : Calls Try.prog 19 #[.string s, .int .i64 i] w (RankPost s.size (K.fS s.data.toList) i w) := by
  by_cases h1 : i < 0
  · have g2 : decide (i < 0) = true := decide_eq_true h1
    go_enter Try.func19, Try.ntmps19
    go_wp2_with fail
    go_ret2
    intro L hL
    exact ⟨by unfold rankA; rw [if_pos (.inl h1)]; rfl, Kept.refl _ _⟩
  · obtain ⟨r, rfl⟩ := Int.eq_ofNat_of_zero_le (show 0 ≤ i by omega)
    by_cases h2 : s.size ≤ r
    · have g3 : (s.size : Int) ≤ (r : Int) := by omega
      clear h1
      go_enter Try.func19, Try.ntmps19
      go_wp2_with fail
      go_ret2
      intro L hL
      exact ⟨by unfold rankA; rw [if_pos (.inr g3)]; rfl, Kept.refl _ _⟩
    · have hr : r < s.size := by omega
      have g3 : ¬ (s.size : Int) ≤ (r : Int) := by omega
      have hrord := rorder_ok s w (by omega)
      have HRORD := Lib.hid hrord
      clear hrord h1 h2
      go_enter Try.func19, Try.ntmps19
      go_wp2_with fail
      refine HRORD.out.mono ?_
      rintro e w2 ⟨L, u, hO, rfl, hL, hk2⟩
      obtain ⟨a, c, rfl, hsee, -⟩ := hL
      have HO := Lib.hid hO
      have HS := Lib.hid hsee
      have HK := Lib.hid hk2
      have hlen := hO.len
      rw [hlen] at HS ⊢
      have HLEN := Lib.hid hlen
      clear hO hsee hk2 hlen HRORD
      go_wp2_with fail
      go_loopg [7] s.size (fun k v wr => ∃ j : Nat, j ≤ s.size ∧ k = s.size - j ∧ v = .int .i64 (j : Nat) ∧ Hid (∀ t, t < j → L[t]? ≠ some r) ∧ w2 = wr)
      case atStart => exact ⟨0, by omega, by omega, rfl, Lib.hid (fun t ht => by omega), rfl⟩
      case round =>
        obtain ⟨j, hj, hk, rfl, HN, rfl⟩ := hrel
        have Hk := Lib.hid hk
        clear hk
        by_cases hlt : j < s.size
        · have hli : (j : Int) < (s.size : Int) := by omega
          obtain ⟨x, hx⟩ : ∃ x, L[j]? = some x := ⟨_, List.getElem?_eq_getElem (by rw [HLEN.out]; exact hlt)⟩
          obtain ⟨b0, off, rfl, -⟩ := HS.out.at (by rw [natVals_length, HLEN.out]; omega)
          have c0 := HS.out.natC hx
          have HX := Lib.hid hx
          clear hx
          by_cases hxr : x = r
          · subst hxr
            go_wp2_with fail
            go_ret2
            intro L2 hL2
            obtain rfl := HO.out.one hL2
            refine ⟨?_, HK.out⟩
            unfold rankA
            rw [if_neg (by omega), Int.toNat_natCast, idx_of L j x HX.out HO.out.nodup]; rfl
          · have hxb : ((x : Int) == (r : Int)) = false := beq_eq_false_iff_ne.2 (by omega)
            have HN2 := Lib.hid (show ∀ t, t < j + 1 → L[t]? ≠ some r from fun t ht he => by
              rcases Nat.lt_or_ge t j with h | h
              · exact HN.out t h he
              · obtain rfl : t = j := by omega
                rw [HX.out] at he
                exact hxr (Option.some.inj he))
            clear hxr
            go_wp2_with fail
            go_roundg (s.size - (j + 1))
            case measure => have := Hk.out; omega
            case rel => exact ⟨j + 1, by omega, rfl, by go_num, HN2, rfl⟩
        · exfalso
          have hm : r ∈ L := HO.out.perm.mem_iff.2 (List.mem_range.2 hr)
          obtain ⟨t, ht⟩ := List.mem_iff_getElem?.1 hm
          have := (List.getElem?_eq_some_iff.1 ht).1
          exact HN.out t (by have := HLEN.out; omega) ht

set_option maxRecDepth 100000 in
theorem rotateRanks_walk (s : ByteArray) (i : Int) (w : World) (hs : s.size ≤ 140737488351232) (hi : -9223372036854775808 ≤ i ∧ i ≤ 9223372036854775807) :
    Calls Try.prog 4 #[.string s, .int .i64 i] w fun e w' => e = .returned (.bool true) ∧ Kept [] w w' := by
  clear hi
  by_cases h : 150 < s.size
  · have g1 : decide (150 < (s.size : Int)) = true := by simp; omega
    go_enter Try.func4, Try.ntmps4
    go_wp2_with ((go_at_call 17; refine (awakeR _).mono ?_; rintro e w' ⟨rfl, hk⟩))
    go_ret
    exact ⟨rfl, by assumption⟩
  · have g1 : decide (150 < (s.size : Int)) = false := by simp; omega
    have hex := ordered_some s.size (K.fS s.data.toList)
    obtain ⟨L, hL⟩ := hex
    have hr := fun w => rank_any s i w (by omega)
    have hrr := fun w => rrank_any s i w (by omega)
    have HR := Lib.hid hr
    have HRR := Lib.hid hrr
    have HL := Lib.hid hL
    clear hr hrr hL
    go_enter Try.func4, Try.ntmps4
    go_wp2_with fail
    refine (HR.out _).mono ?_
    intro e w1 h1
    obtain ⟨rfl, hk1⟩ := h1 L HL.out
    have HK1 := Lib.hid hk1
    clear hk1 h1
    obtain ⟨p, er, hp⟩ : ∃ (p : Int) (er : Nat), rankA L i s.size = (p, er) := ⟨_, _, rfl⟩
    have HP := Lib.hid hp
    rw [hp]
    clear hp
    go_wp2_with fail
    refine (HRR.out _).mono ?_
    intro e w2 h2
    obtain ⟨rfl, hk2⟩ := h2 L HL.out
    have HK2 := Lib.hid (HK1.out.new hk2 (by simp [Fresh]))
    rw [HP.out]
    clear hk2 h2
    go_wp2_with ((go_at_call 17; refine (awakeR _).mono ?_; rintro e w' ⟨rfl, hk⟩))
    go_ret
    exact ⟨rfl, HK2.out.new (by assumption) (by simp [Fresh])⟩
end Go.Proofs.Ytaeppgooenbfiaa
