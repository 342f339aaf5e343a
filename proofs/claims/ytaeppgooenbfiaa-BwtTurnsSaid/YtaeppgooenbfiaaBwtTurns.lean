/-
  BwtTurns: the plain laws and the walk.
-/
import Derived.Test.YtaeppgooenbfiaaBwtD
import Derived.Test.YtaeppgooenbfiaaRotJ
import Derived.Deep.RegionHeld3
namespace Go.Proofs.Ytaeppgooenbfiaa
open Go.RowKit Go.Sort
set_option linter.unusedVariables false
set_option linter.unusedSimpArgs false

theorem shift_perm (n i : Nat) (hi : i < n) : ((List.range n).map fun j => (j + i) % n).Perm (List.range n) := by
  have hm : ∀ a, a < n → (a + i) % n = if a + i < n then a + i else a + i - n := by
    intro a ha
    split
    · rename_i h; exact Nat.mod_eq_of_lt h
    · rename_i h; rw [Nat.mod_eq_sub_mod (by omega), Nat.mod_eq_of_lt (by omega)]
  refine (List.perm_ext_iff_of_nodup ?_ List.nodup_range).2 fun a => ?_
  · rw [List.Nodup, List.pairwise_map]
    refine List.Pairwise.imp_of_mem (fun {a b} ha hb hlt => ?_) List.pairwise_lt_range
    rw [List.mem_range] at ha hb
    intro he
    rw [hm a ha, hm b hb] at he
    split at he <;> split at he <;> omega
  · simp only [List.mem_map, List.mem_range]
    constructor
    · rintro ⟨j, h1, rfl⟩; exact Nat.mod_lt _ (by omega)
    · intro h
      by_cases h1 : i ≤ a
      · exact ⟨a - i, by omega, by rw [hm _ (by omega), if_pos (by omega)]; omega⟩
      · exact ⟨a + n - i, by omega, by rw [hm _ (by omega), if_neg (by omega)]; omega⟩
theorem N_fun (f f' : Nat → Nat) (i : Nat) (h : ∀ t, f' t = f (t + i)) : ∀ m j, K.N f' m j = K.N f m (j + i)
  | 0, j => rfl
  | m + 1, j => by
    have a := K.N_add f' 1 j m
    have b := K.N_add f 1 (j + i) m
    rw [Nat.add_comm 1 m] at a b
    rw [a, b, K.N_one, K.N_one, h, N_fun f f' i h m (j + 1), show j + 1 + i = j + i + 1 by omega]
section
variable {n i : Nat} {f f' : Nat → Nat} {L L' : List Nat}
theorem turn_contents (H : K.Per n f) (hi : i < n) (h : ∀ t, f' t = f (t + i)) (hO : K.Ordered n f n L) (hO' : K.Ordered n f' n L') : L.map (K.N f n) = L'.map (K.N f' n) := by
  refine List.Perm.eq_of_pairwise (fun a b _ _ h1 h2 => Nat.le_antisymm h1 h2) (K.sorted_R hO) (K.sorted_R hO') ?_
  have s1 : (L'.map (K.N f' n)).Perm ((List.range n).map (K.N f' n)) := hO'.perm.map _
  have s2 : (List.range n).map (K.N f' n) = ((List.range n).map fun j => (j + i) % n).map (K.N f n) := by
    rw [List.map_map]
    refine List.map_congr_left fun j _ => ?_
    simp only [Function.comp]
    rw [K.N_per f n H.hp, N_fun f f' i h]
  rw [s2] at s1
  exact (hO.perm.map _).trans ((s1.trans ((shift_perm n i hi).map _)).symm)
theorem lastC_low (H : K.Per n f) (L : List Nat) : K.lastC n f L = (L.map (K.N f n)).map (· % 256) := by
  rw [List.map_map]
  refine List.map_congr_left fun j _ => ?_
  simp only [Function.comp]
  rw [K.R_low H]
theorem turn_last (H : K.Per n f) (H' : K.Per n f') (hi : i < n) (h : ∀ t, f' t = f (t + i)) (hO : K.Ordered n f n L) (hO' : K.Ordered n f' n L') : K.lastC n f L = K.lastC n f' L' := by
  rw [lastC_low H, lastC_low H', turn_contents H hi h hO hO']
theorem turn_row (H : K.Per n f) (hi : i < n) (h : ∀ t, f' t = f (t + i)) (hO : K.Ordered n f n L) (hO' : K.Ordered n f' n L') (he : K.N f n 0 = K.N f n i) : L = L' := by
  have hff : f' = f := by
    funext t
    have h0 := H.h0
    have hb := bytes_same f H.hf 0 i n he (t % n) (Nat.mod_lt _ h0)
    rw [Nat.zero_add] at hb
    rw [h t, ← H.hp t, hb, ← H.hp (t + i), ← H.hp (i + t % n), Nat.add_mod_mod, Nat.add_comm t i]
  rw [hff] at hO'
  exact hO.one hO'
theorem turn_first (H : K.Per n f) (hi : i < n) (h : ∀ t, f' t = f (t + i)) (hO : K.Ordered n f n L) (hO' : K.Ordered n f' n L') (p : Nat) (hp : L[p]? = some i) : L'.idxOf 0 ≤ p := by
  obtain ⟨hm1, hm2⟩ := idx_row hO' 0 H.h0
  obtain ⟨hpl, hpe⟩ := List.getElem?_eq_some_iff.1 hp
  have hlen := hO.len
  have hlen' := hO'.len
  rcases Nat.lt_or_ge p (L'.idxOf 0) with hlt | hge
  · have hc := congrArg (fun l => l[p]?) (turn_contents H hi h hO hO')
    simp only [List.getElem?_map] at hc
    rw [hp, List.getElem?_eq_getElem (by omega)] at hc
    simp only [Option.map_some, Option.some.injEq] at hc
    have hpw := List.pairwise_iff_getElem.1 hO'.asc p (L'.idxOf 0) (by omega) (by omega) hlt
    have h0e : L'[L'.idxOf 0]'(by omega) = 0 := List.getElem_idxOf (by omega)
    rw [h0e] at hpw
    have hN := N_fun f f' i h n 0
    rw [Nat.zero_add] at hN
    unfold K.rotLt at hpw
    omega
  · exact hge
end
theorem range_first (l : List UInt8) : (List.range l.length).map (K.fS l) = K.firstR l := by
  apply List.ext_getElem?
  intro j
  by_cases hj : j < l.length
  · rw [List.getElem?_map, List.getElem?_range hj, K.firstR, List.getElem?_map, List.getElem?_eq_getElem hj]
    simp only [Option.map_some]
    unfold K.fS
    rw [Nat.mod_eq_of_lt hj, List.getD, List.getElem?_eq_getElem hj]; rfl
  · rw [List.getElem?_eq_none (by simp; omega), List.getElem?_eq_none (by simp [K.firstR]; omega)]
/-- The last column has the text's bytes, each as often. -/
theorem last_count (s : ByteArray) (L : List Nat) (h0 : 0 < s.size) (hO : K.Ordered s.size (K.fS s.data.toList) s.size L) (b : UInt8) :
    (toB (K.lastC s.size (K.fS s.data.toList) L)).count b = s.data.toList.count b := by
  have H := per_of s h0
  have hl := byte_len s
  have s1 : (K.lastC s.size (K.fS s.data.toList) L).Perm (K.firstR s.data.toList) := by
    have a1 : (K.lastC s.size (K.fS s.data.toList) L).Perm ((List.range s.size).map fun i => K.fS s.data.toList (i + s.size - 1)) := hO.perm.map _
    have a2 : ((List.range s.size).map fun i => K.fS s.data.toList (i + s.size - 1)) = ((List.range s.size).map fun i => (i + s.size - 1) % s.size).map (K.fS s.data.toList) := by
      rw [List.map_map]
      refine List.map_congr_left fun j _ => ?_
      simp only [Function.comp]
      rw [H.hp]
    have a3 := (K.turn_perm h0).map (K.fS s.data.toList)
    have a4 := range_first s.data.toList
    rw [hl] at a4
    rw [a2] at a1
    rw [a4] at a3
    exact a1.trans a3
  have s2 : (toB (K.lastC s.size (K.fS s.data.toList) L)).Perm (toB (K.firstR s.data.toList)) := s1.map _
  have s3 : toB (K.firstR s.data.toList) = s.data.toList := by
    unfold toB K.firstR
    rw [List.map_map]
    have : s.data.toList.map (UInt8.ofNat ∘ UInt8.toNat) = s.data.toList.map id := List.map_congr_left fun x _ => by simp
    rw [this, List.map_id]
  rw [s3] at s2
  exact s2.count_eq b
theorem rot_fS (s t : ByteArray) (i : Nat) (hi : i < s.size) (ht : t.data.toList = s.data.toList.drop i ++ s.data.toList.take i) : ∀ k, K.fS t.data.toList k = K.fS s.data.toList (k + i) := by
  intro k
  have hl := byte_len s
  have hlt : t.data.toList.length = s.size := by rw [ht]; simp; omega
  have hm := Nat.mod_lt k (show 0 < s.size by omega)
  have hg := K.rot_get s.data.toList i (k % s.size) (by omega) (by omega)
  unfold K.fS
  rw [hlt, hl, ht, List.getD, hg]
  simp only [Option.getD_some]
  unfold K.fB
  rw [hl, Nat.mod_add_mod]
theorem range_of_u8 {x : Int} (h : (Lit.int .u8 x).wf = true) : 0 ≤ x ∧ x ≤ 255 := by
  simp [Lit.wf, IntKind.min, IntKind.max, IntKind.signed, IntKind.bits] at h
  omega
/-- How often b stands among the first k. -/
def cntB (l : List UInt8) (k : Nat) (b : UInt8) : Nat := (l.take k).count b
theorem cntB_le (l : List UInt8) (k : Nat) (b : UInt8) : cntB l k b ≤ k := by
  unfold cntB
  have := List.count_le_length (a := b) (l := l.take k)
  rw [List.length_take] at this
  omega
theorem cntB_succ (l : List UInt8) (k : Nat) (b x : UInt8) (h : l[k]? = some x) : cntB l (k + 1) b = cntB l k b + if x = b then 1 else 0 := by
  unfold cntB
  rw [List.take_add_one, h, List.count_append]
  by_cases hx : x = b
  · subst hx; simp
  · simp [hx]
theorem byte_at (s : ByteArray) (k : Nat) (h : k < s.size) : s.data.toList[k]? = some (s[k]'h) := by
  have hl := byte_len s
  have := byte_get s k h
  rw [List.getD, List.getElem?_eq_getElem (by omega)] at this
  rw [List.getElem?_eq_getElem (by omega)]
  simpa using this

set_option maxRecDepth 100000 in
set_option maxHeartbeats 4000000 in
theorem bwtTurns_walk (s : ByteArray) (i : Int) (bi : Int) (w : World) (hs : s.size ≤ 140737488351232) (hi : -9223372036854775808 ≤ i ∧ i ≤ 9223372036854775807) (hbi : 0 ≤ bi ∧ bi ≤ 255) :
    Calls Try.prog 13 #[.string s, .int .i64 i, .int .u8 bi] w fun e w' => e = .returned (.bool true) ∧ Kept [] w w' := by
  clear hi
  have key : (decide (2000 < (s.size : Int)) = true) ∨ (decide (2000 < (s.size : Int)) = false ∧ decide (i < 0) = true) ∨ (decide (2000 < (s.size : Int)) = false ∧ decide (i < 0) = false ∧ decide ((s.size : Int) ≤ i) = true) ∨
      (decide (2000 < (s.size : Int)) = false ∧ decide (i < 0) = false ∧ decide ((s.size : Int) ≤ i) = false) := by simp; omega
  rcases key with g1 | ⟨g1, g2⟩ | ⟨g1, g2, g3⟩ | ⟨g1, g2, g3⟩
  · go_enter Try.func13, Try.ntmps13
    go_wp2_with ((go_at_call 24; refine (awakeB _).mono ?_; rintro e w' ⟨rfl, hk⟩))
    go_ret
    exact ⟨rfl, by assumption⟩
  · go_enter Try.func13, Try.ntmps13
    go_wp2_with ((go_at_call 24; refine (awakeB _).mono ?_; rintro e w' ⟨rfl, hk⟩))
    go_ret
    exact ⟨rfl, by assumption⟩
  · go_enter Try.func13, Try.ntmps13
    go_wp2_with ((go_at_call 24; refine (awakeB _).mono ?_; rintro e w' ⟨rfl, hk⟩))
    go_ret
    exact ⟨rfl, by assumption⟩
  · have b2 : ¬ i < 0 := of_decide_eq_false g2
    have b3 : ¬ (s.size : Int) ≤ i := of_decide_eq_false g3
    have b1 : ¬ 2000 < (s.size : Int) := of_decide_eq_false g1
    obtain ⟨r, rfl⟩ := Int.eq_ofNat_of_zero_le (show 0 ≤ i by omega)
    obtain ⟨bn, rfl⟩ := Int.eq_ofNat_of_zero_le hbi.1
    have hb256 : bn < 256 := by omega
    have hr : r < s.size := by omega
    have hs2 : s.size ≤ 2000 := by omega
    have h0 : 0 < s.size := by omega
    have hri : (r : Int) < (s.size : Int) := by omega
    have hri2 : (r : Int) ≤ (s.size : Int) := by omega
    have hfw := forward_in s w h0 (by omega) (sort_any s.size (by omega))
    obtain ⟨t, ht⟩ : ∃ t, s.extract r s.size ++ s.extract 0 r = t := ⟨_, rfl⟩
    have hrl := rot_list s r (by omega)
    rw [ht, ByteArray.toList_eq] at hrl
    have hts : t.size = s.size := by rw [← byte_len t, hrl]; have := byte_len s; simp; omega
    have hfw2 := fun w => forward_in t w (by omega) (by omega) (sort_any t.size (by omega))
    have hadd : ∀ W : World, (Op.stringOp .add (s.extract r s.size) (s.extract 0 r)).run Try.prog W = .ok (.string t) W := fun W => by
      rw [run_string_add_sum _ _ _ (by rw [ByteArray.size_extract, ByteArray.size_extract]; omega), ht]
    have hrank := fun w => rank_in s r w (by omega) hr (sort_any s.size (by omega))
    have hcmp := fun w => cmp_in s 0 r w (by omega) h0 hr
    have HRL := Lib.hid hrl
    have HTS := Lib.hid hts
    have HFW := Lib.hid hfw
    have HFW2 := Lib.hid hfw2
    have HRANK := Lib.hid hrank
    have HCMP := Lib.hid hcmp
    clear hfw hfw2 b1 b2 b3 ht hrl hts hrank hcmp hbi
    go_enter Try.func13, Try.ntmps13
    go_wp2_with fail
    refine HFW.out.mono ?_
    rintro e w1 ⟨L, hO, rfl, hk1⟩
    have HO := Lib.hid hO
    have HK1 := Lib.hid hk1
    obtain ⟨n1, hn1⟩ : ∃ n1, L.idxOf 0 = n1 := ⟨_, rfl⟩
    obtain ⟨xs, hxs⟩ : ∃ xs, toB (K.lastC s.size (K.fS s.data.toList) L) = xs := ⟨_, rfl⟩
    rw [hn1, hxs]
    have HN1 := Lib.hid hn1
    have HXS := Lib.hid hxs
    have hxl : xs.length = s.size := by rw [← hxs, toB, List.length_map, K.lastC, List.length_map, hO.len]
    clear hO hk1 hn1 hxs HFW
    go_wp2_with fail
    go_region_held3 (fun w' => Kept [] w1 w')
      (first | exact Kept.refl _ _ | exact (Kept.refl _ _).drew | exact hk2)
      (first | (go_at_call 25; refine (HFW2.out _).mono ?_; rintro e w2 ⟨L', hO', rfl, hk2'⟩; have hk2 : Kept [] w1 w2 := (Kept.refl [] w1).drew.trans hk2' (by simp)))
    rename_i hS2
    clear hS2
    rw [HTS.out] at hO' ⊢
    have hff := rot_fS s t r hr HRL.out
    have H := per_of s h0
    have H' : K.Per s.size (K.fS t.data.toList) := by have := per_of t (by rw [HTS.out]; exact h0); rwa [HTS.out] at this
    have hla := turn_last H H' hr hff HO.out hO'
    rw [← hla, HXS.out]
    obtain ⟨n2, hn2⟩ : ∃ n2, L'.idxOf 0 = n2 := ⟨_, rfl⟩
    have hrow : K.N (K.fS s.data.toList) s.size 0 = K.N (K.fS s.data.toList) s.size r → n1 = n2 := fun he => by
      have := turn_row H hr hff HO.out hO' he
      rw [← HN1.out, ← hn2, this]
    have hfirst : ∀ p, L[p]? = some r → n2 ≤ p := fun p hp => by rw [← hn2]; exact turn_first H hr hff HO.out hO' p hp
    rw [hn2]
    have hcnt : ∀ b, xs.count b = s.data.toList.count b := fun b => by rw [← HXS.out]; exact last_count s L h0 HO.out b
    obtain ⟨X, hX⟩ : ∃ X : ByteArray, X = ByteArray.mk xs.toArray := ⟨_, rfl⟩
    have hXl : X.data.toList = xs := by rw [hX, mk_list]
    have hXs : X.size = s.size := by rw [hX, mk_size, hxl]
    rw [← hX]
    have HROW := Lib.hid hrow
    have HFIRST := Lib.hid hfirst
    have HCNT := Lib.hid hcnt
    have HXL := Lib.hid hXl
    have HXSZ := Lib.hid hXs
    have HK2 := Lib.hid (HK1.out.new hk2 (by simp [Fresh]))
    have hXsi : (X.size : Int) = (s.size : Int) := by omega
    clear hO' hff H H' hla hn2 hrow hfirst hcnt hX hXl hk2 hk2' HFW2 HXS HN1 HTS HRL hXs hxl hadd
    go_wp2_with fail
    go_loopg [13, 14] s.size (fun k v u wr => ∃ j : Nat, j ≤ s.size ∧ k = s.size - j ∧ u = .int .i64 (j : Nat) ∧ v = .int .i64 ((cntB s.data.toList j (UInt8.ofNat bn) : Int) - (cntB xs j (UInt8.ofNat bn) : Int)) ∧ w2 = wr)
    case atStart => exact ⟨0, by omega, by omega, rfl, by simp [cntB], rfl⟩
    case round =>
      obtain ⟨j, hj, hk, rfl, rfl, rfl⟩ := hrel
      have Hk := Lib.hid hk
      clear hk
      by_cases hlt : j < s.size
      · have hli : (j : Int) < (s.size : Int) := by omega
        have hltX : j < X.size := by rw [HXSZ.out]; exact hlt
        have b1 := cntB_le s.data.toList j (UInt8.ofNat bn)
        have b2 := cntB_le xs j (UInt8.ofNat bn)
        have e1 := cntB_succ s.data.toList j (UInt8.ofNat bn) _ (byte_at s j hlt)
        have e2 := cntB_succ xs j (UInt8.ofNat bn) _ (by rw [← HXL.out]; exact byte_at X j hltX)
        have q1 : ∀ z : UInt8, z = UInt8.ofNat bn ↔ z.toNat = bn := fun z => by
          constructor
          · rintro rfl; rw [UInt8.toNat_ofNat']; omega
          · intro h; rw [← h, UInt8.ofNat_toNat]
        have c1b : cntB s.data.toList j (UInt8.ofNat bn) ≤ 2000 := by omega
        have c2b : cntB xs j (UInt8.ofNat bn) ≤ 2000 := by omega
        have HE1 := Lib.hid e1
        have HE2 := Lib.hid e2
        have HQ := Lib.hid q1
        clear b1 b2 e1 e2 q1
        generalize cntB s.data.toList j (UInt8.ofNat bn) = c1 at *
        generalize cntB xs j (UInt8.ofNat bn) = c2 at *
        by_cases h1 : (s[j]'hlt).toNat = bn
        · have k1 : (((s[j]'hlt).toNat : Int) == (bn : Int)) = true := beq_iff_eq.2 (by omega)
          have HE1' := Lib.hid (show cntB s.data.toList (j + 1) (UInt8.ofNat bn) = c1 + 1 by rw [HE1.out, if_pos ((HQ.out _).2 h1)])
          by_cases h2 : (X[j]'hltX).toNat = bn
          · have k2 : (((X[j]'hltX).toNat : Int) == (bn : Int)) = true := beq_iff_eq.2 (by omega)
            have HE2' := Lib.hid (show cntB xs (j + 1) (UInt8.ofNat bn) = c2 + 1 by rw [HE2.out, if_pos ((HQ.out _).2 h2)])
            clear h1 h2 HE1 HE2
            go_wp2_with fail
            go_roundg (s.size - (j + 1))
            case measure => have := Hk.out; omega
            case rel => exact ⟨j + 1, by omega, rfl, by go_num, by rw [HE1'.out, HE2'.out]; congr 1; omega, rfl⟩
          · have k2 : (((X[j]'hltX).toNat : Int) == (bn : Int)) = false := beq_eq_false_iff_ne.2 (by omega)
            have HE2' := Lib.hid (show cntB xs (j + 1) (UInt8.ofNat bn) = c2 by rw [HE2.out, if_neg (fun h => h2 ((HQ.out _).1 h))]; rfl)
            clear h1 h2 HE1 HE2
            go_wp2_with fail
            go_roundg (s.size - (j + 1))
            case measure => have := Hk.out; omega
            case rel => exact ⟨j + 1, by omega, rfl, by go_num, by rw [HE1'.out, HE2'.out]; congr 1; omega, rfl⟩
        · have k1 : (((s[j]'hlt).toNat : Int) == (bn : Int)) = false := beq_eq_false_iff_ne.2 (by omega)
          have HE1' := Lib.hid (show cntB s.data.toList (j + 1) (UInt8.ofNat bn) = c1 by rw [HE1.out, if_neg (fun h => h1 ((HQ.out _).1 h))]; rfl)
          by_cases h2 : (X[j]'hltX).toNat = bn
          · have k2 : (((X[j]'hltX).toNat : Int) == (bn : Int)) = true := beq_iff_eq.2 (by omega)
            have HE2' := Lib.hid (show cntB xs (j + 1) (UInt8.ofNat bn) = c2 + 1 by rw [HE2.out, if_pos ((HQ.out _).2 h2)])
            clear h1 h2 HE1 HE2
            go_wp2_with fail
            go_roundg (s.size - (j + 1))
            case measure => have := Hk.out; omega
            case rel => exact ⟨j + 1, by omega, rfl, by go_num, by rw [HE1'.out, HE2'.out]; congr 1; omega, rfl⟩
          · have k2 : (((X[j]'hltX).toNat : Int) == (bn : Int)) = false := beq_eq_false_iff_ne.2 (by omega)
            have HE2' := Lib.hid (show cntB xs (j + 1) (UInt8.ofNat bn) = c2 by rw [HE2.out, if_neg (fun h => h2 ((HQ.out _).1 h))]; rfl)
            clear h1 h2 HE1 HE2
            go_wp2_with fail
            go_roundg (s.size - (j + 1))
            case measure => have := Hk.out; omega
            case rel => exact ⟨j + 1, by omega, rfl, by go_num, by rw [HE1'.out, HE2'.out], rfl⟩
      · obtain rfl : j = s.size := by omega
        have hz : (cntB s.data.toList s.size (UInt8.ofNat bn) : Int) - (cntB xs s.size (UInt8.ofNat bn) : Int) = 0 := by
          have h1 : cntB s.data.toList s.size (UInt8.ofNat bn) = s.data.toList.count (UInt8.ofNat bn) := by
            unfold cntB; rw [List.take_of_length_le (by rw [byte_len]; exact Nat.le_refl _)]
          have h2 : cntB xs s.size (UInt8.ofNat bn) = xs.count (UInt8.ofNat bn) := by
            unfold cntB
            have h3 := byte_len X
            rw [HXL.out, HXSZ.out] at h3
            rw [List.take_of_length_le (by omega)]
          rw [h1, h2, HCNT.out]; omega
        rw [hz]
        have hss : ¬ (s.size : Int) < (s.size : Int) := by omega
        clear hz
        go_wp2_with fail
        refine (HRANK.out _).mono ?_
        rintro e w3 ⟨⟨L3, p, hO3, hI, rfl⟩, hk3⟩
        obtain rfl := HO.out.one hO3
        obtain ⟨q, rfl, hq⟩ : ∃ q : Nat, p = (q : Int) ∧ n2 ≤ q := by
          rcases hI with ⟨q, h1, h2, -⟩ | ⟨-, h1⟩
          · exact ⟨q, h1, HFIRST.out q h2⟩
          · exact absurd (HO.out.perm.mem_iff.2 (List.mem_range.2 hr)) h1
        have HK3 := Lib.hid (HK2.out.new hk3 (by simp [Fresh]))
        clear hO3 hI hk3
        have hqi : (n2 : Int) ≤ (q : Int) := by omega
        go_wp2_with fail
        refine (HCMP.out _).mono ?_
        rintro e w4 ⟨rfl, hk4⟩
        have HK4 := Lib.hid (HK3.out.new hk4 (by simp [Fresh]))
        have hc : sgnR (K.fS s.data.toList) s.size 0 r ≠ 0 ∨ n1 = n2 := by
          by_cases h : K.N (K.fS s.data.toList) s.size 0 = K.N (K.fS s.data.toList) s.size r
          · exact .inr (HROW.out h)
          · exact .inl (fun h2 => h ((sgn_zero _ _ _ _).1 h2))
        clear hk4
        generalize sgnR (K.fS s.data.toList) s.size 0 r = c at hc ⊢
        by_cases hc0 : c = 0
        · subst hc0
          obtain rfl : n1 = n2 := by rcases hc with h | h; exact absurd rfl h; exact h
          clear hc
          go_wp2_with ((go_at_call 24; refine (awakeB _).mono ?_; rintro e w' ⟨rfl, hk⟩))
          go_ret
          exact ⟨rfl, HK4.out.new (by assumption) (by simp [Fresh])⟩
        · have hcb : (c != 0) = true := bne_iff_ne.2 hc0
          clear hc hc0
          go_wp2_with ((go_at_call 24; refine (awakeB _).mono ?_; rintro e w' ⟨rfl, hk⟩))
          go_ret
          exact ⟨rfl, HK4.out.new (by assumption) (by simp [Fresh])⟩
end Go.Proofs.Ytaeppgooenbfiaa
