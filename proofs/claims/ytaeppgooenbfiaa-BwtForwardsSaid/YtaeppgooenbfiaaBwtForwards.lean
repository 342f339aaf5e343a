/-
  BwtForwards: the walk of kistref05's Forward, and of the law.
-/
import Derived.Test.YtaeppgooenbfiaaBwtD
import Derived.Test.YtaeppgooenbfiaaRefOrdB
namespace Go.Proofs.Ytaeppgooenbfiaa
open Go.RowKit Go.Sort
set_option linter.unusedVariables false
set_option linter.unusedSimpArgs false

theorem ext_bytes (s : ByteArray) (a b : Nat) : (s.extract a b).data.toList = (s.data.toList.drop a).take (b - a) := by
  simp [ByteArray.extract, ByteArray.copySlice, List.extract_eq_take_drop]
theorem app_bytes (a b : ByteArray) : (a ++ b).data.toList = a.data.toList ++ b.data.toList := by simp
theorem one_byte (s : ByteArray) (i : Nat) (h : i < s.size) : (s.extract i (i + 1)).data.toList = [s[i]'h] := by
  have hl := byte_len s
  rw [ext_bytes, Nat.add_sub_cancel_left, List.drop_eq_getElem_cons (by omega)]
  have := byte_get s i h
  rw [List.getD, List.getElem?_eq_getElem (by omega)] at this
  simp only [Option.getD_some] at this
  rw [this]; rfl

set_option maxRecDepth 100000 in
set_option maxHeartbeats 4000000 in
theorem rforward_in (s : ByteArray) (w : World) (h0 : 0 < s.size) (hs : s.size ≤ 262144) : Calls Try.prog 26 #[.string s] w (FwdOk s w) := by
  have hord := rorder_ok s w (by omega)
  have HORD := Lib.hid hord
  have hbl := byte_len s
  have g0 : s.toList.isEmpty = false := by
    rw [ByteArray.toList_eq]
    cases h : s.data.toList with
    | nil => rw [h] at hbl; simp at hbl; omega
    | cons a b => rfl
  have g1 : decide (262144 < (s.size : Int)) = false := by simp; omega
  have hz : ¬ (s.size : Int) = 0 := by omega
  clear hord hbl
  go_enter Try.func26, Try.ntmps26
  go_wp2_with fail
  refine HORD.out.mono ?_
  rintro e w2 ⟨L, u, hO, rfl, hL, hk2⟩
  obtain ⟨a, c, rfl, hsee, -⟩ := hL
  have hlen := hO.len
  have HO := Lib.hid hO
  have HS := Lib.hid hsee
  have HK := Lib.hid hk2
  rw [hlen] at HS ⊢
  have HLEN := Lib.hid hlen
  obtain ⟨f, hf⟩ : ∃ f, K.fS s.data.toList = f := ⟨_, rfl⟩
  have HF := Lib.hid hf
  clear hO hsee hk2 hlen HORD hf
  go_wp2_with fail
  go_loopg [5, 6, 8] s.size (fun k v u c wr => ∃ (i : Nat) (A : ByteArray), i ≤ s.size ∧ k = s.size - i ∧ c = .int .i64 (i : Nat) ∧ u = .int .i64 (rowA L i : Nat) ∧ v = .string A ∧ Hid (A.data.toList = toB (K.lastC s.size f (L.take i))) ∧ w2 = wr)
  case atStart => exact ⟨0, _, by omega, by omega, rfl, by rw [rowA_zero]; rfl, rfl, Lib.hid (by simp [K.lastC, toB]), rfl⟩
  case round =>
    obtain ⟨i, A, hi, hk, rfl, rfl, rfl, HA, rfl⟩ := hrel
    have Hk := Lib.hid hk
    clear hk
    by_cases hlt : i < s.size
    · have hli : (i : Int) < (s.size : Int) := by omega
      obtain ⟨x, hx⟩ : ∃ x, L[i]? = some x := ⟨_, List.getElem?_eq_getElem (by rw [HLEN.out]; exact hlt)⟩
      have hxl : x < s.size := HO.out.lt x (List.mem_of_getElem? hx)
      obtain ⟨b0, off, rfl, -⟩ := HS.out.at (by rw [natVals_length, HLEN.out]; omega)
      have c0 := HS.out.natC hx
      obtain ⟨t, ht⟩ : ∃ t, (x + s.size - 1) % s.size = t := ⟨_, rfl⟩
      have htl : t < s.size := by rw [← ht]; exact Nat.mod_lt _ h0
      have hfx : f (x + s.size - 1) = (s[t]'htl).toNat := by rw [← HF.out]; exact fS_at s _ t h0 htl ht
      have hsz : A.size ≤ 262144 := by
        have h1 := byte_len A
        rw [HA.out, toB, List.length_map, K.lastC, List.length_map, List.length_take] at h1
        omega
      have hst := lastC_step s.size f L i x hx
      rw [hfx] at hst
      have hA2 : (A ++ s.extract t (t + 1)).data.toList = toB (K.lastC s.size f (L.take (i + 1))) := by
        rw [app_bytes, one_byte s t htl, HA.out, hst, toB_snoc, UInt8.ofNat_toNat]
      have HA2 := Lib.hid hA2
      have hadd : ∀ W : World, (Op.stringOp .add A (s.extract t (t + 1))).run Try.prog W = .ok (.string (A ++ s.extract t (t + 1))) W := fun W =>
        run_string_add_sum _ _ _ (by rw [ByteArray.size_extract]; omega)
      have hti : (t : Int) < (s.size : Int) := by omega
      have hti1 : (t : Int) + 1 ≤ (s.size : Int) := by omega
      have hrem0 : ((x : Int) + (s.size : Int) - 1).tmod (s.size : Int) = (t : Int) := by
        rw [Int.tmod_eq_emod_of_nonneg (by omega), ← ht, show (x : Int) + (s.size : Int) - 1 = ((x + s.size - 1 : Nat) : Int) by omega]; norm_cast
      have hrem1 : ((x : Int) + (s.size : Int) - 1) % (s.size : Int) = (t : Int) := by
        rw [← ht, show (x : Int) + (s.size : Int) - 1 = ((x + s.size - 1 : Nat) : Int) by omega]; norm_cast
      have htn : ((t : Int) + 1).toNat = t + 1 := by omega
      by_cases hx0 : x = 0
      · subst hx0
        have HRA := Lib.hid (rowA_yes L i hx HO.out.nodup)
        have hm1 : (-1 : Int) % (s.size : Int) = (t : Int) := by
          rw [Int.emod_eq_add_self_emod, ← hrem1]
          congr 1; omega
        clear hx ht hfx hst hA2
        go_wp2_with fail
        go_roundg (s.size - (i + 1))
        case measure => have := Hk.out; omega
        case rel => exact ⟨i + 1, _, by omega, rfl, by go_num, by rw [HRA.out], rfl, HA2, rfl⟩
      · have hxb : ((x : Int) == 0) = false := beq_eq_false_iff_ne.2 (by omega)
        have HRA := Lib.hid (rowA_no L i x hx hx0)
        clear hx ht hfx hst hA2 hx0
        go_wp2_with fail
        go_roundg (s.size - (i + 1))
        case measure => have := Hk.out; omega
        case rel => exact ⟨i + 1, _, by omega, rfl, by go_num, by rw [HRA.out], rfl, HA2, rfl⟩
    · obtain rfl : i = s.size := by omega
      have hll : ¬ (s.size : Int) < (s.size : Int) := by omega
      have hm : 0 ∈ L := HO.out.perm.mem_iff.2 (List.mem_range.2 h0)
      have HRA := Lib.hid (rowA_all L s.size hm (by rw [HLEN.out]; exact Nat.le_refl _))
      have hAe : A = ByteArray.mk (toB (K.lastC s.size (K.fS s.data.toList) L)).toArray := by
        have h1 := HA.out
        rw [List.take_of_length_le (by rw [HLEN.out]; exact Nat.le_refl _), ← HF.out] at h1
        rw [← h1]
      have HAE := Lib.hid hAe
      have HO2 := Lib.hid (show K.Ordered s.size (K.fS s.data.toList) s.size L by rw [HF.out]; rw [HF.out] at HO; exact HO.out)
      clear hm hAe
      go_wp2_with fail
      go_ret3
      exact ⟨L, HO2.out, by rw [HAE.out, HRA.out]; rfl, HK.out⟩

set_option maxRecDepth 100000 in
theorem bwtForwards_walk (s : ByteArray) (w : World) (hs : s.size ≤ 140737488351232) :
    Calls Try.prog 9 #[.string s] w fun e w' => e = .returned (.bool true) ∧ Kept [] w w' := by
  have hbl := byte_len s
  by_cases hbig : 262144 < s.size
  · have g0 : s.toList.isEmpty = false := by
      rw [ByteArray.toList_eq]
      cases h : s.data.toList with
      | nil => rw [h] at hbl; simp at hbl; omega
      | cons a b => rfl
    have g1 : decide (262144 < (s.size : Int)) = true := by simp; omega
    have g2 : decide (150 < (s.size : Int)) = true := by simp; omega
    have g3 : decide ((s.size : Int) ≤ 262144) = false := by simp; omega
    have hf : ∀ w, Calls Try.prog 25 #[.string s] w (FwdPost [] 0 3 w) := fun w => by
      clear g2 g3 hbl hbig
      go_enter Try.func25, Try.ntmps25
      go_wp2_with fail
      go_ret3
      exact ⟨rfl, Kept.refl _ _⟩
    have hrf : ∀ w, Calls Try.prog 26 #[.string s] w (FwdPost [] 0 3 w) := fun w => by
      clear g2 g3 hbl hbig
      go_enter Try.func26, Try.ntmps26
      go_wp2_with fail
      go_ret3
      exact ⟨rfl, Kept.refl _ _⟩
    have HFW := Lib.hid hf
    have HRF := Lib.hid hrf
    clear hf hrf hbl hbig g1
    go_enter Try.func9, Try.ntmps9
    go_wp2_with fail
    refine (HFW.out _).mono ?_
    rintro e w1 ⟨rfl, hk1⟩
    have HK1 := Lib.hid hk1
    clear hk1
    go_wp2_with fail
    refine (HRF.out _).mono ?_
    rintro e w2 ⟨rfl, hk2⟩
    have HK2 := Lib.hid (HK1.out.new hk2 (by simp [Fresh]))
    clear hk2
    go_wp2_with ((go_at_call 24; refine (awakeB _).mono ?_; rintro e w' ⟨rfl, hk⟩))
    go_ret
    exact ⟨rfl, HK2.out.new (by assumption) (by simp [Fresh])⟩
  · by_cases h150 : 150 < s.size
    · have g2 : decide (150 < (s.size : Int)) = true := by simp; omega
      have g3 : decide ((s.size : Int) ≤ 262144) = true := by simp; omega
      clear hbl hbig
      go_enter Try.func9, Try.ntmps9
      go_wp2_with ((go_at_call 24; refine (awakeB _).mono ?_; rintro e w' ⟨rfl, hk⟩))
      go_ret
      exact ⟨rfl, by assumption⟩
    · have g2 : decide (150 < (s.size : Int)) = false := by simp; omega
      by_cases hz : s.size = 0
      · have g0 : s.toList = [] := by rw [ByteArray.toList_eq]; exact List.eq_nil_of_length_eq_zero (by omega)
        have g1 : s.toList.isEmpty = true := by rw [g0]; rfl
        have hf : ∀ w, Calls Try.prog 25 #[.string s] w (FwdPost [] 0 2 w) := fun w => by
          clear g2 hbl hbig h150 hz
          go_enter Try.func25, Try.ntmps25
          go_wp2_with fail
          go_ret3
          exact ⟨rfl, Kept.refl _ _⟩
        have hrf : ∀ w, Calls Try.prog 26 #[.string s] w (FwdPost [] 0 2 w) := fun w => by
          clear g2 hbl hbig h150 hz
          go_enter Try.func26, Try.ntmps26
          go_wp2_with fail
          go_ret3
          exact ⟨rfl, Kept.refl _ _⟩
        have HFW := Lib.hid hf
        have HRF := Lib.hid hrf
        clear hf hrf hbl hbig g0 g1 hz h150
        go_enter Try.func9, Try.ntmps9
        go_wp2_with fail
        refine (HFW.out _).mono ?_
        rintro e w1 ⟨rfl, hk1⟩
        have HK1 := Lib.hid hk1
        clear hk1
        go_wp2_with fail
        refine (HRF.out _).mono ?_
        rintro e w2 ⟨rfl, hk2⟩
        have HK2 := Lib.hid (HK1.out.new hk2 (by simp [Fresh]))
        clear hk2
        go_wp2_with ((go_at_call 24; refine (awakeB _).mono ?_; rintro e w' ⟨rfl, hk⟩))
        go_ret
        exact ⟨rfl, HK2.out.new (by assumption) (by simp [Fresh])⟩
      · have hf := fun w => forward_in s w (by omega) (by omega) (sort_any s.size (by omega))
        have hrf := fun w => rforward_in s w (by omega) (by omega)
        have HFW := Lib.hid hf
        have HRF := Lib.hid hrf
        clear hf hrf hbl hbig hz h150
        go_enter Try.func9, Try.ntmps9
        go_wp2_with fail
        refine (HFW.out _).mono ?_
        rintro e w1 ⟨L, hO, rfl, hk1⟩
        have HK1 := Lib.hid hk1
        have HO := Lib.hid hO
        obtain ⟨bs, hbs⟩ : ∃ bs, toB (K.lastC s.size (K.fS s.data.toList) L) = bs := ⟨_, rfl⟩
        obtain ⟨r, hr⟩ : ∃ r, L.idxOf 0 = r := ⟨_, rfl⟩
        have HBS := Lib.hid hbs
        have HR := Lib.hid hr
        rw [hbs, hr]
        clear hk1 hO hbs hr
        go_wp2_with fail
        refine (HRF.out _).mono ?_
        rintro e w2 ⟨L2, hO2, rfl, hk2⟩
        obtain rfl := HO.out.one hO2
        rw [HBS.out, HR.out]
        have HK2 := Lib.hid (HK1.out.new hk2 (by simp [Fresh]))
        clear hk2 hO2
        go_wp2_with ((go_at_call 24; refine (awakeB _).mono ?_; rintro e w' ⟨rfl, hk⟩))
        go_ret
        exact ⟨rfl, HK2.out.new (by assumption) (by simp [Fresh])⟩
end Go.Proofs.Ytaeppgooenbfiaa
