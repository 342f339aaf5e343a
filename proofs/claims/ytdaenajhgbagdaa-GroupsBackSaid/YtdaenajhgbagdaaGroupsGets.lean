/-
  GroupsGets: the walk.
-/
import Derived.Test.YtdaenajhgbagdaaAwakeG
import Derived.Test.YtdaenajhgbagdaaRefG4
namespace Go.Proofs.Ytdaenajhgbagdaa
open Go.RowKit
set_option linter.unusedVariables false
set_option linter.unusedSimpArgs false

theorem getGo_len (T : List (List Int)) (bs : List Bool) (en : Int) : ∀ (P : List Int) (out : List Nat) (p : Nat), p ≤ bs.length → (K.getGo T bs en P out p).1.length ≤ out.length + 50 * P.length
  | [], out, p, hp => by simp [K.getGo]
  | k :: r, out, p, hp => by
    rw [K.getGo]
    have h1 := K.allR_len (T.getD k.toNat []) bs p en
    have h2 := K.allR_to (T.getD k.toNat []) bs p en
    by_cases h0 : (K.allR (T.getD k.toNat []) bs (p : Int) 50 en).2.2 = 0
    · rw [if_neg (fun h => h h0)]
      have h3 := h1 h0
      by_cases h4 : (((K.allR (T.getD k.toNat []) bs (p : Int) 50 en).1.getD ((K.allR (T.getD k.toNat []) bs (p : Int) 50 en).1.length - 1) 0 : Nat) : Int) = en
      · rw [if_pos h4]
        simp only [List.length_append, List.length_cons]
        omega
      · rw [if_neg h4]
        have h5 := getGo_len T bs en r (out ++ (K.allR (T.getD k.toNat []) bs (p : Int) 50 en).1) _ (h2 h0)
        rw [List.length_append] at h5
        simp only [List.length_cons]
        omega
    · rw [if_pos h0]
      simp
theorem getR_len (T : List (List Int)) (P : List Int) (bs : List Bool) (at_ : Int) : (K.getR T P bs at_).1.length ≤ 1638350 := by
  unfold K.getR
  split
  · rename_i h
    obtain ⟨-, h2, -, -⟩ := K.mayPlan_get h
    split
    · simp
    · have := getGo_len T bs ((((T.getD 0 []).length : Nat) : Int) - 1) P [] at_.toNat (by omega)
      simp only [List.length_nil] at this
      omega
  · simp
theorem gget_any (aT aP : Option Addr) (cT cP : Nat) (T : List (List Int)) (P : List Int) (s : ByteArray) (at_ : Int) (w : World) (h : PlanAt w aT aP cT cP T P) (hs : s.size ≤ 140737488351232) :
    Calls Try.prog 18 #[planV aT T.length cT aP P.length cP, .string s, .int .i64 at_] w (NatsAtPost (K.getR T P (K.bitsOf s.data.toList) at_) w) := by
  rcases Bool.eq_false_or_eq_true (K.mayPlan T P) with hm | hm
  · exact gget_good aT aP cT cP T P s at_ w h hm hs
  · exact gget_bad aT aP cT cP T P s at_ w h hm
set_option maxHeartbeats 1000000 in
theorem groupsGets_walk (aT aP : Option Addr) (cT cP : Nat) (T : List (List Int)) (P : List Int) (s : ByteArray) (at_ : Int) (w : World) (h : PlanAt w aT aP cT cP T P) (hs : s.size ≤ 140737488351232) (hat : -9223372036854775808 ≤ at_ ∧ at_ ≤ 9223372036854775807) :
    Calls Try.prog 5 #[planV aT T.length cT aP P.length cP, .string s, .int .i64 at_] w fun e w' => e = .returned (.bool true) ∧ Kept [] w w' := by
  clear hat
  have hk : Kept [] w (w.alloc (.cells #[.slice aT T.length cT, .slice aP P.length cP] 32)) := (Kept.refl [] w).alloc _
  have p1 := h.kept hk
  have hA := Arr.new w [.slice aT T.length cT, .slice aP P.length cP] 32
  have HL := Lib.hid (light_any aT aP cT cP T P _ p1)
  unfold planV at HL ⊢
  have b0 := hA.cell (i := 0) (u := .slice aT T.length cT) rfl
  have b1 := hA.cell (i := 1) (u := .slice aP P.length cP) rfl
  have HK := Lib.hid hk
  have HA := Lib.hid hA
  have HP := Lib.hid p1
  clear hk hA p1 h
  cases hlight : lightP T P with
  | false =>
    rw [hlight] at HL
    go_enter Try.func5, Try.ntmps5
    go_wp2_with fail
    refine HL.out.mono ?_
    rintro e w2 ⟨rfl, hk2⟩
    have HK2 := Lib.hid (HK.out.trans hk2 (by simp))
    clear hk2
    go_wp2_with ((go_at_call 14; refine (awakeG _).mono ?_; rintro e w' ⟨rfl, hk⟩))
    go_ret
    exact ⟨rfl, HK2.out.trans hk (by simp)⟩
  | true =>
    rw [hlight] at HL
    clear hlight
    by_cases hbig : 1000 < s.size
    · have g1 : decide (1000 < (s.size : Int)) = true := by simp; omega
      go_enter Try.func5, Try.ntmps5
      go_wp2_with fail
      refine HL.out.mono ?_
      rintro e w2 ⟨rfl, hk2⟩
      have HK2 := Lib.hid (HK.out.trans hk2 (by simp))
      clear hk2
      go_wp2_with ((go_at_call 14; refine (awakeG _).mono ?_; rintro e w' ⟨rfl, hk⟩))
      go_ret
      exact ⟨rfl, HK2.out.trans hk (by simp)⟩
    · have g1 : decide (1000 < (s.size : Int)) = false := by simp; omega
      have hsz : s.size ≤ 1000 := by omega
      go_enter Try.func5, Try.ntmps5
      go_wp2_with fail
      refine HL.out.mono ?_
      rintro e w2 ⟨rfl, hk2⟩
      have HK2 := Lib.hid (HK.out.trans hk2 (by simp))
      have HA2 := Lib.hid (HA.out.kept hk2 (by simp))
      have HP2 := Lib.hid (HP.out.kept hk2)
      have c0 := HA2.out.cell (i := 0) (u := .slice aT T.length cT) rfl
      have c1 := HA2.out.cell (i := 1) (u := .slice aP P.length cP) rfl
      have G := gget_any aT aP cT cP T P s at_ w2 HP2.out (by omega)
      have hlen := getR_len T P (K.bitsOf s.data.toList) at_
      obtain ⟨⟨O, N, E⟩, hR⟩ : ∃ R, K.getR T P (K.bitsOf s.data.toList) at_ = R := ⟨_, rfl⟩
      rw [hR] at G hlen
      unfold planV at G
      have hlen : O.length ≤ 1638350 := hlen
      have HM := Lib.hid (fun (W : World) (b : Option Addr) (c : Nat) (h1 : PlanAt W aT aP cT cP T P) (h2 : Sees W 1 b (8 * s.data.toList.length) (bis (K.bitsOf s.data.toList))) (h3 : 8 * s.data.toList.length ≤ c) =>
        show Calls Try.prog 19 #[.agg #[.slice aT T.length cT, .slice aP P.length cP], .slice b (8 * s.data.toList.length) c, .int .i64 at_] W (NatsAtPost (O, N, E) W) by
          rw [← hR]
          exact rgetG_any aT aP cT cP T P b c _ _ at_ W h1 h2 (by rw [bitsOf_len, byte_len]) (by rw [byte_len]; omega) h3)
      clear hk2 b0 b1 HL HK HA HP hR hbig
      go_wp2_with fail
      refine G.mono ?_
      rintro e w3 ⟨a3, c3, rfl, hrow3, hk3, -⟩
      have HR3 := Lib.hid (show Row w3 3 (.slice a3 O.length c3) (natVals O) from hrow3)
      have HK3 := Lib.hid (HK2.out.trans hk3 (by simp))
      have HP3 := Lib.hid (HP2.out.kept hk3)
      have d0 := (HA2.out.kept hk3 (by simp)).cell (i := 0) (u := .slice aT T.length cT) rfl
      have d1 := (HA2.out.kept hk3 (by simp)).cell (i := 1) (u := .slice aP P.length cP) rfl
      clear hk3 hrow3 G c0 c1
      go_wp2_with fail
      go_region_held3 (fun w' => Kept [] w3 w' ∧ w'.cell? ⟨w.heap.size, 0, none⟩ = some (.slice aT T.length cT) ∧ w'.cell? ⟨w.heap.size, 1, none⟩ = some (.slice aP P.length cP))
        (first | exact ⟨(Kept.refl _ _).drew, d0, d1⟩ | exact ⟨hk5, hk5.cellOf d0 (by simp), hk5.cellOf d1 (by simp)⟩ | exact ⟨hk4, hk4.cellOf d0 (by simp), hk4.cellOf d1 (by simp)⟩)
        (first
          | (go_at_call 20; refine (refOf_ok s _ (by omega)).mono ?_; rintro e w4 ⟨b, c, rfl, hrow, hk4, -, hc, hcm⟩; have hk4 : Kept [] w3 w4 := (Kept.refl [] w3).drew.trans hk4 (by simp))
          | (go_at_call 19; refine (HM.out w4 b c (HP3.out.kept hk4) hrow.seeA hc).mono ?_; rintro e w5 ⟨a5, c5, rfl, hrow5, hk5, -⟩; have hk5 : Kept [] w3 w5 := hk4.trans hk5 (by simp)))
      rename_i hS
      clear hS
      have HR5 := Lib.hid (show Row w5 3 (.slice a5 O.length c5) (natVals O) from hrow5)
      have HR35 := Lib.hid (HR3.out.kept hk5 (by simp))
      have HK5 := Lib.hid (HK3.out.trans hk5 (by simp))
      clear hk5 hk4 hrow hc hcm hrow5 HM d0 d1
      go_wp2_with fail
      have hI := HR35.out.seeA
      have hJ := HR5.out.seeA
      rw [natVals_int] at hI hJ
      have hl : (O.map fun n : Nat => (n : Int)).length = O.length := by simp
      rw [← hl] at hI hJ
      have hcall := ints_ok a3 a5 c3 c5 _ _ _ hI hJ (by rw [hl]; omega)
      rw [hl] at hcall
      refine hcall.mono ?_
      rintro e w6 ⟨rfl, hk6⟩
      have HK6 := Lib.hid (HK5.out.trans hk6 (by simp))
      clear hk6 hI hJ hl hcall
      simp only [decide_true]
      go_wp2_with ((go_at_call 14; refine (awakeG _).mono ?_; rintro e w' ⟨rfl, hk⟩))
      go_ret
      exact ⟨rfl, HK6.out.trans hk (by simp)⟩
end Go.Proofs.Ytdaenajhgbagdaa
