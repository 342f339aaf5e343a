/-
  PrefixBack: the walk.
-/
import Derived.Test.YtodjfgdolegfpaaAwakeP
namespace Go.Proofs.Ytodjfgdolegfpaa
open Go.RowKit
set_option linter.unusedVariables false
set_option linter.unusedSimpArgs false

theorem encP_back (ls : List Nat) : ∀ (list : List Int) (B : List Bool), K.encP ls list = some B → (list.map Int.toNat).map (fun n : Nat => (n : Int)) = list := by
  intro list
  induction list with
  | nil => intro B _; rfl
  | cons s r ih =>
    intro B hB
    by_cases hs : s < 0 ∨ (ls.length : Int) ≤ s
    · rw [K.encP_none _ _ _ hs] at hB; cases hB
    · rw [K.encP_cons _ _ _ hs] at hB
      cases he : K.encP ls r with
      | none => rw [he] at hB; cases hB
      | some R =>
        have := ih R he
        simp only [List.map_cons, this]
        rw [Int.toNat_of_nonneg (by omega)]

theorem encP_len (ls : List Nat) (h20 : ∀ x ∈ ls, x ≤ 20) : ∀ (list : List Int) (B : List Bool), K.encP ls list = some B → B.length ≤ 20 * list.length := by
  intro list
  induction list with
  | nil => intro B h; have : B = [] := by simpa [K.encP] using h.symm
           subst this; simp
  | cons s r ih =>
    intro B hB
    by_cases hs : s < 0 ∨ (ls.length : Int) ≤ s
    · rw [K.encP_none _ _ _ hs] at hB; cases hB
    · rw [K.encP_cons _ _ _ hs] at hB
      cases he : K.encP ls r with
      | none => rw [he] at hB; cases hB
      | some R =>
        rw [he] at hB
        have hB : K.symP ls s.toNat ++ R = B := by simpa using hB
        subst hB
        have := ih R he
        have hi : s.toNat < ls.length := by omega
        have hx : ls.getD s.toNat 0 ≤ 20 := by rw [List.getD, List.getElem?_eq_getElem hi]; exact h20 _ (List.getElem_mem hi)
        rw [List.length_append, K.symP_length, List.length_cons]
        omega

set_option maxRecDepth 100000 in
set_option maxHeartbeats 1000000 in
theorem prefixBack_walk (a : Option Addr) (len cap : Nat) (xs : List Int) (a2 : Option Addr) (len2 cap2 : Nat) (ys : List Int) (t : ByteArray) (w : World)
    (h : Sees w 1 a len (xs.map (Value.int .i64)) ∧ xs.length = len ∧ len ≤ cap ∧ cap ≤ maxLen ∧ len ≤ 17592186043904 ∧ ∀ x ∈ xs, -9223372036854775808 ≤ x ∧ x ≤ 9223372036854775807)
    (h2 : Sees w 1 a2 len2 (ys.map (Value.int .i64)) ∧ ys.length = len2 ∧ len2 ≤ cap2 ∧ cap2 ≤ maxLen ∧ len2 ≤ 17592186043904 ∧ ∀ x ∈ ys, -9223372036854775808 ≤ x ∧ x ≤ 9223372036854775807)
    (ht : t.size ≤ 140737488351232) :
    Calls Try.prog 8 #[.slice a len cap, .slice a2 len2 cap2, .string t] w fun e w' => e = .returned (.bool true) ∧ Kept [] w w' := by
  obtain ⟨hsee, rfl, -, -, hlen, -⟩ := h
  obtain ⟨hsee2, rfl, -, -, -, -⟩ := h2
  have hsee : Sees w 1 a xs.length (intVals xs) := hsee
  have hsee2 : Sees w 1 a2 ys.length (intVals ys) := hsee2
  have HS := Lib.hid hsee
  have HS2 := Lib.hid hsee2
  clear hsee hsee2
  by_cases h : 2000 < ys.length
  · have g1 : decide (2000 < (ys.length : Int)) = true := by simp; omega
    go_enter Try.func8, Try.ntmps8
    go_wp2_with ((go_at_call 13; refine (awakeP _).mono ?_; rintro e w' ⟨rfl, hk⟩))
    go_ret
    exact ⟨rfl, by assumption⟩
  have g1 : decide (2000 < (ys.length : Int)) = false := by simp; omega
  by_cases h2 : 2000 < t.size
  · have g2 : decide (2000 < (t.size : Int)) = true := by simp; omega
    go_enter Try.func8, Try.ntmps8
    go_wp2_with ((go_at_call 13; refine (awakeP _).mono ?_; rintro e w' ⟨rfl, hk⟩))
    go_ret
    exact ⟨rfl, by assumption⟩
  have g2 : decide (2000 < (t.size : Int)) = false := by simp; omega
  by_cases herr : K.encR xs ys = ([], 0, 80) ∨ K.encR xs ys = ([], 0, 60)
  · obtain ⟨er, her, he0⟩ : ∃ er : Nat, K.encR xs ys = ([], 0, er) ∧ (er = 80 ∨ er = 60) := by
      rcases herr with h | h
      · exact ⟨80, h, .inl rfl⟩
      · exact ⟨60, h, .inr rfl⟩
    have HE := Lib.hid her
    have g3 : ((er : Int) == 0) = false := by rcases he0 with rfl | rfl <;> rfl
    have g4 : ((er : Int) != 0) = true := by rcases he0 with rfl | rfl <;> rfl
    clear herr her he0
    go_enter Try.func8, Try.ntmps8
    go_wp2_with fail
    refine (pencode_any a a2 cap cap2 xs ys _ HS.out (by omega) HS2.out (by omega)).mono ?_
    rintro e w1 ⟨rfl, hk1⟩
    rw [HE.out]
    unfold bitsV
    have HK1 := Lib.hid hk1
    clear hk1
    have hX := heap_alloc_new w1 (.cells #[.string ⟨([] : List UInt8).toArray⟩, .int .i64 0] 32)
    have c0 : (w1.alloc (.cells #[.string ⟨([] : List UInt8).toArray⟩, .int .i64 0] 32)).cell? ⟨w1.heap.size, 0, none⟩ = _ := cell_of_row _ w1.heap.size 0 _ _ _ hX
    have c1 : (w1.alloc (.cells #[.string ⟨([] : List UInt8).toArray⟩, .int .i64 0] 32)).cell? ⟨w1.heap.size, 1, none⟩ = _ := cell_of_row _ w1.heap.size 1 _ _ _ hX
    simp only [List.getElem?_toArray, List.getElem?_cons_zero, List.getElem?_cons_succ] at c0 c1
    have heq := fun W => eqBits_same ⟨([] : List UInt8).toArray⟩ 0 W
    clear hX
    go_wp2_with ((go_at_call 13; refine (awakeP _).mono ?_; rintro e w' ⟨rfl, hk⟩))
    go_ret
    exact ⟨rfl, (HK1.out.alloc _).new (by assumption) (by simp [Fresh])⟩
  · have hgood : K.goodL xs = true := by
      rcases Bool.eq_false_or_eq_true (K.goodL xs) with h | h
      · exact h
      · exact absurd (.inl (K.encR_bad xs ys h)) herr
    obtain ⟨B, hB⟩ : ∃ B, K.encP (K.natsOf xs) ys = some B := by
      cases hn : K.encP (K.natsOf xs) ys with
      | none => exact absurd (.inr (K.encR_none xs ys hgood hn)) herr
      | some B => exact ⟨B, rfl⟩
    have hE := K.encR_some xs ys B hgood hB
    have hback := K.allR_back xs ys B t.data.toList hgood hB
    have hys := encP_back _ ys B hB
    have hBl := encP_len _ (fun x hx => (K.goodL_in hgood x hx).2) ys B hB
    rw [byte_len] at hback
    have hpl := K.pack_length B
    have HE := Lib.hid hE
    have HBACK := Lib.hid hback
    have HYS := Lib.hid hys
    clear herr hgood hB hE hback hys
    go_enter Try.func8, Try.ntmps8
    go_wp2_with fail
    refine (pencode_any a a2 cap cap2 xs ys _ HS.out (by omega) HS2.out (by omega)).mono ?_
    rintro e w1 ⟨rfl, hk1⟩
    rw [HE.out]
    unfold bitsV
    have HK1 := Lib.hid hk1
    clear hk1
    generalize K.pack B = P at hpl HBACK ⊢
    generalize B.length = N at *
    have hX := heap_alloc_new w1 (.cells #[.string ⟨P.toArray⟩, .int .i64 (N : Int)] 32)
    have c0 : (w1.alloc (.cells #[.string ⟨P.toArray⟩, .int .i64 (N : Int)] 32)).cell? ⟨w1.heap.size, 0, none⟩ = _ := cell_of_row _ w1.heap.size 0 _ _ _ hX
    have c1 : (w1.alloc (.cells #[.string ⟨P.toArray⟩, .int .i64 (N : Int)] 32)).cell? ⟨w1.heap.size, 1, none⟩ = _ := cell_of_row _ w1.heap.size 1 _ _ _ hX
    simp only [List.getElem?_toArray, List.getElem?_cons_zero, List.getElem?_cons_succ] at c0 c1
    have HX := Lib.hid hX
    have HS3 := Lib.hid (HS.out.kept0 (HK1.out.alloc (.cells #[.string ⟨P.toArray⟩, .int .i64 (N : Int)] 32)))
    have hPs : (ByteArray.mk P.toArray).size ≤ 6000 := by rw [← byte_len]; show P.toArray.toList.length ≤ 6000; rw [List.toList_toArray]; omega
    clear hX
    go_wp2_with fail
    have hSl : (t ++ (⟨P.toArray⟩ : ByteArray)).data.toList = t.data.toList ++ P := by simp
    have hSz : (t ++ (⟨P.toArray⟩ : ByteArray)).size ≤ 10000 := by rw [show (t ++ (⟨P.toArray⟩ : ByteArray)).size = t.size + (ByteArray.mk P.toArray).size by simp]; omega
    generalize t ++ (⟨P.toArray⟩ : ByteArray) = S at hSl hSz ⊢
    refine (all_any a cap xs S _ _ _ _ HS3.out (by omega) (by omega)).mono ?_
    rintro e w2 hp
    rw [hSl] at hp
    have hbk := HBACK.out
    rw [show ((8 * t.size : Nat) : Int) = 8 * (t.size : Int) by omega] at hbk
    rw [hbk] at hp
    obtain ⟨a3, c3, rfl, hrow, hk2, -⟩ := hp
    have hh := hk2.heap HX.out (by simp)
    have d0 : w2.cell? ⟨w1.heap.size, 0, none⟩ = _ := cell_of_row w2 w1.heap.size 0 _ _ _ hh
    have d1 : w2.cell? ⟨w1.heap.size, 1, none⟩ = _ := cell_of_row w2 w1.heap.size 1 _ _ _ hh
    simp only [List.getElem?_toArray, List.getElem?_cons_zero, List.getElem?_cons_succ] at d0 d1
    have HK2 := Lib.hid ((HK1.out.alloc _).new hk2 (by simp [Fresh]))
    have hR : Sees w2 1 a3 ys.length (intVals ys) := by
      have := hrow.seeA
      rw [natVals_int] at this
      rw [show (ys.map Int.toNat).map (fun n : Nat => (n : Int)) = ys from HYS.out] at this
      simpa using this
    have hrl : (ys.map Int.toNat).length = ys.length := by simp
    have HR := Lib.hid hR
    clear hSl hSz hbk hk2 hh hR hrow
    simp only [hrl]
    go_wp2_with fail
    refine (ints_ok a3 a2 c3 cap2 ys ys _ HR.out (HS2.out.kept0 HK2.out) (by omega)).mono ?_
    rintro e w3 ⟨rfl, hk3⟩
    have d2 := hk3.cellOf d1 (by simp)
    have HK3 := Lib.hid (HK2.out.new hk3 (by simp [Fresh]))
    clear hk3
    simp only [decide_true]
    go_wp2_with ((go_at_call 13; refine (awakeP _).mono ?_; rintro e w' ⟨rfl, hk⟩))
    go_ret
    exact ⟨rfl, HK3.out.new (by assumption) (by simp [Fresh])⟩
end Go.Proofs.Ytodjfgdolegfpaa
