/-
  The walks of lengths' sum and Check, and of the reference's.
-/
import Derived.Test.YtodjfgdolegfpaaPlainA
import Derived.Test.YtodjfgdolegfpaaInts
import Derived.Test.YtodjfgdolegfpaaLibD
namespace Go.Proofs.Ytodjfgdolegfpaa
open Go.RowKit
set_option linter.unusedVariables false
set_option linter.unusedSimpArgs false

theorem room_pos (ls : List Nat) (h : 0 < ls.length) : 0 < K.room ls := by
  cases ls with
  | nil => simp at h
  | cons x ls =>
    have e : K.room (x :: ls) = 2 ^ (20 - x) + K.room ls := by simp [K.room]
    have := Nat.two_pow_pos (20 - x)
    rw [e]; omega
/-- What sum tells. -/
def sumR (xs : List Int) : Nat := if K.lensOk xs then K.room (K.natsOf xs) else 0
/-- In the loops: i lengths take so much room. -/
def SumI (w0 : World) (xs : List Int) (k : Nat) (n c : Value) (w : World) : Prop :=
  ∃ i, i ≤ xs.length ∧ k = xs.length - i ∧ c = .int .i64 (i : Nat) ∧ n = .int .i64 (K.room (K.natsOf (xs.take i)) : Nat) ∧ ((xs.take i).all fun x => decide (1 ≤ x ∧ x ≤ 20)) = true ∧ w0 = w
theorem natsOf_snoc (xs : List Int) (x : Int) : K.natsOf (xs ++ [x]) = K.natsOf xs ++ [x.toNat] := by simp [K.natsOf]
theorem pow20 (m : Nat) : 2 ^ (20 - m) ≤ 1048576 := by
  have : (2 : Nat) ^ (20 - m) ≤ 2 ^ 20 := Nat.pow_le_pow_right (by decide) (by omega)
  exact this
theorem pow19 (m : Nat) (h : 1 ≤ m) : 2 ^ (20 - m) ≤ 524288 := by
  have : (2 : Nat) ^ (20 - m) ≤ 2 ^ 19 := Nat.pow_le_pow_right (by decide) (by omega)
  exact this
theorem room_le2 (ls : List Nat) (h : ∀ x ∈ ls, 1 ≤ x) : K.room ls ≤ ls.length * 524288 := by
  induction ls with
  | nil => simp [K.room]
  | cons x ls ih =>
    have ih := ih (fun y hy => h y (by simp [hy]))
    have := pow19 x (h x (by simp))
    have e : K.room (x :: ls) = 2 ^ (20 - x) + K.room ls := by simp [K.room]
    rw [e, List.length_cons, Nat.succ_mul]
    omega
theorem natsOf_pos (xs : List Int) (h : (xs.all fun x => decide (1 ≤ x ∧ x ≤ 20)) = true) : ∀ x ∈ K.natsOf xs, 1 ≤ x := by
  intro x hx
  simp only [K.natsOf, List.mem_map] at hx
  obtain ⟨y, hy, rfl⟩ := hx
  rw [List.all_eq_true] at h
  have := of_decide_eq_true (h y hy)
  omega
theorem lensOk_all (xs : List Int) (h2 : 2 ≤ xs.length ∧ xs.length ≤ 258) (h : ((xs.take xs.length).all fun x => decide (1 ≤ x ∧ x ≤ 20)) = true) : K.lensOk xs = true := by
  rw [List.take_length] at h
  unfold K.lensOk
  rw [h]; simp; exact h2

theorem sum_any (a : Option Addr) (cap : Nat) (xs : List Int) (w : World) (h : Sees w 1 a xs.length (intVals xs)) (hlen : xs.length ≤ 140737488351232) :
    Calls Try.prog 38 #[.slice a xs.length cap] w fun e w' => e = .returned (.int .i64 (sumR xs : Nat)) ∧ w = w' := by
  have HS := Lib.hid h
  clear h
  by_cases h2 : xs.length < 2
  · have g1 : decide ((xs.length : Int) < 2) = true := by simp; omega
    have hR : sumR xs = 0 := by unfold sumR; rw [K.lensOk_no xs (by omega)]; rfl
    have HR := Lib.hid hR
    clear hR
    go_enter Try.func38, Try.ntmps38
    go_wp2_with fail
    go_ret
    exact ⟨by rw [HR.out]; rfl, rfl⟩
  · have g1 : decide ((xs.length : Int) < 2) = false := by simp; omega
    by_cases h3 : 258 < xs.length
    · have g2 : decide (258 < (xs.length : Int)) = true := by simp; omega
      have hR : sumR xs = 0 := by unfold sumR; rw [K.lensOk_no xs (by omega)]; rfl
      have HR := Lib.hid hR
      clear hR
      go_enter Try.func38, Try.ntmps38
      go_wp2_with fail
      go_ret
      exact ⟨by rw [HR.out]; rfl, rfl⟩
    · have g2 : decide (258 < (xs.length : Int)) = false := by simp; omega
      go_enter Try.func38, Try.ntmps38
      go_wp2_with fail
      clear g1 g2
      go_loopg [3, 16] xs.length (fun k n c wr => SumI w xs k n c wr)
      case atStart => exact ⟨0, by omega, by omega, rfl, rfl, rfl, rfl⟩
      case round =>
        obtain ⟨i, hi, hk, rfl, rfl, hall, rfl⟩ := hrel
        have Hk := Lib.hid hk
        have HALL := Lib.hid hall
        have hro := K.room_le (K.natsOf (xs.take i))
        have hrl : (K.natsOf (xs.take i)).length ≤ 258 := by rw [K.natsOf_length, List.length_take]; omega
        have hro2 : K.room (K.natsOf (xs.take i)) ≤ 300000000 := by omega
        clear hk hall hro hrl
        by_cases hlt : i < xs.length
        · have hli : (i : Int) < (xs.length : Int) := by omega
          obtain ⟨x, hx⟩ : ∃ x, xs[i]? = some x := ⟨_, List.getElem?_eq_getElem hlt⟩
          obtain ⟨b0, off, rfl, -⟩ := HS.out.at (by rw [intVals_length]; omega)
          have c0 := HS.out.int hx
          have ex : xs.take (i + 1) = xs.take i ++ [x] := by rw [List.take_add_one, hx]; rfl
          have EX := Lib.hid ex
          have HX := Lib.hid hx
          clear ex hx
          by_cases hgood : 1 ≤ x ∧ x ≤ 20
          · have g1 : decide (x < 1) = false := by simp; omega
            have g2 : decide (20 < x) = false := by simp; omega
            obtain ⟨m, rfl⟩ := Int.eq_ofNat_of_zero_le (show 0 ≤ x by omega)
            obtain ⟨t, ht⟩ : ∃ t, 20 - m = t := ⟨_, rfl⟩
            have hsub : IntKind.i64.wrap (20 - (m : Int)) = (t : Int) := by rw [IntWalk.i64_in _ (by omega)]; omega
            have hp := pow20 m
            rw [ht] at hp
            have ht20 : t ≤ 20 := by omega
            have hpw : (2 : Int) ^ t = ((2 ^ t : Nat) : Int) := by norm_cast
            have hrs : K.room (K.natsOf (xs.take (i + 1))) = K.room (K.natsOf (xs.take i)) + 2 ^ t := by rw [EX.out, natsOf_snoc, K.room_snoc, Int.toNat_natCast, ht]
            generalize (2 : Nat) ^ t = p at hp hpw hrs
            have HRS := Lib.hid hrs
            have hg3 : ((([((m : Nat) : Int)] : List Int).all fun x => decide (1 ≤ x ∧ x ≤ 20))) = true := by simp; omega
            have HG := Lib.hid hg3
            clear ht hrs hg3
            go_wp2_with fail
            go_roundg (xs.length - (i + 1))
            case measure => have := Hk.out; omega
            case rel => exact ⟨i + 1, by omega, rfl, by go_num, by rw [HRS.out]; go_num, by rw [EX.out, List.all_append, HALL.out, Bool.true_and]; exact HG.out, rfl⟩
          · have hno : sumR xs = 0 := by unfold sumR; rw [K.lensOk_bad xs i x HX.out (by omega)]; rfl
            have HNO := Lib.hid hno
            clear hno
            by_cases h1 : x < 1
            · have g1 : decide (x < 1) = true := by simp; omega
              go_wp2_with fail
              go_ret
              exact ⟨by rw [HNO.out]; rfl, rfl⟩
            · have g1 : decide (x < 1) = false := by simp; omega
              have g2 : decide (20 < x) = true := by simp; omega
              go_wp2_with fail
              go_ret
              exact ⟨by rw [HNO.out]; rfl, rfl⟩
        · obtain rfl : i = xs.length := by omega
          have hok := lensOk_all xs (by omega) HALL.out
          have hR : sumR xs = K.room (K.natsOf (xs.take xs.length)) := by unfold sumR; rw [hok, List.take_length]; rfl
          have HR := Lib.hid hR
          clear hok hR
          go_wp2_with fail
          go_ret
          exact ⟨by rw [HR.out]; rfl, rfl⟩

theorem sumR_good (xs : List Int) : K.goodL xs = (decide (sumR xs ≠ 0) && decide (sumR xs ≤ 1048576)) := by
  unfold sumR K.goodL
  rcases Bool.eq_false_or_eq_true (K.lensOk xs) with h | h
  · have hl := ((K.lensOk_iff xs).1 h).1
    have := room_pos (K.natsOf xs) (by rw [K.natsOf_length]; omega)
    rw [h, if_pos rfl]
    have : K.room (K.natsOf xs) ≠ 0 := by omega
    simp [this]
  · rw [h]; simp
/-- What Check tells. -/
def checkR (xs : List Int) : Nat := if K.goodL xs then 0 else 80
theorem check_any (a : Option Addr) (cap : Nat) (xs : List Int) (w : World) (h : Sees w 1 a xs.length (intVals xs)) (hlen : xs.length ≤ 140737488351232) :
    Calls Try.prog 21 #[.slice a xs.length cap] w fun e w' => e = .returned (.int .i64 (checkR xs : Nat)) ∧ w = w' := by
  have HS := Lib.hid h
  have HG := Lib.hid (sumR_good xs)
  clear h
  go_enter Try.func21, Try.ntmps21
  go_wp2_with fail
  refine (sum_any a cap xs _ HS.out hlen).mono ?_
  rintro e w' ⟨rfl, rfl⟩
  generalize sumR xs = n at HG ⊢
  by_cases h0 : n = 0
  · have hR : checkR xs = 80 := by unfold checkR; rw [HG.out, h0]; rfl
    have HR := Lib.hid hR
    subst h0
    clear hR
    go_wp2_with fail
    go_ret
    exact ⟨by rw [HR.out]; rfl, rfl⟩
  · have g1 : ((n : Int) == 0) = false := by simp; omega
    by_cases h1 : n ≤ 1048576
    · have hR : checkR xs = 0 := by unfold checkR; rw [HG.out]; simp [h0, h1]
      have HR := Lib.hid hR
      have g2 : decide (1048576 < (n : Int)) = false := by simp; omega
      clear hR
      go_wp2_with fail
      go_ret
      exact ⟨by rw [HR.out]; rfl, rfl⟩
    · have hR : checkR xs = 80 := by unfold checkR; rw [HG.out]; simp [h0]; omega
      have HR := Lib.hid hR
      have g2 : decide (1048576 < (n : Int)) = true := by simp; omega
      clear hR
      go_wp2_with fail
      go_ret
      exact ⟨by rw [HR.out]; rfl, rfl⟩

/-- What the reference's room tells. -/
def roomR (xs : List Int) : Int := if K.goodL xs then (K.room (K.natsOf xs) : Nat) else -1
theorem rroom_any (a : Option Addr) (cap : Nat) (xs : List Int) (w : World) (h : Sees w 1 a xs.length (intVals xs)) (hlen : xs.length ≤ 17592186043904) :
    Calls Try.prog 44 #[.slice a xs.length cap] w fun e w' => e = .returned (.int .i64 (roomR xs)) ∧ w = w' := by
  have HS := Lib.hid h
  clear h
  go_enter Try.func44, Try.ntmps44
  go_wp2_with fail
  go_loopg [3, 4] xs.length (fun k n c wr => SumI w xs k n c wr)
  case atStart => exact ⟨0, by omega, by omega, rfl, rfl, rfl, rfl⟩
  case round =>
    obtain ⟨i, hi, hk, rfl, rfl, hall, rfl⟩ := hrel
    have Hk := Lib.hid hk
    have HALL := Lib.hid hall
    have hro := room_le2 (K.natsOf (xs.take i)) (natsOf_pos _ hall)
    have hrl : (K.natsOf (xs.take i)).length = i := by rw [K.natsOf_length, List.length_take]; omega
    rw [hrl] at hro
    clear hk hall hrl
    by_cases hlt : i < xs.length
    · have hli : (i : Int) < (xs.length : Int) := by omega
      obtain ⟨x, hx⟩ : ∃ x, xs[i]? = some x := ⟨_, List.getElem?_eq_getElem hlt⟩
      obtain ⟨b0, off, rfl, -⟩ := HS.out.at (by rw [intVals_length]; omega)
      have c0 := HS.out.int hx
      have ex : xs.take (i + 1) = xs.take i ++ [x] := by rw [List.take_add_one, hx]; rfl
      have EX := Lib.hid ex
      have HX := Lib.hid hx
      clear ex hx
      by_cases hgood : 1 ≤ x ∧ x ≤ 20
      · have g1 : decide (x < 1) = false := by simp; omega
        have g2 : decide (20 < x) = false := by simp; omega
        obtain ⟨m, rfl⟩ := Int.eq_ofNat_of_zero_le (show 0 ≤ x by omega)
        obtain ⟨t, ht⟩ : ∃ t, 20 - m = t := ⟨_, rfl⟩
        have hsub : IntKind.i64.wrap (20 - (m : Int)) = (t : Int) := by rw [IntWalk.i64_in _ (by omega)]; omega
        have hsub2 : IntKind.u64.wrap (t : Int) = (t : Int) := by rw [IntKind.wrap_u64]; omega
        have hp : 2 ^ (20 - m) ≤ 524288 := pow19 m (by omega)
        rw [ht] at hp
        have hpw : (2 : Int) ^ t = ((2 ^ t : Nat) : Int) := by norm_cast
        have hrs : K.room (K.natsOf (xs.take (i + 1))) = K.room (K.natsOf (xs.take i)) + 2 ^ t := by rw [EX.out, natsOf_snoc, K.room_snoc, Int.toNat_natCast, ht]
        have ht20 : t ≤ 20 := by omega
        generalize (2 : Nat) ^ t = p at hp hpw hrs
        have HRS := Lib.hid hrs
        have hg3 : ((([((m : Nat) : Int)] : List Int).all fun x => decide (1 ≤ x ∧ x ≤ 20))) = true := by simp; omega
        have HG := Lib.hid hg3
        clear ht hrs hg3
        go_wp2_with fail
        go_roundg (xs.length - (i + 1))
        case measure => have := Hk.out; omega
        case rel => exact ⟨i + 1, by omega, rfl, by go_num, by rw [HRS.out]; go_num, by rw [EX.out, List.all_append, HALL.out, Bool.true_and]; exact HG.out, rfl⟩
      · have hno : roomR xs = -1 := by unfold roomR K.goodL; rw [K.lensOk_bad xs i x HX.out (by omega)]; rfl
        have HNO := Lib.hid hno
        clear hno
        by_cases h1 : x < 1
        · have g1 : decide (x < 1) = true := by simp; omega
          go_wp2_with fail
          go_ret
          exact ⟨by rw [HNO.out]; rfl, rfl⟩
        · have g1 : decide (x < 1) = false := by simp; omega
          have g2 : decide (20 < x) = true := by simp; omega
          go_wp2_with fail
          go_ret
          exact ⟨by rw [HNO.out]; rfl, rfl⟩
    · obtain rfl : i = xs.length := by omega
      by_cases h2 : xs.length < 2
      · have g1 : decide ((xs.length : Int) < 2) = true := by simp; omega
        have hno : roomR xs = -1 := by unfold roomR K.goodL; rw [K.lensOk_no xs (by omega)]; rfl
        have HNO := Lib.hid hno
        clear hno
        go_wp2_with fail
        go_ret
        exact ⟨by rw [HNO.out]; rfl, rfl⟩
      · have g1 : decide ((xs.length : Int) < 2) = false := by simp; omega
        by_cases h3 : 258 < xs.length
        · have g2 : decide (258 < (xs.length : Int)) = true := by simp; omega
          have hno : roomR xs = -1 := by unfold roomR K.goodL; rw [K.lensOk_no xs (by omega)]; rfl
          have HNO := Lib.hid hno
          clear hno
          go_wp2_with fail
          go_ret
          exact ⟨by rw [HNO.out]; rfl, rfl⟩
        · have g2 : decide (258 < (xs.length : Int)) = false := by simp; omega
          have hok := lensOk_all xs (by omega) HALL.out
          rw [List.take_length] at hro ⊢
          obtain ⟨r, hr⟩ : ∃ r, K.room (K.natsOf xs) = r := ⟨_, rfl⟩
          rw [hr] at hro ⊢
          by_cases h4 : r ≤ 1048576
          · have g3 : decide (1048576 < (r : Int)) = false := by simp; omega
            have hR : roomR xs = (r : Int) := by unfold roomR K.goodL; rw [hok, hr]; simp [h4]
            have HR := Lib.hid hR
            clear hok hr hR
            go_wp2_with fail
            go_ret
            exact ⟨by rw [HR.out]; rfl, rfl⟩
          · have g3 : decide (1048576 < (r : Int)) = true := by simp; omega
            have hR : roomR xs = -1 := by unfold roomR K.goodL; rw [hok, hr]; simp <;> omega
            have HR := Lib.hid hR
            clear hok hr hR
            go_wp2_with fail
            go_ret
            exact ⟨by rw [HR.out]; rfl, rfl⟩
theorem rcheck_any (a : Option Addr) (cap : Nat) (xs : List Int) (w : World) (h : Sees w 1 a xs.length (intVals xs)) (hlen : xs.length ≤ 17592186043904) :
    Calls Try.prog 25 #[.slice a xs.length cap] w fun e w' => e = .returned (.int .i64 (checkR xs : Nat)) ∧ w = w' := by
  have HS := Lib.hid h
  clear h
  go_enter Try.func25, Try.ntmps25
  go_wp2_with fail
  refine (rroom_any a cap xs _ HS.out hlen).mono ?_
  rintro e w' ⟨rfl, rfl⟩
  rcases Bool.eq_false_or_eq_true (K.goodL xs) with h | h
  · have hr : roomR xs = (K.room (K.natsOf xs) : Nat) := by unfold roomR; rw [h]; rfl
    have hR : checkR xs = 0 := by unfold checkR; rw [h]; rfl
    have HR := Lib.hid hR
    rw [hr]
    have g1 : decide (((K.room (K.natsOf xs) : Nat) : Int) < 0) = false := by simp
    clear hr hR h
    go_wp2_with fail
    go_ret
    exact ⟨by rw [HR.out]; rfl, rfl⟩
  · have hr : roomR xs = -1 := by unfold roomR; rw [h]; rfl
    have hR : checkR xs = 80 := by unfold checkR; rw [h]; rfl
    have HR := Lib.hid hR
    rw [hr]
    clear hr hR h
    go_wp2_with fail
    go_ret
    exact ⟨by rw [HR.out]; rfl, rfl⟩
end Go.Proofs.Ytodjfgdolegfpaa
