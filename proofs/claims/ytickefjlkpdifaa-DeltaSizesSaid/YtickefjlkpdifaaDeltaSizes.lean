/-
  DeltaSizes: the walk.
-/
import Derived.Test.YtickefjlkpdifaaAwakeD
import Derived.Test.YtickefjlkpdifaaPlainJ
namespace Go.Proofs.Ytickefjlkpdifaa
open Go.RowKit
set_option linter.unusedVariables false
set_option linter.unusedSimpArgs false

/-- In DeltaSizes' loop: the steps so far are told in bits. -/
def DSizesI (w0 : World) (xs : List Int) (k : Nat) (v c : Value) (w : World) : Prop :=
  ∃ p m pv, p + 1 ≤ xs.length ∧ k = xs.length - (p + 1) ∧ c = .int .i64 ((p : Int) + 1) ∧ v = .int .i64 (m : Nat) ∧ xs[p]? = some pv ∧ m + K.sizes pv (xs.drop (p + 1)) = (K.showBits xs).length ∧ Kept [] w0 w

set_option maxHeartbeats 1000000 in
theorem deltaSizes_walk (a : Option Addr) (len cap : Nat) (xs : List Int) (w : World)
    (h : Sees w 1 a len (xs.map (Value.int .i64)) ∧ xs.length = len ∧ len ≤ cap ∧ cap ≤ maxLen ∧ len ≤ 140737488351232 ∧ ∀ x ∈ xs, -9223372036854775808 ≤ x ∧ x ≤ 9223372036854775807) :
    Calls Try.prog 13 #[.slice a len cap] w fun e w' => e = .returned (.bool true) ∧ Kept [] w w' := by
  obtain ⟨h, rfl, -, -, hlen, -⟩ := h
  have h : Sees w 1 a xs.length (intVals xs) := h
  have HS := Lib.hid h
  clear h
  go_enter Try.func13, Try.ntmps13
  go_wp2_with fail
  refine (dshow_any a cap xs _ HS.out hlen).mono ?_
  rintro e w1 ⟨rfl, hk1⟩
  have HK1 := Lib.hid hk1
  clear hk1
  rcases Bool.eq_false_or_eq_true (K.lensOk xs) with hok | hok
  · have hsr : K.showR xs = (K.pack (K.showBits xs), (((K.showBits xs).length : Nat) : Int), 0) := by unfold K.showR; rw [hok]; rfl
    rw [hsr]
    obtain ⟨⟨hl1, hl2⟩, hin⟩ := (K.lensOk_iff xs).1 hok
    have hsb := K.showBits_len xs hok
    obtain ⟨x0, hx0⟩ : ∃ x, xs[0]? = some x := ⟨_, List.getElem?_eq_getElem (by omega)⟩
    have hsz := K.showBits_size xs x0 hx0
    obtain ⟨b0, off, rfl, -⟩ := (HS.out).at (by rw [intVals_length]; omega)
    have HIN := Lib.hid hin
    have HX0 := Lib.hid hx0
    have HSZ := Lib.hid hsz
    have hw5 : IntKind.i64.wrap (5 + (xs.length : Int)) = 5 + (xs.length : Int) := IntWalk.i64_in _ (by omega)
    clear hsr hok hin hx0 hsz
    unfold bitsV
    go_wp2_with fail
    have hA : (w1.alloc (.cells #[.string ⟨(K.pack (K.showBits xs)).toArray⟩, .int .i64 (K.showBits xs).length] 55)).heap[w1.heap.size]? = some (.cells #[.string ⟨(K.pack (K.showBits xs)).toArray⟩, .int .i64 (K.showBits xs).length] 55 (0, 0)) := heap_alloc_new _ _
    have hkA : Kept [] w1 (w1.alloc (.cells #[.string ⟨(K.pack (K.showBits xs)).toArray⟩, .int .i64 (K.showBits xs).length] 55)) := (Kept.refl _ _).alloc _
    generalize w1.alloc (.cells #[.string ⟨(K.pack (K.showBits xs)).toArray⟩, .int .i64 (K.showBits xs).length] 55) = W2 at hA hkA ⊢
    have HA := Lib.hid hA
    have HKA := Lib.hid hkA
    clear hA hkA
    go_loopg [5, 6] (xs.length - 1) (fun k v c wr => DSizesI W2 xs k v c wr)
    case atStart => exact ⟨0, 5 + xs.length, x0, by omega, by omega, rfl, by go_num, HX0.out, HSZ.out.symm, Kept.refl _ _⟩
    case round =>
      obtain ⟨p, m, pv, hp, hk, rfl, rfl, hpv, hm, hkept⟩ := hrel
      have Hk := Lib.hid hk
      have HKE := Lib.hid hkept
      have hall := (HK1.out.new HKA.out (by simp [Fresh])).new hkept (by simp [Fresh])
      have HALL := Lib.hid hall
      clear hk hkept hall hw5
      by_cases hlt : p + 1 < xs.length
      · obtain ⟨x, hx⟩ : ∃ x, xs[p + 1]? = some x := ⟨_, List.getElem?_eq_getElem hlt⟩
        have hdr : xs.drop (p + 1) = x :: xs.drop (p + 2) := by
          obtain ⟨h1, rfl⟩ := List.getElem?_eq_some_iff.1 hx
          exact List.drop_eq_getElem_cons h1
        have hpr := HIN.out pv (List.mem_of_getElem? hpv)
        have hxr := HIN.out x (List.mem_of_getElem? hx)
        have c0 := (HS.out.kept0 HALL.out).int hpv
        have c1 := (HS.out.kept0 HALL.out).int hx
        have hm2 : m + (2 * (x - pv).natAbs + K.sizes x (xs.drop (p + 2))) = (K.showBits xs).length := by rw [← hm, hdr]; rfl
        have HM := Lib.hid hm2
        have HX := Lib.hid hx
        have hjl : (p : Int) + 1 < (xs.length : Int) := by omega
        have hjl2 : (p : Int) < (xs.length : Int) := by omega
        have hwp : IntKind.i64.wrap (p : Int) = (p : Int) := IntWalk.i64_in _ (by omega)
        have hd : IntKind.i64.wrap (x - pv) = x - pv := IntWalk.i64_in _ (by omega)
        have hd2 : IntKind.i64.wrap (pv - x) = pv - x := IntWalk.i64_in _ (by omega)
        have hml : m ≤ 20000 := by omega
        clear hdr hx hpv hm hm2
        by_cases hge : x - pv < pv - x
        · have he2 : IntKind.i64.wrap (2 * (pv - x)) = 2 * (pv - x) := IntWalk.i64_in _ (by omega)
          have he3 : IntKind.i64.wrap ((m : Int) + 2 * (pv - x)) = (m : Int) + 2 * (pv - x) := IntWalk.i64_in _ (by omega)
          go_wp2_with fail
          go_quiet (fail)
          go_wp2_with fail
          go_roundg (xs.length - (p + 2))
          case measure => have := Hk.out; omega
          case rel => exact ⟨p + 1, m + 2 * (x - pv).natAbs, x, by omega, by omega, by go_num, by go_num, HX.out, by (have := HM.out; rw [show p + 1 + 1 = p + 2 from rfl]; omega), HKE.out.drewN _⟩
        · have he2 : IntKind.i64.wrap (2 * (x - pv)) = 2 * (x - pv) := IntWalk.i64_in _ (by omega)
          have he3 : IntKind.i64.wrap ((m : Int) + 2 * (x - pv)) = (m : Int) + 2 * (x - pv) := IntWalk.i64_in _ (by omega)
          go_wp2_with fail
          go_quiet (fail)
          go_wp2_with fail
          go_roundg (xs.length - (p + 2))
          case measure => have := Hk.out; omega
          case rel => exact ⟨p + 1, m + 2 * (x - pv).natAbs, x, by omega, by omega, by go_num, by go_num, HX.out, by (have := HM.out; rw [show p + 1 + 1 = p + 2 from rfl]; omega), HKE.out.drewN _⟩
      · have hlt2 : ¬ ((p : Int) + 1 < (xs.length : Int)) := by omega
        have hm2 : m = (K.showBits xs).length := by
          rw [← hm, List.drop_eq_nil_of_le (by omega)]
          rfl
        have hh := HKE.out.heap HA.out (by simp)
        have c1 : wr.cell? ⟨w1.heap.size, 1, none⟩ = _ := cell_of_row wr w1.heap.size 1 _ _ _ hh
        simp at c1
        rw [← hm2] at c1
        clear hh hm hpv hm2
        go_wp2_with ((go_at_call 36; refine (awakeD _).mono ?_; rintro e w' ⟨rfl, hk⟩))
        go_ret
        exact ⟨rfl, HALL.out.new ‹_› (by simp [Fresh])⟩
  · have hsr : K.showR xs = ([], 0, 80) := by unfold K.showR; rw [hok]; rfl
    rw [hsr]
    unfold bitsV
    clear hsr
    go_wp2_with ((go_at_call 36; refine (awakeD _).mono ?_; rintro e w' ⟨rfl, hk⟩))
    go_ret
    exact ⟨rfl, (HK1.out.alloc _).new ‹_› (by simp [Fresh])⟩
end Go.Proofs.Ytickefjlkpdifaa
