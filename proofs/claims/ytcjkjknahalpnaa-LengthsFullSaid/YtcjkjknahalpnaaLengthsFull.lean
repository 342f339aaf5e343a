/-
  LengthsFull: the walk.
-/
import Derived.Test.YtcjkjknahalpnaaAwakeL
import Derived.Test.YtcjkjknahalpnaaLenC
import Derived.BigQuiet
namespace Go.Proofs.Ytcjkjknahalpnaa
open Go.RowKit
set_option linter.unusedVariables false
set_option linter.unusedSimpArgs false

theorem lengthsFull_walk (a : Option Addr) (len cap : Nat) (xs : List Int) (most : Int) (w : World)
    (h : Sees w 1 a len (xs.map (Value.int .i64)) ∧ xs.length = len ∧ len ≤ cap ∧ cap ≤ maxLen ∧ len ≤ 17592186043904 ∧ (∀ x ∈ xs, -9223372036854775808 ≤ x ∧ x ≤ 9223372036854775807) ∧ (a = none → cap = 0)) (hmost : -9223372036854775808 ≤ most ∧ most ≤ 9223372036854775807) :
    Calls Try.prog 7 #[.slice a len cap, .int .i64 most] w fun e w' => e = .returned (.bool true) ∧ Kept [] w w' := by
  obtain ⟨hsee, rfl, -, -, hlen, -, -⟩ := h
  have hsee : Sees w 1 a xs.length (intVals xs) := hsee
  have HS := Lib.hid hsee
  obtain ⟨p, hp⟩ := make_ans xs most
  have M := wmake_any a cap xs most p w hsee (by omega) hp
  have HP := Lib.hid hp
  clear hsee
  rcases hp with ⟨-, rfl⟩ | ⟨h1, h2, h3⟩
  · go_enter Try.func7, Try.ntmps7
    go_wp2_with fail
    refine M.mono ?_
    rintro e w1 ⟨a1, c1, rfl, hrow1, hk1, -⟩
    clear M hrow1
    go_wp2_with fail
    refine (awakeL _).mono ?_
    rintro e w2 ⟨rfl, hk2⟩
    go_wp2_with fail
    go_ret
    exact ⟨rfl, hk1.new hk2 (by simp [Fresh])⟩
  · obtain ⟨h5, k1, k2, k3⟩ := MakeAns.ok HP.out h2
    have hx258 := (mayL_get h5).2.1
    obtain ⟨ls, er⟩ := p
    simp only at h2 k1 k2 k3
    subst h2
    have HLE := Lib.hid k2
    have HFU := Lib.hid k3
    have HL := Lib.hid k1
    clear h1 h3 h5 k1 k2 k3 HP
    go_enter Try.func7, Try.ntmps7
    go_wp2_with fail
    refine M.mono ?_
    rintro e w1 ⟨a1, c1, rfl, hrow1, hk1, -⟩
    have HK1 := Lib.hid hk1
    have hl : ls.length = xs.length := HL.out
    simp only at hrow1
    have HR1 := Lib.hid hrow1.seeA
    have F := full_any a1 c1 (ls.map fun n : Nat => (n : Int)) w1 (by rw [List.length_map, ← natVals_int]; exact HR1.out) (by rw [List.length_map]; omega)
    rw [HFU.out, List.length_map] at F
    rw [hl] at F HR1 ⊢
    clear M hrow1 hk1 hl
    go_wp2_with fail
    refine F.mono ?_
    rintro e w2 ⟨rfl, rfl⟩
    clear F
    go_wp2_with fail
    go_loopg [7] xs.length (fun g v wr => ∃ i : Nat, g = xs.length - i ∧ i ≤ xs.length ∧ v = .int .i64 (i : Nat) ∧ w1 = wr)
    case atStart => exact ⟨0, by omega, by omega, rfl, rfl⟩
    case round =>
      obtain ⟨i, hg, hi, rfl, rfl⟩ := hrel
      have Hg := Lib.hid hg
      clear hg
      by_cases hlt : i < xs.length
      · have hli : (i : Int) < (xs.length : Int) := by omega
        obtain ⟨x, hx⟩ : ∃ x, ls[i]? = some x := ⟨_, List.getElem?_eq_getElem (by rw [HL.out]; exact hlt)⟩
        obtain ⟨b, off, rfl, -⟩ := HR1.out.at (by rw [natVals_length, HL.out]; omega)
        have c0 := HR1.out.natD hx
        have hxm := (HLE.out x (List.mem_of_getElem? hx)).2.1
        have g0 : decide (most < (x : Int)) = false := by simp; omega
        clear hx
        go_wp2_with fail
        go_roundg (xs.length - (i + 1))
        case measure => have := Hg.out; omega
        case rel => exact ⟨i + 1, by omega, by omega, by simp, rfl⟩
      · obtain rfl : i = xs.length := by omega
        have hll : ¬ (xs.length : Int) < (xs.length : Int) := by omega
        go_wp2_with fail
        refine (awakeL _).mono ?_
        rintro e w2 ⟨rfl, hk2⟩
        go_wp2_with fail
        go_ret
        exact ⟨rfl, HK1.out.new hk2 (by simp [Fresh])⟩
end Go.Proofs.Ytcjkjknahalpnaa
