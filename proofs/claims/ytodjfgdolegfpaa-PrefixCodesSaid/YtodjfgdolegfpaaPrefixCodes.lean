/-
  PrefixCodes: the walk.
-/
import Derived.Test.YtodjfgdolegfpaaAwakeP
import Derived.Test.YtodjfgdolegfpaaPreI
namespace Go.Proofs.Ytodjfgdolegfpaa
open Go.RowKit
set_option linter.unusedVariables false
set_option linter.unusedSimpArgs false

theorem codesR_len (l : List Int) : (K.codesR l).1.length ≤ l.length := by
  unfold K.codesR
  split
  · simp [K.codesP_length, K.natsOf]
  · simp

theorem prefixCodes_walk (a : Option Addr) (len cap : Nat) (xs : List Int) (w : World)
    (h : Sees w 1 a len (xs.map (Value.int .i64)) ∧ xs.length = len ∧ len ≤ cap ∧ cap ≤ maxLen ∧ len ≤ 17592186043904 ∧ ∀ x ∈ xs, -9223372036854775808 ≤ x ∧ x ≤ 9223372036854775807) :
    Calls Try.prog 3 #[.slice a len cap] w fun e w' => e = .returned (.bool true) ∧ Kept [] w w' := by
  obtain ⟨hsee, rfl, -, -, hlen, -⟩ := h
  have hsee : Sees w 1 a xs.length (intVals xs) := hsee
  have HS := Lib.hid hsee
  clear hsee
  have hrl := codesR_len xs
  go_enter Try.func3, Try.ntmps3
  go_wp2_with fail
  refine (pcodes_any a cap xs _ HS.out (by omega)).mono ?_
  rintro e w1 ⟨a1, c1, rfl, hrow1, hk1, -⟩
  have HK1 := Lib.hid hk1
  have HR1 := Lib.hid hrow1.seeA
  clear hk1 hrow1
  go_wp2_with fail
  refine (rpcodes_any a cap xs _ (HS.out.kept0 HK1.out) hlen).mono ?_
  rintro e w2 ⟨a2, c2, rfl, hrow2, hk2, -⟩
  have HR2 := Lib.hid hrow2.seeA
  have HR3 := Lib.hid (HR1.out.kept0 hk2)
  have HK2 := Lib.hid (HK1.out.new hk2 (by simp [Fresh]))
  clear hk2 hrow2
  generalize K.codesR xs = R at *
  obtain ⟨C, er⟩ := R
  go_wp2_with fail
  have hA := HR3.out
  have hB := HR2.out
  rw [natVals_int] at hA hB
  have hl : (C.map fun n : Nat => (n : Int)).length = C.length := by simp
  rw [← hl] at hA hB
  have hcall := ints_ok a1 a2 c1 c2 _ _ _ hA hB (by rw [hl]; have : C.length ≤ xs.length := hrl; omega)
  rw [hl] at hcall
  refine hcall.mono ?_
  rintro e w3 ⟨rfl, hk3⟩
  have HK3 := Lib.hid (HK2.out.new hk3 (by simp [Fresh]))
  clear hk3 hA hB hl hcall
  simp only [decide_true]
  go_wp2_with ((go_at_call 13; refine (awakeP _).mono ?_; rintro e w' ⟨rfl, hk⟩))
  go_ret
  exact ⟨rfl, HK3.out.new (by assumption) (by simp [Fresh])⟩
end Go.Proofs.Ytodjfgdolegfpaa
