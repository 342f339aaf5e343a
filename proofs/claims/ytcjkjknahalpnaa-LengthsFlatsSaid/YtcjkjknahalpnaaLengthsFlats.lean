/-
  LengthsFlats: the walk.
-/
import Derived.Test.YtcjkjknahalpnaaAwakeL
import Derived.Test.YtcjkjknahalpnaaLenC
namespace Go.Proofs.Ytcjkjknahalpnaa
open Go.RowKit
set_option linter.unusedVariables false
set_option linter.unusedSimpArgs false

theorem lengthsFlats_walk (a : Option Addr) (len cap : Nat) (xs : List Int) (w : World)
    (h : Sees w 1 a len (xs.map (Value.int .i64)) ∧ xs.length = len ∧ len ≤ cap ∧ cap ≤ maxLen ∧ len ≤ 17592186043904 ∧ (∀ x ∈ xs, -9223372036854775808 ≤ x ∧ x ≤ 9223372036854775807) ∧ (a = none → cap = 0)) :
    Calls Try.prog 4 #[.slice a len cap] w fun e w' => e = .returned (.bool true) ∧ Kept [] w w' := by
  obtain ⟨hsee, rfl, -, -, hlen, -, hao⟩ := h
  have hsee : Sees w 1 a xs.length (intVals xs) := hsee
  have HS := Lib.hid hsee
  have HAO := Lib.hid hao
  have hone : ∀ u ∈ intVals xs, u.oneCell' = true := by
    intro u hu
    obtain ⟨c, -, rfl⟩ := List.mem_map.1 hu
    rfl
  have HONE := Lib.hid hone
  have hsA : Sees (w.alloc (.cells #[] 3)) 1 a xs.length (intVals xs) := HS.out.kept0 ((Kept.refl [] w).alloc _)
  have HSA := Lib.hid hsA
  clear hsee hao hone hsA
  have hcl : (flatR xs).1.length ≤ 1000000 := by
    unfold flatR
    cases hm : mayL xs with
    | false => simp
    | true =>
      have := (mayL_get hm).2.1
      simp [K.flatL_length, ownN_length]; omega
  have HCL := Lib.hid hcl
  clear hcl
  go_enter Try.func4, Try.ntmps4
  go_wp2_with ((at_builtin; refine wp_appS rfl _ _ 22 rfl 3 (.int .i64 0) 8 Try.underlying22 Try.infoInt rfl (.slice (some ⟨w.heap.size, 0, none⟩) 0 0) [] (intVals xs) a xs.length cap rfl rfl HONE.out (Row.empty w _) HSA.out HAO.out (by simp [maxLen]; omega) (by simp; omega) ?_; intro a4 cap4 w4 hrow4 hk4 hg4))
  simp only [List.nil_append, List.length_nil, Nat.zero_add] at hrow4 hg4
  have HK4 := Lib.hid (((Kept.refl [] w).alloc _).new hk4 (by intro x hx; simp [foot, Value.ownBlock] at hx; omega))
  have HR4 := Lib.hid hrow4
  have hsw4 := Lib.hid (hrow4.seeA)
  clear hk4 hrow4 hg4 HSA
  refine (wflat_any a4 cap4 xs w4 hsw4.out (by omega)).mono ?_
  rintro e w1 ⟨a1, c1, rfl, hrow1, hk1, -⟩
  have HK1 := Lib.hid (HK4.out.new hk1 (by simp [Fresh]))
  have HR1 := Lib.hid (HR4.out.kept hk1 (by simp))
  have HP1 := Lib.hid hrow1
  clear hk1 hrow1 HR4
  go_wp2_with fail
  refine (rflat_any a cap xs w1 (HS.out.kept0 HK1.out) (by omega)).mono ?_
  rintro e w2 ⟨a2, c2, rfl, hrow2, hk2, -⟩
  have HK2 := Lib.hid (HK1.out.new hk2 (by simp [Fresh]))
  have HR2 := Lib.hid (HR1.out.kept hk2 (by simp))
  have HA := Lib.hid ((HP1.out.kept hk2 (by simp)).seeA)
  have HB := Lib.hid hrow2.seeA
  clear hk2 hrow2 HP1 HR1 HK1 HK4
  generalize flatR xs = p at *
  obtain ⟨C, er⟩ := p
  go_wp2_with fail
  have hA := HA.out
  have hB := HB.out
  rw [natVals_int] at hA hB
  have hl : (C.map fun n : Nat => (n : Int)).length = C.length := by simp
  rw [← hl] at hA hB
  have hcall := ints_ok a1 a2 c1 c2 _ _ _ hA hB (by rw [hl]; have := HCL.out; omega)
  rw [hl] at hcall
  refine hcall.mono ?_
  rintro e w3 ⟨rfl, hk3⟩
  have HK3 := Lib.hid (HK2.out.new hk3 (by simp [Fresh]))
  have HR3 := Lib.hid ((HR2.out.kept hk3 (by simp)).seeA)
  clear hk3 hA hB hl hcall HR2
  simp only [decide_true]
  go_wp2_with fail
  have hcall := ints_ok a4 a cap4 cap xs xs _ HR3.out (HS.out.kept0 HK3.out) (by omega)
  refine hcall.mono ?_
  rintro e w5 ⟨rfl, hk5⟩
  have HK5 := Lib.hid (HK3.out.new hk5 (by simp [Fresh]))
  clear hk5 hcall
  simp only [decide_true]
  go_wp2_with fail
  refine (awakeL _).mono ?_
  rintro e w6 ⟨rfl, hk⟩
  go_wp2_with fail
  go_ret
  exact ⟨rfl, HK5.out.new hk (by simp [Fresh])⟩
end Go.Proofs.Ytcjkjknahalpnaa
