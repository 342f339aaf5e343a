/-
  RotateOrders: the walk.
-/
import Derived.Test.YtaeppgooenbfiaaRefOrdB
import Derived.Test.YtaeppgooenbfiaaAwakeR
import Derived.Test.YtaeppgooenbfiaaRotS7
namespace Go.Proofs.Ytaeppgooenbfiaa
open Go.RowKit Go.Sort
set_option linter.unusedVariables false
set_option linter.unusedSimpArgs false

set_option maxRecDepth 100000 in
theorem rotateOrders_walk (s : ByteArray) (w : World) (hs : s.size ≤ 140737488351232) :
    Calls Try.prog 3 #[.string s] w fun e w' => e = .returned (.bool true) ∧ Kept [] w w' := by
  by_cases h : 150 < s.size
  · have g1 : decide (150 < (s.size : Int)) = true := by simp; omega
    go_enter Try.func3, Try.ntmps3
    go_wp2_with ((go_at_call 17; refine (awakeR _).mono ?_; rintro e w' ⟨rfl, hk⟩))
    go_ret
    exact ⟨rfl, by assumption⟩
  · have g1 : decide (150 < (s.size : Int)) = false := by simp; omega
    have hord := order_new s w (by omega) (sort_any s.size (by omega))
    have hrord := fun w => rorder_ok s w (by omega)
    have HORD := Lib.hid hord
    have HRORD := Lib.hid hrord
    clear hord hrord
    go_enter Try.func3, Try.ntmps3
    go_wp2_with fail
    refine HORD.out.mono ?_
    rintro e w1 ⟨g, L, rfl, hO, hrow1, hk1, hge⟩
    have HO := Lib.hid hO
    have HS1 := Lib.hid hrow1.seeA
    have HK1 := Lib.hid hk1
    clear hO hrow1 hk1 HORD
    go_wp2_with fail
    refine (HRORD.out _).mono ?_
    rintro e w2 ⟨L2, u, hO2, rfl, hL2, hk2⟩
    obtain rfl := HO.out.one hO2
    obtain ⟨a, c, rfl, hsee2, -⟩ := hL2
    have hlen := HO.out.len
    have hs1 := HS1.out.kept0 hk2
    rw [natVals_int] at hs1 hsee2
    have e1 : (L.map fun n : Nat => (n : Int)).length = s.size := by rw [List.length_map, hlen]
    have hints := fun w h1 h2 => ints_ok (some ⟨g, 0, none⟩) a s.size c (L.map fun n : Nat => (n : Int)) (L.map fun n : Nat => (n : Int)) w h1 h2 (by omega)
    rw [e1] at hints
    rw [hlen] at hsee2
    have hin := hints w2 hs1 hsee2
    have HIN := Lib.hid hin
    have HK2 := Lib.hid (HK1.out.new hk2 (by simp [Fresh]))
    rw [hlen]
    clear hO2 hsee2 hlen hs1 e1 hints hin hk2 HRORD
    go_wp2_with fail
    refine HIN.out.mono ?_
    rintro e w3 ⟨rfl, hk3⟩
    have HK3 := Lib.hid (HK2.out.new hk3 (by simp [Fresh]))
    clear hk3
    go_wp2_with ((go_at_call 17; refine (awakeR _).mono ?_; rintro e w' ⟨rfl, hk⟩))
    go_ret
    exact ⟨rfl, HK3.out.new (by assumption) (by simp [Fresh])⟩
end Go.Proofs.Ytaeppgooenbfiaa
