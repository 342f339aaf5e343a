/-
  BitsJoins: the walk.
-/
import Derived.Test.YtickefjlkpdifaaJoinR
import Derived.Test.YtickefjlkpdifaaAwakeA
import Derived.Test.YtickefjlkpdifaaEqBits
namespace Go.Proofs.Ytickefjlkpdifaa
open Go.RowKit
set_option linter.unusedVariables false
set_option linter.unusedSimpArgs false

theorem K.total_succ (ps : List (List UInt8 × Int)) (j : Nat) (p : List UInt8 × Int) (h : ps[j]? = some p) : K.total (ps.take (j + 1)) = K.total (ps.take j) + p.1.length := by
  obtain ⟨hj, rfl⟩ := List.getElem?_eq_some_iff.1 h
  have e : ps.take (j + 1) = ps.take j ++ [ps[j]] := by rw [List.take_add_one, List.getElem?_eq_getElem hj]; rfl
  rw [e]
  unfold K.total
  rw [List.map_append, List.sum_append]
  simp only [List.map_cons, List.map_nil, List.sum_cons, List.sum_nil, Nat.add_zero]

/-- In BitsJoins' loop: the bytes of j pieces are summed up. -/
def JoinsI (w0 : World) (ps : List (ByteArray × Int)) (k : Nat) (n i : Value) (w : World) : Prop :=
  ∃ j m, j ≤ ps.length ∧ k = ps.length - j ∧ i = .int .i64 (j : Nat) ∧ n = .int .i64 (m : Nat) ∧ m = K.total ((plainPs ps).take j) ∧ m ≤ 2000 ∧ Kept [] w0 w

set_option maxHeartbeats 1000000 in
theorem bitsJoins_walk (a : Option Addr) (len cap : Nat) (ps : List (ByteArray × Int)) (w : World)
    (h : Sees w 2 a len (bitsVals ps) ∧ ps.length = len ∧ len ≤ cap ∧ cap ≤ maxLen ∧ len ≤ 140737488351232 ∧ ∀ p ∈ ps, p.1.size ≤ 140737488351232 ∧ -9223372036854775808 ≤ p.2 ∧ p.2 ≤ 9223372036854775807) :
    Calls Try.prog 8 #[.slice a len cap] w fun e w' => e = .returned (.bool true) ∧ Kept [] w w' := by
  obtain ⟨h, rfl, -, -, hlen, hp⟩ := h
  have hql : (plainPs ps).length = ps.length := by simp [plainPs]
  have HQL := Lib.hid hql
  have HS := Lib.hid h
  have HP := Lib.hid hp
  clear h hql hp
  go_enter Try.func8, Try.ntmps8
  go_wp2_with fail
  go_loopg [3, 4] ps.length (fun k n i wr => JoinsI w ps k n i wr)
  case atStart => exact ⟨0, 0, by omega, by omega, rfl, rfl, rfl, by omega, Kept.refl _ _⟩
  case round =>
    obtain ⟨j, m, hj, hk, rfl, rfl, hm, hm2, hkept⟩ := hrel
    have Hk := Lib.hid hk
    have HM := Lib.hid hm
    have HKE := Lib.hid hkept
    clear hk hm
    by_cases hlt : j < ps.length
    · have hsr := HS.out.kept0 hkept
      obtain ⟨b0, off, rfl, hcells⟩ := hsr.at (by rw [bitsVals_length]; omega)
      obtain ⟨⟨t, N⟩, hpj⟩ : ∃ p, ps[j]? = some p := ⟨_, List.getElem?_eq_getElem hlt⟩
      have c0 := hcells _ _ (bitsVals_get ps j _ hpj).1
      have hjl : (j : Int) < (ps.length : Int) := by omega
      have hts : t.size ≤ 140737488351232 := (HP.out _ (List.mem_of_getElem? hpj)).1
      have hsu := K.total_succ _ _ _ (plainPs_get ps j _ hpj)
      simp only [toList_length] at hsu
      have HSU := Lib.hid hsu
      have hwr : IntKind.i64.wrap ((m : Int) + (t.size : Int)) = (m : Int) + (t.size : Int) := IntWalk.i64_in _ (by omega)
      clear hcells hsr hpj hsu hkept
      by_cases hb : 2000 < m + t.size
      · have g1 : decide ((2000 : Int) < (m : Int) + (t.size : Int)) = true := by simp; omega
        go_wp2_with fail
        refine (awakeA _).mono ?_
        rintro e w2 ⟨rfl, hk2⟩
        go_wp2_with fail
        go_ret
        exact ⟨rfl, HKE.out.new hk2 (by simp [Fresh])⟩
      · have g1 : decide ((2000 : Int) < (m : Int) + (t.size : Int)) = false := by simp; omega
        go_wp2_with fail
        go_roundg (ps.length - (j + 1))
        case measure => have := Hk.out; omega
        case rel =>
          refine ⟨j + 1, m + t.size, by omega, rfl, by go_num, by go_num, ?_, by omega, HKE.out⟩
          rw [HSU.out, HM.out]
    · obtain rfl : j = ps.length := by omega
      have hte : (plainPs ps).take ps.length = plainPs ps := List.take_of_length_le (by rw [HQL.out]; omega)
      rw [hte] at HM
      have hT : K.total (plainPs ps) ≤ 1000000 := by have := HM.out; omega
      have HT := Lib.hid hT
      clear hte hT hkept
      go_wp2_with fail
      refine (join_any a cap ps _ (HS.out.kept0 HKE.out) HT.out hlen (fun p hp => (HP.out p hp).2.2)).mono ?_
      rintro e w1 ⟨rfl, hk1⟩
      have HK1 := Lib.hid hk1
      clear hk1
      unfold bitsV
      go_wp2_with fail
      refine (refJoin_any a cap ps _ (HS.out.kept0 ((HKE.out.new HK1.out (by simp [Fresh])).alloc _)) HT.out hlen).mono ?_
      rintro e w2 ⟨rfl, hk2⟩
      unfold bitsV
      generalize K.joinR (plainPs ps) = pr at hk2 ⊢
      obtain ⟨T, N, E⟩ := pr
      have hh := hk2.heap (heap_alloc_new _ _) (by simp)
      have hlt : w1.heap.size < w2.heap.size := by have := hk2.size; simp at this; omega
      have c0 : w2.cell? ⟨w1.heap.size, 0, none⟩ = _ := cell_of_row w2 w1.heap.size 0 _ _ _ hh
      have c1 : w2.cell? ⟨w1.heap.size, 1, none⟩ = _ := cell_of_row w2 w1.heap.size 1 _ _ _ hh
      simp at c0 c1
      have heq := fun W => eqBits_same ⟨T.toArray⟩ N W
      have HK2 := Lib.hid hk2
      clear hh hk2
      go_wp2_with ((go_at_call 15; refine (awakeA _).mono ?_; rintro e w' ⟨rfl, hk⟩))
      go_ret
      exact ⟨rfl, ((((HKE.out.new HK1.out (by simp [Fresh])).alloc _).new HK2.out (by simp [Fresh])).alloc _).new ‹_› (by simp [Fresh])⟩
end Go.Proofs.Ytickefjlkpdifaa
