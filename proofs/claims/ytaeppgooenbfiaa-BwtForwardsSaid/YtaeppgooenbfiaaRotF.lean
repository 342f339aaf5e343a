/-
  The walks of slices.Index at []int, rotate.Rank, rotate.Period.
-/
import Derived.Test.YtaeppgooenbfiaaRotE
import Derived.Test.YtaeppgooenbfiaaSymA
import Derived.BigQuiet
namespace Go.Proofs.Ytaeppgooenbfiaa
open Go.RowKit Go.Sort
set_option linter.unusedVariables false
set_option linter.unusedSimpArgs false

/-- The first place of x, or -1. -/
def IndexP (L : List Nat) (x : Nat) (r : Int) : Prop := (∃ i : Nat, r = (i : Int) ∧ L[i]? = some x ∧ ∀ j, j < i → L[j]? ≠ some x) ∨ (r = -1 ∧ x ∉ L)
def IndexI (w0 : World) (L : List Nat) (x : Nat) (k : Nat) (v : Value) (w : World) : Prop :=
  ∃ i, i ≤ L.length ∧ k = L.length - i ∧ v = .int .i64 (i : Nat) ∧ (∀ j, j < i → L[j]? ≠ some x) ∧ Kept [] w0 w
theorem index_ok (a : Option Addr) (n c x : Nat) (L : List Nat) (w : World) (h : Sees w 1 a n (natVals L)) (hl : L.length = n) (hn : n ≤ 1000000000) :
    Calls Try.prog 34 #[.slice a n c, .int .i64 x] w fun e w' => (∃ r : Int, e = .returned (.int .i64 r) ∧ IndexP L x r) ∧ Kept [] w w' := by
  have HS := Lib.hid h
  clear h
  go_enter Try.func34, Try.ntmps34
  go_wp2_with fail
  go_loopg [8] L.length (fun k v wr => IndexI w L x k v wr)
  case atStart => exact ⟨0, by omega, by omega, rfl, fun j hj => by omega, Kept.refl _ _⟩
  case round =>
    obtain ⟨i, hi, hk, rfl, hno, hkept⟩ := hrel
    have Hk := Lib.hid hk
    have HNO := Lib.hid hno
    have HKE := Lib.hid hkept
    clear hk hno hkept
    by_cases hlt : i < n
    · have hli : (i : Int) < (n : Int) := by omega
      obtain ⟨b0, off, rfl, -⟩ := HS.out.at (by rw [natVals_length]; omega)
      obtain ⟨y, hy⟩ : ∃ y, L[i]? = some y := ⟨_, List.getElem?_eq_getElem (by omega)⟩
      have c0 := (HS.out.kept0 HKE.out).natC hy
      have HY := Lib.hid hy
      clear hy
      by_cases hxy : x = y
      · subst hxy
        have k1 : ((x : Int) == (x : Int)) = true := by simp
        go_wp2_with fail
        go_ret
        exact ⟨⟨_, rfl, .inl ⟨i, rfl, HY.out, HNO.out⟩⟩, HKE.out⟩
      · have k1 : ((x : Int) == (y : Int)) = false := beq_eq_false_iff_ne.2 (by omega)
        have k1' : ¬ (x : Int) = (y : Int) := by omega
        go_wp2_with fail
        go_roundg (L.length - (i + 1))
        case measure => have := Hk.out; omega
        case rel =>
          refine ⟨i + 1, by omega, rfl, by go_num, fun j hj => ?_, HKE.out⟩
          rcases Nat.lt_or_ge j i with h | h
          · exact HNO.out j h
          · obtain rfl : j = i := by omega
            rw [HY.out]
            intro he
            exact hxy (Option.some.inj he).symm
    · have hie : i = n := by omega
      subst hie
      go_wp2_with fail
      go_ret
      refine ⟨⟨_, rfl, .inr ⟨rfl, fun hm => ?_⟩⟩, HKE.out⟩
      obtain ⟨j, hj, he⟩ := List.mem_iff_getElem.1 hm
      exact HNO.out j (by omega) (by rw [List.getElem?_eq_getElem hj, he])

theorem rank_in (s : ByteArray) (i : Nat) (w : World) (hs : s.size ≤ 1000000) (hi : i < s.size) (hSort : SortC s.size) : Calls Try.prog 18 #[.string s, .int .i64 i] w fun e w' =>
    (∃ L r, K.Ordered s.size (K.fS s.data.toList) s.size L ∧ IndexP L i r ∧ e = .returned (.tuple #[.int .i64 r, .int .i64 0])) ∧ Kept [] w w' := by
  have h1 : (i : Int) < (s.size : Int) := by omega
  have g1 : decide ((i : Int) < 0) = false := by simp
  have g2 : decide ((s.size : Int) ≤ (i : Int)) = false := by simp; omega
  have g2' : decide (s.size ≤ i) = false := by simp; omega
  have HSORT := Lib.hid hSort
  clear hSort
  go_enter Try.func18, Try.ntmps18
  go_wp2_with fail
  refine (order_any s _ hs HSORT.out).mono ?_
  rintro e w1 ⟨g, L, rfl, hO, hrow, hk⟩
  have HO := Lib.hid hO
  have HR := Lib.hid hrow
  have HK := Lib.hid hk
  clear hO hrow hk
  go_wp2_with fail
  refine (index_ok _ s.size s.size i L _ HR.out.seeA HO.out.len (by omega)).mono ?_
  rintro e w2 ⟨⟨r, rfl, hI⟩, hk2⟩
  have HI := Lib.hid hI
  have HK2 := Lib.hid (HK.out.new hk2 (by simp [Fresh]))
  clear hI hk2
  go_wp2_with fail
  go_ret2
  exact ⟨⟨L, r, HO.out, HI.out, rfl⟩, HK2.out⟩
end Go.Proofs.Ytaeppgooenbfiaa
