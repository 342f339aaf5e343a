/-
  The walk of the closure in delta's Take.
-/
import Derived.Test.YtdaenajhgbagdaaJoinA
import Derived.Test.YtdaenajhgbagdaaPlainA
import Derived.Test.YtdaenajhgbagdaaWriteA
namespace Go.Proofs.Ytdaenajhgbagdaa
open Go.RowKit
set_option linter.unusedVariables false
set_option linter.unusedSimpArgs false

theorem K.takeR_lt62 (bs : List Bool) (i : Nat) (n : Int) (hn : n ≤ 62) : (K.takeR bs i n).1 < 4611686018427387904 := by
  unfold K.takeR
  split
  · simp
  · split
    · simp
    · have h1 := K.num_lt (K.piece bs i n.toNat)
      have h2 : (K.piece bs i n.toNat).length ≤ 62 := by unfold K.piece; rw [List.length_take]; omega
      have h3 : 2 ^ (K.piece bs i n.toNat).length ≤ 2 ^ 62 := Nat.pow_le_pow_right (by decide) h2
      simp only
      omega

/-- What the closure leaves. -/
def DT1Post (r q : Nat) (s : ByteArray) (i : Nat) (n : Int) (w : World) (p : Nat × Nat) (e : Ending) (w' : World) : Prop :=
  e = .returned (.tuple #[.int .i64 p.1, .int .i64 p.2]) ∧ Rd w' r q s (if p.2 = 0 then i + n.toNat else i) ∧ Kept [r] w w'

theorem dtake1 (c r q : Nat) (s : ByteArray) (i : Nat) (n : Int) (w : World) (hc : w.heap[c]? = some (.cells #[.pointer (some ⟨r, 0, none⟩)] 91 (0, 0))) (h : Rd w r q s i) (hs : s.size ≤ 1125899906842624) (hi : i ≤ 8 * s.size) (hn : n ≤ 62) :
    Calls Try.prog 88 #[.int .i64 n, .pointer (some ⟨c, 0, none⟩)] w (DT1Post r q s i n w (K.takeR (K.bitsOf s.data.toList) i n)) := by
  have c0 : w.cell? ⟨c, 0, none⟩ = _ := cell_of_row w c 0 _ _ _ hc
  simp at c0
  have hlt := K.takeR_lt62 (K.bitsOf s.data.toList) i n hn
  clear hc
  generalize hpq : K.takeR (K.bitsOf s.data.toList) i n = p at hlt ⊢
  have HP := Lib.hid hpq
  clear hpq
  go_enter Try.func88, Try.ntmps88
  go_wp2_with fail
  refine (take_any r q s i n _ h hs hi).mono ?_
  rintro e w1 hp
  rw [HP.out] at hp
  obtain ⟨rfl, hr, hk⟩ := hp
  have HR := Lib.hid hr
  have HK := Lib.hid hk
  have hw : IntKind.i64.wrap (p.1 : Int) = (p.1 : Int) := IntWalk.i64_in _ (by omega)
  clear hr hk c0
  go_wp2_with fail
  go_ret2
  exact ⟨rfl, HR.out, HK.out⟩
end Go.Proofs.Ytdaenajhgbagdaa
