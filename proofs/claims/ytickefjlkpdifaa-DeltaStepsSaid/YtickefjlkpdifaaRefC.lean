/-
  The walks of the references Take and Unary of layer 1.
-/
import Derived.Test.YtickefjlkpdifaaRefB
namespace Go.Proofs.Ytickefjlkpdifaa
open Go.RowKit
set_option linter.unusedVariables false
set_option linter.unusedSimpArgs false

/-- A part of what is seen. -/
theorem Sees.part {w : World} {a : Option Addr} {n : Nat} {xs : List Value} (h : Sees w 1 a n xs) (i m : Nat) (hi : i + m ≤ n) {a' : Option Addr} (ha : 0 < m → ∀ b off, a = some ⟨b, off, none⟩ → a' = some ⟨b, off + i, none⟩) :
    Sees w 1 a' m ((xs.drop i).take m) := by
  have hl := h.1
  refine ⟨by simp; omega, fun j u hj => ?_⟩
  have hjm : j < m := by have := (List.getElem?_eq_some_iff.1 hj).1; simp at this; omega
  rw [List.getElem?_take, if_pos hjm, List.getElem?_drop] at hj
  obtain ⟨b, off, he, hc⟩ := h.2 (i + j) u hj
  exact ⟨b, off + i, ha (by omega) b off he, by rw [Nat.add_assoc]; exact hc⟩

theorem refTake_no (a : Option Addr) (l cap : Nat) (i : Int) (n : Int) (w : World) (hn : n < 0 ∨ 64 < n) :
    Calls Try.prog 27 #[.slice a l cap, .int .i64 i, .int .i64 n] w fun e w' => e = .returned (.tuple #[.int .u64 0, .int .i64 2]) ∧ w = w' := by
  by_cases h : n < 0
  · have g1 : decide (n < 0) = true := by simpa using h
    go_enter Try.func27, Try.ntmps27
    go_wp2
    go_ret2
    exact ⟨rfl, rfl⟩
  · have g1 : decide (n < 0) = false := by simpa using h
    have g2 : decide (64 < n) = true := by simp; omega
    go_enter Try.func27, Try.ntmps27
    go_wp2
    go_ret2
    exact ⟨rfl, rfl⟩
theorem refTake_short (a : Option Addr) (l cap : Nat) (i n : Nat) (w : World) (hl : l ≤ 1000000000000) (hi : i ≤ l) (hn : n ≤ 64) (h : l < i + n) :
    Calls Try.prog 27 #[.slice a l cap, .int .i64 i, .int .i64 n] w fun e w' => e = .returned (.tuple #[.int .u64 0, .int .i64 10]) ∧ w = w' := by
  have g1 : decide ((n : Int) < 0) = false := by simp
  have g2 : decide (64 < (n : Int)) = false := by simp; omega
  go_enter Try.func27, Try.ntmps27
  go_wp2
  go_ret2
  exact ⟨rfl, rfl⟩
theorem refTake_ok (a : Option Addr) (cap : Nat) (bs : List Bool) (i n : Nat) (w : World) (hl : bs.length ≤ 1000000000000) (hc : bs.length ≤ cap) (hcm : cap ≤ maxLen) (hn : n ≤ 64) (h : i + n ≤ bs.length) (hs : Sees w 1 a bs.length (bis bs)) :
    Calls Try.prog 27 #[.slice a bs.length cap, .int .i64 i, .int .i64 n] w fun e w' => e = .returned (.tuple #[.int .u64 (K.num (K.piece bs i n) : Nat), .int .i64 0]) ∧ w = w' := by
  have g1 : decide ((n : Int) < 0) = false := by simp
  have g2 : decide (64 < (n : Int)) = false := by simp; omega
  have hp : ((bis bs).drop i).take n = bis (K.piece bs i n) := by simp [bis, K.piece, List.map_drop, List.map_take]
  have HP := Lib.hid hp
  have hpl := K.piece_length bs i n h
  have HL := Lib.hid hpl
  clear hp hpl
  by_cases hci : cap = i
  · subst hci
    obtain rfl : n = 0 := by omega
    have hb : bs.length = cap := by omega
    have h0 : ∀ a', Sees w 1 a' 0 (bis (K.piece bs cap 0)) := fun a' => by rw [← HP.out]; exact hs.part _ _ (by omega) (fun h => absurd h (by omega))
    have HN := Lib.hid (refNumber_ok a 0 0 _ w HL.out (by omega) (h0 a))
    have HB := Lib.hid hb
    clear hs h0 hb
    go_enter Try.func27, Try.ntmps27
    go_wp2_with (go_at_call 41; refine HN.out.mono ?_; rintro e w' ⟨rfl, rfl⟩)
    go_ret2
    exact ⟨rfl, rfl⟩
  · have h0 : Sees w 1 (Option.map (fun x => x.add i) a) n (bis (K.piece bs i n)) := by
      rw [← HP.out]
      exact hs.part _ _ h (fun _ b off he => by rw [he, Option.map_some, Addr.add_lit])
    have HN := Lib.hid (refNumber_ok _ n (cap - i) _ w HL.out hn h0)
    clear hs h0
    go_enter Try.func27, Try.ntmps27
    go_wp2_with (go_at_call 41; refine HN.out.mono ?_; rintro e w' ⟨rfl, rfl⟩)
    go_ret2
    exact ⟨rfl, rfl⟩

/-- In the reference's Unary: x 1 bits are passed. -/
def RUnI (w0 : World) (bs : List Bool) (i : Nat) (most : Int) (k : Nat) (c : Value) (w : World) : Prop :=
  ∃ x, i + x ≤ bs.length ∧ k = bs.length - i - x ∧ c = .int .i64 (x : Nat) ∧ w0 = w ∧ K.unary most 0 (bs.drop i) = K.unary most x (bs.drop (i + x))

theorem refUnary_arg (a : Option Addr) (l cap : Nat) (i most : Int) (w : World) (hn : most < 0) :
    Calls Try.prog 25 #[.slice a l cap, .int .i64 i, .int .i64 most] w fun e w' => e = .returned (.tuple #[.int .i64 0, .int .i64 2]) ∧ w = w' := by
  have g1 : decide (most < 0) = true := by simpa using hn
  go_enter Try.func25, Try.ntmps25
  go_wp2
  go_ret2
  exact ⟨rfl, rfl⟩
theorem refUnary_ok (a : Option Addr) (cap : Nat) (bs : List Bool) (i : Nat) (most : Int) (w : World) (hl : bs.length ≤ 1000000000000) (hi : i ≤ bs.length) (h0 : 0 ≤ most) (hs : Sees w 1 a bs.length (bis bs)) :
    Calls Try.prog 25 #[.slice a bs.length cap, .int .i64 i, .int .i64 most] w fun e w' =>
      e = .returned (.tuple #[.int .i64 (K.unary most 0 (bs.drop i)).1, .int .i64 (K.unary most 0 (bs.drop i)).2]) ∧ w = w' := by
  have HS := Lib.hid hs
  clear hs
  go_enter Try.func25, Try.ntmps25
  go_wp2
  go_loopg [8] (bs.length - i) (fun k c wr => RUnI w bs i most k c wr)
  case atStart => exact ⟨0, by omega, by omega, rfl, rfl, rfl⟩
  case round =>
    obtain ⟨x, hx, hk, rfl, rfl, hu⟩ := hrel
    have Hk := Lib.hid hk
    clear hk
    by_cases hlt : i + x < bs.length
    · obtain ⟨b, off, rfl, hcells⟩ := HS.out.at (by rw [bis_length]; omega)
      have hc := hcells (i + x) _ (bis_get bs (i + x) hlt)
      have hdr : bs.drop (i + x) = bs[i + x] :: bs.drop (i + x + 1) := List.drop_eq_getElem_cons hlt
      have hbt : K.bt bs (i + x) = (bs[i + x]).toNat := by simp [K.bt, List.getD, List.getElem?_eq_getElem hlt]
      rw [hbt] at hc
      rw [hdr] at hu
      clear hcells hdr hbt
      cases hb : bs[i + x] with
      | false =>
        rw [hb] at hc hu
        have Hu := Lib.hid hu
        clear hb hu
        go_wp2
        go_ret2
        exact ⟨by rw [Hu.out]; rfl, rfl⟩
      | true =>
        rw [hb] at hc hu
        have Hu := Lib.hid hu
        clear hb hu
        by_cases hm : (x : Int) = most
        · have e1 : ((x : Int) == most) = true := by simpa using hm
          have HM := Lib.hid hm
          clear hm
          go_wp2
          go_ret2
          exact ⟨by rw [Hu.out, K.unary, if_pos HM.out]; rfl, rfl⟩
        · have e1 : ((x : Int) == most) = false := by simpa using hm
          have HM := Lib.hid hm
          clear hm
          go_wp2
          go_roundg (bs.length - i - (x + 1))
          case measure => have := Hk.out; omega
          case rel => exact ⟨x + 1, by omega, rfl, by go_num, rfl, by rw [Hu.out, K.unary, if_neg HM.out]; rfl⟩
    · have hdr : bs.drop (i + x) = [] := List.drop_eq_nil_of_le (by omega)
      rw [hdr] at hu
      have Hu := Lib.hid hu
      clear hu hdr
      go_wp2
      go_ret2
      exact ⟨by rw [Hu.out]; rfl, rfl⟩
end Go.Proofs.Ytickefjlkpdifaa
