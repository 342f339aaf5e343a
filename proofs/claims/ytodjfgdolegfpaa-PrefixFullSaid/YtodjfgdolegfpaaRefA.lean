/-
  The walks of the references of layer 1: Bits, Text, Of, Number, Take, Unary, Slice, May, Join.
-/
import Derived.Test.YtodjfgdolegfpaaWriter
import Derived.Test.YtodjfgdolegfpaaLib
import Derived.Test.YtodjfgdolegfpaaPlainA
import Derived.Test.YtodjfgdolegfpaaPut
namespace Go.Proofs.Ytodjfgdolegfpaa
open Go.RowKit
set_option linter.unusedVariables false
set_option linter.unusedSimpArgs false

theorem Try.infoInt : (Try.prog.info? 3).map (fun i => (i.zero, i.size, i.bytes)) = some (some (.int .i64 0), 1, 8) := by kernel_rfl
/-- Bits as numbers 0 and 1. -/
def bis (l : List Bool) : List Value := l.map fun b => .int .i64 (b.toNat : Nat)
theorem bis_length (l : List Bool) : (bis l).length = l.length := by simp [bis]
theorem bis_get (l : List Bool) (j : Nat) (h : j < l.length) : (bis l)[j]? = some (.int .i64 (K.bt l j : Nat)) := by
  simp [bis, K.bt, List.getD, List.getElem?_eq_getElem h]
theorem bis_append (a b : List Bool) : bis (a ++ b) = bis a ++ bis b := by simp [bis]

theorem set_back (z : Value) (D : List Value) (m : Nat) (h : m < D.length) : (List.replicate (m + 1) z ++ D.drop (m + 1)).set m (D[m]'h) = List.replicate m z ++ D.drop m := by
  rw [List.replicate_succ', List.append_assoc, List.set_append_right _ _ (by simp), List.drop_eq_getElem_cons h]
  simp

/-- In Bits' loop: j bits are laid, from the end. -/
def BitsI (w0 : World) (g v n : Nat) (k : Nat) (x i : Value) (w : World) : Prop :=
  ∃ j, j ≤ n ∧ k = n - j ∧ i = .int .i64 ((n : Int) - 1 - j) ∧ x = .int .u64 (v / 2 ^ j : Nat) ∧
    Row w 3 (.slice (some ⟨g, 0, none⟩) n n) (List.replicate (n - j) (.int .i64 0) ++ (bis (K.low v n)).drop (n - j)) ∧ Kept [] w0 w

set_option maxHeartbeats 400000 in
theorem refBits_ok (v n : Nat) (w : World) (hn : n ≤ 64) (hv : v < 18446744073709551616) :
    Calls Try.prog 45 #[.int .u64 v, .int .i64 n] w fun e w' => ∃ g, e = .returned (.tuple #[.slice (some ⟨g, 0, none⟩) n n, .bool (decide (v < 2 ^ n))]) ∧
      Row w' 3 (.slice (some ⟨g, 0, none⟩) n n) (bis (K.low v n)) ∧ Kept [] w w' ∧ w.heap.size ≤ g := by
  have g1 : decide ((n : Int) < 0) = false := by simp
  have g2 : decide (64 < (n : Int)) = false := by simp; omega
  go_enter Try.func45, Try.ntmps45
  go_wp2_with ((at_make; refine wp_make1 rfl _ _ 22 rfl 3 (.int .i64 0) 8 Try.underlying22 Try.infoInt rfl .i64 .i64 _ _ n n rfl rfl rfl rfl (Nat.le_refl _) (by omega) (by simp only [maxLen]; omega) ?_; intro w1 hrow hk1))
  go_loopg [0, 7] n (fun k x i wr => BitsI w w.heap.size v n k x i wr)
  case atStart => exact ⟨0, by omega, by omega, by go_num, by simp, by rw [List.drop_of_length_le (by simp [bis_length, K.low_length])]; simpa using hrow, hk1⟩
  case round =>
    obtain ⟨j, hj, hk, rfl, rfl, hrow, hkept⟩ := hrel
    have Hk := Lib.hid hk
    clear hk
    by_cases hlt : j < n
    · have hcell : wr.cell? ⟨w.heap.size, n - 1 - j, none⟩ = some (.int .i64 0) := hrow.cellAt (by
        rw [List.getElem?_append_left (by simp; omega), List.getElem?_replicate, if_pos (by omega)])
      have hfree := hrow.free (n - 1 - j)
      have hrow2 := hrow.put (n - 1 - j) (.int .i64 ((K.low v n).getD (n - 1 - j) false).toNat)
      have hV : v / 2 ^ j < 18446744073709551616 := by have := Nat.div_le_self v (2 ^ j); omega
      have hx : ((v / 2 ^ j % 2 : Nat) : Int) = (((K.low v n).getD (n - 1 - j) false).toNat : Int) := by
        rw [← K.testBit_div, List.getD, K.low_succ_get _ _ _ (by omega)]
        simp [show n - 1 - (n - 1 - j) = j by omega]
      have hnx : v / 2 ^ j / 2 = v / 2 ^ (j + 1) := by rw [Nat.div_div_eq_div_mul, Nat.pow_succ]
      have HX := Lib.hid hx
      have HN := Lib.hid hnx
      have HR := Lib.hid hrow2
      have HR1 := Lib.hid hrow
      clear hx hnx hrow2 hrow
      have wV : IntKind.i64.wrap ((v / 2 ^ j % 2 : Nat) : Int) = ((v / 2 ^ j % 2 : Nat) : Int) := IntWalk.i64_in _ (by omega)
      generalize v / 2 ^ j = V at hV HX HN wV
      go_wp2
      go_roundg (n - (j + 1))
      case measure => have := Hk.out; omega
      case rel =>
        refine ⟨j + 1, by omega, rfl, by go_num, by rw [← HN.out]; go_num, ?_, hkept.setCell (by simp) _⟩
        have h1 : n - 1 - j < (bis (K.low v n)).length := by rw [bis_length, K.low_length]; omega
        have hb := set_back (.int .i64 0) (bis (K.low v n)) (n - 1 - j) h1
        rw [show n - 1 - j + 1 = n - j by omega] at hb
        have he : (bis (K.low v n))[n - 1 - j]'h1 = .int .i64 ((V : Int) % 2) := by
          have := bis_get (K.low v n) (n - 1 - j) (by rw [K.low_length]; omega)
          rw [List.getElem?_eq_getElem h1] at this
          rw [Option.some.inj this]
          unfold K.bt
          rw [← HX.out]
          go_num
        rw [show n - (j + 1) = n - 1 - j by omega, ← hb, he]
        exact HR1.out.put (n - 1 - j) _
    · obtain rfl : j = n := by omega
      go_wp2
      go_ret2
      refine ⟨w.heap.size, ?_, by simpa using hrow, hkept, Nat.le_refl _⟩
      have hd : decide (v < 2 ^ j) = ((v : Int) / 2 ^ j == 0) := by
        rw [show ((v : Int) / 2 ^ j) = ((v / 2 ^ j : Nat) : Int) by norm_cast]
        have h2 : 0 < 2 ^ j := Nat.pow_pos (by decide)
        have h3 := Nat.div_eq_zero_iff_lt (x := v) h2
        rw [Bool.eq_iff_iff]
        simp only [decide_eq_true_eq, beq_iff_eq]
        omega
      rw [hd]
      rfl
theorem refBits_no (v n : Int) (w : World) (hn : n < 0 ∨ 64 < n) :
    Calls Try.prog 45 #[.int .u64 v, .int .i64 n] w fun e w' => e = .returned (.tuple #[.slice none 0 0, .bool false]) ∧ w = w' := by
  by_cases h : n < 0
  · have g1 : decide (n < 0) = true := by simpa using h
    go_enter Try.func45, Try.ntmps45
    go_wp2
    go_ret2
    exact ⟨rfl, rfl⟩
  · have g1 : decide (n < 0) = false := by simpa using h
    have g2 : decide (64 < n) = true := by simp; omega
    go_enter Try.func45, Try.ntmps45
    go_wp2
    go_ret2
    exact ⟨rfl, rfl⟩

/-- In Text's outer loop: m bytes are told. -/
def TextI (w0 : World) (bs : List Bool) (k : Nat) (o i : Value) (w : World) : Prop :=
  ∃ m, 8 * m ≤ bs.length + 7 ∧ k = bs.length + 8 - 8 * m ∧ i = .int .i64 (8 * m : Nat) ∧ Row w 5 o (u8s ((K.pack bs).take m)) ∧ Kept [] w0 w ∧ Fresh w0.heap.size (foot o)
/-- In Text's inner loop: j bits of the byte are reckoned. -/
def TextJ (w0 : World) (bs : List Bool) (m : Nat) (k : Nat) (b j : Value) (w : World) : Prop :=
  ∃ x, x ≤ 8 ∧ k = 8 - x ∧ j = .int .i64 (x : Nat) ∧ b = .int .i64 (K.acc bs m x : Nat) ∧ w0 = w

set_option maxRecDepth 100000 in
set_option maxHeartbeats 400000 in
theorem refText_ok (a : Option Addr) (cap : Nat) (bs : List Bool) (w : World) (hl : bs.length ≤ 1000000000000) (h : Sees w 1 a bs.length (bis bs)) :
    Calls Try.prog 33 #[.slice a bs.length cap] w fun e w' => e = .returned (.string ⟨(K.pack bs).toArray⟩) ∧ Kept [] w w' := by
  have H := Lib.hid h
  clear h
  go_enter Try.func33, Try.ntmps33
  go_wp2
  go_loopg [3, 4] (bs.length + 8) (fun k o i wr => TextI w bs k o i wr)
  case atStart => exact ⟨0, by omega, by omega, by rfl, Row.nil _ _, Kept.refl _ _, by simp [Fresh, foot, Value.ownBlock]⟩
  case round =>
    obtain ⟨m, hm, hk, rfl, hrow, hkept, hfr⟩ := hrel
    have Hk := Lib.hid hk
    clear hk
    have HR := Lib.hid hrow
    clear hrow
    by_cases hlt : 8 * m < bs.length
    · have hs := H.out.kept0 hkept
      obtain ⟨b, off, rfl, hcells⟩ := hs.at (by rw [bis_length]; omega)
      obtain ⟨wo, rfl⟩ : ∃ wo : World, wo = wr := ⟨_, rfl⟩
      go_wp2
      go_loopg [5, 6] 8 (fun k b j wr => TextJ wo bs m k b j wr)
      case atStart => exact ⟨0, by omega, by omega, rfl, rfl, rfl⟩
      case round =>
        obtain ⟨x, hx, hk, rfl, rfl, rfl⟩ := hrel
        have Hk2 := Lib.hid hk
        clear hk
        have hacc := K.acc_lt bs m x
        have hacc2 : K.acc bs m x ≤ 256 := by
          have : 2 ^ x ≤ 2 ^ 8 := Nat.pow_le_pow_right (by decide) hx
          omega
        have hnx : K.acc bs m (x + 1) = K.acc bs m x * 2 + K.bt bs (8 * m + x) := rfl
        have hbt := K.bt_le bs (8 * m + x)
        have HN := Lib.hid hnx
        clear hnx hacc
        by_cases hx8 : x < 8
        · by_cases hin : 8 * m + x < bs.length
          · have hc := hcells (8 * m + x) _ (bis_get bs _ hin)
            clear hcells
            generalize K.acc bs m x = A at HN hacc2
            generalize K.bt bs (8 * m + x) = B at HN hbt hc
            go_wp2
            go_roundg (8 - (x + 1))
            case measure => have := Hk2.out; omega
            case rel => exact ⟨x + 1, by omega, rfl, by go_num, by rw [HN.out]; go_num, rfl⟩
          · have hb0 : K.bt bs (8 * m + x) = 0 := by
              have : bs[8 * m + x]? = none := List.getElem?_eq_none (by omega)
              simp [K.bt, List.getD, this]
            have HB := Lib.hid hb0
            clear hcells hb0 hbt
            generalize K.acc bs m x = A at HN hacc2
            go_wp2
            go_roundg (8 - (x + 1))
            case measure => have := Hk2.out; omega
            case rel => exact ⟨x + 1, by omega, rfl, by go_num, by rw [HN.out, HB.out]; go_num, rfl⟩
        · obtain rfl : x = 8 := by omega
          have hbN := K.byteN_lt bs m
          have hpt := K.pack_take bs m hlt
          rw [← K.acc_eight] at hbN hpt
          clear HN hbt hacc2 hx8
          have wA : IntKind.u8.wrap (K.acc bs m 8 : Int) = (K.acc bs m 8 : Int) := by rw [IntKind.wrap_u8]; omega
          have HP := Lib.hid hpt
          have hrow := HR.out
          have hlen : (u8s ((K.pack bs).take m)).length = m := by simp [u8s, K.pack_length]; omega
          have L1 : (u8s ((K.pack bs).take m)).length + 1 ≤ maxLen := by rw [hlen]; simp only [maxLen]; omega
          have L2 : ((u8s ((K.pack bs).take m)).length + 1) * 1 ≤ 140737488355328 := by rw [hlen]; omega
          clear hpt hcells hlen
          generalize K.acc bs m 8 = A at hbN HP wA
          generalize hxs : u8s ((K.pack bs).take m) = xs at hrow L1 L2
          have Hxs := Lib.hid hxs
          clear hxs
          go_wp2_with ((at_builtin; refine wp_app1 wo rfl _ _ 82 rfl 5 (.int .u8 0) 1 Try.underlying82 Try.infoU8 rfl _ (.int .u8 A) xs rfl rfl rfl rfl hrow L1 L2 ?_; intro g cp w1 hrow1 hk1 hf1))
          go_roundg (bs.length + 8 - 8 * (m + 1))
          case measure => have := Hk.out; omega
          case rel =>
            refine ⟨m + 1, by omega, rfl, by go_num, ?_, hkept.trans hk1 (fun x hx => .inr (hfr x hx)), ?_⟩
            · rw [HP.out, u8s, List.map_append]
              have e : (UInt8.ofNat A).toNat = A := by rw [UInt8.toNat_ofNat']; exact Nat.mod_eq_of_lt hbN
              simp only [List.map_cons, List.map_nil, e]
              rw [← u8s, Hxs.out]
              exact hrow1
            · intro x hx
              obtain rfl : x = g := by simpa [foot, Value.ownBlock] using hx
              rcases hf1 with h | h
              · exact hfr _ h
              · exact Nat.le_trans hkept.size h
    · have hc := Row.text HR.out
      have he : (K.pack bs).take m = K.pack bs := List.take_of_length_le (by rw [K.pack_length]; omega)
      rw [he] at hc
      clear he
      go_wp2
      go_ret
      exact ⟨rfl, hkept⟩
end Go.Proofs.Ytodjfgdolegfpaa
