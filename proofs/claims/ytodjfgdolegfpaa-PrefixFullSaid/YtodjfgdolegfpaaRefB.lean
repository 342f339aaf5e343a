/-
  The walks of the references of layer 1 that read: Of, Number, Take, Unary.
-/
import Derived.Test.YtodjfgdolegfpaaRefA
namespace Go.Proofs.Ytodjfgdolegfpaa
open Go.RowKit
set_option linter.unusedVariables false
set_option linter.unusedSimpArgs false

/-- In Of's outer loop: i bytes are told. -/
def OfI (w0 : World) (s : List UInt8) (k : Nat) (o i : Value) (w : World) : Prop :=
  ∃ m, m ≤ s.length ∧ k = s.length - m ∧ i = .int .i64 (m : Nat) ∧ Row w 3 o (bis ((K.bitsOf s).take (8 * m))) ∧ Kept [] w0 w ∧ Fresh w0.heap.size (foot o)
/-- In Of's inner loop: x bits of the byte are told. -/
def OfJ (w0 : World) (s : List UInt8) (m : Nat) (k : Nat) (o j : Value) (w : World) : Prop :=
  ∃ x, x ≤ 8 ∧ k = 8 - x ∧ j = .int .i64 (7 - (x : Nat)) ∧ Row w 3 o (bis ((K.bitsOf s).take (8 * m + x))) ∧ Kept [] w0 w ∧ Fresh w0.heap.size (foot o)

/-- What Of leaves. -/
def OfPost (s : List UInt8) (w : World) (e : Ending) (w' : World) : Prop :=
  ∃ a c, e = .returned (.slice a (8 * s.length) c) ∧ Row w' 3 (.slice a (8 * s.length) c) (bis (K.bitsOf s)) ∧ Kept [] w w' ∧ Fresh w.heap.size (footA a) ∧ 8 * s.length ≤ c ∧ c ≤ maxLen

set_option maxHeartbeats 400000 in
theorem refOf_ok (s : ByteArray) (w : World) (hl : s.size ≤ 1000000000) : Calls Try.prog 18 #[.string s] w (OfPost s.data.toList w) := by
  have hsz : s.data.toList.length = s.size := by simp only [Array.length_toList]; rfl
  have HS := Lib.hid hsz
  clear hsz
  go_enter Try.func18, Try.ntmps18
  go_wp2
  go_loopg [3, 4] s.size (fun k o i wr => OfI w s.data.toList k o i wr)
  case atStart => exact ⟨0, by omega, by rw [HS.out]; omega, rfl, Row.nil _ _, Kept.refl _ _, by simp [Fresh, foot, Value.ownBlock]⟩
  case round =>
    obtain ⟨m, hm, hk, rfl, hrow, hkept, hfr⟩ := hrel
    rw [HS.out] at hm hk
    have Hk := Lib.hid hk
    have HR := Lib.hid hrow
    have HK := Lib.hid hkept
    have HF := Lib.hid hfr
    clear hk hrow hkept hfr
    by_cases hlt : m < s.size
    · obtain ⟨wo, rfl⟩ : ∃ wo : World, wo = wr := ⟨_, rfl⟩
      have hb : ((s[m]'hlt).toNat : Nat) < 256 := (s[m]'hlt).toNat_lt
      have hmi : (m : Int) < (s.size : Int) := by omega
      go_wp2
      go_loopg [3, 5] 8 (fun k o j wr => OfJ w s.data.toList m k o j wr)
      case atStart => exact ⟨0, by omega, by omega, by rfl, HR.out, HK.out, HF.out⟩
      case round =>
        obtain ⟨x, hx, hk, rfl, hrow, hkept, hfr⟩ := hrel
        have Hk2 := Lib.hid hk
        clear hk
        by_cases hx8 : x < 8
        · have htb : bits BinOp.and IntKind.i64 (((s[m]'hlt).toNat : Int) / 2 ^ (7 - x)) 1 = ((K.tbit s.data.toList (8 * m + x)).toNat : Nat) := by
            have e2 : s.data.toList.getD m 0 = s[m]'hlt := by
              have : m < s.data.toList.length := by rw [HS.out]; exact hlt
              rw [List.getD, List.getElem?_eq_getElem this]; rfl
            have e3 : (8 * m + x) / 8 = m := by omega
            have e4 : (8 * m + x) % 8 = x := by omega
            unfold K.tbit
            rw [e3, e4, e2, K.testBit_div, show (((s[m]'hlt).toNat : Int) / 2 ^ (7 - x)) = (((s[m]'hlt).toNat / 2 ^ (7 - x) : Nat) : Int) by norm_cast]
            exact and_one_i64 _ (by have := Nat.div_le_self (s[m]'hlt).toNat (2 ^ (7 - x)); omega)
          have hxs : (bis ((K.bitsOf s.data.toList).take (8 * m + x))).length ≤ 8000000008 := by rw [bis_length, List.length_take]; omega
          have L1 : (bis ((K.bitsOf s.data.toList).take (8 * m + x))).length + 1 ≤ maxLen := by simp only [maxLen]; omega
          have L2 : ((bis ((K.bitsOf s.data.toList).take (8 * m + x))).length + 1) * 8 ≤ 140737488355328 := by omega
          have HKE := Lib.hid hkept
          have HFR := Lib.hid hfr
          have HTB := Lib.hid htb
          clear hkept hfr htb
          generalize hxq : bis ((K.bitsOf s.data.toList).take (8 * m + x)) = xs at hrow L1 L2 hxs
          have HXQ := Lib.hid hxq
          clear hxq
          have w7 : IntKind.i64.wrap (7 - (x : Int)) = 7 - (x : Int) := IntWalk.i64_in _ (by omega)
          go_wp2_with ((at_builtin; refine wp_app1 wr rfl _ _ 22 rfl 3 (.int .i64 0) 8 Try.underlying22 Try.infoInt rfl _ (.int .i64 (bits BinOp.and IntKind.i64 (((s[m]'hlt).toNat : Int) / 2 ^ (7 - x)) 1)) xs rfl rfl rfl rfl hrow L1 L2 ?_; intro g cp w1 hrow1 hk1 hf1))
          go_roundg (8 - (x + 1))
          case measure => have := Hk2.out; omega
          case rel =>
            have hl : xs.length = 8 * m + x := by rw [← HXQ.out, bis_length, List.length_take, K.bitsOf_length, HS.out]; omega
            refine ⟨x + 1, by omega, rfl, by go_num, ?_, HKE.out.trans hk1 (fun y hy => .inr (HFR.out y hy)), ?_⟩
            · rw [← Nat.add_assoc, K.bitsOf_take _ _ (by rw [HS.out]; omega), bis_append, HXQ.out]
              rw [HTB.out] at hrow1
              exact hrow1
            · intro y hy
              obtain rfl : y = g := by simpa [foot, Value.ownBlock] using hy
              rcases hf1 with h | h
              · exact HFR.out _ h
              · exact Nat.le_trans HKE.out.size h
        · obtain rfl : x = 8 := by omega
          have HR8 := Lib.hid hrow
          have HK8 := Lib.hid hkept
          have HF8 := Lib.hid hfr
          clear hrow hkept hfr
          go_wp2
          go_roundg (s.size - (m + 1))
          case measure => have := Hk.out; omega
          case rel => exact ⟨m + 1, by rw [HS.out]; omega, by rw [HS.out], by go_num, by rw [show 8 * (m + 1) = 8 * m + 8 by omega]; exact HR8.out, HK8.out, HF8.out⟩
    · obtain rfl : m = s.size := by omega
      have hall : (K.bitsOf s.data.toList).take (8 * s.size) = K.bitsOf s.data.toList := List.take_of_length_le (by rw [K.bitsOf_length, HS.out]; omega)
      obtain ⟨a, c, rfl, h1, h2, -, h3⟩ := HR.out.sees
      have hlen : (bis ((K.bitsOf s.data.toList).take (8 * s.size))).length = 8 * s.data.toList.length := by rw [hall, bis_length, K.bitsOf_length]
      have HL := Lib.hid hlen
      have HA := Lib.hid hall
      have H3 := Lib.hid h3
      clear hlen hall h3
      go_wp2
      go_ret
      have hfo : footA a = foot (.slice a (bis ((K.bitsOf s.data.toList).take (8 * s.size))).length c) := H3.out
      refine ⟨a, c, by rw [← HL.out]; rfl, ?_, HK.out, by rw [hfo]; exact HF.out, by rw [← HL.out]; exact h1, h2⟩
      have := HR.out
      rw [HL.out, HA.out] at this
      exact this

/-- In Number's loop: x bits are reckoned. -/
def NumI (w0 : World) (bs : List Bool) (k : Nat) (v i : Value) (w : World) : Prop :=
  ∃ x, x ≤ bs.length ∧ k = bs.length - x ∧ i = .int .i64 (x : Nat) ∧ v = .int .u64 (K.num (bs.take x) : Nat) ∧ w0 = w

theorem refNumber_ok (a : Option Addr) (n cap : Nat) (bs : List Bool) (w : World) (hn : bs.length = n) (hl : n ≤ 64) (h : Sees w 1 a n (bis bs)) :
    Calls Try.prog 27 #[.slice a n cap] w fun e w' => e = .returned (.int .u64 (K.num bs : Nat)) ∧ w = w' := by
  subst hn
  have H := Lib.hid h
  clear h
  go_enter Try.func27, Try.ntmps27
  go_wp2
  go_loopg [3, 4] bs.length (fun k v i wr => NumI w bs k v i wr)
  case atStart => exact ⟨0, by omega, by omega, rfl, rfl, rfl⟩
  case round =>
    obtain ⟨x, hx, hk, rfl, rfl, rfl⟩ := hrel
    have Hk := Lib.hid hk
    clear hk
    by_cases hlt : x < bs.length
    · obtain ⟨b, off, rfl, hcells⟩ := H.out.at (by rw [bis_length]; omega)
      have hc := hcells x _ (bis_get bs x hlt)
      have hnx := K.num_take bs x hlt
      have hbt := K.bt_le bs x
      have hlow := K.num_lt (bs.take x)
      rw [List.length_take, Nat.min_eq_left hx] at hlow
      have hlow2 : K.num (bs.take x) ≤ 9223372036854775807 := by
        have : 2 ^ x ≤ 2 ^ 63 := Nat.pow_le_pow_right (by decide) (by omega)
        omega
      have HN := Lib.hid hnx
      clear hcells hnx hlow
      have wb : IntKind.u64.wrap (K.bt bs x : Int) = (K.bt bs x : Int) := by rw [IntKind.wrap_u64]; omega
      generalize K.num (bs.take x) = V at HN hlow2
      generalize K.bt bs x = B at HN hbt hc wb
      go_wp2
      go_roundg (bs.length - (x + 1))
      case measure => have := Hk.out; omega
      case rel => exact ⟨x + 1, by omega, rfl, by go_num, by rw [HN.out]; go_num, rfl⟩
    · obtain rfl : x = bs.length := by omega
      go_wp2
      go_ret
      exact ⟨ret_k (by rw [List.take_of_length_le (Nat.le_refl _)]), rfl⟩
end Go.Proofs.Ytodjfgdolegfpaa
