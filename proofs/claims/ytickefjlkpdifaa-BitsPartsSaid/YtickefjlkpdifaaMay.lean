/-
  The walks of may (the program's) and May (the reference's).
-/
import Derived.Test.YtickefjlkpdifaaAnyA
import Derived.Test.YtickefjlkpdifaaLibB
import Derived.Test.YtickefjlkpdifaaPlainE
namespace Go.Proofs.Ytickefjlkpdifaa
open Go.RowKit
set_option linter.unusedVariables false
set_option linter.unusedSimpArgs false

theorem cast_shl (x r : Nat) : (((x : Int) * 2 ^ r % 256 == 0) : Bool) = (x * 2 ^ r % 256 == 0) := by
  have h1 : (x : Int) * 2 ^ r = ((x * 2 ^ r : Nat) : Int) := by push_cast; rfl
  rw [h1]
  generalize x * 2 ^ r = y
  have h2 : (y : Int) % 256 = ((y % 256 : Nat) : Int) := by omega
  rw [h2]
  generalize y % 256 = z
  rw [Bool.eq_iff_iff]; simp
theorem may_any (s : ByteArray) (n : Int) (w : World) (hs : s.size ≤ 140737488351232) (hn : n ≤ 9223372036854775807) :
    Calls Try.prog 42 #[.agg #[.string s, .int .i64 n]] w fun e w' => e = .returned (.bool (K.mayR s.data.toList n)) ∧ Kept [] w w' := by
  by_cases h0 : n < 0
  · have hm : K.mayR s.data.toList n = false := by
      unfold K.mayR
      rw [decide_eq_false (by omega)]
      rfl
    rw [hm]
    have g1 : decide (n < 0) = true := by simpa using h0
    clear hm hn
    go_enter Try.func42, Try.ntmps42
    go_wp2
    go_ret
    exact ⟨rfl, (Kept.refl _ _).alloc _⟩
  · obtain ⟨n, rfl⟩ := Int.eq_ofNat_of_zero_le (show 0 ≤ n by omega)
    have g1 : decide ((n : Int) < 0) = false := by simp
    have hl := toList_length s
    have hq : (n : Int) / 8 ≤ 1152921504606846976 := by omega
    by_cases h1 : s.size = n / 8 + (n % 8 + 7) / 8
    · by_cases h8 : n % 8 = 0
      · rw [K.mayR_full _ _ (by rw [hl]; exact h1) h8]
        have t1 : ((s.size : Int) != (n : Int) / 8 + ((n : Int) % 8 + 7) / 8) = false := by simp; omega
        have t2 : ((n : Int) % 8 == 0) = true := by simp; omega
        have H1 := Lib.hid h1
        clear h1 hl hn hs
        go_enter Try.func42, Try.ntmps42
        go_wp2
        have t7 : (n : Int).tmod 8 = (n : Int) % 8 := Int.tmod_eq_emod_of_nonneg (by omega)
        go_quiet (fail)
        go_wp2
        go_ret
        exact ⟨rfl, ((Kept.refl _ _).alloc _).drewN _⟩
      · rw [K.mayR_part _ _ (by rw [hl]; exact h1) h8, hl]
        have t1 : ((s.size : Int) != (n : Int) / 8 + ((n : Int) % 8 + 7) / 8) = false := by simp; omega
        have t2 : ((n : Int) % 8 == 0) = false := by simp; omega
        have hlt : s.size - 1 < s.size := by omega
        have t8 : (1 : Int) ≤ (s.size : Int) := by omega
        have t9 : 1 ≤ s.size := by omega
        have t10 : 0 < s.size := by omega
        have t3 : (0 : Int) ≤ (s.size : Int) - 1 := by omega
        have t4 : (s.size : Int) - 1 < (s.size : Int) := by omega
        have t5 : IntKind.i64.wrap ((s.size : Int) - 1) = (s.size : Int) - 1 := IntWalk.i64_in _ (by omega)
        have t6 : ((s.size : Int) - 1).toNat = s.size - 1 := by omega
        have H1 := Lib.hid h1
        have HL := Lib.hid hl
        clear h1 hl hn hs
        go_enter Try.func42, Try.ntmps42
        go_wp2
        have t7 : (n : Int).tmod 8 = (n : Int) % 8 := Int.tmod_eq_emod_of_nonneg (by omega)
        go_quiet (fail)
        go_wp2
        go_ret
        refine ⟨?_, ((Kept.refl _ _).alloc _).drewN _⟩
        have e2 : s.data.toList.getD (s.size - 1) 0 = s[s.size - 1]'hlt := by
          have : s.size - 1 < s.data.toList.length := by rw [HL.out]; exact hlt
          rw [List.getD, List.getElem?_eq_getElem this]; rfl
        rw [e2]
        have e3 := cast_shl (s[s.size - 1]'hlt).toNat (n % 8)
        rw [← e3]
        rfl
    · rw [K.mayR_len _ _ (by rw [hl]; exact h1)]
      have t1 : ((s.size : Int) != (n : Int) / 8 + ((n : Int) % 8 + 7) / 8) = true := by simp; omega
      have H1 := Lib.hid h1
      clear h1 hl hn hs
      go_enter Try.func42, Try.ntmps42
      go_wp2
      go_ret
      exact ⟨rfl, (Kept.refl _ _).alloc _⟩

/-- In May's loop: the bits up to x are 0. -/
def MayI (w0 : World) (bs : List Bool) (n : Nat) (k : Nat) (c : Value) (w : World) : Prop :=
  ∃ x, n ≤ x ∧ x ≤ bs.length ∧ k = bs.length - x ∧ c = .int .i64 (x : Nat) ∧ w0 = w ∧ (bs.drop n).all (! ·) = (bs.drop x).all (! ·)

theorem refMay_any (s : ByteArray) (n : Int) (w : World) (hs : s.size ≤ 1000000000) :
    Calls Try.prog 43 #[.agg #[.string s, .int .i64 n]] w fun e w' => e = .returned (.bool (K.mayR s.data.toList n)) ∧ Kept [] w w' := by
  have hLs : 8 * s.data.toList.length = 8 * s.size := by rw [toList_length]
  have HLS := Lib.hid hLs
  clear hLs
  go_enter Try.func43, Try.ntmps43
  go_wp2_with fail
  have hh0 : (w.alloc (.cells #[.string s, .int .i64 n] 55)).heap[w.heap.size]? = some (.cells #[.string s, .int .i64 n] 55 (0, 0)) := heap_alloc_new _ _
  have hkW : Kept [] w (w.alloc (.cells #[.string s, .int .i64 n] 55)) := (Kept.refl _ _).alloc _
  generalize w.alloc (.cells #[.string s, .int .i64 n] 55) = W0 at hh0 hkW ⊢
  refine (refOf_ok _ _ hs).mono ?_
  rintro e w1 ⟨ao, co, rfl, hrow, hk1, hfo, hco, hcm⟩
  rw [HLS.out]
  have hh := hk1.heap hh0 (by simp)
  have c0 : w1.cell? ⟨w.heap.size, 0, none⟩ = _ := cell_of_row w1 w.heap.size 0 _ _ _ hh
  have c1 : w1.cell? ⟨w.heap.size, 1, none⟩ = _ := cell_of_row w1 w.heap.size 1 _ _ _ hh
  simp at c0 c1
  obtain ⟨ao', co', hve, -, -, hsee, -⟩ := hrow.sees
  have hsee2 : Sees w1 1 ao (8 * s.size) (bis (K.bitsOf s.data.toList)) := by
    injection hve with h1 h2 h3
    subst h1
    rw [bis_length, bitsOf_len] at hsee
    exact hsee
  have hkw := hkW.new hk1 (by simp [Fresh])
  have HKK := Lib.hid hkw
  have HSE := Lib.hid hsee2
  clear hh hh0 hkW hk1 hfo hco hcm hve hsee hrow hkw hsee2
  by_cases h0 : 0 ≤ n ∧ n ≤ (8 * s.size : Nat) ∧ ((8 * s.size : Nat) : Int) - n < 8
  · obtain ⟨n, rfl⟩ := Int.eq_ofNat_of_zero_le h0.1
    have hm : K.mayR s.data.toList n = ((K.bitsOf s.data.toList).drop n).all (! ·) := by
      unfold K.mayR
      rw [toList_length, decide_eq_true h0]
      rfl
    have HM := Lib.hid hm
    have g1 : decide ((n : Int) < 0) = false := by simp
    have g2 : decide (8 * (s.size : Int) < (n : Int)) = false := by simp; omega
    have g3 : decide (8 ≤ 8 * (s.size : Int) - (n : Int)) = false := by simp; omega
    have hn : n ≤ 8 * s.size := by omega
    clear hm h0
    go_wp2
    go_loopg [4] (8 * s.size - n) (fun k c wr => MayI w1 (K.bitsOf s.data.toList) n k c wr)
    case atStart => exact ⟨n, by omega, by rw [bitsOf_len]; exact hn, by rw [bitsOf_len], rfl, rfl, rfl⟩
    case round =>
      obtain ⟨x, hx, hxl, hk, rfl, rfl, hall⟩ := hrel
      rw [bitsOf_len] at hxl hk
      have Hk := Lib.hid hk
      clear hk
      by_cases hlt : x < 8 * s.size
      · have hlt' : x < (K.bitsOf s.data.toList).length := by rw [bitsOf_len]; exact hlt
        obtain ⟨b, off, rfl, hcells⟩ := HSE.out.at (by rw [bis_length]; omega)
        have hc := hcells x _ (bis_get _ x hlt')
        have hdr := List.drop_eq_getElem_cons hlt'
        have hbt : K.bt (K.bitsOf s.data.toList) x = ((K.bitsOf s.data.toList)[x]).toNat := by simp [K.bt, List.getD, List.getElem?_eq_getElem hlt']
        rw [hbt] at hc
        rw [hdr, List.all_cons] at hall
        have hxi : (x : Int) < 8 * (s.size : Int) := by omega
        clear hcells hdr hbt
        cases hb : (K.bitsOf s.data.toList)[x] with
        | false =>
          rw [hb] at hc hall
          have Hall := Lib.hid hall
          clear hb hall
          go_wp2
          go_roundg (8 * s.size - (x + 1))
          case measure => have := Hk.out; omega
          case rel => exact ⟨x + 1, by omega, by rw [bitsOf_len]; omega, by rw [bitsOf_len], by go_num, rfl, by rw [Hall.out]; rfl⟩
        | true =>
          rw [hb] at hc hall
          have Hall := Lib.hid hall
          clear hb hall
          go_wp2
          go_ret
          exact ⟨by rw [HM.out, Hall.out]; rfl, HKK.out⟩
      · have hdr : (K.bitsOf s.data.toList).drop x = [] := List.drop_eq_nil_of_le (by rw [bitsOf_len]; omega)
        rw [hdr] at hall
        have Hall := Lib.hid hall
        clear hdr hall
        go_wp2
        go_ret
        exact ⟨by rw [HM.out, Hall.out]; rfl, HKK.out⟩
  · have hm : K.mayR s.data.toList n = false := by
      unfold K.mayR
      rw [toList_length, decide_eq_false h0]
      rfl
    have HM := Lib.hid hm
    clear hm
    by_cases h1 : n < 0
    · have g1 : decide (n < 0) = true := by simpa using h1
      clear h0
      go_wp2
      go_ret
      exact ⟨by rw [HM.out]; rfl, HKK.out⟩
    · have g1 : decide (n < 0) = false := by simpa using h1
      by_cases h2 : (8 * s.size : Nat) < n
      · have g2 : decide (8 * (s.size : Int) < n) = true := by simp; omega
        clear h0
        go_wp2
        go_ret
        exact ⟨by rw [HM.out]; rfl, HKK.out⟩
      · have g2 : decide (8 * (s.size : Int) < n) = false := by simp; omega
        have g3 : decide (8 ≤ 8 * (s.size : Int) - n) = true := by simp; omega
        have w8 : IntKind.i64.wrap (8 * (s.size : Int) - n) = 8 * (s.size : Int) - n := IntWalk.i64_in _ (by omega)
        clear h0
        go_wp2
        go_ret
        exact ⟨by rw [HM.out]; rfl, HKK.out⟩
end Go.Proofs.Ytickefjlkpdifaa
