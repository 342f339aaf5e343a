/-
  Take and Unary, of the reader and of the reference, whatever they are asked. The walks of may (the program's) and May (the reference's). The walks of Slice, of the program and of the reference. The walk of Join. The walk of delta's Show.
-/
import Derived.Test.YtdaenajhgbagdaaWriteA
import Derived.Test.YtdaenajhgbagdaaPlainG
import Derived.Test.YtdaenajhgbagdaaLibA
import Derived.Test.YtdaenajhgbagdaaPlainA
namespace Go.Proofs.Ytdaenajhgbagdaa
open Go.RowKit
set_option linter.unusedVariables false
set_option linter.unusedSimpArgs false

theorem toList_length (s : ByteArray) : s.data.toList.length = s.size := by simp only [Array.length_toList]; rfl
theorem bitsOf_len (s : ByteArray) : (K.bitsOf s.data.toList).length = 8 * s.size := by rw [K.bitsOf_length, toList_length]

/-- What Take leaves. -/
def TakePost (r q : Nat) (s : ByteArray) (i : Nat) (n : Int) (w : World) (p : Nat × Nat) (e : Ending) (w' : World) : Prop :=
  e = .returned (.tuple #[.int .u64 p.1, .int .i64 p.2]) ∧ Rd w' r q s (if p.2 = 0 then i + n.toNat else i) ∧ Kept [r] w w'
theorem take_any (r q : Nat) (s : ByteArray) (i : Nat) (n : Int) (w : World) (h : Rd w r q s i) (hs : s.size ≤ 1125899906842624) (hi : i ≤ 8 * s.size) :
    Calls Try.prog 56 #[.pointer (some ⟨r, 0, none⟩), .int .i64 n] w (TakePost r q s i n w (K.takeR (K.bitsOf s.data.toList) i n)) := by
  by_cases hn : n < 0 ∨ 64 < n
  · have hR : K.takeR (K.bitsOf s.data.toList) i n = (0, 2) := by simp [K.takeR, hn]
    rw [hR]
    exact (take_arg r q s i n w h hn).mono fun e w' ⟨he, hw⟩ => ⟨he, by rw [← hw]; simpa using h, by rw [← hw]; exact Kept.refl _ _⟩
  · obtain ⟨m, rfl⟩ := Int.eq_ofNat_of_zero_le (show 0 ≤ n by omega)
    by_cases hl : 8 * s.size < i + m
    · have hR : K.takeR (K.bitsOf s.data.toList) i m = (0, 10) := by unfold K.takeR; rw [if_neg hn, if_pos (by rw [bitsOf_len]; simpa using hl)]
      rw [hR]
      exact (take_short r q s i m w h hs hi (by omega) hl).mono fun e w' ⟨he, k, hw⟩ => ⟨he, by rw [hw]; exact h, by rw [hw]; exact (Kept.refl _ _).drewN _⟩
    · have hR : K.takeR (K.bitsOf s.data.toList) i m = (K.num (K.piece (K.bitsOf s.data.toList) i m), 0) := by unfold K.takeR; rw [if_neg hn, if_neg (by rw [bitsOf_len]; simpa using hl)]; rfl
      rw [hR]
      exact (take_ok r q s i m w h hs (by omega) (by omega)).mono fun e w' ⟨he, h1, h2⟩ => ⟨he, by simpa using h1, h2⟩
theorem refTake_any (a : Option Addr) (L cap : Nat) (bs : List Bool) (i : Nat) (n : Int) (w : World) (hL : bs.length = L) (hl : L ≤ 1000000000000) (hc : L ≤ cap) (hcm : cap ≤ maxLen) (hi : i ≤ L) (hs : Sees w 1 a L (bis bs)) :
    Calls Try.prog 61 #[.slice a L cap, .int .i64 i, .int .i64 n] w fun e w' => e = .returned (.tuple #[.int .u64 (K.takeR bs i n).1, .int .i64 (K.takeR bs i n).2]) ∧ w = w' := by
  subst hL
  by_cases hn : n < 0 ∨ 64 < n
  · have hR : K.takeR bs i n = (0, 2) := by simp [K.takeR, hn]
    rw [hR]
    exact refTake_no a bs.length cap i n w hn
  · obtain ⟨m, rfl⟩ := Int.eq_ofNat_of_zero_le (show 0 ≤ n by omega)
    by_cases hlt : bs.length < i + m
    · have hR : K.takeR bs i m = (0, 10) := by unfold K.takeR; rw [if_neg hn, if_pos (by simpa using hlt)]
      rw [hR]
      exact refTake_short a bs.length cap i m w hl hi (by omega) hlt
    · have hR : K.takeR bs i m = (K.num (K.piece bs i m), 0) := by unfold K.takeR; rw [if_neg hn, if_neg (by simpa using hlt)]; rfl
      rw [hR]
      exact refTake_ok a cap bs i m w hl hc hcm (by omega) (by omega) hs
theorem unary_any (r q : Nat) (s : ByteArray) (i : Nat) (n : Int) (w : World) (h : Rd w r q s i) (hs : s.size ≤ 1125899906842624) (hi : i ≤ 8 * s.size) :
    Calls Try.prog 57 #[.pointer (some ⟨r, 0, none⟩), .int .i64 n] w (UnPost r q s i w (K.unaryR (K.bitsOf s.data.toList) i n)) := by
  by_cases hn : n < 0
  · have hR : K.unaryR (K.bitsOf s.data.toList) i n = (0, 2) := by simp [K.unaryR, hn]
    rw [hR]
    exact (unary_arg r q s i n w h hn).mono fun e w' ⟨he, hw⟩ => ⟨he, by rw [← hw]; simpa using h, by rw [← hw]; exact Kept.refl _ _⟩
  · have hR : K.unaryR (K.bitsOf s.data.toList) i n = K.unary n 0 ((K.bitsOf s.data.toList).drop i) := by simp [K.unaryR, hn]
    rw [hR]
    exact unary_ok r q s i n w h hs hi (by omega)
end Go.Proofs.Ytdaenajhgbagdaa
namespace Go.Proofs.Ytdaenajhgbagdaa
open Go.RowKit
set_option linter.unusedVariables false
set_option linter.unusedSimpArgs false

theorem cast_shl (x r : Nat) : (((x : Int) * 2 ^ r % 256 == 0) : Bool) = (x * 2 ^ r % 256 == 0) := by
  have h1 : (x : Int) * 2 ^ r = ((x * 2 ^ r : Nat) : Int) := by push_cast; rfl
  rw [h1]
  generalize x * 2 ^ r = y
  have h2 : (y : Int) % 256 = ((y % 256 : Nat) : Int) := by omega
  rw [h2]
  generalize y % 256 = z
  rw [Bool.eq_iff_iff]; simp
theorem may_any (s : ByteArray) (n : Int) (w : World) (hs : s.size ≤ 140737488351232) (hn : n ≤ 9223372036854775807) :
    Calls Try.prog 79 #[.agg #[.string s, .int .i64 n]] w fun e w' => e = .returned (.bool (K.mayR s.data.toList n)) ∧ Kept [] w w' := by
  by_cases h0 : n < 0
  · have hm : K.mayR s.data.toList n = false := by
      unfold K.mayR
      rw [decide_eq_false (by omega)]
      rfl
    rw [hm]
    have g1 : decide (n < 0) = true := by simpa using h0
    clear hm hn
    go_enter Try.func79, Try.ntmps79
    go_wp2
    go_ret
    exact ⟨rfl, (Kept.refl _ _).alloc _⟩
  · obtain ⟨n, rfl⟩ := Int.eq_ofNat_of_zero_le (show 0 ≤ n by omega)
    have g1 : decide ((n : Int) < 0) = false := by simp
    have hl := toList_length s
    have hq : (n : Int) / 8 ≤ 1152921504606846976 := by omega
    by_cases h1 : s.size = n / 8 + (n % 8 + 7) / 8
    · by_cases h8 : n % 8 = 0
      · rw [K.mayR_full _ _ (by rw [hl]; exact h1) h8]
        have t1 : ((s.size : Int) != (n : Int) / 8 + ((n : Int) % 8 + 7) / 8) = false := by simp; omega
        have t2 : ((n : Int) % 8 == 0) = true := by simp; omega
        have H1 := Lib.hid h1
        clear h1 hl hn hs
        go_enter Try.func79, Try.ntmps79
        go_wp2
        have t7 : (n : Int).tmod 8 = (n : Int) % 8 := Int.tmod_eq_emod_of_nonneg (by omega)
        go_quiet (fail)
        go_wp2
        go_ret
        exact ⟨rfl, ((Kept.refl _ _).alloc _).drewN _⟩
      · rw [K.mayR_part _ _ (by rw [hl]; exact h1) h8, hl]
        have t1 : ((s.size : Int) != (n : Int) / 8 + ((n : Int) % 8 + 7) / 8) = false := by simp; omega
        have t2 : ((n : Int) % 8 == 0) = false := by simp; omega
        have hlt : s.size - 1 < s.size := by omega
        have t8 : (1 : Int) ≤ (s.size : Int) := by omega
        have t9 : 1 ≤ s.size := by omega
        have t10 : 0 < s.size := by omega
        have t3 : (0 : Int) ≤ (s.size : Int) - 1 := by omega
        have t4 : (s.size : Int) - 1 < (s.size : Int) := by omega
        have t5 : IntKind.i64.wrap ((s.size : Int) - 1) = (s.size : Int) - 1 := IntWalk.i64_in _ (by omega)
        have t6 : ((s.size : Int) - 1).toNat = s.size - 1 := by omega
        have H1 := Lib.hid h1
        have HL := Lib.hid hl
        clear h1 hl hn hs
        go_enter Try.func79, Try.ntmps79
        go_wp2
        have t7 : (n : Int).tmod 8 = (n : Int) % 8 := Int.tmod_eq_emod_of_nonneg (by omega)
        go_quiet (fail)
        go_wp2
        go_ret
        refine ⟨?_, ((Kept.refl _ _).alloc _).drewN _⟩
        have e2 : s.data.toList.getD (s.size - 1) 0 = s[s.size - 1]'hlt := by
          have : s.size - 1 < s.data.toList.length := by rw [HL.out]; exact hlt
          rw [List.getD, List.getElem?_eq_getElem this]; rfl
        rw [e2]
        have e3 := cast_shl (s[s.size - 1]'hlt).toNat (n % 8)
        rw [← e3]
        rfl
    · rw [K.mayR_len _ _ (by rw [hl]; exact h1)]
      have t1 : ((s.size : Int) != (n : Int) / 8 + ((n : Int) % 8 + 7) / 8) = true := by simp; omega
      have H1 := Lib.hid h1
      clear h1 hl hn hs
      go_enter Try.func79, Try.ntmps79
      go_wp2
      go_ret
      exact ⟨rfl, (Kept.refl _ _).alloc _⟩

/-- In May's loop: the bits up to x are 0. -/
def MayI (w0 : World) (bs : List Bool) (n : Nat) (k : Nat) (c : Value) (w : World) : Prop :=
  ∃ x, n ≤ x ∧ x ≤ bs.length ∧ k = bs.length - x ∧ c = .int .i64 (x : Nat) ∧ w0 = w ∧ (bs.drop n).all (! ·) = (bs.drop x).all (! ·)

end Go.Proofs.Ytdaenajhgbagdaa
namespace Go.Proofs.Ytdaenajhgbagdaa
open Go.RowKit
set_option linter.unusedVariables false
set_option linter.unusedSimpArgs false

/-- A piece and an error, as they are returned. -/
def bitsV (p : List UInt8 × Int × Nat) : Value := .tuple #[.agg #[.string ⟨p.1.toArray⟩, .int .i64 p.2.1], .int .i64 p.2.2]

theorem takeR_one (s : ByteArray) (p : Nat) (h : p < 8 * s.size) : K.takeR (K.bitsOf s.data.toList) p 1 = ((K.tbit s.data.toList p).toNat, 0) := by
  unfold K.takeR
  rw [if_neg (by omega), if_neg (by rw [bitsOf_len]; simp; omega), show (1 : Int).toNat = 1 from rfl, K.piece_one _ _ (by rw [toList_length]; exact h), K.num_one]
theorem low_bit (b : Bool) : K.low ((b.toNat : Nat) : Int).toNat (1 : Int).toNat = [b] := by rw [Int.toNat_natCast]; exact K.low_one b
/-- In Slice's loop: j bits are moved. -/
def SliceI (w0 : World) (s : ByteArray) (r q b : Nat) (i n : Nat) (k : Nat) (c : Value) (w : World) : Prop :=
  ∃ j o, j ≤ n ∧ k = n - j ∧ c = .int .i64 (j : Nat) ∧ Rd w r q s (i + j) ∧ Wr w b o (K.piece (K.bitsOf s.data.toList) i j) ∧ Apart [r, q] (b :: foot o) ∧ Kept [] w0 w ∧ Fresh w0.heap.size (b :: foot o)

end Go.Proofs.Ytdaenajhgbagdaa
namespace Go.Proofs.Ytdaenajhgbagdaa
open Go.RowKit
set_option linter.unusedVariables false
set_option linter.unusedSimpArgs false

/-- Pieces as cells. -/
def bitsVals (ps : List (ByteArray × Int)) : List Value := ps.flatMap fun p => [.string p.1, .int .i64 p.2]
theorem bitsVals_length (ps : List (ByteArray × Int)) : (bitsVals ps).length = ps.length * 2 := by
  induction ps with
  | nil => rfl
  | cons p ps ih => simp [bitsVals] at ih ⊢; omega
theorem bitsVals_get (ps : List (ByteArray × Int)) (i : Nat) (p : ByteArray × Int) (h : ps[i]? = some p) : (bitsVals ps)[i * 2]? = some (.string p.1) ∧ (bitsVals ps)[i * 2 + 1]? = some (.int .i64 p.2) := by
  induction ps generalizing i with
  | nil => simp at h
  | cons q ps ih =>
    cases i with
    | zero => simp at h; subst h; simp [bitsVals]
    | succ i =>
      have := ih i (by simpa using h)
      have e : bitsVals (q :: ps) = .string q.1 :: .int .i64 q.2 :: bitsVals ps := by simp [bitsVals]
      rw [e, show (i + 1) * 2 = i * 2 + 1 + 1 by omega]
      simpa using this
/-- Pieces as lists of bytes. -/
def plainPs (ps : List (ByteArray × Int)) : List (List UInt8 × Int) := ps.map fun p => (p.1.data.toList, p.2)
theorem plainPs_get (ps : List (ByteArray × Int)) (i : Nat) (p : ByteArray × Int) (h : ps[i]? = some p) : (plainPs ps)[i]? = some (p.1.data.toList, p.2) := by simp [plainPs, h]

/-- In Join's outer loop: j pieces are joined. -/
def JoinI (w0 : World) (qs : List (List UInt8 × Int)) (b : Nat) (k : Nat) (c : Value) (w : World) : Prop :=
  ∃ j o, j ≤ qs.length ∧ k = qs.length - j ∧ c = .int .i64 (j : Nat) ∧ ((qs.take j).all fun p => K.mayR p.1 p.2) = true ∧ Wr w b o (K.joinBits (qs.take j)) ∧ Kept [] w0 w ∧ Fresh w0.heap.size (b :: foot o)
/-- In its inner loop: x bits of the piece are moved. -/
def JoinJ (w0 : World) (s : ByteArray) (bs : List Bool) (r q b n : Nat) (k : Nat) (c : Value) (w : World) : Prop :=
  ∃ x o, x ≤ n ∧ k = n - x ∧ c = .int .i64 (x : Nat) ∧ Rd w r q s x ∧ Wr w b o (bs ++ (K.bitsOf s.data.toList).take x) ∧ Apart [r, q] (b :: foot o) ∧ Kept [] w0 w ∧ Fresh w0.heap.size (b :: foot o)

set_option maxHeartbeats 1000000 in
theorem join_any (a : Option Addr) (cap : Nat) (ps : List (ByteArray × Int)) (w : World) (h : Sees w 2 a ps.length (bitsVals ps)) (hT : K.total (plainPs ps) ≤ 1000000) (hlen : ps.length ≤ 140737488351232)
    (hp : ∀ p ∈ ps, p.2 ≤ 9223372036854775807) :
    Calls Try.prog 45 #[.slice a ps.length cap] w fun e w' => e = .returned (bitsV (K.joinR (plainPs ps))) ∧ Kept [] w w' := by
  have hql : (plainPs ps).length = ps.length := by simp [plainPs]
  have HQL := Lib.hid hql
  have HP := Lib.hid hp
  have HS := Lib.hid h
  clear h hp hql
  go_enter Try.func45, Try.ntmps45
  go_wp2_with fail
  have hc0 : (w.alloc (.cells #[.string ⟨#[]⟩, .int .i64 0] 35)).heap[w.heap.size]? = some (.cells #[.string ⟨#[]⟩, .int .i64 0] 35 (0, 0)) := heap_alloc_new _ _
  have hkW : Kept [] w (w.alloc (.cells #[.string ⟨#[]⟩, .int .i64 0] 35)) := (Kept.refl _ _).alloc _
  have hzW : (w.alloc (.cells #[.string ⟨#[]⟩, .int .i64 0] 35)).heap.size = w.heap.size + 1 := by simp
  generalize w.alloc (.cells #[.string ⟨#[]⟩, .int .i64 0] 35) = W0 at hc0 hkW hzW ⊢
  have HC0 := Lib.hid hc0
  have HKW := Lib.hid hkW
  have HZW := Lib.hid hzW
  clear hc0 hkW hzW
  refine (newWriter_new _).mono ?_
  rintro e w1 ⟨b, rfl, hw, hk1, hb⟩
  go_wp2_with fail
  go_loopg [13] ps.length (fun k c wr => JoinI W0 (plainPs ps) b k c wr)
  case atStart => exact ⟨0, _, by omega, by rw [HQL.out]; omega, rfl, rfl, hw, hk1, hb⟩
  case round =>
    obtain ⟨j, o, hj, hk, rfl, hall, hwr, hkept, hfr⟩ := hrel
    rw [HQL.out] at hj hk
    have Hk := Lib.hid hk
    have HALL := Lib.hid hall
    clear hk hw hk1 hb hall
    by_cases hlt : j < ps.length
    · have hsr := HS.out.kept0 (HKW.out.new hkept (by simp [Fresh]))
      obtain ⟨b0, off, rfl, hcells⟩ := hsr.at (by rw [bitsVals_length]; omega)
      obtain ⟨⟨t, N⟩, hpj⟩ : ∃ p, ps[j]? = some p := ⟨_, List.getElem?_eq_getElem hlt⟩
      have c0 := hcells _ _ (bitsVals_get ps j _ hpj).1
      have c1 := hcells _ _ (bitsVals_get ps j _ hpj).2
      rw [← Nat.add_assoc] at c1
      have hjl : (j : Int) < (ps.length : Int) := by omega
      have hN := HP.out _ (List.mem_of_getElem? hpj)
      have hqj := plainPs_get ps j _ hpj
      have htl := K.total_get _ _ _ hqj
      simp only [toList_length] at htl
      have hts : t.size ≤ 1000000 := by omega
      have HQJ := Lib.hid hqj
      have HWR := Lib.hid hwr
      have HKE := Lib.hid hkept
      have HFR := Lib.hid hfr
      have HN := Lib.hid hN
      clear hcells hsr hpj hqj htl hwr hkept hfr hN
      go_wp2_with fail
      have hd0 : (wr.alloc (.cells #[.string t, .int .i64 N] 35)).heap[wr.heap.size]? = some (.cells #[.string t, .int .i64 N] 35 (0, 0)) := heap_alloc_new _ _
      have hkA : Kept [] wr (wr.alloc (.cells #[.string t, .int .i64 N] 35)) := (Kept.refl _ _).alloc _
      generalize wr.alloc (.cells #[.string t, .int .i64 N] 35) = WA at hd0 hkA ⊢
      refine (may_any t N _ (by omega) HN.out).mono ?_
      rintro e w2 ⟨rfl, hk2⟩
      have hkA2 := hkA.new hk2 (by simp [Fresh])
      have hd2 := hk2.heap hd0 (by simp)
      have HK2 := Lib.hid hkA2
      have HD2 := Lib.hid hd2
      clear hd0 hkA hk2 hkA2 hd2 c0 c1
      rcases Bool.eq_false_or_eq_true (K.mayR t.data.toList N) with hM | hM
      · rw [hM]
        have hrg := K.mayR_range _ _ hM
        rw [toList_length] at hrg
        obtain ⟨n, rfl⟩ := Int.eq_ofNat_of_zero_le hrg.1
        have hn : n ≤ 8 * t.size := by omega
        have HM := Lib.hid hM
        clear hM hrg
        have e0 : w2.cell? ⟨wr.heap.size, 0, none⟩ = _ := cell_of_row w2 wr.heap.size 0 _ _ _ HD2.out
        simp at e0
        go_wp2_with fail
        refine (newReader_new _ _ _ (by omega) (by decide) (by simp)).mono ?_
        rintro e w3 ⟨r, q, rfl, hr, hk3, hrq⟩
        have hr : Rd w3 r q t 0 := hr
        have e1 : w3.cell? ⟨wr.heap.size, 1, none⟩ = _ := cell_of_row w3 wr.heap.size 1 _ _ _ (hk3.heap HD2.out (by simp))
        simp at e1
        have hkr3 := HK2.out.new hk3 (by simp [Fresh])
        have hwr3 := HWR.out.kept hkr3 (Apart.nil _)
        have hap3 : Apart [r, q] (b :: foot o) := (Apart.fresh (fun x hx => Nat.lt_of_lt_of_le (HWR.out.lt x hx) HK2.out.size) hrq).symm
        have hk03 := HKE.out.new hkr3 (by simp [Fresh])
        have hrq0 : Fresh W0.heap.size [r, q] := hrq.mono (Nat.le_trans HKE.out.size HK2.out.size)
        have HRQ := Lib.hid hrq0
        have HK3 := Lib.hid hkr3
        have hbl := K.joinBits_len ((plainPs ps).take j)
        have hbt := K.total_take (plainPs ps) j
        have hb8 : (K.joinBits ((plainPs ps).take j)).length ≤ 8000000 := by omega
        clear hrq hkr3 hk3 hrq0 hbl hbt e0
        go_wp2_with fail
        go_loopg [26] n (fun k c wr => JoinJ W0 t (K.joinBits ((plainPs ps).take j)) r q b n k c wr)
        case atStart => exact ⟨0, o, by omega, by omega, rfl, hr, by simpa using hwr3, hap3, hk03, HFR.out⟩
        case round =>
          obtain ⟨x, o, hx, hk, rfl, hrd, hwr, hap, hkept, hfr⟩ := hrel
          have Hk2 := Lib.hid hk
          clear hk hr hwr3 hap3 hk03 e1
          by_cases hxn : x < n
          · have hT1 := takeR_one t x (by omega)
            have hts1 := K.bitsOf_take t.data.toList x (by rw [toList_length]; omega)
            have HPS := Lib.hid hts1
            have HT1 := Lib.hid hT1
            have hblx : (K.joinBits ((plainPs ps).take j) ++ (K.bitsOf t.data.toList).take x).length ≤ 1000000000000 := by
              rw [List.length_append, List.length_take]; omega
            have HBL := Lib.hid hblx
            clear hts1 hT1 hblx
            go_wp2_with fail
            refine (take_any r q t x 1 _ hrd (by omega) (by omega)).mono ?_
            rintro e w4 hpost
            rw [HT1.out] at hpost
            obtain ⟨rfl, hrd4, hk4⟩ := hpost
            have hrd4 : Rd w4 r q t (x + 1) := hrd4
            have hwr4 := hwr.kept hk4 (hap.sub (by simp)).symm
            have hkept4 := hkept.new hk4 (fun y hy => HRQ.out y (by simp at hy; simp [hy]))
            clear hrd hwr hkept hk4
            have hbt := Bool.toNat_le (K.tbit t.data.toList x)
            go_wp2_with fail
            refine (put_put b _ _ o _ _ (by decide) (by decide) (by omega) (by simp; omega) HBL.out hwr4).mono ?_
            rintro e w5 ⟨rfl, o5, hwr5, hk5, hg5⟩
            rw [low_bit, List.append_assoc, ← HPS.out] at hwr5
            have hrd5 := hrd4.kept hk5 hap
            have hap5 := hap.grow hrd4.lt hg5
            have hfr5 := hfr.grow hg5 hkept4.size
            have hkept5 := hkept4.new hk5 hfr
            clear hrd4 hwr4 hkept4 hk5 hg5
            go_wp2_with fail
            go_roundg (n - (x + 1))
            case measure => have := Hk2.out; omega
            case rel => exact ⟨x + 1, o5, by omega, rfl, by go_num, hrd5, hwr5, hap5, hkept5, hfr5⟩
          · obtain rfl : x = n := by omega
            go_wp2_with fail
            go_roundg (ps.length - (j + 1))
            case measure => have := Hk.out; omega
            case rel =>
              refine ⟨j + 1, o, by rw [HQL.out]; omega, by rw [HQL.out], by go_num, ?_, ?_, hkept, hfr⟩
              · rw [K.all_take _ _ _ _ HQJ.out, HALL.out]; exact HM.out
              · rw [K.joinBits_take _ _ _ HQJ.out]; exact hwr
      · rw [hM]
        have hno := K.joinR_no _ _ _ HQJ.out hM
        have HNO := Lib.hid hno
        have hh := HK2.out.heap (HKE.out.heap HC0.out (by simp)) (by simp)
        have c0 : w2.cell? ⟨w.heap.size, 0, none⟩ = _ := cell_of_row w2 w.heap.size 0 _ _ _ hh
        have c1 : w2.cell? ⟨w.heap.size, 1, none⟩ = _ := cell_of_row w2 w.heap.size 1 _ _ _ hh
        have f0 := frozen_of_row w2 w.heap.size 0 _ _ hh
        have f1 := frozen_of_row w2 w.heap.size 1 _ _ hh
        simp at c0 c1
        clear hM hno hh
        go_wp2_with fail
        rw [HNO.out]
        refine bodyPost_ret (v := bitsV ([], 0, 2)) (by simp [results, Try.results45, go_sem, c0, c1, bitsV]) rfl ⟨rfl, ?_⟩
        exact ((HKW.out.new HKE.out (by simp [Fresh])).new HK2.out (by simp [Fresh])).setCell (.inr (Nat.le_refl _)) _ |>.setCell (.inr (Nat.le_refl _)) _
    · obtain rfl : j = ps.length := by omega
      have hte : (plainPs ps).take ps.length = plainPs ps := List.take_of_length_le (by rw [HQL.out]; omega)
      rw [hte] at hwr HALL
      have hyes : K.joinR (plainPs ps) = (K.pack (K.joinBits (plainPs ps)), (((K.joinBits (plainPs ps)).length : Nat) : Int), 0) := by unfold K.joinR; rw [HALL.out]; rfl
      have HY := Lib.hid hyes
      have hh := hkept.heap HC0.out (by simp)
      have c0 : wr.cell? ⟨w.heap.size, 0, none⟩ = _ := cell_of_row wr w.heap.size 0 _ _ _ hh
      have c1 : wr.cell? ⟨w.heap.size, 1, none⟩ = _ := cell_of_row wr w.heap.size 1 _ _ _ hh
      have f0 := frozen_of_row wr w.heap.size 0 _ _ hh
      have f1 := frozen_of_row wr w.heap.size 1 _ _ hh
      simp at c0 c1
      have hkw := HKW.out.new hkept (by simp [Fresh])
      have HKK := Lib.hid hkw
      clear hh hyes hte hkept hkw
      go_wp2_with fail
      refine (text_ok _ _ _ _ hwr).mono ?_
      rintro e w' ⟨rfl, rfl⟩
      go_wp2_with fail
      refine (len_ok _ _ _ _ hwr).mono ?_
      rintro e w' ⟨rfl, rfl⟩
      go_wp2_with fail
      rw [HY.out]
      refine bodyPost_ret (v := bitsV (K.pack (K.joinBits (plainPs ps)), (((K.joinBits (plainPs ps)).length : Nat) : Int), 0)) (by simp [results, Try.results45, go_sem, c0, c1, bitsV]) rfl ⟨rfl, ?_⟩
      exact (HKK.out.setCell (.inr (Nat.le_refl _)) _).setCell (.inr (Nat.le_refl _)) _
end Go.Proofs.Ytdaenajhgbagdaa
namespace Go.Proofs.Ytdaenajhgbagdaa
open Go.RowKit
set_option linter.unusedVariables false
set_option linter.unusedSimpArgs false

/-- In Show's first loop: i lengths are in range. -/
def DShowA (w0 : World) (xs : List Int) (k : Nat) (c : Value) (w : World) : Prop :=
  ∃ i, i ≤ xs.length ∧ k = xs.length - i ∧ c = .int .i64 (i : Nat) ∧ ((xs.take i).all fun x => decide (1 ≤ x ∧ x ≤ 20)) = true ∧ Kept [] w0 w
/-- In its second: i lengths are told. -/
def DShowI (w0 : World) (xs : List Int) (b : Nat) (k : Nat) (s c : Value) (w : World) : Prop :=
  ∃ i now B o, i ≤ xs.length ∧ k = xs.length - i ∧ c = .int .i64 (i : Nat) ∧ s = .int .i64 now ∧ (1 ≤ now ∧ now ≤ 20) ∧ K.showBits xs = B ++ K.showFrom now (xs.drop i) ∧ Wr w b o B ∧ Kept [] w0 w ∧ Fresh w0.heap.size (b :: foot o)
/-- In the loops within: steps are told. -/
def DShowU (w0 : World) (T : List Bool) (x : Int) (rest : List Bool) (b : Nat) (m : Int → Nat) (good : Int → Prop) (k : Nat) (s : Value) (w : World) : Prop :=
  ∃ now B o, k = m now ∧ s = .int .i64 now ∧ (1 ≤ now ∧ now ≤ 20) ∧ good now ∧ T = B ++ (K.stepBits now x ++ rest) ∧ Wr w b o B ∧ Kept [] w0 w ∧ Fresh w0.heap.size (b :: foot o)

set_option maxHeartbeats 1000000 in
theorem dshow_any (a : Option Addr) (cap : Nat) (xs : List Int) (w : World) (h : Sees w 1 a xs.length (intVals xs)) (hlen : xs.length ≤ 140737488351232) :
    Calls Try.prog 44 #[.slice a xs.length cap] w fun e w' => e = .returned (bitsV (K.showR xs)) ∧ Kept [] w w' := by
  have HS := Lib.hid h
  clear h
  by_cases hL : 2 ≤ xs.length ∧ xs.length ≤ 258
  · have g1 : decide ((xs.length : Int) < 2) = false := by simp; omega
    have g2 : decide (258 < (xs.length : Int)) = false := by simp; omega
    go_enter Try.func44, Try.ntmps44
    go_wp2_with fail
    have hc0 : (w.alloc (.cells #[.string ⟨#[]⟩, .int .i64 0] 35)).heap[w.heap.size]? = some (.cells #[.string ⟨#[]⟩, .int .i64 0] 35 (0, 0)) := heap_alloc_new _ _
    have hkW : Kept [] w (w.alloc (.cells #[.string ⟨#[]⟩, .int .i64 0] 35)) := (Kept.refl _ _).alloc _
    generalize w.alloc (.cells #[.string ⟨#[]⟩, .int .i64 0] 35) = W0 at hc0 hkW ⊢
    have HC0 := Lib.hid hc0
    have HKW := Lib.hid hkW
    clear hc0 hkW g1 g2
    go_loopg [21] xs.length (fun k c wr => DShowA W0 xs k c wr)
    case atStart => exact ⟨0, by omega, by omega, rfl, rfl, Kept.refl _ _⟩
    case round =>
      obtain ⟨i, hi, hk, rfl, hall, hkept⟩ := hrel
      have Hk := Lib.hid hk
      have HALL := Lib.hid hall
      have HKE := Lib.hid hkept
      clear hk hall
      by_cases hlt : i < xs.length
      · obtain ⟨b0, off, rfl, hcells⟩ := (HS.out.kept0 (HKW.out.new hkept (by simp [Fresh]))).at (by rw [intVals_length]; omega)
        obtain ⟨x, hx⟩ : ∃ x, xs[i]? = some x := ⟨_, List.getElem?_eq_getElem hlt⟩
        have c0 := hcells _ _ (intVals_get xs i _ hx)
        have hjl : (i : Int) < (xs.length : Int) := by omega
        have ex : xs.take (i + 1) = xs.take i ++ [x] := by rw [List.take_add_one, hx]; rfl
        have EX := Lib.hid ex
        have HX := Lib.hid hx
        clear hcells hx ex hkept
        by_cases hgood : 1 ≤ x ∧ x ≤ 20
        · have g1 : decide (x < 1) = false := by simp; omega
          have g2 : decide (20 < x) = false := by simp; omega
          go_wp2_with fail
          go_roundg (xs.length - (i + 1))
          case measure => have := Hk.out; omega
          case rel => exact ⟨i + 1, by omega, rfl, by go_num, by rw [EX.out, List.all_append, HALL.out]; simp; exact hgood, HKE.out⟩
        · have hno : K.showR xs = ([], 0, 80) := by unfold K.showR; rw [K.lensOk_bad xs i x HX.out (by omega)]; rfl
          have HNO := Lib.hid hno
          have hh := HKE.out.heap HC0.out (by simp)
          have d0 : wr.cell? ⟨w.heap.size, 0, none⟩ = _ := cell_of_row wr w.heap.size 0 _ _ _ hh
          have d1 : wr.cell? ⟨w.heap.size, 1, none⟩ = _ := cell_of_row wr w.heap.size 1 _ _ _ hh
          have f0 := frozen_of_row wr w.heap.size 0 _ _ hh
          have f1 := frozen_of_row wr w.heap.size 1 _ _ hh
          simp at d0 d1
          have HKK := Lib.hid (HKW.out.new HKE.out (by simp [Fresh]))
          clear hno hh
          by_cases h1 : x < 1
          · have g1 : decide (x < 1) = true := by simp; omega
            go_wp2_with fail
            rw [HNO.out]
            refine bodyPost_ret (v := bitsV ([], 0, 80)) (by simp [results, Try.results44, go_sem, d0, d1, bitsV]) rfl ⟨rfl, ?_⟩
            exact (HKK.out.setCell (.inr (Nat.le_refl _)) _).setCell (.inr (Nat.le_refl _)) _
          · have g1 : decide (x < 1) = false := by simp; omega
            have g2 : decide (20 < x) = true := by simp; omega
            go_wp2_with fail
            rw [HNO.out]
            refine bodyPost_ret (v := bitsV ([], 0, 80)) (by simp [results, Try.results44, go_sem, d0, d1, bitsV]) rfl ⟨rfl, ?_⟩
            exact (HKK.out.setCell (.inr (Nat.le_refl _)) _).setCell (.inr (Nat.le_refl _)) _
      · obtain rfl : i = xs.length := by omega
        have hok : K.lensOk xs = true := by
          have h1 := HALL.out
          rw [List.take_of_length_le (Nat.le_refl _)] at h1
          unfold K.lensOk
          rw [h1]; simp; exact hL
        have hin := ((K.lensOk_iff xs).1 hok).2
        obtain ⟨x0, hx0⟩ : ∃ x, xs[0]? = some x := ⟨_, List.getElem?_eq_getElem (by omega)⟩
        have hhd : xs.headD 0 = x0 := by cases xs with
          | nil => simp at hx0
          | cons y ys => simpa using hx0
        have hxr := hin x0 (List.mem_of_getElem? hx0)
        have hsb := K.showBits_len xs hok
        have hyes : K.showR xs = (K.pack (K.showBits xs), (((K.showBits xs).length : Nat) : Int), 0) := by unfold K.showR; rw [hok]; rfl
        have hst : K.showBits xs = K.low x0.toNat 5 ++ K.showFrom x0 (xs.drop 0) := by unfold K.showBits; rw [hhd]; rfl
        have HY := Lib.hid hyes
        have HST := Lib.hid hst
        have HIN := Lib.hid hin
        have HX0 := Lib.hid hx0
        clear hyes hst hok hin hhd hkept
        go_wp2_with fail
        refine (newWriter_new _).mono ?_
        rintro e w1 ⟨b, rfl, hw1, hk1, hb1⟩
        have hke1 := HKE.out.new hk1 (by simp [Fresh])
        have hb1 : Fresh W0.heap.size (b :: foot (.slice none 0 0)) := hb1.mono HKE.out.size
        obtain ⟨b0, off, rfl, hcells⟩ := (HS.out.kept0 (HKW.out.new hke1 (by simp [Fresh]))).at (by rw [intVals_length]; omega)
        have c0 := hcells _ _ (intVals_get xs 0 _ HX0.out)
        rw [Nat.add_zero] at c0
        have hjl : (0 : Int) < (xs.length : Int) := by omega
        have hw0 : IntKind.u64.wrap x0 = x0 := by rw [IntKind.wrap_u64]; omega
        clear hcells hke1
        go_wp2_with fail
        refine (put_put b x0 5 _ _ _ (by decide) (by decide) (by omega) (by simp; omega) (by simp) hw1).mono ?_
        rintro e w2 ⟨rfl, o2, hw2, hk2, hg2⟩
        have hw2 : Wr w2 b o2 (K.low x0.toNat 5) := hw2
        have hke1 := HKE.out.new hk1 (by simp [Fresh])
        have hke2 := hke1.new hk2 hb1
        have hb2 := hb1.grow hg2 hke1.size
        obtain ⟨b9, off9, he9, hcells⟩ := (HS.out.kept0 (HKW.out.new hke2 (by simp [Fresh]))).at (by rw [intVals_length]; omega)
        have c0 := hcells _ _ (intVals_get xs 0 _ HX0.out)
        rw [Nat.add_zero] at c0
        injection he9 with he9
        injection he9 with h1 h2
        subst h1 h2
        clear hcells hw1 hk1 hk2 hg2 hb1 hke1
        go_wp2_with fail
        go_loopg [7, 45] xs.length (fun k s c wr => DShowI W0 xs b k s c wr)
        case atStart => exact ⟨0, x0, _, o2, by omega, by omega, rfl, rfl, hxr, HST.out, hw2, hke2, hb2⟩
        case round =>
          obtain ⟨i, now, B, o, hi, hk, rfl, rfl, hnow, hT, hwr, hkept, hfr⟩ := hrel
          have Hk := Lib.hid hk
          have HT := Lib.hid hT
          clear hk hT hw2 hke2 hb2 c0
          by_cases hlt : i < xs.length
          · obtain ⟨b9, off9, he9, hcells⟩ := (HS.out.kept0 (HKW.out.new hkept (by simp [Fresh]))).at (by rw [intVals_length]; omega)
            obtain ⟨x, hx⟩ : ∃ x, xs[i]? = some x := ⟨_, List.getElem?_eq_getElem hlt⟩
            have c1 := hcells _ _ (intVals_get xs i _ hx)
            injection he9 with he9
            injection he9 with h1 h2
            subst h1 h2
            have hxr2 := HIN.out x (List.mem_of_getElem? hx)
            have hdr : xs.drop i = x :: xs.drop (i + 1) := by
              obtain ⟨h1, rfl⟩ := List.getElem?_eq_some_iff.1 hx
              exact List.drop_eq_getElem_cons h1
            have hT1 := HT.out
            rw [hdr, K.showFrom_cons] at hT1
            have HT1 := Lib.hid hT1
            have hjl : (i : Int) < (xs.length : Int) := by omega
            clear hcells hx hdr hT1
            have HWR := Lib.hid hwr
            have HKE2 := Lib.hid hkept
            have HFR := Lib.hid hfr
            clear hwr hkept hfr
            go_wp2_with fail
            go_loopg [7] (x - now).toNat (fun k s wr => DShowU W0 (K.showBits xs) x (K.showFrom x (xs.drop (i + 1))) b (fun y => (x - y).toNat) (fun _ => True) k s wr)
            case atStart => exact ⟨now, B, o, rfl, rfl, hnow, trivial, HT1.out, HWR.out, HKE2.out, HFR.out⟩
            case round =>
              obtain ⟨y, B, o, hk, rfl, hy, -, hT, hwr, hkept, hfr⟩ := hrel
              have Hk2 := Lib.hid hk
              have HT2 := Lib.hid hT
              clear hk hT c1
              by_cases hlt2 : y < x
              · have hst := HT2.out
                rw [K.step_up y x hlt2] at hst
                have hBl : B.length ≤ 1000000000000 := by
                  have := congrArg List.length HT2.out
                  rw [List.length_append] at this
                  omega
                have HST2 := Lib.hid hst
                have HBL := Lib.hid hBl
                have hy1 : IntKind.i64.wrap (y + 1) = y + 1 := IntWalk.i64_in _ (by omega)
                clear hst hBl
                go_wp2_with fail
                refine (put_put b 2 2 _ _ _ (by decide) (by decide) (by decide) (by decide) HBL.out hwr).mono ?_
                rintro e w4 ⟨rfl, o4, hw4, hk4, hg4⟩
                have hw4 : Wr w4 b o4 (B ++ [true, false]) := hw4
                have hkept4 := hkept.new hk4 hfr
                have hfr4 := hfr.grow hg4 hkept.size
                clear hwr hkept hfr hk4 hg4
                go_wp2_with fail
                go_roundg (x - (y + 1)).toNat
                case measure => have := Hk2.out; omega
                case rel => exact ⟨y + 1, _, o4, rfl, by go_num, by omega, trivial, by rw [HST2.out]; simp, hw4, hkept4, hfr4⟩
              · have HWR3 := Lib.hid hwr
                have HKE3 := Lib.hid hkept
                have HFR3 := Lib.hid hfr
                clear hwr hkept hfr
                go_wp2_with fail
                go_loopg [7] (y - x).toNat (fun k s wr => DShowU W0 (K.showBits xs) x (K.showFrom x (xs.drop (i + 1))) b (fun y => (y - x).toNat) (fun y => x ≤ y) k s wr)
                case atStart => exact ⟨y, B, o, rfl, rfl, hy, by omega, HT2.out, HWR3.out, HKE3.out, HFR3.out⟩
                case round =>
                  obtain ⟨z, B, o, hk, rfl, hz, hxz, hT, hwr, hkept, hfr⟩ := hrel
                  have Hk3 := Lib.hid hk
                  have HT3 := Lib.hid hT
                  have hBl : B.length ≤ 1000000000000 := by
                    have := congrArg List.length HT3.out
                    rw [List.length_append] at this
                    omega
                  have HBL := Lib.hid hBl
                  clear hk hT hBl
                  by_cases hlt3 : x < z
                  · have hst := HT3.out
                    rw [K.step_down z x hlt3] at hst
                    have HST2 := Lib.hid hst
                    have hy1 : IntKind.i64.wrap (z - 1) = z - 1 := IntWalk.i64_in _ (by omega)
                    clear hst
                    go_wp2_with fail
                    refine (put_put b 3 2 _ _ _ (by decide) (by decide) (by decide) (by decide) HBL.out hwr).mono ?_
                    rintro e w4 ⟨rfl, o4, hw4, hk4, hg4⟩
                    have hw4 : Wr w4 b o4 (B ++ [true, true]) := hw4
                    have hkept4 := hkept.new hk4 hfr
                    have hfr4 := hfr.grow hg4 hkept.size
                    clear hwr hkept hfr hk4 hg4
                    go_wp2_with fail
                    go_roundg (z - 1 - x).toNat
                    case measure => have := Hk3.out; omega
                    case rel => exact ⟨z - 1, _, o4, rfl, by go_num, by omega, by omega, by rw [HST2.out]; simp, hw4, hkept4, hfr4⟩
                  · obtain rfl : z = x := by omega
                    have hst := HT3.out
                    rw [K.step_same] at hst
                    have HST2 := Lib.hid hst
                    clear hst
                    go_wp2_with fail
                    refine (put_put b 0 1 _ _ _ (by decide) (by decide) (by decide) (by decide) HBL.out hwr).mono ?_
                    rintro e w4 ⟨rfl, o4, hw4, hk4, hg4⟩
                    have hw4 : Wr w4 b o4 (B ++ [false]) := hw4
                    have hkept4 := hkept.new hk4 hfr
                    have hfr4 := hfr.grow hg4 hkept.size
                    clear hwr hkept hfr hk4 hg4
                    go_wp2_with fail
                    go_roundg (xs.length - (i + 1))
                    case measure => have := Hk.out; omega
                    case rel => exact ⟨i + 1, z, _, o4, by omega, rfl, by go_num, rfl, hz, by rw [HST2.out]; simp, hw4, hkept4, hfr4⟩
          · obtain rfl : i = xs.length := by omega
            have hT1 := HT.out
            rw [List.drop_length] at hT1
            have hT2 : K.showBits xs = B := by rw [hT1]; simp [K.showFrom]
            subst hT2
            have hh := hkept.heap HC0.out (by simp)
            have d0 : wr.cell? ⟨w.heap.size, 0, none⟩ = _ := cell_of_row wr w.heap.size 0 _ _ _ hh
            have d1 : wr.cell? ⟨w.heap.size, 1, none⟩ = _ := cell_of_row wr w.heap.size 1 _ _ _ hh
            have f0 := frozen_of_row wr w.heap.size 0 _ _ hh
            have f1 := frozen_of_row wr w.heap.size 1 _ _ hh
            simp at d0 d1
            have HKK := Lib.hid (HKW.out.new hkept (by simp [Fresh]))
            clear hh hT1 hkept
            go_wp2_with fail
            refine (text_ok _ _ _ _ hwr).mono ?_
            rintro e w' ⟨rfl, rfl⟩
            go_wp2_with fail
            refine (len_ok _ _ _ _ hwr).mono ?_
            rintro e w' ⟨rfl, rfl⟩
            go_wp2_with fail
            rw [HY.out]
            refine bodyPost_ret (v := bitsV (K.pack (K.showBits xs), (((K.showBits xs).length : Nat) : Int), 0)) (by simp [results, Try.results44, go_sem, d0, d1, bitsV]) rfl ⟨rfl, ?_⟩
            exact (HKK.out.setCell (.inr (Nat.le_refl _)) _).setCell (.inr (Nat.le_refl _)) _
  · have hno : K.showR xs = ([], 0, 80) := by unfold K.showR; rw [K.lensOk_no xs hL]; rfl
    have HNO := Lib.hid hno
    clear hno
    by_cases h1 : xs.length < 2
    · have g1 : decide ((xs.length : Int) < 2) = true := by simp; omega
      go_enter Try.func44, Try.ntmps44
      go_wp2_with fail
      rw [HNO.out]
      refine bodyPost_ret (v := bitsV ([], 0, 80)) (by simp [results, Try.results44, go_sem, bitsV]) rfl ⟨rfl, ?_⟩
      first | exact (Kept.refl [] w).alloc _ | exact ((Kept.refl [] w).alloc _).setCell (by simp) _ | exact (((Kept.refl [] w).alloc _).setCell (by simp) _).setCell (by simp) _
    · have g1 : decide ((xs.length : Int) < 2) = false := by simp; omega
      have g2 : decide (258 < (xs.length : Int)) = true := by simp; omega
      go_enter Try.func44, Try.ntmps44
      go_wp2_with fail
      rw [HNO.out]
      refine bodyPost_ret (v := bitsV ([], 0, 80)) (by simp [results, Try.results44, go_sem, bitsV]) rfl ⟨rfl, ?_⟩
      first | exact (Kept.refl [] w).alloc _ | exact ((Kept.refl [] w).alloc _).setCell (by simp) _ | exact (((Kept.refl [] w).alloc _).setCell (by simp) _).setCell (by simp) _
end Go.Proofs.Ytdaenajhgbagdaa
