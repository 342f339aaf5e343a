/-
  The walks of layer 11's references place and picked.
-/
import Derived.Test.YtdaenajhgbagdaaPlainH
import Derived.Test.YtdaenajhgbagdaaRefG2
import Derived.Test.YtdaenajhgbagdaaPreK
import Derived.Test.YtdaenajhgbagdaaDTakeR
namespace Go.Proofs.Ytdaenajhgbagdaa
open Go.RowKit
set_option linter.unusedVariables false
set_option linter.unusedSimpArgs false

namespace K
/-- What place answers. -/
def placeR (bs : List Bool) (p : Nat) (R : Nat × Nat) : Nat × Nat × Nat := if R.2 = 0 then (R.1, p + R.1 + 1, 0) else (0, 0, if R.2 = 3 then 110 else R.2)
end K
def PlaceI (w0 : World) (bs : List Bool) (p : Nat) (most : Nat) (R : Nat × Nat) (k : Nat) (v : Value) (wr : World) : Prop :=
  ∃ n : Nat, k = bs.length - (p + n) ∧ p + n ≤ bs.length ∧ n < most ∧ v = .int .i64 (n : Nat) ∧ Hid (R = K.unary ((most : Int) - 1) n (bs.drop (p + n))) ∧ w0 = wr
set_option maxHeartbeats 1000000 in
theorem rplace_any (a : Option Addr) (L cap : Nat) (bs : List Bool) (p most : Nat) (w : World) (hL : bs.length = L) (hl : L ≤ 1000000000000) (hp : p ≤ L) (hm : 1 ≤ most) (hm2 : most ≤ 1000) (hs : Sees w 1 a L (bis bs)) :
    Calls Try.prog 90 #[.slice a L cap, .int .i64 p, .int .i64 most] w fun e w' =>
      e = .returned (.tuple #[.int .i64 ((K.placeR bs p (K.unary ((most : Int) - 1) 0 (bs.drop p))).1 : Nat), .int .i64 ((K.placeR bs p (K.unary ((most : Int) - 1) 0 (bs.drop p))).2.1 : Nat), .int .i64 ((K.placeR bs p (K.unary ((most : Int) - 1) 0 (bs.drop p))).2.2 : Nat)]) ∧ w = w' := by
  subst hL
  have HS := Lib.hid hs
  obtain ⟨R, hR⟩ : ∃ R, K.unary ((most : Int) - 1) 0 (bs.drop p) = R := ⟨_, rfl⟩
  rw [hR]
  have HR := Lib.hid hR
  clear hR hs
  go_enter Try.func90, Try.ntmps90
  go_wp2_with fail
  go_loopg [9] (bs.length - p) (fun k v wr => PlaceI w bs p most R k v wr)
  case atStart => exact ⟨0, by omega, by omega, by omega, rfl, Lib.hid HR.out.symm, rfl⟩
  case round =>
    obtain ⟨n, hk, hpn, hnm, rfl, HU, rfl⟩ := hrel
    have Hk := Lib.hid hk
    clear hk
    by_cases hlt : p + n < bs.length
    · have hli : (p : Int) + (n : Int) < (bs.length : Int) := by omega
      have hi0 : (0 : Int) ≤ (p : Int) + (n : Int) := by omega
      have hin : ((p : Int) + (n : Int)).toNat = p + n := by omega
      obtain ⟨b, off, rfl, -⟩ := HS.out.at (by rw [bis_length]; omega)
      obtain ⟨x, hx⟩ : ∃ x, bs[p + n]? = some x := ⟨_, List.getElem?_eq_getElem hlt⟩
      have hdr : bs.drop (p + n) = x :: bs.drop (p + (n + 1)) := by
        obtain ⟨h1, h2⟩ := List.getElem?_eq_some_iff.1 hx
        rw [List.drop_eq_getElem_cons h1, h2]; rfl
      have c0 := bit_cell HS.out hx
      have HDR := Lib.hid hdr
      clear hx hdr
      cases x with
      | false =>
        have c1 : w.cell? ⟨b, off + (p + n), none⟩ = some (.int .i64 0) := c0
        have HP := Lib.hid (show K.placeR bs p R = (n, p + n + 1, 0) by rw [HU.out, HDR.out]; rfl)
        clear c0
        go_wp2_with fail
        go_ret3
        rw [HP.out]
        exact ⟨by simp, rfl⟩
      | true =>
        have c1 : w.cell? ⟨b, off + (p + n), none⟩ = some (.int .i64 1) := c0
        clear c0
        by_cases he : n + 1 = most
        · have q1 : ((n : Int) + 1 == (most : Int)) = true := by simp; omega
          have HP := Lib.hid (show K.placeR bs p R = (0, 0, 110) by
            rw [HU.out, HDR.out, K.unary, if_pos (by omega)]; rfl)
          clear he
          go_wp2_with fail
          go_ret3
          rw [HP.out]
          exact ⟨by rfl, rfl⟩
        · have q1 : ((n : Int) + 1 == (most : Int)) = false := by simp; omega
          have HU2 := Lib.hid (show R = K.unary ((most : Int) - 1) (n + 1) (bs.drop (p + (n + 1))) by
            rw [HU.out, HDR.out, K.unary, if_neg (by omega)])
          have hnm2 : n + 1 < most := by omega
          clear he
          go_wp2_with fail
          go_roundg (bs.length - (p + (n + 1)))
          case measure => have := Hk.out; omega
          case rel => exact ⟨n + 1, rfl, by omega, by omega, by simp, HU2, rfl⟩
    · have hli : ¬ (p : Int) + (n : Int) < (bs.length : Int) := by omega
      have HP := Lib.hid (show K.placeR bs p R = (0, 0, 10) by
        rw [HU.out, List.drop_of_length_le (show bs.length ≤ p + n by omega)]; rfl)
      go_wp2_with fail
      go_ret3
      rw [HP.out]
      exact ⟨by rfl, rfl⟩
/-- In picked's loop: i picks are read. -/
def PickI (W : World) (bs : List Bool) (many M : Nat) (R : List Nat × Nat × Nat) (k : Nat) (v1 vr vo v : Value) (wr : World) : Prop :=
  ∃ (i p : Nat) (out ord : List Nat) (a aO : Option Addr) (c cO : Nat), k = M - i ∧ i ≤ M ∧ v = .int .i64 (i : Nat) ∧ v1 = .int .i64 (p : Nat) ∧ p ≤ bs.length ∧ vo = .slice a out.length c ∧ vr = .slice aO 6 cO ∧ out.length ≤ i ∧ ord.length = 6 ∧ Hid (R = K.picksG bs many (M - i) ord out p) ∧
    Hid (Row wr 3 (.slice a out.length c) (natVals out)) ∧ Hid (Sees wr 1 aO 6 (natVals ord)) ∧ Hid (Apart (footA aO) (footA a)) ∧ Hid (Kept [] W wr) ∧ Hid (Fresh W.heap.size (footA a))
set_option maxHeartbeats 1000000 in
theorem rpicked_any (a : Option Addr) (L cap : Nat) (bs : List Bool) (p many M : Nat) (w : World) (hL : bs.length = L) (hl : L ≤ 1000000000000) (hp : p ≤ L) (hm : 2 ≤ many) (hm2 : many ≤ 6) (hM : M ≤ 32767) (hs : Sees w 1 a L (bis bs)) :
    Calls Try.prog 62 #[.slice a L cap, .int .i64 p, .int .i64 many, .int .i64 M] w (NatsAtPost (K.picksG bs many M (List.range many) [] p) w) := by
  have hrest := K.picksG_rest bs many ((List.range (6 - many)).map (many + ·)) M (List.range many) [] p (by simp) (by omega)
  rw [← List.range_add, show many + (6 - many) = 6 by omega] at hrest
  rw [← hrest]
  clear hrest
  subst hL
  have HS := Lib.hid hs
  obtain ⟨R, hR⟩ : ∃ R, K.picksG bs many M (List.range 6) [] p = R := ⟨_, rfl⟩
  rw [hR]
  have HR := Lib.hid hR
  clear hR hs
  go_enter Try.func62, Try.ntmps62
  go_wp2_with fail
  have hs0 : Sees (w.alloc (.cells #[.int .i64 0, .int .i64 1, .int .i64 2, .int .i64 3, .int .i64 4, .int .i64 5] 3)) 1 (some ⟨w.heap.size, 0, none⟩) 6 (natVals (List.range 6)) := Sees.lit (news := natVals (List.range 6)) rfl
  have hk0 : Kept [] w (w.alloc (.cells #[.int .i64 0, .int .i64 1, .int .i64 2, .int .i64 3, .int .i64 4, .int .i64 5] 3)) := (Kept.refl _ _).alloc _
  obtain ⟨W, hW⟩ : ∃ W, w.alloc (.cells #[.int .i64 0, .int .i64 1, .int .i64 2, .int .i64 3, .int .i64 4, .int .i64 5] 3) = W := ⟨_, rfl⟩
  rw [hW] at hs0 hk0 ⊢
  have HS0 := Lib.hid hs0
  have HK0 := Lib.hid hk0
  clear hs0 hk0 hW
  go_loopg [1, 11, 12, 13] M (fun k v1 vr vo v wr => PickI W bs many M R k v1 vr vo v wr)
  case atStart => exact ⟨0, p, [], List.range 6, none, some ⟨w.heap.size, 0, none⟩, 0, 6, by omega, by omega, rfl, rfl, hp, rfl, rfl, by simp, by simp, Lib.hid HR.out.symm, Lib.hid (Row.nil _ _), HS0, Lib.hid (by simp [Apart, footA]), Lib.hid (Kept.refl _ _), Lib.hid (by simp [Fresh, footA])⟩
  case round =>
    clear HS0
    obtain ⟨i, q, out, ord, ao, aO, co, cO, hk, hi, rfl, rfl, hq, rfl, rfl, hol, hord, HRR, HRO, HSO, HAP, HKW, HF⟩ := hrel
    have Hk := Lib.hid hk
    clear hk
    by_cases hlt : i < M
    · have hli : (i : Int) < (M : Int) := by omega
      have HC := Lib.hid (rplace_any a bs.length cap bs q many wr rfl hl hq (by omega) (by omega) (HS.out.kept0 (HK0.out.trans HKW.out (by simp))))
      have hstep : R = if (K.unary ((many : Int) - 1) 0 (bs.drop q)).2 = 0 then K.picksG bs many (M - (i + 1)) (K.turned ord (K.unary ((many : Int) - 1) 0 (bs.drop q)).1) (out ++ [ord.getD (K.unary ((many : Int) - 1) 0 (bs.drop q)).1 0]) (q + (K.unary ((many : Int) - 1) 0 (bs.drop q)).1 + 1)
          else ([], 0, if (K.unary ((many : Int) - 1) 0 (bs.drop q)).2 = 3 then 110 else (K.unary ((many : Int) - 1) 0 (bs.drop q)).2) := by
        rw [HRR.out, show M - i = (M - (i + 1)) + 1 by omega, K.picksG]
      have hlt1 := K.unary_lt ((many : Int) - 1) (bs.drop q) 0 (by omega)
      have hto := K.unary_to ((many : Int) - 1) bs q hq
      obtain ⟨⟨u, er⟩, hU⟩ : ∃ U, K.unary ((many : Int) - 1) 0 (bs.drop q) = U := ⟨_, rfl⟩
      rw [hU] at HC hstep hlt1 hto
      have HST := Lib.hid hstep
      have HLT := Lib.hid hlt1
      have HTO := Lib.hid hto
      clear hU hstep hlt1 hto
      by_cases hz : er = 0
      · subst hz
        rw [show K.placeR bs q (u, 0) = (u, q + u + 1, 0) from rfl] at HC
        have hu : (u : Int) ≤ (many : Int) - 1 := HLT.out.1 rfl
        have hq2 : q + u + 1 ≤ bs.length := HTO.out rfl
        have hu6 : u < 6 := by omega
        have hu6i : (u : Int) < 6 := by omega
        obtain ⟨x, hx⟩ : ∃ x, ord[u]? = some x := ⟨_, List.getElem?_eq_getElem (by omega)⟩
        have HX := Lib.hid (show ord.getD u 0 = x by rw [List.getD, hx]; rfl)
        have HR2 := Lib.hid (show R = K.picksG bs many (M - (i + 1)) (K.turned ord u) (out ++ [x]) (q + u + 1) by
          have hR := HST.out
          rw [if_pos (show ((u, 0) : Nat × Nat).2 = 0 from rfl), HX.out] at hR
          exact hR)
        clear HST
        obtain ⟨bO, oO, rfl, hcO⟩ := HSO.out.at (by rw [natVals_length]; omega)
        have d0 := hcO u _ (nv_get hx)
        clear hcO hx
        have hro := HRO.out
        have L1 : (natVals out).length + 1 ≤ maxLen := by rw [natVals_length]; simp only [maxLen]; omega
        have L2 : ((natVals out).length + 1) * 8 ≤ 140737488355328 := by rw [natVals_length]; omega
        go_wp2_with fail
        refine HC.out.mono ?_
        rintro e w2 ⟨rfl, rfl⟩
        go_wp2_with ((at_builtin; refine wp_appL _ rfl _ _ 30 rfl 3 (.int .i64 0) 8 Try.underlying30 Try.infoInt rfl _ _ [.int .i64 (x : Int)] 1 rfl rfl rfl rfl (by simp [Value.oneCell']) hro L1 L2 ?_; intro a6 cap6 w6 hrow6 hk6 hg6))
        obtain ⟨hk7, hf7, hp7⟩ := app_keeps hk6 hg6 HKW.out HF.out HAP.out HSO.out
        have hk6 : Kept (foot (.slice ao out.length co)) wr w6 := hk6
        have hs6 := HSO.out.kept hk6 (by rw [foot_slice]; exact HAP.out)
        have e1 : natVals out ++ [Value.int .i64 (x : Int)] = natVals (out ++ [x]) := by simp [natVals]
        have e2 : (natVals out).length + 1 = (out ++ [x]).length := by rw [natVals_length, List.length_append]; rfl
        rw [e1, e2] at hrow6
        have TU := rturnG_any (some ⟨bO, oO, none⟩) cO u ord w6 (by rw [hord]; exact hs6) (by omega) (by omega)
        unfold OwnPost at TU
        rw [K.turned_length _ _ (by omega), hord] at TU
        have HR6 := Lib.hid hrow6
        have HK6 := Lib.hid hk7
        have HF6 := Lib.hid hf7
        clear hrow6 hk6 hg6 hk7 hf7 hp7 hs6 e1 d0
        refine TU.mono ?_
        rintro e w8 ⟨a8, c8, rfl, hrow8, hk8, hf8⟩
        have HR8 := Lib.hid (show Row w8 3 (.slice a8 6 c8) (natVals (K.turned ord u)) from hrow8)
        have HK8 := Lib.hid (HK6.out.trans hk8 (by simp))
        have HRO8 := Lib.hid (HR6.out.kept hk8 (by simp))
        have HAP8 := Lib.hid (show Apart (footA a8) (footA a6) by
          intro y hy hm
          have h1 := hf8 y hy
          have h2 := HR6.out.lt y (by rw [foot_slice]; exact hm)
          omega)
        clear TU hrow8 hk8 hf8
        go_wp2_with fail
        go_roundg (M - (i + 1))
        case measure => have := Hk.out; omega
        case rel =>
          refine ⟨i + 1, q + u + 1, out ++ [x], K.turned ord u, a6, a8, cap6, c8, rfl, by omega, by simp, by simp, hq2, by simp, rfl, by simp; omega, by rw [K.turned_length _ _ (by omega)]; exact hord, HR2, HRO8, Lib.hid HR8.out.seeA, HAP8, HK8, HF6⟩
      · obtain ⟨E, hE⟩ : ∃ E, (if er = 3 then 110 else er) = E := ⟨_, rfl⟩
        have HPL := Lib.hid (show K.placeR bs q (u, er) = (0, 0, E) by unfold K.placeR; rw [if_neg hz, ← hE])
        rw [HPL.out] at HC
        have hR := HST.out.trans (if_neg hz)
        simp only [hE] at hR
        have hE0 : E ≠ 0 ∧ E ≤ 110 := by
          rcases HLT.out.2 with h | h | h
          · exact absurd h hz
          · have h : er = 3 := h
            subst h; simp at hE; omega
          · have h : er = 10 := h
            subst h; simp at hE; omega
        have g3 : ((E : Int) != 0) = true := bne_iff_ne.2 (by omega)
        have HRE := Lib.hid hR
        clear hE hR hz
        go_wp2_with fail
        refine HC.out.mono ?_
        rintro e w2 ⟨rfl, rfl⟩
        go_wp2_with fail
        go_ret3
        rw [HRE.out]
        exact NatsAtPost.err (by rfl) (HK0.out.trans HKW.out (by simp))
    · obtain rfl : i = M := by omega
      have hll : ¬ (i : Int) < (i : Int) := by omega
      have HRE := Lib.hid (show R = (out, q, 0) by rw [HRR.out, Nat.sub_self]; rfl)
      go_wp2_with fail
      go_ret3
      rw [HRE.out]
      exact NatsAtPost.ok (by rfl) HRO.out (HK0.out.trans HKW.out (by simp)) (fun y hy => Nat.le_trans HK0.out.size (HF.out y (by simpa [foot_slice] using hy)))
end Go.Proofs.Ytdaenajhgbagdaa
