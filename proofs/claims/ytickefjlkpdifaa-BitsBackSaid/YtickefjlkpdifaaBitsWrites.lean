/-
  BitsWrites: the walk.
-/
import Derived.Test.YtickefjlkpdifaaAwakeA
import Derived.Test.YtickefjlkpdifaaRefA
import Derived.Deep.RegionHeld3
import Derived.Deep.DeepCutAuto
namespace Go.Proofs.Ytickefjlkpdifaa
open Go.RowKit
set_option linter.unusedVariables false
set_option linter.unusedSimpArgs false

/-- Puts as cells. -/
def putVals (ps : List (Nat × Int)) : List Value := ps.flatMap fun p => [.int .u64 p.1, .int .i64 p.2]
theorem putVals_length (ps : List (Nat × Int)) : (putVals ps).length = ps.length * 2 := by
  induction ps with
  | nil => rfl
  | cons p ps ih => simp [putVals] at ih ⊢; omega
theorem putVals_get (ps : List (Nat × Int)) (i : Nat) (p : Nat × Int) (h : ps[i]? = some p) : (putVals ps)[i * 2]? = some (.int .u64 p.1) ∧ (putVals ps)[i * 2 + 1]? = some (.int .i64 p.2) := by
  induction ps generalizing i with
  | nil => simp at h
  | cons q ps ih =>
    cases i with
    | zero => simp at h; subst h; simp [putVals]
    | succ i =>
      have := ih i (by simpa using h)
      have e : putVals (q :: ps) = .int .u64 q.1 :: .int .i64 q.2 :: putVals ps := by simp [putVals]
      rw [e, show (i + 1) * 2 = i * 2 + 1 + 1 by omega]
      simpa using this

/-- May these be put? -/
def mayPut (p : Nat × Int) : Bool := decide (0 ≤ p.2 ∧ p.2 ≤ 64 ∧ p.1 < 2 ^ p.2.toNat)
/-- The bits of one. -/
def onePut (p : Nat × Int) : List Bool := if mayPut p then K.low p.1 p.2.toNat else []
/-- All bits of those that may be put. -/
def putBits (ps : List (Nat × Int)) : List Bool := ps.flatMap onePut

theorem onePut_length (p : Nat × Int) : (onePut p).length ≤ 64 := by
  unfold onePut
  split
  · rename_i h
    rw [K.low_length]
    simp [mayPut] at h
    omega
  · simp
theorem putBits_take (ps : List (Nat × Int)) (j : Nat) (p : Nat × Int) (h : ps[j]? = some p) : putBits (ps.take (j + 1)) = putBits (ps.take j) ++ onePut p := by
  have hj := (List.getElem?_eq_some_iff.1 h).1
  rw [List.take_succ_eq_append_getElem hj]
  rw [List.getElem?_eq_getElem hj] at h
  rw [Option.some.inj h]
  simp [putBits]

/-- What the reference's Bits leaves. -/
def RefBitsPost (p : Nat × Int) (w : World) (e : Ending) (w' : World) : Prop :=
  ∃ a n c, e = .returned (.tuple #[.slice a n c, .bool (mayPut p)]) ∧ (mayPut p = true → n = (onePut p).length ∧ Row w' 3 (.slice a n c) (bis (onePut p))) ∧ Fresh w.heap.size (footA a) ∧ Kept [] w w'
theorem refBits_any (p : Nat × Int) (w : World) (hv : p.1 < 18446744073709551616) : Calls Try.prog 17 #[.int .u64 p.1, .int .i64 p.2] w (RefBitsPost p w) := by
  obtain ⟨V, N⟩ := p
  by_cases h : N < 0 ∨ 64 < N
  · have hm : mayPut (V, N) = false := by simp [mayPut]; omega
    refine (refBits_no V N w h).mono fun e w' ⟨he, hw⟩ => ⟨none, 0, 0, by rw [he, hm], by simp [hm], by simp [Fresh, footA], by rw [← hw]; exact Kept.refl _ _⟩
  · obtain ⟨n, rfl⟩ := Int.eq_ofNat_of_zero_le (show 0 ≤ N by omega)
    have hm : mayPut (V, (n : Int)) = decide (V < 2 ^ n) := by
      simp only [mayPut, Int.toNat_natCast]
      rw [decide_eq_decide]
      exact ⟨fun h => h.2.2, fun h' => ⟨by omega, by omega, h'⟩⟩
    refine (refBits_ok V n w (by omega) hv).mono fun e w' ⟨g, he, hrow, hk, hg⟩ => ⟨some ⟨g, 0, none⟩, n, n, by rw [he, hm], fun h' => ?_, by simpa [Fresh, footA] using hg, hk⟩
    have ho : onePut (V, (n : Int)) = K.low V n := by simp [onePut, h']
    rw [ho, K.low_length]
    exact ⟨rfl, hrow⟩
/-- What Put leaves, whatever it is asked. -/
def PutAny (b : Nat) (o : Value) (bs : List Bool) (p : Nat × Int) (w : World) (e : Ending) (w' : World) : Prop :=
  e = .returned (.int .i64 (if mayPut p then 0 else 2)) ∧ ∃ o', Wr w' b o' (bs ++ onePut p) ∧ Kept (b :: foot o) w w' ∧ Grew w.heap.size (b :: foot o) (b :: foot o')
theorem put_any (b : Nat) (o : Value) (bs : List Bool) (p : Nat × Int) (w : World) (hv : p.1 < 18446744073709551616) (hl : bs.length ≤ 1000000000000) (hw : Wr w b o bs) :
    Calls Try.prog 18 #[.pointer (some ⟨b, 0, none⟩), .int .u64 p.1, .int .i64 p.2] w (PutAny b o bs p w) := by
  by_cases hm : mayPut p = true
  · have h := hm
    simp [mayPut] at h
    refine (put_put b p.1 p.2 o bs w h.1 h.2.1 (by omega) (by simpa using h.2.2) hl hw).mono fun e w' ⟨he, o', h1, h2, h3⟩ => ⟨by rw [he, hm]; rfl, o', ?_, h2, h3⟩
    have ho : onePut p = K.low p.1 p.2.toNat := by simp [onePut, hm]
    rw [ho]
    simpa using h1
  · have hm' : mayPut p = false := by simpa using hm
    have h : p.2 < 0 ∨ 64 < p.2 ∨ ¬ p.1 < 2 ^ p.2.toNat := by
      simp [mayPut] at hm'
      omega
    refine (put_arg b p.1 p.2 w hv h).mono fun e w' ⟨he, hw'⟩ => ⟨by rw [he, hm']; rfl, o, ?_, by rw [← hw']; exact Kept.refl _ _, Grew.refl _ _⟩
    have ho : onePut p = [] := by simp [onePut, hm']
    rw [ho, List.append_nil, ← hw']
    exact hw

/-- In the loop: i of them are asked. -/
def WritesI (w0 : World) (ps : List (Nat × Int)) (b : Nat) (k : Nat) (all i : Value) (w : World) : Prop :=
  ∃ j o, j ≤ ps.length ∧ k = ps.length - j ∧ i = .int .i64 (j : Nat) ∧ Row w 3 all (bis (putBits (ps.take j))) ∧ Wr w b o (putBits (ps.take j)) ∧ (putBits (ps.take j)).length ≤ 64 * j ∧
    Apart (foot all) (b :: foot o) ∧ Kept [] w0 w ∧ Fresh w0.heap.size (b :: foot o) ∧ Fresh w0.heap.size (foot all)

set_option maxHeartbeats 800000 in
theorem bitsWrites_walk (a : Option Addr) (len cap : Nat) (ps : List (Nat × Int)) (w : World) (h : Sees w 2 a len (putVals ps) ∧ ps.length = len ∧ len ≤ cap ∧ cap ≤ maxLen ∧ ∀ p ∈ ps, p.1 < 18446744073709551616 ∧ -9223372036854775808 ≤ p.2 ∧ p.2 ≤ 9223372036854775807) :
    Calls Try.prog 3 #[.slice a len cap] w fun e w' => e = .returned (.bool true) ∧ Kept [] w w' := by
  obtain ⟨hs, hl, hc, hm, hp⟩ := h
  by_cases h300 : 300 < len
  · have g1 : decide (300 < (len : Int)) = true := by simp; omega
    go_enter Try.func3, Try.ntmps3
    go_wp2_with ((go_at_call 15; refine (awakeA _).mono ?_; rintro e w' ⟨rfl, hk⟩))
    go_ret
    exact ⟨rfl, by assumption⟩
  · subst hl
    have g1 : decide (300 < (ps.length : Int)) = false := by simp; omega
    have hlt0 : 0 < ps.length → ∀ x ∈ footA a, x < w.heap.size := fun h0 => hs.lt (by rw [putVals_length]; omega)
    have HLT := Lib.hid hlt0
    have HS := Lib.hid hs
    clear hlt0
    have HP := Lib.hid hp
    clear hs hp
    go_enter Try.func3, Try.ntmps3
    go_wp2_with fail
    refine (newWriter_new _).mono ?_
    rintro e w1 ⟨b, rfl, hw, hk1, hb⟩
    go_wp2_with fail
    go_loopg [4, 5] ps.length (fun k all i wr => WritesI w ps b k all i wr)
    case atStart => exact ⟨0, _, by omega, by omega, rfl, Row.nil _ _, hw, by simp [putBits], by simp [Apart, foot, Value.ownBlock], hk1, hb, by simp [Fresh, foot, Value.ownBlock]⟩
    case round =>
      obtain ⟨j, o, hj, hk, rfl, hrow, hwr, hlen, hap, hkept, hfr, hfa⟩ := hrel
      have Hk := Lib.hid hk
      clear hk
      by_cases hlt : j < ps.length
      · have hsr := HS.out.kept0 hkept
        obtain ⟨b0, off, rfl, hcells⟩ := hsr.at (by rw [putVals_length]; omega)
        obtain ⟨⟨V, N⟩, hpj⟩ : ∃ p, ps[j]? = some p := ⟨_, List.getElem?_eq_getElem hlt⟩
        have c0 := hcells _ _ (putVals_get ps j _ hpj).1
        have c1 := hcells _ _ (putVals_get ps j _ hpj).2
        rw [← Nat.add_assoc] at c1
        have hV := (HP.out _ (List.mem_of_getElem? hpj)).1
        have hb0 : b0 < w.heap.size := HLT.out (by omega) b0 (by simp [footA])
        have hb0' : b0 ∉ b :: foot o := fun hm => by have := hfr b0 hm; omega
        have HB0 := Lib.hid hb0'
        clear hb0'
        have hjl : (j : Int) < (ps.length : Int) := by omega
        have hnx := putBits_take ps j _ hpj
        have hol := onePut_length (V, N)
        have HX := Lib.hid hnx
        have HSR := Lib.hid hsr
        have HAP := Lib.hid hap
        have HFA := Lib.hid hfa
        have HFR := Lib.hid hfr
        have HKE := Lib.hid hkept
        clear hcells hnx hsr hap hfa hfr hkept
        have w1 : IntKind.i64.wrap (j : Int) = j := IntWalk.i64_in _ (by omega)
        go_wp2_with fail
        go_region_held3 (fun w' => w'.cell? ⟨b0, off + j * 2, none⟩ = some (.int .u64 V) ∧ w'.cell? ⟨b0, off + j * 2 + 1, none⟩ = some (.int .i64 N)) (first | exact ⟨c0, c1⟩ | exact ⟨hk2.cellOf c0 (by simp), hk2.cellOf c1 (by simp)⟩)
          (first | (go_at_call 17; refine (refBits_any (V, N) _ hV).mono ?_; rintro e w2 ⟨bo, bn, bc, rfl, hrb, hfb, hk2⟩))
        have hk2' : Kept [] wr w2 := (Kept.refl [] wr).drew.trans hk2 (by simp)
        have d0 := hk2'.cellOf c0 (by simp)
        have d1 := hk2'.cellOf c1 (by simp)
        have hwr2 := hwr.kept hk2' (Apart.nil _)
        have hrow2 := hrow.kept hk2' (by simp)
        have hrb2 := Lib.hid hrb
        have hfb2 := Lib.hid hfb
        have HWR := Lib.hid hwr2
        have HROW := Lib.hid hrow2
        have hlb : (putBits (ps.take j)).length ≤ 1000000000000 := by omega
        have hwl := hwr.lt
        have HWL := Lib.hid hwl
        clear hwr hrow hwr2 hrow2 hrb hfb hk2 hwl
        rcases Bool.eq_false_or_eq_true (mayPut (V, N)) with hM | hM
        · have HM := Lib.hid hM
          have hret : (if mayPut (V, N) then (0 : Int) else 2) = 0 := by rw [hM]; rfl
          obtain ⟨hbn, hrb⟩ := hrb2.out hM
          rw [hM]
          clear hM
          go_wp2_with fail
          go_region_held3 (fun w' => w'.cell? ⟨b0, off + j * 2, none⟩ = some (.int .u64 V) ∧ w'.cell? ⟨b0, off + j * 2 + 1, none⟩ = some (.int .i64 N)) (first | exact ⟨d0, d1⟩ | exact ⟨hk3.cellOf d0 HB0.out, hk3.cellOf d1 HB0.out⟩)
            (first | (go_at_call 18; refine (put_any b o _ (V, N) _ hV hlb (by exact HWR.out)).mono ?_; rintro e w3 ⟨rfl, o3, hwr3, hk3, hg3⟩))
          have hk3' : Kept (b :: foot o) w2 w3 := (Kept.refl _ w2).drew.trans hk3 (fun x hx => .inl hx)
          have hrow3 := HROW.out.kept hk3' HAP.out
          have hap3 : Apart (foot u4) (b :: foot o3) := HAP.out.grow HROW.out.lt hg3
          obtain ⟨ab, cb, hve, -, -, hsb, hfoot⟩ := hrb.sees
          injection hve with e1 e2 e3
          subst e1 e2 e3
          have hsb3 : Sees w3 1 bo (onePut (V, N)).length (bis (onePut (V, N))) := by
            have := hsb.kept hk3' ((Apart.fresh HWL.out (fun x hx => hfb2.out x hx)).symm)
            rwa [bis_length] at this
          have hao : bo = none → bc = 0 := fun h => by
            subst h
            rcases hrb.2 with ⟨h1, -⟩ | ⟨g, cp, cur, h1, -⟩
            · injection h1
            · injection h1 with h1; cases h1
          have hq : (putBits (ps.take j)).length ≤ 19200 := by omega
          have L1 : (bis (putBits (ps.take j))).length + (onePut (V, N)).length ≤ maxLen := by rw [bis_length]; simp only [maxLen]; omega
          have L2 : ((bis (putBits (ps.take j))).length + (onePut (V, N)).length) * 8 ≤ 140737488355328 := by rw [bis_length]; omega
          have hone : ∀ u ∈ bis (onePut (V, N)), u.oneCell' = true := by
            intro u hu
            obtain ⟨c, -, rfl⟩ := List.mem_map.1 hu
            rfl
          have hw4 : ∀ w4, Kept (foot u4) w3 w4 → Wr w4 b o3 (putBits (ps.take j) ++ onePut (V, N)) := fun w4 hk4 => hwr3.kept hk4 hap3.symm
          have hlen4 : (bis (putBits (ps.take j))).length + (onePut (V, N)).length = (putBits (ps.take j) ++ onePut (V, N)).length := by simp [bis_length]
          have HW4 := Lib.hid hw4
          have HL4 := Lib.hid hlen4
          have HRB := Lib.hid hrb
          have HHK := Lib.hid hk3'
          clear hw4 hlen4 hrb
          go_wp2_with (first
            | (at_builtin; refine wp_appS rfl _ _ 26 rfl 3 (.int .i64 0) 8 Try.underlying26 Try.infoInt rfl u4 _ _ _ _ _ rfl rfl hone hrow3 hsb3 hao L1 L2 ?_; intro a4 cap4 w4 hrow4 hk4 hg4; have hwr4 := HW4.out w4 hk4; rw [HL4.out])
            | (go_at_call 19; refine (len_ok _ _ _ _ (by assumption)).mono ?_; rintro e w' ⟨rfl, rfl⟩))
          go_roundg (ps.length - (j + 1))
          case measure => have := Hk.out; omega
          case rel =>
            have hz2 := hk2'.size
            have hz3 := HHK.out.size
            have hrow4' := hrow4
            have hg4' := hg4
            rw [bis_length] at hrow4' hg4'
            refine ⟨j + 1, o3, by omega, rfl, by go_num, ?_, ?_, ?_, (hap3.symm.grow hwr3.lt hg4').symm, ?_, HFR.out.grow hg3 (Nat.le_trans HKE.out.size hz2), HFA.out.grow hg4' (Nat.le_trans HKE.out.size (Nat.le_trans hz2 hz3))⟩
            · rw [HX.out, bis_append]; exact hrow4'
            · rw [HX.out]; exact hwr4
            · rw [HX.out, List.length_append]; omega
            · exact ((HKE.out.new hk2' (by simp [Fresh])).new HHK.out HFR.out).new hk4 HFA.out
        · have HM := Lib.hid hM
          have hret : (if mayPut (V, N) then (0 : Int) else 2) = 2 := by rw [hM]; rfl
          have hnone : onePut (V, N) = [] := by simp [onePut, hM]
          rw [hM]
          clear hM
          obtain ⟨aa, ca, rfl, -, -, -⟩ := HROW.out.sees
          rw [bis_length]
          go_wp2_with fail
          go_region_held3 (fun w' => w'.cell? ⟨b0, off + j * 2, none⟩ = some (.int .u64 V) ∧ w'.cell? ⟨b0, off + j * 2 + 1, none⟩ = some (.int .i64 N)) (first | exact ⟨d0, d1⟩ | exact ⟨hk3.cellOf d0 HB0.out, hk3.cellOf d1 HB0.out⟩)
            (first | (go_at_call 18; refine (put_any b o _ (V, N) _ hV hlb (by exact HWR.out)).mono ?_; rintro e w3 ⟨rfl, o3, hwr3, hk3, hg3⟩))
          have hk3' : Kept (b :: foot o) w2 w3 := (Kept.refl _ w2).drew.trans hk3 (fun x hx => .inl hx)
          have hrow3 := HROW.out.kept hk3' HAP.out
          have hap3 := HAP.out.grow HROW.out.lt hg3
          rw [hnone, List.append_nil] at hwr3
          rw [hnone, List.append_nil] at HX
          have HHK := Lib.hid hk3'
          clear hnone
          go_wp2_with (go_at_call 19; refine (len_ok _ _ _ _ hwr3).mono ?_; rintro e w' ⟨rfl, rfl⟩)
          go_roundg (ps.length - (j + 1))
          case measure => have := Hk.out; omega
          case rel =>
            have hz2 := hk2'.size
            have hrow3' := hrow3
            have hap3' := hap3
            have hfa' := HFA.out
            rw [bis_length] at hrow3' hap3' hfa'
            refine ⟨j + 1, o3, by omega, rfl, by go_num, ?_, ?_, ?_, hap3', ?_, HFR.out.grow hg3 (Nat.le_trans HKE.out.size hz2), hfa'⟩
            · rw [HX.out]; exact hrow3'
            · rw [HX.out]; exact hwr3
            · rw [HX.out]; omega
            · exact (HKE.out.new hk2' (by simp [Fresh])).new HHK.out HFR.out
      · obtain rfl : j = ps.length := by omega
        obtain ⟨aa, ca, rfl, -, -, hsee, -⟩ := hrow.sees
        rw [List.take_of_length_le (Nat.le_refl _)] at *
        rw [bis_length] at *
        have hlb : (putBits ps).length ≤ 1000000000000 := by omega
        go_wp2_with (first
          | (go_at_call 20; refine (text_ok _ _ _ _ hwr).mono ?_; rintro e w' ⟨rfl, rfl⟩)
          | (go_at_call 21; refine (refText_ok _ _ _ _ hlb hsee).mono ?_; rintro e w5 ⟨rfl, hk5⟩)
          | (go_at_call 15; refine (awakeA _).mono ?_; rintro e w6 ⟨rfl, hk6⟩))
        go_ret
        exact ⟨rfl, (hkept.new ‹Kept [] wr _› (by simp [Fresh])).new ‹_› (by simp [Fresh])⟩
end Go.Proofs.Ytickefjlkpdifaa
