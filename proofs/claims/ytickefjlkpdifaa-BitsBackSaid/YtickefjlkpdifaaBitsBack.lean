/-
  BitsBack: the walk.
-/
import Derived.Test.YtickefjlkpdifaaBitsWrites
import Derived.Test.YtickefjlkpdifaaAnyA
import Derived.Test.YtickefjlkpdifaaLibB
import Derived.Test.YtickefjlkpdifaaPlainC
namespace Go.Proofs.Ytickefjlkpdifaa
open Go.RowKit
set_option linter.unusedVariables false
set_option linter.unusedSimpArgs false

theorem Try.infoPut : (Try.prog.info? 31).map (fun i => (i.zero, i.size, i.bytes)) = some (some (.agg #[.int .u64 0, .int .i64 0]), 2, 16) := by kernel_rfl

/-- In the first loop: j of them are asked, oks may be put. -/
def BackI (w0 : World) (ps : List (Nat × Int)) (b : Nat) (k : Nat) (v i : Value) (w : World) : Prop :=
  ∃ j o oks, j ≤ ps.length ∧ k = ps.length - j ∧ i = .int .i64 (j : Nat) ∧ oks = (ps.take j).filter mayPut ∧ oks.length ≤ j ∧ RowN w 31 2 v oks.length (putVals oks) ∧ Wr w b o (putBits oks) ∧ (putBits oks).length ≤ 64 * j ∧
    Apart (foot v) (b :: foot o) ∧ Kept [] w0 w ∧ Fresh w0.heap.size (b :: foot o) ∧ Fresh w0.heap.size (foot v)

/-- In the second loop: j of them are taken again. -/
def BackJ (w0 : World) (oks : List (Nat × Int)) (r q : Nat) (s : ByteArray) (b : Nat) (o : Value) (ao : Option Addr) (k : Nat) (i : Value) (w : World) : Prop :=
  ∃ j, j ≤ oks.length ∧ k = oks.length - j ∧ i = .int .i64 (j : Nat) ∧ Rd w r q s (putBits (oks.take j)).length ∧ Sees w 2 ao oks.length (putVals oks) ∧ Wr w b o (putBits oks) ∧ Kept [] w0 w

theorem putBits_one (p : Nat × Int) : putBits [p] = onePut p := by simp [putBits]
theorem putBits_append (a b : List (Nat × Int)) : putBits (a ++ b) = putBits a ++ putBits b := by simp [putBits]
theorem putVals_append (a b : List (Nat × Int)) : putVals (a ++ b) = putVals a ++ putVals b := by simp [putVals]

set_option maxRecDepth 100000 in
set_option maxHeartbeats 1000000 in
theorem bitsBack_walk (a : Option Addr) (len cap : Nat) (ps : List (Nat × Int)) (w : World) (h : Sees w 2 a len (putVals ps) ∧ ps.length = len ∧ len ≤ cap ∧ cap ≤ maxLen ∧ ∀ p ∈ ps, p.1 < 18446744073709551616 ∧ -9223372036854775808 ≤ p.2 ∧ p.2 ≤ 9223372036854775807) :
    Calls Try.prog 5 #[.slice a len cap] w fun e w' => e = .returned (.bool true) ∧ Kept [] w w' := by
  obtain ⟨hs, hl, hc, hm, hp⟩ := h
  by_cases h300 : 300 < len
  · have g1 : decide (300 < (len : Int)) = true := by simp; omega
    go_enter Try.func5, Try.ntmps5
    go_wp2_with ((go_at_call 15; refine (awakeA _).mono ?_; rintro e w' ⟨rfl, hk⟩))
    go_ret
    exact ⟨rfl, by assumption⟩
  · subst hl
    have g1 : decide (300 < (ps.length : Int)) = false := by simp; omega
    have hlt0 : 0 < ps.length → ∀ x ∈ footA a, x < w.heap.size := fun h0 => hs.lt (by rw [putVals_length]; omega)
    have HLT := Lib.hid hlt0
    have HS := Lib.hid hs
    have HP := Lib.hid hp
    clear hs hp hlt0 hc hm
    go_enter Try.func5, Try.ntmps5
    go_wp2_with fail
    refine (newWriter_new _).mono ?_
    rintro e w1 ⟨b, rfl, hw, hk1, hb⟩
    go_wp2_with fail
    go_loopg [4, 5] ps.length (fun k v i wr => BackI w ps b k v i wr)
    case atStart => exact ⟨0, _, [], by omega, by omega, rfl, rfl, by simp, RowN.nil _ _ _, hw, by simp [putBits], by simp [Apart, foot, Value.ownBlock], hk1, hb, by simp [Fresh, foot, Value.ownBlock]⟩
    case round =>
      obtain ⟨j, o, oks, hj, hk, rfl, hoks, hol, hrow, hwr, hlen, hap, hkept, hfr, hfa⟩ := hrel
      have Hk := Lib.hid hk
      have HO := Lib.hid hoks
      clear hk hoks hw hk1 hb
      by_cases hlt : j < ps.length
      · have hsr := HS.out.kept0 hkept
        obtain ⟨b0, off, rfl, hcells⟩ := hsr.at (by rw [putVals_length]; omega)
        obtain ⟨⟨V, N⟩, hpj⟩ : ∃ p, ps[j]? = some p := ⟨_, List.getElem?_eq_getElem hlt⟩
        have c0 := hcells _ _ (putVals_get ps j _ hpj).1
        have c1 := hcells _ _ (putVals_get ps j _ hpj).2
        rw [← Nat.add_assoc] at c1
        have hV := (HP.out _ (List.mem_of_getElem? hpj)).1
        have hb0 : b0 < w.heap.size := HLT.out (by omega) b0 (by simp [footA])
        have hb0' : b0 ∉ b :: foot o := fun hm => by have := hfr b0 hm; omega
        have HB0 := Lib.hid hb0'
        have hjl : (j : Int) < (ps.length : Int) := by omega
        have htk : ps.take (j + 1) = ps.take j ++ [(V, N)] := by
          have := List.take_succ_eq_append_getElem hlt
          rw [List.getElem?_eq_getElem hlt] at hpj
          rw [this, Option.some.inj hpj]
        have HT := Lib.hid htk
        have hop := onePut_length (V, N)
        have HSR := Lib.hid hsr
        have HAP := Lib.hid hap
        have HFA := Lib.hid hfa
        have HFR := Lib.hid hfr
        have HKE := Lib.hid hkept
        have HWR := Lib.hid hwr
        have HROW := Lib.hid hrow
        have hlb : (putBits oks).length ≤ 1000000000000 := by omega
        have w1 : IntKind.i64.wrap (j : Int) = j := IntWalk.i64_in _ (by omega)
        clear hcells hsr hap hfa hfr hkept hb0' htk hwr hrow hpj
        rcases Bool.eq_false_or_eq_true (mayPut (V, N)) with hM | hM
        · have hret : (if mayPut (V, N) then (0 : Int) else 2) = 0 := by rw [hM]; rfl
          have HM := Lib.hid hM
          clear hM
          go_wp2_with fail
          go_region_held3 (fun w' => w'.cell? ⟨b0, off + j * 2, none⟩ = some (.int .u64 V) ∧ w'.cell? ⟨b0, off + j * 2 + 1, none⟩ = some (.int .i64 N)) (first | exact ⟨c0, c1⟩ | exact ⟨hk3.cellOf c0 HB0.out, hk3.cellOf c1 HB0.out⟩)
            (first | (go_at_call 18; refine (put_any b o _ (V, N) _ hV hlb (by exact HWR.out)).mono ?_; rintro e w3 ⟨rfl, o3, hwr3, hk3, hg3⟩))
          have hk3' : Kept (b :: foot o) wr w3 := (Kept.refl _ wr).drew.trans hk3 (fun x hx => .inl hx)
          have d0 := hk3'.cellOf c0 HB0.out
          have d1 := hk3'.cellOf c1 HB0.out
          clear c0 c1
          have hrow3 := HROW.out.kept hk3' HAP.out
          have hap3 : Apart (foot u4) (b :: foot o3) := HAP.out.grow HROW.out.lt hg3
          have L1 : oks.length + 1 ≤ maxLen := by simp only [maxLen]; omega
          have L2 : (oks.length + 1) * 16 ≤ 140737488355328 := by omega
          have HHK := Lib.hid hk3'
          clear hk3' hk3
          go_wp2_with ((at_builtin; refine wp_appK w3 rfl _ _ 22 rfl 31 _ 2 16 Try.underlying22 Try.infoPut rfl (by decide) u4 oks.length (putVals oks) [.int .u64 V, .int .i64 N] rfl rfl rfl rfl (by simp [Value.oneCell']) hrow3 L1 L2 ?_; intro g cp w4 hrow4 hk4 hg4))
          go_roundg (ps.length - (j + 1))
          case measure => have := Hk.out; omega
          case rel =>
            have hf4 : Grew w3.heap.size (foot u4) (foot (.slice (some ⟨g, 0, none⟩) (oks.length + 1) cp)) := by
              intro x hx
              obtain rfl : x = g := by simpa [foot, Value.ownBlock] using hx
              exact hg4
            have hz3 := HHK.out.size
            have hb1 : putBits (oks ++ [(V, N)]) = putBits oks ++ onePut (V, N) := by rw [putBits_append, putBits_one]
            refine ⟨j + 1, o3, oks ++ [(V, N)], by omega, rfl, by go_num, ?_, by simp; omega, ?_, ?_, ?_, (hap3.symm.grow hwr3.lt hf4).symm, ?_, HFR.out.grow hg3 HKE.out.size, ?_⟩
            · rw [HT.out, List.filter_append, ← HO.out]; simp [HM.out]
            · rw [putVals_append]; simpa [putVals] using hrow4
            · rw [hb1]; exact hwr3.kept hk4 hap3.symm
            · rw [hb1, List.length_append]; omega
            · exact (HKE.out.new HHK.out HFR.out).new hk4 HFA.out
            · exact HFA.out.grow hf4 (Nat.le_trans HKE.out.size hz3)
        · have hret : (if mayPut (V, N) then (0 : Int) else 2) = 2 := by rw [hM]; rfl
          have hnone : onePut (V, N) = [] := by simp [onePut, hM]
          have HM := Lib.hid hM
          have HN := Lib.hid hnone
          clear hM hnone
          go_wp2_with fail
          go_region_held3 (fun w' => w'.cell? ⟨b0, off + j * 2, none⟩ = some (.int .u64 V) ∧ w'.cell? ⟨b0, off + j * 2 + 1, none⟩ = some (.int .i64 N)) (first | exact ⟨c0, c1⟩ | exact ⟨hk3.cellOf c0 HB0.out, hk3.cellOf c1 HB0.out⟩)
            (first | (go_at_call 18; refine (put_any b o _ (V, N) _ hV hlb (by exact HWR.out)).mono ?_; rintro e w3 ⟨rfl, o3, hwr3, hk3, hg3⟩))
          have hk3' : Kept (b :: foot o) wr w3 := (Kept.refl _ wr).drew.trans hk3 (fun x hx => .inl hx)
          have hrow3 := HROW.out.kept hk3' HAP.out
          have hap3 : Apart (foot u4) (b :: foot o3) := HAP.out.grow HROW.out.lt hg3
          rw [HN.out, List.append_nil] at hwr3
          have HHK := Lib.hid hk3'
          clear hk3' hk3
          go_wp2_with fail
          go_roundg (ps.length - (j + 1))
          case measure => have := Hk.out; omega
          case rel =>
            refine ⟨j + 1, o3, oks, by omega, rfl, by go_num, ?_, by omega, hrow3, hwr3, by omega, hap3, HKE.out.new HHK.out HFR.out, HFR.out.grow hg3 HKE.out.size, HFA.out⟩
            rw [HT.out, List.filter_append, ← HO.out]; simp [HM.out]
      · obtain rfl : j = ps.length := by omega
        have hall : ∀ p ∈ oks, mayPut p = true := by
          intro p hp
          rw [HO.out] at hp
          exact (List.mem_filter.1 hp).2
        clear HO
        obtain ⟨ao, co, rfl, -, -, hsee, hfo⟩ := hrow.sees
        have hpl := K.pack_length (putBits oks)
        have hsz : (ByteArray.mk (K.pack (putBits oks)).toArray).size = (K.pack (putBits oks)).length := by simp [ByteArray.size]
        have hq : (putBits oks).length ≤ 19200 := by omega
        have hol3 : oks.length ≤ 300 := by omega
        go_wp2_with fail
        refine (text_ok _ _ _ _ hwr).mono ?_
        rintro e w' ⟨rfl, rfl⟩
        go_wp2_with fail
        refine (newReader_new _ _ _ (by rw [hsz, hpl]; omega) (by decide) (by simp)).mono ?_
        rintro e w2 ⟨r, q, rfl, hr, hk2, hrq⟩
        have hr : Rd w2 r q _ 0 := hr
        have hlist : (ByteArray.mk (K.pack (putBits oks)).toArray).data.toList = K.pack (putBits oks) := by simp
        have hap2 : Apart (footA ao) [r, q] := by
          have : Apart (foot (.slice ao oks.length co)) [r, q] := Apart.fresh hrow.lt hrq
          rw [foot_slice] at this
          exact this
        have hap2' : Apart (b :: foot o) [r, q] := Apart.fresh hwr.lt hrq
        have hwr2 := hwr.kept hk2 (Apart.nil _)
        have hsee2 := hsee.kept hk2 (Apart.nil _)
        have hkk2 := hkept.new hk2 (by simp [Fresh])
        have hfr2 : Fresh w.heap.size [r, q] := hrq.mono hkept.size
        have HA2 := Lib.hid hap2
        have HA3 := Lib.hid hap2'
        have HF2 := Lib.hid hfr2
        have hszb : (K.pack (putBits oks)).length * 8 < (putBits oks).length + 8 ∧ (putBits oks).length ≤ (K.pack (putBits oks)).length * 8 := by rw [hpl]; omega
        have HALL := Lib.hid hall
        rw [← hsz] at hszb
        generalize hsq : ByteArray.mk (K.pack (putBits oks)).toArray = s at hsz hr hlist hszb
        have HSQ := Lib.hid hsq
        have HLI := Lib.hid hlist
        have HSZ := Lib.hid hsz
        have HPL := Lib.hid hpl
        clear hsq hlist hsz hpl hrow hsee hkept hwr hk2 hrq hap2 hap2' hfr2 hap hfr hfa hfo hall hol hlen
        go_wp2_with fail
        go_loopg [7] oks.length (fun k i wr => BackJ w oks r q s b o ao k i wr)
        case atStart => exact ⟨0, by omega, by omega, rfl, hr, hsee2, hwr2, hkk2⟩
        case round =>
          obtain ⟨j, hj, hk, rfl, hrd, hsee3, hwr3, hkept3⟩ := hrel
          have Hk2 := Lib.hid hk
          clear hk hr hsee2 hwr2 hkk2
          by_cases hlt : j < oks.length
          · obtain ⟨b0, off, rfl, hcells⟩ := hsee3.at (by rw [putVals_length]; omega)
            obtain ⟨⟨V, N⟩, hpj⟩ : ∃ p, oks[j]? = some p := ⟨_, List.getElem?_eq_getElem hlt⟩
            have c0 := hcells _ _ (putVals_get oks j _ hpj).1
            have c1 := hcells _ _ (putVals_get oks j _ hpj).2
            rw [← Nat.add_assoc] at c1
            have hmay := HALL.out _ (List.mem_of_getElem? hpj)
            have hmay2 := hmay
            simp [mayPut] at hmay
            obtain ⟨n, rfl⟩ := Int.eq_ofNat_of_zero_le hmay.1
            have hn : n ≤ 64 := by omega
            have hVn : V < 2 ^ n := by simpa using hmay.2.2
            have hone : onePut (V, (n : Int)) = K.low V n := by simp [onePut, hmay2]
            have hnx := putBits_take oks j _ hpj
            have hsplit : putBits oks = putBits (oks.take j) ++ K.low V n ++ putBits (oks.drop (j + 1)) := by
              rw [← hone, ← hnx, ← putBits_append, List.take_append_drop]
            have hpos : (putBits (oks.take j)).length + n ≤ (putBits oks).length := by rw [hsplit]; simp [K.low_length]
            have hpiece : K.piece (K.bitsOf s.data.toList) (putBits (oks.take j)).length n = K.low V n := by
              rw [HLI.out, K.piece_pack _ _ _ hpos, hsplit]
              have := K.piece_append (putBits (oks.take j)) (K.low V n) (putBits (oks.drop (j + 1)))
              rw [K.low_length] at this
              exact this
            have hnum : K.num (K.piece (K.bitsOf s.data.toList) (putBits (oks.take j)).length n) = V := by rw [hpiece, K.num_low, Nat.mod_eq_of_lt hVn]
            have hln : (putBits (oks.take (j + 1))).length = (putBits (oks.take j)).length + n := by rw [hnx, List.length_append, hone, K.low_length]
            have hjl : (j : Int) < (oks.length : Int) := by omega
            have HNUM := Lib.hid hnum
            have HLN := Lib.hid hln
            have hap : Apart (footA (some (⟨b0, off, none⟩ : Addr))) [r] := HA2.out.symm.sub (by simp) |>.symm
            have hapw : Apart (b :: foot o) [r] := (HA3.out.symm.sub (by simp)).symm
            have hsz2 : s.size ≤ 19200 := by omega
            have hpos2 : (putBits (oks.take j)).length + n ≤ 8 * s.size := by omega
            clear hcells hmay hmay2 hone hnx hsplit hpiece hnum hln hpj hpos
            go_wp2_with fail
            refine (take_ok r q s _ n _ hrd (by omega) hn hpos2).mono ?_
            rintro e w3 ⟨rfl, hrd3, hk3⟩
            rw [HNUM.out]
            have d0 := hk3.cellOf c0 (hap b0 (by simp [footA]))
            have d1 := hk3.cellOf c1 (hap b0 (by simp [footA]))
            have hsee4 := hsee3.kept hk3 hap
            have hwr4 := hwr3.kept hk3 hapw
            have hkept4 := hkept3.new hk3 (fun x hx => HF2.out x (by simp at hx; simp [hx]))
            have HR3 := Lib.hid hrd3
            clear hk3 c0 c1 hrd hsee3 hwr3 hkept3 hrd3
            go_wp2_with fail
            go_roundg (oks.length - (j + 1))
            case measure => have := Hk2.out; omega
            case rel => exact ⟨j + 1, by omega, rfl, by go_num, by rw [HLN.out]; exact HR3.out, hsee4, hwr4, hkept4⟩
          · obtain rfl : j = oks.length := by omega
            have hpe : (putBits (oks.take oks.length)).length = (putBits oks).length := by rw [List.take_of_length_le (Nat.le_refl _)]
            rw [hpe] at hrd
            clear hpe
            go_wp2_with fail
            refine (at_ok _ _ _ _ _ hrd).mono ?_
            rintro e w' ⟨rfl, rfl⟩
            go_wp2_with fail
            refine (len_ok _ _ _ _ hwr3).mono ?_
            rintro e w' ⟨rfl, rfl⟩
            go_wp2_with fail
            refine (left_ok _ _ _ _ _ hrd (by omega) (by omega)).mono ?_
            rintro e w' ⟨rfl, m, rfl⟩
            have hlt8 : decide (((8 * s.size - (putBits oks).length : Nat) : Int) < 8) = true := by simp; omega
            go_wp2_with ((go_at_call 15; refine (awakeA _).mono ?_; rintro e w' ⟨rfl, hk⟩))
            go_ret
            exact ⟨rfl, (hkept3.drewN _).new ‹_› (by simp [Fresh])⟩
end Go.Proofs.Ytickefjlkpdifaa
