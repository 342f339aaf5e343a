/-
  The walks of layer 9's references: Codes, Put, Encode.
-/
import Derived.Test.YtodjfgdolegfpaaPreH
import Derived.Test.YtodjfgdolegfpaaSlice
namespace Go.Proofs.Ytodjfgdolegfpaa
open Go.RowKit
set_option linter.unusedVariables false
set_option linter.unusedSimpArgs false

/-- In Codes' loop: i codes are told. -/
def RCodI (w0 : World) (ls : List Nat) (k : Nat) (v c : Value) (w : World) : Prop :=
  ∃ i, i ≤ ls.length ∧ k = ls.length - i ∧ c = .int .i64 (i : Nat) ∧ Row w 3 v (natVals ((K.codesP ls).take i)) ∧ Kept [] w0 w ∧ Fresh w0.heap.size (foot v)
theorem rpcodes_any (a : Option Addr) (cap : Nat) (xs : List Int) (w : World) (h : Sees w 1 a xs.length (intVals xs)) (hlen : xs.length ≤ 17592186043904) :
    Calls Try.prog 11 #[.slice a xs.length cap] w (NatsPost (K.codesR xs) w) := by
  have HS := Lib.hid h
  clear h
  rcases Bool.eq_false_or_eq_true (K.goodL xs) with hok | hok
  · have hR : K.codesR xs = (K.codesP (K.natsOf xs), 0) := by unfold K.codesR; rw [hok]; rfl
    have hch : checkR xs = 0 := by unfold checkR; rw [hok]; rfl
    have HR := Lib.hid hR
    have HOK := Lib.hid hok
    clear hR hok
    go_enter Try.func11, Try.ntmps11
    go_wp2_with fail
    refine (rcheck_any a cap xs _ HS.out hlen).mono ?_
    rintro e w' ⟨rfl, rfl⟩
    rw [hch]
    clear hch
    go_wp2_with fail
    refine (rtable_ok a cap xs _ HS.out HOK.out).mono ?_
    rintro e w1 ⟨g, rfl, hsm, hk1⟩
    have hgd := K.goodL_in HOK.out
    have hlt := K.code_lt (K.natsOf xs) (fun x hx => (hgd x hx).2) (K.goodL_room HOK.out)
    have hl := ((K.lensOk_iff xs).1 (K.goodL_lens HOK.out)).1
    obtain ⟨ls, hls⟩ : ∃ ls, K.natsOf xs = ls := ⟨_, rfl⟩
    have hll : ls.length = xs.length := by rw [← hls, K.natsOf_length]
    rw [hls] at hgd hlt hsm
    have HLS := Lib.hid hls
    have HLL := Lib.hid hll
    have HGD := Lib.hid hgd
    have HLT := Lib.hid hlt
    have HSM := Lib.hid hsm
    have HK1 := Lib.hid hk1
    clear hls hll hgd hlt hsm hk1
    go_wp2_with fail
    go_loopg [6, 7] ls.length (fun k v c wr => RCodI w1 ls k v c wr)
    case atStart => exact ⟨0, by omega, by omega, rfl, Row.nil _ _, Kept.refl _ _, by simp [Fresh, foot, Value.ownBlock]⟩
    case round =>
      obtain ⟨i, hi, hk, rfl, hrow, hkept, hfr⟩ := hrel
      have Hk := Lib.hid hk
      have HKE := Lib.hid hkept
      have HFR := Lib.hid hfr
      clear hk hkept hfr
      by_cases hlt2 : i < xs.length
      · have hli : (i : Int) < (xs.length : Int) := by omega
        have hils : i < ls.length := by rw [HLL.out]; exact hlt2
        obtain ⟨b, off, ar, c, ha, hc, hsr, -, -⟩ := (HSM.out.kept0 HKE.out).at i (bis (K.symP ls i)) (by rw [List.getElem?_map, K.tabP_get ls i hils]; rfl)
        injection ha with ha
        injection ha with h1 h2
        subst h1 h2
        rw [Nat.zero_add] at hc
        have hbl : (bis (K.symP ls i)).length = ls.getD i 0 := by rw [bis_length, K.symP_length]
        have hm20 : ls.getD i 0 ≤ 20 := by
          have hm : ls.getD i 0 ∈ ls := by rw [List.getD, List.getElem?_eq_getElem hils]; exact List.getElem_mem hils
          exact (HGD.out _ hm).2
        have hnum : K.num (K.symP ls i) = K.codeP ls i := by
          unfold K.symP
          rw [K.num_low, Nat.mod_eq_of_lt (HLT.out i hils)]
        have hcl := HLT.out i hils
        have hp : 2 ^ (ls.getD i 0) ≤ 2 ^ 20 := Nat.pow_le_pow_right (by decide) hm20
        have hc20 : K.codeP ls i < 1048576 := by
          have e : (2 : Nat) ^ 20 = 1048576 := rfl
          omega
        rw [hbl] at hc hsr
        have HSR := Lib.hid hsr
        have htk : (K.codesP ls).take (i + 1) = (K.codesP ls).take i ++ [K.codeP ls i] := by rw [List.take_add_one, K.codesP_get ls i hils]; rfl
        have HTK := Lib.hid htk
        have HNUM := Lib.hid hnum
        have hrl : (natVals ((K.codesP ls).take i)).length = i := by rw [natVals_length, List.length_take, K.codesP_length]; omega
        have L1 : (natVals ((K.codesP ls).take i)).length + 1 ≤ maxLen := by rw [hrl]; simp only [maxLen]; omega
        have L2 : ((natVals ((K.codesP ls).take i)).length + 1) * 8 ≤ 140737488355328 := by rw [hrl]; omega
        have hsl := K.symP_length ls i
        have HSL := Lib.hid hsl
        clear hbl hnum hcl hp hsr htk hrl hsl
        generalize ls.getD i 0 = m at hc hm20 HSR HSL
        go_wp2_with fail
        refine (refNumber_ok ar m c (K.symP ls i) _ HSL.out (by omega) HSR.out).mono ?_
        rintro e w' ⟨rfl, rfl⟩
        rw [HNUM.out]
        generalize K.codeP ls i = cd at HTK hc20 ⊢
        have hcw : IntKind.i64.wrap (cd : Int) = (cd : Int) := IntWalk.i64_in _ (by omega)
        clear hc
        go_wp2_with ((at_builtin; refine wp_appL _ rfl _ _ 22 rfl 3 (.int .i64 0) 8 Try.underlying22 Try.infoInt rfl _ _ [.int .i64 (cd : Int)] 1 rfl rfl rfl rfl (by simp [Value.oneCell']) hrow L1 L2 ?_; intro a5 cap5 w5 hrow5 hk5 hg5))
        go_roundg (ls.length - (i + 1))
        case measure => have := Hk.out; have := HLL.out; omega
        case rel => exact ⟨i + 1, by have := HLL.out; omega, rfl, by go_num, by rw [HTK.out, natVals_append]; exact hrow5, HKE.out.new hk5 HFR.out, HFR.out.grow hg5 HKE.out.size⟩
      · have hie : i = ls.length := by have := HLL.out; omega
        have hrow2 := hrow
        rw [hie, List.take_of_length_le (by rw [K.codesP_length]; exact Nat.le_refl _)] at hrow2
        obtain ⟨av, cv, hv, -, -, -, -⟩ := hrow2.sees
        rw [natVals_length] at hv
        subst hv
        have HROW := Lib.hid hrow2
        clear hie hrow hrow2
        go_wp2_with fail
        go_ret2
        rw [HR.out, HLS.out]
        exact NatsPost.ok (by rfl) HROW.out (HK1.out.new HKE.out (by simp [Fresh])) (HFR.out.mono HK1.out.size)
  · have hR : K.codesR xs = ([], 80) := by unfold K.codesR; rw [hok]; rfl
    have hch : checkR xs = 80 := by unfold checkR; rw [hok]; rfl
    have HR := Lib.hid hR
    go_enter Try.func11, Try.ntmps11
    go_wp2_with fail
    refine (rcheck_any a cap xs _ HS.out hlen).mono ?_
    rintro e w' ⟨rfl, rfl⟩
    rw [hch]
    clear hR hok hch
    go_wp2_with fail
    go_ret2
    rw [HR.out]
    exact NatsPost.err (by rfl) (Kept.refl _ _)

/-- What Put answers. -/
def put9R (l list : List Int) : List Bool × Nat := if K.goodL l then match K.encP (K.natsOf l) list with | none => ([], 60) | some B => (B, 0) else ([], 80)
theorem put9R_bad (l list : List Int) (h : K.goodL l = false) : put9R l list = ([], 80) := by unfold put9R; rw [h]; rfl
theorem put9R_none (l list : List Int) (h : K.goodL l = true) (he : K.encP (K.natsOf l) list = none) : put9R l list = ([], 60) := by unfold put9R; rw [h, he]; rfl
theorem put9R_some (l list : List Int) (B : List Bool) (h : K.goodL l = true) (he : K.encP (K.natsOf l) list = some B) : put9R l list = (B, 0) := by unfold put9R; rw [h, he]; rfl
/-- What a function leaves that answers bits as a list, and an error. -/
def BisPost (p : List Bool × Nat) (w : World) (e : Ending) (w' : World) : Prop :=
  ∃ a c, e = .returned (.tuple #[.slice a p.1.length c, .int .i64 (p.2 : Nat)]) ∧ Row w' 3 (.slice a p.1.length c) (bis p.1) ∧ Kept [] w w' ∧ Fresh w.heap.size (footA a)
theorem BisPost.err {w w' : World} {e : Ending} {n : Nat} (he : e = .returned (.tuple #[.slice none 0 0, .int .i64 (n : Nat)])) (hk : Kept [] w w') : BisPost ([], n) w e w' :=
  ⟨none, 0, he, Row.nil _ _, hk, by simp [Fresh, footA]⟩
theorem BisPost.ok {w w' : World} {e : Ending} {l : List Bool} {a : Option Addr} {c : Nat} (he : e = .returned (.tuple #[.slice a l.length c, .int .i64 0])) (hr : Row w' 3 (.slice a l.length c) (bis l)) (hk : Kept [] w w')
    (hf : Fresh w.heap.size (foot (.slice a l.length c))) : BisPost (l, 0) w e w' :=
  ⟨a, c, he, hr, hk, by rw [← foot_slice a l.length c]; exact hf⟩
/-- In Put's loop: i symbols are told. -/
def RPutI9 (w0 : World) (ls : List Nat) (list : List Int) (k : Nat) (v c : Value) (w : World) : Prop :=
  ∃ i B, i ≤ list.length ∧ k = list.length - i ∧ c = .int .i64 (i : Nat) ∧ Row w 3 v (bis B) ∧ B.length ≤ 20 * i ∧ K.encP ls list = (K.encP ls (list.drop i)).map (B ++ ·) ∧ Kept [] w0 w ∧ Fresh w0.heap.size (foot v)
theorem bis_one (l : List Bool) : ∀ u ∈ bis l, u.oneCell' = true := by
  intro u hu
  obtain ⟨c, -, rfl⟩ := List.mem_map.1 hu
  rfl
set_option maxHeartbeats 1000000 in
theorem rput9_any (a a2 : Option Addr) (cap cap2 : Nat) (xs list : List Int) (w : World) (h : Sees w 1 a xs.length (intVals xs)) (hlen : xs.length ≤ 17592186043904)
    (h2 : Sees w 1 a2 list.length (intVals list)) (hlist : list.length ≤ 10000000) :
    Calls Try.prog 32 #[.slice a xs.length cap, .slice a2 list.length cap2] w (BisPost (put9R xs list) w) := by
  have HS := Lib.hid h
  have HS2 := Lib.hid h2
  clear h h2
  rcases Bool.eq_false_or_eq_true (K.goodL xs) with hok | hok
  · have hch : checkR xs = 0 := by unfold checkR; rw [hok]; rfl
    have HOK := Lib.hid hok
    clear hok
    go_enter Try.func32, Try.ntmps32
    go_wp2_with fail
    refine (rcheck_any a cap xs _ HS.out hlen).mono ?_
    rintro e w' ⟨rfl, rfl⟩
    rw [hch]
    clear hch
    go_wp2_with fail
    refine (rtable_ok a cap xs _ HS.out HOK.out).mono ?_
    rintro e w1 ⟨g, rfl, hsm, hk1⟩
    have hgd := K.goodL_in HOK.out
    have hl := ((K.lensOk_iff xs).1 (K.goodL_lens HOK.out)).1
    obtain ⟨ls, hls⟩ : ∃ ls, K.natsOf xs = ls := ⟨_, rfl⟩
    have hll : ls.length = xs.length := by rw [← hls, K.natsOf_length]
    rw [hls] at hgd hsm
    have HLS := Lib.hid hls
    have HLL := Lib.hid hll
    have HGD := Lib.hid hgd
    have HSM := Lib.hid hsm
    have HK1 := Lib.hid hk1
    clear hls hll hgd hsm hk1
    go_wp2_with fail
    go_loopg [8, 9] list.length (fun k v c wr => RPutI9 w1 ls list k v c wr)
    case atStart => exact ⟨0, [], by omega, by omega, rfl, Row.nil _ _, by simp, by simp, Kept.refl _ _, by simp [Fresh, foot, Value.ownBlock]⟩
    case round =>
      obtain ⟨i, B, hi, hk, rfl, hrow, hBl, henc, hkept, hfr⟩ := hrel
      have Hk := Lib.hid hk
      have HKE := Lib.hid hkept
      have HFR := Lib.hid hfr
      have HENC := Lib.hid henc
      clear hk hkept hfr henc
      by_cases hlt2 : i < list.length
      · have hli : (i : Int) < (list.length : Int) := by omega
        obtain ⟨s, hs⟩ : ∃ s, list[i]? = some s := ⟨_, List.getElem?_eq_getElem hlt2⟩
        have hdr : list.drop i = s :: list.drop (i + 1) := by
          obtain ⟨h1, rfl⟩ := List.getElem?_eq_some_iff.1 hs
          exact List.drop_eq_getElem_cons h1
        obtain ⟨b1, o1, rfl, -⟩ := HS2.out.at (by rw [intVals_length]; omega)
        have c0 := (HS2.out.kept0 (HK1.out.new HKE.out (by simp [Fresh]))).int hs
        have HDR := Lib.hid hdr
        clear hs hdr
        by_cases hbad : s < 0 ∨ (xs.length : Int) ≤ s
        · have hnone : put9R xs list = ([], 60) := by
            refine put9R_none _ _ HOK.out ?_
            rw [HLS.out, HENC.out, HDR.out, K.encP_none _ _ _ (by rw [HLL.out]; exact hbad)]; rfl
          have HNN := Lib.hid hnone
          have HKK := Lib.hid (HK1.out.new HKE.out (by simp [Fresh]))
          clear hnone
          rcases hbad with hb | hb
          · have g1 : decide (s < 0) = true := decide_eq_true hb
            go_wp2_with fail
            go_ret2
            rw [HNN.out]
            exact BisPost.err (by rfl) HKK.out
          · have g1 : decide (s < 0) = false := decide_eq_false (by omega)
            have g2 : decide ((xs.length : Int) ≤ s) = true := decide_eq_true hb
            go_wp2_with fail
            go_ret2
            rw [HNN.out]
            exact BisPost.err (by rfl) HKK.out
        · have g1 : decide (s < 0) = false := decide_eq_false (by omega)
          have g2 : decide ((xs.length : Int) ≤ s) = false := decide_eq_false (by omega)
          obtain ⟨q, rfl⟩ := Int.eq_ofNat_of_zero_le (show 0 ≤ s by omega)
          have hqli : (q : Int) < (xs.length : Int) := by omega
          have hqls : q < ls.length := by rw [HLL.out]; omega
          obtain ⟨b, off, ar, c, ha, hc, hsr, hrc, hcm⟩ := (HSM.out.kept0 HKE.out).at q (bis (K.symP ls q)) (by rw [List.getElem?_map, K.tabP_get ls q hqls]; rfl)
          injection ha with ha
          injection ha with h1 h2
          subst h1 h2
          rw [Nat.zero_add] at hc
          have hbl : (bis (K.symP ls q)).length = ls.getD q 0 := by rw [bis_length, K.symP_length]
          have hm : ls.getD q 0 ∈ ls := by rw [List.getD, List.getElem?_eq_getElem hqls]; exact List.getElem_mem hqls
          have hm20 := HGD.out _ hm
          have hbb : ¬ (((q : Nat) : Int) < 0 ∨ (ls.length : Int) ≤ (q : Int)) := by omega
          have HBB := Lib.hid hbb
          have hsl := K.symP_length ls q
          rw [hbl] at hc hsr hrc
          have HSL := Lib.hid hsl
          have hao : ar = none → c = 0 := fun h => by
            obtain ⟨b', o', he, -⟩ := hsr.2 0 _ (List.getElem?_eq_getElem (by rw [hbl]; omega))
            rw [h] at he; cases he
          have HSR := Lib.hid hsr
          have HAO := Lib.hid hao
          clear hm hbl hbb hsl hbad hsr hao
          generalize ls.getD q 0 = m at hc hm20 HSR HSL hrc
          have L1 : (bis B).length + m ≤ maxLen := by rw [bis_length]; simp only [maxLen]; omega
          have L2 : ((bis B).length + m) * 8 ≤ 140737488355328 := by rw [bis_length]; omega
          have hone := bis_one (K.symP ls q)
          have HONE := Lib.hid hone
          clear hone
          go_wp2_with ((at_builtin; refine wp_appS rfl _ _ 22 rfl 3 (.int .i64 0) 8 Try.underlying22 Try.infoInt rfl u8 (bis B) (bis (K.symP ls q)) ar m c rfl rfl HONE.out hrow HSR.out HAO.out L1 L2 ?_; intro a5 cap5 w5 hrow5 hk5 hg5))
          go_roundg (list.length - (i + 1))
          case measure => have := Hk.out; omega
          case rel => exact ⟨i + 1, B ++ K.symP ls q, by omega, rfl, by go_num, by rw [bis_append]; exact hrow5, by rw [List.length_append, HSL.out]; omega, by rw [HENC.out, HDR.out, K.encP_cons _ _ _ HBB.out, Int.toNat_natCast, K.map_map_app], HKE.out.new hk5 HFR.out, HFR.out.grow hg5 HKE.out.size⟩
      · obtain rfl : i = list.length := by omega
        have hen : K.encP ls list = some B := by
          rw [HENC.out, List.drop_length]; simp [K.encP]
        have hyes := put9R_some xs list B HOK.out (by rw [HLS.out]; exact hen)
        have HY := Lib.hid hyes
        obtain ⟨av, cv, hv, -, -, -, -⟩ := hrow.sees
        rw [bis_length] at hv
        subst hv
        have HROW := Lib.hid hrow
        clear hen hyes hrow
        go_wp2_with fail
        go_ret2
        rw [HY.out]
        exact BisPost.ok (by rfl) HROW.out (HK1.out.new HKE.out (by simp [Fresh])) (HFR.out.mono HK1.out.size)
  · have hR := put9R_bad xs list hok
    have hch : checkR xs = 80 := by unfold checkR; rw [hok]; rfl
    have HR := Lib.hid hR
    go_enter Try.func32, Try.ntmps32
    go_wp2_with fail
    refine (rcheck_any a cap xs _ HS.out hlen).mono ?_
    rintro e w' ⟨rfl, rfl⟩
    rw [hch]
    clear hR hok hch
    go_wp2_with fail
    go_ret2
    rw [HR.out]
    exact BisPost.err (by rfl) (Kept.refl _ _)
end Go.Proofs.Ytodjfgdolegfpaa
