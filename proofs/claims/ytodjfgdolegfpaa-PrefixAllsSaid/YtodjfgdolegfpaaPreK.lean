/-
  The walks of layer 9's references: Next, All, Decode.
-/
import Derived.Test.YtodjfgdolegfpaaPreJ
import Derived.Test.YtodjfgdolegfpaaPreG
import Derived.Test.YtodjfgdolegfpaaRefC
namespace Go.Proofs.Ytodjfgdolegfpaa
open Go.RowKit
set_option linter.unusedVariables false
set_option linter.unusedSimpArgs false

/-- In Next's loop: n bits are held against. -/
def RNxtI (w0 : World) (T : List (List Bool)) (bs : List Bool) (p : Nat) (R : Nat × Nat × Nat) (k : Nat) (c : Value) (w : World) : Prop :=
  ∃ n, 1 ≤ n ∧ n ≤ 21 ∧ k = 21 - n ∧ c = .int .i64 (n : Nat) ∧ R = K.refNext T bs p (21 - n) n ∧ Kept [] w0 w
set_option maxHeartbeats 1000000 in
theorem rnext_any (a : Option Addr) (cap : Nat) (T : List (List Bool)) (b : Option Addr) (bc L : Nat) (bs : List Bool) (p : Nat) (w : World) (hT : SeesM w a T.length (T.map bis)) (hb : Sees w 1 b L (bis bs)) (hL : bs.length = L) (hTl : T.length ≤ 1000) (hl : L ≤ 1000000000000) (hlc : L ≤ bc) (hp : p ≤ L) :
    Calls Try.prog 37 #[.slice a T.length cap, .slice b L bc, .int .i64 p] w (NatAtPost (K.refNext T bs p 20 1) w) := by
  have HT := Lib.hid hT
  have HB := Lib.hid hb
  have HL := Lib.hid hL
  obtain ⟨R, hR⟩ : ∃ R, K.refNext T bs p 20 1 = R := ⟨_, rfl⟩
  rw [hR]
  have HR := Lib.hid hR
  clear hT hb hL hR
  go_enter Try.func37, Try.ntmps37
  go_wp2_with fail
  go_loopg [9] 20 (fun k c wr => RNxtI w T bs p R k c wr)
  case atStart => exact ⟨1, by omega, by omega, by omega, rfl, HR.out.symm, Kept.refl _ _⟩
  case round =>
    obtain ⟨n, hn1, hn, hk, rfl, hRn, hkept⟩ := hrel
    have Hk := Lib.hid hk
    have HRN := Lib.hid hRn
    have HKE := Lib.hid hkept
    clear hk hRn hkept
    by_cases hlt : n ≤ 20
    · have hni : (n : Int) ≤ 20 := by omega
      by_cases hsh : L < p + n
      · have hshi : (L : Int) < (p : Int) + (n : Int) := by omega
        have hR2 : R = (0, 0, 10) := by
          rw [HRN.out, show 21 - n = (20 - n) + 1 by omega, K.refNext, if_pos (by rw [HL.out]; exact hsh)]
        have HR2 := Lib.hid hR2
        clear hR2
        go_wp2_with fail
        go_ret3
        rw [HR2.out]
        exact ⟨rfl, HKE.out⟩
      · have hshi : ¬ (L : Int) < (p : Int) + (n : Int) := by omega
        have hz0 : (0 : Int) ≤ (p : Int) := by omega
        have hz1 : (p : Int) ≤ (p : Int) + (n : Int) := by omega
        have hz2 : (p : Int) + (n : Int) ≤ (bc : Int) := by omega
        have hz3 : ((p : Int) + (n : Int)).toNat = p + n := by omega
        have hz4 : ¬ p = bc := by omega
        obtain ⟨bo, oo, rfl, -⟩ := HB.out.at (by rw [bis_length, HL.out]; omega)
        have hpart := (HB.out.kept0 HKE.out).part p n (by omega) (a' := some ⟨bo, oo + p, none⟩) (by rintro - b off he; injection he with he; injection he with h1 h2; subst h1 h2; rfl)
        have hpc : ((bis bs).drop p).take n = bis (K.piece bs p n) := by unfold K.piece; simp [bis, List.map_drop, List.map_take]
        have hpl := K.piece_length bs p n (by rw [HL.out]; omega)
        rw [hpc] at hpart
        have hstep : R = if 0 ≤ (K.begTo T (K.piece bs p n) T.length).2 then ((K.begTo T (K.piece bs p n) T.length).2.toNat, p + n, 0)
            else if (K.begTo T (K.piece bs p n) T.length).1 = 0 then (0, 0, 90) else K.refNext T bs p (20 - n) (n + 1) := by
          rw [HRN.out, show 21 - n = (20 - n) + 1 by omega, K.refNext, if_neg (by rw [HL.out]; exact hsh)]
        have hcall := rbegins_any a cap T (some ⟨bo, oo + p, none⟩) (bc - p) (K.piece bs p n) wr (HT.out.kept0 HKE.out) (by rw [hpl]; exact hpart) hTl (by omega)
        rw [hpl] at hcall
        have HC := Lib.hid hcall
        have HST := Lib.hid hstep
        have hble := K.begTo_le T (K.piece bs p n) T.length
        clear hpart hpc hpl hstep hcall
        go_wp2_with fail
        refine HC.out.mono ?_
        rintro e w2 ⟨rfl, hk2⟩
        have HKE2 := Lib.hid (HKE.out.new hk2 (by simp [Fresh]))
        clear hk2
        have HST := Lib.hid HST.out
        generalize K.begTo T (K.piece bs p n) T.length = D at HST hble ⊢
        obtain ⟨many, is⟩ := D
        have hble2 : is < (T.length : Int) := hble.2.2
        have hble1 : many ≤ T.length := hble.1
        by_cases h0 : 0 ≤ is
        · have hR2 := HST.out
          rw [if_pos h0] at hR2
          have HR2 := Lib.hid hR2
          obtain ⟨j, rfl⟩ := Int.eq_ofNat_of_zero_le h0
          clear hR2 hble
          go_wp2_with fail
          go_ret3
          rw [HR2.out]
          exact ⟨by rfl, HKE2.out⟩
        · have hR2 := HST.out
          rw [if_neg h0] at hR2
          have h0b : decide ((0 : Int) ≤ is) = false := decide_eq_false h0
          by_cases hm : many = 0
          · rw [if_pos hm] at hR2
            have HR2 := Lib.hid hR2
            subst hm
            clear hR2 hble
            go_wp2_with fail
            go_ret3
            rw [HR2.out]
            exact ⟨by rfl, HKE2.out⟩
          · rw [if_neg hm] at hR2
            have HR2 := Lib.hid hR2
            have hmi : ((many : Int) == 0) = false := by simp; omega
            clear hR2 hble
            go_wp2_with fail
            go_roundg (21 - (n + 1))
            case measure => have := Hk.out; omega
            case rel => exact ⟨n + 1, by omega, by omega, rfl, by go_num, by rw [HR2.out, show 21 - (n + 1) = 20 - n by omega], HKE2.out⟩
    · obtain rfl : n = 21 := by omega
      have hR2 : R = (0, 0, 90) := HRN.out
      have HR2 := Lib.hid hR2
      clear hR2
      go_wp2_with fail
      go_ret3
      rw [HR2.out]
      exact ⟨by rfl, HKE.out⟩

/-- In All's loop. -/
def RAllI (w0 : World) (ls : List Nat) (bs : List Bool) (n e : Int) (R : List Nat × Nat × Nat) (k : Nat) (pv nv v : Value) (w : World) : Prop :=
  ∃ out p f nn, k = f ∧ pv = .int .i64 (p : Nat) ∧ nv = .int .i64 nn ∧ bs.length + 1 ≤ f + p ∧ p ≤ bs.length ∧ out.length ≤ p ∧
    ((nn = n ∧ R = K.allP ls bs n e f out p) ∨ (nn = (out.length : Int) ∧ R = (out, p, 0))) ∧ Row w 3 v (natVals out) ∧ Kept [] w0 w ∧ Fresh w0.heap.size (foot v)
set_option maxHeartbeats 1000000 in
theorem rall_any (a : Option Addr) (cap : Nat) (xs : List Int) (b : Option Addr) (bc L : Nat) (bs : List Bool) (at_ n en : Int) (w : World) (h : Sees w 1 a xs.length (intVals xs)) (hlen : xs.length ≤ 17592186043904)
    (hb : Sees w 1 b L (bis bs)) (hL : bs.length = L) (hl : L ≤ 1000000000000) (hlc : L ≤ bc) :
    Calls Try.prog 20 #[.slice a xs.length cap, .slice b L bc, .int .i64 at_, .int .i64 n, .int .i64 en] w (NatsAtPost (K.allR xs bs at_ n en) w) := by
  have HS := Lib.hid h
  have HB := Lib.hid hb
  have HL := Lib.hid hL
  clear h hb hL
  rcases Bool.eq_false_or_eq_true (K.goodL xs) with hok | hok
  · have hch : checkR xs = 0 := by unfold checkR; rw [hok]; rfl
    have HOK := Lib.hid hok
    clear hok
    by_cases hat : at_ < 0
    · have hR : K.allR xs bs at_ n en = ([], 0, 2) := by unfold K.allR; rw [HOK.out, if_pos rfl, if_pos (.inl hat)]
      have HR := Lib.hid hR
      have g1 : decide (at_ < 0) = true := decide_eq_true hat
      clear hR
      go_enter Try.func20, Try.ntmps20
      go_wp2_with fail
      refine (rcheck_any a cap xs _ HS.out hlen).mono ?_
      rintro e w' ⟨rfl, rfl⟩
      rw [hch]
      clear hch
      go_wp2_with fail
      go_ret3
      rw [HR.out]
      exact NatsAtPost.err (by rfl) (Kept.refl _ _)
    · have g1 : decide (at_ < 0) = false := decide_eq_false hat
      obtain ⟨p0, rfl⟩ := Int.eq_ofNat_of_zero_le (show 0 ≤ at_ by omega)
      by_cases hal : L < p0
      · have hali : (L : Int) < (p0 : Int) := by omega
        have hR : K.allR xs bs (p0 : Int) n en = ([], 0, 2) := by unfold K.allR; rw [HOK.out, if_pos rfl, if_pos (.inr (.inl (by rw [HL.out]; exact hali)))]
        have HR := Lib.hid hR
        clear hR
        go_enter Try.func20, Try.ntmps20
        go_wp2_with fail
        refine (rcheck_any a cap xs _ HS.out hlen).mono ?_
        rintro e w' ⟨rfl, rfl⟩
        rw [hch]
        clear hch
        go_wp2_with fail
        go_ret3
        rw [HR.out]
        exact NatsAtPost.err (by rfl) (Kept.refl _ _)
      · have hali : ¬ (L : Int) < (p0 : Int) := by omega
        by_cases hn : n < 0
        · have g2 : decide (n < 0) = true := decide_eq_true hn
          have hR : K.allR xs bs (p0 : Int) n en = ([], 0, 2) := by unfold K.allR; rw [HOK.out, if_pos rfl, if_pos (.inr (.inr hn))]
          have HR := Lib.hid hR
          clear hR
          go_enter Try.func20, Try.ntmps20
          go_wp2_with fail
          refine (rcheck_any a cap xs _ HS.out hlen).mono ?_
          rintro e w' ⟨rfl, rfl⟩
          rw [hch]
          clear hch
          go_wp2_with fail
          go_ret3
          rw [HR.out]
          exact NatsAtPost.err (by rfl) (Kept.refl _ _)
        · have g2 : decide (n < 0) = false := decide_eq_false hn
          obtain ⟨R, hRd⟩ : ∃ R, K.allR xs bs (p0 : Int) n en = R := ⟨_, rfl⟩
          have hR : R = K.allP (K.natsOf xs) bs n en (L + 1) [] p0 := by
            rw [← hRd]; unfold K.allR; rw [HOK.out, if_pos rfl, if_neg (by rw [HL.out]; omega), HL.out, Int.toNat_natCast]
          rw [hRd]
          have HRD := Lib.hid hRd
          have HR := Lib.hid hR
          clear hR hRd
          go_enter Try.func20, Try.ntmps20
          go_wp2_with fail
          refine (rcheck_any a cap xs _ HS.out hlen).mono ?_
          rintro e w' ⟨rfl, rfl⟩
          rw [hch]
          clear hch
          go_wp2_with fail
          refine (rtable_ok a cap xs _ HS.out HOK.out).mono ?_
          rintro e w1 ⟨g, rfl, hsm, hk1⟩
          have hgd := K.goodL_in HOK.out
          have hro := K.goodL_room HOK.out
          have hll : ((K.tabP (K.natsOf xs)).length) = xs.length := by rw [K.tabP_length, K.natsOf_length]
          have hlx := ((K.lensOk_iff xs).1 (K.goodL_lens HOK.out)).1
          rw [← hll] at hsm
          have HLL := Lib.hid hll
          have HSM := Lib.hid hsm
          have HK1 := Lib.hid hk1
          have HGD := Lib.hid hgd
          have HRO := Lib.hid hro
          clear hsm hk1 hgd hro hll
          generalize K.natsOf xs = ls at HR HLL HSM HGD HRO
          go_wp2_with fail
          go_loopg [2, 3, 15] (L + 1) (fun k pv nv v wr => RAllI w1 ls bs n en R k pv nv v wr)
          case atStart => exact ⟨[], p0, _, n, rfl, rfl, rfl, by rw [HL.out]; omega, by rw [HL.out]; omega, by simp, .inl ⟨rfl, HR.out⟩, Row.nil _ _, Kept.refl _ _, by simp [Fresh, foot, Value.ownBlock]⟩
          case round =>
            obtain ⟨out, p, f, nn, hkf, rfl, rfl, hfu, hp, hol, hor, hrow, hkept, hfr⟩ := hrel
            rw [HL.out] at hfu hp
            obtain ⟨f, rfl⟩ : ∃ f', f = f' + 1 := ⟨f - 1, by omega⟩
            obtain ⟨av, cv, hv, -, -, -, -⟩ := hrow.sees
            rw [natVals_length] at hv
            subst hv
            have Hk := Lib.hid hkf
            have HOR := Lib.hid hor
            have HROW := Lib.hid hrow
            have HKE := Lib.hid hkept
            have HFR := Lib.hid hfr
            clear hkf hor hrow hkept hfr
            by_cases hlt : (out.length : Int) < nn
            · obtain ⟨hnn, hRR⟩ : nn = n ∧ R = K.allP ls bs n en (f + 1) out p := by
                rcases HOR.out with h | h
                · exact h
                · omega
              subst hnn
              have HRR := Lib.hid hRR
              have hcall := rnext_any (some ⟨g, 0, none⟩) xs.length (K.tabP ls) b bc L bs p wr (HSM.out.kept0 HKE.out) (HB.out.kept0 (HK1.out.new HKE.out (by simp [Fresh]))) HL.out (by rw [HLL.out]; omega) hl hlc hp
              rw [HLL.out, K.next_ref ls HGD.out HRO.out bs p (by rw [HL.out]; exact hp)] at hcall
              have HC := Lib.hid hcall
              clear hRR hcall HOR
              go_wp2_with fail
              refine HC.out.mono ?_
              rintro e w3 ⟨rfl, hk3⟩
              have HKE3 := Lib.hid (HKE.out.new hk3 (by simp [Fresh]))
              have hrow3 := HROW.out.kept hk3 (by simp)
              have hz3 := HKE3.out.size
              clear hk3
              by_cases hz : (K.nextR ls bs p).2.2 = 0
              · obtain ⟨x, tt, hnx⟩ : ∃ x tt, K.nextR ls bs p = (x, tt, 0) := ⟨_, _, by rw [← hz]⟩
                have hto := K.nextR_to ls bs p hz
                rw [hnx] at hto ⊢
                have hto : p < tt ∧ tt ≤ bs.length := hto
                rw [HL.out] at hto
                have L1 : (natVals out).length + 1 ≤ maxLen := by rw [natVals_length]; simp only [maxLen]; omega
                have L2 : ((natVals out).length + 1) * 8 ≤ 140737488355328 := by rw [natVals_length]; omega
                have HNX := Lib.hid hnx
                clear hnx hz
                by_cases hxe : (x : Int) = en
                · have hR6 := HRR.out
                  rw [K.allP_end ls _ nn en f out p x tt hlt HNX.out hxe] at hR6
                  have HR6 := Lib.hid hR6
                  subst hxe
                  clear hR6
                  go_wp2_with ((at_builtin; refine wp_appL _ rfl _ _ 22 rfl 3 (.int .i64 0) 8 Try.underlying22 Try.infoInt rfl _ _ [.int .i64 (x : Int)] 1 rfl rfl rfl rfl (by simp [Value.oneCell']) hrow3 L1 L2 ?_; intro a5 cap5 w5 hrow5 hk5 hg5))
                  go_roundg f
                  case measure => have := Hk.out; omega
                  case rel =>
                    have hx5 : natVals out ++ [Value.int .i64 (x : Int)] = natVals (out ++ [x]) := by rw [natVals_append]; rfl
                    rw [hx5] at hrow5
                    exact ⟨out ++ [x], tt, f, ((out ++ [x]).length : Nat), rfl, rfl, by simp [natVals_length], by rw [HL.out]; omega, by rw [HL.out]; exact hto.2, by simp; omega, .inr ⟨rfl, HR6.out⟩, hrow5, HKE3.out.new hk5 HFR.out, HFR.out.grow hg5 HKE3.out.size⟩
                · have hxb : ((x : Int) == en) = false := by rw [beq_eq_false_iff_ne]; exact hxe
                  have hR6 := HRR.out
                  rw [K.allP_more ls _ nn en f out p x tt hlt HNX.out hxe] at hR6
                  have HR6 := Lib.hid hR6
                  clear hR6
                  go_wp2_with ((at_builtin; refine wp_appL _ rfl _ _ 22 rfl 3 (.int .i64 0) 8 Try.underlying22 Try.infoInt rfl _ _ [.int .i64 (x : Int)] 1 rfl rfl rfl rfl (by simp [Value.oneCell']) hrow3 L1 L2 ?_; intro a5 cap5 w5 hrow5 hk5 hg5))
                  go_roundg f
                  case measure => have := Hk.out; omega
                  case rel =>
                    have hx5 : natVals out ++ [Value.int .i64 (x : Int)] = natVals (out ++ [x]) := by rw [natVals_append]; rfl
                    rw [hx5] at hrow5
                    exact ⟨out ++ [x], tt, f, nn, rfl, rfl, rfl, by rw [HL.out]; omega, by rw [HL.out]; exact hto.2, by simp; omega, .inl ⟨rfl, HR6.out⟩, hrow5, HKE3.out.new hk5 HFR.out, HFR.out.grow hg5 HKE3.out.size⟩
              · have hnx := K.nextR_err ls bs p hz
                have hsm := K.nextP_small ls bs 20 1 0 p
                have hsm : (K.nextR ls bs p).2.2 ≤ 90 := hsm
                generalize (K.nextR ls bs p).2.2 = er at hz hnx hsm
                have hR6 := HRR.out
                rw [K.allP_err ls _ nn en f out p er hlt hnx hz] at hR6
                have HR6 := Lib.hid hR6
                have hz2 : ((er : Int) != 0) = true := bne_iff_ne.2 (by omega)
                rw [hnx]
                clear hnx hR6
                go_wp2_with fail
                go_ret3
                rw [HR6.out]
                exact NatsAtPost.err (by rfl) (HK1.out.new HKE3.out (by simp [Fresh]))
            · have hRR : R = (out, p, 0) := by
                rcases HOR.out with h | h
                · rw [h.2, K.allP_done _ _ _ _ _ _ _ (by rw [← h.1]; exact hlt)]
                · exact h.2
              have HRR := Lib.hid hRR
              clear hRR HOR
              go_wp2_with fail
              go_ret3
              rw [HRR.out]
              exact NatsAtPost.ok (by rfl) HROW.out (HK1.out.new HKE.out (by simp [Fresh])) (HFR.out.mono HK1.out.size)
  · have hR : K.allR xs bs at_ n en = ([], 0, 80) := by unfold K.allR; rw [hok]; rfl
    have hch : checkR xs = 80 := by unfold checkR; rw [hok]; rfl
    have HR := Lib.hid hR
    go_enter Try.func20, Try.ntmps20
    go_wp2_with fail
    refine (rcheck_any a cap xs _ HS.out hlen).mono ?_
    rintro e w' ⟨rfl, rfl⟩
    rw [hch]
    clear hR hok hch
    go_wp2_with fail
    go_ret3
    rw [HR.out]
    exact NatsAtPost.err (by rfl) (Kept.refl _ _)
theorem rdecode_any (a : Option Addr) (cap : Nat) (xs : List Int) (b : Option Addr) (bc L : Nat) (bs : List Bool) (at_ : Int) (w : World) (h : Sees w 1 a xs.length (intVals xs)) (hlen : xs.length ≤ 17592186043904)
    (hb : Sees w 1 b L (bis bs)) (hL : bs.length = L) (hl : L ≤ 1000000000000) (hlc : L ≤ bc) :
    Calls Try.prog 17 #[.slice a xs.length cap, .slice b L bc, .int .i64 at_] w (NatAtPost (K.decR xs bs at_) w) := by
  have HS := Lib.hid h
  have HB := Lib.hid hb
  clear h hb
  go_enter Try.func17, Try.ntmps17
  go_wp2_with fail
  refine (rall_any a cap xs b bc L bs at_ 1 (-1) _ HS.out hlen HB.out hL hl hlc).mono ?_
  rintro e w1 ⟨a1, c1, rfl, hrow, hk1, -⟩
  have HK1 := Lib.hid hk1
  clear hL
  by_cases hz : (K.allR xs bs at_ 1 (-1)).2.2 = 0
  · obtain ⟨x, p, hx⟩ := K.allR_one xs _ at_ hz
    have hd := K.decR_one xs _ at_ x p hx
    have HD := Lib.hid hd
    rw [hx] at hrow ⊢
    have hsee := hrow.seeA
    obtain ⟨b1, o1, rfl, hcells⟩ := hsee.at (by simp [natVals])
    have c0 := hcells 0 (.int .i64 (x : Int)) rfl
    rw [Nat.add_zero] at c0
    clear hz hx hd hk1 hrow hsee hcells
    go_wp2_with fail
    go_ret3
    rw [HD.out]
    exact ⟨rfl, HK1.out⟩
  · have hd := K.allR_err xs _ at_ hz
    have hb := K.allR_bad xs _ at_ 1 (-1) hz
    have hsm := K.allR_small xs bs at_ 1 (-1)
    generalize (K.allR xs bs at_ 1 (-1)).2.2 = er at hz hd hb hsm
    have HD := Lib.hid hd
    rw [hb]
    have hz2 : ((er : Int) != 0) = true := bne_iff_ne.2 (by omega)
    clear hd hb hsm hk1 hrow
    go_wp2_with fail
    go_ret3
    rw [HD.out]
    exact ⟨rfl, HK1.out⟩
end Go.Proofs.Ytodjfgdolegfpaa
