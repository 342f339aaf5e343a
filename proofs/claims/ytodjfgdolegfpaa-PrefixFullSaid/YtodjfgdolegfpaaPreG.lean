/-
  The walks of prefix's All and Decode.
-/
import Derived.Test.YtodjfgdolegfpaaPreF
namespace Go.Proofs.Ytodjfgdolegfpaa
open Go.RowKit
set_option linter.unusedVariables false
set_option linter.unusedSimpArgs false

/-- What a function leaves that answers a list, a place and an error. -/
def NatsAtPost (R : List Nat × Nat × Nat) (w : World) (e : Ending) (w' : World) : Prop :=
  ∃ a c, e = .returned (.tuple #[.slice a R.1.length c, .int .i64 (R.2.1 : Nat), .int .i64 (R.2.2 : Nat)]) ∧ Row w' 3 (.slice a R.1.length c) (natVals R.1) ∧ Kept [] w w' ∧ Fresh w.heap.size (footA a)
theorem NatsAtPost.err {w w' : World} {e : Ending} {x : Nat} (he : e = .returned (.tuple #[.slice none 0 0, .int .i64 0, .int .i64 (x : Nat)])) (hk : Kept [] w w') : NatsAtPost ([], 0, x) w e w' :=
  ⟨none, 0, he, Row.nil _ _, hk, by simp [Fresh, footA]⟩
theorem NatsAtPost.ok {w w' : World} {e : Ending} {l : List Nat} {p : Nat} {a : Option Addr} {c : Nat} (he : e = .returned (.tuple #[.slice a l.length c, .int .i64 (p : Nat), .int .i64 0])) (hr : Row w' 3 (.slice a l.length c) (natVals l)) (hk : Kept [] w w')
    (hf : Fresh w.heap.size (foot (.slice a l.length c))) : NatsAtPost (l, p, 0) w e w' :=
  ⟨a, c, he, hr, hk, by rw [← foot_slice a l.length c]; exact hf⟩

theorem NatsAtPost.ok2 {w w' : World} {e : Ending} {l : List Nat} {p n : Nat} {a : Option Addr} {c : Nat} (hn : l.length = n) (he : e = .returned (.tuple #[.slice a n c, .int .i64 (p : Nat), .int .i64 0])) (hr : Row w' 3 (.slice a l.length c) (natVals l)) (hk : Kept [] w w')
    (hf : Fresh w.heap.size (foot (.slice a l.length c))) : NatsAtPost (l, p, 0) w e w' := by
  subst hn
  exact NatsAtPost.ok he hr hk hf

/-- In All's loop. -/
def AllI (w0 : World) (g : Nat) (a : Option Addr) (cap : Nat) (xs : List Int) (ls : List Nat) (M : Nat) (dv : Value) (r q : Nat) (s : ByteArray) (n e : Int) (R : List Nat × Nat × Nat) (k : Nat) (v : Value) (w : World) : Prop :=
  ∃ out p f, k = f ∧ 8 * s.size + 1 ≤ f + p ∧ p ≤ 8 * s.size ∧ out.length ≤ p ∧ R = K.allP ls (K.bitsOf s.data.toList) n e f out p ∧ Row w 3 v (natVals out) ∧ Rd w r q s p ∧ TabOf w g a cap xs ls M dv ∧
    Apart (g :: foot dv) [r, q] ∧ Apart (g :: foot dv) (foot v) ∧ Apart (foot v) [r, q] ∧ Kept [] w0 w ∧ Fresh w0.heap.size (foot v) ∧ Fresh w0.heap.size [r, q]

set_option maxHeartbeats 2000000 in
theorem all_wide (a : Option Addr) (cap : Nat) (xs : List Int) (s : ByteArray) (at_ n en : Int) (w : World) (h : Sees w 1 a xs.length (intVals xs)) (hlen : xs.length ≤ 140737488351232) (hs : s.size ≤ 140737488351232) (hsn : s.size ≤ 1000000000 ∨ n ≤ 1000000000) :
    Calls Try.prog 19 #[.slice a xs.length cap, .string s, .int .i64 at_, .int .i64 n, .int .i64 en] w (NatsAtPost (K.allR xs (K.bitsOf s.data.toList) at_ n en) w) := by
  have HS := Lib.hid h
  have HSN := Lib.hid hsn
  clear hsn
  have HBL := Lib.hid (bitsOf_len s)
  rcases Bool.eq_false_or_eq_true (K.goodL xs) with hok | hok
  · have HOK := Lib.hid hok
    have HAlt := Lib.hid (h.lt (by rw [intVals_length]; have := ((K.lensOk_iff xs).1 (K.goodL_lens hok)).1; omega))
    clear h hok
    go_enter Try.func19, Try.ntmps19
    go_wp2_with fail
    refine (made_ok a cap xs _ HS.out HOK.out).mono ?_
    rintro e w1 ⟨g, dv, rfl, ht, hk1, hf1⟩
    have HK1 := Lib.hid hk1
    have HF1 := Lib.hid hf1
    have HT := Lib.hid (TabOf.mk0 ht (HS.out.kept0 hk1) HOK.out)
    clear hk1 ht hf1
    go_wp2_with fail
    by_cases hat : at_ < 0 ∨ (8 * s.size : Nat) < at_
    · have hR : K.allR xs (K.bitsOf s.data.toList) at_ n en = ([], 0, 2) := by
        unfold K.allR; rw [HOK.out, if_pos rfl, if_pos (by rw [HBL.out]; omega)]
      have HR := Lib.hid hR
      refine (newReader_no s at_ _ (by omega) hat).mono ?_
      rintro e w2 ⟨rfl, rfl⟩
      clear hR hat
      go_wp2_with fail
      go_ret3
      rw [HR.out]
      exact NatsAtPost.err (by rfl) (HK1.out.alloc _)
    · obtain ⟨at_, rfl⟩ := Int.eq_ofNat_of_zero_le (show 0 ≤ at_ by omega)
      have hal : at_ ≤ 8 * s.size := by omega
      clear hat
      refine (newReader_new s at_ _ (by omega) (by omega) (by omega)).mono ?_
      rintro e w2 ⟨r, q, rfl, hrd, hk2, hf2⟩
      rw [Int.toNat_natCast] at hrd
      have HK2 := Lib.hid (HK1.out.new hk2 (by simp [Fresh]))
      have HRD := Lib.hid hrd
      have HT2 := Lib.hid (HT.out.kept0 hk2)
      have HF2 := Lib.hid (hf2.mono HK1.out.size)
      have hap : Apart (g :: foot dv) [r, q] := fun x hx hm => by
        have h1 := HT.out.tab.lt x hx
        have h2 := hf2 x hm
        omega
      have HAP := Lib.hid hap
      clear hrd hk2 hf2 hap
      by_cases hn : n < 0
      · have hR : K.allR xs (K.bitsOf s.data.toList) (at_ : Int) n en = ([], 0, 2) := by
          unfold K.allR; rw [HOK.out, if_pos rfl, if_pos (.inr (.inr hn))]
        have HR := Lib.hid hR
        have g1 : decide (n < 0) = true := decide_eq_true hn
        clear hR
        go_wp2_with fail
        go_ret3
        rw [HR.out]
        exact NatsAtPost.err (by rfl) HK2.out
      · have g1 : decide (n < 0) = false := decide_eq_false hn
        obtain ⟨R, hRd⟩ : ∃ R, K.allR xs (K.bitsOf s.data.toList) (at_ : Int) n en = R := ⟨_, rfl⟩
        have hR : R = K.allP (K.natsOf xs) (K.bitsOf s.data.toList) n en (8 * s.size + 1) [] at_ := by
          rw [← hRd]; unfold K.allR; rw [HOK.out, if_pos rfl, if_neg (by rw [HBL.out]; omega), HBL.out, Int.toNat_natCast]
        have HRD2 := Lib.hid hRd
        have HR := Lib.hid hR
        clear hR hRd
        generalize K.natsOf xs = ls at HT HT2 HR
        generalize (maxL xs).toNat = M at HT HT2
        go_wp2_with fail
        go_loopg [16] (8 * s.size + 1) (fun k v wr => AllI w g a cap xs ls M dv r q s n en R k v wr)
        case atStart => exact ⟨[], at_, _, rfl, by omega, hal, by simp, HR.out, Row.nil _ _, HRD.out, HT2.out, HAP.out, Apart.nil _, by simp [Apart, foot, Value.ownBlock], HK2.out, by simp [Fresh, foot, Value.ownBlock], HF2.out⟩
        case round =>
          obtain ⟨out, p, f, hkf, hfu, hp, hol, hRR, hrow, hrd, htab, hap1, hap2, hap3, hkept, hfr, hfrq⟩ := hrel
          have HRR := Lib.hid hRR
          have HROW := Lib.hid hrow
          have HRD3 := Lib.hid hrd
          have HTB := Lib.hid htab
          have HA1 := Lib.hid hap1
          have HA2 := Lib.hid hap2
          have HA3 := Lib.hid hap3
          have HKE := Lib.hid hkept
          have HFR := Lib.hid hfr
          have HFQ := Lib.hid hfrq
          obtain ⟨f, rfl⟩ : ∃ f', f = f' + 1 := ⟨f - 1, by omega⟩
          have Hk := Lib.hid hkf
          clear hkf
          obtain ⟨av, cv, hv, -, -, -, -⟩ := hrow.sees
          rw [natVals_length] at hv
          subst hv
          clear hRR hrow hrd htab hap1 hap2 hap3 hkept hfr hfrq
          by_cases hlt : (out.length : Int) < n
          · have hap4 : Apart (footA a) [r] := fun x hx hm => by
              have h1 := HAlt.out x hx
              have h2 := HFQ.out x (by simp at hm; simp [hm])
              omega
            go_wp2_with fail
            refine (next_any g a cap xs ls M dv r q p s _ HTB.out HRD3.out hp hs (HA1.out.symm.sub (by simp)).symm hap4).mono ?_
            rintro e w3 ⟨rfl, hrd3, hk3⟩
            have hkk3 : Kept [] w w3 := HKE.out.new hk3 (fun x hx => HFQ.out x (by simp at hx; simp [hx]))
            have HKE3 := Lib.hid hkk3
            by_cases hz : (K.nextR ls (K.bitsOf s.data.toList) p).2.2 = 0
            · obtain ⟨x, tt, hnx⟩ : ∃ x tt, K.nextR ls (K.bitsOf s.data.toList) p = (x, tt, 0) := ⟨_, _, by rw [← hz]⟩
              have hto := K.nextR_to ls _ p hz
              rw [HBL.out] at hto
              have hrd3 := hrd3 hz
              rw [hnx] at hto hrd3 ⊢
              have hto : p < tt ∧ tt ≤ 8 * s.size := hto
              have hrd3 : Rd w3 r q s tt := hrd3
              have hrow3 := HROW.out.kept hk3 (fun y hy h => HA3.out y hy (by simp at h; simp [h]))
              have htb3 := HTB.out.kept hk3 (HA1.out.symm.sub (by simp)).symm hap4
              have L1 : (natVals out).length + 1 ≤ maxLen := by rw [natVals_length]; simp only [maxLen]; have := HSN.out; omega
              have L2 : ((natVals out).length + 1) * 8 ≤ 140737488355328 := by rw [natVals_length]; have := HSN.out; omega
              have HNX := Lib.hid hnx
              have HRD4 := Lib.hid hrd3
              have HTB3 := Lib.hid htb3
              have HA4 := Lib.hid hap4
              have hz3 := hk3.size
              clear hnx hz hrd3 hk3 hkk3 htb3 hap4
              by_cases hxe : (x : Int) = en
              · have hR6 := HRR.out
                rw [K.allP_end ls _ n en f out p x tt hlt HNX.out hxe] at hR6
                have HR6 := Lib.hid hR6
                subst hxe
                clear hR6
                go_wp2_with ((at_builtin; refine wp_appL _ rfl _ _ 22 rfl 3 (.int .i64 0) 8 Try.underlying22 Try.infoInt rfl _ _ [.int .i64 (x : Int)] 1 rfl rfl rfl rfl (by simp [Value.oneCell']) hrow3 L1 L2 ?_; intro a5 cap5 w5 hrow5 hk5 hg5))
                refine (at_ok r q s tt _ (HRD4.out.kept hk5 HA3.out.symm)).mono ?_
                rintro e w' ⟨rfl, rfl⟩
                have hk6 := HKE3.out.new hk5 HFR.out
                have hf6 := HFR.out.grow hg5 HKE3.out.size
                have hlx : (natVals out).length + 1 = (out ++ [x]).length := by rw [natVals_length]; simp
                rw [hlx] at hrow5 hf6 ⊢
                rw [show natVals out ++ [Value.int .i64 (x : Int)] = natVals (out ++ [x]) by rw [natVals_append]; rfl] at hrow5
                have HR5 := Lib.hid hrow5
                have HK6 := Lib.hid hk6
                have HF6 := Lib.hid hf6
                clear hrow5 hk5 hg5 hk6 hf6 hlx
                go_wp2_with fail
                go_ret3
                rw [HRD2.out, HR6.out]
                exact NatsAtPost.ok2 (n := out.length + 1) (by simp) (by rfl) HR5.out HK6.out HF6.out
              · have hxb : ((x : Int) == en) = false := by rw [beq_eq_false_iff_ne]; exact hxe
                have hR6 := HRR.out
                rw [K.allP_more ls _ n en f out p x tt hlt HNX.out hxe] at hR6
                have HR6 := Lib.hid hR6
                clear hR6
                go_wp2_with ((at_builtin; refine wp_appL _ rfl _ _ 22 rfl 3 (.int .i64 0) 8 Try.underlying22 Try.infoInt rfl _ _ [.int .i64 (x : Int)] 1 rfl rfl rfl rfl (by simp [Value.oneCell']) hrow3 L1 L2 ?_; intro a5 cap5 w5 hrow5 hk5 hg5))
                go_roundg f
                case measure => have := Hk.out; omega
                case rel =>
                  have hx5 : natVals out ++ [Value.int .i64 (x : Int)] = natVals (out ++ [x]) := by rw [natVals_append]; rfl
                  rw [hx5] at hrow5
                  refine ⟨out ++ [x], tt, f, rfl, by omega, hto.2, by simp; omega, HR6.out, hrow5, HRD4.out.kept hk5 HA3.out.symm, HTB3.out.kept hk5 HA2.out ?_, HA1.out, ?_, (HA3.out.symm.grow HRD4.out.lt hg5).symm, HKE3.out.new hk5 HFR.out, HFR.out.grow hg5 HKE3.out.size, HFQ.out⟩
                  · intro y hy hm
                    have h1 := HAlt.out y hy
                    have h2 := HFR.out y hm
                    omega
                  · intro y hy hm
                    rcases hg5 y hm with h | h
                    · exact HA2.out y hy h
                    · have := HTB3.out.tab.lt y hy
                      omega
            · have hnx := K.nextR_err ls (K.bitsOf s.data.toList) p hz
              generalize (K.nextR ls (K.bitsOf s.data.toList) p).2.2 = er at hz hnx
              have hR6 := HRR.out
              rw [K.allP_err ls _ n en f out p er hlt hnx hz] at hR6
              have HR6 := Lib.hid hR6
              have hsm := K.nextP_small ls (K.bitsOf s.data.toList) 20 1 0 p
              have hz2 : ((er : Int) != 0) = true := bne_iff_ne.2 (by omega)
              rw [hnx]
              clear hnx hR6 hrd3 hk3 hkk3 hap4 hsm
              go_wp2_with fail
              go_ret3
              rw [HRD2.out, HR6.out]
              exact NatsAtPost.err (by rfl) HKE3.out
          · have hR6 := HRR.out
            rw [K.allP_done ls _ n en f out p hlt] at hR6
            have HR6 := Lib.hid hR6
            have hlt2 : ¬ (out.length : Int) < n := hlt
            clear hR6
            go_wp2_with fail
            refine (at_ok r q s p _ HRD3.out).mono ?_
            rintro e w' ⟨rfl, rfl⟩
            go_wp2_with fail
            go_ret3
            rw [HRD2.out, HR6.out]
            exact NatsAtPost.ok (by rfl) HROW.out HKE.out HFR.out
  · have hR : K.allR xs (K.bitsOf s.data.toList) at_ n en = ([], 0, 80) := by unfold K.allR; rw [hok]; rfl
    have HR := Lib.hid hR
    clear h
    go_enter Try.func19, Try.ntmps19
    go_wp2_with fail
    refine (made_err a cap xs _ HS.out hlen hok).mono ?_
    rintro e w' ⟨rfl, rfl⟩
    clear hR hok
    go_wp2_with fail
    go_ret3
    rw [HR.out]
    exact NatsAtPost.err (by rfl) (Kept.refl _ _)

theorem all_any (a : Option Addr) (cap : Nat) (xs : List Int) (s : ByteArray) (at_ n en : Int) (w : World) (h : Sees w 1 a xs.length (intVals xs)) (hlen : xs.length ≤ 140737488351232) (hs : s.size ≤ 1000000000) :
    Calls Try.prog 19 #[.slice a xs.length cap, .string s, .int .i64 at_, .int .i64 n, .int .i64 en] w (NatsAtPost (K.allR xs (K.bitsOf s.data.toList) at_ n en) w) :=
  all_wide a cap xs s at_ n en w h hlen (by omega) (.inl hs)

/-- What a function leaves that answers a number, a place and an error. -/
def NatAtPost (R : Nat × Nat × Nat) (w : World) (e : Ending) (w' : World) : Prop :=
  e = .returned (.tuple #[.int .i64 (R.1 : Nat), .int .i64 (R.2.1 : Nat), .int .i64 (R.2.2 : Nat)]) ∧ Kept [] w w'
theorem decode_any (a : Option Addr) (cap : Nat) (xs : List Int) (s : ByteArray) (at_ : Int) (w : World) (h : Sees w 1 a xs.length (intVals xs)) (hlen : xs.length ≤ 140737488351232) (hs : s.size ≤ 140737488351232) :
    Calls Try.prog 16 #[.slice a xs.length cap, .string s, .int .i64 at_] w (NatAtPost (K.decR xs (K.bitsOf s.data.toList) at_) w) := by
  have HS := Lib.hid h
  clear h
  go_enter Try.func16, Try.ntmps16
  go_wp2_with fail
  refine (all_wide a cap xs s at_ 1 (-1) _ HS.out hlen hs (.inr (by omega))).mono ?_
  rintro e w1 ⟨a1, c1, rfl, hrow, hk1, -⟩
  have HK1 := Lib.hid hk1
  by_cases hz : (K.allR xs (K.bitsOf s.data.toList) at_ 1 (-1)).2.2 = 0
  · obtain ⟨x, p, hx⟩ := K.allR_one xs _ at_ hz
    have hd := K.decR_one xs _ at_ x p hx
    have HD := Lib.hid hd
    rw [hx] at hrow ⊢
    have hsee := hrow.seeA
    obtain ⟨b1, o1, rfl, hcells⟩ := hsee.at (by simp [natVals])
    have c0 := hcells 0 (.int .i64 (x : Int)) rfl
    rw [Nat.add_zero] at c0
    clear hz hx hd hk1 hrow hsee hcells
    go_wp2_with fail
    go_ret3
    rw [HD.out]
    exact ⟨rfl, HK1.out⟩
  · have hd := K.allR_err xs _ at_ hz
    have hb := K.allR_bad xs _ at_ 1 (-1) hz
    have hsm := K.allR_small xs (K.bitsOf s.data.toList) at_ 1 (-1)
    generalize (K.allR xs (K.bitsOf s.data.toList) at_ 1 (-1)).2.2 = er at hz hd hb hsm
    have HD := Lib.hid hd
    rw [hb]
    have hz2 : ((er : Int) != 0) = true := bne_iff_ne.2 (by omega)
    clear hd hb hsm hk1 hrow
    go_wp2_with fail
    go_ret3
    rw [HD.out]
    exact ⟨rfl, HK1.out⟩
end Go.Proofs.Ytodjfgdolegfpaa
