/-
  PrefixFree: the walk.
-/
import Derived.Test.YtodjfgdolegfpaaAwakeP
import Derived.Test.YtodjfgdolegfpaaLenA
import Derived.BigQuiet
namespace Go.Proofs.Ytodjfgdolegfpaa
open Go.RowKit
set_option linter.unusedVariables false
set_option linter.unusedSimpArgs false

theorem code_up (ls : List Nat) (i j : Nat) (hi : i < ls.length) (hij : i < j) (h : ls.getD i 0 = ls.getD j 0) : K.codeP ls i < K.codeP ls j := by
  unfold K.codeP
  rw [← h]
  have h1 := K.take_count ls (ls.getD i 0) i hi
  rw [if_pos rfl] at h1
  have h2 : (ls.take (i + 1)).count (ls.getD i 0) ≤ (ls.take j).count (ls.getD i 0) := by
    have : (ls.take (i + 1)) = (ls.take j).take (i + 1) := by rw [List.take_take, Nat.min_eq_left (by omega)]
    rw [this]
    exact (List.take_sublist _ _).count_le _
  omega
theorem code_above (ls : List Nat) (i j : Nat) (hi : i < ls.length) (hj : j < ls.length) (h : ls.getD i 0 < ls.getD j 0) : K.codeP ls i < K.codeP ls j / 2 ^ (ls.getD j 0 - ls.getD i 0) := by
  have h1 := K.head_above ls (ls.getD i 0) j hj h
  have h2 := K.code_in ls i hi
  omega

def FreeI (w0 : World) (L : Nat) (k : Nat) (iv : Value) (w : World) : Prop :=
  ∃ i, i ≤ L ∧ k = L - i ∧ iv = .int .i64 (i : Nat) ∧ Kept [] w0 w

set_option maxRecDepth 100000 in
set_option maxHeartbeats 2000000 in
theorem prefixFree_walk (a : Option Addr) (len cap : Nat) (xs : List Int) (w : World)
    (h : Sees w 1 a len (xs.map (Value.int .i64)) ∧ xs.length = len ∧ len ≤ cap ∧ cap ≤ maxLen ∧ len ≤ 17592186043904 ∧ ∀ x ∈ xs, -9223372036854775808 ≤ x ∧ x ≤ 9223372036854775807) :
    Calls Try.prog 7 #[.slice a len cap] w fun e w' => e = .returned (.bool true) ∧ Kept [] w w' := by
  obtain ⟨hsee, rfl, -, -, hlen, -⟩ := h
  have hsee : Sees w 1 a xs.length (intVals xs) := hsee
  rcases Bool.eq_false_or_eq_true (K.goodL xs) with hok | hok
  · have hR : K.codesR xs = (K.codesP (K.natsOf xs), 0) := by unfold K.codesR; rw [hok]; rfl
    have hin := ((K.lensOk_iff xs).1 (K.goodL_lens hok)).2
    have hl := ((K.lensOk_iff xs).1 (K.goodL_lens hok)).1
    obtain ⟨b0, off, rfl, -⟩ := hsee.at (by rw [intVals_length]; omega)
    have hgd := K.goodL_in hok
    have hclt := K.code_lt (K.natsOf xs) (fun x hx => (hgd x hx).2) (K.goodL_room hok)
    obtain ⟨ls, hls⟩ : ∃ ls, K.natsOf xs = ls := ⟨_, rfl⟩
    have hll : ls.length = xs.length := by rw [← hls, K.natsOf_length]
    have hget : ∀ i, i < xs.length → xs[i]? = some ((ls.getD i 0 : Nat) : Int) := by
      intro i hi
      have hx := List.getElem?_eq_getElem hi
      have := hin _ (List.mem_of_getElem? hx)
      rw [hx, ← hls]; unfold K.natsOf
      rw [List.getD, List.getElem?_map, hx]
      simp; omega
    have hgd2 : ∀ i, i < xs.length → 1 ≤ ls.getD i 0 ∧ ls.getD i 0 ≤ 20 := by
      intro i hi
      have hm : ls.getD i 0 ∈ ls := by rw [List.getD, List.getElem?_eq_getElem (by omega)]; exact List.getElem_mem (by omega)
      rw [hls] at hgd
      exact hgd _ hm
    rw [hls] at hR hclt
    have HS := Lib.hid hsee
    have HR := Lib.hid hR
    have HCLT := Lib.hid hclt
    have HLL := Lib.hid hll
    have HGET := Lib.hid hget
    have HGD := Lib.hid hgd2
    clear hsee hok hR hin hgd hclt hls hll hget hgd2
    go_enter Try.func7, Try.ntmps7
    go_wp2_with fail
    refine (pcodes_any (some ⟨b0, off, none⟩) cap xs _ HS.out (by omega)).mono ?_
    rintro e w1 hp
    rw [HR.out] at hp
    obtain ⟨a1, c1, rfl, hrow1, hk1, -⟩ := hp
    have hcl : ((K.codesP ls, 0) : List Nat × Nat).1.length = xs.length := by rw [K.codesP_length, HLL.out]
    have hs1 : Sees w1 1 a1 xs.length (intVals ((K.codesP ls).map fun n : Nat => (n : Int))) := by
      have := hrow1.seeA
      rw [natVals_int] at this
      rw [hcl] at this; exact this
    obtain ⟨b1, off1, rfl, -⟩ := hs1.at (by rw [intVals_length, List.length_map, K.codesP_length, HLL.out]; omega)
    have HC := Lib.hid hs1
    have HK1 := Lib.hid hk1
    clear hrow1 hs1 hk1
    simp only [hcl]
    go_wp2_with fail
    go_loopg [5] xs.length (fun k iv wr => FreeI w1 xs.length k iv wr)
    case atStart => exact ⟨0, by omega, by omega, rfl, Kept.refl _ _⟩
    case round =>
      obtain ⟨i, hi, hk, rfl, hkept⟩ := hrel
      have Hk := Lib.hid hk
      have HKE := Lib.hid hkept
      clear hk hkept
      by_cases hlt : i < xs.length
      · have hli : (i : Int) < (xs.length : Int) := by omega
        have hxi := HGET.out i hlt
        have hci : ((K.codesP ls).map fun n : Nat => (n : Int))[i]? = some ((K.codeP ls i : Nat) : Int) := by rw [List.getElem?_map, K.codesP_get ls i (by rw [HLL.out]; exact hlt)]; rfl
        have c0 := ((HS.out.kept0 HK1.out).kept0 HKE.out).int hxi
        have c1' := (HC.out.kept0 HKE.out).int hci
        have hn := HGD.out i hlt
        have hcp := HCLT.out i (by rw [HLL.out]; exact hlt)
        obtain ⟨n, hnd⟩ : ∃ n, ls.getD i 0 = n := ⟨_, rfl⟩
        obtain ⟨c, hcd⟩ : ∃ c, K.codeP ls i = c := ⟨_, rfl⟩
        rw [hnd] at hxi c0 hn hcp
        rw [hcd] at hci c1' hcp
        have hp20 : 2 ^ n ≤ 2 ^ 20 := Nat.pow_le_pow_right (by decide) hn.2
        have e20 : (2 : Nat) ^ 20 = 1048576 := rfl
        have hpw : (2 : Int) ^ n = ((2 ^ n : Nat) : Int) := by norm_cast
        generalize (2 : Nat) ^ n = p at hpw hcp hp20
        have hnw : IntKind.u64.wrap (n : Int) = (n : Int) := by rw [IntKind.wrap_u64]; omega
        have hwp : IntKind.i64.wrap (p : Int) = (p : Int) := IntWalk.i64_in _ (by omega)
        have hn63 : n ≤ 63 := by omega
        have g1 : decide ((c : Int) < 0) = false := by simp
        have g2 : decide ((p : Int) ≤ (c : Int)) = false := by simp; omega
        have g3 : decide (p ≤ c) = false := by simp; omega
        have HXI := Lib.hid hxi
        have HCI := Lib.hid hci
        have HND := Lib.hid hnd
        have HCD := Lib.hid hcd
        clear hxi hci hnd hcd e20
        go_wp2_with fail
        go_quiet (fail)
        have HKE2 := Lib.hid (HKE.out.drewN nq)
        generalize wr.drewN nq = wq at HKE2 ⊢
        clear c0 c1' hpw hwp g1 g2 g3
        go_wp2_with fail
        go_loopg [6] xs.length (fun k jv wr => FreeI w1 xs.length k jv wr)
        case atStart => exact ⟨0, by omega, by omega, rfl, HKE2.out⟩
        case round =>
          obtain ⟨j, hj, hk, rfl, hkept⟩ := hrel
          have Hk2 := Lib.hid hk
          have HKJ := Lib.hid hkept
          clear hk hkept
          by_cases hltj : j < xs.length
          · have hlj : (j : Int) < (xs.length : Int) := by omega
            have hxj := HGET.out j hltj
            have hcj : ((K.codesP ls).map fun n : Nat => (n : Int))[j]? = some ((K.codeP ls j : Nat) : Int) := by rw [List.getElem?_map, K.codesP_get ls j (by rw [HLL.out]; exact hltj)]; rfl
            have d0 := ((HS.out.kept0 HK1.out).kept0 HKJ.out).int HXI.out
            have d1 := (HC.out.kept0 HKJ.out).int HCI.out
            have d2 := ((HS.out.kept0 HK1.out).kept0 HKJ.out).int hxj
            have d3 := (HC.out.kept0 HKJ.out).int hcj
            have hm := HGD.out j hltj
            have hcpj := HCLT.out j (by rw [HLL.out]; exact hltj)
            have hup := code_up ls i j (by rw [HLL.out]; exact hlt)
            have hdown := code_up ls j i (by rw [HLL.out]; exact hltj)
            have hab := code_above ls i j (by rw [HLL.out]; exact hlt) (by rw [HLL.out]; exact hltj)
            obtain ⟨m, hmd⟩ : ∃ m, ls.getD j 0 = m := ⟨_, rfl⟩
            obtain ⟨c', hcd'⟩ : ∃ c, K.codeP ls j = c := ⟨_, rfl⟩
            rw [hmd] at hxj d2 hm hcpj
            rw [hcd'] at hcj d3 hcpj
            rw [HND.out, HCD.out, hmd, hcd'] at hup hdown hab
            have hp20' : 2 ^ m ≤ 2 ^ 20 := Nat.pow_le_pow_right (by decide) hm.2
            have e20 : (2 : Nat) ^ 20 = 1048576 := rfl
            have hc20 : c' < 1048576 := by omega
            clear hxj hcj hcpj hp20' e20 hmd hcd'
            by_cases hij : i = j
            · subst hij
              have f1 : (i == i) = true := by simp
              clear hup hdown hab d2 d3
              go_wp2_with fail
              go_quiet (fail)
              go_wp2_with fail
              go_roundg (xs.length - (i + 1))
              case measure => have := Hk2.out; omega
              case rel => exact ⟨i + 1, by omega, rfl, by go_num, HKJ.out.drewN _⟩
            have hiji : ¬ (i : Int) = (j : Int) := by omega
            have f1 : ((i : Int) == (j : Int)) = false := by simp; omega
            have f1' : (i == j) = false := by simp; omega
            by_cases hnm : m < n
            · have f2 : decide (m < n) = true := by simp; omega
              clear hup hdown hab
              go_wp2_with fail
              go_quiet (fail)
              go_wp2_with fail
              go_roundg (xs.length - (j + 1))
              case measure => have := Hk2.out; omega
              case rel => exact ⟨j + 1, by omega, rfl, by go_num, HKJ.out.drewN _⟩
            have f2 : decide (m < n) = false := by simp; omega
            have f2' : decide ((m : Int) < (n : Int)) = false := by simp; omega
            obtain ⟨t, ht⟩ : ∃ t, m - n = t := ⟨_, rfl⟩
            have hsub : IntKind.i64.wrap ((m : Int) - (n : Int)) = (t : Int) := by rw [IntWalk.i64_in _ (by omega)]; omega
            have htw : IntKind.u64.wrap (t : Int) = (t : Int) := by rw [IntKind.wrap_u64]; omega
            have ht63 : t ≤ 63 := by omega
            have hpw : (2 : Int) ^ t = ((2 ^ t : Nat) : Int) := by norm_cast
            rw [ht] at hab
            have hq0 : t = 0 → c' / 2 ^ t = c' := by rintro rfl; simp
            have hqn : (c' : Int) / ((2 ^ t : Nat) : Int) = ((c' / 2 ^ t : Nat) : Int) := by norm_cast
            have hq20 : c' / 2 ^ t ≤ c' := Nat.div_le_self _ _
            generalize c' / 2 ^ t = q at hab hqn hq0 hq20
            generalize (2 : Nat) ^ t = p2 at hpw hqn
            have hqw : IntKind.i64.wrap (q : Int) = (q : Int) := IntWalk.i64_in _ (by omega)
            rcases Nat.lt_or_ge n m with hlt2 | hge2
            · have hab2 := hab hlt2
              have k1 : ((q : Int) == (c : Int)) = false := by simp; omega
              have k1' : (q == c) = false := by simp; omega
              have k2 : decide ((n : Int) < (m : Int)) = true := by simp; omega
              have k2' : decide (n < m) = true := by simp; omega
              have k3 : decide ((q : Int) < (c : Int)) = false := by simp; omega
              have k3' : decide (q < c) = false := by simp; omega
              have k4 : ((n : Int) == (m : Int)) = false := by simp; omega
              have k4' : (n == m) = false := by simp; omega
              clear hup hdown hab hq0 hq20 ht
              go_wp2_with fail
              go_quiet (fail)
              go_wp2_with fail
              go_quiet (fail)
              go_wp2_with fail
              go_roundg (xs.length - (j + 1))
              case measure => have := Hk2.out; omega
              case rel => exact ⟨j + 1, by omega, rfl, by go_num, HKJ.out.drewN _⟩
            · obtain rfl : n = m := by omega
              obtain rfl : t = 0 := by omega
              obtain rfl : q = c' := hq0 rfl
              clear hab hq0 hq20 ht hnm hge2 hsub
              have hsub : IntKind.i64.wrap ((n : Int) - (n : Int)) = ((0 : Nat) : Int) := by rw [Int.sub_self]; rfl
              have hpw1 : p2 = 1 := by
                have : (2 : Int) ^ 0 = 1 := rfl
                omega
              subst hpw1
              clear hpw hqn
              have k2 : decide ((n : Int) < (n : Int)) = false := by simp
              have k2' : decide (n < n) = false := by simp
              have k4 : ((n : Int) == (n : Int)) = true := by simp
              have k4' : (n == n) = true := by simp
              rcases Nat.lt_or_ge i j with hlt2 | hge2
              · have hup2 := hup hlt2 rfl
                have k1 : ((q : Int) == (c : Int)) = false := by simp; omega
                have k1' : (q == c) = false := by simp; omega
                have k5 : decide ((i : Int) < (j : Int)) = true := by simp; omega
                have k5' : decide (i < j) = true := by simp; omega
                have k6 : decide ((q : Int) ≤ (c : Int)) = false := by simp; omega
                have k6' : decide (q ≤ c) = false := by simp; omega
                clear hup hdown
                go_wp2_with fail
                go_quiet (fail)
                go_wp2_with fail
                go_quiet (fail)
                go_wp2_with fail
                go_roundg (xs.length - (j + 1))
                case measure => have := Hk2.out; omega
                case rel => exact ⟨j + 1, by omega, rfl, by go_num, HKJ.out.drewN _⟩
              · have hup2 := hdown (by omega) rfl
                have k1 : ((q : Int) == (c : Int)) = false := by simp; omega
                have k1' : (q == c) = false := by simp; omega
                have k5 : decide ((i : Int) < (j : Int)) = false := by simp; omega
                have k5' : decide (i < j) = false := by simp; omega
                clear hup hdown
                go_wp2_with fail
                go_quiet (fail)
                go_wp2_with fail
                go_quiet (fail)
                go_wp2_with fail
                go_roundg (xs.length - (j + 1))
                case measure => have := Hk2.out; omega
                case rel => exact ⟨j + 1, by omega, rfl, by go_num, HKJ.out.drewN _⟩
          · go_wp2_with fail
            go_roundg (xs.length - (i + 1))
            case measure => have := Hk.out; omega
            case rel => exact ⟨i + 1, by omega, rfl, by go_num, HKJ.out⟩
      · go_wp2_with ((go_at_call 13; refine (awakeP _).mono ?_; rintro e w' ⟨rfl, hk⟩))
        go_ret
        exact ⟨rfl, (HK1.out.new HKE.out (by simp [Fresh])).new ‹_› (by simp [Fresh])⟩
  · have hR : K.codesR xs = ([], 80) := by unfold K.codesR; rw [hok]; rfl
    have hch : checkR xs = 80 := by unfold checkR; rw [hok]; rfl
    have HS := Lib.hid hsee
    have HR := Lib.hid hR
    have HCH := Lib.hid hch
    clear hsee hok hR hch
    go_enter Try.func7, Try.ntmps7
    go_wp2_with fail
    refine (pcodes_any a cap xs _ HS.out (by omega)).mono ?_
    rintro e w1 hp
    rw [HR.out] at hp
    obtain ⟨a1, c1, rfl, hrow1, hk1, -⟩ := hp
    have HK1 := Lib.hid hk1
    clear hrow1
    have hk1 := HS.out.kept0 HK1.out
    go_wp2_with fail
    refine (check_any a cap xs _ hk1 (by omega)).mono ?_
    rintro e w2 ⟨rfl, rfl⟩
    rw [HCH.out]
    clear hk1
    go_wp2_with ((go_at_call 13; refine (awakeP _).mono ?_; rintro e w' ⟨rfl, hk⟩))
    go_ret
    exact ⟨rfl, HK1.out.new ‹_› (by simp [Fresh])⟩
end Go.Proofs.Ytodjfgdolegfpaa
