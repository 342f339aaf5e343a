/-
  GroupsBack: the walk.
-/
import Derived.Test.YtdaenajhgbagdaaAwakeG
import Derived.Test.YtdaenajhgbagdaaGrpP
import Derived.Test.YtdaenajhgbagdaaGrpQ
import Derived.Test.YtdaenajhgbagdaaGrpJ
import Derived.Test.YtdaenajhgbagdaaGroupsGets
namespace Go.Proofs.Ytdaenajhgbagdaa
open Go.RowKit
set_option linter.unusedVariables false
set_option linter.unusedSimpArgs false

/-- The symbols below the end. -/
def pickF (xs : List Int) (n : Int) : List Int := xs.filter fun x => decide (0 ≤ x ∧ x < n - 1)
theorem pickF_len (xs : List Int) (n : Int) : (pickF xs n).length ≤ xs.length := List.length_filter_le _ _
theorem pickF_in {xs : List Int} {n s : Int} (h : s ∈ pickF xs n) : 0 ≤ s ∧ s < n - 1 := by
  have := (List.mem_filter.1 h).2
  rwa [decide_eq_true_eq] at this
theorem pickF_yes {xs : List Int} {n x : Int} {i : Nat} (hx : xs[i]? = some x) (h : 0 ≤ x ∧ x < n - 1) : pickF (xs.take (i + 1)) n = pickF (xs.take i) n ++ [x] := by
  obtain ⟨hl, rfl⟩ := List.getElem?_eq_some_iff.1 hx
  unfold pickF
  rw [List.take_succ_eq_append_getElem hl, List.filter_append, List.filter_cons_of_pos (by simpa using h)]
  rfl
theorem pickF_no {xs : List Int} {n x : Int} {i : Nat} (hx : xs[i]? = some x) (h : ¬ (0 ≤ x ∧ x < n - 1)) : pickF (xs.take (i + 1)) n = pickF (xs.take i) n := by
  obtain ⟨hl, rfl⟩ := List.getElem?_eq_some_iff.1 hx
  unfold pickF
  rw [List.take_succ_eq_append_getElem hl, List.filter_append, List.filter_cons_of_neg (by simpa using h), List.filter_nil, List.append_nil]
/-- In the loop that picks: i are seen. -/
def OwnI (xs : List Int) (n : Int) (w : World) (k : Nat) (v7 v8 : Value) (wr : World) : Prop :=
  ∃ (i : Nat) (L : List Int) (a : Option Addr) (c : Nat), k = xs.length - i ∧ i ≤ xs.length ∧ v7 = .slice a L.length c ∧ v8 = .int .i64 (i : Nat) ∧ Hid (L = pickF (xs.take i) n) ∧ L.length ≤ 3000 ∧
    Hid (Row wr 3 (.slice a L.length c) (intVals L)) ∧ Hid (Kept [] w wr) ∧ Hid (Fresh w.heap.size (foot (.slice a L.length c)))
theorem may_own {pre : List Int} {n : Int} (hp : ∀ s ∈ pre, 0 ≤ s ∧ s < n - 1) (hn : 3 ≤ n ∧ n ≤ 258) (hl : pre.length ≤ 3000) : K.mayListL (pre ++ [n - 1]) n = true := by
  unfold K.mayListL
  rw [decide_eq_true hn, decide_eq_true (by simp; omega), List.all_eq_true.2]
  · rfl
  · intro s hs
    rw [decide_eq_true_eq]
    rcases List.mem_append.1 hs with h | h
    · have := hp s h; omega
    · rw [List.mem_singleton.1 h]; omega
theorem nats_back {P : List Int} (h : ∀ x ∈ P, 0 ≤ x) : (K.natsOf P).map (fun n : Nat => (n : Int)) = P := by
  unfold K.natsOf
  rw [List.map_map]
  conv => rhs; rw [← List.map_id P]
  refine List.map_congr_left fun x hx => ?_
  have := h x hx
  simp [Int.toNat_of_nonneg this]
/-- What Take tells of a best plan behind a text. -/
theorem take_back {T : List (List Int)} {P xs : List Int} {n : Int} (h : FitP T P xs n) (hn : 3 ≤ n ∧ n ≤ 258) (t : ByteArray) :
    K.takeGR (K.bitsOf (t.data.toList ++ K.pack (K.planBits T P))) (8 * (t.size : Int)) n = (T, K.natsOf P, 8 * t.size + (K.planBits T P).length, 0) := by
  obtain ⟨pad, hp⟩ := K.bitsOf_pack (K.planBits T P)
  obtain ⟨n, rfl⟩ := Int.eq_ofNat_of_zero_le (show 0 ≤ n by omega)
  have := K.takeG_told T P (K.bitsOf t.data.toList) pad n h.may (by have := h.head; omega)
  rw [K.bitsOf_length, byte_len] at this
  rw [K.bitsOf_append, hp, ← this, show ((8 * t.size : Nat) : Int) = 8 * (t.size : Int) by omega]
theorem get_back {T : List (List Int)} {P pre : List Int} {n : Int} {B : List Bool} (h : FitP T P (pre ++ [n - 1]) n) (hn : 3 ≤ n) (hp : ∀ s ∈ pre, 0 ≤ s ∧ s < n - 1) (hB : K.codG T P n 0 (pre ++ [n - 1]) = some B) (t : ByteArray) :
    K.getR T P (K.bitsOf (t.data.toList ++ K.pack B)) (8 * (t.size : Int)) = (K.natsOf (pre ++ [n - 1]), 8 * t.size + B.length, 0) := by
  obtain ⟨pad, hq⟩ := K.bitsOf_pack B
  obtain ⟨n, rfl⟩ := Int.eq_ofNat_of_zero_le (show 0 ≤ n by omega)
  have hm := h.many
  rw [List.length_append] at hm
  have := K.getG_told T P pre (K.bitsOf t.data.toList) B pad n h.may (by have := h.head; omega) hp hB hm
  rw [K.bitsOf_length, byte_len] at this
  rw [K.bitsOf_append, hq, ← this, show ((8 * t.size : Nat) : Int) = 8 * (t.size : Int) by omega]

set_option maxRecDepth 100000 in
set_option maxHeartbeats 2000000 in
theorem groupsBack_walk (a : Option Addr) (len cap : Nat) (xs : List Int) (n : Int) (t : ByteArray) (w : World)
    (h : Sees w 1 a len (xs.map (Value.int .i64)) ∧ xs.length = len ∧ len ≤ cap ∧ cap ≤ maxLen ∧ len ≤ 17592186043904 ∧ ∀ x ∈ xs, -9223372036854775808 ≤ x ∧ x ≤ 9223372036854775807) (hn : -9223372036854775808 ≤ n ∧ n ≤ 9223372036854775807)
    (ht : t.size ≤ 140737488351232) :
    Calls Try.prog 11 #[.slice a len cap, .int .i64 n, .string t] w fun e w' => e = .returned (.bool true) ∧ Kept [] w w' := by
  obtain ⟨hs, rfl, hc, hcm, hlen, hxs⟩ := h
  have hs : Sees w 1 a xs.length (intVals xs) := hs
  have HS := Lib.hid hs
  have HXS := Lib.hid hxs
  clear hs hxs
  by_cases hbig : 3000 < xs.length
  · have g1 : decide (3000 < (xs.length : Int)) = true := by simp; omega
    clear hn
    go_enter Try.func11, Try.ntmps11
    go_wp2_with ((go_at_call 14; refine (awakeG _).mono ?_; rintro e w' ⟨rfl, hk⟩))
    go_ret
    exact ⟨rfl, by assumption⟩
  have g1 : decide (3000 < (xs.length : Int)) = false := by simp; omega
  have hll : xs.length ≤ 3000 := by omega
  by_cases hbig2 : 1000 < t.size
  · have g2 : decide (1000 < (t.size : Int)) = true := by simp; omega
    clear hn
    go_enter Try.func11, Try.ntmps11
    go_wp2_with ((go_at_call 14; refine (awakeG _).mono ?_; rintro e w' ⟨rfl, hk⟩))
    go_ret
    exact ⟨rfl, by assumption⟩
  have g2 : decide (1000 < (t.size : Int)) = false := by simp; omega
  have htt : t.size ≤ 1000 := by omega
  by_cases h3 : n < 3
  · have g3 : decide (n < 3) = true := by simp; omega
    clear hn
    go_enter Try.func11, Try.ntmps11
    go_wp2_with ((go_at_call 14; refine (awakeG _).mono ?_; rintro e w' ⟨rfl, hk⟩))
    go_ret
    exact ⟨rfl, by assumption⟩
  have g3 : decide (n < 3) = false := by simp; omega
  by_cases h258 : 258 < n
  · have g4 : decide (258 < n) = true := by simp; omega
    clear hn
    go_enter Try.func11, Try.ntmps11
    go_wp2_with ((go_at_call 14; refine (awakeG _).mono ?_; rintro e w' ⟨rfl, hk⟩))
    go_ret
    exact ⟨rfl, by assumption⟩
  have g4 : decide (258 < n) = false := by simp; omega
  have hn3 : 3 ≤ n ∧ n ≤ 258 := by omega
  have HN := Lib.hid hn3
  have hw1 : wrap64 (n - 1) = n - 1 := by unfold wrap64; omega
  have hw2 : IntKind.i64.wrap (n - 1) = n - 1 := IntWalk.i64_in _ (by omega)
  clear hn hbig hbig2 hlen hn3
  go_enter Try.func11, Try.ntmps11
  go_wp2_with fail
  clear g1 g2 g3 g4
  go_loopg [7, 8] xs.length (fun k v7 v8 wr => OwnI xs n w k v7 v8 wr)
  case atStart => exact ⟨0, [], none, 0, by omega, by omega, rfl, rfl, Lib.hid (by simp [pickF]), by simp, Lib.hid (Row.nil _ _), Lib.hid (Kept.refl _ _), Lib.hid (by simp [Fresh, foot, Value.ownBlock])⟩
  case round =>
    obtain ⟨i, L, b, c, hk, hi, rfl, rfl, HL, hL, HR, HK, HF⟩ := hrel
    have Hk := Lib.hid hk
    clear hk
    by_cases hlt : i < xs.length
    · have hli : (i : Int) < (xs.length : Int) := by omega
      obtain ⟨x, hx⟩ : ∃ x, xs[i]? = some x := ⟨_, List.getElem?_eq_getElem hlt⟩
      have hsk := HS.out.kept0 HK.out
      obtain ⟨b0, o0, rfl, -⟩ := hsk.2 i _ (intVals_get xs i x hx)
      have e0 := hsk.int hx
      have HX := Lib.hid hx
      clear hsk hx
      by_cases hin : 0 ≤ x ∧ x < n - 1
      · have q1 : decide (x < 0) = false := by simp; omega
        have q2 : decide (0 ≤ x) = true := by simp; omega
        have q3 : decide (x < n - 1) = true := by simp; omega
        have hpk := Lib.hid (pickF_yes HX.out hin)
        have hrow := HR.out
        have L1 : (intVals L).length + 1 ≤ maxLen := by rw [intVals_length]; simp only [maxLen]; omega
        have L2 : ((intVals L).length + 1) * 8 ≤ 140737488355328 := by rw [intVals_length]; omega
        clear hin
        go_wp2_with ((at_builtin; refine wp_appL _ rfl _ _ 30 rfl 3 (.int .i64 0) 8 Try.underlying30 Try.infoInt rfl _ _ [.int .i64 x] 1 rfl rfl rfl rfl (by simp [Value.oneCell']) hrow L1 L2 ?_; intro a5 cap5 w5 hrow5 hk5 hg5))
        go_roundg (xs.length - (i + 1))
        case measure => have := Hk.out; omega
        case rel =>
          refine ⟨i + 1, L ++ [x], a5, cap5, rfl, by omega, by simp [intVals_length], by go_num, Lib.hid (by rw [hpk.out, HL.out]), ?_, Lib.hid ?_, Lib.hid (HK.out.new hk5 HF.out), Lib.hid ?_⟩
          · have h1 := pickF_len (xs.take (i + 1)) n
            rw [hpk.out, ← HL.out, List.length_take] at h1
            omega
          · rw [show intVals (L ++ [x]) = intVals L ++ [.int .i64 x] by simp [intVals], List.length_append]
            rw [intVals_length] at hrow5
            exact hrow5
          · rw [List.length_append]
            have := HF.out.grow hg5 HK.out.size
            rwa [intVals_length] at this
      · have hpk := Lib.hid (pickF_no HX.out hin)
        by_cases h0 : 0 ≤ x
        · have q1 : decide (x < 0) = false := by simp; omega
          have q2 : decide (0 ≤ x) = true := by simp; omega
          have q3 : decide (x < n - 1) = false := by simp; omega
          clear hin
          go_wp2_with fail
          go_roundg (xs.length - (i + 1))
          case measure => have := Hk.out; omega
          case rel => exact ⟨i + 1, L, b, c, rfl, by omega, rfl, by go_num, Lib.hid (by rw [hpk.out, HL.out]), hL, HR, HK, HF⟩
        · have q1 : decide (x < 0) = true := by simp; omega
          have q2 : decide (0 ≤ x) = false := by simp; omega
          clear hin
          go_wp2_with fail
          go_roundg (xs.length - (i + 1))
          case measure => have := Hk.out; omega
          case rel => exact ⟨i + 1, L, b, c, rfl, by omega, rfl, by go_num, Lib.hid (by rw [hpk.out, HL.out]), hL, HR, HK, HF⟩
    · obtain rfl : i = xs.length := by omega
      have hll2 : ¬ (xs.length : Int) < (xs.length : Int) := by omega
      have hLp := HL.out
      rw [List.take_length] at hLp
      have hpre : ∀ s ∈ L, 0 ≤ s ∧ s < n - 1 := fun s hs => pickF_in (by rw [← hLp]; exact hs)
      have hrow := HR.out
      have L1 : (intVals L).length + 1 ≤ maxLen := by rw [intVals_length]; simp only [maxLen]; omega
      have L2 : ((intVals L).length + 1) * 8 ≤ 140737488355328 := by rw [intVals_length]; omega
      have HPRE := Lib.hid hpre
      clear hLp HL hpre
      go_wp2_with ((at_builtin; refine wp_appL _ rfl _ _ 30 rfl 3 (.int .i64 0) 8 Try.underlying30 Try.infoInt rfl _ _ [.int .i64 (n - 1)] 1 rfl rfl rfl rfl (by simp [Value.oneCell']) hrow L1 L2 ?_; intro a5 cap5 w5 hrow5 hk5 hg5))
      obtain ⟨own, hown⟩ : ∃ o, L ++ [n - 1] = o := ⟨_, rfl⟩
      have hiv : intVals own = intVals L ++ [.int .i64 (n - 1)] := by rw [← hown]; simp [intVals]
      have hol : own.length = L.length + 1 := by rw [← hown]; simp
      have hgl : (intVals L).length + 1 = own.length := by rw [intVals_length, hol]
      have hK5 : Kept [] w w5 := HK.out.new hk5 HF.out
      rw [hgl, ← hiv] at hrow5
      rw [hgl]
      obtain ⟨a', c', hv, h1, h2, h3, -⟩ := hrow5.sees
      rw [intVals_length] at hv h1 h3
      injection hv with hv1 hv2 hv3
      subst hv1 hv3
      have hmay : K.mayListL own n = true := by rw [← hown]; exact may_own HPRE.out HN.out hL
      obtain ⟨hf, he, -⟩ := best_fit own n hmay
      obtain ⟨-, -, -, -, -, hall⟩ := cnt_may hmay
      have HC1 := gbest_any a5 cap5 own n w5 h3 h1 h2 (by omega)
      obtain ⟨⟨T, P, E⟩, hR⟩ : ∃ R, bestGR own n = R := ⟨_, rfl⟩
      rw [hR] at HC1 hf he
      have he : E = 0 := he
      subst he
      have hf : FitP T P own n := hf
      obtain ⟨B, hB0, hB⟩ := hf.codes hall
      have hpl := planBits_len hf.may
      have hBl := (codR_len T P own).1
      rw [hB] at hBl
      have hBl : B.length ≤ 20 * own.length := hBl
      have htk := take_back hf HN.out t
      rw [← hown] at hf hB0
      have hgt := get_back hf (by omega) HPRE.out hB0 t
      rw [hown] at hf hgt
      have HMY := Lib.hid hf.may
      have hPn : ∀ x ∈ P, 0 ≤ x := fun x hx => ((K.mayPlan_get hf.may).2.2.2 x hx).1
      have hon : ∀ x ∈ own, 0 ≤ x := fun x hx => (hall x hx).1
      have HPN := Lib.hid (nats_back hPn)
      have HON := Lib.hid (nats_back hon)
      have hsh : K.showPR T P = (K.pack (K.planBits T P), (((K.planBits T P).length : Nat) : Int), 0) := by unfold K.showPR; rw [hf.may]; rfl
      have hpu : K.putGR T P own = (K.pack B, ((B.length : Nat) : Int), 0) := by unfold K.putGR; rw [hB]; rfl
      obtain ⟨S, hS⟩ : ∃ S, (K.planBits T P).length = S := ⟨_, rfl⟩
      obtain ⟨M, hM⟩ : ∃ M, B.length = M := ⟨_, rfl⟩
      have hD1 := K.pack_length (K.planBits T P)
      have hD2 := K.pack_length B
      obtain ⟨D1, hE1⟩ : ∃ D, K.pack (K.planBits T P) = D := ⟨_, rfl⟩
      obtain ⟨D2, hE2⟩ : ∃ D, K.pack B = D := ⟨_, rfl⟩
      rw [hS] at hsh htk hpl hD1
      rw [hM] at hpu hgt hBl hD2
      rw [hE1] at hsh htk hD1
      rw [hE2] at hpu hgt hD2
      have hz1 : (t ++ (⟨D1.toArray⟩ : ByteArray)).size ≤ 1000000 := by
        rw [← byte_len, show (t ++ (⟨D1.toArray⟩ : ByteArray)).data.toList = t.data.toList ++ D1 by simp, List.length_append, byte_len]; omega
      have hz2 : (t ++ (⟨D2.toArray⟩ : ByteArray)).size ≤ 1000000 := by
        rw [← byte_len, show (t ++ (⟨D2.toArray⟩ : ByteArray)).data.toList = t.data.toList ++ D2 by simp, List.length_append, byte_len]; omega
      have hy1 : (ByteArray.mk D1.toArray).size ≤ 1000000 := by rw [← byte_len]; show D1.toArray.toList.length ≤ 1000000; rw [List.toList_toArray]; omega
      have hy2 : (ByteArray.mk D2.toArray).size ≤ 1000000 := by rw [← byte_len]; show D2.toArray.toList.length ≤ 1000000; rw [List.toList_toArray]; omega
      have hpS : (S : Int) ≤ 400000 := by omega
      have hpM : (M : Int) ≤ 70000 := by omega
      have hS0 : (0 : Int) ≤ (S : Int) := by omega
      have hM0 : (0 : Int) ≤ (M : Int) := by omega
      have hw3 : IntKind.i64.wrap (8 * (t.size : Int) + (S : Int)) = 8 * (t.size : Int) + (S : Int) := IntWalk.i64_in _ (by omega)
      have hw4 : IntKind.i64.wrap (8 * (t.size : Int) + (M : Int)) = 8 * (t.size : Int) + (M : Int) := IntWalk.i64_in _ (by omega)
      have hw5 : wrap64 (8 * (t.size : Int) + (S : Int)) = 8 * (t.size : Int) + (S : Int) := by unfold wrap64; omega
      have hw6 : wrap64 (8 * (t.size : Int) + (M : Int)) = 8 * (t.size : Int) + (M : Int) := by unfold wrap64; omega
      have HX5 := Lib.hid (fun W => show Calls Try.prog 26 #[.string (t ++ ⟨D1.toArray⟩), .int .i64 (8 * (t.size : Int)), .int .i64 n] W (fun e w' => ∃ aT cT aP cP, e = .returned (.tuple #[.agg #[.slice aT T.length cT, .slice aP P.length cP], .int .i64 (8 * (t.size : Int) + (S : Int)), .int .i64 0]) ∧ PlanAt w' aT aP cT cP T P ∧ Kept [] W w') by
        have := gtake_any (t ++ ⟨D1.toArray⟩) (8 * (t.size : Int)) n W (by omega)
        rw [show (t ++ (⟨D1.toArray⟩ : ByteArray)).data.toList = t.data.toList ++ D1 by simp, htk] at this
        refine this.mono ?_
        rintro e w' ⟨aT, cT, aP, cP, h1, h2, h3⟩
        refine ⟨aT, cT, aP, cP, ?_, ?_, h3⟩
        · rw [h1]; simp [planV, K.natsOf_length]
        · have h2 : PlanAt w' aT aP cT cP T ((K.natsOf P).map fun n : Nat => (n : Int)) := h2
          rwa [HPN.out] at h2)
      have HX6 := Lib.hid (fun (a1 b1 : Option Addr) (c1 d1 : Nat) (W : World) (hW : PlanAt W a1 b1 c1 d1 T P) => show Calls Try.prog 18 #[.agg #[.slice a1 T.length c1, .slice b1 P.length d1], .string (t ++ ⟨D2.toArray⟩), .int .i64 (8 * (t.size : Int))] W (fun e w' => ∃ (b : Option Addr) (c : Nat), e = .returned (.tuple #[.slice b own.length c, .int .i64 (8 * (t.size : Int) + (M : Int)), .int .i64 0]) ∧ Sees w' 1 b own.length (intVals own) ∧ Kept [] W w') by
        have := gget_any a1 b1 c1 d1 T P (t ++ ⟨D2.toArray⟩) (8 * (t.size : Int)) W hW (by omega)
        rw [show (t ++ (⟨D2.toArray⟩ : ByteArray)).data.toList = t.data.toList ++ D2 by simp, hgt] at this
        refine this.mono ?_
        rintro e w' ⟨b, c, h1, h2, h3, -⟩
        refine ⟨b, c, ?_, ?_, h3⟩
        · rw [h1]; simp [K.natsOf_length]
        · have h2 := Row.seeA h2
          rw [natVals_int, nats_back hon] at h2
          simpa [K.natsOf_length] using h2)
      have hol3 : own.length ≤ 3001 := by omega
      have HXR := Lib.hid h3
      have HK5 := Lib.hid hK5
      have HSH := Lib.hid hsh
      have HPU := Lib.hid hpu
      have HC := Lib.hid HC1
      clear HON HPN hz2 hgt hf hB0 hB hall hmay hR hiv hol hgl hE1 hE2 hD1 hD2 hS hM hz1 hPn hon hsh hpu htk hown hK5 hrow5 hk5 hg5 hrow h1 h2 h3 L1 L2 HR HK HF HPRE hL hBl hpl HC1
      go_wp2_with fail
      refine HC.out.mono ?_
      rintro e w6 ⟨a1, c1, b1, d1, rfl, hpl1, hk6, -, -⟩
      have HK6 := Lib.hid (HK5.out.trans hk6 (by simp))
      have HP6 := Lib.hid hpl1
      have HX6b := Lib.hid (HXR.out.kept0 hk6)
      clear hpl1 hk6 HC HXR HK5
      unfold planV
      have hkA : Kept [] w6 (w6.alloc (.cells #[.slice a1 T.length c1, .slice b1 P.length d1] 32)) := (Kept.refl _ _).alloc _
      have hA := Arr.new w6 [.slice a1 T.length c1, .slice b1 P.length d1] 32
      have HP7 := Lib.hid (HP6.out.kept hkA)
      have HK7 := Lib.hid (HK6.out.trans hkA (by simp))
      have HXR := Lib.hid (HX6b.out.kept0 hkA)
      have HA7 := Lib.hid hA
      obtain ⟨g1, hg1⟩ : ∃ g, w6.heap.size = g := ⟨_, rfl⟩
      obtain ⟨W7, hW7⟩ : ∃ W, w6.alloc (.cells #[.slice a1 T.length c1, .slice b1 P.length d1] 32) = W := ⟨_, rfl⟩
      rw [hW7] at HP7 HK7 HA7 HXR
      rw [hg1] at HA7
      have HW := Lib.hid hW7
      have HG1 := Lib.hid hg1
      have HX3 := Lib.hid (fun (W : World) (hW : Kept [] W7 W) => show Calls Try.prog 16 #[.agg #[.slice a1 T.length c1, .slice b1 P.length d1]] W (BitsPost (D1, ((S : Nat) : Int), 0) W) by
        rw [← HSH.out]; exact gshow_good a1 b1 c1 d1 T P W (HP7.out.kept hW) HMY.out)
      have HX4 := Lib.hid (fun (W : World) (hW : Kept [] W7 W) => show Calls Try.prog 22 #[.agg #[.slice a1 T.length c1, .slice b1 P.length d1], .slice a5 own.length cap5] W (BitsPost2 (D2, ((M : Nat) : Int), 0) W) by
        rw [← HPU.out]; exact gput_any a1 b1 a5 c1 d1 cap5 T P own W (HP7.out.kept hW) (HXR.out.kept0 hW) (by omega))
      have e1 := HA7.out.cell (i := 0) (u := .slice a1 T.length c1) rfl
      have e2 := HA7.out.cell (i := 1) (u := .slice b1 P.length d1) rfl
      have M3 := HX3.out W7 (Kept.refl _ _)
      clear hkA hA hW7 hg1 HP6 HK6 HSH HPU HX6b HX3 HMY
      go_wp2_with fail
      rw [HW.out, HG1.out]
      refine M3.mono ?_
      rintro e w8 ⟨rfl, hk8⟩
      unfold bitsV
      have HK8 := Lib.hid hk8
      have hkC : Kept [] w8 (w8.alloc (.cells #[.string ⟨D1.toArray⟩, .int .i64 (S : Nat)] 35)) := (Kept.refl _ _).alloc _
      have HC9 := Lib.hid (Arr.new w8 [.string ⟨D1.toArray⟩, .int .i64 (S : Nat)] 35)
      have HK9 := Lib.hid (HK8.out.trans hkC (by simp))
      have hA9 := HA7.out.kept HK9.out (by simp)
      have x1 := (HA7.out.kept HK8.out (by simp)).lt
      clear e1 e2
      have e1 := hA9.cell (i := 0) (u := .slice a1 T.length c1) rfl
      have e2 := hA9.cell (i := 1) (u := .slice b1 P.length d1) rfl
      have M4 := HX4.out _ HK9.out
      clear hk8 hkC hA9 HX4
      go_wp2_with fail
      clear e1 e2
      refine M4.mono ?_
      rintro e w10 ⟨rfl, hk10⟩
      unfold bitsV
      have HK10 := Lib.hid (show Kept [] W7 w10 from HK9.out.trans hk10 (by simp))
      have hC10 := HC9.out.kept hk10 (by simp)
      have hkD : Kept [] w10 (w10.alloc (.cells #[.string ⟨D2.toArray⟩, .int .i64 (M : Nat)] 35)) := (Kept.refl _ _).alloc _
      have HD11 := Lib.hid (Arr.new w10 [.string ⟨D2.toArray⟩, .int .i64 (M : Nat)] 35)
      have HK11 := Lib.hid (HK10.out.trans hkD (by simp))
      have HC11 := Lib.hid (hC10.kept hkD (by simp))
      have x2 := hC10.lt
      have x3 := (HA7.out.kept HK10.out (by simp)).lt
      have e3 := HC11.out.cell (i := 0) (u := .string ⟨D1.toArray⟩) rfl
      clear hk10 hC10 hkD x1 HK8 HC9 HK9 HW HG1 M4
      go_wp2_with fail
      clear e3
      refine (HX5.out _).mono ?_
      rintro e w12 ⟨a2, c2, b2, d2, rfl, hpl2, hk12⟩
      have HK12 := Lib.hid (HK11.out.trans hk12 (by simp))
      have hkE : Kept [] w12 (w12.alloc (.cells #[.slice a2 T.length c2, .slice b2 P.length d2] 32)) := (Kept.refl _ _).alloc _
      have HE13 := Lib.hid (Arr.new w12 [.slice a2 T.length c2, .slice b2 P.length d2] 32)
      have HK13 := Lib.hid (HK12.out.trans hkE (by simp))
      have HQ13 := Lib.hid (hpl2.kept hkE)
      have HD12 := Lib.hid (HD11.out.kept hk12 (by simp))
      have HC12 := Lib.hid (HC11.out.kept hk12 (by simp))
      have y1 := (HA7.out.kept HK12.out (by simp)).lt
      have y2 := HC12.out.lt
      have y3 := HD12.out.lt
      have HD13 := Lib.hid (HD12.out.kept hkE (by simp))
      have HC13 := Lib.hid (HC12.out.kept hkE (by simp))
      have e1 := (HA7.out.kept HK13.out (by simp)).cell (i := 0) (u := .slice a1 T.length c1) rfl
      have e2 := (HA7.out.kept HK13.out (by simp)).cell (i := 1) (u := .slice b1 P.length d1) rfl
      have e4 := HD13.out.cell (i := 0) (u := .string ⟨D2.toArray⟩) rfl
      have M6 := HX6.out a1 b1 c1 d1 _ (HP7.out.kept HK13.out)
      clear hpl2 hk12 hkE HX5 HX6
      go_wp2_with fail
      clear e1 e2 e4
      refine M6.mono ?_
      rintro e w14 ⟨b3, c3, rfl, hsl, hk14⟩
      have HK14 := Lib.hid (HK13.out.trans hk14 (by simp))
      have HSL := Lib.hid hsl
      have HQ14 := Lib.hid (HQ13.out.kept hk14)
      have HE14 := Lib.hid (HE13.out.kept hk14 (by simp))
      have HD14 := Lib.hid (HD13.out.kept hk14 (by simp))
      have HC14 := Lib.hid (HC13.out.kept hk14 (by simp))
      have e1 := (HA7.out.kept HK14.out (by simp)).cell (i := 0) (u := .slice a1 T.length c1) rfl
      have e2 := (HA7.out.kept HK14.out (by simp)).cell (i := 1) (u := .slice b1 P.length d1) rfl
      have e5 := HE14.out.cell (i := 0) (u := .slice a2 T.length c2) rfl
      have e6 := HE14.out.cell (i := 1) (u := .slice b2 P.length d2) rfl
      have M7 := same_any a1 b1 c1 d1 T P a2 b2 c2 d2 T P w14 (HP7.out.kept HK14.out) HQ14.out
      rw [sameP_self] at M7
      unfold planV at M7
      clear hsl hk14 M6
      go_wp2_with fail
      clear e1 e2 e5 e6
      refine M7.mono ?_
      rintro e w15 ⟨rfl, hk15⟩
      have HK15 := Lib.hid (HK14.out.trans hk15 (by simp))
      have HD15 := Lib.hid (HD14.out.kept hk15 (by simp))
      have e7 := (HC14.out.kept hk15 (by simp)).cell (i := 1) (u := .int .i64 (S : Nat)) rfl
      have M8 := ints_ok b3 a5 c3 cap5 own own w15 (HSL.out.kept0 hk15) (HXR.out.kept0 HK15.out) (by omega)
      clear hk15 M7
      go_wp2_with fail
      clear e7
      refine M8.mono ?_
      rintro e w16 ⟨rfl, hk16⟩
      have HK16 := Lib.hid (HK15.out.trans hk16 (by simp))
      have e8 := (HD15.out.kept hk16 (by simp)).cell (i := 1) (u := .int .i64 (M : Nat)) rfl
      clear hk16 M8
      rw [show decide True = true from rfl]
      go_wp2_with ((go_at_call 14; refine (awakeG _).mono ?_; rintro e w' ⟨rfl, hk⟩))
      go_ret
      exact ⟨rfl, HK7.out.trans (HK16.out.trans hk (by simp)) (by simp)⟩
end Go.Proofs.Ytdaenajhgbagdaa
