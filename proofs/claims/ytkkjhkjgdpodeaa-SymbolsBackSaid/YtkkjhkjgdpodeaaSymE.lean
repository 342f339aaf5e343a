/-
  The walks of the references of layer 6: place, Of, May, turned, Front, Back.
-/
import Derived.Test.YtkkjhkjgdpodeaaSymB
import Derived.BigQuiet
namespace Go.Proofs.Ytkkjhkjgdpodeaa
open Go.RowKit
set_option linter.unusedVariables false
set_option linter.unusedSimpArgs false

/-- In place's loop: p bytes are passed. -/
def RPlI (s : ByteArray) (b : UInt8) (w0 : World) (k : Nat) (c : Value) (w : World) : Prop :=
  ∃ p, p ≤ s.size ∧ k = s.size - p ∧ c = .int .i64 (p : Nat) ∧ (∀ j, j < p → s.data.toList.getD j 0 ≠ b) ∧ w0 = w
theorem rplace_any (s : ByteArray) (x : Int) (b : UInt8) (hx : x = (b.toNat : Int)) (w : World) (hs : s.size ≤ 140737488351232) :
    Calls Try.prog 23 #[.string s, .int .u8 x] w fun e w' => e = .returned (.int .i64 (s.data.toList.idxOf b : Nat)) ∧ w = w' := by
  subst hx
  go_enter Try.func23, Try.ntmps23
  go_wp2_with fail
  go_loopg [5] s.size (fun k c wr => RPlI s b w k c wr)
  case atStart => exact ⟨0, by omega, by omega, rfl, fun j hj => by omega, rfl⟩
  case round =>
    obtain ⟨p, hp, hk, rfl, hno, rfl⟩ := hrel
    have Hk := Lib.hid hk
    have HNO := Lib.hid hno
    clear hk hno
    by_cases hlt : p < s.size
    · have hli : (p : Int) < (s.size : Int) := by omega
      have hget := byte_get s p hlt
      by_cases heq : s[p]'hlt = b
      · have hidx := idx_at s.data.toList b p (by rw [byte_len]; exact hlt) HNO.out (by rw [hget]; exact heq)
        have g1 : ((((s[p]'hlt).toNat : Nat) : Int) == ((b.toNat : Nat) : Int)) = true := by rw [heq]; simp
        have HIDX := Lib.hid hidx
        clear hget heq hidx
        go_wp2_with fail
        go_ret
        exact ⟨by rw [HIDX.out]; rfl, rfl⟩
      · have g1 : ((((s[p]'hlt).toNat : Nat) : Int) == ((b.toNat : Nat) : Int)) = false := by
          rw [beq_eq_false_iff_ne]
          intro h
          exact heq (UInt8.toNat_inj.1 (by omega))
        have HNE := Lib.hid (show s.data.toList.getD p 0 ≠ b by rw [hget]; exact heq)
        clear hget heq
        go_wp2_with fail
        go_roundg (s.size - (p + 1))
        case measure => have := Hk.out; omega
        case rel =>
          refine ⟨p + 1, by omega, rfl, by go_num, fun j hj => ?_, rfl⟩
          rcases Nat.lt_or_ge j p with h | h
          · exact HNO.out j h
          · obtain rfl : j = p := by omega
            exact HNE.out
    · obtain rfl : p = s.size := by omega
      have hidx := idx_none s.data.toList b (fun j hj => HNO.out j (by rw [byte_len] at hj; exact hj))
      rw [byte_len] at hidx
      have HIDX := Lib.hid hidx
      clear hidx
      go_wp2_with fail
      go_ret
      exact ⟨by rw [HIDX.out]; rfl, rfl⟩

theorem ba_ext (a b : ByteArray) (h : a.data.toList = b.data.toList) : a = b := by
  cases a; cases b; simp at h; simp [h]
theorem ba_append (a b : ByteArray) : (a ++ b).data.toList = a.data.toList ++ b.data.toList := by simp
theorem ba_size_append (a b : ByteArray) : (a ++ b).size = a.size + b.size := by simp
theorem ba_of (l : List UInt8) (a : ByteArray) (h : a.data.toList = l) : a = ⟨l.toArray⟩ := ba_ext _ _ (by simpa using h)

/-- 'string([]byte{x})'. -/
theorem byte_text (W : World) (b : UInt8) : (convert 51 9 (.slice (some ⟨W.heap.size, 0, none⟩) 1 1)).run Try.prog (W.alloc (.cells #[.int .u8 (b.toNat : Int)] 5)) = .ok (.string ⟨#[b]⟩) (W.alloc (.cells #[.int .u8 (b.toNat : Int)] 5)) := by
  have h : Row (W.alloc (.cells #[.int .u8 (b.toNat : Int)] 5)) 5 (.slice (some ⟨W.heap.size, 0, none⟩) 1 1) (u8s [b]) :=
    ⟨by simp [u8s], .inr ⟨W.heap.size, 1, _, rfl, Nat.zero_le _, heap_alloc_new W _, Nat.le_refl _, by simp [maxLen], by simp, by simp [u8s]⟩⟩
  exact Row.text h

/-- In Of's loop: n bytes are asked. -/
def ROfI (s : ByteArray) (w0 : World) (k : Nat) (v c : Value) (w : World) : Prop :=
  ∃ n O, n ≤ 256 ∧ k = 256 - n ∧ c = .int .i64 (n : Nat) ∧ v = .string O ∧ O.data.toList = K.usesTo s.data.toList n ∧ Kept [] w0 w
theorem rof_any (s : ByteArray) (w : World) (hs : s.size ≤ 140737488351232) :
    Calls Try.prog 11 #[.string s] w fun e w' => e = .returned (.string ⟨(K.uses s.data.toList).toArray⟩) ∧ Kept [] w w' := by
  go_enter Try.func11, Try.ntmps11
  go_wp2_with fail
  go_loopg [3, 4] 256 (fun k v c wr => ROfI s w k v c wr)
  case atStart => exact ⟨0, ⟨#[]⟩, by omega, by omega, rfl, rfl, rfl, Kept.refl _ _⟩
  case round =>
    obtain ⟨n, O, hn, hk, rfl, rfl, hO, hkept⟩ := hrel
    have Hk := Lib.hid hk
    have HO := Lib.hid hO
    have HKE := Lib.hid hkept
    clear hk hO hkept
    by_cases hlt : n < 256
    · have hli : (n : Int) < 256 := by omega
      have hwn : IntKind.u8.wrap (n : Int) = (n : Int) := by rw [IntKind.wrap_u8]; omega
      have hbn : (UInt8.ofNat n).toNat = n := by rw [UInt8.toNat_ofNat']; omega
      have HBN := Lib.hid hbn
      have hul := K.usesTo_length s.data.toList n
      rw [← HO.out, byte_len] at hul
      clear hbn
      go_wp2_with fail
      refine (rplace_any s _ (UInt8.ofNat n) (by rw [HBN.out]) _ hs).mono ?_
      rintro e w' ⟨rfl, rfl⟩
      by_cases hin : UInt8.ofNat n ∈ s.data.toList
      · have hyes := K.usesTo_yes s.data.toList n hin
        have hix := List.idxOf_lt_length_of_mem hin
        rw [byte_len] at hix
        have hct := byte_text wr (UInt8.ofNat n)
        rw [HBN.out] at hct
        have HY := Lib.hid hyes
        clear hin hyes
        generalize s.data.toList.idxOf (UInt8.ofNat n) = ix at hix ⊢
        have hixi : (ix : Int) < (s.size : Int) := by omega
        go_wp2_with fail
        go_roundg (256 - (n + 1))
        case measure => have := Hk.out; omega
        case rel => exact ⟨n + 1, _, by omega, rfl, by go_num, rfl, by rw [ba_append, HO.out, HY.out], HKE.out.alloc _⟩
      · have hno := K.usesTo_no s.data.toList n hin
        have hix : s.data.toList.idxOf (UInt8.ofNat n) = s.size := by rw [← byte_len]; exact List.idxOf_eq_length hin
        have HN := Lib.hid hno
        rw [hix]
        clear hin hno hix
        go_wp2_with fail
        go_roundg (256 - (n + 1))
        case measure => have := Hk.out; omega
        case rel => exact ⟨n + 1, O, by omega, rfl, by go_num, rfl, by rw [HO.out, HN.out], HKE.out⟩
    · obtain rfl : n = 256 := by omega
      have hOO := ba_of _ _ HO.out
      have HOO := Lib.hid hOO
      clear hOO
      go_wp2_with fail
      go_ret
      exact ⟨by rw [HOO.out]; rfl, HKE.out⟩

theorem rmay_any (s : ByteArray) (w : World) (hs : s.size ≤ 140737488351232) :
    Calls Try.prog 26 #[.string s] w fun e w' => e = .returned (.bool (K.mayS s.data.toList)) ∧ Kept [] w w' := by
  by_cases h0 : s.data.toList = []
  · have hR : K.mayS s.data.toList = false := by rw [h0]; rfl
    have g1 : s.toList = [] := by rw [ByteArray.toList_eq]; exact h0
    have g2 : s.toList.isEmpty = true := by rw [g1]; rfl
    have HR := Lib.hid hR
    clear hR h0
    go_enter Try.func26, Try.ntmps26
    go_wp2_with fail
    go_ret
    exact ⟨by rw [HR.out]; rfl, Kept.refl _ _⟩
  · have hR : K.mayS s.data.toList = (K.uses s.data.toList == s.toList) := by
      unfold K.mayS
      rw [ByteArray.toList_eq, decide_eq_true h0, Bool.true_and]
      rw [Bool.eq_iff_iff]; simp
    have g1 : ¬ s.toList = [] := by rw [ByteArray.toList_eq]; exact h0
    have g2 : s.toList.isEmpty = false := by simpa using g1
    have HR := Lib.hid hR
    clear hR h0
    go_enter Try.func26, Try.ntmps26
    go_wp2_with fail
    refine (rof_any s _ hs).mono ?_
    rintro e w1 ⟨rfl, hk1⟩
    have HK1 := Lib.hid hk1
    clear hk1
    go_wp2_with fail
    go_ret
    exact ⟨by rw [HR.out]; rfl, HK1.out⟩

theorem ext_data (s : ByteArray) (a b : Nat) : (s.extract a b).data.toList = (s.data.toList.drop a).take (b - a) := by
  simp [ByteArray.extract, ByteArray.copySlice, List.extract_eq_take_drop]
/-- What a function leaves that answers one text. -/
def OneText (l : List UInt8) (w : World) (e : Ending) (w' : World) : Prop := ∃ T : ByteArray, e = .returned (.string T) ∧ T.data.toList = l ∧ Kept [] w w'
theorem rturned_any (s : ByteArray) (p : Nat) (w : World) (hp : p < s.size) (hs : s.size ≤ 1000000000) :
    Calls Try.prog 27 #[.string s, .int .i64 p] w (OneText (K.turned s.data.toList p) w) := by
  have hw1 : IntKind.i64.wrap ((p : Int) + 1) = (p : Int) + 1 := IntWalk.i64_in _ (by omega)
  have h0 : (0 : Int) ≤ (p : Int) := by omega
  have h1 : (p : Int) ≤ (s.size : Int) := by omega
  have h2 : (p : Int) + 1 ≤ (s.size : Int) := by omega
  have h3 : (0 : Int) ≤ (p : Int) + 1 := by omega
  have h4 : ((p : Int) + 1).toNat = p + 1 := by omega
  have h5 : (p : Int) ≤ (p : Int) + 1 := by omega
  go_enter Try.func27, Try.ntmps27
  go_wp2_with fail
  go_quiet (fail)
  go_wp2_with fail
  go_ret
  refine ⟨_, rfl, ?_, (Kept.refl _ _).drewN _⟩
  have hpl : p < s.data.toList.length := by rw [byte_len]; exact hp
  have hl := byte_len s
  rw [ba_append, ba_append, ext_data, ext_data, ext_data, K.turned_eq, List.getD, List.getElem?_eq_getElem hpl, Option.getD_some, ← hl]
  rw [List.drop_eq_getElem_cons hpl, show p + 1 - p = 1 by omega]
  simp only [List.take_succ_cons, List.take_zero, Nat.sub_zero, List.drop_zero, List.cons_append, List.nil_append, List.append_assoc]
  rw [List.take_of_length_le (l := s.data.toList.drop (p + 1)) (by rw [List.length_drop]; omega)]

/-- In Front's loop: i bytes are told. -/
def RFrI (s : ByteArray) (l0 : List UInt8) (w0 : World) (k : Nat) (v t c : Value) (w : World) : Prop :=
  ∃ i L out, i ≤ s.size ∧ k = s.size - i ∧ c = .int .i64 (i : Nat) ∧ t = .string L ∧ L.size = l0.length ∧ Row w 3 v (natVals out) ∧ out.length = i ∧
    K.front l0 s.data.toList = (K.front L.data.toList (s.data.toList.drop i)).map (out ++ ·) ∧ Kept [] w0 w ∧ Fresh w0.heap.size (foot v)
set_option maxHeartbeats 1000000 in
theorem rfront_any (s t : ByteArray) (w : World) (hs : s.size ≤ 1000000) (ht : t.size ≤ 1000000000) :
    Calls Try.prog 14 #[.string s, .string t] w (NatsPost (K.frontR s.data.toList t.data.toList) w) := by
  go_enter Try.func14, Try.ntmps14
  go_wp2_with fail
  refine (rmay_any t _ (by omega)).mono ?_
  rintro e w1 ⟨rfl, hk1⟩
  have HK1 := Lib.hid hk1
  clear hk1
  rcases Bool.eq_false_or_eq_true (K.mayS t.data.toList) with hm | hm
  · have hR : K.frontR s.data.toList t.data.toList = match K.front t.data.toList s.data.toList with | none => ([], 60) | some l => (l, 0) := by unfold K.frontR; rw [hm]; rfl
    have HR := Lib.hid hR
    rw [hm]
    clear hR hm
    go_wp2_with fail
    go_loopg [6, 7, 8] s.size (fun k v u c wr => RFrI s t.data.toList w k v u c wr)
    case atStart => exact ⟨0, t, [], by omega, by omega, rfl, rfl, (byte_len t).symm, Row.nil _ _, rfl, by simp, HK1.out, by simp [Fresh, foot, Value.ownBlock]⟩
    case round =>
      obtain ⟨i, L, out, hi, hk, rfl, rfl, hL, hrow, hol, hfront, hkept, hfr⟩ := hrel
      have Hk := Lib.hid hk
      have HF := Lib.hid hfront
      have HL := Lib.hid hL
      have HOL := Lib.hid hol
      have HROW := Lib.hid hrow
      have HKE := Lib.hid hkept
      have HFR := Lib.hid hfr
      have hLs : L.size ≤ 1000000000 := by rw [byte_len] at hL; omega
      clear hk hfront hL hol hrow hkept hfr
      by_cases hlt : i < s.size
      · have hli : (i : Int) < (s.size : Int) := by omega
        have hdr : s.data.toList.drop i = s[i] :: s.data.toList.drop (i + 1) := by
          have h1 : i < s.data.toList.length := by rw [byte_len]; exact hlt
          exact List.drop_eq_getElem_cons h1
        have HDR := Lib.hid hdr
        clear hdr
        go_wp2_with fail
        refine (rplace_any L _ (s[i]'hlt) rfl _ (by omega)).mono ?_
        rintro e w' ⟨rfl, rfl⟩
        obtain ⟨p, hp⟩ : ∃ p, L.data.toList.idxOf (s[i]'hlt) = p := ⟨_, rfl⟩
        rw [hp]
        have hple : p ≤ L.size := by rw [← hp, ← byte_len]; exact List.idxOf_le_length
        have HP := Lib.hid hp
        clear hp
        by_cases hpe : p = L.size
        · have hnone : K.frontR s.data.toList t.data.toList = ([], 60) := by
            rw [HR.out, HF.out, HDR.out, K.front_none _ _ _ (by rw [HP.out, byte_len]; exact hpe)]; rfl
          have HNN := Lib.hid hnone
          subst hpe
          clear hnone
          go_wp2_with fail
          go_ret2
          rw [HNN.out]
          exact NatsPost.err (by rfl) HKE.out
        · have hpl : p < L.size := by omega
          have hpi : ¬ (p : Int) = (L.size : Int) := by omega
          clear hpe
          go_wp2_with fail
          refine (rturned_any L p _ hpl (by omega)).mono ?_
          rintro e w3 ⟨T, rfl, hT, hk3⟩
          have HT := Lib.hid hT
          have hrow3 := HROW.out.kept hk3 (by simp)
          have HK3 := Lib.hid (HKE.out.new hk3 (by simp [Fresh]))
          have L1 : (natVals out).length + 1 ≤ maxLen := by rw [natVals_length, HOL.out]; simp only [maxLen]; omega
          have L2 : ((natVals out).length + 1) * 8 ≤ 140737488355328 := by rw [natVals_length, HOL.out]; omega
          clear hT hk3
          go_wp2_with ((at_builtin; refine wp_appL _ rfl _ _ 25 rfl 3 (.int .i64 0) 8 Try.underlying25 Try.infoInt rfl _ _ [.int .i64 (p : Int)] 1 rfl rfl rfl rfl (by simp [Value.oneCell']) hrow3 L1 L2 ?_; intro a5 cap5 w5 hrow5 hk5 hg5))
          go_roundg (s.size - (i + 1))
          case measure => have := Hk.out; omega
          case rel =>
            have hpl2 : p < L.data.toList.length := by rw [byte_len]; exact hpl
            refine ⟨i + 1, T, out ++ [p], by omega, rfl, by go_num, rfl, ?_, ?_, by simp [HOL.out], ?_, HK3.out.new hk5 HFR.out, HFR.out.grow hg5 HK3.out.size⟩
            · rw [← byte_len, HT.out, K.turned_length _ _ hpl2, byte_len, HL.out]
            · rw [natVals_append]; exact hrow5
            · rw [HF.out, HDR.out, K.front_cons _ _ _ (by rw [HP.out]; exact hpl2), HP.out, K.map_map_cons, HT.out]
      · obtain rfl : i = s.size := by omega
        have hd : s.data.toList.drop s.size = [] := List.drop_of_length_le (by rw [byte_len]; exact Nat.le_refl _)
        have hsome : K.frontR s.data.toList t.data.toList = (out, 0) := by
          rw [HR.out, HF.out, hd]; simp [K.front]
        have HSM := Lib.hid hsome
        obtain ⟨av, cv, hv, -, -, -, -⟩ := HROW.out.sees
        rw [natVals_length] at hv
        subst hv
        clear hd hsome
        go_wp2_with fail
        go_ret2
        rw [HSM.out]
        exact NatsPost.ok (by rfl) HROW.out HKE.out HFR.out
  · have hR : K.frontR s.data.toList t.data.toList = ([], 2) := by unfold K.frontR; rw [hm]; rfl
    have HR := Lib.hid hR
    rw [hm]
    clear hR hm
    go_wp2_with fail
    go_ret2
    rw [HR.out]
    exact NatsPost.err (by rfl) HK1.out

/-- In Back's loop: i places are read. -/
def RBkI (xs : List Int) (l0 : List UInt8) (w0 : World) (k : Nat) (v t c : Value) (w : World) : Prop :=
  ∃ i L out, i ≤ xs.length ∧ k = xs.length - i ∧ c = .int .i64 (i : Nat) ∧ t = .string L ∧ L.size = l0.length ∧ Row w 5 v (u8s out) ∧ out.length = i ∧
    K.back l0 xs = (K.back L.data.toList (xs.drop i)).map (out ++ ·) ∧ Kept [] w0 w ∧ Fresh w0.heap.size (foot v)
set_option maxHeartbeats 1000000 in
theorem rback_any (a : Option Addr) (cp : Nat) (xs : List Int) (t : ByteArray) (w : World) (h : Sees w 1 a xs.length (intVals xs)) (hs : xs.length ≤ 1000000) (ht : t.size ≤ 1000000000) :
    Calls Try.prog 19 #[.slice a xs.length cp, .string t] w (TextPost (K.backR xs t.data.toList) w) := by
  have HS := Lib.hid h
  clear h
  go_enter Try.func19, Try.ntmps19
  go_wp2_with fail
  refine (rmay_any t _ (by omega)).mono ?_
  rintro e w1 ⟨rfl, hk1⟩
  have HK1 := Lib.hid hk1
  clear hk1
  rcases Bool.eq_false_or_eq_true (K.mayS t.data.toList) with hm | hm
  · have hR : K.backR xs t.data.toList = match K.back t.data.toList xs with | none => ([], 60) | some l => (l, 0) := by unfold K.backR; rw [hm]; rfl
    have HR := Lib.hid hR
    rw [hm]
    clear hR hm
    go_wp2_with fail
    go_loopg [6, 7, 8] xs.length (fun k v u c wr => RBkI xs t.data.toList w k v u c wr)
    case atStart => exact ⟨0, t, [], by omega, by omega, rfl, rfl, (byte_len t).symm, Row.nil _ _, rfl, by simp, HK1.out, by simp [Fresh, foot, Value.ownBlock]⟩
    case round =>
      obtain ⟨i, L, out, hi, hk, rfl, rfl, hL, hrow, hol, hback, hkept, hfr⟩ := hrel
      have Hk := Lib.hid hk
      have HF := Lib.hid hback
      have HL := Lib.hid hL
      have HOL := Lib.hid hol
      have HROW := Lib.hid hrow
      have HKE := Lib.hid hkept
      have HFR := Lib.hid hfr
      have hLs : L.size ≤ 1000000000 := by rw [byte_len] at hL; omega
      clear hk hback hL hol hrow hkept hfr
      by_cases hlt : i < xs.length
      · have hli : (i : Int) < (xs.length : Int) := by omega
        obtain ⟨x, hx⟩ : ∃ x, xs[i]? = some x := ⟨_, List.getElem?_eq_getElem hlt⟩
        have hdr : xs.drop i = x :: xs.drop (i + 1) := by
          obtain ⟨h1, rfl⟩ := List.getElem?_eq_some_iff.1 hx
          exact List.drop_eq_getElem_cons h1
        have HDR := Lib.hid hdr
        obtain ⟨b0, off, rfl, -⟩ := HS.out.at (by rw [intVals_length]; omega)
        have c0 := (HS.out.kept0 HKE.out).int hx
        have HX := Lib.hid hx
        clear hdr hx
        by_cases hneg : x < 0
        · have hnone : K.backR xs t.data.toList = ([], 60) := by
            rw [HR.out, HF.out, HDR.out, K.back, if_pos (.inl hneg)]; rfl
          have HNN := Lib.hid hnone
          have g1 : decide (x < 0) = true := decide_eq_true hneg
          clear hnone
          go_wp2_with fail
          go_ret2
          rw [HNN.out]
          exact ⟨by rfl, HKE.out⟩
        · have g1 : decide (x < 0) = false := decide_eq_false hneg
          obtain ⟨p, rfl⟩ := Int.eq_ofNat_of_zero_le (show 0 ≤ x by omega)
          by_cases hge : L.size ≤ p
          · have hnone : K.backR xs t.data.toList = ([], 60) := by
              rw [HR.out, HF.out, HDR.out, K.back, if_pos (.inr (by rw [byte_len]; omega))]; rfl
            have HNN := Lib.hid hnone
            have hgi : (L.size : Int) ≤ (p : Int) := by omega
            clear hnone
            go_wp2_with fail
            go_ret2
            rw [HNN.out]
            exact ⟨by rfl, HKE.out⟩
          · have hgi : ¬ (L.size : Int) ≤ (p : Int) := by omega
            have hpl : p < L.size := by omega
            have hpli : (p : Int) < (L.size : Int) := by omega
            have L1 : (u8s out).length + 1 ≤ maxLen := by rw [u8s_length, HOL.out]; simp only [maxLen]; omega
            have L2 : ((u8s out).length + 1) * 1 ≤ 140737488355328 := by rw [u8s_length, HOL.out]; omega
            have hrow3 := HROW.out
            have hnb : b0 ∉ foot u6 := fun hm => by
              have h1 := HFR.out b0 hm
              have h2 := HS.out.lt (by rw [intVals_length]; omega) b0 (by simp [footA])
              omega
            have HNB := Lib.hid hnb
            clear hneg hnb
            go_wp2_with ((at_builtin; refine wp_appL _ rfl _ _ 51 rfl 5 (.int .u8 0) 1 Try.underlying51 Try.infoU8 rfl _ _ [.int .u8 ((L[p]'hpl).toNat : Int)] 1 rfl rfl rfl rfl (by simp [Value.oneCell']) hrow3 L1 L2 ?_; intro a5 cap5 w5 hrow5 hk5 hg5; have c5 := hk5.cellOf c0 HNB.out))
            refine (rturned_any L p _ hpl (by omega)).mono ?_
            rintro e w3 ⟨T, rfl, hT, hk3⟩
            have HT := Lib.hid hT
            have HK5 := Lib.hid (HKE.out.new hk5 HFR.out)
            have HROW5 := Lib.hid (hrow5.kept hk3 (by simp))
            have HK3 := Lib.hid (HK5.out.new hk3 (by simp [Fresh]))
            have HG5 := Lib.hid hg5
            clear hT hk3 hk5 hrow5 hg5 c5
            go_wp2_with fail
            go_roundg (xs.length - (i + 1))
            case measure => have := Hk.out; omega
            case rel =>
              have hpl2 : p < L.data.toList.length := by rw [byte_len]; exact hpl
              refine ⟨i + 1, T, out ++ [L[p]'hpl], by omega, rfl, by go_num, rfl, ?_, ?_, by simp [HOL.out], ?_, HK3.out, HFR.out.grow HG5.out HKE.out.size⟩
              · rw [← byte_len, HT.out, K.turned_length _ _ hpl2, byte_len, HL.out]
              · rw [show u8s (out ++ [L[p]'hpl]) = u8s out ++ [.int .u8 ((L[p]'hpl).toNat : Int)] by simp [u8s]]; exact HROW5.out
              · have hbp : K.back L.data.toList ((p : Int) :: xs.drop (i + 1)) = (K.back (K.turned L.data.toList p) (xs.drop (i + 1))).map ((L[p]'hpl) :: ·) := by
                  rw [K.back, if_neg (by omega), Int.toNat_natCast, show L.data.toList.getD p default = L[p]'hpl from byte_get L p hpl]
                rw [HF.out, HDR.out, hbp, K.map_map_cons, HT.out]
      · obtain rfl : i = xs.length := by omega
        have hd : xs.drop xs.length = [] := List.drop_of_length_le (Nat.le_refl _)
        have hsome : K.backR xs t.data.toList = (out, 0) := by
          rw [HR.out, HF.out, hd]; simp [K.back]
        have HSM := Lib.hid hsome
        have hct := Row.text HROW.out
        clear hd hsome
        go_wp2_with fail
        go_ret2
        rw [HSM.out]
        exact ⟨by rfl, HKE.out⟩
  · have hR : K.backR xs t.data.toList = ([], 2) := by unfold K.backR; rw [hm]; rfl
    have HR := Lib.hid hR
    rw [hm]
    clear hR hm
    go_wp2_with fail
    go_ret2
    rw [HR.out]
    exact ⟨by rfl, HK1.out⟩
end Go.Proofs.Ytkkjhkjgdpodeaa
