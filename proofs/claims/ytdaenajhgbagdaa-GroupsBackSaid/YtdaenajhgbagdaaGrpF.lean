/-
  The walk of groups.Show.
-/
import Derived.Test.YtdaenajhgbagdaaGrpX
import Derived.Test.YtdaenajhgbagdaaPlainG
import Derived.Test.YtdaenajhgbagdaaWriteA
import Derived.Test.YtdaenajhgbagdaaJoinA
import Derived.Test.YtdaenajhgbagdaaLenX
namespace Go.Proofs.Ytdaenajhgbagdaa
open Go.RowKit
set_option linter.unusedVariables false
set_option linter.unusedSimpArgs false

theorem Try.infoBits : (Try.prog.info? 35).map (fun i => (i.zero, i.size, i.bytes)) = some (some (.agg #[.string ⟨#[]⟩, .int .i64 0]), 2, 24) := by kernel_rfl
/-- The pieces that are joined, as they lie. -/
def planBA (T : List (List Int)) (P : List Int) (k : Nat) : List (ByteArray × Int) := (⟨(K.pack (K.headP T P)).toArray⟩, ((K.headP T P).length : Nat)) :: (T.take k).map fun t => (⟨(K.pack (K.showBits t)).toArray⟩, ((K.showBits t).length : Nat))
theorem planBA_plain (T : List (List Int)) (P : List Int) (k : Nat) : plainPs (planBA T P k) = K.planPs T P k := by
  simp [plainPs, planBA, K.planPs, Function.comp_def]
/-- What a function leaves that answers bits and an error. -/
def BitsPost (p : List UInt8 × Int × Nat) (w : World) (e : Ending) (w' : World) : Prop := e = .returned (bitsV p) ∧ Kept [] w w'
theorem gshow_bad (aT aP : Option Addr) (cT cP : Nat) (T : List (List Int)) (P : List Int) (w : World) (h : PlanAt w aT aP cT cP T P) (hno : K.mayPlan T P = false) :
    Calls Try.prog 16 #[planV aT T.length cT aP P.length cP] w (BitsPost (K.showPR T P) w) := by
  have HR := Lib.hid (show K.showPR T P = ([], 0, 110) by unfold K.showPR; rw [hno]; rfl)
  have hk : Kept [] w ((w.alloc (.cells #[.slice aT T.length cT, .slice aP P.length cP] 32)).alloc (.cells #[.string ⟨#[]⟩, .int .i64 0] 35)) := ((Kept.refl [] w).alloc _).alloc _
  have hA : Arr ((w.alloc (.cells #[.slice aT T.length cT, .slice aP P.length cP] 32)).alloc (.cells #[.string ⟨#[]⟩, .int .i64 0] 35)) w.heap.size 32 [.slice aT T.length cT, .slice aP P.length cP] :=
    (Arr.new w [.slice aT T.length cT, .slice aP P.length cP] 32).kept ((Kept.refl [] _).alloc _) (by simp)
  have hB : Arr ((w.alloc (.cells #[.slice aT T.length cT, .slice aP P.length cP] 32)).alloc (.cells #[.string ⟨#[]⟩, .int .i64 0] 35)) (w.heap.size + 1) 35 [.string ⟨#[]⟩, .int .i64 0] := by
    have h := Arr.new (w.alloc (.cells #[.slice aT T.length cT, .slice aP P.length cP] 32)) [.string ⟨#[]⟩, .int .i64 0] 35
    rwa [show (w.alloc (.cells #[.slice aT T.length cT, .slice aP P.length cP] 32)).heap.size = w.heap.size + 1 by simp] at h
  have p1 := h.kept hk
  unfold planV
  generalize hW : (w.alloc (.cells #[.slice aT T.length cT, .slice aP P.length cP] 32)).alloc (.cells #[.string ⟨#[]⟩, .int .i64 0] 35) = W at hk hA hB p1
  have M := gmay_any aT aP cT cP T P W p1.tabs p1.picks p1.tl p1.pl p1.rl
  rw [hno] at M
  unfold planV at M
  subst hW
  have b0 := hA.cell (i := 0) (u := .slice aT T.length cT) rfl
  have b1 := hA.cell (i := 1) (u := .slice aP P.length cP) rfl
  have HK := Lib.hid hk
  have HB := Lib.hid hB
  clear hk hA hB p1 h hno
  go_enter Try.func16, Try.ntmps16
  go_wp2_with fail
  refine M.mono ?_
  rintro e w2 ⟨rfl, hk2⟩
  have hB2 := HB.out.kept hk2 (by simp)
  have r0 := hB2.cell (i := 0) (u := .string ⟨#[]⟩) rfl
  have r1 := hB2.cell (i := 1) (u := .int .i64 0) rfl
  have f0 := hB2.free 0
  have f1 := hB2.free 1
  have s0 := ((hB2.set 0 (.string ⟨#[]⟩)).set 1 (.int .i64 0)).cell (i := 0) (u := .string ⟨#[]⟩) rfl
  have s1 := ((hB2.set 0 (.string ⟨#[]⟩)).set 1 (.int .i64 0)).cell (i := 1) (u := .int .i64 0) rfl
  have HK2 := Lib.hid (HK.out.trans hk2 (by simp))
  clear hB2 hk2 HB M
  go_wp2_with fail
  refine bodyPost_ret (v := bitsV ([], 0, 110)) (by simp [results, Try.results16, go_sem, bitsV, s0, s1]) rfl ?_
  exact ⟨by rw [HR.out], (HK2.out.setCell (p := ⟨w.heap.size + 1, 0, none⟩) (.inr (by simp)) _).setCell (p := ⟨w.heap.size + 1, 1, none⟩) (.inr (by simp)) _⟩

/-- In Show's first loop: i picks are told. -/
def ShowA (w0 W : World) (T : List (List Int)) (P : List Int) (b gO cO : Nat) (k : Nat) (v : Value) (wr : World) : Prop :=
  ∃ (i : Nat) (B : List Bool) (o : Value) (ord : List Nat), k = P.length - i ∧ i ≤ P.length ∧ v = .int .i64 (i : Nat) ∧ B.length ≤ 100 + 7 * i ∧ Hid (Wr wr b o B) ∧ Hid (Blk wr gO (natVals ord)) ∧ Hid (ord.length = T.length ∧ ∀ x, x ∈ ord ↔ x < T.length) ∧
    Hid (K.headP T P = B ++ K.mtf ord ((K.natsOf P).drop i)) ∧ Hid (Apart (b :: foot o) [gO]) ∧ Hid (Kept [] W wr) ∧ Hid (Fresh W.heap.size (b :: foot o)) ∧ Hid (W.heap.size ≤ gO)
/-- In its inner loop: j places are passed. -/
def ShowB (W : World) (ord : List Nat) (B : List Bool) (b gO idx : Nat) (k : Nat) (v : Value) (wr : World) : Prop :=
  ∃ (j : Nat) (o : Value), k = idx - j ∧ j ≤ idx ∧ v = .int .i64 (j : Nat) ∧ Hid (Wr wr b o (B ++ List.replicate j true)) ∧ Hid (Blk wr gO (natVals ord)) ∧ Hid (Apart (b :: foot o) [gO]) ∧ Hid (Kept [] W wr) ∧ Hid (Fresh W.heap.size (b :: foot o))
/-- In its last loop: k tables are told beside the head. -/
def ShowC (W : World) (T : List (List Int)) (P : List Int) (m : Nat) (v9 v : Value) (wr : World) : Prop :=
  ∃ (k : Nat) (a : Option Addr) (c : Nat), m = T.length - k ∧ k ≤ T.length ∧ v9 = .slice a (k + 1) c ∧ v = .int .i64 (k : Nat) ∧ Hid (RowN wr 35 2 (.slice a (k + 1) c) (k + 1) (bitsVals (planBA T P k))) ∧ Hid (Kept [] W wr) ∧ Hid (Fresh W.heap.size (footA a))
theorem RowN.two (w : World) (u v : Value) (e : TypeId) : RowN (w.alloc (.cells #[u, v] e)) e 2 (.slice (some ⟨w.heap.size, 0, none⟩) 1 1) 1 [u, v] :=
  ⟨rfl, .inr ⟨w.heap.size, 1, #[u, v], rfl, Nat.zero_le _, heap_alloc_new w _, Nat.le_refl _, by simp [maxLen], rfl, rfl⟩⟩
set_option maxRecDepth 100000 in
set_option maxHeartbeats 2000000 in
theorem gshow_good (aT aP : Option Addr) (cT cP : Nat) (T : List (List Int)) (P : List Int) (w : World) (h : PlanAt w aT aP cT cP T P) (hyes : K.mayPlan T P = true) :
    Calls Try.prog 16 #[planV aT T.length cT aP P.length cP] w (BitsPost (K.showPR T P) w) := by
  have HR := Lib.hid (show K.showPR T P = (K.pack (K.planBits T P), (((K.planBits T P).length : Nat) : Int), 0) by unfold K.showPR; rw [hyes]; rfl)
  obtain ⟨hT, hP, hTab, hPick⟩ := K.mayPlan_get hyes
  have HTAB := Lib.hid hTab
  have HPICK := Lib.hid hPick
  have HHL := Lib.hid (K.headP_length hyes)
  have HTOT := Lib.hid (And.intro (K.planPs_total hyes) (K.planPs_small hyes))
  have hk : Kept [] w ((w.alloc (.cells #[.slice aT T.length cT, .slice aP P.length cP] 32)).alloc (.cells #[.string ⟨#[]⟩, .int .i64 0] 35)) := ((Kept.refl [] w).alloc _).alloc _
  have hA : Arr ((w.alloc (.cells #[.slice aT T.length cT, .slice aP P.length cP] 32)).alloc (.cells #[.string ⟨#[]⟩, .int .i64 0] 35)) w.heap.size 32 [.slice aT T.length cT, .slice aP P.length cP] :=
    (Arr.new w [.slice aT T.length cT, .slice aP P.length cP] 32).kept ((Kept.refl [] _).alloc _) (by simp)
  have hB : Arr ((w.alloc (.cells #[.slice aT T.length cT, .slice aP P.length cP] 32)).alloc (.cells #[.string ⟨#[]⟩, .int .i64 0] 35)) (w.heap.size + 1) 35 [.string ⟨#[]⟩, .int .i64 0] := by
    have h := Arr.new (w.alloc (.cells #[.slice aT T.length cT, .slice aP P.length cP] 32)) [.string ⟨#[]⟩, .int .i64 0] 35
    rwa [show (w.alloc (.cells #[.slice aT T.length cT, .slice aP P.length cP] 32)).heap.size = w.heap.size + 1 by simp] at h
  have p1 := h.kept hk
  unfold planV
  generalize hW : (w.alloc (.cells #[.slice aT T.length cT, .slice aP P.length cP] 32)).alloc (.cells #[.string ⟨#[]⟩, .int .i64 0] 35) = W at hk hA hB p1
  have M := gmay_any aT aP cT cP T P W p1.tabs p1.picks p1.tl p1.pl p1.rl
  rw [hyes] at M
  unfold planV at M
  subst hW
  have b0 := hA.cell (i := 0) (u := .slice aT T.length cT) rfl
  have b1 := hA.cell (i := 1) (u := .slice aP P.length cP) rfl
  have HA := Lib.hid hA
  have HK := Lib.hid hk
  have HB := Lib.hid hB
  have HPL := Lib.hid p1
  clear hk hA hB p1 h hyes hTab hPick
  go_enter Try.func16, Try.ntmps16
  go_wp2_with fail
  refine M.mono ?_
  rintro e w2 ⟨rfl, hk2⟩
  have HK2 := Lib.hid (HK.out.trans hk2 (by simp))
  have HA2 := Lib.hid (HA.out.kept hk2 (by simp))
  have HB2 := Lib.hid (HB.out.kept hk2 (by simp))
  have HPL2 := Lib.hid (HPL.out.kept hk2)
  clear hk2 M b0 b1 HA HB HK HPL
  go_wp2_with fail
  refine (newWriter_new _).mono ?_
  rintro e w3 ⟨b, rfl, hw3, hk3, hf3⟩
  have HK3 := Lib.hid hk3
  have HF3 := Lib.hid hf3
  have c0 := (HA2.out.kept hk3 (by simp)).cell (i := 0) (u := .slice aT T.length cT) rfl
  have P1 := put_put b (T.length : Int) 3 (.slice none 0 0) [] w3 (by omega) (by omega) (by omega) (by simp; omega) (by simp) hw3
  have HP1 := Lib.hid P1
  clear hk3 hf3 hw3 P1
  go_wp2_with fail
  refine HP1.out.mono ?_
  rintro e w4 ⟨rfl, o4, hw4, hk4, hg4⟩
  have HK4 := Lib.hid (HK3.out.new hk4 HF3.out)
  have HF4 := Lib.hid (HF3.out.grow hg4 HK3.out.size)
  have c1 := (HA2.out.kept HK4.out (by simp)).cell (i := 1) (u := .slice aP P.length cP) rfl
  have P2 := put_put b (P.length : Int) 15 o4 _ w4 (by omega) (by omega) (by omega) (by simp; omega) (by simp [K.low_length]) hw4
  have HP2 := Lib.hid P2
  clear hk4 hg4 hw4 P2 HP1 c0
  go_wp2_with fail
  refine HP2.out.mono ?_
  rintro e w5 ⟨rfl, o5, hw5, hk5, hg5⟩
  have HK5 := Lib.hid (HK4.out.new hk5 HF4.out)
  have HF5 := Lib.hid (HF4.out.grow hg5 HK4.out.size)
  have HW5 := Lib.hid hw5
  have c0 := (HA2.out.kept HK5.out (by simp)).cell (i := 0) (u := .slice aT T.length cT) rfl
  clear hk5 hg5 hw5 HP2 c1
  go_wp2_with fail
  refine (gorder_any T.length w5 (by omega)).mono ?_
  rintro e w6 ⟨gO, rfl, hrow6, hk6, hgO⟩
  have HK6 := Lib.hid (HK5.out.trans hk6 (by simp))
  have HW6 := Lib.hid (HW5.out.kept hk6 (by simp [Apart]))
  have HB6 := Lib.hid hrow6.blk
  have HAP := Lib.hid (show Apart (b :: foot o5) [gO] by
    intro x hx hm
    simp only [List.mem_singleton] at hm
    have := HW5.out.lt x hx
    omega)
  have HGO := Lib.hid (show w2.heap.size ≤ gO by have := HK5.out.size; omega)
  have c1 := (HA2.out.kept HK6.out (by simp)).cell (i := 1) (u := .slice aP P.length cP) rfl
  clear hk6 hrow6 hgO HW5 HK5 HK4 HK3 HF3 HF4 c0
  go_wp2_with fail
  rw [show ([] : List Bool) ++ K.low (Int.toNat (T.length : Int)) (Int.toNat 3) ++ K.low (Int.toNat (P.length : Int)) (Int.toNat 15) = K.low T.length 3 ++ K.low P.length 15 from rfl] at HW6
  go_loopg [38] P.length (fun k v wr => ShowA w w2 T P b gO T.length k v wr)
  case atStart => exact ⟨0, _, o5, List.range T.length, by omega, by omega, rfl, by simp [K.low_length], HW6, HB6, Lib.hid ⟨by simp, fun x => by simp⟩, Lib.hid (by unfold K.headP; rw [List.drop_zero, List.append_assoc]), HAP, HK6, HF5, HGO⟩
  case round =>
    clear HW6 HB6 HAP HK6 HF5 HGO c1
    obtain ⟨i, B, o, ord, hk, hi, rfl, hBl, HW, HBO, HO, HE, HAP, HK, HF, HGO⟩ := hrel
    have Hk := Lib.hid hk
    clear hk
    by_cases hlt : i < P.length
    · have hli : (i : Int) < (P.length : Int) := by omega
      obtain ⟨x, hx⟩ : ∃ x, P[i]? = some x := ⟨_, List.getElem?_eq_getElem hlt⟩
      obtain ⟨hx0, hxT⟩ := HPICK.out x (List.mem_of_getElem? hx)
      obtain ⟨x, rfl⟩ := Int.eq_ofNat_of_zero_le hx0
      obtain ⟨bP, oP, rfl, -⟩ := (HPL2.out.kept HK.out).picks.at (by rw [intVals_length]; omega)
      have c0 := (HPL2.out.kept HK.out).picks.int hx
      have HX := Lib.hid hx
      clear hx
      obtain ⟨wq, rfl⟩ : ∃ wo : World, wo = wr := ⟨_, rfl⟩
      go_wp2_with fail
      have hxm : x ∈ ord := (HO.out.2 x).2 (by omega)
      obtain ⟨idx, hidx⟩ : ∃ idx, ord.idxOf x = idx := ⟨_, rfl⟩
      have hil : idx < ord.length := by rw [← hidx]; exact List.idxOf_lt_length_iff.2 hxm
      have hat : ord[idx]? = some x := by rw [← hidx, List.getElem?_eq_getElem (List.idxOf_lt_length_iff.2 hxm), List.getElem_idxOf]
      have hbef : ∀ j, j < idx → ∀ y, ord[j]? = some y → y ≠ x := by
        intro j hj y hy he
        rw [← hidx] at hj
        exact K.before_idx x ord j y hj hy he
      have HIDX := Lib.hid hidx
      have HAT := Lib.hid hat
      have HBEF := Lib.hid hbef
      have hol : ord.length = T.length := HO.out.1
      clear hxm hidx hat hbef c0
      go_loopg [8] idx (fun k v wr => ShowB w2 ord B b gO idx k v wr)
      case atStart => exact ⟨0, o, by omega, by omega, rfl, by simpa using HW, HBO, HAP, HK, HF⟩
      case round =>
        clear HW HBO HAP HK HF
        obtain ⟨j, o, hk, hj, rfl, HW, HBO, HAP, HK, HF⟩ := hrel
        have Hkj := Lib.hid hk
        clear hk
        obtain ⟨y, hy⟩ : ∃ y, ord[j]? = some y := ⟨_, List.getElem?_eq_getElem (by omega)⟩
        have c0 := HBO.out.cell (nv_get hy)
        have hjT : (j : Int) < (T.length : Int) := by omega
        by_cases hjx : j < idx
        · have g1 : ((y : Int) != (x : Int)) = true := by
            have := HBEF.out j hjx y hy
            simp; omega
          have P1 := put_put b 1 1 o _ wr (by omega) (by omega) (by omega) (by decide) (by simp; omega) HW.out
          have HP1 := Lib.hid P1
          clear hy P1
          go_wp2_with fail
          refine HP1.out.mono ?_
          rintro e w8 ⟨rfl, o8, hw8, hk8, hg8⟩
          go_wp2_with fail
          go_roundg (idx - (j + 1))
          case measure => have := Hkj.out; omega
          case rel =>
            refine ⟨j + 1, o8, rfl, by omega, by simp, Lib.hid ?_, Lib.hid (HBO.out.kept hk8 (fun hm => HAP.out gO hm (by simp))), Lib.hid ?_, Lib.hid (HK.out.new hk8 HF.out), Lib.hid (HF.out.grow hg8 HK.out.size)⟩
            · rw [List.replicate_succ', ← List.append_assoc]
              exact hw8
            · intro y hy hm
              simp only [List.mem_singleton] at hm
              rcases hg8 y hy with h | h
              · exact HAP.out y h (by simp [hm])
              · have := HBO.out.lt
                omega
        · obtain rfl : j = idx := by omega
          have hyx : y = x := by
            have := HAT.out
            rw [hy] at this
            injection this
          have g1 : ((y : Int) != (x : Int)) = false := by rw [hyx]; simp
          have HYX := Lib.hid hyx
          have P1 := put_put b 0 1 o _ wr (by omega) (by omega) (by omega) (by decide) (by simp; omega) HW.out
          have HP1 := Lib.hid P1
          clear hy hyx P1
          go_wp2_with fail
          refine HP1.out.mono ?_
          rintro e w8 ⟨rfl, o8, hw8, hk8, hg8⟩
          have hB8 := HBO.out.kept hk8 (fun hm => HAP.out gO hm (by simp))
          have HK8 := Lib.hid (HK.out.new hk8 HF.out)
          have HF8 := Lib.hid (HF.out.grow hg8 HK.out.size)
          have HAP8 := Lib.hid (show Apart (b :: foot o8) [gO] by
            intro y hy hm
            simp only [List.mem_singleton] at hm
            rcases hg8 y hy with h | h
            · exact HAP.out y h (by simp [hm])
            · have := HBO.out.lt
              omega)
          have HW8 := Lib.hid hw8
          have MV := gmoved_ok gO T.length j ord w8 hil (by omega) (by omega) (by omega) hB8
          rw [hol] at MV
          have HMV := Lib.hid MV
          clear hk8 hg8 hw8 hB8 MV HP1
          go_wp2_with fail
          refine HMV.out.mono ?_
          rintro e w9 ⟨rfl, hB9, hk9⟩
          go_wp2_with fail
          go_roundg (P.length - (i + 1))
          case measure => have := Hk.out; omega
          case rel =>
            have hpi : (K.natsOf P)[i]? = some x := by rw [K.natsOf, List.getElem?_map, HX.out]; rfl
            have hdr : (K.natsOf P).drop i = x :: (K.natsOf P).drop (i + 1) := by
              obtain ⟨hl2, hv2⟩ := List.getElem?_eq_some_iff.1 hpi
              rw [List.drop_eq_getElem_cons hl2, hv2]
            have he := HE.out
            rw [hdr, K.mtf, HIDX.out] at he
            refine ⟨i + 1, (B ++ List.replicate j true) ++ [false], o8, K.turned ord j, by omega, by omega, by simp, by simp; omega, Lib.hid (HW8.out.kept hk9 HAP8.out), Lib.hid hB9, Lib.hid ⟨by rw [K.turned_length _ _ hil]; exact hol, fun z => by rw [K.turned_mem _ _ hil]; exact HO.out.2 z⟩, Lib.hid ?_, HAP8, Lib.hid (HK8.out.trans hk9 (by intro z hz; simp at hz; subst hz; exact .inr HGO.out)), HF8, HGO⟩
            rw [he]
            simp
    · obtain rfl : i = P.length := by omega
      have hll : ¬ (P.length : Int) < (P.length : Int) := by omega
      have he := HE.out
      rw [List.drop_of_length_le (by rw [K.natsOf_length]; exact Nat.le_refl _), K.mtf, List.append_nil] at he
      have HW2 := Lib.hid (show Wr wr b o (K.headP T P) by rw [he]; exact HW.out)
      have hbl := HHL.out
      clear he HE HW HBO HO HAP Hk
      go_wp2_with fail
      refine (text_ok _ _ _ _ HW2.out).mono ?_
      rintro e w7 ⟨rfl, rfl⟩
      go_wp2_with fail
      refine (len_ok _ _ _ _ HW2.out).mono ?_
      rintro e w7 ⟨rfl, rfl⟩
      have c0 := ((HA2.out.kept HK.out (by simp)).kept ((Kept.refl [] wr).alloc (.cells #[.string ⟨(K.pack (K.headP T P)).toArray⟩, .int .i64 ((K.headP T P).length : Nat)] 35)) (by simp)).cell (i := 0) (u := .slice aT T.length cT) rfl
      have hlw : w.heap.size < wr.heap.size := by have := (HA2.out.kept HK.out (by simp)).lt; omega
      go_wp2_with fail
      have hR0 := RowN.two wr (.string ⟨(K.pack (K.headP T P)).toArray⟩) (.int .i64 ((K.headP T P).length : Nat)) 35
      have HKA := Lib.hid (HK.out.alloc (.cells #[.string ⟨(K.pack (K.headP T P)).toArray⟩, .int .i64 ((K.headP T P).length : Nat)] 35))
      have HFA := Lib.hid (show Fresh w2.heap.size (footA (some ⟨wr.heap.size, 0, none⟩)) by intro y hy; simp [footA] at hy; have := HK.out.size; omega)
      have HR0 := Lib.hid (show RowN (wr.alloc (.cells #[.string ⟨(K.pack (K.headP T P)).toArray⟩, .int .i64 ((K.headP T P).length : Nat)] 35)) 35 2 (.slice (some ⟨wr.heap.size, 0, none⟩) (0 + 1) 1) (0 + 1) (bitsVals (planBA T P 0)) from hR0)
      clear hR0 c0 HW2 HK
      go_loopg [9, 67] T.length (fun k v9 v wr => ShowC w2 T P k v9 v wr)
      case atStart => exact ⟨0, some ⟨wr.heap.size, 0, none⟩, 1, by omega, by omega, rfl, rfl, HR0, HKA, HFA⟩
      case round =>
        clear HR0 HKA HFA
        obtain ⟨k, a9, c9, hk, hkT, rfl, rfl, HR9, HK9, HF9⟩ := hrel
        have Hk := Lib.hid hk
        clear hk
        by_cases hlt : k < T.length
        · have hli : (k : Int) < (T.length : Int) := by omega
          obtain ⟨t, ht⟩ : ∃ t, T[k]? = some t := ⟨_, List.getElem?_eq_getElem hlt⟩
          obtain ⟨bT, oT, ar, cr, rfl, d0, hsr, -⟩ := (HPL2.out.kept HK9.out).tabs.int ht
          have hok := (HTAB.out t (List.mem_of_getElem? ht)).2.2
          have htl := HPL2.out.rl t (List.mem_of_getElem? ht)
          have HSH := Lib.hid (show K.showR t = (K.pack (K.showBits t), (((K.showBits t).length : Nat) : Int), 0) by unfold K.showR; rw [K.goodL_lens hok]; rfl)
          have HTI := Lib.hid ht
          have HSR := Lib.hid hsr
          clear ht hsr hok
          go_wp2_with fail
          refine (dshow_any ar cr t _ HSR.out (by omega)).mono ?_
          rintro e w8 ⟨rfl, hk8⟩
          rw [HSH.out]
          unfold bitsV
          have HK8 := Lib.hid (HK9.out.trans hk8 (by simp))
          have hbx : Kept [] w8 (w8.alloc (.cells #[.string ⟨(K.pack (K.showBits t)).toArray⟩, .int .i64 ((K.showBits t).length : Nat)] 35)) := (Kept.refl _ _).alloc _
          have hR8 := RowN.kept (RowN.kept HR9.out hk8 (by simp [Apart])) hbx (by simp [Apart])
          have HKX := Lib.hid (HK8.out.trans hbx (by simp))
          have hsl := K.showBits_len t (K.goodL_lens ((HTAB.out t (List.mem_of_getElem? HTI.out)).2.2))
          clear hk8 hbx
          go_upto_region 22 with (fail)
          have hzX : (w8.alloc (.cells #[.string ⟨(K.pack (K.showBits t)).toArray⟩, .int .i64 ((K.showBits t).length : Nat)] 35)).heap.size = w8.heap.size + 1 := by simp
          have hBX := Arr.new w8 [.string ⟨(K.pack (K.showBits t)).toArray⟩, .int .i64 ((K.showBits t).length : Nat)] 35
          have hlt8 : w8.heap.size < (w8.alloc (.cells #[.string ⟨(K.pack (K.showBits t)).toArray⟩, .int .i64 ((K.showBits t).length : Nat)] 35)).heap.size := by simp
          obtain ⟨WX, hWX⟩ : ∃ WX, w8.alloc (.cells #[.string ⟨(K.pack (K.showBits t)).toArray⟩, .int .i64 ((K.showBits t).length : Nat)] 35) = WX := ⟨_, rfl⟩
          have hBX' : Arr WX w8.heap.size 35 [.string ⟨(K.pack (K.showBits t)).toArray⟩, .int .i64 ((K.showBits t).length : Nat)] := by rw [← hWX]; exact hBX
          rw [hWX] at hR8 HKX hlt8 ⊢
          have x0 := hBX'.cell (i := 0) (u := .string ⟨(K.pack (K.showBits t)).toArray⟩) rfl
          have x1 := hBX'.cell (i := 1) (u := .int .i64 ((K.showBits t).length : Nat)) rfl
          clear hBX hBX' hWX hzX
          go_wp2_with ((at_builtin; refine wp_appK WX rfl _ _ 75 rfl 35 (.agg #[.string ⟨#[]⟩, .int .i64 0]) 2 24 Try.underlying75 Try.infoBits rfl (by decide) (.slice a9 (k + 1) c9) (k + 1) _ [.string ⟨(K.pack (K.showBits t)).toArray⟩, .int .i64 ((K.showBits t).length : Nat)] rfl rfl rfl rfl (by simp [Value.oneCell']) hR8 (by simp only [maxLen]; omega) (by omega) ?_; intro g10 cap10 w10 hrow10 hk10 hg10))
          go_roundg (T.length - (k + 1))
          case measure => have := Hk.out; omega
          case rel =>
            have he : bitsVals (planBA T P (k + 1)) = bitsVals (planBA T P k) ++ [.string ⟨(K.pack (K.showBits t)).toArray⟩, .int .i64 ((K.showBits t).length : Nat)] := by
              simp [planBA, bitsVals, List.take_add_one, HTI.out]
            refine ⟨k + 1, some ⟨g10, 0, none⟩, cap10, by omega, by omega, rfl, by simp, Lib.hid ?_, Lib.hid (HKX.out.new hk10 (fun y hy => HF9.out y (by rw [foot_slice] at hy; exact hy))), Lib.hid ?_⟩
            · rw [he]; exact hrow10
            · intro y hy
              simp [footA] at hy
              subst hy
              rcases hg10 with h | h
              · rw [foot_slice] at h; exact HF9.out _ h
              · have := HKX.out.size; omega
        · obtain rfl : k = T.length := by omega
          have hll : ¬ (T.length : Int) < (T.length : Int) := by omega
          have hpl : (planBA T P T.length).length = T.length + 1 := by simp [planBA]
          have J := join_any a9 c9 (planBA T P T.length) wr (by rw [hpl]; exact (RowN.seeA HR9.out).1) (by rw [planBA_plain]; exact HTOT.out.1) (by rw [hpl]; omega) (fun q hq => by
            have hm : (q.1.data.toList, q.2) ∈ plainPs (planBA T P T.length) := List.mem_map.2 ⟨q, hq, rfl⟩
            rw [planBA_plain] at hm
            exact HTOT.out.2 _ hm)
          rw [hpl, planBA_plain] at J
          have HJ := Lib.hid J
          have HB9 := Lib.hid (HB2.out.kept HK9.out (by simp))
          clear J hpl
          have hjr : K.joinR (K.planPs T P T.length) = (K.pack (K.planBits T P), (((K.planBits T P).length : Nat) : Int), 0) := by
            unfold K.joinR
            rw [K.planPs_bits, if_pos]
            rw [List.all_eq_true]
            intro p hp
            simp only [K.planPs, List.mem_cons, List.mem_map] at hp
            rcases hp with rfl | ⟨t, -, rfl⟩
            · exact K.mayR_pack _
            · exact K.mayR_pack _
          have HJR := Lib.hid hjr
          have r0 := HB9.out.cell (i := 0) (u := .string ⟨#[]⟩) rfl
          clear hjr r0
          go_wp2_with fail
          refine HJ.out.mono ?_
          rintro e w11 ⟨rfl, hk11⟩
          rw [HJR.out]
          unfold bitsV
          have hB2 := HB9.out.kept hk11 (by simp)
          have r0 := hB2.cell (i := 0) (u := .string ⟨#[]⟩) rfl
          have r1 := hB2.cell (i := 1) (u := .int .i64 0) rfl
          have f0 := hB2.free 0
          have f1 := hB2.free 1
          have s0 := ((hB2.set 0 (.string ⟨(K.pack (K.planBits T P)).toArray⟩)).set 1 (.int .i64 ((K.planBits T P).length : Nat))).cell (i := 0) (u := .string ⟨(K.pack (K.planBits T P)).toArray⟩) rfl
          have s1 := ((hB2.set 0 (.string ⟨(K.pack (K.planBits T P)).toArray⟩)).set 1 (.int .i64 ((K.planBits T P).length : Nat))).cell (i := 1) (u := .int .i64 ((K.planBits T P).length : Nat)) rfl
          have HK11 := Lib.hid ((HK2.out.trans HK9.out (by simp)).trans hk11 (by simp))
          clear hB2 hk11
          go_wp2_with fail
          refine bodyPost_ret (v := bitsV (K.pack (K.planBits T P), (((K.planBits T P).length : Nat) : Int), 0)) (by simp [results, Try.results16, go_sem, bitsV, s0, s1]) rfl ?_
          exact ⟨by rw [HR.out], (HK11.out.setCell (p := ⟨w.heap.size + 1, 0, none⟩) (.inr (by simp)) _).setCell (p := ⟨w.heap.size + 1, 1, none⟩) (.inr (by simp)) _⟩
end Go.Proofs.Ytdaenajhgbagdaa
