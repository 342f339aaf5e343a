/-
  The walk of Join.
-/
import Derived.Test.YtickefjlkpdifaaMay
import Derived.Test.YtickefjlkpdifaaSlice
import Derived.Test.YtickefjlkpdifaaPlainF
namespace Go.Proofs.Ytickefjlkpdifaa
open Go.RowKit
set_option linter.unusedVariables false
set_option linter.unusedSimpArgs false

/-- Pieces as cells. -/
def bitsVals (ps : List (ByteArray × Int)) : List Value := ps.flatMap fun p => [.string p.1, .int .i64 p.2]
theorem bitsVals_length (ps : List (ByteArray × Int)) : (bitsVals ps).length = ps.length * 2 := by
  induction ps with
  | nil => rfl
  | cons p ps ih => simp [bitsVals] at ih ⊢; omega
theorem bitsVals_get (ps : List (ByteArray × Int)) (i : Nat) (p : ByteArray × Int) (h : ps[i]? = some p) : (bitsVals ps)[i * 2]? = some (.string p.1) ∧ (bitsVals ps)[i * 2 + 1]? = some (.int .i64 p.2) := by
  induction ps generalizing i with
  | nil => simp at h
  | cons q ps ih =>
    cases i with
    | zero => simp at h; subst h; simp [bitsVals]
    | succ i =>
      have := ih i (by simpa using h)
      have e : bitsVals (q :: ps) = .string q.1 :: .int .i64 q.2 :: bitsVals ps := by simp [bitsVals]
      rw [e, show (i + 1) * 2 = i * 2 + 1 + 1 by omega]
      simpa using this
/-- Pieces as lists of bytes. -/
def plainPs (ps : List (ByteArray × Int)) : List (List UInt8 × Int) := ps.map fun p => (p.1.data.toList, p.2)
theorem plainPs_get (ps : List (ByteArray × Int)) (i : Nat) (p : ByteArray × Int) (h : ps[i]? = some p) : (plainPs ps)[i]? = some (p.1.data.toList, p.2) := by simp [plainPs, h]

/-- In Join's outer loop: j pieces are joined. -/
def JoinI (w0 : World) (qs : List (List UInt8 × Int)) (b : Nat) (k : Nat) (c : Value) (w : World) : Prop :=
  ∃ j o, j ≤ qs.length ∧ k = qs.length - j ∧ c = .int .i64 (j : Nat) ∧ ((qs.take j).all fun p => K.mayR p.1 p.2) = true ∧ Wr w b o (K.joinBits (qs.take j)) ∧ Kept [] w0 w ∧ Fresh w0.heap.size (b :: foot o)
/-- In its inner loop: x bits of the piece are moved. -/
def JoinJ (w0 : World) (s : ByteArray) (bs : List Bool) (r q b n : Nat) (k : Nat) (c : Value) (w : World) : Prop :=
  ∃ x o, x ≤ n ∧ k = n - x ∧ c = .int .i64 (x : Nat) ∧ Rd w r q s x ∧ Wr w b o (bs ++ (K.bitsOf s.data.toList).take x) ∧ Apart [r, q] (b :: foot o) ∧ Kept [] w0 w ∧ Fresh w0.heap.size (b :: foot o)

set_option maxHeartbeats 1000000 in
theorem join_any (a : Option Addr) (cap : Nat) (ps : List (ByteArray × Int)) (w : World) (h : Sees w 2 a ps.length (bitsVals ps)) (hT : K.total (plainPs ps) ≤ 1000000) (hlen : ps.length ≤ 140737488351232)
    (hp : ∀ p ∈ ps, p.2 ≤ 9223372036854775807) :
    Calls Try.prog 32 #[.slice a ps.length cap] w fun e w' => e = .returned (bitsV (K.joinR (plainPs ps))) ∧ Kept [] w w' := by
  have hql : (plainPs ps).length = ps.length := by simp [plainPs]
  have HQL := Lib.hid hql
  have HP := Lib.hid hp
  have HS := Lib.hid h
  clear h hp hql
  go_enter Try.func32, Try.ntmps32
  go_wp2_with fail
  have hc0 : (w.alloc (.cells #[.string ⟨#[]⟩, .int .i64 0] 55)).heap[w.heap.size]? = some (.cells #[.string ⟨#[]⟩, .int .i64 0] 55 (0, 0)) := heap_alloc_new _ _
  have hkW : Kept [] w (w.alloc (.cells #[.string ⟨#[]⟩, .int .i64 0] 55)) := (Kept.refl _ _).alloc _
  have hzW : (w.alloc (.cells #[.string ⟨#[]⟩, .int .i64 0] 55)).heap.size = w.heap.size + 1 := by simp
  generalize w.alloc (.cells #[.string ⟨#[]⟩, .int .i64 0] 55) = W0 at hc0 hkW hzW ⊢
  have HC0 := Lib.hid hc0
  have HKW := Lib.hid hkW
  have HZW := Lib.hid hzW
  clear hc0 hkW hzW
  refine (newWriter_new _).mono ?_
  rintro e w1 ⟨b, rfl, hw, hk1, hb⟩
  go_wp2_with fail
  go_loopg [13] ps.length (fun k c wr => JoinI W0 (plainPs ps) b k c wr)
  case atStart => exact ⟨0, _, by omega, by rw [HQL.out]; omega, rfl, rfl, hw, hk1, hb⟩
  case round =>
    obtain ⟨j, o, hj, hk, rfl, hall, hwr, hkept, hfr⟩ := hrel
    rw [HQL.out] at hj hk
    have Hk := Lib.hid hk
    have HALL := Lib.hid hall
    clear hk hw hk1 hb hall
    by_cases hlt : j < ps.length
    · have hsr := HS.out.kept0 (HKW.out.new hkept (by simp [Fresh]))
      obtain ⟨b0, off, rfl, hcells⟩ := hsr.at (by rw [bitsVals_length]; omega)
      obtain ⟨⟨t, N⟩, hpj⟩ : ∃ p, ps[j]? = some p := ⟨_, List.getElem?_eq_getElem hlt⟩
      have c0 := hcells _ _ (bitsVals_get ps j _ hpj).1
      have c1 := hcells _ _ (bitsVals_get ps j _ hpj).2
      rw [← Nat.add_assoc] at c1
      have hjl : (j : Int) < (ps.length : Int) := by omega
      have hN := HP.out _ (List.mem_of_getElem? hpj)
      have hqj := plainPs_get ps j _ hpj
      have htl := K.total_get _ _ _ hqj
      simp only [toList_length] at htl
      have hts : t.size ≤ 1000000 := by omega
      have HQJ := Lib.hid hqj
      have HWR := Lib.hid hwr
      have HKE := Lib.hid hkept
      have HFR := Lib.hid hfr
      have HN := Lib.hid hN
      clear hcells hsr hpj hqj htl hwr hkept hfr hN
      go_wp2_with fail
      have hd0 : (wr.alloc (.cells #[.string t, .int .i64 N] 55)).heap[wr.heap.size]? = some (.cells #[.string t, .int .i64 N] 55 (0, 0)) := heap_alloc_new _ _
      have hkA : Kept [] wr (wr.alloc (.cells #[.string t, .int .i64 N] 55)) := (Kept.refl _ _).alloc _
      generalize wr.alloc (.cells #[.string t, .int .i64 N] 55) = WA at hd0 hkA ⊢
      refine (may_any t N _ (by omega) HN.out).mono ?_
      rintro e w2 ⟨rfl, hk2⟩
      have hkA2 := hkA.new hk2 (by simp [Fresh])
      have hd2 := hk2.heap hd0 (by simp)
      have HK2 := Lib.hid hkA2
      have HD2 := Lib.hid hd2
      clear hd0 hkA hk2 hkA2 hd2 c0 c1
      rcases Bool.eq_false_or_eq_true (K.mayR t.data.toList N) with hM | hM
      · rw [hM]
        have hrg := K.mayR_range _ _ hM
        rw [toList_length] at hrg
        obtain ⟨n, rfl⟩ := Int.eq_ofNat_of_zero_le hrg.1
        have hn : n ≤ 8 * t.size := by omega
        have HM := Lib.hid hM
        clear hM hrg
        have e0 : w2.cell? ⟨wr.heap.size, 0, none⟩ = _ := cell_of_row w2 wr.heap.size 0 _ _ _ HD2.out
        simp at e0
        go_wp2_with fail
        refine (newReader_new _ _ _ (by omega) (by decide) (by simp)).mono ?_
        rintro e w3 ⟨r, q, rfl, hr, hk3, hrq⟩
        have hr : Rd w3 r q t 0 := hr
        have e1 : w3.cell? ⟨wr.heap.size, 1, none⟩ = _ := cell_of_row w3 wr.heap.size 1 _ _ _ (hk3.heap HD2.out (by simp))
        simp at e1
        have hkr3 := HK2.out.new hk3 (by simp [Fresh])
        have hwr3 := HWR.out.kept hkr3 (Apart.nil _)
        have hap3 : Apart [r, q] (b :: foot o) := (Apart.fresh (fun x hx => Nat.lt_of_lt_of_le (HWR.out.lt x hx) HK2.out.size) hrq).symm
        have hk03 := HKE.out.new hkr3 (by simp [Fresh])
        have hrq0 : Fresh W0.heap.size [r, q] := hrq.mono (Nat.le_trans HKE.out.size HK2.out.size)
        have HRQ := Lib.hid hrq0
        have HK3 := Lib.hid hkr3
        have hbl := K.joinBits_len ((plainPs ps).take j)
        have hbt := K.total_take (plainPs ps) j
        have hb8 : (K.joinBits ((plainPs ps).take j)).length ≤ 8000000 := by omega
        clear hrq hkr3 hk3 hrq0 hbl hbt e0
        go_wp2_with fail
        go_loopg [26] n (fun k c wr => JoinJ W0 t (K.joinBits ((plainPs ps).take j)) r q b n k c wr)
        case atStart => exact ⟨0, o, by omega, by omega, rfl, hr, by simpa using hwr3, hap3, hk03, HFR.out⟩
        case round =>
          obtain ⟨x, o, hx, hk, rfl, hrd, hwr, hap, hkept, hfr⟩ := hrel
          have Hk2 := Lib.hid hk
          clear hk hr hwr3 hap3 hk03 e1
          by_cases hxn : x < n
          · have hT1 := takeR_one t x (by omega)
            have hts1 := K.bitsOf_take t.data.toList x (by rw [toList_length]; omega)
            have HPS := Lib.hid hts1
            have HT1 := Lib.hid hT1
            have hblx : (K.joinBits ((plainPs ps).take j) ++ (K.bitsOf t.data.toList).take x).length ≤ 1000000000000 := by
              rw [List.length_append, List.length_take]; omega
            have HBL := Lib.hid hblx
            clear hts1 hT1 hblx
            go_wp2_with fail
            refine (take_any r q t x 1 _ hrd (by omega) (by omega)).mono ?_
            rintro e w4 hpost
            rw [HT1.out] at hpost
            obtain ⟨rfl, hrd4, hk4⟩ := hpost
            have hrd4 : Rd w4 r q t (x + 1) := hrd4
            have hwr4 := hwr.kept hk4 (hap.sub (by simp)).symm
            have hkept4 := hkept.new hk4 (fun y hy => HRQ.out y (by simp at hy; simp [hy]))
            clear hrd hwr hkept hk4
            have hbt := Bool.toNat_le (K.tbit t.data.toList x)
            go_wp2_with fail
            refine (put_put b _ _ o _ _ (by decide) (by decide) (by omega) (by simp; omega) HBL.out hwr4).mono ?_
            rintro e w5 ⟨rfl, o5, hwr5, hk5, hg5⟩
            rw [low_bit, List.append_assoc, ← HPS.out] at hwr5
            have hrd5 := hrd4.kept hk5 hap
            have hap5 := hap.grow hrd4.lt hg5
            have hfr5 := hfr.grow hg5 hkept4.size
            have hkept5 := hkept4.new hk5 hfr
            clear hrd4 hwr4 hkept4 hk5 hg5
            go_wp2_with fail
            go_roundg (n - (x + 1))
            case measure => have := Hk2.out; omega
            case rel => exact ⟨x + 1, o5, by omega, rfl, by go_num, hrd5, hwr5, hap5, hkept5, hfr5⟩
          · obtain rfl : x = n := by omega
            go_wp2_with fail
            go_roundg (ps.length - (j + 1))
            case measure => have := Hk.out; omega
            case rel =>
              refine ⟨j + 1, o, by rw [HQL.out]; omega, by rw [HQL.out], by go_num, ?_, ?_, hkept, hfr⟩
              · rw [K.all_take _ _ _ _ HQJ.out, HALL.out]; exact HM.out
              · rw [K.joinBits_take _ _ _ HQJ.out]; exact hwr
      · rw [hM]
        have hno := K.joinR_no _ _ _ HQJ.out hM
        have HNO := Lib.hid hno
        have hh := HK2.out.heap (HKE.out.heap HC0.out (by simp)) (by simp)
        have c0 : w2.cell? ⟨w.heap.size, 0, none⟩ = _ := cell_of_row w2 w.heap.size 0 _ _ _ hh
        have c1 : w2.cell? ⟨w.heap.size, 1, none⟩ = _ := cell_of_row w2 w.heap.size 1 _ _ _ hh
        have f0 := frozen_of_row w2 w.heap.size 0 _ _ hh
        have f1 := frozen_of_row w2 w.heap.size 1 _ _ hh
        simp at c0 c1
        clear hM hno hh
        go_wp2_with fail
        rw [HNO.out]
        refine bodyPost_ret (v := bitsV ([], 0, 2)) (by simp [results, Try.results32, go_sem, c0, c1, bitsV]) rfl ⟨rfl, ?_⟩
        exact ((HKW.out.new HKE.out (by simp [Fresh])).new HK2.out (by simp [Fresh])).setCell (.inr (Nat.le_refl _)) _ |>.setCell (.inr (Nat.le_refl _)) _
    · obtain rfl : j = ps.length := by omega
      have hte : (plainPs ps).take ps.length = plainPs ps := List.take_of_length_le (by rw [HQL.out]; omega)
      rw [hte] at hwr HALL
      have hyes : K.joinR (plainPs ps) = (K.pack (K.joinBits (plainPs ps)), (((K.joinBits (plainPs ps)).length : Nat) : Int), 0) := by unfold K.joinR; rw [HALL.out]; rfl
      have HY := Lib.hid hyes
      have hh := hkept.heap HC0.out (by simp)
      have c0 : wr.cell? ⟨w.heap.size, 0, none⟩ = _ := cell_of_row wr w.heap.size 0 _ _ _ hh
      have c1 : wr.cell? ⟨w.heap.size, 1, none⟩ = _ := cell_of_row wr w.heap.size 1 _ _ _ hh
      have f0 := frozen_of_row wr w.heap.size 0 _ _ hh
      have f1 := frozen_of_row wr w.heap.size 1 _ _ hh
      simp at c0 c1
      have hkw := HKW.out.new hkept (by simp [Fresh])
      have HKK := Lib.hid hkw
      clear hh hyes hte hkept hkw
      go_wp2_with fail
      refine (text_ok _ _ _ _ hwr).mono ?_
      rintro e w' ⟨rfl, rfl⟩
      go_wp2_with fail
      refine (len_ok _ _ _ _ hwr).mono ?_
      rintro e w' ⟨rfl, rfl⟩
      go_wp2_with fail
      rw [HY.out]
      refine bodyPost_ret (v := bitsV (K.pack (K.joinBits (plainPs ps)), (((K.joinBits (plainPs ps)).length : Nat) : Int), 0)) (by simp [results, Try.results32, go_sem, c0, c1, bitsV]) rfl ⟨rfl, ?_⟩
      exact (HKK.out.setCell (.inr (Nat.le_refl _)) _).setCell (.inr (Nat.le_refl _)) _
end Go.Proofs.Ytickefjlkpdifaa
