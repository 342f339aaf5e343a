/-
  The walks of the references of layer 6: rows, Show.
-/
import Derived.Test.YtkkjhkjgdpodeaaSymC
import Derived.Test.YtkkjhkjgdpodeaaSymE
import Derived.Test.YtkkjhkjgdpodeaaSymbolsFronts
namespace Go.Proofs.Ytkkjhkjgdpodeaa
open Go.RowKit
set_option linter.unusedVariables false
set_option linter.unusedSimpArgs false

/-- Of all bytes: do they stand in the text? -/
def marksB (l : List UInt8) : List Bool := (List.range 256).map fun b => decide (UInt8.ofNat b ∈ l)
theorem marksB_length (l : List UInt8) : (marksB l).length = 256 := by simp [marksB]
theorem marksB_get (l : List UInt8) (b : Nat) (h : b < 256) : (marksB l)[b]? = some (decide (UInt8.ofNat b ∈ l)) := by simp [marksB, List.getElem?_range h]
theorem bis_set (l : List Bool) (i : Nat) (b : Bool) : (bis l).set i (.int .i64 (b.toNat : Nat)) = bis (l.set i b) := by simp [bis, List.map_set]
theorem marksB_snoc (l : List UInt8) (b : UInt8) : (marksB l).set b.toNat true = marksB (l ++ [b]) := by
  apply List.ext_getElem?
  intro i
  rw [List.getElem?_set]
  have hb := UInt8.toNat_lt b
  by_cases hi : i < 256
  · rw [marksB_get _ _ hi, marksB_get _ _ hi, marksB_length]
    by_cases hbi : b.toNat = i
    · rw [if_pos hbi, if_pos (by omega)]
      subst hbi
      simp
    · rw [if_neg hbi]
      have : ¬ UInt8.ofNat i = b := fun h => hbi (by rw [← h, UInt8.toNat_ofNat']; omega)
      simp [this]
  · rw [List.getElem?_eq_none (by rw [marksB_length]; omega), List.getElem?_eq_none (by rw [marksB_length]; omega), if_neg (by omega)]
theorem rowUsed_snoc (l : List UInt8) (b : UInt8) (i : Nat) (hi : i < 16) : K.rowUsed (l ++ [b]) i = (K.rowUsed l i || decide (i = b.toNat / 16)) := by
  have hb := UInt8.toNat_lt b
  unfold K.rowUsed
  rw [Bool.eq_iff_iff]
  simp only [List.any_eq_true, List.mem_range, Bool.or_eq_true, decide_eq_true_eq]
  constructor
  · rintro ⟨k, hk, h⟩
    rw [K.has_snoc l b i k hi hk] at h
    simp only [Bool.or_eq_true, decide_eq_true_eq] at h
    rcases h with h | h
    · exact .inl ⟨k, hk, h⟩
    · exact .inr h.1
  · rintro (⟨k, hk, h⟩ | h)
    · exact ⟨k, hk, by rw [K.has_snoc l b i k hi hk, h]; rfl⟩
    · exact ⟨b.toNat % 16, by omega, by rw [K.has_snoc l b i _ hi (by omega)]; simp [h]⟩
theorem headBits_get (l : List UInt8) (i : Nat) (h : i < 16) : (K.headBits l)[i]? = some (K.rowUsed l i) := by simp [K.headBits, List.getElem?_range h]
theorem headBits_snoc (l : List UInt8) (b : UInt8) : (K.headBits l).set (b.toNat / 16) true = K.headBits (l ++ [b]) := by
  apply List.ext_getElem?
  intro i
  rw [List.getElem?_set]
  have hb := UInt8.toNat_lt b
  by_cases hi : i < 16
  · rw [headBits_get _ _ hi, headBits_get _ _ hi, K.headBits_length, rowUsed_snoc l b i hi]
    by_cases hbi : b.toNat / 16 = i
    · rw [if_pos hbi, if_pos (by omega)]; simp [hbi]
    · rw [if_neg hbi]
      have : ¬ i = b.toNat / 16 := fun h => hbi h.symm
      simp [this]
  · rw [List.getElem?_eq_none (by rw [K.headBits_length]; omega), List.getElem?_eq_none (by rw [K.headBits_length]; omega), if_neg (by omega)]
theorem rep_bis (f : Nat → Bool) (h : ∀ i, f i = false) (n : Nat) : List.replicate n (Value.int .i64 0) = bis ((List.range n).map f) := by
  apply List.ext_getElem?
  intro i
  by_cases hi : i < n
  · rw [List.getElem?_replicate, if_pos hi]
    simp [bis, List.getElem?_range hi, h]
  · rw [List.getElem?_eq_none (by simp; omega), List.getElem?_eq_none (by rw [bis_length]; simp; omega)]
theorem marksB_nil : List.replicate 256 (Value.int .i64 0) = bis (marksB []) := rep_bis _ (fun i => by simp) 256
theorem headBits_nil : List.replicate 16 (Value.int .i64 0) = bis (K.headBits []) := rep_bis _ (fun i => by simp [K.rowUsed, K.has]) 16

/-- What rows leaves. -/
def RowsPost (l : List UInt8) (w : World) (e : Ending) (w' : World) : Prop :=
  ∃ g h, e = .returned (.tuple #[.slice (some ⟨g, 0, none⟩) 16 16, .slice (some ⟨h, 0, none⟩) 256 256]) ∧ Row w' 3 (.slice (some ⟨g, 0, none⟩) 16 16) (bis (K.headBits l)) ∧
    Row w' 3 (.slice (some ⟨h, 0, none⟩) 256 256) (bis (marksB l)) ∧ Kept [] w w' ∧ w.heap.size ≤ g ∧ w.heap.size ≤ h
/-- In its loop: i bytes are marked. -/
def RRowsI (s : ByteArray) (g h : Nat) (w0 : World) (k : Nat) (c : Value) (w : World) : Prop :=
  ∃ i, i ≤ s.size ∧ k = s.size - i ∧ c = .int .i64 (i : Nat) ∧ Row w 3 (.slice (some ⟨g, 0, none⟩) 16 16) (bis (K.headBits (s.data.toList.take i))) ∧
    Row w 3 (.slice (some ⟨h, 0, none⟩) 256 256) (bis (marksB (s.data.toList.take i))) ∧ Kept [] w0 w
theorem rrows_any (s : ByteArray) (w : World) (hs : s.size ≤ 1000000000) : Calls Try.prog 32 #[.string s] w (RowsPost s.data.toList w) := by
  go_enter Try.func32, Try.ntmps32
  go_wp2_with (first
    | (at_make; refine wp_make1 rfl (.const (.int .i64 16)) (.const (.int .i64 16)) 25 rfl 3 (.int .i64 0) 8 Try.underlying25 Try.infoInt rfl .i64 .i64 _ _ 16 16 rfl rfl rfl rfl (Nat.le_refl _) (by decide) (by simp only [maxLen]; omega) ?_; intro w1 hrow1 hk1)
    | (at_make; refine wp_make1 rfl (.const (.int .i64 256)) (.const (.int .i64 256)) 25 rfl 3 (.int .i64 0) 8 Try.underlying25 Try.infoInt rfl .i64 .i64 _ _ 256 256 rfl rfl rfl rfl (Nat.le_refl _) (by decide) (by simp only [maxLen]; omega) ?_; intro w2 hrow2 hk2))
  rw [headBits_nil] at hrow1
  rw [marksB_nil] at hrow2
  have hkk : Kept [] w w2 := hk1.new hk2 (by simp [Fresh])
  have hlt : w.heap.size < w1.heap.size := hrow1.lt w.heap.size (by simp [foot, Value.ownBlock])
  have hrow1 := hrow1.kept hk2 (by simp)
  have hg0 : w.heap.size ≤ w.heap.size := Nat.le_refl _
  generalize hg : w.heap.size = g at hrow1 hlt hg0 ⊢
  generalize w1.heap.size = h at hrow2 hlt ⊢
  have HG := Lib.hid hg
  have HR1 := Lib.hid hrow1
  have HR2 := Lib.hid hrow2
  have HK := Lib.hid hkk
  clear hk1 hk2 hg hrow1 hrow2 hkk hg0
  go_loopg [6] s.size (fun k c wr => RRowsI s g h w k c wr)
  case atStart => exact ⟨0, by omega, by omega, rfl, HR1.out, HR2.out, HK.out⟩
  case round =>
    obtain ⟨i, hi, hk, rfl, hr1, hr2, hkept⟩ := hrel
    have Hk := Lib.hid hk
    have HKE := Lib.hid hkept
    clear hk hkept
    by_cases hlt2 : i < s.size
    · have hli : (i : Int) < (s.size : Int) := by omega
      have hx := UInt8.toNat_lt (s[i]'hlt2)
      obtain ⟨q, hq⟩ : ∃ q, (s[i]'hlt2).toNat / 16 = q := ⟨_, rfl⟩
      have hdiv : (((s[i]'hlt2).toNat : Nat) : Int) / 16 = (q : Int) := by omega
      have hq16 : q < 16 := by omega
      have hq16i : (q : Int) < 16 := by omega
      have c1 := hr1.cellAt (j := q) (bis_get _ q (by rw [K.headBits_length]; exact hq16))
      have c2 := hr2.cellAt (j := (s[i]'hlt2).toNat) (bis_get _ _ (by rw [marksB_length]; exact hx))
      have f1 := hr1.free q
      have f2 := hr2.free (s[i]'hlt2).toNat
      have hr3 := hr2.put (s[i]'hlt2).toNat (.int .i64 1)
      have hr4 := (hr1.kept ((Kept.refl [h] wr).setCell (p := ⟨h, (s[i]'hlt2).toNat, none⟩) (by simp) (.int .i64 1)) (by simp [foot, Value.ownBlock]; omega)).put q (.int .i64 1)
      have hr5 := hr3.kept ((Kept.refl [g] _).setCell (p := ⟨g, q, none⟩) (by simp) (.int .i64 1)) (by simp [foot, Value.ownBlock]; omega)
      have e3 : (Value.int .i64 1) = .int .i64 ((true.toNat : Nat) : Int) := rfl
      rw [e3, bis_set, marksB_snoc, ← byte_take s i hlt2] at hr5
      rw [e3, bis_set, ← hq, headBits_snoc, ← byte_take s i hlt2] at hr4
      rw [hq] at hr4
      have HR4 := Lib.hid hr4
      have HR5 := Lib.hid hr5
      have hne : ¬ h = g := by omega
      clear hr1 hr2 hr3 hr4 hr5 e3 hq
      go_wp2_with fail
      go_roundg (s.size - (i + 1))
      case measure => have := Hk.out; omega
      case rel => exact ⟨i + 1, by omega, rfl, by go_num, HR4.out, HR5.out, (HKE.out.setCell (.inr (show w.heap.size ≤ h by rw [HG.out]; omega)) _).setCell (.inr (show w.heap.size ≤ g by rw [HG.out]; exact Nat.le_refl _)) _⟩
    · obtain rfl : i = s.size := by omega
      rw [List.take_of_length_le (by rw [byte_len]; exact Nat.le_refl _)] at hr1 hr2
      have HR4 := Lib.hid hr1
      have HR5 := Lib.hid hr2
      clear hr1 hr2
      go_wp2_with fail
      go_ret2
      exact ⟨g, h, rfl, HR4.out, HR5.out, HKE.out, by rw [HG.out]; exact Nat.le_refl _, by rw [HG.out]; omega⟩

theorem marks_piece (l : List UInt8) (i : Nat) (h : i < 16) : ((marksB l).drop (16 * i)).take 16 = K.rowBits l i := by
  apply List.ext_getElem?
  intro k
  rw [List.getElem?_take]
  split
  · rename_i hk
    rw [List.getElem?_drop, marksB_get _ _ (by omega)]
    simp [K.rowBits, List.getElem?_range hk, K.has]
  · rw [List.getElem?_eq_none (by rw [K.rowBits_length]; omega)]
/-- In Show's loop: i rows are told. -/
def RSymShI (l : List UInt8) (w0 w2 : World) (g h : Nat) (k : Nat) (v c : Value) (w : World) : Prop :=
  ∃ i, i ≤ 16 ∧ k = 16 - i ∧ c = .int .i64 (i : Nat) ∧ Row w 3 v (bis (K.headBits l ++ K.rowsBits l i)) ∧ Kept [] w0 w ∧ Fresh w0.heap.size (foot v) ∧
    Sees w 1 (some ⟨g, 0, none⟩) 16 (bis (K.headBits l)) ∧ Sees w 1 (some ⟨h, 0, none⟩) 256 (bis (marksB l)) ∧ Fresh w2.heap.size (foot v) ∧ w2.heap.size ≤ w.heap.size

set_option maxHeartbeats 1000000 in
theorem rsymshow_any (s : ByteArray) (w : World) (hs : s.size ≤ 1000000000) :
    Calls Try.prog 17 #[.string s] w fun e w' => e = .returned (bitsV (K.symR s.data.toList)) ∧ Kept [] w w' := by
  go_enter Try.func17, Try.ntmps17
  go_wp2_with fail
  have hc0 : (w.alloc (.cells #[.string ⟨#[]⟩, .int .i64 0] 34)).heap[w.heap.size]? = some (.cells #[.string ⟨#[]⟩, .int .i64 0] 34 (0, 0)) := heap_alloc_new _ _
  have hkW : Kept [] w (w.alloc (.cells #[.string ⟨#[]⟩, .int .i64 0] 34)) := (Kept.refl _ _).alloc _
  generalize w.alloc (.cells #[.string ⟨#[]⟩, .int .i64 0] 34) = W0 at hc0 hkW ⊢
  refine (rmay_any s _ (by omega)).mono ?_
  rintro e w1 ⟨rfl, hk1⟩
  have HC0 := Lib.hid hc0
  have HKW := Lib.hid hkW
  have HK1 := Lib.hid hk1
  clear hc0 hkW hk1
  rcases Bool.eq_false_or_eq_true (K.mayS s.data.toList) with hm | hm
  · have hR : K.symR s.data.toList = (K.pack (K.symBits s.data.toList), (((K.symBits s.data.toList).length : Nat) : Int), 0) := by unfold K.symR; rw [hm]; rfl
    have HR := Lib.hid hR
    rw [hm]
    clear hR hm
    go_wp2_with fail
    refine (rrows_any s _ hs).mono ?_
    rintro e w2 ⟨g, h, rfl, hr1, hr2, hk2, hg, hh⟩
    have hs1 := hr1.seeA
    have HS1 := Lib.hid hs1
    have hs2 := hr2.seeA
    have HS2 := Lib.hid hs2
    have HK2 := Lib.hid (HK1.out.new hk2 (by simp [Fresh]))
    have HB1 := Lib.hid hr1.blk.lt
    have HB2 := Lib.hid hr2.blk.lt
    have hone : ∀ l : List Bool, ∀ u ∈ bis l, u.oneCell' = true := by
      intro l u hu
      obtain ⟨c, -, rfl⟩ := List.mem_map.1 hu
      rfl
    have HONE := Lib.hid hone
    have hsA : Sees (w2.alloc (.cells #[] 3)) 1 (some ⟨g, 0, none⟩) 16 (bis (K.headBits s.data.toList)) := hs1.kept0 ((Kept.refl [] w2).alloc _)
    clear hr1 hr2 hk2 hs1 hs2 hone
    go_wp2_with ((at_builtin; refine wp_appS rfl _ _ 25 rfl 3 (.int .i64 0) 8 Try.underlying25 Try.infoInt rfl (.slice (some ⟨w2.heap.size, 0, none⟩) 0 0) [] (bis (K.headBits s.data.toList)) (some ⟨g, 0, none⟩) 16 16 rfl rfl (HONE.out _) (Row.empty w2 _) hsA (fun h => by cases h) (by simp [maxLen]) (by simp) ?_; intro a4 cap4 w4 hrow4 hk4 hg4))
    have hk4 : Kept [w2.heap.size] w2 w4 := ((Kept.refl [w2.heap.size] w2).alloc _).trans hk4 (fun x hx => .inl (by simpa [foot, Value.ownBlock] using hx))
    have hfr4 : Fresh W0.heap.size (foot (.slice a4 16 cap4)) := by
      have h1 := HK2.out.size
      intro x hx
      rcases hg4 x (by rw [foot_slice] at hx ⊢; exact hx) with h' | h'
      · simp [foot, Value.ownBlock] at h'; omega
      · simp at h'; omega
    have hk04 : Kept [] W0 w4 := HK2.out.new hk4 (fun x hx => by rw [List.mem_singleton.1 hx]; exact HK2.out.size)
    have hs14 : Sees w4 1 (some ⟨g, 0, none⟩) 16 (bis (K.headBits s.data.toList)) := HS1.out.kept hk4 (fun x hx hm => by
      have := HB1.out
      simp [footA] at hx
      rw [List.mem_singleton.1 hm] at hx
      omega)
    have hs24 : Sees w4 1 (some ⟨h, 0, none⟩) 256 (bis (marksB s.data.toList)) := HS2.out.kept hk4 (fun x hx hm => by
      have := HB2.out
      simp [footA] at hx
      rw [List.mem_singleton.1 hm] at hx
      omega)
    have hrow4 : Row w4 3 (.slice a4 16 cap4) (bis (K.headBits s.data.toList)) := hrow4
    have HROW4 := Lib.hid hrow4
    have HFR4 := Lib.hid hfr4
    have HK04 := Lib.hid hk04
    have hg4 : Fresh w2.heap.size (foot (.slice a4 16 cap4)) := fun x hx => by
      rcases hg4 x (by rw [foot_slice] at hx ⊢; exact hx) with h' | h'
      · simp [foot, Value.ownBlock] at h'; omega
      · simp at h'; omega
    have HG4 := Lib.hid hg4
    have HZ4 := Lib.hid hk4.size
    have HS14 := Lib.hid hs14
    have HS24 := Lib.hid hs24
    clear hrow4 hk4 hfr4 hk04 hs14 hs24 hg4 hsA
    go_wp2_with fail
    go_loopg [6, 7] 16 (fun k v c wr => RSymShI s.data.toList W0 w2 g h k v c wr)
    case atStart => exact ⟨0, by omega, by omega, rfl, by simpa [K.rowsBits_zero] using HROW4.out, HK04.out, HFR4.out, HS14.out, HS24.out, HG4.out, HZ4.out⟩
    case round =>
      obtain ⟨i, hi, hk, rfl, hrow, hkept, hfr, hs1, hs2, hg4, hw2⟩ := hrel
      have HW2 := Lib.hid hw2
      have Hk := Lib.hid hk
      have HKE := Lib.hid hkept
      have HFR := Lib.hid hfr
      have HG := Lib.hid hg4
      have HS1 := Lib.hid hs1
      have HS2 := Lib.hid hs2
      have hrl := K.rowsBits_length s.data.toList i
      have hhd := K.headBits_length s.data.toList
      have hTL : (K.headBits s.data.toList ++ K.rowsBits s.data.toList i).length ≤ 400 := by rw [List.length_append]; omega
      clear hk hkept hfr hg4 hrl hhd hw2
      by_cases hlt : i < 16
      · have hli : (i : Int) < 16 := by omega
        obtain ⟨b1, o1, he1, hc1⟩ := hs1.at (by rw [bis_length, K.headBits_length]; omega)
        injection he1 with he1
        injection he1 with h1 h2
        subst h1 h2
        have c1 := hc1 i _ (bis_get _ i (by rw [K.headBits_length]; exact hlt))
        rw [Nat.zero_add] at c1
        have hbt : K.bt (K.headBits s.data.toList) i = (K.rowUsed s.data.toList i).toNat := by
          unfold K.bt
          rw [List.getD, headBits_get _ _ hlt, Option.getD_some]
        rw [hbt] at c1
        clear hs1 hc1 hbt
        rcases Bool.eq_false_or_eq_true (K.rowUsed s.data.toList i) with hu | hu
        · rw [hu] at c1
          have hyes := K.rowsBits_yes s.data.toList i hu
          have HY := Lib.hid hyes
          have hp := hs2.part (16 * i) 16 (by omega) (a' := some ⟨h, 16 * i, none⟩) (by rintro - b off he; injection he with he; injection he with h1 h2; subst h1 h2; rw [Nat.zero_add])
          have he : ((bis (marksB s.data.toList)).drop (16 * i)).take 16 = bis (K.rowBits s.data.toList i) := by
            rw [← marks_piece _ _ hlt]; simp [bis, List.map_drop, List.map_take]
          rw [he] at hp
          have L1 : (bis (K.headBits s.data.toList ++ K.rowsBits s.data.toList i)).length + 16 ≤ maxLen := by rw [bis_length]; simp only [maxLen]; omega
          have L2 : ((bis (K.headBits s.data.toList ++ K.rowsBits s.data.toList i)).length + 16) * 8 ≤ 140737488355328 := by rw [bis_length]; omega
          have c1 : wr.cell? ⟨g, i, none⟩ = some (.int .i64 1) := c1
          have hz0 : (0 : Int) ≤ 16 * (i : Int) := by omega
          have hz1 : 16 * (i : Int) ≤ 16 * (i : Int) + 16 := by omega
          have hz2 : 16 * (i : Int) + 16 ≤ 256 := by omega
          have hz3 : (16 * (i : Int)).toNat = 16 * i := by omega
          have hz4 : (16 * (i : Int) + 16).toNat = 16 * i + 16 := by omega
          have hz5 : ¬ (16 * i = 256) := by omega
          clear hu hyes hs2 he
          go_wp2_with ((at_builtin; refine wp_appS rfl _ _ 25 rfl 3 (.int .i64 0) 8 Try.underlying25 Try.infoInt rfl u6 (bis (K.headBits s.data.toList ++ K.rowsBits s.data.toList i)) (bis (K.rowBits s.data.toList i)) (some ⟨h, 16 * i, none⟩) 16 (256 - 16 * i) rfl rfl (HONE.out _) hrow hp (fun h => by cases h) L1 L2 ?_; intro a5 cap5 w5 hrow5 hk5 hg5))
          go_roundg (16 - (i + 1))
          case measure => have := Hk.out; omega
          case rel =>
            have hlow : ∀ x, x < w2.heap.size → ∀ y ∈ footA (some (⟨x, 0, none⟩ : Addr)), y ∉ foot u6 := fun x hx y hy hm => by
              simp [footA] at hy
              have := HG.out y hm
              omega
            refine ⟨i + 1, by omega, rfl, by go_num, ?_, HKE.out.new hk5 HFR.out, HFR.out.grow hg5 HKE.out.size, HS1.out.kept hk5 (hlow g HB1.out), HS2.out.kept hk5 (hlow h HB2.out), HG.out.grow hg5 HW2.out, Nat.le_trans HW2.out hk5.size⟩
            rw [HY.out, ← List.append_assoc, bis_append _ (K.rowBits _ _)]
            exact hrow5
        · rw [hu] at c1
          have hno := K.rowsBits_no s.data.toList i hu
          have HN := Lib.hid hno
          have c1 : wr.cell? ⟨g, i, none⟩ = some (.int .i64 0) := c1
          clear hu hno hs2
          go_wp2_with fail
          go_roundg (16 - (i + 1))
          case measure => have := Hk.out; omega
          case rel => exact ⟨i + 1, by omega, rfl, by go_num, by rw [HN.out]; exact hrow, HKE.out, HFR.out, HS1.out, HS2.out, HG.out, HW2.out⟩
      · obtain rfl : i = 16 := by omega
        have hrow : Row wr 3 u6 (bis (K.symBits s.data.toList)) := hrow
        obtain ⟨av, cv, hv, -, -, hsee, -⟩ := hrow.sees
        rw [bis_length] at hv hsee
        subst hv
        have hsl := K.symBits_length s.data.toList
        have HSE := Lib.hid hsee
        clear hs1 hs2 hrow hsee
        go_wp2_with fail
        refine (refText_ok av cv (K.symBits s.data.toList) _ (by omega) HSE.out).mono ?_
        rintro e w5 ⟨rfl, hk5⟩
        have hke5 := HKE.out.new hk5 (by simp [Fresh])
        have hh := hke5.heap HC0.out (by simp)
        have d0 : w5.cell? ⟨w.heap.size, 0, none⟩ = _ := cell_of_row w5 w.heap.size 0 _ _ _ hh
        have d1 : w5.cell? ⟨w.heap.size, 1, none⟩ = _ := cell_of_row w5 w.heap.size 1 _ _ _ hh
        have f0 := frozen_of_row w5 w.heap.size 0 _ _ hh
        have f1 := frozen_of_row w5 w.heap.size 1 _ _ hh
        simp at d0 d1
        have HKK := Lib.hid (HKW.out.new hke5 (by simp [Fresh]))
        clear hh hk5 hke5
        go_wp2_with fail
        rw [HR.out]
        refine bodyPost_ret (v := bitsV (K.pack (K.symBits s.data.toList), (((K.symBits s.data.toList).length : Nat) : Int), 0)) (by simp [results, Try.results17, go_sem, d0, d1, bitsV]) rfl ⟨rfl, ?_⟩
        exact (HKK.out.setCell (.inr (Nat.le_refl _)) _).setCell (.inr (Nat.le_refl _)) _
  · have hR : K.symR s.data.toList = ([], 0, 2) := by unfold K.symR; rw [hm]; rfl
    have HR := Lib.hid hR
    rw [hm]
    clear hR hm
    have hh := HK1.out.heap HC0.out (by simp)
    have d0 : w1.cell? ⟨w.heap.size, 0, none⟩ = _ := cell_of_row w1 w.heap.size 0 _ _ _ hh
    have d1 : w1.cell? ⟨w.heap.size, 1, none⟩ = _ := cell_of_row w1 w.heap.size 1 _ _ _ hh
    have f0 := frozen_of_row w1 w.heap.size 0 _ _ hh
    have f1 := frozen_of_row w1 w.heap.size 1 _ _ hh
    simp at d0 d1
    have HKK := Lib.hid (HKW.out.new HK1.out (by simp [Fresh]))
    clear hh
    go_wp2_with fail
    rw [HR.out]
    refine bodyPost_ret (v := bitsV ([], 0, 2)) (by simp [results, Try.results17, go_sem, d0, d1, bitsV]) rfl ⟨rfl, ?_⟩
    exact (HKK.out.setCell (.inr (Nat.le_refl _)) _).setCell (.inr (Nat.le_refl _)) _
end Go.Proofs.Ytkkjhkjgdpodeaa
