/-
  The walks of symbols' may, moved and Of.
-/
import Derived.Test.YtkkjhkjgdpodeaaLibE
import Derived.Test.YtkkjhkjgdpodeaaWriter
import Derived.Deep.WholeRow
import Derived.Deep.RegionHeld3
namespace Go.Proofs.Ytkkjhkjgdpodeaa
open Go.RowKit
set_option linter.unusedVariables false
set_option linter.unusedSimpArgs false

theorem byte_get (s : ByteArray) (i : Nat) (h : i < s.size) : s.data.toList.getD i 0 = s[i]'h := by
  have hl : i < s.data.toList.length := by rw [Array.length_toList]; exact h
  rw [List.getD, List.getElem?_eq_getElem hl]
  rfl
theorem byte_take (s : ByteArray) (i : Nat) (h : i < s.size) : s.data.toList.take (i + 1) = s.data.toList.take i ++ [s[i]'h] := by
  have hl : i < s.data.toList.length := by rw [Array.length_toList]; exact h
  rw [List.take_succ_eq_append_getElem hl]
  rfl
theorem byte_len (s : ByteArray) : s.data.toList.length = s.size := by rw [Array.length_toList]; rfl

/-- In may's loop: i bytes are above the one ahead. -/
def SMayI (s : ByteArray) (w0 : World) (k : Nat) (c : Value) (w : World) : Prop :=
  ∃ i, 1 ≤ i ∧ i ≤ s.size + 1 ∧ k = s.size + 1 - i ∧ c = .int .i64 (i : Nat) ∧ (∀ j, j + 1 < i → j + 1 < s.size → s.data.toList.getD j 0 < s.data.toList.getD (j + 1) 0) ∧ Kept [] w0 w

theorem smay_any (s : ByteArray) (w : World) (hs : s.size ≤ 140737488351232) :
    Calls Try.prog 24 #[.string s] w fun e w' => e = .returned (.bool (K.mayS s.data.toList)) ∧ Kept [] w w' := by
  go_enter Try.func24, Try.ntmps24
  go_wp2_with fail
  go_loopg [3] (s.size + 1 - 1) (fun k c wr => SMayI s w k c wr)
  case atStart => exact ⟨1, by omega, by omega, by omega, rfl, fun j h => by omega, Kept.refl _ _⟩
  case round =>
    obtain ⟨i, hi1, hi, hk, rfl, hup, hkept⟩ := hrel
    have Hk := Lib.hid hk
    have HU := Lib.hid hup
    have HKE := Lib.hid hkept
    clear hk hup hkept
    by_cases hlt : i < s.size
    · have hli : (i : Int) < (s.size : Int) := by omega
      have hw1 : IntKind.i64.wrap ((i : Int) - 1) = (i : Int) - 1 := IntWalk.i64_in _ (by omega)
      have h0 : (0 : Int) ≤ (i : Int) - 1 := by omega
      have h1 : (1 : Int) ≤ (i : Int) := by omega
      have h2 : ((i : Int) - 1).toNat = i - 1 := by omega
      have h3 : i - 1 < s.size := by omega
      have h4 : (i : Int) - 1 < (s.size : Int) := by omega
      by_cases hle : s[i] ≤ s[i - 1]
      · have g1 : decide (s[i].toNat ≤ s[i - 1].toNat) = true := decide_eq_true (UInt8.le_iff_toNat_le.1 hle)
        have hno := K.mayS_falls s.data.toList (i - 1) (by rw [byte_len]; omega) (by
          rw [show i - 1 + 1 = i by omega, byte_get s _ h3, byte_get s _ hlt]
          exact UInt8.not_lt.2 hle)
        have HN := Lib.hid hno
        clear hno hle
        go_wp2_with fail
        go_quiet (fail)
        go_wp2_with fail
        go_ret
        exact ⟨by rw [HN.out]; rfl, HKE.out.drewN _⟩
      · have g1 : decide (s[i].toNat ≤ s[i - 1].toNat) = false := decide_eq_false fun h => hle (UInt8.le_iff_toNat_le.2 h)
        have HL := Lib.hid (UInt8.not_le.1 hle)
        clear hle
        go_wp2_with fail
        go_quiet (fail)
        go_wp2_with fail
        go_roundg (s.size + 1 - (i + 1))
        case measure => have := Hk.out; omega
        case rel =>
          refine ⟨i + 1, by omega, by omega, rfl, by go_num, fun j hj hj2 => ?_, HKE.out.drewN _⟩
          by_cases hji : j + 1 < i
          · exact HU.out j hji hj2
          · obtain rfl : j = i - 1 := by omega
            rw [show i - 1 + 1 = i by omega, byte_get s _ h3, byte_get s _ hlt]
            exact HL.out
    · go_wp2_with fail
      go_ret
      refine ⟨?_, HKE.out⟩
      by_cases hz : s.size = 0
      · have : s.data.toList = [] := List.eq_nil_of_length_eq_zero (by rw [byte_len]; exact hz)
        rw [this]
        simp [K.mayS, ByteArray.toList_eq, this]
      · have hne : s.data.toList ≠ [] := fun h => hz (by rw [← byte_len, h]; rfl)
        rw [K.mayS_rises _ hne (fun j hj => HU.out j (by rw [byte_len] at hj; omega) (by rw [byte_len] at hj; omega))]
        have hne2 : ¬ s.data = #[] := by simpa using hne
        simp [ByteArray.toList_eq, hne2]

theorem u8s_get (l : List UInt8) (p : Nat) (h : p < l.length) : (u8s l)[p]? = some (.int .u8 ((l.getD p 0).toNat : Nat)) := by
  simp [u8s, List.getD, List.getElem?_eq_getElem h]
theorem u8s_length (l : List UInt8) : (u8s l).length = l.length := by simp [u8s]
theorem u8s_one (l : List UInt8) : ∀ v ∈ u8s l, v.oneCell' = true := by
  intro v hv
  simp only [u8s, List.mem_map] at hv
  obtain ⟨b, -, rfl⟩ := hv
  rfl
theorem Try.sizeU8 : (Try.prog.info? 5).map (·.size) = some 1 := by kernel_rfl

theorem moved_ok (g c p : Nat) (l : List UInt8) (w : World) (hp : p < l.length) (hc : l.length ≤ c) (hl : l.length ≤ 140737488351232) (h : Blk w g (u8s l)) :
    Calls Try.prog 25 #[.slice (some ⟨g, 0, none⟩) l.length c, .int .i64 p] w fun e w' => e = .returned (.int .u8 ((l.getD p 0).toNat : Nat)) ∧ Blk w' g (u8s (K.turned l p)) ∧ Kept [g] w w' := by
  have c0 := h.cell (u8s_get l p hp)
  have hw1 : IntKind.i64.wrap ((p : Int) + 1) = (p : Int) + 1 := IntWalk.i64_in _ (by omega)
  have h0 : (0 : Int) ≤ (p : Int) + 1 := by omega
  have h1 : ((p : Int) + 1).toNat = p + 1 := by omega
  have h2 : (p : Int) ≤ (c : Int) := by omega
  have h3 : (p : Int) + 1 ≤ (c : Int) := by omega
  have h4 : (1 : Int) ≤ (p : Int) + 1 := by omega
  have h5 : (p : Int) < (l.length : Int) := by omega
  have hone : ∀ v ∈ (u8s l).take p, v.oneCell' = true := fun v hv => u8s_one l v (List.mem_of_mem_take hv)
  have hlen : ((u8s l).take p).length = p := by rw [List.length_take, u8s_length]; omega
  have hfit : 1 + ((u8s l).take p).length ≤ (u8s l).length := by rw [hlen, u8s_length]; omega
  have hsrc : ∀ j v, ((u8s l).take p)[j]? = some v → w.cell? ⟨g, j, none⟩ = some v := fun j v hj => h.cell (by
    rw [List.getElem?_take] at hj
    split at hj
    · exact hj
    · cases hj)
  have hmv := splice_moved (fun b : UInt8 => Value.int .u8 (b.toNat : Int)) l p hp
  have HB := Lib.hid h
  have HONE := Lib.hid hone
  have HLEN := Lib.hid hlen
  have HFIT := Lib.hid hfit
  have HSRC := Lib.hid hsrc
  have HMV := Lib.hid hmv
  clear h hone hlen hfit hsrc hmv
  by_cases hc1 : c = 1
  · obtain rfl : p = 0 := by omega
    have hl1 : l.length = 1 := by omega
    subst hc1
    have hq1 : IntKind.i64.wrap 1 = 1 := by decide
    go_enter Try.func25, Try.ntmps25
    go_wp2_with fail
    have hpos : 0 < ((u8s l).take 0).length → (some ⟨g, 0, none⟩ : Option Addr) = some ⟨g, 1, none⟩ ∧ ∃ ad : Addr, (some ⟨g, 0, none⟩ : Option Addr) = some ad ∧ ∀ j v, ((u8s l).take 0)[j]? = some v → w.cell? (ad.add j) = some v :=
      fun h => by simp at h
    have HPOS := Lib.hid hpos
    clear hpos
    go_region_held3 (fun w' => True) (exact trivial) ((refine step_copyBlk rfl _ _ 51 51 rfl 5 Try.underlying51 Try.sizeU8 (some ⟨g, 0, none⟩) (some ⟨g, 0, none⟩) 0 0 0 1 rfl rfl g 1 (u8s l) ((u8s l).take 0) (HB.out.kept (Kept.refl [] w).drew (by simp)) (by rw [HLEN.out]; rfl) HPOS.out HFIT.out HONE.out ?_; intro w1 hb1 hk1))
    have hsl : (splice (u8s l) 1 ((u8s l).take 0)).length = l.length := by rw [length_splice _ _ _ HFIT.out, u8s_length]
    have d0 := hb1.cell (List.getElem?_eq_getElem (show 0 < (splice (u8s l) 1 ((u8s l).take 0)).length by rw [hsl]; omega))
    have f0 := hb1.free (show 0 < (splice (u8s l) 1 ((u8s l).take 0)).length by rw [hsl]; omega)
    have hb2 := hb1.set 0 (.int .u8 ((l.getD 0 0).toNat : Nat)) (by rw [hsl]; omega)
    have hb2 : Blk (w1.setCell ⟨g, 0, none⟩ (.int .u8 ((l.getD 0 0).toNat : Nat))) g (u8s (K.turned l 0)) := by
      have e := HMV.out
      have e2 : splice (u8s l) 1 ((u8s l).take 0) = splice (l.map fun b : UInt8 => Value.int .u8 (b.toNat : Int)) 1 ((l.map fun b : UInt8 => Value.int .u8 (b.toNat : Int)).take 0) := rfl
      rw [e2] at hb2
      rw [u8s, ← e]
      exact hb2
    have hd : (l.getD 0 0) = l[0] := by rw [List.getD, List.getElem?_eq_getElem hp]; rfl
    rw [hd] at hb2
    have HB2 := Lib.hid hb2
    have HD := Lib.hid hd
    clear hb1 hb2 hd
    go_wp2_with fail
    go_ret
    exact ⟨by first | rfl | (rw [HD.out]; rfl), HB2.out, ((Kept.refl [g] w).drew.trans hk1 (fun x hx => .inl hx)).setCell (by simp) _⟩
  · have hc2 : (1 : Int) < (c : Int) := by omega
    go_enter Try.func25, Try.ntmps25
    go_wp2_with fail
    have hpos : 0 < ((u8s l).take p).length → (some ⟨g, 1, none⟩ : Option Addr) = some ⟨g, 1, none⟩ ∧ ∃ ad : Addr, (some ⟨g, 0, none⟩ : Option Addr) = some ad ∧ ∀ j v, ((u8s l).take p)[j]? = some v → w.cell? (ad.add j) = some v :=
      fun _ => ⟨rfl, _, rfl, fun j v hj => by rw [Addr.add_lit, Nat.zero_add]; exact HSRC.out j v hj⟩
    have HPOS := Lib.hid hpos
    clear hpos
    go_region_held3 (fun w' => True) (exact trivial)
      (first
        | (refine step_copyBlk rfl _ _ 51 51 rfl 5 Try.underlying51 Try.sizeU8 (some ⟨g, 1, none⟩) (some ⟨g, 0, none⟩) p (c - 1) p c rfl rfl g 1 (u8s l) ((u8s l).take p) (HB.out.kept (Kept.refl [] w).drew (by simp)) (by rw [HLEN.out]; exact (Nat.min_self p).symm) HPOS.out HFIT.out HONE.out ?_; intro w1 hb1 hk1))
    have hsl : (splice (u8s l) 1 ((u8s l).take p)).length = l.length := by rw [length_splice _ _ _ HFIT.out, u8s_length]
    have d0 := hb1.cell (List.getElem?_eq_getElem (show 0 < (splice (u8s l) 1 ((u8s l).take p)).length by rw [hsl]; omega))
    have f0 := hb1.free (show 0 < (splice (u8s l) 1 ((u8s l).take p)).length by rw [hsl]; omega)
    have hb2 := hb1.set 0 (.int .u8 ((l.getD p 0).toNat : Nat)) (by rw [hsl]; omega)
    have hb2 : Blk (w1.setCell ⟨g, 0, none⟩ (.int .u8 ((l.getD p 0).toNat : Nat))) g (u8s (K.turned l p)) := by
      have e := HMV.out
      have e2 : splice (u8s l) 1 ((u8s l).take p) = splice (l.map fun b : UInt8 => Value.int .u8 (b.toNat : Int)) 1 ((l.map fun b : UInt8 => Value.int .u8 (b.toNat : Int)).take p) := rfl
      rw [e2] at hb2
      rw [u8s, ← e]
      exact hb2
    have hd : (l.getD p 0) = l[p] := by rw [List.getD, List.getElem?_eq_getElem hp]; rfl
    rw [hd] at hb2
    have HB2 := Lib.hid hb2
    have HD := Lib.hid hd
    clear hb1 hb2 hd
    go_wp2_with fail
    go_ret
    exact ⟨by first | rfl | (rw [HD.out]; rfl), HB2.out, ((Kept.refl [g] w).drew.trans hk1 (fun x hx => .inl hx)).setCell (by simp) _⟩

theorem Try.zBools (w : World) : (zeroValue 50).run Try.prog w = .ok (.agg (Array.replicate 256 (.bool false))) w :=
  (zero_of_info (P := Try.prog) (t := 50) (v := .agg (Array.replicate 256 (.bool false))) (n := 256) (by kernel_rfl)).1 w
/-- The 256 marks of a text's bytes. -/
def marks (l : List UInt8) : List Value := (List.range 256).map fun b => .bool (decide (UInt8.ofNat b ∈ l))
theorem marks_length (l : List UInt8) : (marks l).length = 256 := by simp [marks]
theorem marks_nil : (Array.replicate 256 (Value.bool false)) = (marks []).toArray := by
  apply Array.ext
  · simp [marks]
  · intro i h1 h2
    simp [marks]
theorem marks_get (l : List UInt8) (b : Nat) (h : b < 256) : (marks l)[b]? = some (.bool (decide (UInt8.ofNat b ∈ l))) := by
  simp [marks, List.getElem?_range h]
theorem marks_snoc (l : List UInt8) (b : UInt8) : (marks l).set b.toNat (.bool true) = marks (l ++ [b]) := by
  apply List.ext_getElem?
  intro i
  rw [List.getElem?_set]
  have hb := UInt8.toNat_lt b
  by_cases hi : i < 256
  · rw [marks_get _ _ hi, marks_get _ _ hi, marks_length]
    by_cases hbi : b.toNat = i
    · rw [if_pos hbi, if_pos (by omega)]
      subst hbi
      simp
    · rw [if_neg hbi]
      have : ¬ UInt8.ofNat i = b := fun h => hbi (by rw [← h, UInt8.toNat_ofNat']; omega)
      simp [this]
  · have e1 : (marks l)[i]? = none := List.getElem?_eq_none (by rw [marks_length]; omega)
    have e2 : (marks (l ++ [b]))[i]? = none := List.getElem?_eq_none (by rw [marks_length]; omega)
    rw [e1, e2, if_neg (by omega)]

/-- In Of's first loop: i bytes are marked. -/
def SOfA (s : ByteArray) (w0 : World) (g : Nat) (k : Nat) (c : Value) (w : World) : Prop :=
  ∃ i, i ≤ s.size ∧ k = s.size - i ∧ c = .int .i64 (i : Nat) ∧ Blk w g (marks (s.data.toList.take i)) ∧ Kept [] w0 w
/-- In its second: the marks of n bytes are seen. -/
def SOfB (s : ByteArray) (w0 : World) (g : Nat) (k : Nat) (v c : Value) (w : World) : Prop :=
  ∃ n, n ≤ 256 ∧ k = 256 - n ∧ c = .int .i64 (n : Nat) ∧ Row w 5 v (u8s (K.usesTo s.data.toList n)) ∧ Blk w g (marks s.data.toList) ∧ Kept [] w0 w ∧ Fresh w0.heap.size (foot v) ∧ g ∉ foot v

theorem sof_any (s : ByteArray) (w : World) (hs : s.size ≤ 140737488351232) :
    Calls Try.prog 10 #[.string s] w fun e w' => e = .returned (.string ⟨(K.uses s.data.toList).toArray⟩) ∧ Kept [] w w' := by
  have hz := Try.zBools
  go_enter Try.func10, Try.ntmps10
  go_wp2_with fail
  rw [marks_nil]
  have hb0 := Blk.new w (marks []) 50
  have hk0 : Kept [] w (w.alloc (.cells (marks []).toArray 50)) := (Kept.refl _ _).alloc _
  generalize w.alloc (.cells (marks []).toArray 50) = W0 at hb0 hk0 ⊢
  obtain ⟨g, hg⟩ : ∃ g, w.heap.size = g := ⟨_, rfl⟩
  rw [hg] at hb0 ⊢
  have HG := Lib.hid hg
  clear hg hz
  go_loopg [9] s.size (fun k c wr => SOfA s w g k c wr)
  case atStart => exact ⟨0, by omega, by omega, rfl, hb0, hk0⟩
  case round =>
    obtain ⟨i, hi, hk, rfl, hb, hkept⟩ := hrel
    have Hk := Lib.hid hk
    have HKE := Lib.hid hkept
    clear hk hkept hb0 hk0
    by_cases hlt : i < s.size
    · have hli : (i : Int) < (s.size : Int) := by omega
      have hx := UInt8.toNat_lt (s[i]'hlt)
      have c0 := hb.cell (marks_get _ (s[i]'hlt).toNat hx)
      have f0 := hb.free (i := (s[i]'hlt).toNat) (by rw [marks_length]; exact hx)
      have hb2 := hb.set (s[i]'hlt).toNat (.bool true) (by rw [marks_length]; exact hx)
      rw [marks_snoc, ← byte_take s i hlt] at hb2
      have HB2 := Lib.hid hb2
      clear hb hb2
      go_wp2_with fail
      go_roundg (s.size - (i + 1))
      case measure => have := Hk.out; omega
      case rel => exact ⟨i + 1, by omega, rfl, by go_num, HB2.out, HKE.out.setCell (.inr (by rw [HG.out]; exact Nat.le_refl _)) _⟩
    · obtain rfl : i = s.size := by omega
      rw [List.take_of_length_le (by rw [byte_len]; exact Nat.le_refl _)] at hb
      have HB := Lib.hid hb
      clear hb
      go_wp2_with fail
      have hr0 := Row.empty wr 5
      have hb1 := HB.out.kept ((Kept.refl [] wr).alloc (.cells #[] 5)) (by simp)
      have hk1 := HKE.out.alloc (.cells #[] 5)
      have hfr : Fresh w.heap.size (foot (.slice (some ⟨wr.heap.size, 0, none⟩) 0 0)) := by
        intro x hx; simp [foot, Value.ownBlock] at hx; have := HKE.out.size; omega
      have hng : g ∉ foot (.slice (some ⟨wr.heap.size, 0, none⟩) 0 0) := by
        have := HB.out.lt
        simp [foot, Value.ownBlock]; omega
      generalize wr.alloc (.cells #[] 5) = W1 at hr0 hb1 hk1 ⊢
      go_loopg [5, 18] 256 (fun k v c wr => SOfB s w g k v c wr)
      case atStart => exact ⟨0, by omega, by omega, rfl, hr0, hb1, hk1, hfr, hng⟩
      case round =>
        obtain ⟨n, hn, hk, rfl, hrow, hb, hkept, hfr, hng⟩ := hrel
        have Hk2 := Lib.hid hk
        have hul := K.usesTo_length s.data.toList n
        clear hk hr0 hb1 hk1
        by_cases hlt : n < 256
        · have hli : (n : Int) < 256 := by omega
          have c0 := hb.cell (marks_get _ n hlt)
          have hwn : IntKind.u8.wrap (n : Int) = (n : Int) := by rw [IntKind.wrap_u8]; omega
          have HB := Lib.hid hb
          have HKE2 := Lib.hid hkept
          have HFR := Lib.hid hfr
          have HNG := Lib.hid hng
          clear hb hkept hfr hng
          by_cases hin : UInt8.ofNat n ∈ s.data.toList
          · have e1 := K.usesTo_yes s.data.toList n hin
            have L1 : (u8s (K.usesTo s.data.toList n)).length + 1 ≤ maxLen := by rw [u8s_length]; simp only [maxLen]; omega
            have L2 : ((u8s (K.usesTo s.data.toList n)).length + 1) * 1 ≤ 140737488355328 := by rw [u8s_length]; omega
            rw [decide_eq_true hin] at c0
            have HE := Lib.hid e1
            clear e1 hin hul
            go_wp2_with ((at_builtin; refine wp_appL _ rfl _ _ 51 rfl 5 (.int .u8 0) 1 Try.underlying51 Try.infoU8 rfl _ _ [.int .u8 (n : Int)] 1 rfl rfl rfl rfl (by simp [Value.oneCell']) hrow L1 L2 ?_; intro a5 cap5 w5 hrow5 hk5 hg5))
            go_roundg (256 - (n + 1))
            case measure => have := Hk2.out; omega
            case rel =>
              refine ⟨n + 1, by omega, rfl, by go_num, ?_, HB.out.kept hk5 HNG.out, HKE2.out.new hk5 HFR.out, HFR.out.grow hg5 HKE2.out.size, ?_⟩
              · rw [HE.out, show u8s (K.usesTo s.data.toList n ++ [UInt8.ofNat n]) = u8s (K.usesTo s.data.toList n) ++ [.int .u8 (n : Int)] by simp [u8s, UInt8.toNat_ofNat', Nat.mod_eq_of_lt hlt]]
                exact hrow5
              · intro hm
                rcases hg5 g hm with h | h
                · exact HNG.out h
                · have := HB.out.lt; omega
          · have e1 := K.usesTo_no s.data.toList n hin
            rw [decide_eq_false hin] at c0
            have HE := Lib.hid e1
            clear e1 hin
            go_wp2_with fail
            go_roundg (256 - (n + 1))
            case measure => have := Hk2.out; omega
            case rel => exact ⟨n + 1, by omega, rfl, by go_num, by rw [HE.out]; exact hrow, HB.out, HKE2.out, HFR.out, HNG.out⟩
        · obtain rfl : n = 256 := by omega
          have hct := Row.text hrow
          have HKE2 := Lib.hid hkept
          clear hrow hb hkept hfr hng
          go_wp2_with fail
          go_ret
          exact ⟨rfl, HKE2.out⟩
end Go.Proofs.Ytkkjhkjgdpodeaa
