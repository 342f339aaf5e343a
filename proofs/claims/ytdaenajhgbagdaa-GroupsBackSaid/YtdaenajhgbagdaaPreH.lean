/-
  The walks of layer 9's references: Table, Number.
-/
import Derived.Test.YtdaenajhgbagdaaPreX
import Derived.Test.YtdaenajhgbagdaaPlainA
import Derived.Test.YtdaenajhgbagdaaWriteA
namespace Go.Proofs.Ytdaenajhgbagdaa
open Go.RowKit
set_option linter.unusedVariables false
set_option linter.unusedSimpArgs false

theorem Try.infoInts : (Try.prog.info? 30).map (fun i => (i.zero, i.size, i.bytes)) = some (some (.slice none 0 0), 1, 24) := by kernel_rfl
/-- The codes that are laid: those of lengths below n, and of n those of the first i symbols. -/
def laidTo (ls : List Nat) (n i : Nat) : List (List Value) := (List.range ls.length).map fun j => if ls.getD j 0 < n ∨ (ls.getD j 0 = n ∧ j < i) then bis (K.symP ls j) else []
theorem laidTo_length (ls : List Nat) (n i : Nat) : (laidTo ls n i).length = ls.length := by simp [laidTo]
theorem laidTo_get (ls : List Nat) (n i j : Nat) (h : j < ls.length) : (laidTo ls n i)[j]? = some (if ls.getD j 0 < n ∨ (ls.getD j 0 = n ∧ j < i) then bis (K.symP ls j) else []) := by simp [laidTo, List.getElem?_range h]
theorem laidTo_no (ls : List Nat) (n i : Nat) (h : ls.getD i 0 ≠ n) : laidTo ls n (i + 1) = laidTo ls n i := by
  refine List.map_congr_left fun j hj => ?_
  have : (ls.getD j 0 < n ∨ (ls.getD j 0 = n ∧ j < i + 1)) ↔ (ls.getD j 0 < n ∨ (ls.getD j 0 = n ∧ j < i)) := by
    refine or_congr Iff.rfl ⟨fun h2 => ⟨h2.1, ?_⟩, fun h2 => ⟨h2.1, by omega⟩⟩
    rcases Nat.lt_or_ge j i with h3 | h3
    · exact h3
    · obtain rfl : j = i := by omega
      exact absurd h2.1 h
  simp only [this]
theorem laidTo_yes (ls : List Nat) (n i : Nat) (hi : i < ls.length) (h : ls.getD i 0 = n) : laidTo ls n (i + 1) = (laidTo ls n i).set i (bis (K.symP ls i)) := by
  apply List.ext_getElem?
  intro j
  rw [List.getElem?_set, laidTo_length]
  by_cases hj : j < ls.length
  · rw [laidTo_get _ _ _ _ hj, laidTo_get _ _ _ _ hj]
    by_cases hij : i = j
    · subst hij
      rw [if_pos rfl, if_pos hi, if_pos (.inr ⟨h, by omega⟩)]
    · rw [if_neg hij]
      have : (ls.getD j 0 < n ∨ (ls.getD j 0 = n ∧ j < i + 1)) ↔ (ls.getD j 0 < n ∨ (ls.getD j 0 = n ∧ j < i)) := by omega
      simp only [this]
  · rw [List.getElem?_eq_none (by rw [laidTo_length]; omega), List.getElem?_eq_none (by rw [laidTo_length]; omega), if_neg (by omega)]
theorem laidTo_next (ls : List Nat) (n : Nat) : laidTo ls n ls.length = laidTo ls (n + 1) 0 := by
  refine List.map_congr_left fun j hj => ?_
  have hj := List.mem_range.1 hj
  have : (ls.getD j 0 < n ∨ (ls.getD j 0 = n ∧ j < ls.length)) ↔ (ls.getD j 0 < n + 1 ∨ (ls.getD j 0 = n + 1 ∧ j < 0)) := by omega
  simp only [this]
theorem laidTo_none (ls : List Nat) (h : ∀ x ∈ ls, 1 ≤ x) : laidTo ls 1 0 = List.replicate ls.length [] := by
  apply List.ext_getElem?
  intro j
  by_cases hj : j < ls.length
  · rw [laidTo_get _ _ _ _ hj, List.getElem?_replicate, if_pos hj, if_neg]
    have : ls.getD j 0 ∈ ls := by rw [List.getD, List.getElem?_eq_getElem hj]; exact List.getElem_mem hj
    have := h _ this
    omega
  · rw [List.getElem?_eq_none (by rw [laidTo_length]; omega), List.getElem?_eq_none (by simp; omega)]
theorem laidTo_all (ls : List Nat) (h : ∀ x ∈ ls, x ≤ 20) : laidTo ls 21 0 = (K.tabP ls).map bis := by
  apply List.ext_getElem?
  intro j
  by_cases hj : j < ls.length
  · have : ls.getD j 0 ∈ ls := by rw [List.getD, List.getElem?_eq_getElem hj]; exact List.getElem_mem hj
    have := h _ this
    rw [laidTo_get _ _ _ _ hj, List.getElem?_map, K.tabP_get ls j hj, if_pos (by omega)]
    rfl
  · rw [List.getElem?_eq_none (by rw [laidTo_length]; omega), List.getElem?_eq_none (by rw [List.length_map, K.tabP_length]; omega)]

/-- Slices vs, none in block g, show the rows. -/
def RowsG (w : World) (g : Nat) (vs : List Value) (rows : List (List Value)) : Prop := RowsM w vs rows ∧ ∀ u ∈ vs, g ∉ foot u
theorem RowsG.set {w : World} {g : Nat} {vs : List Value} {rows : List (List Value)} (h : RowsG w g vs rows) (i : Nat) (b : Option Addr) (c : Nat) (r : List Value) (hs : Sees w 1 b r.length r) (hc : r.length ≤ c) (hm : c ≤ maxLen) (hb : g ∉ footA b) (v : Value) :
    RowsG (w.setCell ⟨g, i, none⟩ v) g (vs.set i (.slice b r.length c)) (rows.set i r) := by
  have hk : Kept [g] w (w.setCell ⟨g, i, none⟩ v) := (Kept.refl _ _).setCell (by simp) _
  refine ⟨⟨by simp [h.1.1], fun j u q h1 h2 => ?_⟩, fun u hu => ?_⟩
  · rw [List.getElem?_set] at h1 h2
    by_cases hij : i = j
    · rw [if_pos hij] at h1 h2
      split at h1
      · split at h2
        · obtain rfl := Option.some.inj h1
          obtain rfl := Option.some.inj h2
          exact ⟨b, c, rfl, hs.kept hk (fun x hx hm => hb (by rw [List.mem_singleton.1 hm] at hx; exact hx)), hc, hm⟩
        · cases h2
      · cases h1
    · rw [if_neg hij] at h1 h2
      obtain ⟨b', c', h3, h4, h5⟩ := h.1.2 j u q h1 h2
      subst h3
      refine ⟨b', c', rfl, h4.kept hk (fun x hx hm => ?_), h5⟩
      have := h.2 _ (List.mem_of_getElem? h1)
      rw [foot_slice] at this
      exact this (by rw [List.mem_singleton.1 hm] at hx; exact hx)
  · rcases List.mem_or_eq_of_mem_set hu with h1 | h1
    · exact h.2 u h1
    · rw [h1, foot_slice]; exact hb
theorem RowsG.kept0 {w w' : World} {g : Nat} {vs : List Value} {rows : List (List Value)} (h : RowsG w g vs rows) (hk : Kept [] w w') : RowsG w' g vs rows := ⟨h.1.kept0 hk, h.2⟩
/-- The same, and all of the slices lie in blocks from g on. -/
def RowsH (w : World) (g : Nat) (vs : List Value) (rows : List (List Value)) : Prop := RowsG w g vs rows ∧ ∀ u ∈ vs, Fresh g (foot u)
theorem RowsH.set {w : World} {g : Nat} {vs : List Value} {rows : List (List Value)} (h : RowsH w g vs rows) (i : Nat) (b : Option Addr) (c : Nat) (r : List Value) (hs : Sees w 1 b r.length r) (hc : r.length ≤ c) (hm : c ≤ maxLen) (hb : ∀ x ∈ footA b, g < x) (v : Value) :
    RowsH (w.setCell ⟨g, i, none⟩ v) g (vs.set i (.slice b r.length c)) (rows.set i r) := by
  refine ⟨h.1.set i b c r hs hc hm (fun hm => by have := hb g hm; omega) v, fun u hu => ?_⟩
  rcases List.mem_or_eq_of_mem_set hu with h1 | h1
  · exact h.2 u h1
  · rw [h1, foot_slice]
    exact fun x hx => Nat.le_of_lt (hb x hx)
theorem RowsH.kept0 {w w' : World} {g : Nat} {vs : List Value} {rows : List (List Value)} (h : RowsH w g vs rows) (hk : Kept [] w w') : RowsH w' g vs rows := ⟨h.1.kept0 hk, h.2⟩
/-- What Table leaves. -/
def TablePost (n : Nat) (rows : List (List Value)) (w : World) (e : Ending) (w' : World) : Prop :=
  ∃ g, e = .returned (.slice (some ⟨g, 0, none⟩) n n) ∧ SeesM w' (some ⟨g, 0, none⟩) n rows ∧ Kept [] w w'
/-- The same, and elder blocks may turn behind it. -/
def TablePostF (n : Nat) (rows : List (List Value)) (w : World) (e : Ending) (w' : World) : Prop :=
  ∃ g, e = .returned (.slice (some ⟨g, 0, none⟩) n n) ∧ Kept [] w w' ∧ ∀ S w'', Kept S w' w'' → (∀ x ∈ S, x < w.heap.size) → SeesM w'' (some ⟨g, 0, none⟩) n rows
theorem RowsM.keptS {S : List Nat} {w w' : World} {vs : List Value} {rows : List (List Value)} (h : RowsM w vs rows) (hk : Kept S w w') (ha : ∀ u ∈ vs, Apart (foot u) S) : RowsM w' vs rows :=
  ⟨h.1, fun i u r h1 h2 => by
    obtain ⟨b, c, rfl, h4, h5⟩ := h.2 i u r h1 h2
    exact ⟨b, c, rfl, h4.kept hk (by have := ha _ (List.mem_of_getElem? h1); rwa [foot_slice] at this), h5⟩⟩
/-- In Table's loop: lengths below n are laid. -/
def RTabI (w0 : World) (g : Nat) (ls : List Nat) (k : Nat) (cv nv : Value) (w : World) : Prop :=
  ∃ n vs, 1 ≤ n ∧ n ≤ 21 ∧ k = 21 - n ∧ nv = .int .i64 (n : Nat) ∧ cv = .int .i64 (K.firstP ls (n - 1) + ls.count (n - 1) : Nat) ∧ Row w 30 (.slice (some ⟨g, 0, none⟩) ls.length ls.length) vs ∧ RowsH w g vs (laidTo ls n 0) ∧ Kept [g] w0 w
/-- In the loop within. -/
def RTabJ (w0 : World) (g : Nat) (ls : List Nat) (n : Nat) (k : Nat) (cv iv : Value) (w : World) : Prop :=
  ∃ i vs, i ≤ ls.length ∧ k = ls.length - i ∧ iv = .int .i64 (i : Nat) ∧ cv = .int .i64 (K.firstP ls n + (K.idxsTo ls n i).length : Nat) ∧ Row w 30 (.slice (some ⟨g, 0, none⟩) ls.length ls.length) vs ∧ RowsH w g vs (laidTo ls n i) ∧ Kept [g] w0 w

set_option maxHeartbeats 1000000 in
theorem rtable_new (a : Option Addr) (cap : Nat) (xs : List Int) (w : World) (h : Sees w 1 a xs.length (intVals xs)) (hok : K.goodL xs = true) :
    Calls Try.prog 50 #[.slice a xs.length cap] w (TablePostF xs.length ((K.tabP (K.natsOf xs)).map bis) w) := by
  have hin := ((K.lensOk_iff xs).1 (K.goodL_lens hok)).2
  have hl := ((K.lensOk_iff xs).1 (K.goodL_lens hok)).1
  obtain ⟨b0, off, rfl, -⟩ := h.at (by rw [intVals_length]; omega)
  have hlt0 := h.lt (by rw [intVals_length]; omega) b0 (by simp [footA])
  have hgd := K.goodL_in hok
  have hfit := fun n hn => K.fits (K.natsOf xs) (fun x hx => (hgd x hx).2) (K.goodL_room hok) n hn
  obtain ⟨ls, hls⟩ : ∃ ls, K.natsOf xs = ls := ⟨_, rfl⟩
  have hll : ls.length = xs.length := by rw [← hls, K.natsOf_length]
  have hget : ∀ i x, xs[i]? = some x → x = ((ls.getD i 0 : Nat) : Int) := by
    intro i x hx
    have := hin x (List.mem_of_getElem? hx)
    rw [← hls]; unfold K.natsOf
    rw [List.getD, List.getElem?_map, hx]
    simp; omega
  rw [hls] at hgd hfit ⊢
  have hzc : ls.count 0 = 0 := by
    rw [List.count_eq_zero]
    intro h; have := (hgd 0 h).1; omega
  have HS := Lib.hid h
  have HGD := Lib.hid hgd
  have HFIT := Lib.hid hfit
  have HLL := Lib.hid hll
  have HGET := Lib.hid hget
  have HZC := Lib.hid hzc
  clear h hin hgd hfit hls hll hget hzc hok
  go_enter Try.func50, Try.ntmps50
  go_wp2_with ((at_make; refine wp_make1 rfl _ _ 29 rfl 30 (.slice none 0 0) 24 Try.underlying29 Try.infoInts rfl .i64 .i64 _ _ xs.length xs.length rfl rfl rfl rfl (Nat.le_refl _) (by omega) (by simp only [maxLen]; omega) ?_; intro w1 hrow1 hk1))
  generalize hg : w.heap.size = g at hrow1 hlt0 ⊢
  have hrow2 : Row w1 30 (.slice (some ⟨g, 0, none⟩) ls.length ls.length) (List.replicate ls.length (.slice none 0 0)) := by rw [HLL.out]; exact hrow1
  have HR1 := Lib.hid hrow2
  have HK1 := Lib.hid hk1
  have HG := Lib.hid hg
  clear hrow1 hrow2 hk1 hg
  go_loopg [4, 5] 20 (fun k cv nv wr => RTabI w1 g ls k cv nv wr)
  case atStart =>
    refine ⟨1, _, Nat.le_refl _, by omega, by omega, rfl, by rw [show 1 - 1 = 0 from rfl, HZC.out]; rfl, HR1.out, ⟨⟨⟨by rw [laidTo_length]; simp, fun i u r h1 h2 => ?_⟩, fun u hu => ?_⟩, fun u hu => ?_⟩, Kept.refl _ _⟩
    · rw [laidTo_none ls (fun x hx => (HGD.out x hx).1)] at h2
      rw [List.getElem?_replicate] at h1 h2
      split at h1
      · rename_i hil
        rw [if_pos hil] at h2
        obtain rfl := Option.some.inj h1
        obtain rfl := Option.some.inj h2
        exact ⟨none, 0, rfl, ⟨rfl, fun j u hj => by simp at hj⟩, Nat.le_refl _, Nat.zero_le _⟩
      · cases h1
    · obtain rfl := List.eq_of_mem_replicate hu
      simp [foot, Value.ownBlock]
    · obtain rfl := List.eq_of_mem_replicate hu
      simp [foot, Value.ownBlock, Fresh]
  case round =>
    obtain ⟨n, vs, hn1, hn, hk, rfl, rfl, hrow, hrows, hkept⟩ := hrel
    have Hk := Lib.hid hk
    have HROW := Lib.hid hrow
    have HRS := Lib.hid hrows
    have HKE := Lib.hid hkept
    clear hk hrow hrows hkept
    by_cases hlt : n ≤ 20
    · have hni : (n : Int) ≤ 20 := by omega
      have hfit1 := HFIT.out (n - 1) (by omega)
      have hp20 : 2 ^ (n - 1) ≤ 2 ^ 19 := Nat.pow_le_pow_right (by decide) (by omega)
      have hcode : K.firstP ls n = 2 * (K.firstP ls (n - 1) + ls.count (n - 1)) := by
        obtain ⟨m, rfl⟩ : ∃ m, n = m + 1 := ⟨n - 1, by omega⟩
        rw [Nat.add_sub_cancel, K.firstP]
      have hc19 : K.firstP ls (n - 1) + ls.count (n - 1) ≤ 524288 := Nat.le_trans hfit1 hp20
      obtain ⟨code, hcd⟩ : ∃ code, K.firstP ls (n - 1) + ls.count (n - 1) = code := ⟨_, rfl⟩
      rw [hcd] at hcode hc19 ⊢
      have HCODE := Lib.hid hcode
      clear hfit1 hp20 hcd hcode
      go_wp2_with fail
      go_loopg [4, 6] ls.length (fun k cv iv wr => RTabJ w1 g ls n k cv iv wr)
      case atStart => exact ⟨0, vs, by omega, by omega, rfl, by rw [K.idxsTo_zero, HCODE.out]; go_num, HROW.out, HRS.out, HKE.out⟩
      case round =>
        obtain ⟨i, vs, hi, hk, rfl, rfl, hrow, hrows, hkept⟩ := hrel
        have Hk2 := Lib.hid hk
        have HROW2 := Lib.hid hrow
        have HRS2 := Lib.hid hrows
        have HKE2 := Lib.hid hkept
        have hidl := K.idxsTo_length ls n i hi
        have hcl : (ls.take i).count n ≤ 258 := Nat.le_trans (List.count_le_length ..) (by rw [List.length_take]; have := HLL.out; omega)
        clear hk hrow hrows hkept
        by_cases hlt2 : i < xs.length
        · have hli : (i : Int) < (xs.length : Int) := by omega
          have hils : i < ls.length := by rw [HLL.out]; exact hlt2
          obtain ⟨x, hx⟩ : ∃ x, xs[i]? = some x := ⟨_, List.getElem?_eq_getElem hlt2⟩
          have hxe := HGET.out i x hx
          have hgb : ¬ b0 = g := by have := hlt0; omega
          have c0 := ((HS.out.kept0 HK1.out).kept HKE2.out (fun y hy hm => by simp [footA] at hy; rw [List.mem_singleton.1 hm] at hy; exact hgb hy.symm)).int hx
          obtain ⟨m, hm⟩ : ∃ m, ls.getD i 0 = m := ⟨_, rfl⟩
          rw [hm] at hxe
          subst hxe
          have HM := Lib.hid hm
          have hfl := HFIT.out n hlt
          have hp : 2 ^ n ≤ 2 ^ 20 := Nat.pow_le_pow_right (by decide) hlt
          have hf20 : K.firstP ls n ≤ 1048576 := by
            have e : (2 : Nat) ^ 20 = 1048576 := rfl
            omega
          clear hx hm hfl hp
          by_cases hmn : m = n
          · subst hmn
            have hcp : K.codeP ls i = K.firstP ls m + (K.idxsTo ls m i).length := by unfold K.codeP; rw [HM.out, hidl]
            have HCP := Lib.hid hcp
            have hyes := K.idxsTo_yes ls m i HM.out
            have HY := Lib.hid hyes
            have hly := laidTo_yes ls m i hils HM.out
            have HLY := Lib.hid hly
            generalize hcg : K.firstP ls m + (K.idxsTo ls m i).length = c at hcp ⊢
            have HCG := Lib.hid hcg
            have hc30 : c ≤ 2000000 := by omega
            have hcw : IntKind.u64.wrap (c : Int) = (c : Int) := by rw [IntKind.wrap_u64]; omega
            clear hcp hyes hly hcg hidl hcl
            go_wp2_with fail
            refine (refBits_ok c m _ (by omega) (by omega)).mono ?_
            rintro e w5 ⟨g5, rfl, hrow5, hk5, hg5⟩
            have hgl : g < wr.heap.size := HROW2.out.lt g (by simp [foot, Value.ownBlock])
            have hr6 := HROW2.out.kept hk5 (by simp)
            have hs6 := HRS2.out.kept0 hk5
            have hsy : K.symP ls i = K.low c m := by unfold K.symP; rw [HM.out, HCP.out, HCG.out]
            have hbl : (bis (K.symP ls i)).length = m := by rw [bis_length, K.symP_length, HM.out]
            have hseeb : Sees w5 1 (some ⟨g5, 0, none⟩) (bis (K.symP ls i)).length (bis (K.symP ls i)) := by
              rw [hbl, hsy]; exact hrow5.seeA
            have hset := hs6.set i (some ⟨g5, 0, none⟩) m (bis (K.symP ls i)) hseeb (by rw [hbl]; exact Nat.le_refl _) (by simp only [maxLen]; omega) (by intro x hx; simp [footA] at hx; omega) (.slice (some ⟨g5, 0, none⟩) m m)
            rw [← HLY.out, hbl] at hset
            have hput := hr6.put i (.slice (some ⟨g5, 0, none⟩) m m)
            obtain ⟨old, hold⟩ : ∃ old, vs[i]? = some old := ⟨_, List.getElem?_eq_getElem (by rw [HRS2.out.1.1.1, laidTo_length]; exact hils)⟩
            have cg := hr6.cellAt hold
            have fg := hr6.free i
            have HSET := Lib.hid hset
            have HPUT := Lib.hid hput
            have HKK := Lib.hid ((HKE2.out.trans hk5 (by simp)).setCell (p := ⟨g, i, none⟩) (by simp) (.slice (some ⟨g5, 0, none⟩) m m))
            clear hrow5 hk5 hr6 hs6 hsy hbl hseeb hset hput hold c0
            go_wp2_with fail
            go_roundg (ls.length - (i + 1))
            case measure => have := Hk2.out; have := HLL.out; omega
            case rel => exact ⟨i + 1, _, by omega, rfl, by go_num, by rw [HY.out, List.length_append, ← HCG.out]; go_num, HPUT.out, HSET.out, HKK.out⟩
          · have hmi : ((m : Int) == (n : Int)) = false := by simp; omega
            have hmi2 : ¬ (m : Int) = (n : Int) := by omega
            have hno := K.idxsTo_no ls n i (by rw [HM.out]; exact hmn)
            have hln := laidTo_no ls n i (by rw [HM.out]; exact hmn)
            have HN := Lib.hid hno
            have HLN := Lib.hid hln
            clear hno hln hmn hidl hcl
            go_wp2_with fail
            go_roundg (ls.length - (i + 1))
            case measure => have := Hk2.out; have := HLL.out; omega
            case rel => exact ⟨i + 1, vs, by omega, rfl, by go_num, by rw [HN.out], HROW2.out, by rw [HLN.out]; exact HRS2.out, HKE2.out⟩
        · have hie : i = ls.length := by have := HLL.out; omega
          have hid : (K.idxsTo ls n i).length = ls.count n := by rw [hidl, hie, List.take_length]
          have hrs := HRS2.out
          rw [hie, laidTo_next] at hrs
          have HRS3 := Lib.hid hrs
          have HID := Lib.hid hid
          clear hidl hcl hie hid hrs
          go_wp2_with fail
          go_roundg (21 - (n + 1))
          case measure => have := Hk.out; omega
          case rel => exact ⟨n + 1, vs, by omega, by omega, rfl, by go_num, by rw [Nat.add_sub_cancel, HID.out], HROW2.out, HRS3.out, HKE2.out⟩
    · obtain rfl : n = 21 := by omega
      have hrs := HRS.out.1.1
      have HFR := Lib.hid HRS.out.2
      rw [laidTo_all ls (fun x hx => (HGD.out x hx).2)] at hrs
      have hse := HROW.out.seeA
      rw [HLL.out] at hse
      have HRS3 := Lib.hid hrs
      have HSE := Lib.hid hse
      clear hrs hse
      go_wp2_with fail
      go_ret
      refine ⟨g, rfl, HK1.out.trans HKE.out (fun x hx => .inr (by rw [List.mem_singleton.1 hx, HG.out]; exact Nat.le_refl _)), fun S w'' hS hlt => ⟨vs, HSE.out.kept hS ?_, HRS3.out.keptS hS fun u hu x hx hm => ?_⟩⟩
      · intro x hx hm
        simp [footA] at hx
        have h1 := hlt x hm
        have h2 := HG.out
        omega
      · have h1 := hlt x hm
        have h2 := HG.out
        have h3 := HFR.out u hu x hx
        omega
theorem rtable_ok (a : Option Addr) (cap : Nat) (xs : List Int) (w : World) (h : Sees w 1 a xs.length (intVals xs)) (hok : K.goodL xs = true) :
    Calls Try.prog 50 #[.slice a xs.length cap] w (TablePost xs.length ((K.tabP (K.natsOf xs)).map bis) w) := by
  refine (rtable_new a cap xs w h hok).mono ?_
  rintro e w' ⟨g, rfl, hk, hs⟩
  exact ⟨g, rfl, hs [] w' (Kept.refl _ _) (by simp), hk⟩
end Go.Proofs.Ytdaenajhgbagdaa
