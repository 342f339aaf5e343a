/-
  The walk of lengths.Flat.
-/
import Derived.Test.YtcjkjknahalpnaaLenI
import Derived.Test.YtcjkjknahalpnaaLenG
import Derived.Test.YtcjkjknahalpnaaRefP
namespace Go.Proofs.Ytcjkjknahalpnaa
open Go.RowKit
set_option linter.unusedVariables false
set_option linter.unusedSimpArgs false

theorem treesC_zero (n : Nat) : treesC (List.replicate n (0, 0)) = List.replicate (n * 2) (.int .i64 0) := by
  induction n with
  | zero => rfl
  | succ n ih => rw [List.replicate_succ, show (n + 1) * 2 = n * 2 + 1 + 1 by omega, List.replicate_succ, List.replicate_succ, ← ih]; rfl
theorem made_trees (n : Nat) : (madeCells #[.int .i64 0, .int .i64 0] (n * 2)).toList = treesC (List.replicate n (0, 0)) := by
  rw [treesC_zero]
  apply List.ext_getElem?
  intro t
  by_cases h : t < n * 2
  · have e : t % 2 = 0 ∨ t % 2 = 1 := by omega
    simp only [madeCells, Array.toList_map, List.getElem?_map, Array.toList_range, List.getElem?_range h, List.getElem?_replicate, h, if_true, Option.map_some]
    rcases e with e | e <;> simp [e]
  · rw [List.getElem?_eq_none (by simp [madeCells]; omega), List.getElem?_eq_none (by simp; omega)]
/-- The walk's arm at 'make([]tree, n)'. -/
theorem wp_makeT {w : World} {ops : Array Oper} {rest : List Oper} {o : Oper} {a : Act} {Q : Exit → Act → World → Prop}
    (hg : o.guard = none) (l c : Operand) (t : TypeId) (hop : o.op = Op.makeSlice t l c)
    (e : TypeId) (hu : Try.prog.underlying t = some (.slice e)) (T : (Try.prog.info? e).map (fun i => (i.zero, i.size, i.bytes)) = some (some (.agg #[.int .i64 0, .int .i64 0]), 2, 16))
    (kl kc : IntKind) (n : Nat) (hl : a.eval l = .int kl n) (hc : a.eval c = .int kc n) (hm : n ≤ 1000000)
    (hK : ∀ w', RowN w' e 2 (.slice (some ⟨w.heap.size, 0, none⟩) n n) n (treesC (List.replicate n (0, 0))) → Kept [] w w' → wpList Try.prog ops Q rest (a.put o.dst (.slice (some ⟨w.heap.size, 0, none⟩) n n)) w') :
    wpList Try.prog ops Q (o :: rest) a w := by
  obtain ⟨i, hi, h0, h1, h2⟩ := info_parts T
  have hb' : (i.bytes : Int) * (n : Int) ≤ 281474976710656 := by
    rw [h2]; omega
  have hr := run_make (P := Try.prog) w t e i _ hu hi h0 kl kc n n (by omega) (by omega) hb' (by omega)
  refine wpList_plain hg fun K hK' => ?_
  unfold Oper.wp
  simp [execOp, hop, hl, hc, hr, Result.andThen]
  refine hK' _ _ (hK _ ⟨by rw [treesC_length]; simp, .inr ⟨w.heap.size, n, _, by simp, Nat.zero_le _, heap_alloc_new w _, Nat.le_refl _, by simp only [maxLen]; omega, by rw [h1]; simp [size_madeCells], ?_⟩⟩ ((Kept.refl _ _).alloc _))
  rw [h1, show (Value.agg #[.int .i64 0, .int .i64 0]).cells = #[.int .i64 0, .int .i64 0] from by rfl, made_trees, List.take_of_length_le (by rw [treesC_length]; simp)]

/-- The trees that Flat sorts. -/
def pairsF (xs : List Int) (i : Nat) : List (Int × Int) := (List.range i).map fun j => (-(((ownN xs).getD j 0 : Nat) : Int), (j : Int))
theorem pairsF_len (xs : List Int) (i : Nat) : (pairsF xs i).length = i := by simp [pairsF]
theorem pairsF_set (xs : List Int) (i : Nat) (x : Int) (h : xs[i]? = some x) (n : Nat) (hi : i < n) : (pairsF xs i ++ List.replicate (n - i) (0, 0)).set i (-clampI x, (i : Int)) = pairsF xs (i + 1) ++ List.replicate (n - (i + 1)) (0, 0) := by
  have e := ownN_get h
  rw [List.set_append_right _ _ (by rw [pairsF_len]; exact Nat.le_refl _), pairsF_len, Nat.sub_self, show n - i = (n - (i + 1)) + 1 by omega, List.replicate_succ, List.set_cons_zero]
  unfold pairsF
  rw [List.range_succ, List.map_append, List.append_assoc]
  simp only [List.map_cons, List.map_nil, e]
  rfl
/-- What is told when i symbols of the sorted ones have theirs. -/
def outF (ws : List Nat) (i : Nat) : List Nat := (List.range ws.length).map fun j => if K.frontN ws j < i then K.flatAt ws.length (K.frontN ws j) else 0
theorem outF_len (ws : List Nat) (i : Nat) : (outF ws i).length = ws.length := by simp [outF]
theorem outF_zero (ws : List Nat) : outF ws 0 = List.replicate ws.length 0 := by
  unfold outF
  apply List.ext_getElem?
  intro j
  by_cases h : j < ws.length
  · simp [List.getElem?_range h, h]
  · rw [List.getElem?_eq_none (by simp; omega), List.getElem?_eq_none (by simp; omega)]
theorem outF_all (ws : List Nat) : outF ws ws.length = K.flatL ws := by
  unfold outF K.flatL
  apply List.map_congr_left
  intro j hj
  rw [List.mem_range] at hj
  have hp := (K.front_perm ws).mem_iff.1 (List.mem_map.2 ⟨j, List.mem_range.2 hj, rfl⟩)
  rw [List.mem_range] at hp
  rw [if_pos hp]
structure SortedT (ws : List Nat) (l : List (Int × Int)) : Prop where
  len : l.length = ws.length
  at_ : ∀ (p : Nat) (t : Int × Int), l[p]? = some t → ∃ q : Nat, t.2 = (q : Int) ∧ q < ws.length ∧ K.frontN ws q = p
  all : ∀ q, q < ws.length → ∃ (p : Nat) (t : Int × Int), l[p]? = some t ∧ t.2 = (q : Int)
theorem sorted_of {xs : List Int} {l : List (Int × Int)} (hp : l.Perm (pairsF xs xs.length)) (hs : l.Pairwise fun a b => ¬ (b.1 < a.1 ∨ (b.1 = a.1 ∧ b.2 < a.2))) : SortedT (ownN xs) l := by
  have hlen : l.length = xs.length := by rw [hp.length_eq, pairsF_len]
  have hmem : ∀ t ∈ l, ∃ q : Nat, q < xs.length ∧ t = (-(((ownN xs).getD q 0 : Nat) : Int), (q : Int)) := by
    intro t ht
    obtain ⟨q, hq, rfl⟩ := List.mem_map.1 (hp.mem_iff.1 ht)
    exact ⟨q, List.mem_range.1 hq, rfl⟩
  have hL : (l.map fun t => t.2.toNat).Perm (List.range (ownN xs).length) := by
    have h1 := hp.map fun t => t.2.toNat
    have h2 : (pairsF xs xs.length).map (fun t => t.2.toNat) = List.range (ownN xs).length := by
      rw [ownN_length]
      unfold pairsF
      rw [List.map_map]
      conv => rhs; rw [← List.map_id (List.range xs.length)]
      apply List.map_congr_left
      intro j _
      simp
    rwa [h2] at h1
  have hpw : (l.map fun t => t.2.toNat).Pairwise fun a b => K.before (ownN xs) a b = false := by
    rw [List.pairwise_map, List.pairwise_iff_getElem]
    rw [List.pairwise_iff_getElem] at hs
    intro i j hi hj hij
    have h1 := hs i j hi hj hij
    obtain ⟨a, ha, ea⟩ := hmem l[i] (List.getElem_mem _)
    obtain ⟨b, hb, eb⟩ := hmem l[j] (List.getElem_mem _)
    rw [ea, eb] at h1 ⊢
    unfold K.before
    rw [decide_eq_false_iff_not]
    simp only [Int.toNat_natCast] at h1 ⊢
    omega
  refine ⟨by rw [hlen, ownN_length], fun p t ht => ?_, fun q hq => ?_⟩
  · obtain ⟨q, hq, rfl⟩ := hmem t (List.mem_of_getElem? ht)
    refine ⟨q, rfl, by rw [ownN_length]; exact hq, ?_⟩
    exact K.front_at hL hpw p q (by rw [List.getElem?_map, ht]; simp)
  · have hm : q ∈ l.map fun t => t.2.toNat := hL.mem_iff.2 (List.mem_range.2 hq)
    obtain ⟨t, ht, hqe⟩ := List.mem_map.1 hm
    obtain ⟨p, hpl, hpe⟩ := List.mem_iff_getElem.1 ht
    obtain ⟨q2, -, e2⟩ := hmem t ht
    refine ⟨p, t, by rw [← hpe]; exact List.getElem?_eq_getElem hpl, ?_⟩
    rw [e2] at hqe ⊢
    simp at hqe ⊢
    omega
theorem outF_set {ws : List Nat} {l : List (Int × Int)} (h : SortedT ws l) {p q : Nat} {t : Int × Int} (ht : l[p]? = some t) (hq : t.2 = (q : Int)) : (outF ws p).set q (K.flatAt ws.length p) = outF ws (p + 1) := by
  obtain ⟨q', e1, hlt, hf⟩ := h.at_ p t ht
  have : q' = q := by omega
  subst this
  apply List.ext_getElem?
  intro j
  rw [List.getElem?_set]
  by_cases hj : j < ws.length
  · have g : ∀ i, (outF ws i)[j]? = some (if K.frontN ws j < i then K.flatAt ws.length (K.frontN ws j) else 0) := fun i => by simp [outF, List.getElem?_range hj]
    rw [g, g]
    by_cases he : q' = j
    · subst he
      rw [if_pos rfl, if_pos (by rw [outF_len]; exact hlt), hf, if_pos (by omega)]
    · rw [if_neg he]
      have hne : K.frontN ws j ≠ p := by
        intro hfj
        obtain ⟨p2, t2, h2, h3⟩ := h.all j hj
        obtain ⟨q2, e2, -, f2⟩ := h.at_ p2 t2 h2
        have hq2 : q2 = j := by omega
        subst hq2
        have hpp : p2 = p := by omega
        subst hpp
        rw [ht] at h2
        cases h2
        omega
      by_cases h1 : K.frontN ws j < p
      · rw [if_pos h1, if_pos (by omega)]
      · rw [if_neg h1, if_neg (by omega)]
  · rw [if_neg (by omega), List.getElem?_eq_none (by rw [outF_len]; omega), List.getElem?_eq_none (by rw [outF_len]; omega)]

theorem wflat_bad (a : Option Addr) (c : Nat) (xs : List Int) (w : World) (h : Sees w 1 a xs.length (intVals xs)) (hl : xs.length ≤ 17592186043904) (hno : mayL xs = false) :
    Calls Try.prog 14 #[.slice a xs.length c] w (NatsPost ([], 2) w) := by
  have M := wmay_any a c xs w h hl
  rw [hno] at M
  clear h hno
  go_enter Try.func14, Try.ntmps14
  go_wp2_with fail
  refine M.mono ?_
  rintro e w' ⟨rfl, rfl⟩
  go_wp2_with fail
  go_ret2
  exact .err rfl (Kept.refl _ _)

def OrdI (w0 : World) (xs : List Int) (g : Nat) (m : Nat) (v : Value) (wr : World) : Prop :=
  ∃ i : Nat, m = xs.length - i ∧ i ≤ xs.length ∧ v = .int .i64 (i : Nat) ∧ Hid (RowN wr 43 2 (.slice (some ⟨g, 0, none⟩) xs.length xs.length) xs.length (treesC (pairsF xs i ++ List.replicate (xs.length - i) (0, 0)))) ∧ Hid (Kept [] w0 wr)
def OutI (w0 : World) (xs : List Int) (g go : Nat) (l : List (Int × Int)) (m : Nat) (v : Value) (wr : World) : Prop :=
  ∃ i : Nat, m = xs.length - i ∧ i ≤ xs.length ∧ v = .int .i64 (i : Nat) ∧ Hid (Sees wr 2 (some ⟨g, 0, none⟩) xs.length (treesC l)) ∧ Hid (Row wr 3 (.slice (some ⟨go, 0, none⟩) xs.length xs.length) (natVals (outF (ownN xs) i))) ∧ Hid (Kept [] w0 wr)
set_option maxHeartbeats 1000000 in
theorem wflat_good (a : Option Addr) (c : Nat) (xs : List Int) (w : World) (h : Sees w 1 a xs.length (intVals xs)) (hm : mayL xs = true) :
    Calls Try.prog 14 #[.slice a xs.length c] w (NatsPost (K.flatL (ownN xs), 0) w) := by
  obtain ⟨hx2, hx258, hall⟩ := mayL_get hm
  have M := wmay_any a c xs w h (by omega)
  rw [hm] at M
  have HS := Lib.hid h
  have HALL := Lib.hid hall
  obtain ⟨b, off, rfl, -⟩ := h.at (by rw [intVals_length]; omega)
  clear h hm hall
  go_enter Try.func14, Try.ntmps14
  go_wp2_with fail
  refine M.mono ?_
  rintro e w' ⟨rfl, rfl⟩
  clear M
  go_wp2_with fail
  go_loopg [5] 8 (fun g v wr => ∃ k : Nat, g = 9 - k ∧ 1 ≤ k ∧ k ≤ 8 ∧ Hid (2 ^ k ≤ xs.length) ∧ v = .int .i64 (k : Nat) ∧ w = wr)
  case atStart => exact ⟨1, by omega, by omega, by omega, Lib.hid hx2, rfl, rfl⟩
  case round =>
    obtain ⟨k, hg, hk1, hk8, HP, rfl, rfl⟩ := hrel
    have Hg := Lib.hid hg
    clear hg
    obtain ⟨t, ht⟩ : ∃ t, k + 1 = t := ⟨_, rfl⟩
    have hsub : (k : Int) + 1 = (t : Int) := by omega
    have hpw : (2 : Int) ^ t = ((2 ^ t : Nat) : Int) := by norm_cast
    have hp512 : 2 ^ t ≤ 512 := by
      have := Nat.pow_le_pow_right (n := 2) (by omega) (show t ≤ 9 by omega)
      omega
    have HT := Lib.hid ht
    obtain ⟨p, hp⟩ : ∃ p, 2 ^ t = p := ⟨_, rfl⟩
    have HPP := Lib.hid hp
    rw [hp] at hpw hp512
    have ht9 : t ≤ 9 := by omega
    have ht0 : (0 : Int) ≤ (t : Int) := by omega
    clear ht hp
    by_cases hle : p ≤ xs.length
    · have hlei : (p : Int) ≤ (xs.length : Int) := by omega
      go_wp2_with fail
      go_roundg (9 - t)
      case measure => have := Hg.out; have := HT.out; omega
      case rel => exact ⟨t, rfl, by omega, by rw [← HPP.out] at hle; exact pow_big hle hx258, Lib.hid (by rw [HPP.out]; exact hle), by first | rfl | simp, rfl⟩
    · have hlei : ¬ (p : Int) ≤ (xs.length : Int) := by omega
      have HLOG := Lib.hid (show Nat.log2 xs.length = k from K.log2_is (by omega) HP.out (by rw [HT.out, HPP.out]; omega))
      have hpos : 0 < xs.length := by omega
      go_wp2_with ((at_make; refine wp_makeT rfl _ _ 41 rfl 43 Try.underlying41 Try.infoTree .i64 .i64 xs.length rfl rfl (by omega) ?_; intro w1 hrow1 hk1'))
      obtain ⟨g, hgoe⟩ : ∃ g, w.heap.size = g := ⟨_, rfl⟩
      have HGE := Lib.hid (show w.heap.size ≤ g by omega)
      rw [hgoe] at hrow1 ⊢
      have HROW := Lib.hid hrow1
      have HK1 := Lib.hid hk1'
      clear hrow1 hk1' hgoe Hg
      go_loopg [28] xs.length (fun m v wr => OrdI w xs g m v wr)
      case atStart => exact ⟨0, by omega, by omega, rfl, by simpa [pairsF] using HROW, HK1⟩
      case round =>
        clear HROW HK1
        obtain ⟨i, hg, hi, rfl, HR, HK⟩ := hrel
        have Hg := Lib.hid hg
        clear hg
        by_cases hlt : i < xs.length
        · have hli : (i : Int) < (xs.length : Int) := by omega
          obtain ⟨x, hx⟩ : ∃ x, xs[i]? = some x := ⟨_, List.getElem?_eq_getElem hlt⟩
          have c0 := (HS.out.kept0 HK.out).int hx
          obtain ⟨hx0, hx1⟩ := HALL.out x (List.mem_of_getElem? hx)
          have hz : (pairsF xs i ++ List.replicate (xs.length - i) (0, 0))[i]? = some (0, 0) := by
            rw [List.getElem?_append_right (by rw [pairsF_len]; exact Nat.le_refl _), pairsF_len, Nat.sub_self, List.getElem?_replicate, if_pos (by omega)]
          have d0 : wr.cell? ⟨g, i * 2, none⟩ = some (.int .i64 0) := HR.out.cellAt (treesC_get hz).1
          have d1 : wr.cell? ⟨g, i * 2 + 1, none⟩ = some (.int .i64 0) := HR.out.cellAt (treesC_get hz).2
          have f0 := HR.out.free (i * 2)
          have f1 := HR.out.free (i * 2 + 1)
          have HPS := Lib.hid (pairsF_set xs i x hx xs.length hlt)
          clear hx hz
          have HMX := Lib.hid (show clampI x = max x 1 by unfold clampI; rw [Int.max_def]; split <;> split <;> omega)
          go_wp2_with fail
          go_roundg (xs.length - (i + 1))
          case measure => have := Hg.out; omega
          case rel =>
            have h2 := (HR.out.put (i * 2) (.int .i64 (-clampI x))).put (i * 2 + 1) (.int .i64 (i : Int))
            rw [treesC_set _ i (-clampI x, (i : Int)), HPS.out] at h2
            have h3 := (HK.out.setCell (p := ⟨g, i * 2, none⟩) (.inr HGE.out) (.int .i64 (-clampI x))).setCell (p := ⟨g, i * 2 + 1, none⟩) (.inr HGE.out) (.int .i64 (i : Int))
            rw [HMX.out] at h2 h3
            exact ⟨i + 1, by omega, by omega, by simp, Lib.hid h2, Lib.hid h3⟩
        · obtain rfl : i = xs.length := by omega
          have hll : ¬ (xs.length : Int) < (xs.length : Int) := by omega
          have hrow := HR.out
          rw [Nat.sub_self, List.replicate_zero, List.append_nil] at hrow
          have hbd : ∀ t ∈ pairsF xs xs.length, TreeB t := by
            intro t ht
            obtain ⟨q, hq, rfl⟩ := List.mem_map.1 ht
            rw [List.mem_range] at hq
            have e := ownN_get (List.getElem?_eq_getElem hq)
            have h2 := HALL.out xs[q] (List.getElem_mem _)
            have h3 : clampI xs[q] ≤ 1073741824 := by unfold clampI; split <;> omega
            unfold TreeB
            simp only
            omega
          have HSORT := Lib.hid (sortT_any g xs.length xs.length (pairsF xs xs.length) wr hrow (pairsF_len _ _) (by omega) hbd)
          clear hrow hbd HR
          go_wp2_with fail
          refine HSORT.out.mono ?_
          rintro e w3 ⟨rfl, l, hperm, hpw, hsee, hk3⟩
          have HST := Lib.hid (sorted_of hperm hpw)
          have HSEE := Lib.hid hsee
          have HK3 := Lib.hid (HK.out.trans hk3 (by intro x hx; simp at hx; subst hx; exact .inr HGE.out))
          have hgw3 : g < w3.heap.size := hsee.lt (by have := hsee.1; omega) g (by simp [footA])
          clear hperm hpw hsee hk3 HSORT HK
          go_wp2_with ((at_make; refine wp_make1 rfl _ _ 22 rfl 3 (.int .i64 0) 8 Try.underlying22 Try.infoInt rfl .i64 .i64 _ _ xs.length xs.length rfl rfl rfl rfl (Nat.le_refl _) (by omega) (by simp only [maxLen]; omega) ?_; intro w7 hrow7 hk7))
          rw [show List.replicate xs.length (Value.int .i64 0) = natVals (outF (ownN xs) 0) by rw [outF_zero, ownN_length]; simp [natVals]] at hrow7
          obtain ⟨go, hgo⟩ : ∃ go, w3.heap.size = go := ⟨_, rfl⟩
          have HGO := Lib.hid (show w.heap.size ≤ go ∧ g ≠ go from ⟨by have := HK3.out.size; omega, by omega⟩)
          rw [hgo] at hrow7 ⊢
          have HROW := Lib.hid hrow7
          have HSE := Lib.hid (HSEE.out.kept0 hk7)
          have HK7 := Lib.hid (HK3.out.trans hk7 (by simp))
          clear hrow7 hk7 hgo HSEE HK3 Hg hgw3
          go_loopg [48] xs.length (fun m v wr => OutI w xs g go l m v wr)
          case atStart => exact ⟨0, by omega, by omega, rfl, HSE, HROW, HK7⟩
          case round =>
            clear HROW HSE HK7
            obtain ⟨i, hg, hi, rfl, HSE, HR, HK⟩ := hrel
            have Hg := Lib.hid hg
            clear hg
            by_cases hlt : i < xs.length
            · have hli : (i : Int) < (xs.length : Int) := by omega
              obtain ⟨tr, htr⟩ : ∃ t, l[i]? = some t := ⟨_, List.getElem?_eq_getElem (by rw [HST.out.len, ownN_length]; exact hlt)⟩
              obtain ⟨q, e1, hq, hfq⟩ := HST.out.at_ i tr htr
              rw [ownN_length] at hq
              obtain ⟨d0, d1⟩ := HSE.out.tree htr
              rw [Nat.zero_add] at d0 d1
              rw [e1] at d1
              obtain ⟨wt, hwt⟩ : ∃ v, tr.1 = v := ⟨_, rfl⟩
              rw [hwt] at d0
              have hqi : (q : Int) < (xs.length : Int) := by omega
              have HSET := Lib.hid (fun v (hv : K.flatAt xs.length i = v) => show (outF (ownN xs) i).set q v = outF (ownN xs) (i + 1) by
                have := outF_set HST.out htr e1
                rw [ownN_length, hv] at this
                exact this)
              have hflat : K.flatAt xs.length i = k + if p - xs.length ≤ i then 1 else 0 := by
                unfold K.flatAt
                rw [HLOG.out, HT.out, HPP.out]
              have HFLAT := Lib.hid hflat
              obtain ⟨z, hz⟩ : ∃ z, (outF (ownN xs) i)[q]? = some z := ⟨_, List.getElem?_eq_getElem (by rw [outF_len, ownN_length]; exact hq)⟩
              have c0 := HR.out.cellAt (natVals_get hz)
              have f0 := HR.out.free q
              have hgow : go < wr.heap.size := HR.out.lt go (by simp [foot, Value.ownBlock])
              have HZL := Lib.hid (List.getElem?_eq_some_iff.1 hz).1
              have c1 := (HR.out.put q (.int .i64 (k : Int))).cellAt (j := q) (u := .int .i64 (k : Int)) (by rw [List.getElem?_set_self (by rw [natVals_length]; exact HZL.out)])
              have f1 := (HR.out.put q (.int .i64 (k : Int))).free q
              clear htr e1 hfq hwt hflat hz
              by_cases hge : p - xs.length ≤ i
              · have hgei : (p : Int) - (xs.length : Int) ≤ (i : Int) := by omega
                go_wp2_with fail
                go_roundg (xs.length - (i + 1))
                case measure => have := Hg.out; omega
                case rel =>
                  have hk : Kept [go] wr (((wr.setCell ⟨go, q, none⟩ (.int .i64 (k : Int))).setCell ⟨go, q, none⟩ (.int .i64 (t : Int))).alloc (.cells #[.int .i64 wt, .int .i64 (q : Int)] 43)) :=
                    (((Kept.refl [go] wr).setCell (p := ⟨go, q, none⟩) (by simp) _).setCell (p := ⟨go, q, none⟩) (by simp) _).alloc _
                  have h1 := ((HR.out.put q (.int .i64 (k : Int))).put q (.int .i64 (t : Int))).alloc (.cells #[.int .i64 wt, .int .i64 (q : Int)] 43)
                  rw [List.set_set, ← natVals_set, HSET.out t (by rw [HFLAT.out, if_pos hge]; exact HT.out)] at h1
                  exact ⟨i + 1, by omega, by omega, by simp, Lib.hid (HSE.out.kept hk (by intro x hx hm; simp [footA] at hx hm; subst hx; exact HGO.out.2 hm)), Lib.hid h1, Lib.hid (HK.out.trans hk (by intro x hx; simp at hx; subst hx; exact .inr HGO.out.1))⟩
              · have hgei : ¬ (p : Int) - (xs.length : Int) ≤ (i : Int) := by omega
                go_wp2_with fail
                go_roundg (xs.length - (i + 1))
                case measure => have := Hg.out; omega
                case rel =>
                  have hk : Kept [go] wr ((wr.setCell ⟨go, q, none⟩ (.int .i64 (k : Int))).alloc (.cells #[.int .i64 wt, .int .i64 (q : Int)] 43)) :=
                    ((Kept.refl [go] wr).setCell (p := ⟨go, q, none⟩) (by simp) _).alloc _
                  have h1 := (HR.out.put q (.int .i64 (k : Int))).alloc (.cells #[.int .i64 wt, .int .i64 (q : Int)] 43)
                  rw [← natVals_set, HSET.out k (by rw [HFLAT.out, if_neg hge]; rfl)] at h1
                  exact ⟨i + 1, by omega, by omega, by simp, Lib.hid (HSE.out.kept hk (by intro x hx hm; simp [footA] at hx hm; subst hx; exact HGO.out.2 hm)), Lib.hid h1, Lib.hid (HK.out.trans hk (by intro x hx; simp at hx; subst hx; exact .inr HGO.out.1))⟩
            · obtain rfl : i = xs.length := by omega
              have hll : ¬ (xs.length : Int) < (xs.length : Int) := by omega
              have HFL := Lib.hid (show (K.flatL (ownN xs)).length = xs.length by rw [K.flatL_length, ownN_length])
              have HEQ := Lib.hid (show outF (ownN xs) xs.length = K.flatL (ownN xs) by
                have := outF_all (ownN xs)
                rwa [ownN_length] at this)
              go_wp2_with fail
              go_ret2
              have h := HR.out
              rw [HEQ.out, ← HFL.out] at h
              exact ⟨some ⟨go, 0, none⟩, _, by rw [HFL.out]; rfl, h, HK.out, by intro x hx; simp [footA] at hx; subst hx; exact HGO.out.1⟩
end Go.Proofs.Ytcjkjknahalpnaa
