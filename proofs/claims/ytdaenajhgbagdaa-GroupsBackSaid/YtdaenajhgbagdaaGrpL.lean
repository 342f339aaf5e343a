/-
  The walk of groups.Choose.
-/
import Derived.Test.YtdaenajhgbagdaaRefG9
namespace Go.Proofs.Ytdaenajhgbagdaa
open Go.RowKit
set_option linter.unusedVariables false
set_option linter.unusedSimpArgs false

theorem make_intsG (n : Nat) (hn : n ≤ 1000000000) : ∃ Z : Array Value, Z.toList = List.replicate n (.int .i64 0) ∧ ∀ W : World, (Instr.makeSlice 30 (.int .i64 n) (.int .i64 n)).run Try.prog W = .ok (.slice (some ⟨W.heap.size, 0, none⟩) n n) (W.alloc (.cells Z 3)) := by
  obtain ⟨i, hi, h0, h1, h2⟩ := info_parts Try.infoInt
  refine ⟨madeCells (Value.int .i64 0).cells (n * i.size), ?_, fun W => ?_⟩
  · rw [h1, show (Value.int .i64 0).cells = #[Value.int .i64 0] from rfl, Nat.mul_one, toList_madeCells_one]
  · have := run_make (P := Try.prog) W 30 3 i (.int .i64 0) Try.underlying30 hi h0 .i64 .i64 n n (by omega) (by omega) (by rw [h2]; omega) (by omega)
    simpa using this
theorem make_rows (n : Nat) (hn : n ≤ 1000000000) : ∃ Z : Array Value, Z.toList = List.replicate n (.slice none 0 0) ∧ ∀ W : World, (Instr.makeSlice 29 (.int .i64 n) (.int .i64 n)).run Try.prog W = .ok (.slice (some ⟨W.heap.size, 0, none⟩) n n) (W.alloc (.cells Z 30)) := by
  obtain ⟨i, hi, h0, h1, h2⟩ := info_parts Try.infoInts
  refine ⟨madeCells (Value.slice none 0 0).cells (n * i.size), ?_, fun W => ?_⟩
  · rw [h1, show (Value.slice none 0 0).cells = #[Value.slice none 0 0] from rfl, Nat.mul_one, toList_madeCells_one]
  · have := run_make (P := Try.prog) W 29 30 i (.slice none 0 0) Try.underlying29 hi h0 .i64 .i64 n n (by omega) (by omega) (by rw [h2]; omega) (by omega)
    simpa using this
theorem Row.at_any (W : World) (b n : Nat) (Z : Array Value) (z : Value) (e : TypeId) (hZ : Z.toList = List.replicate n z) (hn : n ≤ 1000000000) (hb : W.heap[b]? = some (.cells Z e (0, 0))) : Row W e (.slice (some ⟨b, 0, none⟩) n n) (List.replicate n z) := by
  have hs : Z.size = n := by rw [← Array.length_toList, hZ]; simp
  refine ⟨by simp, .inr ⟨b, n, _, by simp, Nat.zero_le _, hb, by simp, by simp only [maxLen]; omega, by simp [hs], ?_⟩⟩
  rw [hZ]
  simp
/-- What the plan's making leaves: its tables, its picks, its cell. -/
def ChoC (W : World) (m G : Nat) (v8 : Value) (wc : World) : Prop :=
  ∃ gT gK gP, v8 = .pointer (some ⟨gP, 0, none⟩) ∧ Row wc 30 (.slice (some ⟨gT, 0, none⟩) m m) (List.replicate m (.slice none 0 0)) ∧ Row wc 3 (.slice (some ⟨gK, 0, none⟩) G G) (List.replicate G (.int .i64 0)) ∧
    Arr wc gP 32 [.slice (some ⟨gT, 0, none⟩) m m, .slice (some ⟨gK, 0, none⟩) G G] ∧ Kept [] W wc ∧ W.heap.size ≤ gT ∧ W.heap.size ≤ gK ∧ W.heap.size ≤ gP ∧ gT ≠ gP ∧ gK ≠ gP ∧ gT ≠ gK
theorem cho_mk (W W3 : World) (m G : Nat) (ZT ZK : Array Value) (gT gK gP : Nat) (hT : ZT.toList = List.replicate m (.slice none 0 0)) (hK : ZK.toList = List.replicate G (.int .i64 0)) (hm : m ≤ 1000000000) (hG : G ≤ 1000000000) (hk : Kept [] W W3)
    (h1 : W3.heap[gT]? = some (.cells ZT 30 (0, 0))) (h2 : W3.heap[gK]? = some (.cells ZK 3 (0, 0))) (h3 : W3.heap[gP]? = some (.cells #[.slice (some ⟨gT, 0, none⟩) m m, .slice (some ⟨gK, 0, none⟩) G G] 32 (0, 0)))
    (a : W.heap.size ≤ gT ∧ W.heap.size ≤ gK ∧ W.heap.size ≤ gP ∧ gT ≠ gP ∧ gK ≠ gP ∧ gT ≠ gK) : ChoC W m G (.pointer (some ⟨gP, 0, none⟩)) W3.drew :=
  ⟨gT, gK, gP, rfl, (Row.at_any W3 gT m ZT _ _ hT hm h1).drew, (Row.at_any W3 gK G ZK _ _ hK hG h2).drew, h3, hk.drew, a⟩
theorem cho_three (W : World) (x y z : Array Value) (p q r : TypeId) (m : Nat) (hm : W.heap.size = m) :
    (((W.alloc (.cells x p)).alloc (.cells y q)).alloc (.cells z r)).heap[m]? = some (.cells x p (0, 0)) ∧ (((W.alloc (.cells x p)).alloc (.cells y q)).alloc (.cells z r)).heap[m + 1]? = some (.cells y q (0, 0)) ∧
    (((W.alloc (.cells x p)).alloc (.cells y q)).alloc (.cells z r)).heap[m + 1 + 1]? = some (.cells z r (0, 0)) ∧ Kept [] W (((W.alloc (.cells x p)).alloc (.cells y q)).alloc (.cells z r)) := by
  subst hm
  have h1 := heap_alloc_new W (.cells x p)
  have h2 := heap_alloc_new (W.alloc (.cells x p)) (.cells y q)
  have h3 := heap_alloc_new ((W.alloc (.cells x p)).alloc (.cells y q)) (.cells z r)
  have k1 : Kept [] (W.alloc (.cells x p)) ((W.alloc (.cells x p)).alloc (.cells y q)) := (Kept.refl _ _).alloc _
  have k2 : Kept [] ((W.alloc (.cells x p)).alloc (.cells y q)) (((W.alloc (.cells x p)).alloc (.cells y q)).alloc (.cells z r)) := (Kept.refl _ _).alloc _
  have e1 : (W.alloc (.cells x p)).heap.size = W.heap.size + 1 := by simp
  have e2 : ((W.alloc (.cells x p)).alloc (.cells y q)).heap.size = W.heap.size + 1 + 1 := by simp
  rw [e1] at h2
  rw [e2] at h3
  exact ⟨(k1.trans k2 (by simp)).heap h1 (by simp), k2.heap h2 (by simp), h3, (((Kept.refl _ _).alloc _).alloc _).alloc _⟩
/-- What stands through Choose: the list's cell, the result's, the plan's. -/
structure ChS (w : World) (aL : Option Addr) (c n : Nat) (L : List Nat) (gP gT gK m G N : Nat) (wr : World) : Prop where
  lst : Arr wr w.heap.size 30 [.slice aL L.length c]
  res : Arr wr (w.heap.size + 1) 32 [.slice none 0 0, .slice none 0 0]
  plan : Arr wr gP 32 [.slice (some ⟨gT, 0, none⟩) m m, .slice (some ⟨gK, 0, none⟩) G G]
  kept : Kept [] w wr
  big : N ≤ wr.heap.size
theorem ChS.on {S : List Nat} {w : World} {aL : Option Addr} {c n : Nat} {L : List Nat} {gP gT gK m G N : Nat} {wr w2 : World} (h : ChS w aL c n L gP gT gK m G N wr) (hk : Kept S wr w2) (hS : ∀ x ∈ S, w.heap.size + 1 < x ∧ x ≠ gP) : ChS w aL c n L gP gT gK m G N w2 :=
  ⟨h.lst.kept hk (fun hm => by have := hS _ hm; omega), h.res.kept hk (fun hm => by have := hS _ hm; omega), h.plan.kept hk (fun hm => by have := hS _ hm; omega), h.kept.trans hk (fun x hx => .inr (by have := hS x hx; omega)), Nat.le_trans h.big hk.size⟩
/-- Rows of numbers, each in a block of its own, that may be written. -/
structure MatN (wr : World) (gW n m : Nat) (bs : List Nat) (rows : List (List Nat)) : Prop where
  top : Row wr 30 (.slice (some ⟨gW, 0, none⟩) m m) ((bs.map fun b => Value.slice (some ⟨b, 0, none⟩) n n) ++ List.replicate (m - bs.length) (.slice none 0 0))
  len : bs.length = rows.length
  nd : bs.Nodup
  gt : ∀ b ∈ bs, gW < b
  row : ∀ (i b : Nat) (r : List Nat), bs[i]? = some b → rows[i]? = some r → Row wr 3 (.slice (some ⟨b, 0, none⟩) n n) (natVals r)
theorem MatN.on {S : List Nat} {wr w2 : World} {gW n m : Nat} {bs : List Nat} {rows : List (List Nat)} (h : MatN wr gW n m bs rows) (hk : Kept S wr w2) (hS : ∀ x ∈ S, x ≠ gW ∧ x ∉ bs) : MatN w2 gW n m bs rows :=
  ⟨h.top.kept hk (by intro x hx hm; simp [foot, Value.ownBlock] at hx; subst hx; exact (hS _ hm).1 rfl), h.len, h.nd, h.gt, fun i b r h1 h2 => (h.row i b r h1 h2).kept hk (by
    intro x hx hm
    simp [foot, Value.ownBlock] at hx
    subst hx
    exact (hS _ hm).2 (List.mem_of_getElem? h1))⟩
theorem MatN.put {wr : World} {gW n m : Nat} {bs : List Nat} {rows : List (List Nat)} (h : MatN wr gW n m bs rows) {i b : Nat} {r : List Nat} (hb : bs[i]? = some b) (hr : rows[i]? = some r) (s x : Nat) :
    MatN (wr.setCell ⟨b, s, none⟩ (.int .i64 (x : Int))) gW n m bs (rows.set i (r.set s x)) := by
  have hk : Kept [b] wr (wr.setCell ⟨b, s, none⟩ (.int .i64 (x : Int))) := (Kept.refl _ _).setCell (p := ⟨b, s, none⟩) (by simp) _
  refine ⟨h.top.kept hk ?_, by rw [List.length_set]; exact h.len, h.nd, h.gt, fun j b2 r2 h1 h2 => ?_⟩
  · intro y hy hm
    simp [foot, Value.ownBlock] at hy hm
    have := h.gt b (List.mem_of_getElem? hb)
    omega
  · rw [List.getElem?_set] at h2
    by_cases hij : i = j
    · subst hij
      rw [if_pos rfl] at h2
      split at h2
      · injection h2 with h2
        subst h2
        rw [hb] at h1
        injection h1 with h1
        subst h1
        rw [natVals_set]
        exact (h.row i b r hb hr).put s _
      · cases h2
    · rw [if_neg hij] at h2
      refine (h.row j b2 r2 h1 h2).kept hk ?_
      intro y hy hm
      simp [foot, Value.ownBlock] at hy hm
      subst hm
      subst hy
      have h3 := (List.getElem?_eq_some_iff.1 hb)
      have h4 := (List.getElem?_eq_some_iff.1 h1)
      rcases Nat.lt_or_gt_of_ne hij with hlt | hlt
      · exact List.pairwise_iff_getElem.1 h.nd i j h3.1 h4.1 hlt (h3.2.trans h4.2.symm)
      · exact List.pairwise_iff_getElem.1 h.nd j i h4.1 h3.1 hlt (h4.2.trans h3.2.symm)
theorem MatN.cellRow {wr : World} {gW n m : Nat} {bs : List Nat} {rows : List (List Nat)} (h : MatN wr gW n m bs rows) {i b : Nat} (hb : bs[i]? = some b) : wr.cell? ⟨gW, i, none⟩ = some (.slice (some ⟨b, 0, none⟩) n n) := by
  have hi := (List.getElem?_eq_some_iff.1 hb).1
  exact h.top.cellAt (by rw [List.getElem?_append_left (by rw [List.length_map]; exact hi), List.getElem?_map, hb]; rfl)
/-- A row more. -/
theorem MatN.more {wr w2 : World} {gW n m : Nat} {bs : List Nat} {rows : List (List Nat)} {r : List Nat} (h : MatN wr gW n m bs rows) (hl : bs.length < m) (hk : Kept [] wr w2) (hr : Row w2 3 (.slice (some ⟨wr.heap.size, 0, none⟩) n n) (natVals r)) :
    MatN (w2.setCell ⟨gW, bs.length, none⟩ (.slice (some ⟨wr.heap.size, 0, none⟩) n n)) gW n m (bs ++ [wr.heap.size]) (rows ++ [r]) := by
  have hgl : gW < wr.heap.size := h.top.lt gW (by simp [foot, Value.ownBlock])
  have hbl : ∀ b ∈ bs, b < wr.heap.size := by
    intro b hb
    obtain ⟨i, hi⟩ := List.getElem?_of_mem hb
    obtain ⟨r2, hr2⟩ : ∃ r2, rows[i]? = some r2 := ⟨_, List.getElem?_eq_getElem (by rw [← h.len]; exact (List.getElem?_eq_some_iff.1 hi).1)⟩
    exact (h.row i b r2 hi hr2).lt b (by simp [foot, Value.ownBlock])
  have h2 := h.on hk (by simp)
  have hkS : Kept [gW] w2 (w2.setCell ⟨gW, bs.length, none⟩ (.slice (some ⟨wr.heap.size, 0, none⟩) n n)) := (Kept.refl _ _).setCell (p := ⟨gW, bs.length, none⟩) (by simp) _
  refine ⟨?_, by simp [h.len], ?_, ?_, ?_⟩
  · have hput := h2.top.put bs.length (.slice (some ⟨wr.heap.size, 0, none⟩) n n)
    have e : ((bs.map fun b => Value.slice (some ⟨b, 0, none⟩) n n) ++ List.replicate (m - bs.length) (Value.slice none 0 0)).set bs.length (Value.slice (some ⟨wr.heap.size, 0, none⟩) n n) =
        (((bs ++ [wr.heap.size]).map fun b => Value.slice (some ⟨b, 0, none⟩) n n) ++ List.replicate (m - (bs ++ [wr.heap.size]).length) (Value.slice none 0 0)) := by
      rw [List.set_append, if_neg (by rw [List.length_map]; omega), List.length_map, Nat.sub_self, show m - bs.length = (m - (bs.length + 1)) + 1 by omega, List.replicate_succ]
      simp
    rw [e] at hput
    exact hput
  · rw [List.nodup_append]
    refine ⟨h.nd, by simp, fun a ha b hb => ?_⟩
    have := hbl a ha
    simp at hb
    omega
  · intro b hb
    rcases List.mem_append.1 hb with hb | hb
    · exact h.gt b hb
    · rw [List.mem_singleton.1 hb]; exact hgl
  · intro i b r2 h1 h3
    have hkeep : ∀ b r2, gW < b → Row w2 3 (.slice (some ⟨b, 0, none⟩) n n) (natVals r2) → Row (w2.setCell ⟨gW, bs.length, none⟩ (.slice (some ⟨wr.heap.size, 0, none⟩) n n)) 3 (.slice (some ⟨b, 0, none⟩) n n) (natVals r2) := by
      intro b r2 hb hr2
      refine hr2.kept hkS ?_
      intro y hy hm
      simp [foot, Value.ownBlock] at hy hm
      omega
    rcases Nat.lt_or_ge i bs.length with hi | hi
    · rw [List.getElem?_append_left hi] at h1
      rw [List.getElem?_append_left (by rw [← h.len]; exact hi)] at h3
      exact hkeep b r2 (h.gt b (List.mem_of_getElem? h1)) (h2.row i b r2 h1 h3)
    · rw [List.getElem?_append_right hi] at h1
      rw [List.getElem?_append_right (by rw [← h.len]; exact hi)] at h3
      have h0 : i - bs.length = 0 := by
        have := (List.getElem?_eq_some_iff.1 h1).1
        simp at this; omega
      rw [h0] at h1
      rw [← h.len, h0] at h3
      simp at h1 h3
      subst h1 h3
      exact hkeep _ _ hgl hr
/-- The counts of all tables. -/
def cntsAt (L P : List Nat) (n m i : Nat) : List (List Nat) := (List.range m).map fun t => K.cntAt L P t n i
theorem cntsAt_get (L P : List Nat) (n m i t : Nat) (h : t < m) : (cntsAt L P n m i)[t]? = some (K.cntAt L P t n i) := by simp [cntsAt, List.getElem?_range h]
theorem cntsAt_next (L P : List Nat) (n m i b x c : Nat) (hp : P.getD (i / 50) 0 = b) (hx : L[i]? = some x) (hc : (K.cntAt L P b n i)[x]? = some c) (hb : b < m) : (cntsAt L P n m i).set b ((K.cntAt L P b n i).set x (c + 1)) = cntsAt L P n m (i + 1) := by
  rw [K.cntAt_hit L P b n i x hp hx c hc]
  apply List.ext_getElem?
  intro t
  rw [List.getElem?_set]
  by_cases ht : t < m
  · rw [cntsAt_get _ _ _ _ _ _ ht, cntsAt_get _ _ _ _ _ _ ht]
    by_cases hbt : b = t
    · subst hbt
      rw [if_pos rfl, if_pos (by simp [cntsAt]; exact ht)]
    · rw [if_neg hbt, K.cntAt_miss L P t n i (by rw [hp]; exact hbt)]
  · have h1 : (cntsAt L P n m (i + 1))[t]? = none := List.getElem?_eq_none (by simp [cntsAt]; omega)
    have h2 : (cntsAt L P n m i)[t]? = none := List.getElem?_eq_none (by simp [cntsAt]; omega)
    rw [h1, h2]
    split
    · split
      · rename_i h3 h4
        simp [cntsAt] at h4
        omega
      · rfl
    · rfl
theorem cntsAt_zero (L P : List Nat) (n m : Nat) : cntsAt L P n m 0 = List.replicate m (List.replicate n 0) := by
  unfold cntsAt
  apply List.ext_getElem?
  intro t
  by_cases ht : t < m
  · simp [List.getElem?_range ht, ht, K.cntAt_zero]
  · rw [List.getElem?_eq_none (by simp; omega), List.getElem?_eq_none (by simp; omega)]
set_option maxRecDepth 100000 in
theorem gchoose_bad (a : Option Addr) (c : Nat) (xs : List Int) (n : Int) (w : World) (h : Sees w 1 a xs.length (intVals xs)) (hl : xs.length ≤ 17592186043904) (hno : K.mayListL xs n = false) :
    Calls Try.prog 29 #[.slice a xs.length c, .int .i64 n] w (PlanPost [] [] 2 w) := by
  have hk : Kept [] w ((w.alloc (.cells #[.slice a xs.length c] 30)).alloc (.cells #[.slice none 0 0, .slice none 0 0] 32)) := ((Kept.refl _ _).alloc _).alloc _
  have hB := Arr.new w [.slice a xs.length c] 30
  have hA := Arr.new (w.alloc (.cells #[.slice a xs.length c] 30)) [.slice none 0 0, .slice none 0 0] 32
  rw [show (w.alloc (.cells #[.slice a xs.length c] 30)).heap.size = w.heap.size + 1 by simp] at hA
  have M := gmayList_any a c xs n _ (h.kept0 hk) hl
  rw [hno] at M
  have b0 := (hB.kept ((Kept.refl [] _).alloc (.cells #[.slice none 0 0, .slice none 0 0] 32)) (by simp)).cell (i := 0) (u := .slice a xs.length c) rfl
  have s0 : ((w.alloc (.cells #[.slice a xs.length c] 30)).alloc (.cells #[.slice none 0 0, .slice none 0 0] 32)).cell? ⟨w.heap.size + 1, 0, none⟩ = some (.slice none 0 0) := hA.cell (i := 0) rfl
  have s1 : ((w.alloc (.cells #[.slice a xs.length c] 30)).alloc (.cells #[.slice none 0 0, .slice none 0 0] 32)).cell? ⟨w.heap.size + 1, 1, none⟩ = some (.slice none 0 0) := hA.cell (i := 1) rfl
  have HK := Lib.hid hk
  clear h hno hk hA hB
  go_enter Try.func29, Try.ntmps29
  go_wp2_with fail
  refine M.mono ?_
  rintro e w' ⟨rfl, rfl⟩
  go_wp2_with fail
  refine bodyPost_ret (v := .tuple #[planV none 0 0 none 0 0, .int .i64 2]) (by simp [results, Try.results29, go_sem, planV, s0, s1]) rfl ?_
  exact ⟨none, 0, none, 0, rfl, PlanAt.nil _, HK.out, by simp, by simp⟩
/-- In the loop that lays the first tables: t are laid. -/
def GChA (w : World) (aL : Option Addr) (c n : Nat) (L : List Nat) (gP gT gK m G N : Nat) (k : Nat) (v : Value) (wr : World) : Prop :=
  ∃ (t : Nat) (vs : List Value), k = m - t ∧ t ≤ m ∧ v = .int .i64 (t : Nat) ∧ Hid (vs.length = t) ∧ Hid (Row wr 30 (.slice (some ⟨gT, 0, none⟩) m m) (vs ++ List.replicate (m - t) (.slice none 0 0))) ∧ Hid (TabsI wr [w.heap.size + 1, gT, gK] vs (((K.initT n m).take t).map castI)) ∧
    Hid (Row wr 3 (.slice (some ⟨gK, 0, none⟩) G G) (List.replicate G (.int .i64 0))) ∧ Hid (ChS w aL c n L gP gT gK m G N wr)
/-- Of the t-th one s places are laid. -/
def GChB (w : World) (aL : Option Addr) (c n : Nat) (L : List Nat) (gP gT gK m G N t b : Nat) (vs : List Value) (row : List Nat) (k : Nat) (v : Value) (wr : World) : Prop :=
  ∃ s : Nat, k = n - s ∧ s ≤ n ∧ v = .int .i64 (s : Nat) ∧ Hid (Row wr 30 (.slice (some ⟨gT, 0, none⟩) m m) (vs ++ .slice (some ⟨b, 0, none⟩) n n :: List.replicate (m - (t + 1)) (.slice none 0 0))) ∧ Hid (Row wr 3 (.slice (some ⟨b, 0, none⟩) n n) (natVals (row.take s ++ List.replicate (n - s) 0))) ∧
    Hid (TabsI wr [w.heap.size + 1, gT, gK, b] vs (((K.initT n m).take t).map castI)) ∧ Hid (Row wr 3 (.slice (some ⟨gK, 0, none⟩) G G) (List.replicate G (.int .i64 0))) ∧ Hid (ChS w aL c n L gP gT gK m G N wr)
theorem fill_set (row : List Nat) (n s x : Nat) (hl : row.length = n) (hx : row[s]? = some x) : (row.take s ++ List.replicate (n - s) 0).set s x = row.take (s + 1) ++ List.replicate (n - (s + 1)) 0 := by
  have hs := (List.getElem?_eq_some_iff.1 hx).1
  have ht : (row.take s).length = s := by rw [List.length_take]; omega
  rw [List.set_append, if_neg (by omega), ht, Nat.sub_self, show n - s = (n - (s + 1)) + 1 by omega, List.replicate_succ, List.take_add_one, hx, List.append_assoc]
  rfl
theorem gchb_next {w wr w6 : World} {aL : Option Addr} {c n gP gT gK m G N b s x : Nat} {L row : List Nat} {vs rest : List Value} {T : List (List Int)} (hl : row.length = n) (hx : row[s]? = some x) (hR : Row wr 30 (.slice (some ⟨gT, 0, none⟩) m m) (vs ++ .slice (some ⟨b, 0, none⟩) n n :: rest))
    (hT : TabsI wr [w.heap.size + 1, gT, gK, b] vs T) (hRK : Row wr 3 (.slice (some ⟨gK, 0, none⟩) G G) (List.replicate G (.int .i64 0))) (hC : ChS w aL c n L gP gT gK m G N wr) (hb : b ≠ gT ∧ b ≠ gK ∧ b ≠ gP ∧ w.heap.size + 1 < b)
    (hk6 : Kept [b] wr w6) (hr6 : Row w6 3 (.slice (some ⟨b, 0, none⟩) n n) ((natVals (row.take s ++ List.replicate (n - s) 0)).set s (.int .i64 (x : Int)))) :
    Row w6 30 (.slice (some ⟨gT, 0, none⟩) m m) (vs ++ .slice (some ⟨b, 0, none⟩) n n :: rest) ∧ Row w6 3 (.slice (some ⟨b, 0, none⟩) n n) (natVals (row.take (s + 1) ++ List.replicate (n - (s + 1)) 0)) ∧ TabsI w6 [w.heap.size + 1, gT, gK, b] vs T ∧
      Row w6 3 (.slice (some ⟨gK, 0, none⟩) G G) (List.replicate G (.int .i64 0)) ∧ ChS w aL c n L gP gT gK m G N w6 := by
  rw [← natVals_set, fill_set row n s x hl hx] at hr6
  exact ⟨hR.kept hk6 (by intro y hy hm; simp [foot, Value.ownBlock] at hy hm; omega), hr6, hT.step (hk6.mono (by intro y hy; simp at hy; simp [hy])) (Grew.refl _ _), hRK.kept hk6 (by intro y hy hm; simp [foot, Value.ownBlock] at hy hm; omega), hC.on hk6 (by intro y hy; simp at hy; omega)⟩
/-- Between the rounds: r are done. -/
def GChC (w : World) (aL : Option Addr) (c n : Nat) (L : List Nat) (gP gT gK m G N : Nat) (k : Nat) (v : Value) (wr : World) : Prop :=
  ∃ (r : Nat) (vs : List Value), k = 4 - r ∧ r ≤ 4 ∧ v = .int .i64 (r : Nat) ∧ Hid (Row wr 30 (.slice (some ⟨gT, 0, none⟩) m m) vs) ∧ Hid (TabsI wr [w.heap.size + 1, gT, gK] vs ((K.tabsC L n m r).map castI)) ∧
    Hid (Row wr 3 (.slice (some ⟨gK, 0, none⟩) G G) (natVals (K.picksC L n m r))) ∧ Hid (ChS w aL c n L gP gT gK m G N wr)
/-- What the loops within a round keep. -/
structure ChR (w : World) (aL : Option Addr) (c n : Nat) (L : List Nat) (gP gT gK m G N gW : Nat) (bs : List Nat) (vs : List Value) (T : List (List Nat)) (P : List Nat) (rows : List (List Nat)) (wr : World) : Prop where
  base : ChS w aL c n L gP gT gK m G N wr
  tops : Row wr 30 (.slice (some ⟨gT, 0, none⟩) m m) vs
  tabs : TabsI wr ([w.heap.size + 1, gT, gK, gW] ++ bs) vs (T.map castI)
  picks : Row wr 3 (.slice (some ⟨gK, 0, none⟩) G G) (natVals P)
  mat : MatN wr gW n m bs rows
  top : N ≤ gW
/-- A cell of the weights is written. -/
theorem ChR.write {w wr : World} {aL : Option Addr} {c n gP gT gK m G N gW : Nat} {L bs P : List Nat} {vs : List Value} {T rows : List (List Nat)} (h : ChR w aL c n L gP gT gK m G N gW bs vs T P rows wr) (hN : gT < N ∧ gK < N ∧ gP < N ∧ w.heap.size + 1 < N) {i b : Nat} {r : List Nat} (hb : bs[i]? = some b) (hr : rows[i]? = some r) (s x : Nat) :
    ChR w aL c n L gP gT gK m G N gW bs vs T P (rows.set i (r.set s x)) (wr.setCell ⟨b, s, none⟩ (.int .i64 (x : Int))) := by
  have hk : Kept [b] wr (wr.setCell ⟨b, s, none⟩ (.int .i64 (x : Int))) := (Kept.refl _ _).setCell (p := ⟨b, s, none⟩) (by simp) _
  have hbm := List.mem_of_getElem? hb
  have hg := h.mat.gt b hbm
  have ht := h.top
  exact ⟨h.base.on hk (by intro y hy; simp at hy; omega), h.tops.kept hk (by intro y hy hm; simp [foot, Value.ownBlock] at hy hm; omega), h.tabs.step (hk.mono (by intro y hy; simp at hy; subst hy; simp [hbm])) (Grew.refl _ _), h.picks.kept hk (by intro y hy hm; simp [foot, Value.ownBlock] at hy hm; omega), h.mat.put hb hr s x, ht⟩
/-- A pick is written. -/
theorem ChR.pick {w wr : World} {aL : Option Addr} {c n gP gT gK m G N gW : Nat} {L bs P : List Nat} {vs : List Value} {T rows : List (List Nat)} (h : ChR w aL c n L gP gT gK m G N gW bs vs T P rows wr) (hN : gT < N ∧ gK < N ∧ gP < N ∧ w.heap.size + 1 < N) (hO : w.heap.size + 1 < gT ∧ w.heap.size + 1 < gK ∧ w.heap.size + 1 < gP ∧ gT ≠ gP ∧ gK ≠ gP ∧ gT ≠ gK) (j x : Nat) :
    ChR w aL c n L gP gT gK m G N gW bs vs T (P.set j x) rows (wr.setCell ⟨gK, j, none⟩ (.int .i64 (x : Int))) := by
  have hk : Kept [gK] wr (wr.setCell ⟨gK, j, none⟩ (.int .i64 (x : Int))) := (Kept.refl _ _).setCell (p := ⟨gK, j, none⟩) (by simp) _
  have ht := h.top
  have hp := h.picks.put j (.int .i64 (x : Int))
  rw [← natVals_set] at hp
  exact ⟨h.base.on hk (by intro y hy; simp at hy; omega), h.tops.kept hk (by intro y hy hm; simp [foot, Value.ownBlock] at hy hm; omega), h.tabs.step (hk.mono (by intro y hy; simp at hy; subst hy; simp)) (Grew.refl _ _), hp, h.mat.on hk (by intro y hy; simp at hy; subst hy; exact ⟨by omega, fun hm => by have := h.mat.gt _ hm; omega⟩), ht⟩
theorem ChR.on0 {w wr w2 : World} {aL : Option Addr} {c n gP gT gK m G N gW : Nat} {L bs P : List Nat} {vs : List Value} {T rows : List (List Nat)} (h : ChR w aL c n L gP gT gK m G N gW bs vs T P rows wr) (hk : Kept [] wr w2) : ChR w aL c n L gP gT gK m G N gW bs vs T P rows w2 :=
  ⟨h.base.on hk (by simp), h.tops.kept hk (by simp), h.tabs.kept0 hk, h.picks.kept hk (by simp), h.mat.on hk (by simp), h.top⟩
/-- A row of weights more. -/
theorem ChR.more {w wr w2 : World} {aL : Option Addr} {c n gP gT gK m G N gW : Nat} {L bs P r : List Nat} {vs : List Value} {T rows : List (List Nat)} (h : ChR w aL c n L gP gT gK m G N gW bs vs T P rows wr) (hN : gT < N ∧ gK < N ∧ gP < N ∧ w.heap.size + 1 < N) (hl : bs.length < m) (hk : Kept [] wr w2)
    (hr : Row w2 3 (.slice (some ⟨wr.heap.size, 0, none⟩) n n) (natVals r)) : ChR w aL c n L gP gT gK m G N gW (bs ++ [wr.heap.size]) vs T P (rows ++ [r]) (w2.setCell ⟨gW, bs.length, none⟩ (.slice (some ⟨wr.heap.size, 0, none⟩) n n)) := by
  have h2 := h.on0 hk
  have hkS : Kept [gW] w2 (w2.setCell ⟨gW, bs.length, none⟩ (.slice (some ⟨wr.heap.size, 0, none⟩) n n)) := (Kept.refl _ _).setCell (p := ⟨gW, bs.length, none⟩) (by simp) _
  have ht := h.top
  refine ⟨h2.base.on hkS (by intro y hy; simp at hy; omega), h2.tops.kept hkS (by intro y hy hm; simp [foot, Value.ownBlock] at hy hm; omega), ?_, h2.picks.kept hkS (by intro y hy hm; simp [foot, Value.ownBlock] at hy hm; omega), h.mat.more hl hk hr, ht⟩
  refine h.tabs.step ((hk.mono (T := [w.heap.size + 1, gT, gK, gW] ++ bs) (by simp)).trans hkS (by intro y hy; simp at hy; subst hy; left; simp)) ?_
  intro y hy
  rw [← List.append_assoc] at hy
  rcases List.mem_append.1 hy with hy | hy
  · exact .inl hy
  · exact .inr (by rw [List.mem_singleton.1 hy]; exact Nat.le_refl _)
/-- A table is made anew. -/
theorem ChR.table {w wr w2 : World} {aL : Option Addr} {c n gP gT gK m G N gW : Nat} {L bs P ls : List Nat} {vs : List Value} {T rows : List (List Nat)} {a7 : Option Addr} {c7 : Nat} (h : ChR w aL c n L gP gT gK m G N gW bs vs T P rows wr) (hN : gT < N ∧ gK < N ∧ gP < N ∧ w.heap.size + 1 < N)
    (hO : w.heap.size + 1 < gT ∧ w.heap.size + 1 < gK ∧ w.heap.size + 1 < gP ∧ gT ≠ gP ∧ gK ≠ gP ∧ gT ≠ gK) (hk : Kept [] wr w2) (hr : Row w2 3 (.slice a7 ls.length c7) (natVals ls)) (hf : Fresh wr.heap.size (footA a7)) (t : Nat) :
    ChR w aL c n L gP gT gK m G N gW bs (vs.set t (.slice a7 ls.length c7)) (T.set t ls) P rows (w2.setCell ⟨gT, t, none⟩ (.slice a7 ls.length c7)) := by
  have h2 := h.on0 hk
  have hkS : Kept [gT] w2 (w2.setCell ⟨gT, t, none⟩ (.slice a7 ls.length c7)) := (Kept.refl _ _).setCell (p := ⟨gT, t, none⟩) (by simp) _
  have ht := h.top
  refine ⟨h2.base.on hkS (by intro y hy; simp at hy; omega), h2.tops.put t _, ?_, h2.picks.kept hkS (by intro y hy hm; simp [foot, Value.ownBlock] at hy hm; omega), h2.mat.on hkS (by intro y hy; simp at hy; subst hy; exact ⟨by omega, fun hm => by have := h.mat.gt _ hm; omega⟩), ht⟩
  have hlt : ∀ x ∈ [w.heap.size + 1, gT, gK, gW] ++ bs, x < wr.heap.size := by
    intro x hx
    have h3 := h.base.big
    rcases List.mem_append.1 hx with hx | hx
    · simp at hx
      have h4 := h.mat.top.lt gW (by simp [foot, Value.ownBlock])
      omega
    · obtain ⟨i, hi⟩ := List.getElem?_of_mem hx
      obtain ⟨r2, hr2⟩ : ∃ r2, rows[i]? = some r2 := ⟨_, List.getElem?_eq_getElem (by rw [← h.mat.len]; exact (List.getElem?_eq_some_iff.1 hi).1)⟩
      exact (h.mat.row i x r2 hi hr2).lt x (by simp [foot, Value.ownBlock])
  have := h2.tabs.setRow (w0 := wr) (b := a7) (c := c7) (i := t) (gT := gT) (t := castI ls) hlt (by rw [castI_length, castI_vals]; exact hr) hf (by simp)
  rw [castI_length] at this
  rw [List.map_set]
  exact this
def GChD (w : World) (aL : Option Addr) (c n : Nat) (L : List Nat) (gP gT gK m G N gW : Nat) (vs : List Value) (T : List (List Nat)) (P : List Nat) (k : Nat) (v : Value) (wr : World) : Prop :=
  ∃ (i : Nat) (bs : List Nat), k = m - i ∧ i ≤ m ∧ v = .int .i64 (i : Nat) ∧ Hid (bs.length = i) ∧ Hid (ChR w aL c n L gP gT gK m G N gW bs vs T P (List.replicate i (List.replicate n 0)) wr)
def GChE (w : World) (aL : Option Addr) (c n : Nat) (L : List Nat) (gP gT gK m G N gW : Nat) (bs : List Nat) (vs : List Value) (T : List (List Nat)) (P0 P1 : List Nat) (k : Nat) (v : Value) (wr : World) : Prop :=
  ∃ j : Nat, k = G - j ∧ j ≤ G ∧ v = .int .i64 (j : Nat) ∧ Hid (ChR w aL c n L gP gT gK m G N gW bs vs T (P1.take j ++ P0.drop j) (cntsAt L P1 n m (min (50 * j) L.length)) wr)
def GChF (w : World) (aL : Option Addr) (c n : Nat) (L : List Nat) (gP gT gK m G N gW : Nat) (bs : List Nat) (vs : List Value) (T : List (List Nat)) (P P1 : List Nat) (j : Nat) (g : List Nat) (k : Nat) (v : Value) (wr : World) : Prop :=
  ∃ i : Nat, k = g.length - i ∧ i ≤ g.length ∧ v = .int .i64 (i : Nat) ∧ Hid (ChR w aL c n L gP gT gK m G N gW bs vs T P (cntsAt L P1 n m (50 * j + i)) wr)
def GChH (w : World) (aL : Option Addr) (c n : Nat) (L : List Nat) (gP gT gK m G N gW : Nat) (bs : List Nat) (T T2 : List (List Nat)) (P1 : List Nat) (k : Nat) (v : Value) (wr : World) : Prop :=
  ∃ (t : Nat) (vs : List Value), k = m - t ∧ t ≤ m ∧ v = .int .i64 (t : Nat) ∧ Hid (ChR w aL c n L gP gT gK m G N gW bs vs (T2.take t ++ T.drop t) P1 (cntsAt L P1 n m L.length) wr)
set_option maxRecDepth 100000 in
set_option maxHeartbeats 4000000 in
theorem gchoose_good (a : Option Addr) (c n : Nat) (L : List Nat) (w : World) (h : Sees w 1 a L.length (natVals L)) (hc : L.length ≤ c) (hcm : c ≤ maxLen) (hm : K.mayListL (castI L) (n : Int) = true) (hl : L.length ≤ 10000) :
    Calls Try.prog 29 #[.slice a L.length c, .int .i64 (n : Int)] w (PlanPost ((K.tabsC L n (K.tablesR (L.length : Int)).1 4).map castI) (castI (K.picksC L n (K.tablesR (L.length : Int)).1 4)) 0 w) := by
  obtain ⟨hmay, hn3, hn258, hx1, hx2, hall⟩ := cnt_may hm
  rw [castI_length] at hx1 hx2
  have hn3 : 3 ≤ n := by omega
  have hn258 : n ≤ 258 := by omega
  have hLs : ∀ s ∈ L, s < n := by
    intro s hs
    have := hall (s : Int) (List.mem_map.2 ⟨s, hs, rfl⟩)
    omega
  have hk : Kept [] w ((w.alloc (.cells #[.slice a L.length c] 30)).alloc (.cells #[.slice none 0 0, .slice none 0 0] 32)) := ((Kept.refl _ _).alloc _).alloc _
  have hB := Arr.new w [.slice a L.length c] 30
  have hA := Arr.new (w.alloc (.cells #[.slice a L.length c] 30)) [.slice none 0 0, .slice none 0 0] 32
  rw [show (w.alloc (.cells #[.slice a L.length c] 30)).heap.size = w.heap.size + 1 by simp] at hA
  have hB2 := hB.kept ((Kept.refl [] _).alloc (.cells #[.slice none 0 0, .slice none 0 0] 32)) (by simp)
  have M := gmayList_any a c (castI L) (n : Int) _ (by rw [castI_length, castI_vals]; exact h.kept0 hk) (by rw [castI_length]; omega)
  rw [hm, castI_length] at M
  obtain ⟨t1, t2, t3⟩ := tablesR_ok L.length hx1
  obtain ⟨⟨m, e0⟩, hTR⟩ : ∃ R, K.tablesR (L.length : Int) = R := ⟨_, rfl⟩
  rw [hTR] at t1 t2 t3
  have t1 : e0 = 0 := t1
  subst t1
  have t2 : 2 ≤ m := t2
  have t3 : m ≤ 6 := t3
  have HTR := Lib.hid hTR
  rw [hTR]
  have hgn : K.groupsN L.length ≤ 1000 := by unfold K.groupsN; omega
  have HGN1 := Lib.hid (show L.length ≤ 50 * K.groupsN L.length by unfold K.groupsN; omega)
  obtain ⟨G, hG⟩ : ∃ G, K.groupsN L.length = G := ⟨_, rfl⟩
  have HGG := Lib.hid hG
  have HGC := Lib.hid (fun W => show Calls Try.prog 52 #[.int .i64 L.length] W (fun e w' => e = .returned (.int .i64 (G : Nat)) ∧ W = w') by rw [← hG]; exact ggroups_any L.length W (by omega))
  rw [hG] at hgn
  obtain ⟨W, hW⟩ : ∃ W, (w.alloc (.cells #[.slice a L.length c] 30)).alloc (.cells #[.slice none 0 0, .slice none 0 0] 32) = W := ⟨_, rfl⟩
  have hzW : W.heap.size = w.heap.size + 1 + 1 := by rw [← hW]; simp
  have b0 : ((w.alloc (.cells #[.slice a L.length c] 30)).alloc (.cells #[.slice none 0 0, .slice none 0 0] 32)).cell? ⟨w.heap.size, 0, none⟩ = some (.slice a L.length c) := hB2.cell (i := 0) rfl
  have d0 : W.cell? ⟨w.heap.size, 0, none⟩ = some (.slice a L.length c) := by rw [← hW]; exact b0
  have HW := Lib.hid hW
  rw [hW] at hk hA hB2
  have HS := Lib.hid h
  have HK := Lib.hid hk
  have HA := Lib.hid hA
  have HB := Lib.hid hB2
  have HLS := Lib.hid hLs
  obtain ⟨ZT, hZT, hmkT⟩ := make_rows m (by omega)
  obtain ⟨ZK, hZK, hmkK⟩ := make_intsG G (by omega)
  have HZT := Lib.hid hZT
  have HZK := Lib.hid hZK
  clear h hk hA hB hB2 hall hmay hm hLs hTR hW hZT hZK hG
  go_enter Try.func29, Try.ntmps29
  go_wp2_with fail
  refine M.mono ?_
  rintro e w1 ⟨rfl, rfl⟩
  clear M
  go_wp2_with fail
  refine (gtables_any (L.length : Int) _).mono ?_
  intro e w' hp
  unfold TablesPost at hp
  rw [HTR.out] at hp
  obtain ⟨rfl, rfl⟩ := hp
  rw [HW.out]
  clear b0 HW
  go_upto_region 4 with (fail)
  go_cut [8] (fun v8 wc => ChoC W m G v8 wc)
  case first =>
    go_region_held3 (fun w' => w'.cell? ⟨w.heap.size, 0, none⟩ = some (.slice a L.length c)) (first | (refine Kept.cellOf (w := W) (S := []) ?_ d0 (by simp); repeat (first | exact Kept.refl _ _ | refine Kept.drew ?_ | refine Kept.alloc ?_ _ | refine Kept.setCell ?_ (.inr (by simp; try omega)) _))) (first | (go_at_call 52; refine (HGC.out _).mono ?_; rintro e w4 ⟨rfl, rfl⟩))
    all_goals
      go_wp2_with fail
      go_meet
      first
        | exact cho_mk W _ m G ZT ZK _ _ _ HZT.out HZK.out (by omega) (by omega) (cho_three W _ _ _ _ _ _ (w.heap.size + 1 + 1) hzW).2.2.2 (cho_three W _ _ _ _ _ _ (w.heap.size + 1 + 1) hzW).1 (cho_three W _ _ _ _ _ _ (w.heap.size + 1 + 1) hzW).2.1 (cho_three W _ _ _ _ _ _ (w.heap.size + 1 + 1) hzW).2.2.1 (by omega)
        | exact cho_mk W _ m G ZT ZK _ _ _ HZT.out HZK.out (by omega) (by omega) (cho_three W _ _ _ _ _ _ (w.heap.size + 1 + 1) hzW).2.2.2 (cho_three W _ _ _ _ _ _ (w.heap.size + 1 + 1) hzW).1 (cho_three W _ _ _ _ _ _ (w.heap.size + 1 + 1) hzW).2.2.1 (cho_three W _ _ _ _ _ _ (w.heap.size + 1 + 1) hzW).2.1 (by omega)
        | exact cho_mk W _ m G ZT ZK _ _ _ HZT.out HZK.out (by omega) (by omega) (cho_three W _ _ _ _ _ _ (w.heap.size + 1 + 1) hzW).2.2.2 (cho_three W _ _ _ _ _ _ (w.heap.size + 1 + 1) hzW).2.1 (cho_three W _ _ _ _ _ _ (w.heap.size + 1 + 1) hzW).1 (cho_three W _ _ _ _ _ _ (w.heap.size + 1 + 1) hzW).2.2.1 (by omega)
        | exact cho_mk W _ m G ZT ZK _ _ _ HZT.out HZK.out (by omega) (by omega) (cho_three W _ _ _ _ _ _ (w.heap.size + 1 + 1) hzW).2.2.2 (cho_three W _ _ _ _ _ _ (w.heap.size + 1 + 1) hzW).2.1 (cho_three W _ _ _ _ _ _ (w.heap.size + 1 + 1) hzW).2.2.1 (cho_three W _ _ _ _ _ _ (w.heap.size + 1 + 1) hzW).1 (by omega)
        | exact cho_mk W _ m G ZT ZK _ _ _ HZT.out HZK.out (by omega) (by omega) (cho_three W _ _ _ _ _ _ (w.heap.size + 1 + 1) hzW).2.2.2 (cho_three W _ _ _ _ _ _ (w.heap.size + 1 + 1) hzW).2.2.1 (cho_three W _ _ _ _ _ _ (w.heap.size + 1 + 1) hzW).1 (cho_three W _ _ _ _ _ _ (w.heap.size + 1 + 1) hzW).2.1 (by omega)
        | exact cho_mk W _ m G ZT ZK _ _ _ HZT.out HZK.out (by omega) (by omega) (cho_three W _ _ _ _ _ _ (w.heap.size + 1 + 1) hzW).2.2.2 (cho_three W _ _ _ _ _ _ (w.heap.size + 1 + 1) hzW).2.2.1 (cho_three W _ _ _ _ _ _ (w.heap.size + 1 + 1) hzW).2.1 (cho_three W _ _ _ _ _ _ (w.heap.size + 1 + 1) hzW).1 (by omega)
  case rest =>
    obtain ⟨gT, gK, gP, rfl, hrT, hrK, hAP, hkc, z1, z2, z3, z4, z5, z6⟩ := hcut
    rw [hzW] at z1 z2 z3
    have HO := Lib.hid (show w.heap.size + 1 < gT ∧ w.heap.size + 1 < gK ∧ w.heap.size + 1 < gP ∧ gT ≠ gP ∧ gK ≠ gP ∧ gT ≠ gK by omega)
    have HZ := Lib.hid (show gT < wc.heap.size ∧ gK < wc.heap.size ∧ gP < wc.heap.size from ⟨hrT.lt gT (by simp [foot, Value.ownBlock]), hrK.lt gK (by simp [foot, Value.ownBlock]), hAP.lt⟩)
    obtain ⟨N, hN⟩ : ∃ N, wc.heap.size = N := ⟨_, rfl⟩
    have HCS := Lib.hid (show ChS w a c n L gP gT gK m G N wc from ⟨HB.out.kept hkc (by simp), HA.out.kept hkc (by simp), hAP, HK.out.trans hkc (by simp), by omega⟩)
    rw [hN] at HZ
    have HRT := Lib.hid hrT
    have HRK := Lib.hid hrK
    obtain ⟨ZN, hZN, hmkN⟩ := make_intsG n (by omega)
    have HZN := Lib.hid hZN
    have HLC := Lib.hid (initT_get n m)
    have e0 := hAP.cell (i := 0) (u := .slice (some ⟨gT, 0, none⟩) m m) rfl
    clear hrT hrK hkc z1 z2 z3 z4 z5 z6 d0 hmkT hmkK hZN HA HB HK hN hAP
    go_wp2_with fail
    clear e0
    go_loopg [41] m (fun k v wr => GChA w a c n L gP gT gK m G N k v wr)
    case atStart => exact ⟨0, [], by omega, by omega, rfl, Lib.hid rfl, Lib.hid (by simpa using HRT.out), Lib.hid (TabsI.nil _ _), HRK, HCS⟩
    case round =>
      clear HRT HRK HCS
      obtain ⟨t, vs, hk, ht, rfl, HVL, HR, HT, HRK, HCS⟩ := hrel
      have Hk := Lib.hid hk
      clear hk
      by_cases hlt : t < m
      · have hli : (t : Int) < (m : Int) := by omega
        have HROW := Lib.hid (HLC.out t hlt)
        obtain ⟨row, hrow⟩ : ∃ row, ((List.range n).map fun s => if s * m / n = t then 1 else 15) = row := ⟨_, rfl⟩
        have HRG := Lib.hid (show ∀ s, s < n → row[s]? = some (if s * m / n = t then 1 else 15) by intro s hs; rw [← hrow]; simp [List.getElem?_range hs])
        rw [hrow] at HROW
        have HRL := Lib.hid (show row.length = n by rw [← hrow]; simp)
        have hr0 := HR.out
        rw [show m - t = (m - (t + 1)) + 1 by omega, List.replicate_succ] at hr0
        have HR0 := Lib.hid hr0
        have e0 := HCS.out.plan.cell (i := 0) (u := .slice (some ⟨gT, 0, none⟩) m m) rfl
        have e1 := hr0.cellAt (j := t) (u := .slice none 0 0) (by rw [List.getElem?_append_right (by have := HVL.out; omega), HVL.out, Nat.sub_self]; rfl)
        have e2 := hr0.free t
        have hbig := HCS.out.big
        have hz := HZ.out.1
        have hgl : gT < wr.heap.size := by omega
        have hgl2 : gP < wr.heap.size := by have := HZ.out.2.2; omega
        clear hrow hr0
        go_wp2_with fail
        go_region_held3 (fun w' => w'.cell? ⟨gP, 0, none⟩ = some (.slice (some ⟨gT, 0, none⟩) m m)) (first | exact e0 | exact ((Kept.refl [] wr).drew.alloc _).cellOf e0 (by simp) | exact (((Kept.refl [gT] wr).drew.setCell (p := ⟨gT, t, none⟩) (by simp) _).alloc _).cellOf e0 (by simp; have := HO.out; omega) | exact (((Kept.refl [gT] wr).drew.alloc _).setCell (p := ⟨gT, t, none⟩) (by simp) _).cellOf e0 (by simp; have := HO.out; omega)) (fail)
        obtain ⟨b, hb⟩ : ∃ b, wr.heap.size = b := ⟨_, rfl⟩
        obtain ⟨W8, hW8⟩ : ∃ W8, ((wr.setCell ⟨gT, t, none⟩ (.slice (some ⟨wr.heap.size, 0, none⟩) n n)).alloc (.cells ZN 3)).drew = W8 := ⟨_, rfl⟩
        rw [hW8]
        have hkS : Kept [gT] wr W8 := by rw [← hW8]; exact (((Kept.refl [gT] wr).setCell (p := ⟨gT, t, none⟩) (by simp) _).alloc _).drew
        have hrT : Row W8 30 (.slice (some ⟨gT, 0, none⟩) m m) (vs ++ .slice (some ⟨b, 0, none⟩) n n :: List.replicate (m - (t + 1)) (.slice none 0 0)) := by
          rw [← hW8, hb]
          have h := (HR0.out.put t (.slice (some ⟨b, 0, none⟩) n n)).alloc (.cells ZN 3)
          rw [List.set_append, if_neg (by have := HVL.out; omega), HVL.out, Nat.sub_self, List.set_cons_zero] at h
          exact h.drew
        have hrB : Row W8 3 (.slice (some ⟨b, 0, none⟩) n n) (natVals (row.take 0 ++ List.replicate (n - 0) 0)) := by
          rw [List.take_zero, List.nil_append, Nat.sub_zero, show natVals (List.replicate n 0) = List.replicate n (.int .i64 0) by simp [natVals], ← hW8, ← hb]
          have h := heap_alloc_new (wr.setCell ⟨gT, t, none⟩ (.slice (some ⟨wr.heap.size, 0, none⟩) n n)) (.cells ZN 3)
          rw [show (wr.setCell ⟨gT, t, none⟩ (.slice (some ⟨wr.heap.size, 0, none⟩) n n)).heap.size = wr.heap.size by simp [World.setCell]] at h
          exact (Row.at_any _ wr.heap.size n ZN _ _ HZN.out (by omega) h).drew
        have hbb : b ≠ gT ∧ b ≠ gK ∧ b ≠ gP ∧ w.heap.size + 1 < b := by have h1 := HZ.out; have h2 := HO.out; omega
        have hT8 : TabsI W8 [w.heap.size + 1, gT, gK, b] vs (((K.initT n m).take t).map castI) := HT.out.step (hkS.mono (by intro x hx; simp at hx; simp [hx])) (by
          intro x hx
          simp at hx
          rcases hx with h | h | h | h
          · exact .inl (by simp [h])
          · exact .inl (by simp [h])
          · exact .inl (by simp [h])
          · exact .inr (by omega))
        have HR8 := Lib.hid hrT
        have HB8 := Lib.hid hrB
        have HT8 := Lib.hid hT8
        have HK8 := Lib.hid (HRK.out.kept hkS (by intro x hx hm; simp [foot, Value.ownBlock] at hx hm; have := HO.out; omega))
        have HC8 := Lib.hid (HCS.out.on hkS (by intro x hx; simp at hx; have := HO.out; omega))
        have HBB := Lib.hid hbb
        rw [hb]
        clear hW8 hkS hrT hrB hT8 hb HR HR0 HT HRK HCS e0 e1 e2 hbig hgl hgl2 hbb hz
        go_wp2_with fail
        go_loopg [51] n (fun k v wr2 => GChB w a c n L gP gT gK m G N t b vs row k v wr2)
        case atStart => exact ⟨0, by omega, by omega, rfl, HR8, HB8, HT8, HK8, HC8⟩
        case round =>
          clear HR8 HB8 HT8 HK8 HC8
          obtain ⟨s, hk, hs, rfl, HR, HB, HT, HRK, HCS⟩ := hrel
          have Hk2 := Lib.hid hk
          clear hk
          by_cases hlt2 : s < n
          · have hli2 : (s : Int) < (n : Int) := by omega
            have hsm : s * m ≤ 258 * 6 := Nat.mul_le_mul (by omega) t3
            obtain ⟨pr, hpr⟩ : ∃ pr, s * m = pr := ⟨_, rfl⟩
            have hsmi : (s : Int) * (m : Int) = (pr : Int) := by rw [← hpr]; push_cast; rfl
            obtain ⟨q, hq⟩ : ∃ q, s * m / n = q := ⟨_, rfl⟩
            have hqi : (pr : Int) / (n : Int) = (q : Int) := by rw [← hq, hpr]; rfl
            have hqt : (pr : Int).tdiv (n : Int) = (q : Int) := by rw [Int.tdiv_eq_ediv_of_nonneg (by omega)]; exact hqi
            have hw1 : IntKind.i64.wrap (pr : Int) = (pr : Int) := IntWalk.i64_in _ (by omega)
            have hqb : q ≤ 258 * 6 := by rw [← hq]; exact Nat.le_trans (Nat.div_le_self _ _) hsm
            have hw2 : IntKind.i64.wrap (q : Int) = (q : Int) := IntWalk.i64_in _ (by omega)
            have hnz : ((n : Int) == 0) = false := by simp; omega
            have hRS := HRG.out s hlt2
            rw [hq] at hRS
            have e0 := HCS.out.plan.cell (i := 0) (u := .slice (some ⟨gT, 0, none⟩) m m) rfl
            have e1 := HR.out.cellAt (j := t) (u := .slice (some ⟨b, 0, none⟩) n n) (by rw [List.getElem?_append_right (by have := HVL.out; omega), HVL.out, Nat.sub_self]; rfl)
            have e2 := HB.out.cellAt (j := s) (u := .int .i64 0) (by
              have h : (row.take s ++ List.replicate (n - s) 0)[s]? = some 0 := by
                have ht : (row.take s).length = s := by rw [List.length_take, HRL.out]; omega
                rw [List.getElem?_append_right (by omega), ht, Nat.sub_self, List.getElem?_replicate, if_pos (by omega)]
              exact nv_get h)
            have e3 := HB.out.free s
            have n1 : ¬ b = gT := HBB.out.1
            have n2 : ¬ b = gP := HBB.out.2.2.1
            have n3 : ¬ gT = b := fun h => n1 h.symm
            have n4 : ¬ gP = b := fun h => n2 h.symm
            rw [hpr] at hsm
            clear hq hpr
            by_cases he : q = t
            · have q1 : ((q : Int) == (t : Int)) = true := by simp; omega
              rw [if_pos he] at hRS
              have HRS := Lib.hid hRS
              clear hRS he
              go_wp2_with fail
              go_roundg (n - (s + 1))
              case measure => have := Hk2.out; omega
              case rel =>
                have hk6 : Kept [b] wr ((wr.setCell ⟨b, s, none⟩ (.int .i64 15)).setCell ⟨b, s, none⟩ (.int .i64 ((1 : Nat) : Int))) := ((Kept.refl _ _).setCell (p := ⟨b, s, none⟩) (by simp) _).setCell (p := ⟨b, s, none⟩) (by simp) _
                have hput := (HB.out.put s (.int .i64 15)).put s (.int .i64 ((1 : Nat) : Int))
                rw [List.set_set] at hput
                obtain ⟨r1, r2, r3, r4, r5⟩ := gchb_next (x := 1) HRL.out HRS.out HR.out HT.out HRK.out HCS.out HBB.out hk6 hput
                exact ⟨s + 1, rfl, by omega, by simp, Lib.hid r1, Lib.hid r2, Lib.hid r3, Lib.hid r4, Lib.hid r5⟩
            · have q1 : ((q : Int) == (t : Int)) = false := by simp; omega
              rw [if_neg he] at hRS
              have HRS := Lib.hid hRS
              clear hRS he
              go_wp2_with fail
              go_roundg (n - (s + 1))
              case measure => have := Hk2.out; omega
              case rel =>
                have hk6 : Kept [b] wr (wr.setCell ⟨b, s, none⟩ (.int .i64 ((15 : Nat) : Int))) := (Kept.refl _ _).setCell (p := ⟨b, s, none⟩) (by simp) _
                have hput := HB.out.put s (.int .i64 ((15 : Nat) : Int))
                obtain ⟨r1, r2, r3, r4, r5⟩ := gchb_next (x := 15) HRL.out HRS.out HR.out HT.out HRK.out HCS.out HBB.out hk6 hput
                exact ⟨s + 1, rfl, by omega, by simp, Lib.hid r1, Lib.hid r2, Lib.hid r3, Lib.hid r4, Lib.hid r5⟩
          · obtain rfl : n = s := by omega
            have hll2 : ¬ (n : Int) < (n : Int) := by omega
            go_wp2_with fail
            go_roundg (m - (t + 1))
            case measure => have := Hk.out; omega
            case rel =>
              have hrw := HB.out
              rw [List.take_of_length_le (by rw [HRL.out]; exact Nat.le_refl _), Nat.sub_self, List.replicate_zero, List.append_nil, ← castI_vals] at hrw
              have hcl : (castI row).length = n := by rw [castI_length, HRL.out]
              have ht := (HT.out.less (F2 := [w.heap.size + 1, gT, gK]) (by intro x hx; simp at hx; rcases hx with rfl | rfl | rfl <;> simp)).snocA (b := some ⟨b, 0, none⟩) (c := n) (t := castI row) (by rw [hcl]; exact hrw) (by intro x hx hm; simp [footA] at hx hm; have := HBB.out; omega)
              rw [hcl] at ht
              refine ⟨t + 1, vs ++ [.slice (some ⟨b, 0, none⟩) n n], rfl, by omega, by simp, Lib.hid (by simp; exact HVL.out), Lib.hid (by have := HR.out; rw [List.append_assoc]; exact this), Lib.hid ?_, HRK, HCS⟩
              rw [List.take_add_one, HROW.out, List.map_append]
              exact ht
      · obtain rfl : m = t := by omega
        have hll : ¬ (m : Int) < (m : Int) := by omega
        have hR := HR.out
        rw [Nat.sub_self, List.replicate_zero, List.append_nil] at hR
        have hT := HT.out
        rw [List.take_of_length_le (by rw [(K.initT_good n m).1]; exact Nat.le_refl _)] at hT
        have HR1 := Lib.hid hR
        have HT1 := Lib.hid (show TabsI wr [w.heap.size + 1, gT, gK] vs ((K.tabsC L n m 0).map castI) from hT)
        have HP1 := Lib.hid (show Row wr 3 (.slice (some ⟨gK, 0, none⟩) G G) (natVals (K.picksC L n m 0)) by
          have e : natVals (K.picksC L n m 0) = List.replicate G (.int .i64 0) := by unfold K.picksC; rw [HGG.out]; simp [natVals]
          rw [e]; exact HRK.out)
        have HN4 := Lib.hid (show gT < N ∧ gK < N ∧ gP < N ∧ w.heap.size + 1 < N by have h1 := HZ.out; have h2 := HO.out; omega)
        clear hR hT HR HT HRK HVL Hk HLC HZN hmkN
        go_wp2_with fail
        go_loopg [78] 4 (fun k v wr => GChC w a c n L gP gT gK m G N k v wr)
        case atStart => exact ⟨0, vs, by omega, by omega, rfl, HR1, HT1, HP1, HCS⟩
        case round =>
          clear HR1 HT1 HP1 HCS
          obtain ⟨r, vs, hk, hr, rfl, HR, HT, HP, HCS⟩ := hrel
          have Hk := Lib.hid hk
          clear hk
          have HGT2 := Lib.hid (K.tabsC_good L n m ⟨hn3, hn258⟩ (by omega) r)
          obtain ⟨T, hTT⟩ : ∃ T, K.tabsC L n m r = T := ⟨_, rfl⟩
          obtain ⟨P0, hP0⟩ : ∃ P, K.picksC L n m r = P := ⟨_, rfl⟩
          have HTT := Lib.hid hTT
          have HP0L := Lib.hid (show P0.length = G by rw [← hP0, K.picksC_len, HGG.out])
          rw [hTT] at HT HGT2
          rw [hP0] at HP
          have HPF := Lib.hid hP0
          clear hTT hP0
          by_cases hlt : r < 4
          · have hli : (r : Int) < 4 := by omega
            obtain ⟨P1, hP1⟩ : ∃ P, K.picksL T L m = P := ⟨_, rfl⟩
            have HP1 := Lib.hid hP1
            have HP1L := Lib.hid (show P1.length = G by rw [← hP1, K.picksL_length, HGG.out])
            have HP1G := Lib.hid (show ∀ j, j < G → P1[j]? = some (K.bestTo T (K.groupL L j) (m - 1)) by intro j hj; rw [← hP1]; exact K.picksL_get T L m j (by rw [HGG.out]; exact hj))
            clear hP1
            go_wp2_with ((at_make; refine wp_make1 rfl _ _ 29 rfl 30 (.slice none 0 0) 24 Try.underlying29 Try.infoInts rfl .i64 .i64 _ _ m m rfl rfl rfl rfl (Nat.le_refl _) (by omega) (by simp only [maxLen]; omega) ?_; intro w2 hrow2 hk2))
            obtain ⟨gW, hgW⟩ : ∃ gW, wr.heap.size = gW := ⟨_, rfl⟩
            rw [hgW] at hrow2 ⊢
            have HCR := Lib.hid (show ChR w a c n L gP gT gK m G N gW [] vs T P0 (List.replicate 0 (List.replicate n 0)) w2 from
              ⟨HCS.out.on hk2 (by simp), HR.out.kept hk2 (by simp), HT.out.step (hk2.mono (by simp)) (by
                intro x hx
                simp at hx
                rcases hx with h | h | h | h
                · exact .inl (by simp [h])
                · exact .inl (by simp [h])
                · exact .inl (by simp [h])
                · exact .inr (by omega)), HP.out.kept hk2 (by simp), ⟨by simpa using hrow2, rfl, List.nodup_nil, by simp, by simp⟩, by have := HCS.out.big; omega⟩)
            clear hrow2 hk2 hgW HCS HR HT HP
            go_loopg [84] m (fun k v wr2 => GChD w a c n L gP gT gK m G N gW vs T P0 k v wr2)
            case atStart => exact ⟨0, [], by omega, by omega, rfl, Lib.hid rfl, HCR⟩
            case round =>
              clear HCR
              obtain ⟨i, bs, hk, hi, rfl, HBL, HCR⟩ := hrel
              have Hk2 := Lib.hid hk
              clear hk
              by_cases hlt2 : i < m
              · have hli2 : (i : Int) < (m : Int) := by omega
                have k2 := HCR.out.mat.top.cellAt (j := i) (u := .slice none 0 0) (by rw [List.getElem?_append_right (by rw [List.length_map, HBL.out]; exact Nat.le_refl _), List.length_map, HBL.out, Nat.sub_self, List.getElem?_replicate, if_pos (by omega)])
                go_wp2_with ((at_make; refine wp_make1 rfl _ _ 30 rfl 3 (.int .i64 0) 8 Try.underlying30 Try.infoInt rfl .i64 .i64 _ _ n n rfl rfl rfl rfl (Nat.le_refl _) (by omega) (by simp only [maxLen]; omega) ?_; intro w4 hrow4 hk4; have k0 := hk4.cellOf k2 (by simp); have k1 := (HCR.out.mat.top.kept hk4 (by simp)).free i))
                go_roundg (m - (i + 1))
                case measure => have := Hk2.out; omega
                case rel =>
                  have h1 := HCR.out.more HN4.out (by rw [HBL.out]; exact hlt2) hk4 (r := List.replicate n 0) (by rw [show natVals (List.replicate n 0) = List.replicate n (.int .i64 0) by simp [natVals]]; exact hrow4)
                  rw [HBL.out] at h1
                  refine ⟨i + 1, bs ++ [wr.heap.size], rfl, by omega, by simp, Lib.hid (by simp; exact HBL.out), Lib.hid ?_⟩
                  rw [List.replicate_succ']
                  exact h1
              · obtain rfl : m = i := by omega
                have hll2 : ¬ (m : Int) < (m : Int) := by omega
                have hcr := HCR.out
                rw [← cntsAt_zero L P1 n m] at hcr
                have HCR0 := Lib.hid hcr
                have e1 := hcr.base.plan.cell (i := 1) (u := .slice (some ⟨gK, 0, none⟩) G G) rfl
                clear hcr HCR Hk2
                go_wp2_with fail
                clear e1
                go_loopg [96] G (fun k v wr2 => GChE w a c n L gP gT gK m G N gW bs vs T P0 P1 k v wr2)
                case atStart => exact ⟨0, by omega, by omega, rfl, Lib.hid (by simpa using HCR0.out)⟩
                case round =>
                  clear HCR0
                  obtain ⟨j, hk, hj, rfl, HCR⟩ := hrel
                  have Hk2 := Lib.hid hk
                  clear hk
                  by_cases hlt2 : j < G
                  · have hli2 : (j : Int) < (G : Int) := by omega
                    have hjL : 50 * j < L.length := groupN_lt L j (by rw [HGG.out]; exact hlt2)
                    have hmin : min (50 * j) L.length = 50 * j := by omega
                    have hcr := HCR.out
                    rw [hmin] at hcr
                    have HCR := Lib.hid hcr
                    have HST := Lib.hid (hcr.tabs.seesN (Kept.refl _ _) hcr.tops.seeA)
                    have HLL := Lib.hid (HS.out.kept0 hcr.base.kept)
                    have e0 := hcr.base.lst.cell (i := 0) (u := .slice a L.length c) rfl
                    have e1 := hcr.base.plan.cell (i := 0) (u := .slice (some ⟨gT, 0, none⟩) m m) rfl
                    have HCOST := Lib.hid (fun (t : Nat) (ht : t < m) => gcost_any w.heap.size gP gT m c n t j a L T wr e0 HLL.out hc hcm e1 HST.out HGT2.out ht t3 hjL (by omega) HLS.out hn258)
                    have hgl : (K.groupL L j).length = min 50 (L.length - 50 * j) := K.groupL_length L j
                    have hgs : ∀ s ∈ K.groupL L j, s < n := fun s hs => HLS.out s (List.mem_of_mem_drop (List.mem_of_mem_take hs))
                    have hgg := K.groupL_get L j
                    have HPJ := Lib.hid (HP1G.out j hlt2)
                    have HGRP := Lib.hid (fun (W : World) (hW : Sees W 1 a L.length (natVals L)) => ggroup_foot a c j (natVals L) W (by rw [natVals_length]; exact hW) (by rw [natVals_length]; exact hc) hcm (by rw [natVals_length]; exact hjL) (by rw [natVals_length]; omega))
                    have hgm : K.groupL (natVals L) j = natVals (K.groupL L j) := K.groupL_map _ _ _
                    unfold GroupPostF at HGRP
                    rw [hgm, natVals_length, natVals_length] at HGRP
                    obtain ⟨g, hg⟩ : ∃ g, K.groupL L j = g := ⟨_, rfl⟩
                    rw [hg] at HCOST hgl hgs hgg HPJ HGRP
                    have HCB := Lib.hid (show ∀ t, t < m → K.costL (T.getD t []) g ≤ 1000 by
                      intro t ht
                      obtain ⟨row, hrow⟩ : ∃ r, T[t]? = some r := ⟨_, List.getElem?_eq_getElem (by rw [HGT2.out.1]; exact ht)⟩
                      rw [List.getD, hrow]
                      have := K.costL_le row 20 (HGT2.out.2 row (List.mem_of_getElem? hrow)).2 g
                      simp only [Option.getD_some]
                      omega)
                    have HGS := Lib.hid hgs
                    have HGX := Lib.hid hgg
                    have HMN := Lib.hid hmin
                    clear hcr hgm hg hgs hgg hmin e0 e1
                    go_wp2_with fail
                    go_loopg [15, 16] (m - 1) (fun k v15 v wr2 => ∃ t : Nat, k = m - t ∧ 1 ≤ t ∧ t ≤ m ∧ v = .int .i64 (t : Nat) ∧ v15 = .int .i64 (K.bestTo T g (t - 1) : Nat) ∧ wr = wr2)
                    case atStart => exact ⟨1, by omega, by omega, by omega, rfl, rfl, rfl⟩
                    case round =>
                      obtain ⟨t, hk, ht1, ht, rfl, rfl, rfl⟩ := hrel
                      have Hk3 := Lib.hid hk
                      clear hk
                      have hbt := K.bestTo_le T g (t - 1)
                      by_cases hlt3 : t < m
                      · have hli3 : (t : Int) < (m : Int) := by omega
                        have HBT := Lib.hid (show K.bestTo T g t = if K.costL (T.getD t []) g < K.costL (T.getD (K.bestTo T g (t - 1)) []) g then t else K.bestTo T g (t - 1) by
                          obtain ⟨u, rfl⟩ : ∃ u, t = u + 1 := ⟨t - 1, by omega⟩
                          rw [K.bestTo, Nat.add_sub_cancel])
                        obtain ⟨best, hbest⟩ : ∃ best, K.bestTo T g (t - 1) = best := ⟨_, rfl⟩
                        rw [hbest] at hbt HBT ⊢
                        have HC1 := Lib.hid (HCOST.out t hlt3)
                        have HC2 := Lib.hid (HCOST.out best (by omega))
                        have hb1 := HCB.out t hlt3
                        have hb2 := HCB.out best (by omega)
                        obtain ⟨x, hx⟩ : ∃ x, K.costL (T.getD t []) g = x := ⟨_, rfl⟩
                        obtain ⟨y, hy⟩ : ∃ y, K.costL (T.getD best []) g = y := ⟨_, rfl⟩
                        rw [hx] at HC1 hb1 HBT
                        rw [hy] at HC2 hb2 HBT
                        clear hbest hx hy
                        by_cases hb : x < y
                        · have q1 : (x : Int) < (y : Int) := by omega
                          have HB := Lib.hid (show K.bestTo T g t = t by rw [HBT.out, if_pos hb])
                          go_wp2_with fail
                          refine HC1.out.mono ?_
                          rintro e w6 ⟨rfl, rfl⟩
                          go_wp2_with fail
                          refine HC2.out.mono ?_
                          rintro e w6 ⟨rfl, rfl⟩
                          go_wp2_with fail
                          go_roundg (m - (t + 1))
                          case measure => have := Hk3.out; omega
                          case rel => exact ⟨t + 1, rfl, by omega, by omega, by simp, by rw [Nat.add_sub_cancel, HB.out], rfl⟩
                        · have q1 : ¬ (x : Int) < (y : Int) := by omega
                          have HB := Lib.hid (show K.bestTo T g t = best by rw [HBT.out, if_neg hb])
                          go_wp2_with fail
                          refine HC1.out.mono ?_
                          rintro e w6 ⟨rfl, rfl⟩
                          go_wp2_with fail
                          refine HC2.out.mono ?_
                          rintro e w6 ⟨rfl, rfl⟩
                          go_wp2_with fail
                          go_roundg (m - (t + 1))
                          case measure => have := Hk3.out; omega
                          case rel => exact ⟨t + 1, rfl, by omega, by omega, by simp, by rw [Nat.add_sub_cancel, HB.out], rfl⟩
                      · obtain rfl : m = t := by omega
                        have hll3 : ¬ (m : Int) < (m : Int) := by omega
                        obtain ⟨best, hbest⟩ : ∃ best, K.bestTo T g (m - 1) = best := ⟨_, rfl⟩
                        rw [hbest] at hbt HPJ ⊢
                        have hbm : best < m := by omega
                        obtain ⟨old, hold⟩ : ∃ old, (natVals (P1.take j ++ P0.drop j))[j]? = some old := ⟨_, List.getElem?_eq_getElem (by rw [natVals_length, List.length_append, List.length_take, List.length_drop, HP1L.out, HP0L.out]; omega)⟩
                        have e1 := HCR.out.base.plan.cell (i := 1) (u := .slice (some ⟨gK, 0, none⟩) G G) rfl
                        have e2 := HCR.out.picks.cellAt hold
                        have e3 := HCR.out.picks.free j
                        have hcr2 := HCR.out.pick HN4.out HO.out j best
                        rw [mix_set P1 P0 j best HPJ.out (by rw [HP0L.out]; omega)] at hcr2
                        have e4 := hcr2.base.lst.cell (i := 0) (u := .slice a L.length c) rfl
                        have HGC2 := Lib.hid (HGRP.out _ (HS.out.kept0 hcr2.base.kept))
                        have HCR2 := Lib.hid hcr2
                        have n1 : ¬ w.heap.size = gK := by have := HO.out; omega
                        clear hbest hold HCR HCOST HCB Hk3 HST HLL HGRP hcr2
                        go_wp2_with fail
                        refine HGC2.out.mono ?_
                        rintro e w6 ⟨a6, c6, rfl, hs6, rfl, hfa⟩
                        obtain ⟨W7, hW7⟩ : ∃ W7, wr.setCell ⟨gK, j, none⟩ (.int .i64 (best : Int)) = W7 := ⟨_, rfl⟩
                        rw [hW7] at hs6 HCR2 ⊢
                        have HS6 := Lib.hid (show FirmS W7 ([w.heap.size + 1, gT, gK, gW] ++ bs) a6 g.length (natVals g) from fun w' hw => hs6.kept hw fun x hx hm => by
                          rw [hfa] at hx
                          have h1 := HS.out.lt (by rw [natVals_length]; omega) x hx
                          have h2 := HO.out
                          have h3 := HCR2.out.top
                          have h4 := HN4.out
                          rcases List.mem_append.1 hm with hm | hm
                          · simp at hm; omega
                          · have := HCR2.out.mat.gt x hm; omega)
                        obtain ⟨bb, hbb⟩ : ∃ bb, bs[best]? = some bb := ⟨_, List.getElem?_eq_getElem (by rw [HBL.out]; exact hbm)⟩
                        have HBB := Lib.hid hbb
                        have HGL := Lib.hid hgl
                        have hg50 : g.length ≤ 50 := by omega
                        clear hs6 hW7 e1 e2 e3 e4 HGC2 hfa hbb hgl
                        go_wp2_with fail
                        go_loopg [123] g.length (fun k v wr2 => Hid (Kept ([w.heap.size + 1, gT, gK, gW] ++ bs) W7 wr2) ∧ GChF w a c n L gP gT gK m G N gW bs vs T (P1.take (j + 1) ++ P0.drop (j + 1)) P1 j g k v wr2)
                        case atStart => exact ⟨Lib.hid (Kept.refl _ _), 0, by omega, by omega, rfl, Lib.hid (by simpa using HCR2.out)⟩
                        case round =>
                          clear HCR2
                          obtain ⟨HKF, i, hk, hi, rfl, HCR⟩ := hrel
                          have Hk3 := Lib.hid hk
                          clear hk
                          by_cases hlt3 : i < g.length
                          · have hli3 : (i : Int) < (g.length : Int) := by omega
                            obtain ⟨x, hx⟩ : ∃ x, g[i]? = some x := ⟨_, List.getElem?_eq_getElem hlt3⟩
                            have hxn := HGS.out x (List.mem_of_getElem? hx)
                            have hxi : (x : Int) < (n : Int) := by omega
                            have hLx : L[50 * j + i]? = some x := by rw [← HGX.out i hlt3]; exact hx
                            obtain ⟨b6, o6, rfl, hc6⟩ := (HS6.out _ HKF.out).at (by rw [natVals_length]; omega)
                            have e1 := hc6 i _ (nv_get hx)
                            have e2 := HCR.out.mat.cellRow HBB.out
                            have hrow := HCR.out.mat.row best bb _ HBB.out (cntsAt_get L P1 n m (50 * j + i) best hbm)
                            obtain ⟨cv, hcv⟩ : ∃ cv, (K.cntAt L P1 best n (50 * j + i))[x]? = some cv := ⟨_, List.getElem?_eq_getElem (by rw [K.cntAt_length]; exact hxn)⟩
                            have hcvb : cv ≤ 20000 := by
                              have := K.cntAt_le L P1 best n (50 * j + i) cv (List.mem_of_getElem? hcv)
                              omega
                            have e3 := hrow.cellAt (nv_get hcv)
                            have e4 := hrow.free x
                            have hP1 : P1.getD ((50 * j + i) / 50) 0 = best := by rw [show (50 * j + i) / 50 = j by omega, List.getD, HPJ.out]; rfl
                            have HNX := Lib.hid (cntsAt_next L P1 n m (50 * j + i) best x cv hP1 hLx hcv hbm)
                            have HW := Lib.hid (HCR.out.write HN4.out HBB.out (cntsAt_get L P1 n m (50 * j + i) best hbm) x (cv + 1))
                            clear hx hLx hc6 hrow hcv hP1
                            go_wp2_with fail
                            go_roundg (g.length - (i + 1))
                            case measure => have := Hk3.out; omega
                            case rel =>
                              have h1 := HW.out
                              rw [HNX.out] at h1
                              have hkb : Kept ([w.heap.size + 1, gT, gK, gW] ++ bs) wr (wr.setCell ⟨bb, x, none⟩ (.int .i64 ((cv + 1 : Nat) : Int))) := (Kept.refl _ _).setCell (p := ⟨bb, x, none⟩) (.inl (List.mem_append.2 (.inr (List.mem_of_getElem? HBB.out)))) _
                              exact ⟨Lib.hid (HKF.out.trans hkb (fun y hy => .inl hy)), i + 1, rfl, by omega, by simp, Lib.hid h1⟩
                          · obtain rfl : i = g.length := by omega
                            have hll4 : ¬ (g.length : Int) < (g.length : Int) := by omega
                            go_wp2_with fail
                            go_roundg (G - (j + 1))
                            case measure => have := Hk2.out; omega
                            case rel =>
                              have h1 := HCR.out
                              rw [show 50 * j + g.length = min (50 * (j + 1)) L.length by have := HGL.out; omega] at h1
                              exact ⟨j + 1, rfl, by omega, by simp, Lib.hid h1⟩
                  · obtain rfl : G = j := by omega
                    have hll3 : ¬ (G : Int) < (G : Int) := by omega
                    have h1 := HCR.out
                    rw [show min (50 * G) L.length = L.length by have := HGN1.out; have := HGG.out; omega, ← HP1L.out, mix_all P1 P0 (by rw [HP1L.out, HP0L.out]), HP1L.out] at h1
                    obtain ⟨T2, hT2⟩ : ∃ T2, K.stepT L n m P1 = T2 := ⟨_, rfl⟩
                    have HT2 := Lib.hid hT2
                    have HT2G := Lib.hid (show ∀ t, t < m → T2[t]? = some (K.makeF (K.cntAt L P1 t n L.length)) by intro t ht; rw [← hT2]; simp [K.stepT, List.getElem?_range ht])
                    have HT2L := Lib.hid (show T2.length = m by rw [← hT2]; simp [K.stepT])
                    have HCR1 := Lib.hid h1
                    clear hT2 h1 HCR Hk2
                    go_wp2_with fail
                    go_loopg [140] m (fun k v wr2 => GChH w a c n L gP gT gK m G N gW bs T T2 P1 k v wr2)
                    case atStart => exact ⟨0, vs, by omega, by omega, rfl, Lib.hid (by simpa using HCR1.out)⟩
                    case round =>
                      clear HCR1
                      obtain ⟨t, vs, hk, ht, rfl, HCR⟩ := hrel
                      have Hk2 := Lib.hid hk
                      clear hk
                      by_cases hlt3 : t < m
                      · have hli3 : (t : Int) < (m : Int) := by omega
                        have hcl := K.cntAt_length L P1 t n L.length
                        have hcle := K.cntAt_le L P1 t n L.length
                        have HANS := Lib.hid (K.makeF_ans (K.cntAt L P1 t n L.length) (by rw [hcl]; omega) (by rw [hcl]; omega) (fun c hc => by have := hcle c hc; omega))
                        have HMOK := Lib.hid (K.makeF_ok (K.cntAt L P1 t n L.length) (by rw [hcl]; omega) (by rw [hcl]; omega) (fun c hc => by have := hcle c hc; omega))
                        have HTG := Lib.hid (HT2G.out t hlt3)
                        obtain ⟨bb, hbb⟩ : ∃ bb, bs[t]? = some bb := ⟨_, List.getElem?_eq_getElem (by rw [HBL.out]; exact hlt3)⟩
                        have hrow := HCR.out.mat.row t bb _ hbb (cntsAt_get L P1 n m L.length t hlt3)
                        have d1 := HCR.out.mat.cellRow hbb
                        obtain ⟨ws, hws⟩ : ∃ ws, K.cntAt L P1 t n L.length = ws := ⟨_, rfl⟩
                        rw [hws] at hcl HANS HMOK HTG hrow
                        obtain ⟨ls, hls⟩ : ∃ ls, K.makeF ws = ls := ⟨_, rfl⟩
                        rw [hls] at HANS HMOK HTG
                        have HLL := Lib.hid (show ls.length = n by rw [HMOK.out.1, hcl])
                        have hsw : Sees wr 1 (some ⟨bb, 0, none⟩) (castI ws).length (intVals (castI ws)) := by rw [castI_length, castI_vals, hcl]; exact hrow.seeA
                        have HMK := Lib.hid (fun (W : World) (hW : Kept [] wr W) => wmake_any (some ⟨bb, 0, none⟩) n (castI ws) 17 (ls, 0) W (hsw.kept0 hW) (by rw [castI_length, hcl]; omega) HANS.out)
                        rw [castI_length, hcl] at HMK
                        have d0 := HCR.out.base.plan.cell (i := 0) (u := .slice (some ⟨gT, 0, none⟩) m m) rfl
                        obtain ⟨old, hold⟩ : ∃ old, vs[t]? = some old := ⟨_, List.getElem?_eq_getElem (by have := HCR.out.tops.len; omega)⟩
                        have d2 := HCR.out.tops.cellAt hold
                        have HNE := Lib.hid (show gP ≠ gT ∧ gW ≠ gT by have h1 := HO.out; have h2 := HCR.out.top; have h3 := HN4.out; omega)
                        have htm0 : t < m := hlt3
                        clear hws hls hcl hcle hrow hsw hold hbb
                        go_wp2_with fail
                        go_region_held3 (fun w' => w'.cell? ⟨gP, 0, none⟩ = some (.slice (some ⟨gT, 0, none⟩) m m) ∧ w'.cell? ⟨gW, t, none⟩ = some (.slice (some ⟨bb, 0, none⟩) n n))
                          (first | exact ⟨d0, d1⟩ | exact ⟨((Kept.refl [gT] w7).setCell (p := ⟨gT, t, none⟩) (by simp) _).cellOf (hk7.cellOf d0 (by simp)) (by simp; exact HNE.out.1), ((Kept.refl [gT] w7).setCell (p := ⟨gT, t, none⟩) (by simp) _).cellOf (hk7.cellOf d1 (by simp)) (by simp; exact HNE.out.2)⟩ | exact ⟨hk7.cellOf d0 (by simp), hk7.cellOf d1 (by simp)⟩)
                          (first | (go_at_call 69; refine (HMK.out _ (Kept.refl [] wr).drew).mono ?_; rintro e w7 ⟨a7, c7, rfl, hrow7, hk7', hf7⟩; have hk7 : Kept [] wr w7 := (Kept.refl [] wr).drew.trans hk7' (by simp); have k0 := hk7.cellOf d2 (by simp); have k1 := (HCR.out.tops.kept hk7 (by simp)).free t))
                        rename_i hS
                        clear hS
                        go_wp2_with fail
                        go_roundg (m - (t + 1))
                        case measure => have := Hk2.out; omega
                        case rel =>
                          have h1 := HCR.out.table HN4.out HO.out hk7 (ls := ls) hrow7 hf7 t
                          rw [mix_set T2 T t ls HTG.out (by rw [HGT2.out.1]; exact htm0)] at h1
                          exact ⟨t + 1, _, rfl, by omega, by simp, Lib.hid h1⟩
                      · obtain rfl : m = t := by omega
                        have hll4 : ¬ (m : Int) < (m : Int) := by omega
                        have h1 := HCR.out
                        rw [← HT2L.out, mix_all T2 T (by rw [HT2L.out, HGT2.out.1]), HT2L.out] at h1
                        have HCR2 := Lib.hid h1
                        clear h1 HCR Hk2
                        go_wp2_with fail
                        go_roundg (4 - (r + 1))
                        case measure => have := Hk.out; omega
                        case rel =>
                          have e1 : K.tabsC L n m (r + 1) = T2 := by rw [K.tabsC, HTT.out, HP1.out, HT2.out]
                          have e2 : K.picksC L n m (r + 1) = P1 := by rw [K.picksC, HTT.out, HP1.out]
                          exact ⟨r + 1, vs, rfl, by omega, by simp, Lib.hid HCR2.out.tops, Lib.hid (by rw [e1]; exact HCR2.out.tabs.less (by intro x hx; simp at hx; rcases hx with rfl | rfl | rfl <;> simp)), Lib.hid (by rw [e2]; exact HCR2.out.picks), Lib.hid HCR2.out.base⟩
          · obtain rfl : r = 4 := by omega
            have hrr : ¬ ((4 : Nat) : Int) < 4 := by omega
            have d0 := HCS.out.plan.cell (i := 0) (u := .slice (some ⟨gT, 0, none⟩) m m) rfl
            have d1 := HCS.out.plan.cell (i := 1) (u := .slice (some ⟨gK, 0, none⟩) G G) rfl
            have r0 := HCS.out.res.cell (i := 0) (u := .slice none 0 0) rfl
            have r1 := HCS.out.res.cell (i := 1) (u := .slice none 0 0) rfl
            have f0 := HCS.out.res.free 0
            have f1 := HCS.out.res.free 1
            have s0 := ((HCS.out.res.set 0 (.slice (some ⟨gT, 0, none⟩) m m)).set 1 (.slice (some ⟨gK, 0, none⟩) G G)).cell (i := 0) (u := .slice (some ⟨gT, 0, none⟩) m m) rfl
            have s1 := ((HCS.out.res.set 0 (.slice (some ⟨gT, 0, none⟩) m m)).set 1 (.slice (some ⟨gK, 0, none⟩) G G)).cell (i := 1) (u := .slice (some ⟨gK, 0, none⟩) G G) rfl
            go_wp2_with fail
            refine bodyPost_ret (v := .tuple #[planV (some ⟨gT, 0, none⟩) m m (some ⟨gK, 0, none⟩) G G, .int .i64 0]) (by simp [results, Try.results29, go_sem, planV, s0, s1]) rfl ?_
            have hst : Kept [w.heap.size + 1] wr ((wr.setCell ⟨w.heap.size + 1, 0, none⟩ (.slice (some ⟨gT, 0, none⟩) m m)).setCell ⟨w.heap.size + 1, 1, none⟩ (.slice (some ⟨gK, 0, none⟩) G G)) := ((Kept.refl [w.heap.size + 1] wr).setCell (p := ⟨w.heap.size + 1, 0, none⟩) (by simp) _).setCell (p := ⟨w.heap.size + 1, 1, none⟩) (by simp) _
            obtain ⟨WF, hWF⟩ : ∃ WF, (wr.setCell ⟨w.heap.size + 1, 0, none⟩ (.slice (some ⟨gT, 0, none⟩) m m)).setCell ⟨w.heap.size + 1, 1, none⟩ (.slice (some ⟨gK, 0, none⟩) G G) = WF := ⟨_, rfl⟩
            rw [hWF] at hst ⊢
            rw [HTT.out, HPF.out]
            have hst2 : Kept [w.heap.size + 1, gT, gK] wr WF := hst.mono (by intro x hx; simp at hx; simp [hx])
            have hsee : Sees WF 1 (some ⟨gT, 0, none⟩) m vs := HR.out.seeA.kept hst (by intro x hx hm; simp [footA] at hx hm; have := HO.out; omega)
            have hM := HT.out.seesM hst2 hsee
            have hPs : Sees WF 1 (some ⟨gK, 0, none⟩) G (intVals (castI P0)) := by rw [castI_vals]; exact HP.out.seeA.kept hst (by intro x hx hm; simp [footA] at hx hm; have := HO.out; omega)
            have hTl : (T.map castI).length = m := by rw [List.length_map]; exact HGT2.out.1
            have hPl : (castI P0).length = G := by rw [castI_length]; exact HP0L.out
            refine ⟨some ⟨gT, 0, none⟩, m, some ⟨gK, 0, none⟩, G, by rw [hTl, hPl]; rfl, ⟨by rw [hTl]; exact hM, by rw [hPl]; exact hPs, by rw [hTl]; omega, by rw [hPl]; omega, fun t ht => ?_⟩, HCS.out.kept.trans hst (by intro x hx; simp at hx; subst hx; exact .inr (Nat.le_succ _)), by rw [hTl]; exact Nat.le_refl _, by rw [hPl]; exact Nat.le_refl _⟩
            obtain ⟨u, hu, rfl⟩ := List.mem_map.1 ht
            rw [castI_length, (HGT2.out.2 u hu).1]
            omega
end Go.Proofs.Ytdaenajhgbagdaa
