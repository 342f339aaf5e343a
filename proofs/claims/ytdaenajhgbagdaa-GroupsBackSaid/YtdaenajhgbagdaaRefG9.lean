/-
  The walk of layer 11's reference Choose.
-/
import Derived.Test.YtdaenajhgbagdaaGrpK
import Derived.Test.YtdaenajhgbagdaaRefG8
namespace Go.Proofs.Ytdaenajhgbagdaa
open Go.RowKit
set_option linter.unusedVariables false
set_option linter.unusedSimpArgs false

/-- Lengths as ints. -/
def castI (l : List Nat) : List Int := l.map fun c : Nat => (c : Int)
theorem castI_length (l : List Nat) : (castI l).length = l.length := by simp [castI]
theorem castI_vals (l : List Nat) : intVals (castI l) = natVals l := (natVals_int l).symm
theorem TabsI.seesN {w w' : World} {F : List Nat} {vs : List Value} {T : List (List Nat)} (h : TabsI w F vs (T.map castI)) (hk : Kept F w w') {a : Option Addr} {n : Nat} (hs : Sees w' 1 a n vs) : SeesM w' a n (T.map natVals) := by
  have := h.seesM hk hs
  rwa [List.map_map, show (intVals ∘ castI) = natVals from funext castI_vals] at this
/-- A row is put in a place. -/
theorem TabsI.setRow {w0 w : World} {F : List Nat} {vs : List Value} {T : List (List Int)} (h : TabsI w F vs T) (hF : ∀ x ∈ F, x < w0.heap.size) {b : Option Addr} {c i gT : Nat} {t : List Int} (hr : Row w 3 (.slice b t.length c) (intVals t)) (hf : Fresh w0.heap.size (footA b)) (hg : gT ∈ F) :
    TabsI (w.setCell ⟨gT, i, none⟩ (.slice b t.length c)) F (vs.set i (.slice b t.length c)) (T.set i t) := by
  have hk : Kept F w (w.setCell ⟨gT, i, none⟩ (.slice b t.length c)) := (Kept.refl F w).setCell (p := ⟨gT, i, none⟩) (.inl hg) _
  refine ⟨by simp [h.1], fun j u r h1 h2 => ?_⟩
  rw [List.getElem?_set] at h1 h2
  by_cases hij : i = j
  · rw [if_pos hij] at h1 h2
    split at h1
    · split at h2
      · obtain rfl := Option.some.inj h1
        obtain rfl := Option.some.inj h2
        obtain ⟨a2, c2, hv, k1, k2, -, -⟩ := hr.sees
        rw [intVals_length] at hv k1
        injection hv with e1 e2 e3
        subst e3
        refine ⟨b, c, rfl, k1, k2, fun w' hw => ?_⟩
        exact (hr.kept (hk.trans hw (fun x hx => .inl hx)) (fun x hx hm => by
          rw [foot_slice] at hx
          have := hf x hx
          have := hF x hm
          omega)).seeA
      · cases h2
    · cases h1
  · rw [if_neg hij] at h1 h2
    obtain ⟨b2, c2, h3, h4, h5, h6⟩ := h.2 j u r h1 h2
    exact ⟨b2, c2, h3, h4, h5, fun w' hw => h6 w' (hk.trans hw (fun x hx => .inl hx))⟩
theorem tablesR_ok (x : Nat) (h : 1 ≤ x) : (K.tablesR (x : Int)).2 = 0 ∧ 2 ≤ (K.tablesR (x : Int)).1 ∧ (K.tablesR (x : Int)).1 ≤ 6 := by
  unfold K.tablesR
  rw [if_neg (by omega)]
  split
  · simp
  · split
    · simp
    · split
      · simp
      · split <;> simp
theorem rchooseG_bad (a : Option Addr) (c : Nat) (xs : List Int) (n : Int) (w : World) (h : Sees w 1 a xs.length (intVals xs)) (hl : xs.length ≤ 17592186043904) (hno : K.mayListL xs n = false) :
    Calls Try.prog 30 #[.slice a xs.length c, .int .i64 n] w (PlanPost [] [] 2 w) := by
  have hk : Kept [] w (w.alloc (.cells #[.slice none 0 0, .slice none 0 0] 32)) := (Kept.refl _ _).alloc _
  have hA := Arr.new w [.slice none 0 0, .slice none 0 0] 32
  have M := rmayList_any a c xs n _ (h.kept0 hk) hl
  rw [hno] at M
  have s0 : (w.alloc (.cells #[.slice none 0 0, .slice none 0 0] 32)).cell? ⟨w.heap.size, 0, none⟩ = some (.slice none 0 0) := hA.cell (i := 0) rfl
  have s1 : (w.alloc (.cells #[.slice none 0 0, .slice none 0 0] 32)).cell? ⟨w.heap.size, 1, none⟩ = some (.slice none 0 0) := hA.cell (i := 1) rfl
  have HK := Lib.hid hk
  clear h hno hk hA
  go_enter Try.func30, Try.ntmps30
  go_wp2_with fail
  refine M.mono ?_
  rintro e w' ⟨rfl, rfl⟩
  go_wp2_with fail
  refine bodyPost_ret (v := .tuple #[planV none 0 0 none 0 0, .int .i64 2]) (by simp [results, Try.results30, go_sem, planV, s0, s1]) rfl ?_
  exact ⟨none, 0, none, 0, rfl, PlanAt.nil _, HK.out, by simp, by simp⟩
/-- What is common to all loops of Choose: the list, the result's cell. -/
structure ChBase (w : World) (aL : Option Addr) (L : List Nat) (wr : World) : Prop where
  res : Arr wr w.heap.size 32 [.slice none 0 0, .slice none 0 0]
  kept : Kept [] w wr
/-- In the loops that lay the first tables: t are laid. -/
def RChA (w : World) (gT n m : Nat) (k : Nat) (v : Value) (wr : World) : Prop :=
  ∃ (t : Nat) (vs : List Value), k = m - t ∧ t ≤ m ∧ v = .int .i64 (t : Nat) ∧ Hid (vs.length = t) ∧ Hid (Row wr 30 (.slice (some ⟨gT, 0, none⟩) m m) (vs ++ List.replicate (m - t) (.slice none 0 0))) ∧ Hid (TabsI wr [w.heap.size, gT] vs (((K.initT n m).take t).map castI)) ∧
    Hid (Arr wr w.heap.size 32 [.slice none 0 0, .slice none 0 0]) ∧ Hid (Kept [] w wr)
/-- Of the t-th one s places are laid. -/
def RChB (w : World) (gT n m t : Nat) (vs : List Value) (row : List Nat) (k : Nat) (v : Value) (wr : World) : Prop :=
  ∃ (s : Nat) (a : Option Addr) (c : Nat), k = n - s ∧ s ≤ n ∧ v = .int .i64 (s : Nat) ∧ Hid (Row wr 30 (.slice (some ⟨gT, 0, none⟩) m m) (vs ++ .slice a s c :: List.replicate (m - (t + 1)) (.slice none 0 0))) ∧ Hid (Row wr 3 (.slice a s c) (natVals (row.take s))) ∧
    Hid (TabsI wr (w.heap.size :: gT :: footA a) vs (((K.initT n m).take t).map castI)) ∧ Hid (Apart (footA a) [w.heap.size, gT]) ∧ Hid (Arr wr w.heap.size 32 [.slice none 0 0, .slice none 0 0]) ∧ Hid (Kept [] w wr) ∧ Hid (Fresh w.heap.size (footA a))
/-- Between the rounds: r are done. -/
def RChC (w : World) (gT gK n m : Nat) (L : List Nat) (k : Nat) (v : Value) (wr : World) : Prop :=
  ∃ (r : Nat) (vs : List Value), k = 4 - r ∧ r ≤ 4 ∧ v = .int .i64 (r : Nat) ∧ Hid (Row wr 30 (.slice (some ⟨gT, 0, none⟩) m m) vs) ∧ Hid (TabsI wr [w.heap.size, gT, gK] vs ((K.tabsC L n m r).map castI)) ∧
    Hid (Row wr 3 (.slice (some ⟨gK, 0, none⟩) (K.groupsN L.length) (K.groupsN L.length)) (natVals (K.picksC L n m r))) ∧ Hid (Arr wr w.heap.size 32 [.slice none 0 0, .slice none 0 0]) ∧ Hid (Kept [] w wr)
/-- In the loop over the groups: j have their pick. -/
def RChD (w : World) (gT gK m : Nat) (L : List Nat) (T : List (List Nat)) (P0 P1 : List Nat) (vs : List Value) (k : Nat) (v : Value) (wr : World) : Prop :=
  ∃ j : Nat, k = K.groupsN L.length - j ∧ j ≤ K.groupsN L.length ∧ v = .int .i64 (j : Nat) ∧ Hid (Row wr 30 (.slice (some ⟨gT, 0, none⟩) m m) vs) ∧ Hid (TabsI wr [w.heap.size, gT, gK] vs (T.map castI)) ∧
    Hid (Row wr 3 (.slice (some ⟨gK, 0, none⟩) (K.groupsN L.length) (K.groupsN L.length)) (natVals (P1.take j ++ P0.drop j))) ∧ Hid (Arr wr w.heap.size 32 [.slice none 0 0, .slice none 0 0]) ∧ Hid (Kept [] w wr)
/-- In the loop over the tables: t are made anew. -/
def RChE (w : World) (gT gK m : Nat) (L : List Nat) (T T2 : List (List Nat)) (P1 : List Nat) (k : Nat) (v : Value) (wr : World) : Prop :=
  ∃ (t : Nat) (vs : List Value), k = m - t ∧ t ≤ m ∧ v = .int .i64 (t : Nat) ∧ Hid (Row wr 30 (.slice (some ⟨gT, 0, none⟩) m m) vs) ∧ Hid (TabsI wr [w.heap.size, gT, gK] vs ((T2.take t ++ T.drop t).map castI)) ∧
    Hid (Row wr 3 (.slice (some ⟨gK, 0, none⟩) (K.groupsN L.length) (K.groupsN L.length)) (natVals P1)) ∧ Hid (Arr wr w.heap.size 32 [.slice none 0 0, .slice none 0 0]) ∧ Hid (Kept [] w wr)
theorem mix_set {α : Type} (A B : List α) (i : Nat) (x : α) (hx : A[i]? = some x) (hi : i < B.length) : (A.take i ++ B.drop i).set i x = A.take (i + 1) ++ B.drop (i + 1) := by
  have hA := (List.getElem?_eq_some_iff.1 hx).1
  have hl : (A.take i).length = i := by rw [List.length_take]; omega
  rw [List.set_append, if_neg (by omega), hl, Nat.sub_self, List.take_add_one, hx, List.append_assoc, List.drop_eq_getElem_cons hi]
  rfl
theorem mix_all {α : Type} (A B : List α) (h : A.length = B.length) : A.take A.length ++ B.drop A.length = A := by
  rw [List.take_length, List.drop_of_length_le (by omega), List.append_nil]
theorem initT_get (n m t : Nat) (h : t < m) : (K.initT n m)[t]? = some ((List.range n).map fun s => if s * m / n = t then 1 else 15) := by simp [K.initT, List.getElem?_range h]
/-- The slice values vs show tables; a row apart from F more. -/
theorem TabsI.snocA {w : World} {F : List Nat} {vs : List Value} {T : List (List Int)} (h : TabsI w F vs T) {b : Option Addr} {c : Nat} {t : List Int} (hr : Row w 3 (.slice b t.length c) (intVals t)) (hap : Apart (footA b) F) :
    TabsI w F (vs ++ [.slice b t.length c]) (T ++ [t]) := by
  refine ⟨by simp [h.1], fun i u t' h1 h2 => ?_⟩
  rcases Nat.lt_or_ge i vs.length with hl | hl
  · rw [List.getElem?_append_left hl] at h1
    rw [List.getElem?_append_left (by rw [← h.1]; exact hl)] at h2
    exact h.2 i u t' h1 h2
  · rw [List.getElem?_append_right hl] at h1
    rw [List.getElem?_append_right (by rw [← h.1]; exact hl)] at h2
    have h0 : i - vs.length = 0 := by
      have := (List.getElem?_eq_some_iff.1 h1).1
      simp at this; omega
    rw [h0] at h1
    rw [← h.1, h0] at h2
    simp at h1 h2
    subst h1 h2
    obtain ⟨a2, c2, hv, k1, k2, -, -⟩ := hr.sees
    rw [intVals_length] at hv k1
    injection hv with e1 e2 e3
    subst e3
    exact ⟨b, c, rfl, k1, k2, fun w' hw => (hr.kept hw (fun x hx hm => by rw [foot_slice] at hx; exact hap x hx hm)).seeA⟩
theorem TabsI.less {w : World} {F F2 : List Nat} {vs : List Value} {T : List (List Int)} (h : TabsI w F vs T) (hF : ∀ x ∈ F2, x ∈ F) : TabsI w F2 vs T := h.step (Kept.refl _ _) (fun x hx => .inl (hF x hx))
theorem rchb_next {w wr w6 : World} {gT m t s x : Nat} {row : List Nat} {vs rest : List Value} {T : List (List Int)} {a a6 : Option Addr} {c c6 : Nat} (hvl : vs.length = t) (hx : row[s]? = some x) (hR : Row wr 30 (.slice (some ⟨gT, 0, none⟩) m m) (vs ++ .slice a s c :: rest))
    (hT : TabsI wr (w.heap.size :: gT :: footA a) vs T) (hap : Apart (footA a) [w.heap.size, gT]) (hA : Arr wr w.heap.size 32 [.slice none 0 0, .slice none 0 0]) (hK : Kept [] w wr) (hF : Fresh w.heap.size (footA a)) (hgT : w.heap.size < gT)
    (hr6 : Row w6 3 (.slice a6 (s + 1) c6) (natVals (row.take s) ++ [.int .i64 (x : Int)])) (hk6 : Kept (foot (.slice a s c)) wr w6) (hg6 : Grew wr.heap.size (foot (.slice a s c)) (foot (.slice a6 (s + 1) c6))) :
    Row (w6.setCell ⟨gT, t, none⟩ (.slice a6 (s + 1) c6)) 30 (.slice (some ⟨gT, 0, none⟩) m m) (vs ++ .slice a6 (s + 1) c6 :: rest) ∧ Row (w6.setCell ⟨gT, t, none⟩ (.slice a6 (s + 1) c6)) 3 (.slice a6 (s + 1) c6) (natVals (row.take (s + 1))) ∧
      TabsI (w6.setCell ⟨gT, t, none⟩ (.slice a6 (s + 1) c6)) (w.heap.size :: gT :: footA a6) vs T ∧ Apart (footA a6) [w.heap.size, gT] ∧ Arr (w6.setCell ⟨gT, t, none⟩ (.slice a6 (s + 1) c6)) w.heap.size 32 [.slice none 0 0, .slice none 0 0] ∧
      Kept [] w (w6.setCell ⟨gT, t, none⟩ (.slice a6 (s + 1) c6)) ∧ Fresh w.heap.size (footA a6) := by
  rw [foot_slice] at hk6 hg6
  rw [foot_slice] at hg6
  have hgTa : gT ∉ footA a := fun hm => hap gT hm (by simp)
  have hgRa : w.heap.size ∉ footA a := fun hm => hap _ hm (by simp)
  have hgTl : gT < wr.heap.size := hR.lt gT (by simp [foot, Value.ownBlock])
  have hap6 : Apart (footA a6) [w.heap.size, gT] := by
    intro y hy hm
    rcases hg6 y hy with h | h
    · exact hap y h hm
    · simp at hm
      have := hA.lt
      omega
  have hR6 := hR.kept hk6 (by intro y hy; simp [foot, Value.ownBlock] at hy; subst hy; exact hgTa)
  have hA6 := hA.kept hk6 hgRa
  have hkS : Kept [gT] w6 (w6.setCell ⟨gT, t, none⟩ (.slice a6 (s + 1) c6)) := (Kept.refl [gT] w6).setCell (p := ⟨gT, t, none⟩) (by simp) _
  have hkT : Kept (w.heap.size :: gT :: footA a) wr (w6.setCell ⟨gT, t, none⟩ (.slice a6 (s + 1) c6)) := (hk6.mono (by intro y hy; simp [hy])).trans hkS (by intro y hy; simp at hy; subst hy; left; simp)
  have hgT2 : Grew wr.heap.size (w.heap.size :: gT :: footA a) (w.heap.size :: gT :: footA a6) := by
    intro y hy
    rcases List.mem_cons.1 hy with rfl | hy
    · left; simp
    · rcases List.mem_cons.1 hy with rfl | hy
      · left; simp
      · rcases hg6 y hy with h | h
        · left; simp [h]
        · exact .inr h
  have e1 : natVals (row.take s) ++ [.int .i64 (x : Int)] = natVals (row.take (s + 1)) := by rw [List.take_add_one, hx]; simp [natVals]
  have e2 : (vs ++ .slice a s c :: rest).set t (.slice a6 (s + 1) c6) = vs ++ .slice a6 (s + 1) c6 :: rest := by
    rw [List.set_append, if_neg (by omega), hvl, Nat.sub_self]; rfl
  have hput := hR6.put t (.slice a6 (s + 1) c6)
  rw [e2] at hput
  rw [e1] at hr6
  refine ⟨hput, hr6.kept hkS (fun y hy => ?_), hT.step hkT hgT2, hap6, hA6.kept hkS (by simp; omega), (hK.new hk6 hF).trans hkS (by intro y hy; simp at hy; subst hy; exact .inr (by omega)), hF.grow hg6 hK.size⟩
  rw [foot_slice] at hy
  intro hm
  exact hap6 y hy (by simp at hm; simp [hm])
set_option maxRecDepth 100000 in
set_option maxHeartbeats 4000000 in
theorem rchooseG_good (a : Option Addr) (c n : Nat) (L : List Nat) (w : World) (h : Sees w 1 a L.length (natVals L)) (hc : L.length ≤ c) (hcm : c ≤ maxLen) (hm : K.mayListL (castI L) (n : Int) = true) (hl : L.length ≤ 10000) :
    Calls Try.prog 30 #[.slice a L.length c, .int .i64 (n : Int)] w (PlanPost ((K.tabsC L n (K.tablesR (L.length : Int)).1 4).map castI) (castI (K.picksC L n (K.tablesR (L.length : Int)).1 4)) 0 w) := by
  obtain ⟨hmay, hn3, hn258, hx1, hx2, hall⟩ := cnt_may hm
  rw [castI_length] at hx1 hx2
  have hn3 : 3 ≤ n := by omega
  have hn258 : n ≤ 258 := by omega
  have hLs : ∀ s ∈ L, s < n := by
    intro s hs
    have := hall (s : Int) (List.mem_map.2 ⟨s, hs, rfl⟩)
    omega
  have hk : Kept [] w (w.alloc (.cells #[.slice none 0 0, .slice none 0 0] 32)) := (Kept.refl _ _).alloc _
  have hA := Arr.new w [.slice none 0 0, .slice none 0 0] 32
  have M := rmayList_any a c (castI L) (n : Int) _ (by rw [castI_length, castI_vals]; exact h.kept0 hk) (by rw [castI_length]; omega)
  rw [hm, castI_length] at M
  obtain ⟨t1, t2, t3⟩ := tablesR_ok L.length hx1
  obtain ⟨⟨m, e0⟩, hTR⟩ : ∃ R, K.tablesR (L.length : Int) = R := ⟨_, rfl⟩
  rw [hTR] at t1 t2 t3
  have t1 : e0 = 0 := t1
  subst t1
  have t2 : 2 ≤ m := t2
  have t3 : m ≤ 6 := t3
  have HTR := Lib.hid hTR
  rw [hTR]
  have hgn : K.groupsN L.length ≤ 1000 := by unfold K.groupsN; omega
  have hgn1 : L.length ≤ 50 * K.groupsN L.length := by unfold K.groupsN; omega
  have HGN1 := Lib.hid hgn1
  have HS := Lib.hid h
  have HK := Lib.hid hk
  have HA := Lib.hid hA
  have HLS := Lib.hid hLs
  clear h hk hA hall hmay hm hLs hTR hgn1
  go_enter Try.func30, Try.ntmps30
  go_wp2_with fail
  refine M.mono ?_
  rintro e w1 ⟨rfl, rfl⟩
  clear M
  obtain ⟨W, hW⟩ : ∃ W, w.alloc (.cells #[.slice none 0 0, .slice none 0 0] 32) = W := ⟨_, rfl⟩
  rw [hW] at HK HA ⊢
  clear hW
  go_wp2_with fail
  refine (rgtables_any (L.length : Int) W).mono ?_
  intro e w' hp
  unfold TablesPost at hp
  rw [HTR.out] at hp
  obtain ⟨rfl, rfl⟩ := hp
  go_wp2_with ((at_make; refine wp_make1 rfl _ _ 29 rfl 30 (.slice none 0 0) 24 Try.underlying29 Try.infoInts rfl .i64 .i64 _ _ m m rfl rfl rfl rfl (Nat.le_refl _) (by omega) (by simp only [maxLen]; omega) ?_; intro w2 hrow2 hk2))
  obtain ⟨gT, hgT⟩ : ∃ gT, W.heap.size = gT := ⟨_, rfl⟩
  rw [hgT] at hrow2 ⊢
  have HGT := Lib.hid (show w.heap.size < gT by rw [← hgT]; exact HA.out.lt)
  have hrow2 : Row w2 30 (.slice (some ⟨gT, 0, none⟩) m m) (List.replicate m (.slice none 0 0)) := hrow2
  have HR2 := Lib.hid hrow2
  have HA2 := Lib.hid (HA.out.kept hk2 (by simp))
  have HK2 := Lib.hid (HK.out.trans hk2 (by simp))
  clear hrow2 hk2 hgT HA HK
  go_loopg [9] m (fun k v wr => RChA w gT n m k v wr)
  case atStart => exact ⟨0, [], by omega, by omega, rfl, Lib.hid rfl, Lib.hid (by simpa using HR2.out), Lib.hid (TabsI.nil _ _), HA2, HK2⟩
  case round =>
    clear HR2 HA2 HK2
    obtain ⟨t, vs, hk, ht, rfl, HVL, HR, HT, HA, HKW⟩ := hrel
    have Hk := Lib.hid hk
    clear hk
    by_cases hlt : t < m
    · have hli : (t : Int) < (m : Int) := by omega
      have HROW := Lib.hid (initT_get n m t hlt)
      obtain ⟨row, hrow⟩ : ∃ row, ((List.range n).map fun s => if s * m / n = t then 1 else 15) = row := ⟨_, rfl⟩
      have HRG := Lib.hid (show ∀ s, s < n → row[s]? = some (if s * m / n = t then 1 else 15) by intro s hs; rw [← hrow]; simp [List.getElem?_range hs])
      rw [hrow] at HROW
      have HRL := Lib.hid (show row.length = n by rw [← hrow]; simp)
      clear hrow
      have hr0 := HR.out
      rw [show m - t = (m - (t + 1)) + 1 by omega, List.replicate_succ] at hr0
      have HR0 := Lib.hid hr0
      clear hr0
      go_wp2_with fail
      go_loopg [10] n (fun k v wr2 => RChB w gT n m t vs row k v wr2)
      case atStart => exact ⟨0, none, 0, by omega, by omega, rfl, HR0, Lib.hid (by simpa [natVals] using Row.nil _ _), Lib.hid HT.out, Lib.hid (by simp [Apart, footA]), HA, HKW, Lib.hid (by simp [Fresh, footA])⟩
      case round =>
        clear HR HR0 HT HA HKW
        obtain ⟨s, a9, c9, hk, hs, rfl, HR, HRO, HT, HAP, HA, HKW, HF⟩ := hrel
        have Hk2 := Lib.hid hk
        clear hk
        by_cases hlt2 : s < n
        · have hli2 : (s : Int) < (n : Int) := by omega
          have hsm : s * m ≤ 258 * 6 := Nat.mul_le_mul (by omega) t3
          obtain ⟨pr, hpr⟩ : ∃ pr, s * m = pr := ⟨_, rfl⟩
          have hsmi : (s : Int) * (m : Int) = (pr : Int) := by rw [← hpr]; push_cast; rfl
          obtain ⟨q, hq⟩ : ∃ q, s * m / n = q := ⟨_, rfl⟩
          have hqi : (pr : Int) / (n : Int) = (q : Int) := by rw [← hq, hpr]; rfl
          have hqt : (pr : Int).tdiv (n : Int) = (q : Int) := by rw [Int.tdiv_eq_ediv_of_nonneg (by omega)]; exact hqi
          have hw1 : IntKind.i64.wrap (pr : Int) = (pr : Int) := IntWalk.i64_in _ (by omega)
          have hqb : q ≤ 258 * 6 := by rw [← hq]; exact Nat.le_trans (Nat.div_le_self _ _) hsm
          have hw2 : IntKind.i64.wrap (q : Int) = (q : Int) := IntWalk.i64_in _ (by omega)
          have hnz : ((n : Int) == 0) = false := by simp; omega
          have hRS := HRG.out s hlt2
          rw [hq] at hRS
          have d0 := HR.out.cellAt (j := t) (u := .slice a9 s c9) (by rw [List.getElem?_append_right (by have := HVL.out; omega), HVL.out, Nat.sub_self]; rfl)
          have HNF := Lib.hid (show gT ∉ foot (.slice a9 s c9) by rw [foot_slice]; exact fun hm => HAP.out gT hm (by simp))
          have hro := HRO.out
          have hrl : (natVals (row.take s)).length = s := by rw [natVals_length, List.length_take, HRL.out]; omega
          have L1 : (natVals (row.take s)).length + 1 ≤ maxLen := by rw [hrl]; simp only [maxLen]; omega
          have L2 : ((natVals (row.take s)).length + 1) * 8 ≤ 140737488355328 := by rw [hrl]; omega
          have HRLN := Lib.hid hrl
          rw [hpr] at hsm
          clear hrl hq hpr
          by_cases he : q = t
          · have q1 : ((q : Int) == (t : Int)) = true := by simp; omega
            rw [if_pos he] at hRS
            have HRS := Lib.hid hRS
            clear hRS he
            go_wp2_with ((at_builtin; refine wp_appL _ rfl _ _ 30 rfl 3 (.int .i64 0) 8 Try.underlying30 Try.infoInt rfl _ _ [.int .i64 1] 1 rfl rfl rfl rfl (by simp [Value.oneCell']) hro L1 L2 ?_; intro a6 cap6 w6 hrow6 hk6 hg6; have hk6 : Kept (foot (.slice a9 s c9)) wr w6 := hk6; have k0 := hk6.cellOf d0 HNF.out; have k1 := (HR.out.kept hk6 (by intro x hx; simp [foot, Value.ownBlock] at hx; subst hx; exact HNF.out)).free t))
            go_roundg (n - (s + 1))
            case measure => have := Hk2.out; omega
            case rel =>
              rw [HRLN.out] at hrow6 hg6
              obtain ⟨r1, r2, r3, r4, r5, r6, r7⟩ := rchb_next (x := 1) HVL.out HRS.out HR.out HT.out HAP.out HA.out HKW.out HF.out HGT.out hrow6 hk6 hg6
              rw [HRLN.out]
              exact ⟨s + 1, a6, cap6, rfl, by omega, by simp, Lib.hid r1, Lib.hid r2, Lib.hid r3, Lib.hid r4, Lib.hid r5, Lib.hid r6, Lib.hid r7⟩
          · have q1 : ((q : Int) == (t : Int)) = false := by simp; omega
            rw [if_neg he] at hRS
            have HRS := Lib.hid hRS
            clear hRS he
            go_wp2_with ((at_builtin; refine wp_appL _ rfl _ _ 30 rfl 3 (.int .i64 0) 8 Try.underlying30 Try.infoInt rfl _ _ [.int .i64 15] 1 rfl rfl rfl rfl (by simp [Value.oneCell']) hro L1 L2 ?_; intro a6 cap6 w6 hrow6 hk6 hg6; have hk6 : Kept (foot (.slice a9 s c9)) wr w6 := hk6; have k0 := hk6.cellOf d0 HNF.out; have k1 := (HR.out.kept hk6 (by intro x hx; simp [foot, Value.ownBlock] at hx; subst hx; exact HNF.out)).free t))
            go_roundg (n - (s + 1))
            case measure => have := Hk2.out; omega
            case rel =>
              rw [HRLN.out] at hrow6 hg6
              obtain ⟨r1, r2, r3, r4, r5, r6, r7⟩ := rchb_next (x := 15) HVL.out HRS.out HR.out HT.out HAP.out HA.out HKW.out HF.out HGT.out hrow6 hk6 hg6
              rw [HRLN.out]
              exact ⟨s + 1, a6, cap6, rfl, by omega, by simp, Lib.hid r1, Lib.hid r2, Lib.hid r3, Lib.hid r4, Lib.hid r5, Lib.hid r6, Lib.hid r7⟩
        · obtain rfl : n = s := by omega
          have hll2 : ¬ (n : Int) < (n : Int) := by omega
          go_wp2_with fail
          go_roundg (m - (t + 1))
          case measure => have := Hk.out; omega
          case rel =>
            have hrw := HRO.out
            rw [List.take_of_length_le (by rw [HRL.out]; exact Nat.le_refl _), ← castI_vals] at hrw
            have hcl : (castI row).length = n := by rw [castI_length, HRL.out]
            have ht := (HT.out.less (F2 := [w.heap.size, gT]) (by intro x hx; simp at hx; rcases hx with rfl | rfl <;> simp)).snocA (b := a9) (c := c9) (t := castI row) (by rw [hcl]; exact hrw) HAP.out
            rw [hcl] at ht
            refine ⟨t + 1, vs ++ [.slice a9 n c9], rfl, by omega, by simp, Lib.hid (by simp; exact HVL.out), Lib.hid (by have := HR.out; rw [List.append_assoc]; exact this), Lib.hid ?_, HA, HKW⟩
            rw [List.take_add_one, HROW.out, List.map_append]
            exact ht
    · obtain rfl : m = t := by omega
      have hll : ¬ (m : Int) < (m : Int) := by omega
      have hR := HR.out
      rw [Nat.sub_self, List.replicate_zero, List.append_nil] at hR
      have hT := HT.out
      rw [List.take_of_length_le (by rw [(K.initT_good n m).1]; exact Nat.le_refl _)] at hT
      have HR1 := Lib.hid hR
      have HT1 := Lib.hid hT
      clear hR hT HR HT HVL Hk
      obtain ⟨G, hG⟩ : ∃ G, K.groupsN L.length = G := ⟨_, rfl⟩
      have HGG := Lib.hid hG
      have HGC := Lib.hid (fun W => show Calls Try.prog 71 #[.int .i64 L.length] W (fun e w' => e = .returned (.int .i64 (G : Nat)) ∧ W = w') by rw [← hG]; exact rgroups_any L.length W (by omega))
      rw [hG] at hgn
      clear hG
      go_wp2_with fail
      refine (HGC.out _).mono ?_
      rintro e w3 ⟨rfl, rfl⟩
      clear HGC
      go_wp2_with ((at_make; refine wp_make1 rfl _ _ 30 rfl 3 (.int .i64 0) 8 Try.underlying30 Try.infoInt rfl .i64 .i64 _ _ G G rfl rfl rfl rfl (Nat.le_refl _) (by omega) (by simp only [maxLen]; omega) ?_; intro w4 hrow4 hk4))
      obtain ⟨gK, hgK⟩ : ∃ gK, wr.heap.size = gK := ⟨_, rfl⟩
      rw [hgK] at hrow4 ⊢
      have HR4 := Lib.hid (show Row w4 3 (.slice (some ⟨gK, 0, none⟩) (K.groupsN L.length) (K.groupsN L.length)) (natVals (K.picksC L n m 0)) by
        rw [HGG.out]
        have e : natVals (K.picksC L n m 0) = List.replicate G (.int .i64 0) := by unfold K.picksC; rw [HGG.out]; simp [natVals]
        rw [e]; exact hrow4)
      have HT4 := Lib.hid (show TabsI w4 [w.heap.size, gT, gK] vs ((K.tabsC L n m 0).map castI) from HT1.out.step (hk4.mono (by simp)) (by intro x hx; simp at hx; rcases hx with h | h | h; exact .inl (by simp [h]); exact .inl (by simp [h]); exact .inr (by omega)))
      have HR5 := Lib.hid (HR1.out.kept hk4 (by simp))
      have HA4 := Lib.hid (HA.out.kept hk4 (by simp))
      have HK4 := Lib.hid (HKW.out.trans hk4 (by simp))
      have HTK := Lib.hid (show gT < gK ∧ w.heap.size < gK by
        have h1 := HR1.out.lt gT (by simp [foot, Value.ownBlock])
        have h2 := HA.out.lt
        omega)
      clear hrow4 hk4 hgK HR1 HT1 HA HKW
      go_loopg [13] 4 (fun k v wr => RChC w gT gK n m L k v wr)
      case atStart => exact ⟨0, vs, by omega, by omega, rfl, HR5, HT4, HR4, HA4, HK4⟩
      case round =>
        clear HR5 HT4 HR4 HA4 HK4
        obtain ⟨r, vs, hk, hr, rfl, HR, HT, HP, HA, HKW⟩ := hrel
        have Hk := Lib.hid hk
        clear hk
        have HGT2 := Lib.hid (K.tabsC_good L n m ⟨hn3, hn258⟩ (by omega) r)
        obtain ⟨T, hTT⟩ : ∃ T, K.tabsC L n m r = T := ⟨_, rfl⟩
        obtain ⟨P0, hP0⟩ : ∃ P, K.picksC L n m r = P := ⟨_, rfl⟩
        have HTT := Lib.hid hTT
        have HP0L := Lib.hid (show P0.length = G by rw [← hP0, K.picksC_len, HGG.out])
        rw [hTT] at HT HGT2
        rw [hP0] at HP
        have HPF := Lib.hid hP0
        clear hTT hP0
        by_cases hlt : r < 4
        · have hli : (r : Int) < 4 := by omega
          obtain ⟨P1, hP1⟩ : ∃ P, K.picksL T L m = P := ⟨_, rfl⟩
          have HP1 := Lib.hid hP1
          have HP1L := Lib.hid (show P1.length = G by rw [← hP1, K.picksL_length, HGG.out])
          have HP1G := Lib.hid (show ∀ j, j < G → P1[j]? = some (K.bestTo T (K.groupL L j) (m - 1)) by intro j hj; rw [← hP1]; exact K.picksL_get T L m j (by rw [HGG.out]; exact hj))
          clear hP1
          have hP' := HP.out
          rw [HGG.out] at hP'
          have HPP := Lib.hid hP'
          clear hP' HP
          go_wp2_with fail
          go_loopg [14] G (fun k v wr2 => RChD w gT gK m L T P0 P1 vs k v wr2)
          case atStart => exact ⟨0, by rw [HGG.out]; omega, by omega, rfl, HR, HT, Lib.hid (by rw [HGG.out]; simpa using HPP.out), HA, HKW⟩
          case round =>
            clear HR HT HPP HA HKW
            obtain ⟨j, hk, hj, rfl, HR, HT, HP, HA, HKW⟩ := hrel
            rw [HGG.out] at hk hj HP
            have Hk2 := Lib.hid hk
            clear hk
            by_cases hlt2 : j < G
            · have hli2 : (j : Int) < (G : Int) := by omega
              have hjL : 50 * j < L.length := groupN_lt L j (by rw [HGG.out]; exact hlt2)
              have HC1 := Lib.hid (rpart_any a c j (natVals L) wr (by rw [natVals_length]; exact HS.out.kept0 HKW.out) (by rw [natVals_length]; exact hc) hcm (by rw [natVals_length]; exact hjL) (by rw [natVals_length]; omega))
              have hgm : K.groupL (natVals L) j = natVals (K.groupL L j) := K.groupL_map _ _ _
              unfold GroupPost at HC1
              rw [hgm, natVals_length, natVals_length] at HC1
              have hgl : (K.groupL L j).length ≤ 50 := by rw [K.groupL_length]; omega
              have hgs : ∀ s ∈ K.groupL L j, s < n := fun s hs => HLS.out s (List.mem_of_mem_drop (List.mem_of_mem_take hs))
              have HPJ := Lib.hid (HP1G.out j hlt2)
              obtain ⟨g, hg⟩ : ∃ g, K.groupL L j = g := ⟨_, rfl⟩
              rw [hg] at HC1 hgl hgs HPJ
              have HGS := Lib.hid hgs
              have hseeT := HT.out.seesN (Kept.refl _ _) HR.out.seeA
              have HST := Lib.hid hseeT
              obtain ⟨old, hold⟩ : ∃ old, (natVals (P1.take j ++ P0.drop j))[j]? = some old := ⟨_, List.getElem?_eq_getElem (by rw [natVals_length, List.length_append, List.length_take, List.length_drop, HP1L.out, HP0L.out]; omega)⟩
              have HOLD := Lib.hid hold
              clear hgm hg hgs hseeT hold hjL
              go_wp2_with fail
              refine HC1.out.mono ?_
              rintro e w6 ⟨a6, c6, rfl, hs6, rfl⟩
              have HS6 := Lib.hid hs6
              clear hs6 HC1
              go_wp2_with fail
              refine (rpick_any (some ⟨gT, 0, none⟩) a6 m m c6 n g T wr HST.out HS6.out HGT2.out (by omega) t3 hgl HGS.out hn258).mono ?_
              rintro e w7 ⟨rfl, hk7⟩
              have HR7 := Lib.hid (HR.out.kept hk7 (by simp))
              have HT7 := Lib.hid (HT.out.kept0 hk7)
              have hP7 := HP.out.kept hk7 (by simp)
              have HA7 := Lib.hid (HA.out.kept hk7 (by simp))
              have HK7 := Lib.hid (HKW.out.trans hk7 (by simp))
              have k0 := hP7.cellAt HOLD.out
              have k1 := hP7.free j
              have HP7 := Lib.hid hP7
              obtain ⟨best, hbest⟩ : ∃ best, K.bestTo T g (m - 1) = best := ⟨_, rfl⟩
              rw [hbest] at HPJ ⊢
              clear hbest hP7 hk7
              go_wp2_with fail
              go_roundg (G - (j + 1))
              case measure => have := Hk2.out; omega
              case rel =>
                have h1 := HP7.out.put j (.int .i64 (best : Int))
                rw [← natVals_set, mix_set P1 P0 j best HPJ.out (by rw [HP0L.out]; omega)] at h1
                have hkk : Kept [gK] w7 (w7.setCell ⟨gK, j, none⟩ (.int .i64 (best : Int))) := (Kept.refl [gK] w7).setCell (p := ⟨gK, j, none⟩) (by simp) _
                refine ⟨j + 1, by rw [HGG.out], by rw [HGG.out]; omega, by simp, Lib.hid (HR7.out.kept hkk (by intro x hx; simp [foot, Value.ownBlock] at hx; subst hx; simp; have := HTK.out; omega)), Lib.hid (HT7.out.step (hkk.mono (by intro x hx; simp at hx; simp [hx])) (Grew.refl _ _)), Lib.hid (by rw [HGG.out]; exact h1), Lib.hid (HA7.out.kept hkk (by simp; have := HTK.out; omega)), Lib.hid (HK7.out.trans hkk (by intro x hx; simp at hx; subst hx; exact .inr (by have := HTK.out; omega)))⟩
            · obtain rfl : G = j := by omega
              have hll2 : ¬ (G : Int) < (G : Int) := by omega
              have hP2 := HP.out
              rw [← HP1L.out, mix_all P1 P0 (by rw [HP1L.out, HP0L.out]), HP1L.out] at hP2
              have HP2 := Lib.hid hP2
              clear hP2 HP Hk2
              obtain ⟨T2, hT2⟩ : ∃ T2, K.stepT L n m P1 = T2 := ⟨_, rfl⟩
              have HT2 := Lib.hid hT2
              have HT2G := Lib.hid (show ∀ t, t < m → T2[t]? = some (K.makeF (K.cntAt L P1 t n L.length)) by intro t ht; rw [← hT2]; simp [K.stepT, List.getElem?_range ht])
              have HT2L := Lib.hid (show T2.length = m by rw [← hT2]; simp [K.stepT])
              clear hT2
              go_wp2_with fail
              go_loopg [15] m (fun k v wr2 => RChE w gT gK m L T T2 P1 k v wr2)
              case atStart => exact ⟨0, vs, by omega, by omega, rfl, HR, Lib.hid (by simpa using HT.out), Lib.hid (by rw [HGG.out]; exact HP2.out), HA, HKW⟩
              case round =>
                clear HR HT HP2 HA HKW
                obtain ⟨t, vs, hk, ht, rfl, HR, HT, HP, HA, HKW⟩ := hrel
                rw [HGG.out] at HP
                have Hk2 := Lib.hid hk
                clear hk
                by_cases hlt3 : t < m
                · have hli3 : (t : Int) < (m : Int) := by omega
                  have hcl := K.cntAt_length L P1 t n L.length
                  have hcle := K.cntAt_le L P1 t n L.length
                  have HANS := Lib.hid (K.makeF_ans (K.cntAt L P1 t n L.length) (by rw [hcl]; omega) (by rw [hcl]; omega) (fun c hc => by have := hcle c hc; omega))
                  have HMOK := Lib.hid (K.makeF_ok (K.cntAt L P1 t n L.length) (by rw [hcl]; omega) (by rw [hcl]; omega) (fun c hc => by have := hcle c hc; omega))
                  have HTG := Lib.hid (HT2G.out t hlt3)
                  have HC1 := Lib.hid (rcounts_any a (some ⟨gK, 0, none⟩) c G t n L P1 wr (HS.out.kept0 HKW.out) (by rw [HP1L.out]; exact HP.out.seeA) (by omega) (by rw [HP1L.out, ← HGG.out]; exact HGN1.out) HLS.out (by omega) hn258 (by omega))
                  unfold CntPost at HC1
                  rw [HP1L.out] at HC1
                  obtain ⟨ws, hws⟩ : ∃ ws, K.cntAt L P1 t n L.length = ws := ⟨_, rfl⟩
                  rw [hws] at hcl HANS HMOK HTG HC1
                  obtain ⟨ls, hls⟩ : ∃ ls, K.makeF ws = ls := ⟨_, rfl⟩
                  rw [hls] at HANS HMOK HTG
                  rw [hcl] at HC1
                  have HLL := Lib.hid (show ls.length = n by rw [HMOK.out.1, hcl])
                  have HCL := Lib.hid hcl
                  have HHT := Lib.hid (show gT < wr.heap.size ∧ gK < wr.heap.size ∧ w.heap.size < wr.heap.size from ⟨HR.out.lt gT (by simp [foot, Value.ownBlock]), HP.out.lt gK (by simp [foot, Value.ownBlock]), HA.out.lt⟩)
                  clear hws hls hcl hcle
                  go_wp2_with fail
                  refine HC1.out.mono ?_
                  rintro e w6 ⟨g6, rfl, hrow6, hk6, hg6⟩
                  have HR6 := Lib.hid (HR.out.kept hk6 (by simp))
                  have HT6 := Lib.hid (HT.out.kept0 hk6)
                  have HP6 := Lib.hid (HP.out.kept hk6 (by simp))
                  have HA6 := Lib.hid (HA.out.kept hk6 (by simp))
                  have HK6 := Lib.hid (HKW.out.trans hk6 (by simp))
                  have HZ6 := Lib.hid hk6.size
                  have hsw : Sees w6 1 (some ⟨g6, 0, none⟩) (castI ws).length (intVals (castI ws)) := by rw [castI_length, castI_vals, HCL.out]; exact hrow6.seeA
                  have HMK := Lib.hid (rmake_any (some ⟨g6, 0, none⟩) n (castI ws) 17 (ls, 0) w6 hsw (by rw [castI_length, HCL.out]; omega) (fun h => by cases h) HANS.out)
                  rw [castI_length, HCL.out] at HMK
                  clear hrow6 hk6 hg6 HC1 hsw
                  go_wp2_with fail
                  refine HMK.out.mono ?_
                  rintro e w7 ⟨a7, c7, rfl, hrow7, hk7, hf7⟩
                  have HROW7 := Lib.hid (show Row w7 3 (.slice a7 (castI ls).length c7) (intVals (castI ls)) by rw [castI_length, castI_vals]; exact hrow7)
                  have hR7 := HR6.out.kept hk7 (by simp)
                  have HT7 := Lib.hid (HT6.out.kept0 hk7)
                  have HP7 := Lib.hid (HP6.out.kept hk7 (by simp))
                  have HA7 := Lib.hid (HA6.out.kept hk7 (by simp))
                  have HK7 := Lib.hid (HK6.out.trans hk7 (by simp))
                  have HF7 := Lib.hid (show Fresh w6.heap.size (footA a7) from hf7)
                  obtain ⟨old, hold⟩ : ∃ old, vs[t]? = some old := ⟨_, List.getElem?_eq_getElem (by have := HR.out.len; omega)⟩
                  have k0 := hR7.cellAt hold
                  have k1 := hR7.free t
                  have HR7 := Lib.hid hR7
                  clear hrow7 hk7 hf7 hR7 hold HMK
                  go_wp2_with fail
                  go_roundg (m - (t + 1))
                  case measure => have := Hk2.out; omega
                  case rel =>
                    have hset := HT7.out.setRow (w0 := w6) (b := a7) (c := c7) (i := t) (gT := gT) (t := castI ls) (by
                      intro x hx
                      simp at hx
                      have h1 := HHT.out
                      have h2 := HZ6.out
                      omega) HROW7.out HF7.out (by simp)
                    rw [castI_length, HLL.out] at hset
                    have e1 : ((T2.take t ++ T.drop t).map castI).set t (castI ls) = (T2.take (t + 1) ++ T.drop (t + 1)).map castI := by
                      rw [← mix_set T2 T t ls HTG.out (by rw [HGT2.out.1]; exact hlt3), List.map_set]
                    rw [e1] at hset
                    have hput := HR7.out.put t (.slice a7 n c7)
                    have hkk : Kept [gT] w7 (w7.setCell ⟨gT, t, none⟩ (.slice a7 n c7)) := (Kept.refl [gT] w7).setCell (p := ⟨gT, t, none⟩) (by simp) _
                    rw [show (ls, 0).1.length = n from HLL.out]
                    refine ⟨t + 1, _, rfl, by omega, by simp, Lib.hid hput, Lib.hid hset, Lib.hid (by rw [HGG.out]; exact HP7.out.kept hkk (by intro x hx; simp [foot, Value.ownBlock] at hx; subst hx; simp; have := HTK.out; omega)), Lib.hid (HA7.out.kept hkk (by simp; have := HGT.out; omega)), Lib.hid (HK7.out.trans hkk (by intro x hx; simp at hx; subst hx; exact .inr (by have := HGT.out; omega)))⟩
                · obtain rfl : m = t := by omega
                  have hll3 : ¬ (m : Int) < (m : Int) := by omega
                  have hT2 := HT.out
                  rw [← HT2L.out, mix_all T2 T (by rw [HT2L.out, HGT2.out.1])] at hT2
                  have HT3 := Lib.hid hT2
                  clear hT2 HT Hk2
                  go_wp2_with fail
                  go_roundg (4 - (r + 1))
                  case measure => have := Hk.out; omega
                  case rel =>
                    have e1 : K.tabsC L n m (r + 1) = T2 := by rw [K.tabsC, HTT.out, HP1.out, HT2.out]
                    have e2 : K.picksC L n m (r + 1) = P1 := by rw [K.picksC, HTT.out, HP1.out]
                    exact ⟨r + 1, vs, rfl, by omega, by simp, HR, Lib.hid (by rw [e1]; exact HT3.out), Lib.hid (by rw [e2, HGG.out]; exact HP.out), HA, HKW⟩
        · obtain rfl : r = 4 := by omega
          have hrr : ¬ ((4 : Nat) : Int) < 4 := by omega
          have r0 := HA.out.cell (i := 0) (u := .slice none 0 0) rfl
          have r1 := HA.out.cell (i := 1) (u := .slice none 0 0) rfl
          have f0 := HA.out.free 0
          have f1 := HA.out.free 1
          have s0 := ((HA.out.set 0 (.slice (some ⟨gT, 0, none⟩) m m)).set 1 (.slice (some ⟨gK, 0, none⟩) G G)).cell (i := 0) (u := .slice (some ⟨gT, 0, none⟩) m m) rfl
          have s1 := ((HA.out.set 0 (.slice (some ⟨gT, 0, none⟩) m m)).set 1 (.slice (some ⟨gK, 0, none⟩) G G)).cell (i := 1) (u := .slice (some ⟨gK, 0, none⟩) G G) rfl
          go_wp2_with fail
          refine bodyPost_ret (v := .tuple #[planV (some ⟨gT, 0, none⟩) m m (some ⟨gK, 0, none⟩) G G, .int .i64 0]) (by simp [results, Try.results30, go_sem, planV, s0, s1]) rfl ?_
          have hst : Kept [w.heap.size] wr ((wr.setCell ⟨w.heap.size, 0, none⟩ (.slice (some ⟨gT, 0, none⟩) m m)).setCell ⟨w.heap.size, 1, none⟩ (.slice (some ⟨gK, 0, none⟩) G G)) := ((Kept.refl [w.heap.size] wr).setCell (p := ⟨w.heap.size, 0, none⟩) (by simp) _).setCell (p := ⟨w.heap.size, 1, none⟩) (by simp) _
          obtain ⟨WF, hWF⟩ : ∃ WF, (wr.setCell ⟨w.heap.size, 0, none⟩ (.slice (some ⟨gT, 0, none⟩) m m)).setCell ⟨w.heap.size, 1, none⟩ (.slice (some ⟨gK, 0, none⟩) G G) = WF := ⟨_, rfl⟩
          rw [hWF] at hst ⊢
          rw [HTT.out, HPF.out]
          have hst2 : Kept [w.heap.size, gT, gK] wr WF := hst.mono (by intro x hx; simp at hx; simp [hx])
          have hsee : Sees WF 1 (some ⟨gT, 0, none⟩) m vs := HR.out.seeA.kept hst (by intro x hx hm; simp [footA] at hx hm; have := HGT.out; omega)
          have hM := HT.out.seesM hst2 hsee
          have hP := HP.out
          rw [HGG.out] at hP
          have hPs : Sees WF 1 (some ⟨gK, 0, none⟩) G (intVals (castI P0)) := by rw [castI_vals]; exact hP.seeA.kept hst (by intro x hx hm; simp [footA] at hx hm; have := HTK.out; omega)
          have hTl : (T.map castI).length = m := by rw [List.length_map]; exact HGT2.out.1
          have hPl : (castI P0).length = G := by rw [castI_length]; exact HP0L.out
          refine ⟨some ⟨gT, 0, none⟩, m, some ⟨gK, 0, none⟩, G, by rw [hTl, hPl]; rfl, ⟨by rw [hTl]; exact hM, by rw [hPl]; exact hPs, by rw [hTl]; omega, by rw [hPl]; omega, fun t ht => ?_⟩, HKW.out.trans hst (by intro x hx; simp at hx; subst hx; exact .inr (Nat.le_refl _)), by rw [hTl]; exact Nat.le_refl _, by rw [hPl]; exact Nat.le_refl _⟩
          obtain ⟨u, hu, rfl⟩ := List.mem_map.1 ht
          rw [castI_length, (HGT2.out.2 u hu).1]
          omega
end Go.Proofs.Ytdaenajhgbagdaa
