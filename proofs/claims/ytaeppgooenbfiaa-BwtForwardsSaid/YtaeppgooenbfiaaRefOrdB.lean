/-
  The walk of kistref04's Order.
-/
import Derived.Test.YtaeppgooenbfiaaRefOrd
namespace Go.Proofs.Ytaeppgooenbfiaa
open Go.RowKit
set_option linter.unusedVariables false
set_option linter.unusedSimpArgs false

theorem Try.infoSl : (Try.prog.info? 23).map (fun i => (i.zero, i.size, i.bytes)) = some (some (.slice none 0 0), 1, 24) := by kernel_rfl
theorem LeftL.kept {S : List Nat} {w w' : World} {v : Value} {xs : List Nat} (h : LeftL w v xs) (hk : Kept S w w') (hS : Apart (foot v) S) : LeftL w' v xs := by
  obtain ⟨a, c, rfl, h2, h3⟩ := h
  exact ⟨a, c, rfl, h2.kept hk (by rw [foot_slice] at hS; exact hS), h3⟩
/-- What an element of such a row is. -/
def ElM (w : World) (F : List Nat) (u : Value) (r : List Nat) : Prop := LeftL w u r ∧ Apart (foot u) F ∧ ∀ x ∈ foot u, x < w.heap.size
/-- The slice value v owns a row of slices that show the lists. -/
def MRow (w : World) (v : Value) (vs : List Value) (rows : List (List Nat)) : Prop := Row w 23 v vs ∧ vs.length = rows.length ∧ ∀ (i : Nat) (u : Value) (r : List Nat), vs[i]? = some u → rows[i]? = some r → ElM w (foot v) u r
theorem ElM.kept0 {w w' : World} {F : List Nat} {u : Value} {r : List Nat} (h : ElM w F u r) (hk : Kept [] w w') : ElM w' F u r :=
  ⟨h.1.kept0 hk, h.2.1, fun x hx => Nat.lt_of_lt_of_le (h.2.2 x hx) hk.size⟩
theorem MRow.kept0 {w w' : World} {v : Value} {vs : List Value} {rows : List (List Nat)} (h : MRow w v vs rows) (hk : Kept [] w w') : MRow w' v vs rows :=
  ⟨h.1.kept hk (by simp), h.2.1, fun i u r h1 h2 => (h.2.2 i u r h1 h2).kept0 hk⟩
theorem MRow.nil (w : World) : MRow w (.slice none 0 0) [] [] := ⟨Row.nil _ _, rfl, fun i u r h => by simp at h⟩
theorem MRow.snoc {w w' : World} {v v' u : Value} {vs : List Value} {rows : List (List Nat)} {r : List Nat} (h : MRow w v vs rows) (hu : ElM w (foot v) u r) (hrow : Row w' 23 v' (vs ++ [u])) (hk : Kept (foot v) w w') (hg : Grew w.heap.size (foot v) (foot v')) : MRow w' v' (vs ++ [u]) (rows ++ [r]) := by
  have key : ∀ u r, ElM w (foot v) u r → ElM w' (foot v') u r := fun u r h => ⟨h.1.kept hk h.2.1, fun x hx hm => by
    rcases hg x hm with h1 | h1
    · exact h.2.1 x hx h1
    · have := h.2.2 x hx; omega, fun x hx => Nat.lt_of_lt_of_le (h.2.2 x hx) hk.size⟩
  refine ⟨hrow, by simp [h.2.1], fun i u1 r1 h1 h2 => ?_⟩
  rw [List.getElem?_append] at h1 h2
  by_cases hi : i < vs.length
  · rw [if_pos hi] at h1
    rw [if_pos (by rw [← h.2.1]; exact hi)] at h2
    exact key _ _ (h.2.2 i u1 r1 h1 h2)
  · rw [if_neg hi] at h1
    rw [if_neg (by rw [← h.2.1]; exact hi), ← h.2.1] at h2
    match hk : i - vs.length with
    | 0 =>
      rw [hk] at h1 h2
      simp at h1 h2
      subst h1 h2
      exact key _ _ hu
    | j + 1 => rw [hk] at h1; simp at h1
theorem MRow.open {w : World} {v : Value} {vs : List Value} {rows : List (List Nat)} (h : MRow w v vs rows) (h0 : 0 < rows.length) : ∃ g c, v = .slice (some ⟨g, 0, none⟩) rows.length c ∧ rows.length ≤ c ∧ c ≤ maxLen ∧ ∀ i u, vs[i]? = some u → w.cell? ⟨g, i, none⟩ = some u := by
  obtain ⟨g, c, hv, h1, h2, h3, -, -⟩ := h.1.open (by rw [h.2.1]; exact h0)
  rw [h.2.1] at hv h1
  exact ⟨g, c, hv, h1, h2, h3⟩
theorem MRow.len {w : World} {v : Value} {vs : List Value} {rows : List (List Nat)} (h : MRow w v vs rows) : ∃ a c, v = .slice a rows.length c := by
  obtain ⟨a, c, hv, -⟩ := h.1.sees
  rw [h.2.1] at hv
  exact ⟨a, c, hv⟩
theorem ListPost.elm {l : List Nat} {w w' : World} {F : List Nat} {a : Option Addr} {c : Nat} (hr : Row w' 3 (.slice a l.length c) (natVals l)) (hF : ∀ x ∈ F, x < w.heap.size) (hf : Fresh w.heap.size (footA a)) : ElM w' F (.slice a l.length c) l := by
  obtain ⟨a', c', hv, h1, h2, -, -⟩ := hr.sees
  injection hv with e1 e2 e3
  subst e1 e3
  rw [natVals_length] at h1
  refine ⟨⟨a, c, rfl, hr.seeA, h1, h2, fun ha => ?_⟩, fun x hx hm => ?_, hr.lt⟩
  · rcases hr.2 with ⟨hv, -⟩ | ⟨g, cap, cur, hv, -⟩
    · injection hv
    · injection hv with q1 q2 q3
      rw [ha] at q1; cases q1
  · rw [foot_slice] at hx
    have h3 := hf x hx
    have h4 := hF x hm
    omega
theorem GoodR.small {n : Nat} {f : Nat → Nat} {rows : List (List Nat)} (h : GoodR n f rows) (i : Nat) (a b : List Nat) (ha : rows[i]? = some a) (hb : rows[i + 1]? = some b) : a.length + b.length ≤ n ∧ (∀ x ∈ a, x < n) ∧ (∀ x ∈ b, x < n) := by
  have hl := h.perm.length_eq
  rw [List.length_range] at hl
  have hsp : rows = rows.take i ++ (a :: b :: rows.drop (i + 2)) := by
    obtain ⟨h1, rfl⟩ := List.getElem?_eq_some_iff.1 ha
    obtain ⟨h2, rfl⟩ := List.getElem?_eq_some_iff.1 hb
    rw [← List.drop_eq_getElem_cons h2, ← List.drop_eq_getElem_cons h1, List.take_append_drop]
  have hm : ∀ l, l ∈ rows → ∀ x ∈ l, x < n := fun l hl x hx => List.mem_range.1 (h.perm.mem_iff.1 (List.mem_flatten.2 ⟨l, hl, hx⟩))
  refine ⟨?_, hm a (List.mem_of_getElem? ha), hm b (List.mem_of_getElem? hb)⟩
  rw [hsp] at hl
  simp at hl
  omega
theorem lvl_two (lt : Nat → Nat → Bool) (rows : List (List Nat)) (i : Nat) (a b : List Nat) (ha : rows[i]? = some a) (hb : rows[i + 1]? = some b) : lvl lt (rows.drop i) = mrg lt a b :: lvl lt (rows.drop (i + 2)) := by
  obtain ⟨h1, rfl⟩ := List.getElem?_eq_some_iff.1 ha
  obtain ⟨h2, rfl⟩ := List.getElem?_eq_some_iff.1 hb
  rw [List.drop_eq_getElem_cons h1, List.drop_eq_getElem_cons h2, lvl]
theorem lvl_last (lt : Nat → Nat → Bool) (rows : List (List Nat)) (i : Nat) (a : List Nat) (ha : rows[i]? = some a) (hl : rows.length ≤ i + 1) : lvl lt (rows.drop i) = [a] ∧ lvl lt (rows.drop (i + 2)) = [] := by
  obtain ⟨h1, rfl⟩ := List.getElem?_eq_some_iff.1 ha
  rw [List.drop_eq_getElem_cons h1, List.drop_of_length_le hl, List.drop_of_length_le (by omega)]
  exact ⟨rfl, rfl⟩

theorem flat_len : ∀ rows : List (List Nat), (∀ l ∈ rows, l ≠ []) → rows.length ≤ rows.flatten.length
  | [], _ => Nat.le_refl _
  | a :: r, h => by
    have h1 := flat_len r (fun l hl => h l (by simp [hl]))
    have h2 : 0 < a.length := List.length_pos_iff.2 (h a (by simp))
    simp only [List.length_cons, List.flatten_cons, List.length_append]
    omega
theorem GoodR.len {n : Nat} {f : Nat → Nat} {rows : List (List Nat)} (h : GoodR n f rows) : rows.length ≤ n := by
  have h1 := flat_len rows h.ne
  rwa [h.perm.length_eq, List.length_range] at h1

/-- What Order answers. -/
def ROrdPost (n : Nat) (f : Nat → Nat) (w : World) (e : Ending) (w' : World) : Prop := ∃ L u, K.Ordered n f n L ∧ e = .returned u ∧ LeftL w' u L ∧ Kept [] w w'

set_option maxRecDepth 100000 in
set_option maxHeartbeats 8000000 in
theorem rorder_ok (s : ByteArray) (w : World) (hs : s.size ≤ 1000000) : Calls Try.prog 16 #[.string s] w (ROrdPost s.size (K.fS s.data.toList) w) := by
  obtain ⟨n, hn⟩ : ∃ n, s.size = n := ⟨_, rfl⟩
  obtain ⟨f, hf⟩ : ∃ f, K.fS s.data.toList = f := ⟨_, rfl⟩
  have hmg := fun v1 v2 xs ys w h1 h2 h3 h4 h5 => merged_ok s v1 v2 xs ys w hs h1 h2 h3 h4 h5
  rw [hn, hf] at hmg
  rw [hn, hf]
  have HMG := Lib.hid hmg
  have hni : (s.size : Int) = (n : Int) := by omega
  have hs1 : n ≤ 1000000 := by omega
  clear hmg hn hf
  go_enter Try.func16, Try.ntmps16
  go_wp2_with fail
  go_loopg [3, 4] n (fun k v c wr => ∃ (i : Nat) (vs : List Value), i ≤ n ∧ k = n - i ∧ c = .int .i64 (i : Nat) ∧ Hid (MRow wr v vs ((List.range i).map fun j => [j])) ∧ Hid (Kept [] w wr) ∧ Hid (Fresh w.heap.size (foot v)))
  case atStart => exact ⟨0, [], by omega, by omega, rfl, Lib.hid (MRow.nil _), Lib.hid (Kept.refl _ _), Lib.hid (by simp [Fresh, foot, Value.ownBlock])⟩
  case round =>
    obtain ⟨i, vs, hi, hk, rfl, HM, HKE, HFR⟩ := hrel
    have Hk := Lib.hid hk
    clear hk
    by_cases hlt : i < n
    · have hli : (i : Int) < (n : Int) := by omega
      have hvl : vs.length = i := by have := HM.out.2.1; simpa using this
      have hrow := HM.out.1.alloc (.cells #[.int .i64 (i : Int)] 3)
      have hk0 : Kept [] wr (wr.alloc (.cells #[.int .i64 (i : Int)] 3)) := (Kept.refl _ _).alloc _
      have hsee : Sees (wr.alloc (.cells #[.int .i64 (i : Int)] 3)) 1 (some ⟨wr.heap.size, 0, none⟩) 1 (natVals [i]) := Sees.lit (news := natVals [i]) rfl
      have hel : ElM (wr.alloc (.cells #[.int .i64 (i : Int)] 3)) (foot u3) (.slice (some ⟨wr.heap.size, 0, none⟩) 1 1) [i] := by
        refine ⟨⟨_, _, rfl, hsee, Nat.le_refl _, by simp [maxLen], fun h => by cases h⟩, fun x hx hm => ?_, fun x hx => ?_⟩
        · simp [foot, Value.ownBlock] at hx
          have := HM.out.1.lt x hm
          omega
        · simp [foot, Value.ownBlock] at hx
          simp; omega
      have L1 : vs.length + 1 ≤ maxLen := by simp only [maxLen]; omega
      have L2 : (vs.length + 1) * 24 ≤ 140737488355328 := by omega
      have HEL := Lib.hid hel
      have HK0 := Lib.hid hk0
      have HZ := Lib.hid (show (wr.alloc (.cells #[.int .i64 (i : Int)] 3)).heap.size = wr.heap.size + 1 by simp)
      clear hsee hel hk0 hvl
      go_wp2_with ((at_builtin; refine wp_appL _ rfl _ _ 53 rfl 23 (.slice none 0 0) 24 Try.underlying53 Try.infoSl rfl _ _ [.slice (some ⟨wr.heap.size, 0, none⟩) 1 1] 1 rfl (by rw [HZ.out]; rfl) rfl rfl (by simp [Value.oneCell']) hrow L1 L2 ?_; intro a5 cap5 w5 hrow5 hk5 hg5))
      go_roundg (n - (i + 1))
      case measure => have := Hk.out; omega
      case rel =>
        have hm2 := (HM.out.kept0 HK0.out).snoc HEL.out hrow5 hk5 hg5
        refine ⟨i + 1, _, by omega, rfl, by go_num, Lib.hid (by rw [List.range_succ, List.map_append]; exact hm2), Lib.hid ((HKE.out.trans HK0.out (by simp)).new hk5 HFR.out), Lib.hid (HFR.out.grow hg5 (Nat.le_trans HKE.out.size HK0.out.size))⟩
    · obtain rfl : n = i := by omega
      have hli : ¬ (n : Int) < (n : Int) := by omega
      have HGR := Lib.hid (GoodR.start n f)
      clear HFR
      go_wp2_with fail
      go_loopg [3] n (fun k v wr => ∃ (vs : List Value) (rows : List (List Nat)), k = rows.length ∧ Hid (MRow wr v vs rows) ∧ Hid (GoodR n f rows) ∧ Hid (Kept [] w wr))
      case atStart => exact ⟨vs, _, by simp, HM, HGR, HKE⟩
      case round =>
        clear HM HKE HGR hli
        obtain ⟨vs, rows, hk, HM, HGR, HKE⟩ := hrel
        have Hk := Lib.hid hk
        obtain ⟨m, hm⟩ : ∃ m, rows.length = m := ⟨_, rfl⟩
        obtain ⟨a3, c3, hv3⟩ := HM.out.len
        rw [hm] at hv3
        have hvl : vs.length = m := by rw [HM.out.2.1, hm]
        have HRM := Lib.hid hm
        have HVL := Lib.hid hvl
        clear hk hm hvl
        by_cases hlt : 1 < m
        · have hlti : (1 : Int) < (m : Int) := by omega
          obtain ⟨g, c, hv, hc1, hc2, hcells⟩ := HM.out.open (by rw [HRM.out]; omega)
          rw [HRM.out] at hv
          subst hv
          have HC := Lib.hid hcells
          clear hv3 hcells
          obtain ⟨w1, rfl⟩ : ∃ w1, w1 = wr := ⟨_, rfl⟩
          go_wp2_with fail
          go_loopg [5, 6] (m + 1) (fun k v cc wx => ∃ (i : Nat) (ws : List Value) (done : List (List Nat)), i ≤ m + 1 ∧ k = m + 1 - i ∧ cc = .int .i64 (i : Nat) ∧ Hid (MRow wx v ws done) ∧ Hid (done ++ lvl (rotB n f) (rows.drop i) = lvl (rotB n f) rows) ∧ Hid (Kept [] w1 wx) ∧ Hid (Fresh w1.heap.size (foot v)))
          case atStart => exact ⟨0, [], [], by omega, by omega, rfl, Lib.hid (MRow.nil _), Lib.hid (by simp), Lib.hid (Kept.refl _ _), Lib.hid (by simp [Fresh, foot, Value.ownBlock])⟩
          case round =>
            obtain ⟨i, ws, done, hi, hk, rfl, HN, HD, HKE2, HFR⟩ := hrel
            have Hk2 := Lib.hid hk
            clear hk
            have hnd : done.length ≤ m := by
              have h1 := congrArg List.length HD.out
              rw [List.length_append, lvl_length _ _ rows (Nat.le_refl _), HRM.out] at h1
              omega
            have hmn : m ≤ n := by have := HGR.out.len; rwa [HRM.out] at this
            by_cases him : i < m
            · have himi : (i : Int) < (m : Int) := by omega
              obtain ⟨a, ha⟩ : ∃ a, rows[i]? = some a := ⟨_, List.getElem?_eq_getElem (by rw [HRM.out]; exact him)⟩
              obtain ⟨ua, hua⟩ : ∃ u, vs[i]? = some u := ⟨_, List.getElem?_eq_getElem (by rw [HVL.out]; exact him)⟩
              have hela := (HM.out.2.2 i ua a hua ha).kept0 HKE2.out
              have cella := HKE2.out.cellOf (HC.out i ua hua) (by simp)
              have hwl : ws.length = done.length := HN.out.2.1
              have L1 : ws.length + 1 ≤ maxLen := by simp only [maxLen]; omega
              have L2 : (ws.length + 1) * 24 ≤ 140737488355328 := by omega
              by_cases him1 : i + 1 < m
              · have himi1 : (i : Int) + 1 < (m : Int) := by omega
                obtain ⟨b, hb⟩ : ∃ b, rows[i + 1]? = some b := ⟨_, List.getElem?_eq_getElem (by rw [HRM.out]; exact him1)⟩
                obtain ⟨ub, hub⟩ : ∃ u, vs[i + 1]? = some u := ⟨_, List.getElem?_eq_getElem (by rw [HVL.out]; exact him1)⟩
                have helb := (HM.out.2.2 (i + 1) ub b hub hb).kept0 HKE2.out
                have cellb := HKE2.out.cellOf (HC.out (i + 1) ub hub) (by simp)
                obtain ⟨hsm, hxa, hxb⟩ := HGR.out.small i a b ha hb
                have hl2 := lvl_two (rotB n f) rows i a b ha hb
                have hd2 := HD.out
                rw [hl2] at hd2
                have HD2 := Lib.hid (show (done ++ [mrg (rotB n f) a b]) ++ lvl (rotB n f) (rows.drop (i + 2)) = lvl (rotB n f) rows by rw [List.append_assoc]; exact hd2)
                have hcall := HMG.out ua ub a b wr.drew hela.1 helb.1 hxa hxb (by omega)
                have HCALL := Lib.hid hcall
                have hlt5 : ∀ x ∈ foot u5, x < wr.drew.heap.size := HN.out.1.lt
                have HLT5 := Lib.hid hlt5
                have HROW := Lib.hid HN.out.1
                have hgn : g ∉ foot u5 := fun hm => by
                  have h1 := HFR.out g hm
                  have h2 : g < w1.heap.size := HM.out.1.lt g (by simp [foot, Value.ownBlock])
                  omega
                have HGN := Lib.hid hgn
                clear hgn
                have hij1 : IntKind.i64.wrap ((i : Int) + 1) = (i : Int) + 1 := IntWalk.i64_in _ (by omega)
                have hij2 : ((i : Int) + 1).toNat = i + 1 := by omega
                have hij3 : (0 : Int) ≤ (i : Int) + 1 := by omega
                clear hela helb ha hb hua hub hsm hxa hxb hl2 hd2 hcall hlt5 hwl
                go_wp2_with fail
                go_region_held3 (fun w' => w'.cell? ⟨g, i, none⟩ = some ua ∧ w'.cell? ⟨g, i + 1, none⟩ = some ub)
                  (first | exact ⟨cella, cellb⟩ | exact ⟨hk3.cellOf cella (by simp), hk3.cellOf cellb (by simp)⟩ | exact ⟨hkA.cellOf cella (by simp), hkA.cellOf cellb (by simp)⟩ | exact ⟨hk4.cellOf (hkA.cellOf cella (by simp)) HGN.out, hk4.cellOf (hkA.cellOf cellb (by simp)) HGN.out⟩)
                  (first
                    | (go_at_call 33; refine HCALL.out.mono ?_; rintro e w3 ⟨am, cm, rfl, hrowm, hk3', hfm⟩; have hk3 : Kept [] wr w3 := (Kept.refl [] wr).drew.trans hk3' (by simp); have hkA : Kept [] wr (w3.alloc (.cells #[.slice am (mrg (rotB n f) a b).length cm] 23)) := hk3.alloc _; have HELM := Lib.hid (ListPost.elm hrowm HLT5.out hfm); have HROW4 := Lib.hid ((HROW.out.kept hk3 (by simp)).alloc (.cells #[.slice am (mrg (rotB n f) a b).length cm] 23)); have HSEE4 := Lib.hid (show Sees (w3.alloc (.cells #[.slice am (mrg (rotB n f) a b).length cm] 23)) 1 (some ⟨w3.heap.size, 0, none⟩) 1 [.slice am (mrg (rotB n f) a b).length cm] from Sees.lit (news := [.slice am (mrg (rotB n f) a b).length cm]) rfl); clear hrowm hk3' hfm HCALL)
                    | (refine step_appS rfl _ _ 53 rfl 23 (.slice none 0 0) 24 Try.underlying53 Try.infoSl rfl u5 ws [.slice am (mrg (rotB n f) a b).length cm] (some ⟨w3.heap.size, 0, none⟩) 1 1 rfl rfl (by simp [Value.oneCell']) HROW4.out HSEE4.out (fun h => by cases h) L1 L2 ?_; intro a4 cap4 w4 hrow4 hk4 hg4))
                rename_i hS4
                clear hS4
                go_wp2_with fail
                go_roundg (m + 1 - (i + 2))
                case measure => have := Hk2.out; omega
                case rel =>
                  have hm4 := ((HN.out.kept0 hk3).kept0 ((Kept.refl [] w3).alloc _)).snoc (HELM.out.kept0 ((Kept.refl [] w3).alloc _)) hrow4 hk4 hg4
                  exact ⟨i + 2, _, _, by omega, rfl, by go_num, Lib.hid hm4, HD2, Lib.hid ((HKE2.out.trans hkA (by simp)).new hk4 HFR.out), Lib.hid (HFR.out.grow hg4 (Nat.le_trans HKE2.out.size hkA.size))⟩
              · have himi1 : ¬ (i : Int) + 1 < (m : Int) := by omega
                have hl2 := lvl_last (rotB n f) rows i a ha (by rw [HRM.out]; omega)
                have hd2 := HD.out
                rw [hl2.1] at hd2
                have HD2 := Lib.hid (show (done ++ [a]) ++ lvl (rotB n f) (rows.drop (i + 2)) = lvl (rotB n f) rows by rw [hl2.2, List.append_nil]; exact hd2)
                have hel5 : ElM wr (foot u5) ua a := ⟨hela.1, fun x hx hm => by
                  have h1 := HFR.out x hm
                  have h2 := (HM.out.2.2 i ua a hua ha).2.2 x hx
                  omega, hela.2.2⟩
                have HEL := Lib.hid hel5
                obtain ⟨aa, ca, hue, -⟩ := hela.1
                subst hue
                have hrow := HN.out.1
                clear hela ha hua hl2 hd2 hwl hel5
                go_wp2_with ((at_builtin; refine wp_appL _ rfl _ _ 53 rfl 23 (.slice none 0 0) 24 Try.underlying53 Try.infoSl rfl _ _ [.slice aa a.length ca] 1 rfl rfl rfl rfl (by simp [Value.oneCell']) hrow L1 L2 ?_; intro a5 cap5 w5 hrow5 hk5 hg5))
                go_roundg (m + 1 - (i + 2))
                case measure => have := Hk2.out; omega
                case rel => exact ⟨i + 2, _, _, by omega, rfl, by go_num, Lib.hid (HN.out.snoc HEL.out hrow5 hk5 hg5), HD2, Lib.hid (HKE2.out.new hk5 HFR.out), Lib.hid (HFR.out.grow hg5 HKE2.out.size)⟩
            · have himi : ¬ (i : Int) < (m : Int) := by omega
              have hd2 := HD.out
              rw [List.drop_of_length_le (by rw [HRM.out]; omega), show lvl (rotB n f) [] = [] from rfl, List.append_nil] at hd2
              have hgl := HGR.out.lvl
              rw [← hd2] at hgl
              have hdl : done.length < m := by
                have h1 := congrArg List.length hd2
                rw [lvl_length _ _ rows (Nat.le_refl _), HRM.out] at h1
                omega
              have HGL := Lib.hid hgl
              clear hd2 hgl
              go_wp2_with fail
              go_roundg done.length
              case measure => have h1 := Hk.out; have h2 := HRM.out; omega
              case rel => exact ⟨ws, done, rfl, HN, HGL, Lib.hid (HKE.out.trans HKE2.out (by simp))⟩
        · have hlti : ¬ (1 : Int) < (m : Int) := by omega
          have hr0 := HRM.out
          cases rows with
          | nil =>
            obtain rfl : m = 0 := by simpa using hr0.symm
            subst hv3
            clear hr0
            go_wp2_with fail
            go_ret
            exact ⟨[], .slice none 0 0, HGR.out.none, rfl, ⟨none, 0, rfl, ⟨rfl, fun j u hu => by simp [natVals] at hu⟩, Nat.le_refl _, Nat.zero_le _, fun _ => rfl⟩, HKE.out⟩
          | cons L r =>
            cases r with
            | nil =>
              obtain rfl : m = 1 := by simpa using hr0.symm
              obtain ⟨g, c, hv, -, -, hcells⟩ := HM.out.open (by simp)
              obtain ⟨u, hu⟩ : ∃ u, vs[0]? = some u := ⟨_, List.getElem?_eq_getElem (by rw [HVL.out]; omega)⟩
              have cell0 := hcells 0 u hu
              have hel := HM.out.2.2 0 u L hu rfl
              have HEL := Lib.hid hel.1
              have HV := Lib.hid hv
              clear hr0 hcells hu hel
              subst hv
              go_wp2_with fail
              go_ret
              exact ⟨L, u, HGR.out.one, rfl, HEL.out, HKE.out⟩
            | cons _ _ => simp at hr0; omega
end Go.Proofs.Ytaeppgooenbfiaa
