/-
  The walks of symbols' Front and Back.
-/
import Derived.Test.YtkkjhkjgdpodeaaSymA
import Derived.Test.YtkkjhkjgdpodeaaInts
namespace Go.Proofs.Ytkkjhkjgdpodeaa
open Go.RowKit
set_option linter.unusedVariables false
set_option linter.unusedSimpArgs false

def natVals (l : List Nat) : List Value := l.map fun n : Nat => .int .i64 (n : Int)
theorem natVals_length (l : List Nat) : (natVals l).length = l.length := by simp [natVals]
theorem natVals_append (a b : List Nat) : natVals (a ++ b) = natVals a ++ natVals b := by simp [natVals]
theorem natVals_int (l : List Nat) : natVals l = intVals (l.map fun n : Nat => (n : Int)) := by simp [natVals, intVals]
/-- What a function leaves that answers a list of numbers and an error. -/
def NatsPost (p : List Nat × Nat) (w : World) (e : Ending) (w' : World) : Prop :=
  ∃ a c, e = .returned (.tuple #[.slice a p.1.length c, .int .i64 (p.2 : Nat)]) ∧ Row w' 3 (.slice a p.1.length c) (natVals p.1) ∧ Kept [] w w' ∧ Fresh w.heap.size (footA a)
theorem NatsPost.err {w w' : World} {e : Ending} {n : Nat} (he : e = .returned (.tuple #[.slice none 0 0, .int .i64 (n : Nat)])) (hk : Kept [] w w') : NatsPost ([], n) w e w' :=
  ⟨none, 0, he, Row.nil _ _, hk, by simp [Fresh, footA]⟩
theorem NatsPost.ok {w w' : World} {e : Ending} {l : List Nat} {a : Option Addr} {c : Nat} (he : e = .returned (.tuple #[.slice a l.length c, .int .i64 0])) (hr : Row w' 3 (.slice a l.length c) (natVals l)) (hk : Kept [] w w')
    (hf : Fresh w.heap.size (foot (.slice a l.length c))) : NatsPost (l, 0) w e w' :=
  ⟨a, c, he, hr, hk, by rw [← foot_slice a l.length c]; exact hf⟩
theorem Row.footA {w : World} {e : TypeId} {a : Option Addr} {n c : Nat} {xs : List Value} (h : Row w e (.slice a n c) xs) : foot (.slice a n c) = footA a := foot_slice a n c

theorem idx_at (l : List UInt8) (b : UInt8) (p : Nat) (hp : p < l.length) (hno : ∀ j, j < p → l.getD j 0 ≠ b) (heq : l.getD p 0 = b) : l.idxOf b = p := by
  have e : l = l.take p ++ l[p] :: l.drop (p + 1) := by rw [← List.drop_eq_getElem_cons hp, List.take_append_drop]
  have hb : l[p] = b := by rw [List.getD, List.getElem?_eq_getElem hp] at heq; exact heq
  have hm : b ∉ l.take p := by
    intro hm
    obtain ⟨j, hj, he⟩ := List.getElem_of_mem hm
    rw [List.length_take] at hj
    refine hno j (by omega) ?_
    rw [List.getD, List.getElem?_eq_getElem (show j < l.length by omega)]
    rw [List.getElem_take] at he
    exact he
  rw [e, List.idxOf_append, if_neg hm, List.length_take, hb, List.idxOf_cons_self]
  omega
theorem idx_none (l : List UInt8) (b : UInt8) (hno : ∀ j, j < l.length → l.getD j 0 ≠ b) : l.idxOf b = l.length := by
  apply List.idxOf_eq_length
  intro hm
  obtain ⟨j, hj, he⟩ := List.getElem_of_mem hm
  refine hno j hj ?_
  rw [List.getD, List.getElem?_eq_getElem hj]
  exact he
theorem moved_at (g c p n : Nat) (l : List UInt8) (w : World) (hn : l.length = n) (hp : p < n) (hc : n ≤ c) (hl : n ≤ 140737488351232) (h : Blk w g (u8s l)) :
    Calls Try.prog 25 #[.slice (some ⟨g, 0, none⟩) n c, .int .i64 p] w fun e w' => e = .returned (.int .u8 ((l.getD p 0).toNat : Nat)) ∧ Blk w' g (u8s (K.turned l p)) ∧ Kept [g] w w' := by
  subst hn
  exact moved_ok g c p l w hp hc hl h

/-- In Front's loop: i bytes are told. -/
def SFrI (s t : ByteArray) (w0 : World) (g : Nat) (k : Nat) (v c : Value) (w : World) : Prop :=
  ∃ i li out, i ≤ s.size ∧ k = s.size - i ∧ c = .int .i64 (i : Nat) ∧ Row w 3 v (natVals out) ∧ out.length = i ∧ Blk w g (u8s li) ∧ li.length = t.size ∧
    K.front t.data.toList s.data.toList = (K.front li (s.data.toList.drop i)).map (out ++ ·) ∧ Kept [] w0 w ∧ Fresh w0.heap.size (g :: foot v) ∧ g ∉ foot v
/-- In the loop within: p places are passed. -/
def SFrJ (b : UInt8) (li : List UInt8) (w0 : World) (k : Nat) (c : Value) (w : World) : Prop :=
  ∃ p m, p ≤ li.length ∧ k = li.length - p ∧ c = .int .i64 (p : Nat) ∧ (∀ j, j < p → li.getD j 0 ≠ b) ∧ w = w0.drewN m

set_option maxHeartbeats 1000000 in
theorem sfront_any (s t : ByteArray) (w : World) (hs : s.size ≤ 1000000) (ht : t.size ≤ 1000000000) :
    Calls Try.prog 13 #[.string s, .string t] w (NatsPost (K.frontR s.data.toList t.data.toList) w) := by
  go_enter Try.func13, Try.ntmps13
  go_wp2_with fail
  refine (smay_any t _ (by omega)).mono ?_
  rintro e w1 ⟨rfl, hk1⟩
  have HK1 := Lib.hid hk1
  clear hk1
  rcases Bool.eq_false_or_eq_true (K.mayS t.data.toList) with hm | hm
  · have hR : K.frontR s.data.toList t.data.toList = match K.front t.data.toList s.data.toList with | none => ([], 60) | some l => (l, 0) := by unfold K.frontR; rw [hm]; rfl
    have HR := Lib.hid hR
    rw [hm]
    obtain ⟨cap, hconv, hcap⟩ := bytes_new w1 t
    have hb0 := Blk.bytes w1.drew t cap hcap
    have hk0 : Kept [] w1 (w1.drew.alloc (.cells (bytesRow t cap) 5 ((bytesRow t cap).size, (bytesRow t cap).size + 1))) := (Kept.refl _ _).drew.alloc _
    have hz0 : (w1.drew.alloc (.cells (bytesRow t cap) 5 ((bytesRow t cap).size, (bytesRow t cap).size + 1))).heap.size = w1.heap.size + 1 := by simp
    have hdz : w1.drew.heap.size = w1.heap.size := rfl
    rw [hdz] at hb0
    generalize w1.drew.alloc (.cells (bytesRow t cap) 5 ((bytesRow t cap).size, (bytesRow t cap).size + 1)) = W0 at hb0 hk0 hconv hz0
    obtain ⟨g, hg⟩ : ∃ g, w1.heap.size = g := ⟨_, rfl⟩
    rw [hg] at hb0 hconv hz0
    have HG := Lib.hid hg
    have HB0 := Lib.hid hb0
    have HK0 := Lib.hid hk0
    have HZ0 := Lib.hid hz0
    clear hR hm hb0 hk0 hz0 hdz hg
    go_wp2_with ((at_make; refine wp_make1 rfl _ _ 25 rfl 3 (.int .i64 0) 8 Try.underlying25 Try.infoInt rfl .i64 .i64 _ _ 0 s.size rfl rfl rfl rfl (by omega) (by omega) (by simp only [maxLen]; omega) ?_; intro w2 hrow2 hk2))
    have HB2 := Lib.hid (HB0.out.kept hk2 (by simp))
    have hz2 : g < W0.heap.size := by have := HZ0.out; omega
    have hk20 : Kept [] w w2 := (HK1.out.new HK0.out (by simp [Fresh])).new hk2 (by simp [Fresh])
    have hfr0 : Fresh w.heap.size (g :: foot (.slice (some ⟨W0.heap.size, 0, none⟩) 0 s.size)) := by
      have h1 := HK1.out.size
      have h2 := HG.out
      intro x hx
      simp [foot, Value.ownBlock] at hx
      rcases hx with rfl | rfl
      · omega
      · have := HZ0.out; omega
    have hng0 : g ∉ foot (.slice (some ⟨W0.heap.size, 0, none⟩) 0 s.size) := by simp [foot, Value.ownBlock]; omega
    have HFR0 := Lib.hid hfr0
    have HNG0 := Lib.hid hng0
    have HK20 := Lib.hid hk20
    clear hk2 hk20 hfr0 hng0 hconv
    go_loopg [7, 20] s.size (fun k v c wr => SFrI s t w g k v c wr)
    case atStart => exact ⟨0, t.data.toList, [], by omega, by omega, rfl, hrow2, rfl, HB2.out, byte_len t, by simp, HK20.out, HFR0.out, HNG0.out⟩
    case round =>
      obtain ⟨i, li, out, hi, hk, rfl, hrow, hol, hb, hll, hfront, hkept, hfr, hng⟩ := hrel
      have Hk := Lib.hid hk
      have HF := Lib.hid hfront
      have HLL := Lib.hid hll
      have HOL := Lib.hid hol
      have HROW := Lib.hid hrow
      have HB := Lib.hid hb
      have HKE := Lib.hid hkept
      have HFR := Lib.hid hfr
      have HNG := Lib.hid hng
      clear hk hrow2 hfront hll hol hrow hb hkept hfr hng
      by_cases hlt : i < s.size
      · have hli : (i : Int) < (s.size : Int) := by omega
        have hdr : s.data.toList.drop i = s[i] :: s.data.toList.drop (i + 1) := by
          have h1 : i < s.data.toList.length := by rw [byte_len]; exact hlt
          exact List.drop_eq_getElem_cons h1
        have HDR := Lib.hid hdr
        clear hdr
        obtain ⟨wo, rfl⟩ : ∃ wo : World, wo = wr := ⟨_, rfl⟩
        go_wp2_with fail
        go_loopg [9] li.length (fun k c wr => SFrJ s[i] li wo k c wr)
        case atStart => exact ⟨0, 0, by omega, by omega, rfl, fun j hj => by omega, rfl⟩
        case round =>
          obtain ⟨p, m, hp, hk, rfl, hno, rfl⟩ := hrel
          have Hk2 := Lib.hid hk
          have HNO := Lib.hid hno
          have hpt : p ≤ t.size := by have := HLL.out; omega
          clear hk hno
          by_cases hpl : p < t.size
          · have hpl2 : p < li.length := by have := HLL.out; omega
            have hpi : (p : Int) < (t.size : Int) := by omega
            have hpc : (p : Int) < (cap : Int) := by omega
            have c0 := HB.out.cell (u8s_get li p hpl2)
            obtain ⟨x, hx⟩ : ∃ x, li.getD p 0 = x := ⟨_, rfl⟩
            rw [hx] at c0
            have HX := Lib.hid hx
            clear hx
            by_cases heq : x = s[i]
            · have hidx := idx_at li s[i] p hpl2 HNO.out (HX.out.trans heq)
              rw [heq] at c0
              have HIDX := Lib.hid hidx
              clear hidx heq
              go_wp2_with fail
              go_quiet (fail)
              go_wp2_with fail
              refine (moved_at g cap p t.size li _ HLL.out hpl hcap (by omega) (by exact HB.out)).mono ?_
              rintro e w3 ⟨rfl, hb3, hk3⟩
              have hk3 : Kept [g] wo w3 := ((Kept.refl [g] wo).drewN _).trans hk3 (fun x hx => .inl hx)
              have hrow3 := HROW.out.kept hk3 (fun x hx h => HNG.out (by rw [List.mem_singleton.1 h] at hx; exact hx))
              have L1 : (natVals out).length + 1 ≤ maxLen := by rw [natVals_length, HOL.out]; simp only [maxLen]; omega
              have L2 : ((natVals out).length + 1) * 8 ≤ 140737488355328 := by rw [natVals_length, HOL.out]; omega
              have HB3 := Lib.hid hb3
              have HK3 := Lib.hid hk3
              clear hb3 hk3
              go_wp2_with ((at_builtin; refine wp_appL _ rfl _ _ 25 rfl 3 (.int .i64 0) 8 Try.underlying25 Try.infoInt rfl _ _ [.int .i64 (p : Int)] 1 rfl rfl rfl rfl (by simp [Value.oneCell']) hrow3 L1 L2 ?_; intro a5 cap5 w5 hrow5 hk5 hg5))
              go_roundg (s.size - (i + 1))
              case measure => have := Hk.out; omega
              case rel =>
                have hfv : Fresh w.heap.size (foot u7) := fun x hx => HFR.out x (by simp [hx])
                refine ⟨i + 1, K.turned li p, out ++ [p], by omega, rfl, by go_num, ?_, by simp [HOL.out], HB3.out.kept hk5 HNG.out, by rw [K.turned_length _ _ hpl2, HLL.out], ?_, ?_, ?_, ?_⟩
                · rw [natVals_append]; exact hrow5
                · rw [HF.out, HDR.out, K.front_cons _ _ _ (by rw [HIDX.out]; exact hpl2), HIDX.out, K.map_map_cons]
                · exact (HKE.out.trans HK3.out (fun x hx => .inr (by rw [List.mem_singleton.1 hx]; exact HFR.out g (by simp)))).new hk5 hfv
                · intro x hx
                  rcases List.mem_cons.1 hx with rfl | hx
                  · exact HFR.out _ (by simp)
                  · rcases hg5 x hx with h | h
                    · exact hfv x h
                    · exact Nat.le_trans HKE.out.size (Nat.le_trans HK3.out.size h)
                · intro hm
                  rcases hg5 g hm with h | h
                  · exact HNG.out h
                  · have := HB3.out.lt; omega
            · have g0 : ¬ x.toNat = (s[i]'hlt).toNat := fun h => heq (UInt8.toNat_inj.1 h)
              have g1 : (((x.toNat : Nat) : Int) != (((s[i]'hlt).toNat : Nat) : Int)) = true := bne_iff_ne.2 (by omega)
              have HNE := Lib.hid heq
              clear heq g0
              go_wp2_with fail
              go_quiet (fail)
              go_wp2_with fail
              go_roundg (li.length - (p + 1))
              case measure => have := Hk2.out; omega
              case rel =>
                refine ⟨p + 1, _, by omega, rfl, by go_num, fun j hj => ?_, rfl⟩
                rcases Nat.lt_or_ge j p with h | h
                · exact HNO.out j h
                · obtain rfl : j = p := by omega
                  rw [HX.out]; exact HNE.out
          · obtain rfl : p = t.size := by omega
            have hidx := idx_none li s[i] (fun j hj => HNO.out j (by have := HLL.out; omega))
            have hnone : K.frontR s.data.toList t.data.toList = ([], 60) := by
              rw [HR.out, HF.out, HDR.out, K.front_none _ _ _ hidx]; rfl
            have HNN := Lib.hid hnone
            clear hidx hnone
            go_wp2_with fail
            go_quiet (fail)
            go_wp2_with fail
            go_ret2
            rw [HNN.out]
            exact NatsPost.err (by rfl) (HKE.out.drewN _)
      · obtain rfl : i = s.size := by omega
        have hd : s.data.toList.drop s.size = [] := List.drop_of_length_le (by rw [byte_len]; exact Nat.le_refl _)
        have hsome : K.frontR s.data.toList t.data.toList = (out, 0) := by
          rw [HR.out, HF.out, hd]; simp [K.front]
        have HSM := Lib.hid hsome
        obtain ⟨av, cv, hv, -, -, -, -⟩ := HROW.out.sees
        rw [natVals_length] at hv
        subst hv
        clear hd hsome
        go_wp2_with fail
        go_ret2
        rw [HSM.out]
        exact NatsPost.ok (by rfl) HROW.out HKE.out (fun x hx => HFR.out x (by simp [hx]))
  · have hR : K.frontR s.data.toList t.data.toList = ([], 2) := by unfold K.frontR; rw [hm]; rfl
    have HR := Lib.hid hR
    rw [hm]
    clear hR hm
    go_wp2_with fail
    go_ret2
    rw [HR.out]
    exact NatsPost.err (by rfl) HK1.out

/-- What a function leaves that answers a text and an error. -/
def TextPost (p : List UInt8 × Nat) (w : World) (e : Ending) (w' : World) : Prop :=
  e = .returned (.tuple #[.string ⟨p.1.toArray⟩, .int .i64 (p.2 : Nat)]) ∧ Kept [] w w'
/-- In Back's loop: i places are read. -/
def SBkI (xs : List Int) (t : ByteArray) (w0 : World) (g : Nat) (k : Nat) (v c : Value) (w : World) : Prop :=
  ∃ i li out, i ≤ xs.length ∧ k = xs.length - i ∧ c = .int .i64 (i : Nat) ∧ Row w 5 v (u8s out) ∧ out.length = i ∧ Blk w g (u8s li) ∧ li.length = t.size ∧
    K.back t.data.toList xs = (K.back li (xs.drop i)).map (out ++ ·) ∧ Kept [] w0 w ∧ Fresh w0.heap.size (g :: foot v) ∧ g ∉ foot v

set_option maxHeartbeats 1000000 in
theorem sback_any (a : Option Addr) (cp : Nat) (xs : List Int) (t : ByteArray) (w : World) (h : Sees w 1 a xs.length (intVals xs)) (hs : xs.length ≤ 1000000) (ht : t.size ≤ 1000000000) :
    Calls Try.prog 18 #[.slice a xs.length cp, .string t] w (TextPost (K.backR xs t.data.toList) w) := by
  have HS := Lib.hid h
  clear h
  go_enter Try.func18, Try.ntmps18
  go_wp2_with fail
  refine (smay_any t _ (by omega)).mono ?_
  rintro e w1 ⟨rfl, hk1⟩
  have HK1 := Lib.hid hk1
  clear hk1
  rcases Bool.eq_false_or_eq_true (K.mayS t.data.toList) with hm | hm
  · have hR : K.backR xs t.data.toList = match K.back t.data.toList xs with | none => ([], 60) | some l => (l, 0) := by unfold K.backR; rw [hm]; rfl
    have HR := Lib.hid hR
    rw [hm]
    obtain ⟨cap, hconv, hcap⟩ := bytes_new w1 t
    have hb0 := Blk.bytes w1.drew t cap hcap
    have hk0 : Kept [] w1 (w1.drew.alloc (.cells (bytesRow t cap) 5 ((bytesRow t cap).size, (bytesRow t cap).size + 1))) := (Kept.refl _ _).drew.alloc _
    have hz0 : (w1.drew.alloc (.cells (bytesRow t cap) 5 ((bytesRow t cap).size, (bytesRow t cap).size + 1))).heap.size = w1.heap.size + 1 := by simp
    have hdz : w1.drew.heap.size = w1.heap.size := rfl
    rw [hdz] at hb0
    generalize w1.drew.alloc (.cells (bytesRow t cap) 5 ((bytesRow t cap).size, (bytesRow t cap).size + 1)) = W0 at hb0 hk0 hconv hz0
    obtain ⟨g, hg⟩ : ∃ g, w1.heap.size = g := ⟨_, rfl⟩
    rw [hg] at hb0 hconv hz0
    have HG := Lib.hid hg
    have HB0 := Lib.hid hb0
    have HK0 := Lib.hid hk0
    have HZ0 := Lib.hid hz0
    clear hR hm hb0 hk0 hz0 hdz hg
    go_wp2_with ((at_make; refine wp_make1 rfl _ _ 51 rfl 5 (.int .u8 0) 1 Try.underlying51 Try.infoU8 rfl .i64 .i64 _ _ 0 xs.length rfl rfl rfl rfl (by omega) (by omega) (by simp only [maxLen]; omega) ?_; intro w2 hrow2 hk2))
    have HB2 := Lib.hid (HB0.out.kept hk2 (by simp))
    have hz2 : g < W0.heap.size := by have := HZ0.out; omega
    have hk20 : Kept [] w w2 := (HK1.out.new HK0.out (by simp [Fresh])).new hk2 (by simp [Fresh])
    have hfr0 : Fresh w.heap.size (g :: foot (.slice (some ⟨W0.heap.size, 0, none⟩) 0 xs.length)) := by
      have h1 := HK1.out.size
      have h2 := HG.out
      intro x hx
      simp [foot, Value.ownBlock] at hx
      rcases hx with rfl | rfl
      · omega
      · have := HZ0.out; omega
    have hng0 : g ∉ foot (.slice (some ⟨W0.heap.size, 0, none⟩) 0 xs.length) := by simp [foot, Value.ownBlock]; omega
    have HFR0 := Lib.hid hfr0
    have HNG0 := Lib.hid hng0
    have HK20 := Lib.hid hk20
    clear hk2 hk20 hfr0 hng0 hconv
    go_loopg [7, 20] xs.length (fun k v c wr => SBkI xs t w g k v c wr)
    case atStart => exact ⟨0, t.data.toList, [], by omega, by omega, rfl, hrow2, rfl, HB2.out, byte_len t, by simp, HK20.out, HFR0.out, HNG0.out⟩
    case round =>
      obtain ⟨i, li, out, hi, hk, rfl, hrow, hol, hb, hll, hback, hkept, hfr, hng⟩ := hrel
      have Hk := Lib.hid hk
      have HF := Lib.hid hback
      have HLL := Lib.hid hll
      have HOL := Lib.hid hol
      have HROW := Lib.hid hrow
      have HB := Lib.hid hb
      have HKE := Lib.hid hkept
      have HFR := Lib.hid hfr
      have HNG := Lib.hid hng
      clear hk hrow2 hback hll hol hrow hb hkept hfr hng
      by_cases hlt : i < xs.length
      · have hli : (i : Int) < (xs.length : Int) := by omega
        obtain ⟨x, hx⟩ : ∃ x, xs[i]? = some x := ⟨_, List.getElem?_eq_getElem hlt⟩
        have hdr : xs.drop i = x :: xs.drop (i + 1) := by
          obtain ⟨h1, rfl⟩ := List.getElem?_eq_some_iff.1 hx
          exact List.drop_eq_getElem_cons h1
        have HDR := Lib.hid hdr
        obtain ⟨b0, off, rfl, -⟩ := HS.out.at (by rw [intVals_length]; omega)
        have c0 := (HS.out.kept0 HKE.out).int hx
        clear hdr hx
        by_cases hneg : x < 0
        · have hnone : K.backR xs t.data.toList = ([], 60) := by
            rw [HR.out, HF.out, HDR.out, K.back, if_pos (.inl hneg)]; rfl
          have HNN := Lib.hid hnone
          have g1 : decide (x < 0) = true := decide_eq_true hneg
          clear hnone
          go_wp2_with fail
          go_ret2
          rw [HNN.out]
          exact ⟨by rfl, HKE.out⟩
        · have g1 : decide (x < 0) = false := decide_eq_false hneg
          obtain ⟨p, rfl⟩ := Int.eq_ofNat_of_zero_le (show 0 ≤ x by omega)
          by_cases hge : t.size ≤ p
          · have hnone : K.backR xs t.data.toList = ([], 60) := by
              rw [HR.out, HF.out, HDR.out, K.back, if_pos (.inr (by have := HLL.out; omega))]; rfl
            have HNN := Lib.hid hnone
            have hgi : (t.size : Int) ≤ (p : Int) := by omega
            clear hnone
            go_wp2_with fail
            go_ret2
            rw [HNN.out]
            exact ⟨by rfl, HKE.out⟩
          · have hgi : ¬ (t.size : Int) ≤ (p : Int) := by omega
            have hpl : p < t.size := by omega
            have hpl2 : p < li.length := by have := HLL.out; omega
            clear hneg
            go_wp2_with fail
            refine (moved_at g cap p t.size li _ HLL.out hpl hcap (by omega) (by exact HB.out)).mono ?_
            rintro e w3 ⟨rfl, hb3, hk3⟩
            have hrow3 := HROW.out.kept hk3 (fun x hx h => HNG.out (by rw [List.mem_singleton.1 h] at hx; exact hx))
            have L1 : (u8s out).length + 1 ≤ maxLen := by rw [u8s_length, HOL.out]; simp only [maxLen]; omega
            have L2 : ((u8s out).length + 1) * 1 ≤ 140737488355328 := by rw [u8s_length, HOL.out]; omega
            obtain ⟨y, hy⟩ : ∃ y, li.getD p 0 = y := ⟨_, rfl⟩
            rw [hy]
            have HY := Lib.hid hy
            have HB3 := Lib.hid hb3
            have HK3 := Lib.hid hk3
            clear hb3 hk3 hy c0
            go_wp2_with ((at_builtin; refine wp_appL _ rfl _ _ 51 rfl 5 (.int .u8 0) 1 Try.underlying51 Try.infoU8 rfl _ _ [.int .u8 (y.toNat : Int)] 1 rfl rfl rfl rfl (by simp [Value.oneCell']) hrow3 L1 L2 ?_; intro a5 cap5 w5 hrow5 hk5 hg5))
            go_roundg (xs.length - (i + 1))
            case measure => have := Hk.out; omega
            case rel =>
              have hfv : Fresh w.heap.size (foot u7) := fun x hx => HFR.out x (by simp [hx])
              refine ⟨i + 1, K.turned li p, out ++ [y], by omega, rfl, by go_num, ?_, by simp [HOL.out], HB3.out.kept hk5 HNG.out, by rw [K.turned_length _ _ hpl2, HLL.out], ?_, ?_, ?_, ?_⟩
              · rw [show u8s (out ++ [y]) = u8s out ++ [.int .u8 (y.toNat : Int)] by simp [u8s]]; exact hrow5
              · have hbp : K.back li ((p : Int) :: xs.drop (i + 1)) = (K.back (K.turned li p) (xs.drop (i + 1))).map (y :: ·) := by
                  rw [K.back, if_neg (by omega), Int.toNat_natCast, show li.getD p default = y from HY.out]
                rw [HF.out, HDR.out, hbp, K.map_map_cons]
              · exact (HKE.out.trans HK3.out (fun x hx => .inr (by rw [List.mem_singleton.1 hx]; exact HFR.out g (by simp)))).new hk5 hfv
              · intro x hx
                rcases List.mem_cons.1 hx with rfl | hx
                · exact HFR.out _ (by simp)
                · rcases hg5 x hx with h | h
                  · exact hfv x h
                  · exact Nat.le_trans HKE.out.size (Nat.le_trans HK3.out.size h)
              · intro hm
                rcases hg5 g hm with h | h
                · exact HNG.out h
                · have := HB3.out.lt; omega
      · obtain rfl : i = xs.length := by omega
        have hd : xs.drop xs.length = [] := List.drop_of_length_le (Nat.le_refl _)
        have hsome : K.backR xs t.data.toList = (out, 0) := by
          rw [HR.out, HF.out, hd]; simp [K.back]
        have HSM := Lib.hid hsome
        have hct := Row.text HROW.out
        clear hd hsome
        go_wp2_with fail
        go_ret2
        rw [HSM.out]
        exact ⟨by rfl, HKE.out⟩
  · have hR : K.backR xs t.data.toList = ([], 2) := by unfold K.backR; rw [hm]; rfl
    have HR := Lib.hid hR
    rw [hm]
    clear hR hm
    go_wp2_with fail
    go_ret2
    rw [HR.out]
    exact ⟨by rfl, HK1.out⟩
end Go.Proofs.Ytkkjhkjgdpodeaa
