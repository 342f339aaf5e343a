/-
  A block whose first cells are known and may be written: of an array, or of bytes that were made from a string; copy within it.
-/
import Derived.Test.YtodjfgdolegfpaaLibD
import Derived.Test.YtodjfgdolegfpaaPlainA
import Derived.Test.YtodjfgdolegfpaaPut
import Derived.Laws.IdiomStrings
import Derived.Laws.IdiomCopy
import Derived.Deep.RegionLaw
namespace Go.Proofs.Ytodjfgdolegfpaa
open Go.RowKit
set_option linter.unusedVariables false
set_option linter.unusedSimpArgs false

/-- Block g begins with the cells xs, and they may be written. -/
def Blk (w : World) (g : Nat) (xs : List Value) : Prop :=
  ∃ (cur : Array Value) (t : TypeId) (fr : Nat × Nat), w.heap[g]? = some (.cells cur t fr) ∧ xs.length ≤ cur.size ∧ (∀ (i : Nat) (u : Value), xs[i]? = some u → cur[i]? = some u) ∧ (∀ i, i < xs.length → ¬ (fr.1 ≤ i ∧ i < fr.2))
theorem Blk.cell {w : World} {g : Nat} {xs : List Value} (h : Blk w g xs) {i : Nat} {u : Value} (hi : xs[i]? = some u) : w.cell? ⟨g, i, none⟩ = some u := by
  obtain ⟨cur, t, fr, hg, hl, hc, hf⟩ := h
  rw [cell_of_row w g i cur t fr hg]
  exact hc i u hi
theorem Blk.free {w : World} {g : Nat} {xs : List Value} (h : Blk w g xs) {i : Nat} (hi : i < xs.length) : w.frozen? ⟨g, i, none⟩ = false := by
  obtain ⟨cur, t, ⟨lo, up⟩, hg, hl, hc, hf⟩ := h
  have := hf i hi
  simp only [World.frozen?, hg]
  simp at this ⊢
  omega
theorem Blk.set {w : World} {g : Nat} {xs : List Value} (h : Blk w g xs) (i : Nat) (u : Value) (hi : i < xs.length) : Blk (w.setCell ⟨g, i, none⟩ u) g (xs.set i u) := by
  obtain ⟨cur, t, fr, hg, hl, hc, hf⟩ := h
  refine ⟨cur.setIfInBounds i u, t, fr, ?_, by simpa using hl, ?_, by simpa using hf⟩
  · rw [setCell_eq_setRow w g i cur t fr u hg]
    exact setRow_heap w g cur _ t _ hg
  · intro j x hj
    rw [List.getElem?_set] at hj
    rw [Array.getElem?_setIfInBounds]
    split at hj
    · rename_i hij
      subst hij
      rw [if_pos rfl, if_pos (by omega)]
      simpa [hi] using hj
    · rename_i hij
      rw [if_neg hij]
      exact hc j x hj
theorem Blk.kept {S : List Nat} {w w' : World} {g : Nat} {xs : List Value} (h : Blk w g xs) (hk : Kept S w w') (hn : g ∉ S) : Blk w' g xs := by
  obtain ⟨cur, t, fr, hg, r⟩ := h
  exact ⟨cur, t, fr, hk.heap hg hn, r⟩
theorem Blk.lt {w : World} {g : Nat} {xs : List Value} (h : Blk w g xs) : g < w.heap.size := by
  obtain ⟨cur, t, fr, hg, r⟩ := h
  exact lt_of_block hg
theorem Blk.sees {w : World} {g : Nat} {xs : List Value} (h : Blk w g xs) : Sees w 1 (some ⟨g, 0, none⟩) xs.length xs :=
  ⟨by omega, fun j u hj => ⟨g, 0, rfl, by rw [Nat.zero_add]; exact h.cell hj⟩⟩
theorem Blk.of_block {w : World} {g : Nat} {xs : List Value} {t : TypeId} (h : w.heap[g]? = some (.cells xs.toArray t (0, 0))) : Blk w g xs :=
  ⟨xs.toArray, t, (0, 0), h, by simp, fun i u hi => by simpa using hi, fun i hi => by simp⟩
theorem Blk.new (w : World) (xs : List Value) (t : TypeId) : Blk (w.alloc (.cells xs.toArray t)) w.heap.size xs := .of_block (heap_alloc_new w _)
theorem Row.blk {w : World} {e : TypeId} {g n cap : Nat} {xs : List Value} (h : Row w e (.slice (some ⟨g, 0, none⟩) n cap) xs) : Blk w g xs := by
  rcases h.2 with ⟨h1, h2⟩ | ⟨g', cap', cur, h', hb, hg, hnc, hcm, hcs, ht⟩
  · cases h1
  · injection h' with h1 h2 h3
    injection h1 with h1
    injection h1 with h1
    subst h1
    rw [Nat.mul_one] at ht
    refine ⟨cur, e, (0, 0), hg, by omega, fun i u hi => ?_, fun i hi => by simp⟩
    have hl := (List.getElem?_eq_some_iff.1 hi).1
    rw [← ht, List.getElem?_take, if_pos hl] at hi
    simpa using hi

theorem Row.empty (w : World) (e : TypeId) : Row (w.alloc (.cells #[] e)) e (.slice (some ⟨w.heap.size, 0, none⟩) 0 0) [] :=
  ⟨by simp, .inr ⟨w.heap.size, 0, #[], rfl, Nat.zero_le _, heap_alloc_new w _, by simp, by simp [maxLen], by simp, by simp⟩⟩
theorem Row.seeA {w : World} {e : TypeId} {a : Option Addr} {n c : Nat} {xs : List Value} (h : Row w e (.slice a n c) xs) : Sees w 1 a n xs := by
  have hl := h.len
  obtain ⟨a', c', hv, -, -, hsee, -⟩ := h.sees
  injection hv with h1 h2 h3
  subst h1
  rw [hl] at hsee
  exact hsee
/-- '[]byte(s)'. -/
theorem bytes_new (w : World) (s : ByteArray) : ∃ cap, (convert 9 82 (.string s)).run Try.prog w = .ok (.slice (some ⟨w.heap.size, 0, none⟩) s.size cap)
    (w.drew.alloc (.cells (bytesRow s cap) 5 ((bytesRow s cap).size, (bytesRow s cap).size + 1))) ∧ s.size ≤ cap :=
  ⟨_, run_bytes_of_string w 9 82 5 s Try.underlying9 Try.underlying82 Try.underlying5, grownCap_ge _ _ _ _⟩
theorem Blk.bytes (w : World) (s : ByteArray) (cap : Nat) (h : s.size ≤ cap) : Blk (w.alloc (.cells (bytesRow s cap) 5 ((bytesRow s cap).size, (bytesRow s cap).size + 1))) w.heap.size (u8s s.data.toList) := by
  have hsz : (bytesRow s cap).size = cap := by
    have : s.data.size = s.size := rfl
    simp [bytesRow]; omega
  have hl : (u8s s.data.toList).length = s.size := by simp [u8s]
  refine ⟨_, _, _, heap_alloc_new w _, by omega, fun i u hi => ?_, fun i hi => by simp only; omega⟩
  have hlt := (List.getElem?_eq_some_iff.1 hi).1
  rw [hl] at hlt
  have hd : i < s.data.size := hlt
  rw [bytesRow_at s cap i hd, ← hi]
  simp [u8s, Array.getElem?_eq_getElem hd]

/-- Cells from place o on are written one by one. -/
theorem run_storeBlk {P : Program} (g o : Nat) : ∀ (vs : List Value) (i : Nat) (xs : List Value) (w : World), Blk w g xs → o + i + vs.length ≤ xs.length → (∀ v ∈ vs, v.oneCell' = true) →
    ∃ w', (storeCells ⟨g, o, none⟩ vs i).run P w = .ok () w' ∧ Blk w' g (xs.take (o + i) ++ vs ++ xs.drop (o + i + vs.length)) ∧ Kept [g] w w'
  | [], i, xs, w, h, _, _ => ⟨w, rfl, by simpa using h, Kept.refl _ _⟩
  | v :: rest, i, xs, w, h, hl, h1 => by
    have hi : o + i < xs.length := by simp at hl; omega
    have hadd : (⟨g, o, none⟩ : Addr).add i = ⟨g, o + i, none⟩ := Addr.add_lit _ _ _
    have hcell := h.cell (List.getElem?_eq_getElem hi)
    have hfree := h.free hi
    have hst : (store ((⟨g, o, none⟩ : Addr).add i) v).run P w = .ok () (w.setCell ⟨g, o + i, none⟩ v) := by
      rw [hadd, run_store P w _ v _ (h1 v (by simp)), hcell]
      simp [hfree]
    obtain ⟨w', hr, hb, hk⟩ := run_storeBlk (P := P) g o rest (i + 1) (xs.set (o + i) v) _ (h.set (o + i) v hi) (by simp at hl ⊢; omega) (fun x hx => h1 x (by simp [hx]))
    refine ⟨w', ?_, ?_, ((Kept.refl _ _).setCell (by simp) _).trans hk (fun x hx => .inl hx)⟩
    · simp only [storeCells, Sem.run_bind, hst, Result.andThen_ok]
      exact hr
    · have e := list_seg_step xs (o + i) v rest (by simp at hl; omega)
      rw [show o + (i + 1) = o + i + 1 by omega, e] at hb
      exact hb
/-- copy of cells that can be seen, into the block from place o on. -/
theorem run_copyBlk {P : Program} (w : World) (dT sT ty elem : TypeId) (g o dLen dCap : Nat) (dp sp : Option Addr) (sLen sCap : Nat) (xs cs : List Value)
    (hu : P.underlying dT = some (.slice elem)) (hs : (P.info? elem).map (·.size) = some 1)
    (h : Blk w g xs) (hn : cs.length = Nat.min sLen dLen) (hpos : 0 < cs.length → dp = some ⟨g, o, none⟩ ∧ ∃ ad, sp = some ad ∧ ∀ j v, cs[j]? = some v → w.cell? (ad.add j) = some v)
    (hfit : o + cs.length ≤ xs.length) (h1 : ∀ v ∈ cs, v.oneCell' = true) :
    ∃ w', (Builtin.copy_ #[dT, sT] ty #[.slice dp dLen dCap, .slice sp sLen sCap]).run P w = .ok (goInt cs.length) w' ∧ Blk w' g (splice xs o cs) ∧ Kept [g] w w' := by
  by_cases h0 : cs.length = 0
  · obtain rfl : cs = [] := List.eq_nil_of_length_eq_zero h0
    exact ⟨w, run_copy_none (P := P) w dT sT ty elem dp sp dLen dCap sLen sCap hu hs (by simpa using hn.symm), by simpa [splice] using h, Kept.refl _ _⟩
  · obtain ⟨rfl, ad, rfl, hsrc⟩ := hpos (by omega)
    have hl := run_loadCells_list (P := P) w ad cs hsrc
    obtain ⟨w', hst, hb, hk⟩ := run_storeBlk (P := P) g o cs 0 xs w h (by simpa using hfit) h1
    refine ⟨w', ?_, by simpa [splice] using hb, hk⟩
    cases hq : P.info? elem with
    | none => simp [hq] at hs
    | some i =>
      have hi : i.size = 1 := by simpa [hq] using hs
      simp [Builtin.copy_, run_underlying hu, Builtin.lenOf, Builtin.firstCells, sizeOf, typeInfo, hq, hi, ← hn, hl, hst]
/-- The like, as one operation of a region that draws its order. -/
theorem step_copyBlk {P : Program} {ops : Array Oper} {o : Oper} {a : Act} {w : World} {K : Act → World → Prop} {Q : Exit → Act → World → Prop} {E : Prop} (hgd : o.guard = none) (d s : Operand) (dT sT : TypeId)
    (ho : o.op = .call { callee := .builtin .copy, args := #[d, s], argTypes := #[dT, sT] }) (elem : TypeId) (hu : P.underlying dT = some (.slice elem)) (hsz : (P.info? elem).map (·.size) = some 1)
    (dp sp : Option Addr) (dLen dCap sLen sCap : Nat) (hd : a.eval d = .slice dp dLen dCap) (hs : a.eval s = .slice sp sLen sCap)
    (g off : Nat) (xs cs : List Value) (hb : Blk w g xs) (hn : cs.length = Nat.min sLen dLen)
    (hpos : 0 < cs.length → dp = some ⟨g, off, none⟩ ∧ ∃ ad, sp = some ad ∧ ∀ j v, cs[j]? = some v → w.cell? (ad.add j) = some v)
    (hfit : off + cs.length ≤ xs.length) (h1 : ∀ v ∈ cs, v.oneCell' = true)
    (h : ∀ w', Blk w' g (splice xs off cs) → Kept [g] w w' → K (a.put o.dst (goInt cs.length)) w') :
    if Region.wanted o (yielded ops a.tmps) = true then Oper.wp P o a w K Q else E := by
  have hw : Region.wanted o (yielded ops a.tmps) = true := by simp [Region.wanted, hgd]
  rw [if_pos hw]
  obtain ⟨w', hrun, hb', hk⟩ := run_copyBlk (P := P) w dT sT o.type elem g off dLen dCap dp sp sLen sCap xs cs hu hsz hb hn hpos hfit h1
  unfold Oper.wp
  simp [execOp, ho, resolve, invoke, builtin, hd, hs, hrun, Result.andThen]
  exact h w' hb' hk
theorem splice_moved {α : Type} [Inhabited α] (f : α → Value) (l : List α) (p : Nat) (h : p < l.length) : (splice (l.map f) 1 ((l.map f).take p)).set 0 (f (l.getD p default)) = (K.turned l p).map f := by
  rw [K.turned_eq]
  apply List.ext_getElem?
  intro i
  rw [List.getElem?_set]
  have hsl : (splice (l.map f) 1 ((l.map f).take p)).length = l.length := by
    rw [length_splice _ _ _ (by simp; omega)]; simp
  cases i with
  | zero => rw [if_pos rfl, if_pos (by rw [hsl]; omega)]; rfl
  | succ i =>
    rw [if_neg (by omega)]
    clear hsl
    unfold splice
    rw [List.map_cons, List.getElem?_cons_succ, List.map_append, List.getElem?_append_right (by simp; omega), ← List.map_take, ← List.map_drop]
    have e1 : (List.take 1 (l.map f)).length = 1 := by simp; omega
    have e2 : ((l.take p).map f).length = p := by simp; omega
    rw [e1, e2, Nat.add_sub_cancel, Nat.add_comm 1 p]
end Go.Proofs.Ytodjfgdolegfpaa
