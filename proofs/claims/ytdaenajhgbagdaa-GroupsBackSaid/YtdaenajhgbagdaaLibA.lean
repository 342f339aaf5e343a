/-
  Words and small laws on worlds, over whatever program: which blocks may have turned (Kept), rows that are owned (Row), rows that can be read (Sees). Rows of elements of several cells. append in a region that draws its order. append to an owned row, in a region that draws its order: what stood in the row can be read behind it as before. A region that draws its order, by hand: an operation whose guard says no is passed over; one that yields is taken.
-/
import Derived.WalkKit
import Derived.WalkSpells
import Derived.WalkLawsBesides
import Derived.Lib.Hide
import Derived.Laws.CopyOwn
import Derived.Deep.RegionHeld3
namespace Go.Proofs.Ytdaenajhgbagdaa
open Go.RowKit

/-- w' is w, but for new blocks and the blocks of S. -/
structure Kept (S : List Nat) (w w' : World) : Prop where
  os : w'.os = w.os
  tape : w'.tape = w.tape
  output : w'.output = w.output
  size : w.heap.size ≤ w'.heap.size
  block : ∀ k, k < w.heap.size → k ∉ S → w'.heap[k]? = w.heap[k]?

theorem Kept.refl (S : List Nat) (w : World) : Kept S w w := ⟨rfl, rfl, rfl, Nat.le_refl _, fun _ _ _ => rfl⟩
theorem Kept.trans {S T : List Nat} {a b c : World} (h : Kept S a b) (k : Kept T b c) (hT : ∀ x ∈ T, x ∈ S ∨ a.heap.size ≤ x) : Kept S a c :=
  ⟨k.os.trans h.os, k.tape.trans h.tape, k.output.trans h.output, Nat.le_trans h.size k.size, fun i hi hn =>
    (k.block i (Nat.lt_of_lt_of_le hi h.size) (fun hm => by rcases hT i hm with h' | h'; exact hn h'; omega)).trans (h.block i hi hn)⟩
theorem Kept.mono {S T : List Nat} {a b : World} (h : Kept S a b) (hT : ∀ x ∈ S, x ∈ T) : Kept T a b :=
  ⟨h.os, h.tape, h.output, h.size, fun i hi hn => h.block i hi (fun hm => hn (hT i hm))⟩
theorem Kept.drew {S : List Nat} {a b : World} (h : Kept S a b) : Kept S a b.drew := ⟨h.os, h.tape, h.output, h.size, h.block⟩
theorem Kept.drewN {S : List Nat} {a b : World} (h : Kept S a b) (n : Nat) : Kept S a (b.drewN n) := ⟨h.os, h.tape, h.output, h.size, h.block⟩
theorem Kept.alloc {S : List Nat} {a b : World} (h : Kept S a b) (o : Obj) : Kept S a (b.alloc o) :=
  h.trans (T := []) ⟨rfl, rfl, rfl, by simp, fun k hk _ => Below.heap_alloc _ _ _ hk⟩ (by simp)
theorem Kept.setCell {S : List Nat} {a b : World} (h : Kept S a b) {p : Addr} (hp : p.block ∈ S ∨ a.heap.size ≤ p.block) (u : Value) : Kept S a (b.setCell p u) :=
  h.trans (T := [p.block]) ⟨rfl, rfl, rfl, by simp [World.setCell], fun k hk hn => Below.heap_setCell _ _ _ _ (by simpa using hn)⟩ (by simpa using hp)
theorem Kept.grown {S : List Nat} {a b c : World} {row : Option Nat} (h : Kept S a b) (hg : b.grownBy c row) (hr : ∀ k, row = some k → k ∈ S ∨ a.heap.size ≤ k) : Kept S a c :=
  h.trans (T := row.toList) ⟨hg.os, hg.tape, hg.output, hg.size, fun k hk hn => hg.block k hk (by rintro rfl; simp at hn)⟩ (by intro x hx; exact hr x (by simpa using hx))
theorem Kept.below {a b : World} (h : Kept [] a b) : Below a.heap.size a b := ⟨h.os, h.tape, h.output, h.size, fun k hk => h.block k hk (by simp)⟩
theorem Kept.of_below {a b : World} (h : Below a.heap.size a b) : Kept [] a b := ⟨h.os, h.tape, h.output, h.size, fun k hk _ => h.block k hk⟩
theorem Kept.cell {S : List Nat} {w w' : World} (h : Kept S w w') {p : Addr} (hp : p.block < w.heap.size) (hn : p.block ∉ S) : w'.cell? p = w.cell? p :=
  World.cell?_of_block (w := w) (h.block p.block hp hn)
theorem Kept.cellOf {S : List Nat} {w w' : World} (h : Kept S w w') {p : Addr} {v : Value} (hc : w.cell? p = some v) (hn : p.block ∉ S) : w'.cell? p = some v :=
  (h.cell (World.block_lt_of_cell? w p hc) hn).trans hc
theorem Kept.frozenOf {S : List Nat} {w w' : World} (h : Kept S w w') {p : Addr} {v : Value} (hc : w.cell? p = some v) (hn : p.block ∉ S) : w'.frozen? p = w.frozen? p :=
  World.frozen?_of_block (w := w) (h.block p.block (World.block_lt_of_cell? w p hc) hn)
theorem Kept.heap {S : List Nat} {w w' : World} (h : Kept S w w') {b : Nat} {o : Obj} (hb : w.heap[b]? = some o) (hn : b ∉ S) : w'.heap[b]? = some o :=
  (h.block b (lt_of_block hb) hn).trans hb

theorem ret_k {k : IntKind} {a b : Int} (h : a = b) : Ending.returned (.int k a) = .returned (.int k b) := by rw [h]
theorem ret_kk {k l : IntKind} {a b c d : Int} (h : a = b) (h' : c = d) : Ending.returned (.tuple #[.int k a, .int l c]) = .returned (.tuple #[.int k b, .int l d]) := by rw [h, h']
/-- A contract that leaves the world alone, behind some draws. -/
theorem quietly {P : Program} {f : FuncId} {args : Array Value} {w : World} {n : Nat} {v : Value} (h : Calls P f args (w.drewN n) fun e w' => e = .returned v ∧ w.drewN n = w') :
    Calls P f args (w.drewN n) fun e w'' => e = .returned v ∧ ∃ m, w'' = w.drewN m := h.mono fun _ _ ⟨he, hm⟩ => ⟨he, n, hm.symm⟩
theorem quietly_add {P : Program} {f : FuncId} {args : Array Value} {w : World} {a n : Nat} {v : Value} (h : Calls P f args (w.drewN (a + n)) fun e w' => e = .returned v ∧ w.drewN (a + n) = w') :
    Calls P f args (w.drewN (a + n)) fun e w'' => e = .returned v ∧ ∃ m, w'' = w.drewN (a + m) := h.mono fun _ _ ⟨he, hm⟩ => ⟨he, n, hm.symm⟩
theorem drewN_cell (w : World) (n : Nat) (a : Addr) : (w.drewN n).cell? a = w.cell? a := rfl
theorem drewN_heap (w : World) (n : Nat) : (w.drewN n).heap = w.heap := rfl

/-- The block (if any) that a slice value lies in. -/
def foot (v : Value) : List Nat := v.ownBlock.toList

/-- The slice value v owns the row xs, of elements of one cell. -/
def Row (w : World) (e : TypeId) (v : Value) (xs : List Value) : Prop := w.ownsRow 0 e 1 v xs.length xs

theorem Row.nil (w : World) (e : TypeId) : Row w e (.slice none 0 0) [] := World.ownsRow_nil w 0 e 1
theorem Row.kept {S : List Nat} {w w' : World} {e : TypeId} {v : Value} {xs : List Value} (h : Row w e v xs) (hk : Kept S w w') (hd : ∀ k ∈ foot v, k ∉ S) : Row w' e v xs := by
  refine ⟨h.1, ?_⟩
  rcases h.2 with h2 | ⟨g, cap, cur, hv, hg, hh, r⟩
  · exact Or.inl h2
  · exact Or.inr ⟨g, cap, cur, hv, hg, hk.heap hh (hd g (by simp [foot, hv, Value.ownBlock])), r⟩
theorem Row.setCell {w : World} {e : TypeId} {v : Value} {xs : List Value} (h : Row w e v xs) {p : Addr} (hp : p.block ∉ foot v) (u : Value) : Row (w.setCell p u) e v xs :=
  h.kept (S := [p.block]) ((Kept.refl _ _).setCell (by simp) u) (by intro k hk; simp; rintro rfl; exact hp hk)
theorem Row.drew {w : World} {e : TypeId} {v : Value} {xs : List Value} (h : Row w e v xs) : Row w.drew e v xs := h
theorem Row.drewN {w : World} {e : TypeId} {v : Value} {xs : List Value} (h : Row w e v xs) (n : Nat) : Row (w.drewN n) e v xs := h
theorem Row.alloc {w : World} {e : TypeId} {v : Value} {xs : List Value} (h : Row w e v xs) (o : Obj) : Row (w.alloc o) e v xs := World.ownsRow.alloc h o
theorem Row.lt {w : World} {e : TypeId} {v : Value} {xs : List Value} (h : Row w e v xs) : ∀ k ∈ foot v, k < w.heap.size := by
  intro k hk
  exact (World.ownsRow.lt h k (by simpa [foot] using hk)).2

/-- A row that owns something: its block, its cells, what a store leaves. -/
theorem Row.open {w : World} {e : TypeId} {v : Value} {xs : List Value} (h : Row w e v xs) (h0 : 0 < xs.length) : ∃ g cap, v = .slice (some ⟨g, 0, none⟩) xs.length cap ∧ xs.length ≤ cap ∧ cap ≤ maxLen ∧
    (∀ i u, xs[i]? = some u → w.cell? ⟨g, i, none⟩ = some u) ∧ (∀ i, w.frozen? ⟨g, i, none⟩ = false) ∧
    (∀ i u, Row (w.setCell ⟨g, i, none⟩ u) e (.slice (some ⟨g, 0, none⟩) xs.length cap) (xs.set i u)) := by
  rcases h.2 with ⟨rfl, h2⟩ | ⟨g, cap, cur, rfl, hb, hg, hnc, hcm, hcs, ht⟩
  · omega
  · have hown : w.ownsRow 0 e 1 (.slice (some ⟨g, 0, none⟩) xs.length cap) xs.length xs := h
    refine ⟨g, cap, rfl, hnc, hcm, fun i u hu => ?_, fun i => hown.frozenAt i, fun i u => ?_⟩
    · have hi := (List.getElem?_eq_some_iff.1 hu).1
      rw [hown.cellAt i (by omega), hu]
    · have := (hown.stored i u).1
      simpa [Row] using this

theorem Row.len {w : World} {e : TypeId} {a : Option Addr} {n cap : Nat} {xs : List Value} (h : Row w e (.slice a n cap) xs) : xs.length = n := by
  rcases h.2 with ⟨h1, h2⟩ | ⟨g', cap', cur, h', hb, hg, hnc, hcm, hcs, ht⟩
  · injection h1; omega
  · injection h' with h1 h2 h3; exact h2.symm
theorem Row.cellAt {w : World} {e : TypeId} {g n cap : Nat} {xs : List Value} (h : Row w e (.slice (some ⟨g, 0, none⟩) n cap) xs) {j : Nat} {u : Value} (hj : xs[j]? = some u) : w.cell? ⟨g, j, none⟩ = some u := by
  have hl := h.len
  subst hl
  obtain ⟨g', cap', hv, -, -, hc, -, -⟩ := h.open (by have := (List.getElem?_eq_some_iff.1 hj).1; omega)
  injection hv with h1 h2 h3
  injection h1 with h1
  injection h1 with h1
  subst h1
  exact hc j u hj
theorem Row.free {w : World} {e : TypeId} {g n cap : Nat} {xs : List Value} (h : Row w e (.slice (some ⟨g, 0, none⟩) n cap) xs) (j : Nat) : w.frozen? ⟨g, j, none⟩ = false := by
  have hl := h.len
  subst hl
  exact World.ownsRow.frozenAt h j
theorem Row.put {w : World} {e : TypeId} {g n cap : Nat} {xs : List Value} (h : Row w e (.slice (some ⟨g, 0, none⟩) n cap) xs) (j : Nat) (u : Value) : Row (w.setCell ⟨g, j, none⟩ u) e (.slice (some ⟨g, 0, none⟩) n cap) (xs.set j u) := by
  have hl := h.len
  subst hl
  have := (World.ownsRow.stored h j u).1
  simpa [Row] using this

/-- No block of F is one of G. -/
def Apart (F G : List Nat) : Prop := ∀ x ∈ F, x ∉ G
/-- Each block of F' is one of F, or new. -/
def Grew (n : Nat) (F F' : List Nat) : Prop := ∀ x ∈ F', x ∈ F ∨ n ≤ x
theorem Apart.grow {n : Nat} {F G G' : List Nat} (h : Apart F G) (hF : ∀ x ∈ F, x < n) (hG : Grew n G G') : Apart F G' := fun x hx hm => by
  rcases hG x hm with h' | h'
  · exact h x hx h'
  · have := hF x hx; omega
theorem Apart.symm {F G : List Nat} (h : Apart F G) : Apart G F := fun x hx hm => h x hm hx
theorem Apart.fresh {n : Nat} {F G : List Nat} (hF : ∀ x ∈ F, x < n) (hG : ∀ x ∈ G, n ≤ x) : Apart F G := fun x hx hm => by have := hF x hx; have := hG x hm; omega
theorem Apart.nil (F : List Nat) : Apart F [] := fun _ _ h => by cases h
theorem Apart.sub {F G H : List Nat} (h : Apart F G) (hs : ∀ x ∈ H, x ∈ F) : Apart H G := fun x hx => h x (hs x hx)
theorem Grew.refl (n : Nat) (F : List Nat) : Grew n F F := fun _ h => .inl h
theorem Grew.trans {n m : Nat} {F G H : List Nat} (h : Grew n F G) (k : Grew m G H) (hm : n ≤ m) : Grew n F H := fun x hx => by
  rcases k x hx with h' | h'
  · exact h x h'
  · exact .inr (by omega)

/-- All blocks of F are new since there were n. -/
def Fresh (n : Nat) (F : List Nat) : Prop := ∀ x ∈ F, n ≤ x
theorem Fresh.grow {n m : Nat} {F G : List Nat} (h : Fresh n F) (hg : Grew m F G) (hm : n ≤ m) : Fresh n G := fun x hx => by
  rcases hg x hx with h' | h'
  · exact h x h'
  · omega
theorem Fresh.mono {n m : Nat} {F : List Nat} (h : Fresh n F) (hm : m ≤ n) : Fresh m F := fun x hx => Nat.le_trans hm (h x hx)
theorem Kept.new {a b c : World} {F : List Nat} (h : Kept [] a b) (k : Kept F b c) (hf : Fresh a.heap.size F) : Kept [] a c := h.trans k fun x hx => .inr (hf x hx)

/-- The slice value (a, n) shows the cells xs (elements of size cells each). -/
def Sees (w : World) (size : Nat) (a : Option Addr) (n : Nat) (xs : List Value) : Prop :=
  xs.length = n * size ∧ ∀ j u, xs[j]? = some u → ∃ b off, a = some ⟨b, off, none⟩ ∧ w.cell? ⟨b, off + j, none⟩ = some u
/-- The blocks that it lies in. -/
def footA (a : Option Addr) : List Nat := (a.map Addr.block).toList
theorem Sees.at {w : World} {size : Nat} {a : Option Addr} {n : Nat} {xs : List Value} (h : Sees w size a n xs) (h0 : 0 < xs.length) : ∃ b off, a = some ⟨b, off, none⟩ ∧ ∀ j u, xs[j]? = some u → w.cell? ⟨b, off + j, none⟩ = some u := by
  obtain ⟨b, off, ha, -⟩ := h.2 0 _ (List.getElem?_eq_getElem h0)
  refine ⟨b, off, ha, fun j u hu => ?_⟩
  obtain ⟨b', off', ha', hc⟩ := h.2 j u hu
  rw [ha] at ha'
  injection ha' with ha'
  injection ha' with h1 h2
  subst h1; subst h2
  exact hc
theorem Sees.kept {S : List Nat} {w w' : World} {size : Nat} {a : Option Addr} {n : Nat} {xs : List Value} (h : Sees w size a n xs) (hk : Kept S w w') (ha : Apart (footA a) S) : Sees w' size a n xs := by
  refine ⟨h.1, fun j u hu => ?_⟩
  obtain ⟨b, off, he, hc⟩ := h.2 j u hu
  exact ⟨b, off, he, hk.cellOf hc (ha b (by simp [footA, he]))⟩
/-- What is seen lies below: the slice's block is there, or it shows nothing. -/
theorem Sees.lt {w : World} {size : Nat} {a : Option Addr} {n : Nat} {xs : List Value} (h : Sees w size a n xs) (h0 : 0 < xs.length) : ∀ x ∈ footA a, x < w.heap.size := by
  obtain ⟨b, off, he, hc⟩ := h.2 0 _ (List.getElem?_eq_getElem h0)
  intro x hx
  simp only [footA, he, Option.map_some, Option.toList_some, List.mem_singleton] at hx
  subst hx
  exact World.block_lt_of_cell? w _ hc
theorem Sees.kept0 {w w' : World} {size : Nat} {a : Option Addr} {n : Nat} {xs : List Value} (h : Sees w size a n xs) (hk : Kept [] w w') : Sees w' size a n xs := h.kept hk (Apart.nil _)
theorem Row.sees {w : World} {e : TypeId} {v : Value} {xs : List Value} (h : Row w e v xs) : ∃ a cap, v = .slice a xs.length cap ∧ xs.length ≤ cap ∧ cap ≤ maxLen ∧ Sees w 1 a xs.length xs ∧ footA a = foot v := by
  rcases h.2 with ⟨rfl, h2⟩ | ⟨g, cap, cur, rfl, hb, hg, hnc, hcm, hcs, ht⟩
  · refine ⟨none, 0, by rw [h2], by omega, Nat.zero_le _, ⟨by simp, fun j u hu => ?_⟩, rfl⟩
    have := (List.getElem?_eq_some_iff.1 hu).1
    omega
  · have hown : w.ownsRow 0 e 1 (.slice (some ⟨g, 0, none⟩) xs.length cap) xs.length xs := h
    refine ⟨_, cap, rfl, hnc, hcm, ⟨by simp, fun j u hu => ⟨g, 0, rfl, ?_⟩⟩, rfl⟩
    have hi := (List.getElem?_eq_some_iff.1 hu).1
    rw [Nat.zero_add, hown.cellAt j (by omega), hu]

/-- The walk's arm at 'make([]T, n, c)', elements of one cell. -/
theorem wp_make1 {P : Program} {w : World} {ops : Array Oper} {rest : List Oper} {o : Oper} {a : Act} {Q : Exit → Act → World → Prop}
    (hg : o.guard = none) (l c : Operand) (t : TypeId) (hop : o.op = Op.makeSlice t l c)
    (e : TypeId) (z : Value) (bytes : Nat) (hu : P.underlying t = some (.slice e)) (T : (P.info? e).map (fun i => (i.zero, i.size, i.bytes)) = some (some z, 1, bytes)) (hz : z.cells = #[z])
    (kl kc : IntKind) (L C : Int) (n k : Nat) (hl : a.eval l = .int kl L) (hc : a.eval c = .int kc C) (hL : L = (n : Int)) (hC : C = (k : Int)) (hnk : n ≤ k) (hb : bytes * k ≤ 281474976710656) (hm : k ≤ maxLen)
    (hK : ∀ w', Row w' e (.slice (some ⟨w.heap.size, 0, none⟩) n k) (List.replicate n z) → Kept [] w w' → wpList P ops Q rest (a.put o.dst (.slice (some ⟨w.heap.size, 0, none⟩) n k)) w') :
    wpList P ops Q (o :: rest) a w := by
  obtain ⟨i, hi, h0, h1, h2⟩ := info_parts T
  subst h2
  subst hL
  subst hC
  have hb' : (i.bytes : Int) * (k : Int) ≤ 281474976710656 := by
    have h : ((i.bytes * k : Nat) : Int) ≤ 281474976710656 := by omega
    rwa [Int.natCast_mul] at h
  have hr := run_make (P := P) w t e i z hu hi h0 kl kc n k (by omega) (by omega) hb' (by simp only [maxLen] at hm; omega)
  refine wpList_plain hg fun K hK' => ?_
  unfold Oper.wp
  simp [execOp, hop, hl, hc, hr, Result.andThen]
  refine hK' _ _ (hK _ ⟨by simp, .inr ⟨w.heap.size, k, _, by simp, Nat.zero_le _, heap_alloc_new w _, by simpa using hnk, hm, by rw [h1]; simp [size_madeCells], ?_⟩⟩ ((Kept.refl _ _).alloc _))
  rw [h1, hz, Nat.mul_one, toList_madeCells_one]
  simp [List.take_replicate]
  omega

/-- append of m elements to an owned row: what is owned behind it, and what may have turned. -/
theorem run_app {P : Program} (w : World) (t ty e : TypeId) (z : Value) (size bytes : Nat) (hu : P.underlying t = some (.slice e))
    (T : (P.info? e).map (fun i => (i.zero, i.size, i.bytes)) = some (some z, size, bytes)) (hzs : z.cells.size = size) (hsz : 0 < size)
    (v : Value) (n : Nat) (xs : List Value) (hown : w.ownsRow 0 e size v n xs)
    (a : Addr) (m c : Nat) (news : List Value) (hl : news.length = m * size) (hnews : ∀ j u, news[j]? = some u → w.cell? (a.add j) = some u) (h1 : ∀ u ∈ news, u.oneCell' = true)
    (h63 : n + m ≤ maxLen) (hbytes : (n + m) * bytes ≤ 140737488355328) :
    ∃ v' w', (Builtin.append_ #[t, t] ty #[v, .slice (some a) m c]).run P w = .ok v' w' ∧ w'.ownsRow 0 e size v' (n + m) (xs ++ news) ∧ Kept (foot v) w w' ∧
      (∀ k ∈ foot v', k ∈ foot v ∨ w.heap.size ≤ k) := by
  obtain ⟨i, hi, h0, hs1, hs2⟩ := info_parts T
  have K : ∀ w', w.grownBy w' v.ownBlock → Kept (foot v) w w' := fun w' hg => (Kept.refl _ w).grown hg (by intro k hk; left; simp [foot, hk])
  rcases hown.2 with ⟨rfl, rfl⟩ | ⟨g, cap, cur, rfl, hb, hg, hnc, hcm, hcs, htake⟩
  · have hx : xs = [] := List.eq_nil_of_length_eq_zero (by simpa using hown.1)
    subst hx
    obtain ⟨v', w', r, ho, hgr, -⟩ := run_append_own (P := P) w w.heap.size t ty e i z size bytes hu hi h0 hs1 hs2 hzs hsz _ 0 [] (World.ownsRow_nil _ _ _ _) a m c news hl hnews h1 h63 hbytes (Nat.le_refl _)
    refine ⟨v', w', r, ⟨ho.1, ?_⟩, K _ hgr, fun k hk => .inr (ho.lt k (by simpa [foot] using hk)).1⟩
    rcases ho.2 with h | ⟨g, cap, cur, hv, hb, r⟩
    · exact .inl h
    · exact .inr ⟨g, cap, cur, hv, Nat.zero_le _, r⟩
  · by_cases hroom : n + m ≤ cap
    · obtain ⟨w', r, ho, hgr⟩ := run_append_fits (P := P) w 0 t ty e i size hu hi hs1 g n cap xs hown a m c news hl hnews h1 hroom
      exact ⟨_, w', r, ho, K _ hgr, fun k hk => .inl hk⟩
    · obtain ⟨v', w', r, ho, hgr, -⟩ := run_append_own (P := P) w 0 t ty e i z size bytes hu hi h0 hs1 hs2 hzs hsz _ n xs hown a m c news hl hnews h1 h63 hbytes (Nat.zero_le _)
      have holds : ∀ j u, xs[j]? = some u → w.cell? ((⟨g, 0, none⟩ : Addr).add j) = some u := hown.cells (g := g) rfl
      subst hs1
      subst hs2
      have r2 := run_append_grow (P := P) w t ty e i z hu hi h0 ⟨g, 0, none⟩ n cap xs hown.1 holds a m c news hl hnews (by omega) (by simp only [maxLen] at h63; omega) (growslice_fits (by omega) hbytes)
      have hv : v' = .slice (some ⟨w.heap.size, 0, none⟩) (n + m) (grownCap w (n + m) cap e) := by
        have := r.symm.trans r2
        injection this
      refine ⟨v', w', r, ho, K _ hgr, fun k hk => .inr ?_⟩
      rw [hv] at hk
      simp [foot, Value.ownBlock] at hk
      omega

/-- The walk's arm at 'append(out, x)', x one element of one cell: it was laid in a new block first. -/
theorem wp_app1 {P : Program} (w0 : World) {w : World} {ops : Array Oper} {rest : List Oper} {o : Oper} {a : Act} {Q : Exit → Act → World → Prop}
    (hg : o.guard = none) (s x : Operand) (t : TypeId) (hop : o.op = Op.call { callee := Callee.builtin Builtin.append, args := #[s, x], argTypes := #[t, t] })
    (e : TypeId) (z : Value) (bytes : Nat) (hu : P.underlying t = some (.slice e)) (T : (P.info? e).map (fun i => (i.zero, i.size, i.bytes)) = some (some z, 1, bytes)) (hz : z.cells.size = 1)
    (v u : Value) (xs : List Value) (hs : a.eval s = v) (hx : a.eval x = .slice (some ⟨w0.heap.size, 0, none⟩) 1 1) (hw : w = w0.alloc (.cells #[u] e)) (hone : u.oneCell' = true)
    (hown : Row w0 e v xs) (hm : xs.length + 1 ≤ maxLen) (hb : (xs.length + 1) * bytes ≤ 140737488355328)
    (hK : ∀ g cap w', Row w' e (.slice (some ⟨g, 0, none⟩) (xs.length + 1) cap) (xs ++ [u]) → Kept (foot v) w0 w' → (g ∈ foot v ∨ w0.heap.size ≤ g) →
      wpList P ops Q rest (a.put o.dst (.slice (some ⟨g, 0, none⟩) (xs.length + 1) cap)) w') :
    wpList P ops Q (o :: rest) a w := by
  subst hw
  obtain ⟨v', w', hr, hown', hk, hf⟩ := run_app (P := P) (w0.alloc (.cells #[u] e)) t o.type e z 1 bytes hu T hz (by decide) v xs.length xs (World.ownsRow.alloc hown _)
    ⟨w0.heap.size, 0, none⟩ 1 1 [u] rfl (by intro j y hj; match j, hj with | 0, hj => simp at hj; subst hj; simp [Addr.add]) (by simpa using hone) hm hb
  refine wpList_plain hg fun K hK' => ?_
  unfold Oper.wp
  simp only [execOp, hop, resolve, invoke, builtin, Sem.run_bind, Sem.run_pure, Result.andThen_ok, List.map_toArray, List.map_cons, List.map_nil, hs, hx, hr]
  rcases hown'.2 with ⟨-, h0⟩ | ⟨g, cap, cur, rfl, -⟩
  · omega
  refine hK' _ _ (hK g cap w' (by simpa [Row] using hown') (((Kept.refl (foot v) w0).alloc _).trans hk (fun x hx => .inl hx)) ?_)
  refine (hf g (by simp [foot, Value.ownBlock])).imp id fun h => ?_
  simp at h
  omega
/-- The walk's arm at 'append(out, xs...)', one-cell elements, xs whatever can be seen. -/
theorem wp_appS {P : Program} {w : World} {ops : Array Oper} {rest : List Oper} {o : Oper} {a : Act} {Q : Exit → Act → World → Prop}
    (hg : o.guard = none) (s x : Operand) (t : TypeId) (hop : o.op = Op.call { callee := Callee.builtin Builtin.append, args := #[s, x], argTypes := #[t, t] })
    (e : TypeId) (z : Value) (bytes : Nat) (hu : P.underlying t = some (.slice e)) (T : (P.info? e).map (fun i => (i.zero, i.size, i.bytes)) = some (some z, 1, bytes)) (hz : z.cells.size = 1)
    (v : Value) (xs news : List Value) (ao : Option Addr) (m c : Nat) (hs : a.eval s = v) (hx : a.eval x = .slice ao m c) (hone : ∀ u ∈ news, u.oneCell' = true)
    (hown : Row w e v xs) (hsee : Sees w 1 ao m news) (hao : ao = none → c = 0) (hm : xs.length + m ≤ maxLen) (hb : (xs.length + m) * bytes ≤ 140737488355328)
    (hK : ∀ a' cap' w', Row w' e (.slice a' (xs.length + m) cap') (xs ++ news) → Kept (foot v) w w' → Grew w.heap.size (foot v) (foot (.slice a' (xs.length + m) cap')) →
      wpList P ops Q rest (a.put o.dst (.slice a' (xs.length + m) cap')) w') :
    wpList P ops Q (o :: rest) a w := by
  have hml : news.length = m := by have := hsee.1; omega
  have key : ∃ v' w', (Builtin.append_ #[t, t] o.type #[v, .slice ao m c]).run P w = .ok v' w' ∧ w'.ownsRow 0 e 1 v' (xs.length + m) (xs ++ news) ∧ Kept (foot v) w w' ∧ Grew w.heap.size (foot v) (foot v') := by
    cases ao with
    | some ad =>
      exact run_app (P := P) w t o.type e z 1 bytes hu T hz (by decide) v xs.length xs hown ad m c news (by omega) (fun j u hj => by
        obtain ⟨b, off, h1, h2⟩ := hsee.2 j u hj
        injection h1 with h1
        subst h1
        rw [Addr.add_lit]; exact h2) hone hm hb
    | none =>
      have hn : news = [] := by
        rcases news with _ | ⟨u, r⟩
        · rfl
        · obtain ⟨b, off, h1, -⟩ := hsee.2 0 u rfl
          cases h1
      subst hn
      have hc := hao rfl
      simp only [List.length_nil] at hml
      subst hml
      subst hc
      obtain ⟨i, hi, h0, h1, h2⟩ := info_parts T
      have hr := run_append_owned_none (P := P) w 0 t o.type e i 1 hu hi v xs.length xs hown
      exact ⟨v, w, hr, by simpa [Row] using hown, Kept.refl _ _, Grew.refl _ _⟩
  obtain ⟨v', w', hr, ho, hk, hgr⟩ := key
  have hrow' : Row w' e v' (xs ++ news) := by unfold Row; rw [List.length_append, hml]; exact ho
  obtain ⟨a', cap', hv, -⟩ := hrow'.sees
  rw [List.length_append, hml] at hv
  subst hv
  refine wpList_plain hg fun K hK' => ?_
  unfold Oper.wp
  simp only [execOp, hop, resolve, invoke, builtin, Sem.run_bind, Sem.run_pure, Result.andThen_ok, List.map_toArray, List.map_cons, List.map_nil, hs, hx, hr]
  exact hK' _ _ (hK a' cap' w' hrow' hk hgr)

theorem wraps_i64' (n : Int) (h0 : 0 ≤ n) (h1 : n < 2 ^ 62) : IntKind.i64.wrap n = n := by rw [IntKind.wrap_i64]; omega
/-- 'x & 1' on an int that is not below 0. -/
theorem and_one_i64 (x : Nat) (h : x < 2 ^ 62) : bits .and .i64 (x : Int) 1 = ((x % 2 : Nat) : Int) := by
  have := bits_mask .i64 62 (by decide) wraps_i64' 1 (by decide) (x : Int) (by omega) (by exact_mod_cast h)
  rw [show (2 : Int) ^ 1 - 1 = 1 from rfl, show (2 : Int) ^ 1 = 2 from rfl] at this
  rw [this]; omega
end Go.Proofs.Ytdaenajhgbagdaa
namespace Go.Proofs.Ytdaenajhgbagdaa
open Go.RowKit
set_option linter.unusedVariables false
set_option linter.unusedSimpArgs false

/-- The slice value v owns n elements of size cells each. -/
def RowN (w : World) (e : TypeId) (size : Nat) (v : Value) (n : Nat) (xs : List Value) : Prop := w.ownsRow 0 e size v n xs
theorem RowN.nil (w : World) (e : TypeId) (size : Nat) : RowN w e size (.slice none 0 0) 0 [] := World.ownsRow_nil w 0 e size
theorem RowN.kept {S : List Nat} {w w' : World} {e : TypeId} {size : Nat} {v : Value} {n : Nat} {xs : List Value} (h : RowN w e size v n xs) (hk : Kept S w w') (hd : Apart (foot v) S) : RowN w' e size v n xs := by
  refine ⟨h.1, ?_⟩
  rcases h.2 with h2 | ⟨g, cap, cur, hv, hg, hh, r⟩
  · exact Or.inl h2
  · exact Or.inr ⟨g, cap, cur, hv, hg, hk.heap hh (hd g (by simp [foot, hv, Value.ownBlock])), r⟩
theorem RowN.lt {w : World} {e : TypeId} {size : Nat} {v : Value} {n : Nat} {xs : List Value} (h : RowN w e size v n xs) : ∀ k ∈ foot v, k < w.heap.size := by
  intro k hk
  exact (World.ownsRow.lt h k (by simpa [foot] using hk)).2
theorem RowN.sees {w : World} {e : TypeId} {size : Nat} {v : Value} {n : Nat} {xs : List Value} (h : RowN w e size v n xs) : ∃ a cap, v = .slice a n cap ∧ n ≤ cap ∧ cap ≤ maxLen ∧ Sees w size a n xs ∧ footA a = foot v := by
  rcases h.2 with ⟨rfl, h2⟩ | ⟨g, cap, cur, rfl, hb, hg, hnc, hcm, hcs, ht⟩
  · refine ⟨none, 0, by rw [h2], by omega, Nat.zero_le _, ⟨h.1, fun j u hj => ?_⟩, rfl⟩
    have := (List.getElem?_eq_some_iff.1 hj).1
    rw [h.1, h2] at this
    omega
  · have hown : w.ownsRow 0 e size (.slice (some ⟨g, 0, none⟩) n cap) n xs := h
    refine ⟨_, cap, rfl, hnc, hcm, ⟨h.1, fun j u hu => ⟨g, 0, rfl, ?_⟩⟩, rfl⟩
    have hi := (List.getElem?_eq_some_iff.1 hu).1
    rw [Nat.zero_add, hown.cellAt j (by rw [← h.1]; exact hi), hu]
theorem foot_slice (a : Option Addr) (n c : Nat) : foot (.slice a n c) = footA a := by cases a <;> rfl

/-- The walk's arm at 'append(out, x)', x one element of size cells: it was laid in a new block first. -/
theorem wp_appK {P : Program} (w0 : World) {w : World} {ops : Array Oper} {rest : List Oper} {o : Oper} {a : Act} {Q : Exit → Act → World → Prop}
    (hg : o.guard = none) (s x : Operand) (t : TypeId) (hop : o.op = Op.call { callee := Callee.builtin Builtin.append, args := #[s, x], argTypes := #[t, t] })
    (e : TypeId) (z : Value) (size bytes : Nat) (hu : P.underlying t = some (.slice e)) (T : (P.info? e).map (fun i => (i.zero, i.size, i.bytes)) = some (some z, size, bytes)) (hz : z.cells.size = size) (h0 : 0 < size)
    (v : Value) (n : Nat) (xs news : List Value) (hs : a.eval s = v) (hx : a.eval x = .slice (some ⟨w0.heap.size, 0, none⟩) 1 1) (hw : w = w0.alloc (.cells news.toArray e)) (hl : news.length = size) (hone : ∀ u ∈ news, u.oneCell' = true)
    (hown : RowN w0 e size v n xs) (hm : n + 1 ≤ maxLen) (hb : (n + 1) * bytes ≤ 140737488355328)
    (hK : ∀ g cap w', RowN w' e size (.slice (some ⟨g, 0, none⟩) (n + 1) cap) (n + 1) (xs ++ news) → Kept (foot v) w0 w' → (g ∈ foot v ∨ w0.heap.size ≤ g) →
      wpList P ops Q rest (a.put o.dst (.slice (some ⟨g, 0, none⟩) (n + 1) cap)) w') :
    wpList P ops Q (o :: rest) a w := by
  subst hw
  obtain ⟨v', w', hr, hown', hk, hf⟩ := run_app (P := P) (w0.alloc (.cells news.toArray e)) t o.type e z size bytes hu T hz h0 v n xs (World.ownsRow.alloc hown _)
    ⟨w0.heap.size, 0, none⟩ 1 1 news (by omega) (by
      intro j y hj
      rw [Addr.add_lit, Nat.zero_add]
      rw [World.cell?_alloc_at _ _ _ _ rfl]
      simpa using hj) hone hm hb
  refine wpList_plain hg fun K hK' => ?_
  unfold Oper.wp
  simp only [execOp, hop, resolve, invoke, builtin, Sem.run_bind, Sem.run_pure, Result.andThen_ok, List.map_toArray, List.map_cons, List.map_nil, hs, hx, hr]
  rcases hown'.2 with ⟨-, h0⟩ | ⟨g, cap, cur, rfl, -⟩
  · omega
  refine hK' _ _ (hK g cap w' hown' (((Kept.refl (foot v) w0).alloc _).trans hk (fun x hx => .inl hx)) ?_)
  refine (hf g (by simp [foot, Value.ownBlock])).imp id fun h => ?_
  simp at h
  omega
end Go.Proofs.Ytdaenajhgbagdaa
namespace Go.Proofs.Ytdaenajhgbagdaa
open Go.RowKit
set_option linter.unusedVariables false
set_option linter.unusedSimpArgs false

theorem run_appS {P : Program} {w : World} (t ty e : TypeId) (z : Value) (bytes : Nat) (hu : P.underlying t = some (.slice e)) (T : (P.info? e).map (fun i => (i.zero, i.size, i.bytes)) = some (some z, 1, bytes)) (hz : z.cells.size = 1)
    (v : Value) (xs news : List Value) (ao : Option Addr) (m c : Nat) (hone : ∀ u ∈ news, u.oneCell' = true)
    (hown : Row w e v xs) (hsee : Sees w 1 ao m news) (hao : ao = none → c = 0) (hm : xs.length + m ≤ maxLen) (hb : (xs.length + m) * bytes ≤ 140737488355328) :
    ∃ a' cap' w', (Builtin.append_ #[t, t] ty #[v, .slice ao m c]).run P w = .ok (.slice a' (xs.length + m) cap') w' ∧ Row w' e (.slice a' (xs.length + m) cap') (xs ++ news) ∧ Kept (foot v) w w' ∧
      Grew w.heap.size (foot v) (foot (.slice a' (xs.length + m) cap')) := by
  have hml : news.length = m := by have := hsee.1; omega
  have key : ∃ v' w', (Builtin.append_ #[t, t] ty #[v, .slice ao m c]).run P w = .ok v' w' ∧ w'.ownsRow 0 e 1 v' (xs.length + m) (xs ++ news) ∧ Kept (foot v) w w' ∧ Grew w.heap.size (foot v) (foot v') := by
    cases ao with
    | some ad =>
      exact run_app (P := P) w t ty e z 1 bytes hu T hz (by decide) v xs.length xs hown ad m c news (by omega) (fun j u hj => by
        obtain ⟨b, off, h1, h2⟩ := hsee.2 j u hj
        injection h1 with h1
        subst h1
        rw [Addr.add_lit]; exact h2) hone hm hb
    | none =>
      have hn : news = [] := by
        rcases news with _ | ⟨u, r⟩
        · rfl
        · obtain ⟨b, off, h1, -⟩ := hsee.2 0 u rfl
          cases h1
      subst hn
      have hc := hao rfl
      simp only [List.length_nil] at hml
      subst hml
      subst hc
      obtain ⟨i, hi, h0, h1, h2⟩ := info_parts T
      have hr := run_append_owned_none (P := P) w 0 t ty e i 1 hu hi v xs.length xs hown
      exact ⟨v, w, hr, by simpa [Row] using hown, Kept.refl _ _, Grew.refl _ _⟩
  obtain ⟨v', w', hr, ho, hk, hgr⟩ := key
  have hrow' : Row w' e v' (xs ++ news) := by unfold Row; rw [List.length_append, hml]; exact ho
  obtain ⟨a', cap', hv, -⟩ := hrow'.sees
  rw [List.length_append, hml] at hv
  subst hv
  exact ⟨a', cap', w', hr, hrow', hk, hgr⟩

/-- 'append(out, xs...)' as one operation of such a region. -/
theorem step_appS {P : Program} {w : World} {ops : Array Oper} {o : Oper} {a : Act} {K : Act → World → Prop} {Q : Exit → Act → World → Prop} {E : Prop}
    (hg : o.guard = none) (s x : Operand) (t : TypeId) (hop : o.op = Op.call { callee := Callee.builtin Builtin.append, args := #[s, x], argTypes := #[t, t] })
    (e : TypeId) (z : Value) (bytes : Nat) (hu : P.underlying t = some (.slice e)) (T : (P.info? e).map (fun i => (i.zero, i.size, i.bytes)) = some (some z, 1, bytes)) (hz : z.cells.size = 1)
    (v : Value) (xs news : List Value) (ao : Option Addr) (m c : Nat) (hs : a.eval s = v) (hx : a.eval x = .slice ao m c) (hone : ∀ u ∈ news, u.oneCell' = true)
    (hown : Row w e v xs) (hsee : Sees w 1 ao m news) (hao : ao = none → c = 0) (hm : xs.length + m ≤ maxLen) (hb : (xs.length + m) * bytes ≤ 140737488355328)
    (hK : ∀ a' cap' w', Row w' e (.slice a' (xs.length + m) cap') (xs ++ news) → Kept (foot v) w w' → Grew w.heap.size (foot v) (foot (.slice a' (xs.length + m) cap')) →
      K (a.put o.dst (.slice a' (xs.length + m) cap')) w') :
    if Region.wanted o (yielded ops a.tmps) = true then Oper.wp P o a w K Q else E := by
  have hw : Region.wanted o (yielded ops a.tmps) = true := by simp [Region.wanted, hg]
  rw [if_pos hw]
  obtain ⟨a', cap', w', hr, h1, h2, h3⟩ := run_appS (P := P) t o.type e z bytes hu T hz v xs news ao m c hone hown hsee hao hm hb
  unfold Oper.wp
  simp only [execOp, hop, resolve, invoke, builtin, Sem.run_bind, Sem.run_pure, Result.andThen_ok, List.map_toArray, List.map_cons, List.map_nil, hs, hx, hr]
  exact hK a' cap' w' h1 h2 h3
end Go.Proofs.Ytdaenajhgbagdaa
namespace Go.Proofs.Ytdaenajhgbagdaa
open Go.RowKit
set_option linter.unusedVariables false
set_option linter.unusedSimpArgs false

theorem run_appW {P : Program} (w : World) (t ty e : TypeId) (z : Value) (size bytes : Nat) (hu : P.underlying t = some (.slice e))
    (T : (P.info? e).map (fun i => (i.zero, i.size, i.bytes)) = some (some z, size, bytes)) (hzs : z.cells.size = size) (hsz : 0 < size)
    (g n cap : Nat) (xs : List Value) (hown : w.ownsRow 0 e size (.slice (some ⟨g, 0, none⟩) n cap) n xs)
    (a : Addr) (m c : Nat) (news : List Value) (hl : news.length = m * size) (hnews : ∀ j u, news[j]? = some u → w.cell? (a.add j) = some u) (h1 : ∀ u ∈ news, u.oneCell' = true)
    (h63 : n + m ≤ maxLen) (hbytes : (n + m) * bytes ≤ 140737488355328) :
    ∃ g' cap' w', (Builtin.append_ #[t, t] ty #[.slice (some ⟨g, 0, none⟩) n cap, .slice (some a) m c]).run P w = .ok (.slice (some ⟨g', 0, none⟩) (n + m) cap') w' ∧
      w'.ownsRow 0 e size (.slice (some ⟨g', 0, none⟩) (n + m) cap') (n + m) (xs ++ news) ∧ Kept [g] w w' ∧ (g' = g ∨ w.heap.size ≤ g') ∧
      (∀ j u, xs[j]? = some u → w'.cell? ⟨g, j, none⟩ = some u) := by
  obtain ⟨i, hi, h0, hs1, hs2⟩ := info_parts T
  have holds : ∀ j u, xs[j]? = some u → w.cell? ((⟨g, 0, none⟩ : Addr).add j) = some u := hown.cells (g := g) rfl
  have hglt : g < w.heap.size := (World.ownsRow.lt hown g (by simp [Value.ownBlock])).2
  by_cases hroom : n + m ≤ cap
  · obtain ⟨w', r, ho, hgr⟩ := run_append_fits (P := P) w 0 t ty e i size hu hi hs1 g n cap xs hown a m c news hl hnews h1 hroom
    refine ⟨g, cap, w', r, ho, (Kept.refl _ w).grown hgr (by intro k hk; left; cases hk; simp), .inl rfl, fun j u hj => ?_⟩
    have h := ho.cells (g := g) rfl j u (by rw [List.getElem?_append_left (List.getElem?_eq_some_iff.1 hj).1]; exact hj)
    rwa [Addr.add_lit, Nat.zero_add] at h
  · obtain ⟨v', w', r, ho, hgr, -⟩ := run_append_own (P := P) w 0 t ty e i z size bytes hu hi h0 hs1 hs2 hzs hsz _ n xs hown a m c news hl hnews h1 h63 hbytes (Nat.zero_le _)
    subst hs1
    subst hs2
    have r2 := run_append_grow (P := P) w t ty e i z hu hi h0 ⟨g, 0, none⟩ n cap xs hown.1 holds a m c news hl hnews (by omega) (by simp only [maxLen] at h63; omega) (growslice_fits (by omega) hbytes)
    have he := r.symm.trans r2
    injection he with hv hw
    subst hv
    refine ⟨w.heap.size, _, w', r, ho, ?_, .inr (Nat.le_refl _), fun j u hj => ?_⟩
    · rw [hw]; exact ((Kept.refl _ w).drew).alloc _
    · have h := holds j u hj
      rw [Addr.add_lit, Nat.zero_add] at h
      rw [hw]
      exact (((Kept.refl [] w).drew).alloc _).cellOf h (by simp)
/-- 'append(v, x)' as one operation of such a region. -/
theorem step_appW {P : Program} {w : World} {ops : Array Oper} {o : Oper} {a : Act} {K : Act → World → Prop} {Q : Exit → Act → World → Prop} {E : Prop}
    (hg : o.guard = none) (s x : Operand) (t : TypeId) (hop : o.op = Op.call { callee := Callee.builtin Builtin.append, args := #[s, x], argTypes := #[t, t] })
    (e : TypeId) (z : Value) (size bytes : Nat) (hu : P.underlying t = some (.slice e)) (T : (P.info? e).map (fun i => (i.zero, i.size, i.bytes)) = some (some z, size, bytes)) (hz : z.cells.size = size) (hsz : 0 < size)
    (g n cap : Nat) (xs news : List Value) (ad : Addr) (m c : Nat) (hs : a.eval s = .slice (some ⟨g, 0, none⟩) n cap) (hx : a.eval x = .slice (some ad) m c) (hone : ∀ u ∈ news, u.oneCell' = true)
    (hown : w.ownsRow 0 e size (.slice (some ⟨g, 0, none⟩) n cap) n xs) (hl : news.length = m * size) (hnews : ∀ j u, news[j]? = some u → w.cell? (ad.add j) = some u) (hm : n + m ≤ maxLen) (hb : (n + m) * bytes ≤ 140737488355328)
    (hK : ∀ g' cap' w', w'.ownsRow 0 e size (.slice (some ⟨g', 0, none⟩) (n + m) cap') (n + m) (xs ++ news) → Kept [g] w w' → (g' = g ∨ w.heap.size ≤ g') → (∀ j u, xs[j]? = some u → w'.cell? ⟨g, j, none⟩ = some u) →
      K (a.put o.dst (.slice (some ⟨g', 0, none⟩) (n + m) cap')) w') :
    if Region.wanted o (yielded ops a.tmps) = true then Oper.wp P o a w K Q else E := by
  have hw : Region.wanted o (yielded ops a.tmps) = true := by simp [Region.wanted, hg]
  rw [if_pos hw]
  obtain ⟨g', cap', w', hr, h1, h2, h3, h4⟩ := run_appW (P := P) w t o.type e z size bytes hu T hz hsz g n cap xs hown ad m c news hl hnews hone hm hb
  unfold Oper.wp
  simp only [execOp, hop, resolve, invoke, builtin, Sem.run_bind, Sem.run_pure, Result.andThen_ok, List.map_toArray, List.map_cons, List.map_nil, hs, hx, hr]
  exact hK g' cap' w' h1 h2 h3 h4
theorem news_one (w : World) (u : Value) (e : TypeId) : ∀ j v, [u][j]? = some v → (w.alloc (.cells #[u] e)).cell? ((⟨w.heap.size, 0, none⟩ : Addr).add j) = some v := by
  intro j v hj
  match j, hj with
  | 0, hj => simp at hj; subst hj; simp [Addr.add]
end Go.Proofs.Ytdaenajhgbagdaa
namespace Go.Proofs.Ytdaenajhgbagdaa
open Go.RowKit
set_option linter.unusedVariables false
set_option linter.unusedSimpArgs false

theorem held_skip {P : Program} {ops : Array Oper} {Q : Exit → Act → World → Prop} {md : Region.Mode} {S : World → Prop} {fuel : Nat} {listed : Array Bool} {a : Act} {w : World} (i d : Nat)
    (hd : (ops[i]?).map (fun o => o.dst) = some (some d)) (hs : Region.noSelect ops = true) (hf : Region.free md ops listed i = true) (hr : (Region.ready md ops listed).contains i = true)
    (hQ : ∀ c a w, Q (.panic c) (a.put (some d) undef) w → Q (.panic c) a w) (hy : (ops[i]?).map (fun o => Region.wanted o (yielded ops a.tmps)) = some false) (hS : S w)
    (h : wpAnyH P md ops Q S fuel (listed.setIfInBounds i true) (a.put (some d) undef) w) : wpAnyH P md ops Q S (fuel + 1) listed a w := by
  cases ho : ops[i]? with
  | none => rw [ho] at hd; cases hd
  | some o =>
    rw [ho] at hd hy
    injection hd with hd
    have hd : o.dst = some d := hd
    injection hy with hy
    exact wpAnyH_take ho hs hf hr (by rw [hd]; exact hQ) (Or.inr ⟨hy, rfl⟩) hS (by rw [hd]; exact h)
theorem held_take {P : Program} {ops : Array Oper} {Q : Exit → Act → World → Prop} {md : Region.Mode} {S : World → Prop} {fuel : Nat} {listed : Array Bool} {a : Act} {w : World} (i d : Nat) (v : Value)
    (hd : (ops[i]?).map (fun o => o.dst) = some (some d)) (hs : Region.noSelect ops = true) (hf : Region.free md ops listed i = true) (hr : (Region.ready md ops listed).contains i = true)
    (hQ : ∀ c a w, Q (.panic c) (a.put (some d) v) w → Q (.panic c) a w) (hy : (ops[i]?).map (fun o => Region.wanted o (yielded ops a.tmps)) = some true)
    (hv : ∀ o, ops[i]? = some o → ∀ w, S w → (execOp a.eval o).run P w = .ok (.value v) w) (hS : S w)
    (h : wpAnyH P md ops Q S fuel (listed.setIfInBounds i true) (a.put (some d) v) w) : wpAnyH P md ops Q S (fuel + 1) listed a w := by
  cases ho : ops[i]? with
  | none => rw [ho] at hd; cases hd
  | some o =>
    rw [ho] at hd hy
    injection hd with hd
    have hd : o.dst = some d := hd
    injection hy with hy
    exact wpAnyH_take ho hs hf hr (by rw [hd]; exact hQ) (Or.inl ⟨hy, hv o ho⟩) hS (by rw [hd]; exact h)
end Go.Proofs.Ytdaenajhgbagdaa
