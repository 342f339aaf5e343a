/-
  Rows of elements of several cells.
-/
import Derived.Test.YtodjfgdolegfpaaLib
namespace Go.Proofs.Ytodjfgdolegfpaa
open Go.RowKit
set_option linter.unusedVariables false
set_option linter.unusedSimpArgs false

/-- The slice value v owns n elements of size cells each. -/
def RowN (w : World) (e : TypeId) (size : Nat) (v : Value) (n : Nat) (xs : List Value) : Prop := w.ownsRow 0 e size v n xs
theorem RowN.nil (w : World) (e : TypeId) (size : Nat) : RowN w e size (.slice none 0 0) 0 [] := World.ownsRow_nil w 0 e size
theorem RowN.kept {S : List Nat} {w w' : World} {e : TypeId} {size : Nat} {v : Value} {n : Nat} {xs : List Value} (h : RowN w e size v n xs) (hk : Kept S w w') (hd : Apart (foot v) S) : RowN w' e size v n xs := by
  refine ⟨h.1, ?_⟩
  rcases h.2 with h2 | ⟨g, cap, cur, hv, hg, hh, r⟩
  · exact Or.inl h2
  · exact Or.inr ⟨g, cap, cur, hv, hg, hk.heap hh (hd g (by simp [foot, hv, Value.ownBlock])), r⟩
theorem RowN.lt {w : World} {e : TypeId} {size : Nat} {v : Value} {n : Nat} {xs : List Value} (h : RowN w e size v n xs) : ∀ k ∈ foot v, k < w.heap.size := by
  intro k hk
  exact (World.ownsRow.lt h k (by simpa [foot] using hk)).2
theorem RowN.sees {w : World} {e : TypeId} {size : Nat} {v : Value} {n : Nat} {xs : List Value} (h : RowN w e size v n xs) : ∃ a cap, v = .slice a n cap ∧ n ≤ cap ∧ cap ≤ maxLen ∧ Sees w size a n xs ∧ footA a = foot v := by
  rcases h.2 with ⟨rfl, h2⟩ | ⟨g, cap, cur, rfl, hb, hg, hnc, hcm, hcs, ht⟩
  · refine ⟨none, 0, by rw [h2], by omega, Nat.zero_le _, ⟨h.1, fun j u hj => ?_⟩, rfl⟩
    have := (List.getElem?_eq_some_iff.1 hj).1
    rw [h.1, h2] at this
    omega
  · have hown : w.ownsRow 0 e size (.slice (some ⟨g, 0, none⟩) n cap) n xs := h
    refine ⟨_, cap, rfl, hnc, hcm, ⟨h.1, fun j u hu => ⟨g, 0, rfl, ?_⟩⟩, rfl⟩
    have hi := (List.getElem?_eq_some_iff.1 hu).1
    rw [Nat.zero_add, hown.cellAt j (by rw [← h.1]; exact hi), hu]
theorem foot_slice (a : Option Addr) (n c : Nat) : foot (.slice a n c) = footA a := by cases a <;> rfl

/-- The walk's arm at 'append(out, x)', x one element of size cells: it was laid in a new block first. -/
theorem wp_appK {P : Program} (w0 : World) {w : World} {ops : Array Oper} {rest : List Oper} {o : Oper} {a : Act} {Q : Exit → Act → World → Prop}
    (hg : o.guard = none) (s x : Operand) (t : TypeId) (hop : o.op = Op.call { callee := Callee.builtin Builtin.append, args := #[s, x], argTypes := #[t, t] })
    (e : TypeId) (z : Value) (size bytes : Nat) (hu : P.underlying t = some (.slice e)) (T : (P.info? e).map (fun i => (i.zero, i.size, i.bytes)) = some (some z, size, bytes)) (hz : z.cells.size = size) (h0 : 0 < size)
    (v : Value) (n : Nat) (xs news : List Value) (hs : a.eval s = v) (hx : a.eval x = .slice (some ⟨w0.heap.size, 0, none⟩) 1 1) (hw : w = w0.alloc (.cells news.toArray e)) (hl : news.length = size) (hone : ∀ u ∈ news, u.oneCell' = true)
    (hown : RowN w0 e size v n xs) (hm : n + 1 ≤ maxLen) (hb : (n + 1) * bytes ≤ 140737488355328)
    (hK : ∀ g cap w', RowN w' e size (.slice (some ⟨g, 0, none⟩) (n + 1) cap) (n + 1) (xs ++ news) → Kept (foot v) w0 w' → (g ∈ foot v ∨ w0.heap.size ≤ g) →
      wpList P ops Q rest (a.put o.dst (.slice (some ⟨g, 0, none⟩) (n + 1) cap)) w') :
    wpList P ops Q (o :: rest) a w := by
  subst hw
  obtain ⟨v', w', hr, hown', hk, hf⟩ := run_app (P := P) (w0.alloc (.cells news.toArray e)) t o.type e z size bytes hu T hz h0 v n xs (World.ownsRow.alloc hown _)
    ⟨w0.heap.size, 0, none⟩ 1 1 news (by omega) (by
      intro j y hj
      rw [Addr.add_lit, Nat.zero_add]
      rw [World.cell?_alloc_at _ _ _ _ rfl]
      simpa using hj) hone hm hb
  refine wpList_plain hg fun K hK' => ?_
  unfold Oper.wp
  simp only [execOp, hop, resolve, invoke, builtin, Sem.run_bind, Sem.run_pure, Result.andThen_ok, List.map_toArray, List.map_cons, List.map_nil, hs, hx, hr]
  rcases hown'.2 with ⟨-, h0⟩ | ⟨g, cap, cur, rfl, -⟩
  · omega
  refine hK' _ _ (hK g cap w' hown' (((Kept.refl (foot v) w0).alloc _).trans hk (fun x hx => .inl hx)) ?_)
  refine (hf g (by simp [foot, Value.ownBlock])).imp id fun h => ?_
  simp at h
  omega
end Go.Proofs.Ytodjfgdolegfpaa
