/-
  append of a literal of several elements of one cell.
-/
import Derived.Test.YtodjfgdolegfpaaLibC
import Derived.Test.YtodjfgdolegfpaaInts
namespace Go.Proofs.Ytodjfgdolegfpaa
open Go.RowKit
set_option linter.unusedVariables false
set_option linter.unusedSimpArgs false

theorem Sees.lit {w0 : World} {news : List Value} {e : TypeId} {m : Nat} (hl : news.length = m) : Sees (w0.alloc (.cells news.toArray e)) 1 (some ⟨w0.heap.size, 0, none⟩) m news := by
  refine ⟨by omega, fun j u hj => ⟨_, _, rfl, ?_⟩⟩
  have h := heap_alloc_new w0 (.cells news.toArray e)
  have hc := cell_of_row _ w0.heap.size j _ _ _ h
  rw [Nat.zero_add, hc]
  simpa using hj
theorem Sees.int {w : World} {b off n i : Nat} {x : Int} {xs : List Int} (h : Sees w 1 (some ⟨b, off, none⟩) n (intVals xs)) (hx : xs[i]? = some x) : w.cell? ⟨b, off + i, none⟩ = some (.int .i64 x) := by
  obtain ⟨b', off', he, hc⟩ := h.2 i _ (intVals_get xs i x hx)
  injection he with he
  injection he with h1 h2
  subst h1 h2
  exact hc

theorem wp_appL {P : Program} (w0 : World) {w : World} {ops : Array Oper} {rest : List Oper} {o : Oper} {a : Act} {Q : Exit → Act → World → Prop}
    (hg : o.guard = none) (s x : Operand) (t : TypeId) (hop : o.op = Op.call { callee := Callee.builtin Builtin.append, args := #[s, x], argTypes := #[t, t] })
    (e : TypeId) (z : Value) (bytes : Nat) (hu : P.underlying t = some (.slice e)) (T : (P.info? e).map (fun i => (i.zero, i.size, i.bytes)) = some (some z, 1, bytes)) (hz : z.cells.size = 1)
    (v : Value) (xs news : List Value) (m : Nat) (hs : a.eval s = v) (hx : a.eval x = .slice (some ⟨w0.heap.size, 0, none⟩) m m) (hw : w = w0.alloc (.cells news.toArray e)) (hl : news.length = m)
    (hone : ∀ u ∈ news, u.oneCell' = true)
    (hown : Row w0 e v xs) (hm : xs.length + m ≤ maxLen) (hb : (xs.length + m) * bytes ≤ 140737488355328)
    (hK : ∀ a' cap' w', Row w' e (.slice a' (xs.length + m) cap') (xs ++ news) → Kept (foot v) w0 w' → Grew w0.heap.size (foot v) (foot (.slice a' (xs.length + m) cap')) →
      wpList P ops Q rest (a.put o.dst (.slice a' (xs.length + m) cap')) w') :
    wpList P ops Q (o :: rest) a w := by
  subst hw
  have hk0 : Kept (foot v) w0 (w0.alloc (.cells news.toArray e)) := (Kept.refl _ _).alloc _
  refine wp_appS hg s x t hop e z bytes hu T hz v xs news _ m m hs hx hone (World.ownsRow.alloc hown _) (Sees.lit hl) (fun h => by cases h) hm hb fun a' cap' w' h1 h2 h3 => hK a' cap' w' h1 ?_ ?_
  · exact hk0.trans h2 (fun x hx => .inl hx)
  · intro x hx
    rcases h3 x hx with h' | h'
    · exact .inl h'
    · exact .inr (by simp at h'; omega)
end Go.Proofs.Ytodjfgdolegfpaa
