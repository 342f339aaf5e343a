/-
  append in a region that draws its order.
-/
import Derived.Test.YtodjfgdolegfpaaLibB
namespace Go.Proofs.Ytodjfgdolegfpaa
open Go.RowKit
set_option linter.unusedVariables false
set_option linter.unusedSimpArgs false

theorem run_appS {P : Program} {w : World} (t ty e : TypeId) (z : Value) (bytes : Nat) (hu : P.underlying t = some (.slice e)) (T : (P.info? e).map (fun i => (i.zero, i.size, i.bytes)) = some (some z, 1, bytes)) (hz : z.cells.size = 1)
    (v : Value) (xs news : List Value) (ao : Option Addr) (m c : Nat) (hone : ∀ u ∈ news, u.oneCell' = true)
    (hown : Row w e v xs) (hsee : Sees w 1 ao m news) (hao : ao = none → c = 0) (hm : xs.length + m ≤ maxLen) (hb : (xs.length + m) * bytes ≤ 140737488355328) :
    ∃ a' cap' w', (Builtin.append_ #[t, t] ty #[v, .slice ao m c]).run P w = .ok (.slice a' (xs.length + m) cap') w' ∧ Row w' e (.slice a' (xs.length + m) cap') (xs ++ news) ∧ Kept (foot v) w w' ∧
      Grew w.heap.size (foot v) (foot (.slice a' (xs.length + m) cap')) := by
  have hml : news.length = m := by have := hsee.1; omega
  have key : ∃ v' w', (Builtin.append_ #[t, t] ty #[v, .slice ao m c]).run P w = .ok v' w' ∧ w'.ownsRow 0 e 1 v' (xs.length + m) (xs ++ news) ∧ Kept (foot v) w w' ∧ Grew w.heap.size (foot v) (foot v') := by
    cases ao with
    | some ad =>
      exact run_app (P := P) w t ty e z 1 bytes hu T hz (by decide) v xs.length xs hown ad m c news (by omega) (fun j u hj => by
        obtain ⟨b, off, h1, h2⟩ := hsee.2 j u hj
        injection h1 with h1
        subst h1
        rw [Addr.add_lit]; exact h2) hone hm hb
    | none =>
      have hn : news = [] := by
        rcases news with _ | ⟨u, r⟩
        · rfl
        · obtain ⟨b, off, h1, -⟩ := hsee.2 0 u rfl
          cases h1
      subst hn
      have hc := hao rfl
      simp only [List.length_nil] at hml
      subst hml
      subst hc
      obtain ⟨i, hi, h0, h1, h2⟩ := info_parts T
      have hr := run_append_owned_none (P := P) w 0 t ty e i 1 hu hi v xs.length xs hown
      exact ⟨v, w, hr, by simpa [Row] using hown, Kept.refl _ _, Grew.refl _ _⟩
  obtain ⟨v', w', hr, ho, hk, hgr⟩ := key
  have hrow' : Row w' e v' (xs ++ news) := by unfold Row; rw [List.length_append, hml]; exact ho
  obtain ⟨a', cap', hv, -⟩ := hrow'.sees
  rw [List.length_append, hml] at hv
  subst hv
  exact ⟨a', cap', w', hr, hrow', hk, hgr⟩

/-- 'append(out, xs...)' as one operation of such a region. -/
theorem step_appS {P : Program} {w : World} {ops : Array Oper} {o : Oper} {a : Act} {K : Act → World → Prop} {Q : Exit → Act → World → Prop} {E : Prop}
    (hg : o.guard = none) (s x : Operand) (t : TypeId) (hop : o.op = Op.call { callee := Callee.builtin Builtin.append, args := #[s, x], argTypes := #[t, t] })
    (e : TypeId) (z : Value) (bytes : Nat) (hu : P.underlying t = some (.slice e)) (T : (P.info? e).map (fun i => (i.zero, i.size, i.bytes)) = some (some z, 1, bytes)) (hz : z.cells.size = 1)
    (v : Value) (xs news : List Value) (ao : Option Addr) (m c : Nat) (hs : a.eval s = v) (hx : a.eval x = .slice ao m c) (hone : ∀ u ∈ news, u.oneCell' = true)
    (hown : Row w e v xs) (hsee : Sees w 1 ao m news) (hao : ao = none → c = 0) (hm : xs.length + m ≤ maxLen) (hb : (xs.length + m) * bytes ≤ 140737488355328)
    (hK : ∀ a' cap' w', Row w' e (.slice a' (xs.length + m) cap') (xs ++ news) → Kept (foot v) w w' → Grew w.heap.size (foot v) (foot (.slice a' (xs.length + m) cap')) →
      K (a.put o.dst (.slice a' (xs.length + m) cap')) w') :
    if Region.wanted o (yielded ops a.tmps) = true then Oper.wp P o a w K Q else E := by
  have hw : Region.wanted o (yielded ops a.tmps) = true := by simp [Region.wanted, hg]
  rw [if_pos hw]
  obtain ⟨a', cap', w', hr, h1, h2, h3⟩ := run_appS (P := P) t o.type e z bytes hu T hz v xs news ao m c hone hown hsee hao hm hb
  unfold Oper.wp
  simp only [execOp, hop, resolve, invoke, builtin, Sem.run_bind, Sem.run_pure, Result.andThen_ok, List.map_toArray, List.map_cons, List.map_nil, hs, hx, hr]
  exact hK a' cap' w' h1 h2 h3
end Go.Proofs.Ytodjfgdolegfpaa
