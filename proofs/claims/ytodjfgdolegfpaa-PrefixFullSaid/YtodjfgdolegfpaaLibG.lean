/-
  append to an owned row, in a region that draws its order: what stood in the row can be read behind it as before.
-/
import Derived.Test.YtodjfgdolegfpaaLibC
namespace Go.Proofs.Ytodjfgdolegfpaa
open Go.RowKit
set_option linter.unusedVariables false
set_option linter.unusedSimpArgs false

theorem run_appW {P : Program} (w : World) (t ty e : TypeId) (z : Value) (size bytes : Nat) (hu : P.underlying t = some (.slice e))
    (T : (P.info? e).map (fun i => (i.zero, i.size, i.bytes)) = some (some z, size, bytes)) (hzs : z.cells.size = size) (hsz : 0 < size)
    (g n cap : Nat) (xs : List Value) (hown : w.ownsRow 0 e size (.slice (some ⟨g, 0, none⟩) n cap) n xs)
    (a : Addr) (m c : Nat) (news : List Value) (hl : news.length = m * size) (hnews : ∀ j u, news[j]? = some u → w.cell? (a.add j) = some u) (h1 : ∀ u ∈ news, u.oneCell' = true)
    (h63 : n + m ≤ maxLen) (hbytes : (n + m) * bytes ≤ 140737488355328) :
    ∃ g' cap' w', (Builtin.append_ #[t, t] ty #[.slice (some ⟨g, 0, none⟩) n cap, .slice (some a) m c]).run P w = .ok (.slice (some ⟨g', 0, none⟩) (n + m) cap') w' ∧
      w'.ownsRow 0 e size (.slice (some ⟨g', 0, none⟩) (n + m) cap') (n + m) (xs ++ news) ∧ Kept [g] w w' ∧ (g' = g ∨ w.heap.size ≤ g') ∧
      (∀ j u, xs[j]? = some u → w'.cell? ⟨g, j, none⟩ = some u) := by
  obtain ⟨i, hi, h0, hs1, hs2⟩ := info_parts T
  have holds : ∀ j u, xs[j]? = some u → w.cell? ((⟨g, 0, none⟩ : Addr).add j) = some u := hown.cells (g := g) rfl
  have hglt : g < w.heap.size := (World.ownsRow.lt hown g (by simp [Value.ownBlock])).2
  by_cases hroom : n + m ≤ cap
  · obtain ⟨w', r, ho, hgr⟩ := run_append_fits (P := P) w 0 t ty e i size hu hi hs1 g n cap xs hown a m c news hl hnews h1 hroom
    refine ⟨g, cap, w', r, ho, (Kept.refl _ w).grown hgr (by intro k hk; left; cases hk; simp), .inl rfl, fun j u hj => ?_⟩
    have h := ho.cells (g := g) rfl j u (by rw [List.getElem?_append_left (List.getElem?_eq_some_iff.1 hj).1]; exact hj)
    rwa [Addr.add_lit, Nat.zero_add] at h
  · obtain ⟨v', w', r, ho, hgr, -⟩ := run_append_own (P := P) w 0 t ty e i z size bytes hu hi h0 hs1 hs2 hzs hsz _ n xs hown a m c news hl hnews h1 h63 hbytes (Nat.zero_le _)
    subst hs1
    subst hs2
    have r2 := run_append_grow (P := P) w t ty e i z hu hi h0 ⟨g, 0, none⟩ n cap xs hown.1 holds a m c news hl hnews (by omega) (by simp only [maxLen] at h63; omega) (growslice_fits (by omega) hbytes)
    have he := r.symm.trans r2
    injection he with hv hw
    subst hv
    refine ⟨w.heap.size, _, w', r, ho, ?_, .inr (Nat.le_refl _), fun j u hj => ?_⟩
    · rw [hw]; exact ((Kept.refl _ w).drew).alloc _
    · have h := holds j u hj
      rw [Addr.add_lit, Nat.zero_add] at h
      rw [hw]
      exact (((Kept.refl [] w).drew).alloc _).cellOf h (by simp)
/-- 'append(v, x)' as one operation of such a region. -/
theorem step_appW {P : Program} {w : World} {ops : Array Oper} {o : Oper} {a : Act} {K : Act → World → Prop} {Q : Exit → Act → World → Prop} {E : Prop}
    (hg : o.guard = none) (s x : Operand) (t : TypeId) (hop : o.op = Op.call { callee := Callee.builtin Builtin.append, args := #[s, x], argTypes := #[t, t] })
    (e : TypeId) (z : Value) (size bytes : Nat) (hu : P.underlying t = some (.slice e)) (T : (P.info? e).map (fun i => (i.zero, i.size, i.bytes)) = some (some z, size, bytes)) (hz : z.cells.size = size) (hsz : 0 < size)
    (g n cap : Nat) (xs news : List Value) (ad : Addr) (m c : Nat) (hs : a.eval s = .slice (some ⟨g, 0, none⟩) n cap) (hx : a.eval x = .slice (some ad) m c) (hone : ∀ u ∈ news, u.oneCell' = true)
    (hown : w.ownsRow 0 e size (.slice (some ⟨g, 0, none⟩) n cap) n xs) (hl : news.length = m * size) (hnews : ∀ j u, news[j]? = some u → w.cell? (ad.add j) = some u) (hm : n + m ≤ maxLen) (hb : (n + m) * bytes ≤ 140737488355328)
    (hK : ∀ g' cap' w', w'.ownsRow 0 e size (.slice (some ⟨g', 0, none⟩) (n + m) cap') (n + m) (xs ++ news) → Kept [g] w w' → (g' = g ∨ w.heap.size ≤ g') → (∀ j u, xs[j]? = some u → w'.cell? ⟨g, j, none⟩ = some u) →
      K (a.put o.dst (.slice (some ⟨g', 0, none⟩) (n + m) cap')) w') :
    if Region.wanted o (yielded ops a.tmps) = true then Oper.wp P o a w K Q else E := by
  have hw : Region.wanted o (yielded ops a.tmps) = true := by simp [Region.wanted, hg]
  rw [if_pos hw]
  obtain ⟨g', cap', w', hr, h1, h2, h3, h4⟩ := run_appW (P := P) w t o.type e z size bytes hu T hz hsz g n cap xs hown ad m c news hl hnews hone hm hb
  unfold Oper.wp
  simp only [execOp, hop, resolve, invoke, builtin, Sem.run_bind, Sem.run_pure, Result.andThen_ok, List.map_toArray, List.map_cons, List.map_nil, hs, hx, hr]
  exact hK g' cap' w' h1 h2 h3 h4
theorem news_one (w : World) (u : Value) (e : TypeId) : ∀ j v, [u][j]? = some v → (w.alloc (.cells #[u] e)).cell? ((⟨w.heap.size, 0, none⟩ : Addr).add j) = some v := by
  intro j v hj
  match j, hj with
  | 0, hj => simp at hj; subst hj; simp [Addr.add]
end Go.Proofs.Ytodjfgdolegfpaa
