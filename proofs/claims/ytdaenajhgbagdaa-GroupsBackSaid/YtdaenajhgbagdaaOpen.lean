/-
  The arguments of the laws, opened: what the walks are told of them.
-/
import Derived.Test.YtdaenajhgbagdaaProg
import Derived.Test.YtdaenajhgbagdaaChecked
import Derived.Test.YtdaenajhgbagdaaLibA
import Derived.ProofKit
import Derived.OpenShut
import Derived.ShutString
import Derived.ChangeOld
import Derived.SizedLaws
import Derived.Lib.SmallJoins
import Derived.Deep.Slices
namespace Go.Proofs.Ytdaenajhgbagdaa
open Go.ChangeShapes Go.WideShapes Go.ChangeAt Go.RowKit Go.Deep
set_option linter.unusedVariables false
set_option linter.unusedSimpArgs false

theorem own : ownKnob Try.prog.godebug = none := by kernel_rfl
theorem laidOut : laidOutB Try.prog = true := by kernel_rfl
theorem range_of_u64 {x : Int} (h : (Lit.int .u64 x).wf = true) : 0 ≤ x ∧ x < 18446744073709551616 := by
  simp [Lit.wf, IntKind.min, IntKind.max, IntKind.signed, IntKind.bits] at h
  omega
theorem range_of_i64 {x : Int} (h : (Lit.int .i64 x).wf = true) : -9223372036854775808 ≤ x ∧ x ≤ 9223372036854775807 := by
  simp [Lit.wf, IntKind.min, IntKind.max, IntKind.signed, IntKind.bits] at h
  omega

theorem flatMap_at {α : Type} (f : α → List Value) (size : Nat) (hf : ∀ x, (f x).length = size) : ∀ (xs : List α) (i r : Nat), r < size → (xs.flatMap f)[i * size + r]? = (xs[i]?).bind fun x => (f x)[r]?
  | [], i, r, _ => by simp
  | x :: xs, 0, r, hr => by
    rw [List.flatMap_cons, List.getElem?_append_left (by rw [hf]; omega)]
    simp
  | x :: xs, i + 1, r, hr => by
    rw [List.flatMap_cons, List.getElem?_append_right (by rw [hf, Nat.succ_mul]; omega), hf, show (i + 1) * size + r - size = i * size + r by rw [Nat.succ_mul]; omega, flatMap_at f size hf xs i r hr]
    simp
theorem flatMap_len {α : Type} (f : α → List Value) (size : Nat) (hf : ∀ x, (f x).length = size) (xs : List α) : (xs.flatMap f).length = xs.length * size := by
  induction xs with
  | nil => simp
  | cons x xs ih => rw [List.flatMap_cons, List.length_append, ih, hf, List.length_cons, Nat.succ_mul]; omega

/-- A slice that came in, element by element. -/
theorem see_gen {H : Type} {enc : TypeId × Value → H} {W : World} {t e : TypeId} {a : Option Addr} {len cap : Nat} {d : DataW H} {p : List MemPlace} {α : Type} (size : Nat) (f : α → List Value) (good : α → Prop)
    (ht : Try.prog.underlying t = some (.slice e)) (hc : Try.prog.cellsOf e = size) (hs : 0 < size) (hf : ∀ x, (f x).length = size)
    (hel : ∀ n cs D, DataW.trod enc Try.prog W 0 (fun _ => true) true n e cs = some D → ∃ x, cs = f x ∧ good x)
    (h : DataW.Trod enc Try.prog W 0 (fun _ => true) true t (.slice a len cap) d p) :
    ∃ xs : List α, Sees W size a len (xs.flatMap f) ∧ xs.length = len ∧ len ≤ cap ∧ cap ≤ maxLen ∧ ∀ x ∈ xs, good x := by
  obtain ⟨fuel, hr⟩ := h
  simp only [Value.cells] at hr
  rcases open_slice ht hr with ⟨hcs, -⟩ | ⟨ad, l, c, m, n, D, Pl, hcs, -, hl, hm, hmm, -, hx⟩
  · simp only [List.cons.injEq, Value.slice.injEq, and_true] at hcs
    obtain ⟨rfl, rfl, rfl⟩ := hcs
    exact ⟨[], ⟨by simp, fun j u hj => by simp at hj⟩, rfl, Nat.le_refl _, Nat.zero_le _, fun x hx => by simp at hx⟩
  · simp only [List.cons.injEq, Value.slice.injEq, and_true] at hcs
    obtain ⟨rfl, rfl, rfl⟩ := hcs
    simp only [if_true] at hmm
    subst hmm
    have key : ∀ k, k ≤ len → ∃ xs : List α, xs.length = k ∧ ∀ i x, xs[i]? = some x → W.cells? 0 (ad.add (i * size)) size = some (f x) ∧ good x := by
      intro k
      induction k with
      | zero => exact fun _ => ⟨[], rfl, fun i x hi => by simp at hi⟩
      | succ k ih =>
        intro hk
        obtain ⟨xs, h1, h2⟩ := ih (by omega)
        obtain ⟨cs', h3, h4⟩ := hx k (by omega)
        obtain ⟨x, rfl, hg⟩ := hel _ _ _ h4
        rw [hc] at h3
        refine ⟨xs ++ [x], by simp [h1], fun i y hi => ?_⟩
        rcases Nat.lt_or_ge i xs.length with hlt | hge
        · rw [List.getElem?_append_left hlt] at hi; exact h2 i y hi
        · rw [List.getElem?_append_right hge] at hi
          have hi0 : i - xs.length = 0 := by
            have := (List.getElem?_eq_some_iff.1 hi).1
            simp at this; omega
          rw [hi0] at hi
          simp at hi
          subst hi
          rw [show i = k by omega]
          exact ⟨h3, hg⟩
    obtain ⟨xs, h1, h2⟩ := key len (Nat.le_refl _)
    refine ⟨xs, ⟨by rw [flatMap_len f size hf, h1], fun j u hj => ?_⟩, h1, hl, hm, fun x hx => ?_⟩
    · have hr : j % size < size := Nat.mod_lt _ hs
      have hj' : j = j / size * size + j % size := by have := Nat.div_add_mod j size; rw [Nat.mul_comm] at this; omega
      rw [hj', flatMap_at f size hf xs _ _ hr] at hj
      cases hxi : xs[j / size]? with
      | none => rw [hxi] at hj; cases hj
      | some x =>
        rw [hxi] at hj
        obtain ⟨-, hlen, hcell⟩ := World.cells?_some (h2 _ _ hxi).1
        have hc1 := hcell (j % size) hr
        simp only [Option.bind_some] at hj
        rw [hj] at hc1
        have h00 : ∃ x0, xs[0]? = some x0 := ⟨_, List.getElem?_eq_getElem (Nat.lt_of_le_of_lt (Nat.zero_le _) (List.getElem?_eq_some_iff.1 hxi).1)⟩
        obtain ⟨x0, hx0⟩ := h00
        obtain ⟨-, hlen0, hcell0⟩ := World.cells?_some (h2 0 x0 hx0).1
        have hc0 := hcell0 0 hs
        have hlt0 : 0 < (f x0).length := by rw [hf]; exact hs
        rw [List.getElem?_eq_getElem hlt0] at hc0
        have hsp := World.cell?_spot hc0
        obtain ⟨b, off, sp⟩ := ad
        have hsp' : sp = none := by simpa [Addr.add] using hsp
        subst hsp'
        refine ⟨b, off, rfl, ?_⟩
        rw [Addr.add_lit, Addr.add_lit] at hc1
        rw [hj', ← Nat.add_assoc]
        exact hc1
    · obtain ⟨i, hi⟩ := List.getElem?_of_mem hx
      exact (h2 i x hi).2

theorem flatMap_one (xs : List Int) : xs.flatMap (fun x : Int => [Value.int .i64 x]) = xs.map (Value.int .i64) := by
  induction xs with
  | nil => rfl
  | cons x xs ih => rw [List.flatMap_cons, ih]; rfl
/-! ### The kinds of slices that the laws take -/
theorem see_ints {H : Type} {enc : TypeId × Value → H} {W : World} {a : Option Addr} {len cap : Nat} {d : DataW H} {p : List MemPlace}
    (h : DataW.Trod enc Try.prog W 0 (fun _ => true) true 30 (.slice a len cap) d p) :
    ∃ xs : List Int, Sees W 1 a len (xs.map (Value.int .i64)) ∧ xs.length = len ∧ len ≤ cap ∧ cap ≤ maxLen ∧ ∀ x ∈ xs, -9223372036854775808 ≤ x ∧ x ≤ 9223372036854775807 := by
  obtain ⟨xs, h1, h2⟩ := see_gen 1 (fun x : Int => [Value.int .i64 x]) (fun x => -9223372036854775808 ≤ x ∧ x ≤ 9223372036854775807) Try.underlying30 (by kernel_rfl) (by decide) (fun _ => rfl)
    (fun n cs D hr => by
      obtain ⟨x, rfl, -, hw⟩ := DataW.trod_int Try.underlying3 hr
      exact ⟨x, rfl, range_of_i64 hw⟩) h
  refine ⟨xs, ?_, h2⟩
  rw [← flatMap_one]
  exact h1
end Go.Proofs.Ytdaenajhgbagdaa
