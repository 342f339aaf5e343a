/-
  A slice argument, opened, with the weights of what it holds. A slice of ints, opened, its length bounded by its bytes. A slice of ints, opened, its length bounded by its bytes; a slice without an array has no capacity.
-/
import Derived.Test.YtdaenajhgbagdaaOpen
namespace Go.Proofs.Ytdaenajhgbagdaa
open Go.ChangeShapes Go.WideShapes Go.ChangeAt Go.RowKit Go.Deep
set_option linter.unusedVariables false
set_option linter.unusedSimpArgs false

theorem weights_mem_all {H : Type} {P : Program} {e : TypeId} : ∀ {ds : List (DataW H)} {d : DataW H}, d ∈ ds → ∀ n ∈ d.weights P e, n ∈ DataW.weightsAll P e ds
  | d0 :: ds, d, h, n, hn => by
    simp only [DataW.weightsAll, List.mem_append]
    rcases List.mem_cons.1 h with rfl | h
    · exact .inl hn
    · exact .inr (weights_mem_all h n hn)

/-- The like, with the weights of the elements. -/
theorem see_genW {H : Type} {enc : TypeId × Value → H} {W : World} {t e : TypeId} {a : Option Addr} {len cap : Nat} {d : DataW H} {p : List MemPlace} {α : Type} (size : Nat) (f : α → List Value) (good : α → Prop)
    (ht : Try.prog.underlying t = some (.slice e)) (hc : Try.prog.cellsOf e = size) (hs : 0 < size) (hf : ∀ x, (f x).length = size)
    (hel : ∀ n cs D, DataW.trod enc Try.prog W 0 (fun _ => true) true n e cs = some D → (∀ m ∈ D.1.weights Try.prog e, m ≤ reachBytes) → ∃ x, cs = f x ∧ good x)
    (hwt : ∀ m ∈ d.weights Try.prog t, m ≤ reachBytes)
    (h : DataW.Trod enc Try.prog W 0 (fun _ => true) true t (.slice a len cap) d p) :
    ∃ xs : List α, Sees W size a len (xs.flatMap f) ∧ xs.length = len ∧ len ≤ cap ∧ cap ≤ maxLen ∧ len * Try.prog.bytesOf e ≤ reachBytes ∧ ∀ x ∈ xs, good x := by
  obtain ⟨fuel, hr⟩ := h
  simp only [Value.cells] at hr
  rcases open_slice ht hr with ⟨hcs, -⟩ | ⟨ad, l, c, m, n, D, Pl, hcs, -, hl, hm, hmm, hdx, hx⟩
  · simp only [List.cons.injEq, Value.slice.injEq, and_true] at hcs
    obtain ⟨rfl, rfl, rfl⟩ := hcs
    exact ⟨[], ⟨by simp, fun j u hj => by simp at hj⟩, rfl, Nat.le_refl _, Nat.zero_le _, by simp, fun x hx => by simp at hx⟩
  · simp only [List.cons.injEq, Value.slice.injEq, and_true] at hcs
    obtain ⟨rfl, rfl, rfl⟩ := hcs
    simp only [if_true] at hmm
    subst hmm
    injection hdx with hdx _
    subst hdx
    have hwl := hwt ((((List.range len).map D).length + ((List.range (m - len)).map fun j => D (len + j)).length) * Try.prog.bytesOf e) (by simp [DataW.weights, ht])
    have hwe : ∀ k, k < len → ∀ m ∈ (D k).weights Try.prog e, m ≤ reachBytes := fun k hk m hm => hwt m (by
      simp only [DataW.weights, ht, List.mem_cons, List.mem_append]
      exact .inr (.inl (weights_mem_all (List.mem_map.2 ⟨k, List.mem_range.2 hk, rfl⟩) _ hm)))
    have key : ∀ k, k ≤ len → ∃ xs : List α, xs.length = k ∧ ∀ i x, xs[i]? = some x → W.cells? 0 (ad.add (i * size)) size = some (f x) ∧ good x := by
      intro k
      induction k with
      | zero => exact fun _ => ⟨[], rfl, fun i x hi => by simp at hi⟩
      | succ k ih =>
        intro hk
        obtain ⟨xs, h1, h2⟩ := ih (by omega)
        obtain ⟨cs', h3, h4⟩ := hx k (by omega)
        obtain ⟨x, rfl, hg⟩ := hel _ _ _ h4 (hwe k (by omega))
        rw [hc] at h3
        refine ⟨xs ++ [x], by simp [h1], fun i y hi => ?_⟩
        rcases Nat.lt_or_ge i xs.length with hlt | hge
        · rw [List.getElem?_append_left hlt] at hi; exact h2 i y hi
        · rw [List.getElem?_append_right hge] at hi
          have hi0 : i - xs.length = 0 := by
            have := (List.getElem?_eq_some_iff.1 hi).1
            simp at this; omega
          rw [hi0] at hi
          simp at hi
          subst hi
          rw [show i = k by omega]
          exact ⟨h3, hg⟩
    obtain ⟨xs, h1, h2⟩ := key len (Nat.le_refl _)
    refine ⟨xs, ⟨by rw [flatMap_len f size hf, h1], fun j u hj => ?_⟩, h1, hl, hm, ?_, fun x hx => ?_⟩
    · have hr : j % size < size := Nat.mod_lt _ hs
      have hj' : j = j / size * size + j % size := by have := Nat.div_add_mod j size; rw [Nat.mul_comm] at this; omega
      rw [hj', flatMap_at f size hf xs _ _ hr] at hj
      cases hxi : xs[j / size]? with
      | none => rw [hxi] at hj; cases hj
      | some x =>
        rw [hxi] at hj
        obtain ⟨-, hlen, hcell⟩ := World.cells?_some (h2 _ _ hxi).1
        have hc1 := hcell (j % size) hr
        simp only [Option.bind_some] at hj
        rw [hj] at hc1
        have h00 : ∃ x0, xs[0]? = some x0 := ⟨_, List.getElem?_eq_getElem (Nat.lt_of_le_of_lt (Nat.zero_le _) (List.getElem?_eq_some_iff.1 hxi).1)⟩
        obtain ⟨x0, hx0⟩ := h00
        obtain ⟨-, hlen0, hcell0⟩ := World.cells?_some (h2 0 x0 hx0).1
        have hc0 := hcell0 0 hs
        have hlt0 : 0 < (f x0).length := by rw [hf]; exact hs
        rw [List.getElem?_eq_getElem hlt0] at hc0
        have hsp := World.cell?_spot hc0
        obtain ⟨b, off, sp⟩ := ad
        have hsp' : sp = none := by simpa [Addr.add] using hsp
        subst hsp'
        refine ⟨b, off, rfl, ?_⟩
        rw [Addr.add_lit, Addr.add_lit] at hc1
        rw [hj', ← Nat.add_assoc]
        exact hc1
    · refine Nat.le_trans (Nat.mul_le_mul_right _ ?_) hwl
      simp only [List.length_map, List.length_range]
      omega
    · obtain ⟨i, hi⟩ := List.getElem?_of_mem hx
      exact (h2 i x hi).2

end Go.Proofs.Ytdaenajhgbagdaa
namespace Go.Proofs.Ytdaenajhgbagdaa
open Go.ChangeShapes Go.WideShapes Go.ChangeAt Go.RowKit Go.Deep
set_option linter.unusedVariables false
set_option linter.unusedSimpArgs false

theorem see_inty {H : Type} {enc : TypeId × Value → H} {W : World} {a : Option Addr} {len cap : Nat} {d : DataW H} {p : List MemPlace}
    (h : DataW.Trod enc Try.prog W 0 (fun _ => true) true 30 (.slice a len cap) d p) (hwt : ∀ m ∈ d.weights Try.prog 30, m ≤ reachBytes) :
    ∃ xs : List Int, Sees W 1 a len (xs.map (Value.int .i64)) ∧ xs.length = len ∧ len ≤ cap ∧ cap ≤ maxLen ∧ len ≤ 17592186043904 ∧ ∀ x ∈ xs, -9223372036854775808 ≤ x ∧ x ≤ 9223372036854775807 := by
  obtain ⟨xs, h1, h2, h3, h4, h5, h6⟩ := see_genW 1 (fun x : Int => [Value.int .i64 x]) (fun x => -9223372036854775808 ≤ x ∧ x ≤ 9223372036854775807) Try.underlying30 (by kernel_rfl) (by decide) (fun _ => rfl)
    (fun n cs D hr _ => by
      obtain ⟨x, rfl, -, hw⟩ := DataW.trod_int Try.underlying3 hr
      exact ⟨x, rfl, range_of_i64 hw⟩) hwt h
  rw [flatMap_one] at h1
  refine ⟨xs, h1, h2, h3, h4, ?_, h6⟩
  have e3 : Try.prog.bytesOf 3 = 8 := by kernel_rfl
  rw [e3] at h5
  simp only [reachBytes] at h5
  omega
end Go.Proofs.Ytdaenajhgbagdaa
namespace Go.Proofs.Ytdaenajhgbagdaa
open Go.ChangeShapes Go.WideShapes Go.ChangeAt Go.RowKit Go.Deep
set_option linter.unusedVariables false
set_option linter.unusedSimpArgs false

theorem trod_nil {H : Type} {enc : TypeId × Value → H} {W : World} {t e : TypeId} {a : Option Addr} {len cap : Nat} {d : DataW H} {p : List MemPlace} (ht : Try.prog.underlying t = some (.slice e))
    (h : DataW.Trod enc Try.prog W 0 (fun _ => true) true t (.slice a len cap) d p) : a = none → cap = 0 := by
  obtain ⟨fuel, hr⟩ := h
  simp only [Value.cells] at hr
  rcases open_slice ht hr with ⟨hcs, -⟩ | ⟨ad, l, c, m, n, D, Pl, hcs, -, hl, hm, hmm, hdx, hx⟩
  · simp only [List.cons.injEq, Value.slice.injEq, and_true] at hcs
    exact fun _ => hcs.2.2
  · simp only [List.cons.injEq, Value.slice.injEq, and_true] at hcs
    intro h0
    rw [h0] at hcs
    exact absurd hcs.1 (by simp)
theorem see_intn {H : Type} {enc : TypeId × Value → H} {W : World} {a : Option Addr} {len cap : Nat} {d : DataW H} {p : List MemPlace}
    (h : DataW.Trod enc Try.prog W 0 (fun _ => true) true 30 (.slice a len cap) d p) (hwt : ∀ m ∈ d.weights Try.prog 30, m ≤ reachBytes) :
    ∃ xs : List Int, Sees W 1 a len (xs.map (Value.int .i64)) ∧ xs.length = len ∧ len ≤ cap ∧ cap ≤ maxLen ∧ len ≤ 17592186043904 ∧ (∀ x ∈ xs, -9223372036854775808 ≤ x ∧ x ≤ 9223372036854775807) ∧ (a = none → cap = 0) := by
  obtain ⟨xs, h1, h2, h3, h4, h5, h6⟩ := see_inty h hwt
  exact ⟨xs, h1, h2, h3, h4, h5, h6, trod_nil Try.underlying30 h⟩
end Go.Proofs.Ytdaenajhgbagdaa
