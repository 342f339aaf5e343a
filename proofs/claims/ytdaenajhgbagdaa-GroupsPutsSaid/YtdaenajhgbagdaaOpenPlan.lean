/-
  A plan argument, opened: its tables, its picks.
-/
import Derived.Test.YtdaenajhgbagdaaOpenX
import Derived.Test.YtdaenajhgbagdaaGrpX
namespace Go.Proofs.Ytdaenajhgbagdaa
open Go.ChangeShapes Go.WideShapes Go.ChangeAt Go.RowKit Go.Deep
set_option linter.unusedVariables false
set_option linter.unusedSimpArgs false

theorem see_table {H : Type} {enc : TypeId × Value → H} {W : World} {a : Option Addr} {len cap : Nat} {d : DataW H} {p : List MemPlace}
    (h : DataW.Trod enc Try.prog W 0 (fun _ => true) true 29 (.slice a len cap) d p) (hwt : ∀ m ∈ d.weights Try.prog 29, m ≤ reachBytes) :
    ∃ T : List (List Int), SeesM W a len (T.map intVals) ∧ T.length = len ∧ len ≤ 17592186043904 ∧ ∀ t ∈ T, t.length ≤ 17592186043904 := by
  obtain ⟨xs, h1, h2, h3, h4, h5, h6⟩ := see_genW 1 (fun x : Option Addr × Nat × Nat × List Int => [Value.slice x.1 x.2.1 x.2.2.1])
    (fun x => Sees W 1 x.1 x.2.1 (intVals x.2.2.2) ∧ x.2.2.2.length = x.2.1 ∧ x.2.1 ≤ x.2.2.1 ∧ x.2.2.1 ≤ maxLen ∧ x.2.1 ≤ 17592186043904) Try.underlying29 (by kernel_rfl) (by decide) (fun _ => rfl)
    (fun n cs D hr hw => by
      have key : ∃ a l c, cs = [.slice a l c] := by
        rcases open_slice Try.underlying30 hr with ⟨hcs, -⟩ | ⟨ad, l, c, m, n', D', Pl, hcs, -⟩
        · exact ⟨_, _, _, hcs⟩
        · exact ⟨_, _, _, hcs⟩
      obtain ⟨a, l, c, rfl⟩ := key
      obtain ⟨xs, h1, h2, h3, h4, h5, -⟩ := see_inty (a := a) (len := l) (cap := c) (d := D.1) (p := D.2) ⟨n, hr⟩ hw
      exact ⟨(a, l, c, xs), rfl, h1, h2, h3, h4, h5⟩) hwt h
  have e3 : Try.prog.bytesOf 30 = 24 := by kernel_rfl
  rw [e3] at h5
  simp only [reachBytes] at h5
  refine ⟨xs.map fun x => x.2.2.2, ⟨_, h1, ?_, ?_⟩, by simp [h2], by omega, ?_⟩
  · rw [flatMap_len _ 1 (fun _ => rfl), List.length_map, List.length_map, Nat.mul_one]
  · intro i u r hu hr
    rw [List.map_map, List.getElem?_map] at hr
    cases hx : xs[i]? with
    | none => rw [hx] at hr; cases hr
    | some x =>
      rw [hx] at hr
      injection hr with hr
      have hr2 : intVals x.2.2.2 = r := hr
      have e := flatMap_at (fun x : Option Addr × Nat × Nat × List Int => [Value.slice x.1 x.2.1 x.2.2.1]) 1 (fun _ => rfl) xs i 0 (by decide)
      rw [hx, Nat.mul_one, Nat.add_zero, hu] at e
      obtain rfl : u = .slice x.1 x.2.1 x.2.2.1 := by simpa using e
      obtain ⟨g1, g2, g3, g4, -⟩ := h6 x (List.mem_of_getElem? hx)
      subst hr2
      rw [intVals_length, g2]
      exact ⟨_, _, rfl, g1, g3, g4⟩
  · intro t ht
    obtain ⟨x, hx, rfl⟩ := List.mem_map.1 ht
    obtain ⟨-, e1, -, -, e2⟩ := h6 x hx
    omega
set_option maxRecDepth 100000 in
theorem see_plan {H : Type} {enc : TypeId × Value → H} {W : World} {base : Nat} {v : Value} {d : DataW H} {p : List MemPlace} (hv : Value.okWide Try.prog W .any base 32 v)
    (h : DataW.Trod enc Try.prog W 0 (fun _ => true) true 32 v d p) (hwt : ∀ m ∈ d.weights Try.prog 32, m ≤ reachBytes) :
    ∃ (aT aP : Option Addr) (cT cP : Nat) (T : List (List Int)) (P : List Int), v = planV aT T.length cT aP P.length cP ∧ PlanAt W aT aP cT cP T P := by
  obtain ⟨cs, rfl, hsz⟩ := okWide_struct Try.underlying32 hv
  have e2 : Try.prog.cellsOf 32 = 2 := by kernel_rfl
  rw [e2] at hsz
  obtain ⟨c0, c1, rfl⟩ : ∃ c0 c1, cs = #[c0, c1] := by
    obtain ⟨l⟩ := cs
    match l, hsz with
    | [c0, c1], _ => exact ⟨c0, c1, rfl⟩
  obtain ⟨fuel, hf⟩ := h
  simp only [Value.cells] at hf
  obtain ⟨y0, y1, m, hx, hl, hy0, hy1⟩ := trod_struct2 Try.underlying32 hf
  injection hx with hd hp
  subst hd hp
  have f1 : Try.prog.cellsOf 29 = 1 := by kernel_rfl
  have f2 : Try.prog.cellsOf 30 = 1 := by kernel_rfl
  simp [f1] at hy0
  simp [f2] at hy1
  have k0 : ∃ a l c, c0 = .slice a l c := by
    rcases open_slice Try.underlying29 hy0 with ⟨hcs, -⟩ | ⟨ad, l, c, m, n', D', Pl, hcs, -⟩
    · exact ⟨_, _, _, by simpa using hcs⟩
    · exact ⟨_, _, _, by simpa using hcs⟩
  have k1 : ∃ a l c, c1 = .slice a l c := by
    rcases open_slice Try.underlying30 hy1 with ⟨hcs, -⟩ | ⟨ad, l, c, m, n', D', Pl, hcs, -⟩
    · exact ⟨_, _, _, by simpa using hcs⟩
    · exact ⟨_, _, _, by simpa using hcs⟩
  obtain ⟨aT, nT, cT, rfl⟩ := k0
  obtain ⟨aP, nP, cP, rfl⟩ := k1
  obtain ⟨T, s1, rfl, s3, s4⟩ := see_table (a := aT) (len := nT) (cap := cT) (d := y0.1) (p := y0.2) ⟨m, hy0⟩ (fun n hn => hwt n (by simp [DataW.weights, DataW.weightsEach, Try.underlying32, hn]))
  obtain ⟨P, q1, rfl, q3, q4, q5, -⟩ := see_inty (a := aP) (len := nP) (cap := cP) (d := y1.1) (p := y1.2) ⟨m, hy1⟩ (fun n hn => hwt n (by simp [DataW.weights, DataW.weightsEach, Try.underlying32, hn]))
  exact ⟨aT, aP, cT, cP, T, P, rfl, ⟨s1, q1, s3, q5, s4⟩⟩
end Go.Proofs.Ytdaenajhgbagdaa
