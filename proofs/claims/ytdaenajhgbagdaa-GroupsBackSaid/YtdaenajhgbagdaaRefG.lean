/-
  The walks of layer 11's references: turned, Bits, Show.
-/
import Derived.Test.YtdaenajhgbagdaaGrpX
import Derived.Test.YtdaenajhgbagdaaWriteA
import Derived.Test.YtdaenajhgbagdaaDPut
namespace Go.Proofs.Ytdaenajhgbagdaa
open Go.RowKit
set_option linter.unusedVariables false
set_option linter.unusedSimpArgs false

theorem erase_next {l : List Nat} {i p x : Nat} (hx : l[i]? = some x) (hne : i ≠ p) : (l.take (i + 1)).eraseIdx p = (l.take i).eraseIdx p ++ [x] := by
  have hl := (List.getElem?_eq_some_iff.1 hx).1
  have hlen : (l.take i).length = i := by rw [List.length_take]; omega
  rw [List.take_add_one, hx]
  show (l.take i ++ [x]).eraseIdx p = _
  by_cases h : p < i
  · rw [List.eraseIdx_append_of_lt_length (by omega)]
  · rw [List.eraseIdx_append_of_length_le (by omega), List.eraseIdx_of_length_le (show (l.take i).length ≤ p by omega), List.eraseIdx_of_length_le (show [x].length ≤ p - (l.take i).length by simp; omega)]
theorem erase_skip {l : List Nat} {p x : Nat} (hx : l[p]? = some x) : (l.take (p + 1)).eraseIdx p = (l.take p).eraseIdx p := by
  have hl := (List.getElem?_eq_some_iff.1 hx).1
  have hlen : (l.take p).length = p := by rw [List.length_take]; omega
  rw [List.take_add_one, hx]
  show (l.take p ++ [x]).eraseIdx p = _
  rw [List.eraseIdx_append_of_length_le (by omega), hlen, Nat.sub_self, List.eraseIdx_of_length_le (show (l.take p).length ≤ p by omega)]
  simp
theorem bis_oneC (l : List Bool) : ∀ u ∈ bis l, u.oneCell' = true := by
  intro u hu
  obtain ⟨b, -, rfl⟩ := List.mem_map.1 hu
  rfl
theorem Row.one (w : World) (u : Value) (e : TypeId) : Row (w.alloc (.cells #[u] e)) e (.slice (some ⟨w.heap.size, 0, none⟩) 1 1) [u] :=
  ⟨rfl, .inr ⟨w.heap.size, 1, #[u], rfl, Nat.zero_le _, heap_alloc_new w _, Nat.le_refl _, by simp [maxLen], rfl, rfl⟩⟩
/-- What a function leaves that answers a list of its own. -/
def OwnPost (l : List Nat) (w : World) (e : Ending) (w' : World) : Prop :=
  ∃ a c, e = .returned (.slice a l.length c) ∧ Row w' 3 (.slice a l.length c) (natVals l) ∧ Kept [] w w' ∧ Fresh w.heap.size (footA a)
def TurnGI (w0 : World) (l : List Nat) (p x : Nat) (k : Nat) (v5 v : Value) (wr : World) : Prop :=
  ∃ (i : Nat) (out : List Nat) (a : Option Addr) (c : Nat), k = l.length - i ∧ i ≤ l.length ∧ v = .int .i64 (i : Nat) ∧ v5 = .slice a out.length c ∧ out.length ≤ i + 1 ∧ Hid (out = x :: (l.take i).eraseIdx p) ∧ Hid (Row wr 3 (.slice a out.length c) (natVals out)) ∧ Hid (Kept [] w0 wr) ∧ Hid (Fresh w0.heap.size (footA a))
set_option maxHeartbeats 1000000 in
theorem rturnG_any (a : Option Addr) (c p : Nat) (l : List Nat) (w : World) (h : Sees w 1 a l.length (natVals l)) (hp : p < l.length) (hl : l.length ≤ 1000) :
    Calls Try.prog 81 #[.slice a l.length c, .int .i64 p] w (OwnPost (K.turned l p) w) := by
  obtain ⟨b, off, rfl, hcells⟩ := h.at (by rw [natVals_length]; omega)
  obtain ⟨x, hx⟩ : ∃ x, l[p]? = some x := ⟨_, List.getElem?_eq_getElem hp⟩
  have c0 := hcells p _ (nv_get hx)
  have hpl : (p : Int) < (l.length : Int) := by omega
  have HS := Lib.hid h
  have HX := Lib.hid hx
  have HT := Lib.hid (show K.turned l p = x :: l.eraseIdx p by unfold K.turned; rw [List.getD, hx]; rfl)
  clear hcells hx h
  go_enter Try.func81, Try.ntmps81
  go_wp2_with fail
  have hrow0 : Row (w.alloc (.cells #[.int .i64 (x : Int)] 3)) 3 (.slice (some ⟨w.heap.size, 0, none⟩) [x].length 1) (natVals [x]) := Row.one w _ _
  go_loopg [5, 6] l.length (fun k v5 v wr => TurnGI w l p x k v5 v wr)
  case atStart => exact ⟨0, [x], some ⟨w.heap.size, 0, none⟩, 1, by omega, by omega, rfl, rfl, by simp, Lib.hid (by simp), Lib.hid hrow0, Lib.hid ((Kept.refl _ _).alloc _), Lib.hid (by simp [Fresh, footA])⟩
  case round =>
    clear hrow0 c0
    obtain ⟨i, out, ao, co, hk, hi, rfl, rfl, hol, HO, HR, HK, HF⟩ := hrel
    have Hk := Lib.hid hk
    clear hk
    by_cases hlt : i < l.length
    · have hli : (i : Int) < (l.length : Int) := by omega
      obtain ⟨y, hy⟩ : ∃ y, l[i]? = some y := ⟨_, List.getElem?_eq_getElem hlt⟩
      have d0 := (HS.out.kept0 HK.out).2 i _ (nv_get hy)
      obtain ⟨b', o', he, d0⟩ := d0
      injection he with he
      injection he with he1 he2
      subst he1; subst he2
      have HY := Lib.hid hy
      clear hy
      by_cases hip : i = p
      · subst hip
        have g1 : ((i : Int) != (i : Int)) = false := by simp
        go_wp2_with fail
        go_roundg (l.length - (i + 1))
        case measure => have := Hk.out; omega
        case rel => exact ⟨i + 1, out, ao, co, rfl, by omega, by simp, rfl, by omega, Lib.hid (by rw [HO.out, erase_skip HY.out]), HR, HK, HF⟩
      · have g1 : ((i : Int) != (p : Int)) = true := by simp; omega
        have hrow := HR.out
        have L1 : (natVals out).length + 1 ≤ maxLen := by rw [natVals_length]; simp only [maxLen]; omega
        have L2 : ((natVals out).length + 1) * 8 ≤ 140737488355328 := by rw [natVals_length]; omega
        go_wp2_with ((at_builtin; refine wp_appL _ rfl _ _ 30 rfl 3 (.int .i64 0) 8 Try.underlying30 Try.infoInt rfl _ _ [.int .i64 (y : Int)] 1 rfl rfl rfl rfl (by simp [Value.oneCell']) hrow L1 L2 ?_; intro a5 cap5 w5 hrow5 hk5 hg5))
        go_roundg (l.length - (i + 1))
        case measure => have := Hk.out; omega
        case rel =>
          have e1 : natVals out ++ [Value.int .i64 (y : Int)] = natVals (out ++ [y]) := by simp [natVals]
          have e2 : (natVals out).length + 1 = (out ++ [y]).length := by rw [natVals_length]; simp
          rw [e1, e2] at hrow5
          have hk6 : Kept (foot (.slice ao out.length co)) wr w5 := hk5
          have hg6 : Grew wr.heap.size (foot (.slice ao out.length co)) (foot (.slice a5 ((natVals out).length + 1) cap5)) := hg5
          rw [foot_slice] at hk6
          rw [foot_slice, foot_slice] at hg6
          refine ⟨i + 1, out ++ [y], a5, cap5, rfl, by omega, by simp, by rw [e2], by simp; omega, Lib.hid (by rw [HO.out, erase_next HY.out hip]; rfl), Lib.hid hrow5, Lib.hid (HK.out.new hk6 HF.out), Lib.hid (HF.out.grow hg6 HK.out.size)⟩
    · obtain rfl : i = l.length := by omega
      have hll : ¬ (l.length : Int) < (l.length : Int) := by omega
      have he := HO.out
      rw [List.take_length] at he
      subst he
      go_wp2_with fail
      go_ret
      rw [HT.out]
      exact ⟨ao, co, rfl, HR.out, HK.out, HF.out⟩
end Go.Proofs.Ytdaenajhgbagdaa
