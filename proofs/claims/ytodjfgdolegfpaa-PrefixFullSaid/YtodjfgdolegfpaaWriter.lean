/-
  The walks of the writer's small functions (layer 1): NewWriter, Len, Text, Put refused.
-/
import Derived.Test.YtodjfgdolegfpaaPut
namespace Go.Proofs.Ytodjfgdolegfpaa
open Go.RowKit
set_option linter.unusedVariables false
set_option linter.unusedSimpArgs false

theorem newWriter_ok (w : World) : Calls Try.prog 28 #[] w fun e w' => e = .returned (.pointer (some ⟨w.heap.size, 0, none⟩)) ∧ w' = w.alloc (.cells #[.slice none 0 0, .int .i64 0] 84) := by
  go_enter Try.func28, Try.ntmps28
  go_wp2
  go_ret
  exact ⟨rfl, rfl⟩
theorem Wr.new (w : World) : Wr (w.alloc (.cells #[.slice none 0 0, .int .i64 0] 84)) w.heap.size (.slice none 0 0) [] :=
  ⟨heap_alloc_new w _, Row.nil _ _, by simp [foot, Value.ownBlock]⟩
theorem Wr.kept {S : List Nat} {w w' : World} {b : Nat} {o : Value} {bs : List Bool} (h : Wr w b o bs) (hk : Kept S w w') (ha : Apart (b :: foot o) S) : Wr w' b o bs :=
  ⟨hk.heap h.1 (ha b (by simp)), h.2.1.kept hk (fun x hx => ha x (by simp [hx])), h.2.2⟩
theorem Wr.lt {w : World} {b : Nat} {o : Value} {bs : List Bool} (h : Wr w b o bs) : ∀ x ∈ b :: foot o, x < w.heap.size := by
  intro x hx
  rcases List.mem_cons.1 hx with rfl | hx
  · exact lt_of_block h.1
  · exact h.2.1.lt x hx
/-- What NewWriter leaves. -/
def NewW (w : World) (e : Ending) (w' : World) : Prop := ∃ b, e = .returned (.pointer (some ⟨b, 0, none⟩)) ∧ Wr w' b (.slice none 0 0) [] ∧ Kept [] w w' ∧ Fresh w.heap.size (b :: foot (.slice none 0 0))
theorem newWriter_new (w : World) : Calls Try.prog 28 #[] w (NewW w) :=
  (newWriter_ok w).mono fun e w' ⟨he, hw⟩ => ⟨_, he, by rw [hw]; exact Wr.new w, by rw [hw]; exact (Kept.refl _ _).alloc _, by simp [Fresh, foot, Value.ownBlock]⟩
/-- What Put leaves: v's n lowest bits more. -/
def PutPost (w : World) (b : Nat) (o0 : Value) (bs : List Bool) (e : Ending) (w' : World) : Prop :=
  e = .returned (.int .i64 0) ∧ ∃ o, Wr w' b o bs ∧ Kept (b :: foot o0) w w' ∧ Grew w.heap.size (b :: foot o0) (b :: foot o)
theorem put_put (b : Nat) (v n : Int) (o0 : Value) (bs : List Bool) (w : World) (hn0 : 0 ≤ n) (hn : n ≤ 64) (hv0 : 0 ≤ v) (hv : v.toNat < 2 ^ n.toNat) (hm : bs.length ≤ 1000000000000) (hW : Wr w b o0 bs) :
    Calls Try.prog 29 #[.pointer (some ⟨b, 0, none⟩), .int .u64 v, .int .i64 n] w (PutPost w b o0 (bs ++ K.low v.toNat n.toNat)) := by
  obtain ⟨n, rfl⟩ := Int.eq_ofNat_of_zero_le hn0
  obtain ⟨v, rfl⟩ := Int.eq_ofNat_of_zero_le hv0
  refine (put_ok b v n o0 bs w (by omega) (by simpa using hv) hm hW).mono fun e w' ⟨he, o, h1, h2, h3⟩ => ⟨he, o, by simpa using h1, h2, fun x hx => ?_⟩
  rcases List.mem_cons.1 hx with rfl | hx
  · exact .inl (by simp)
  · exact (h3 x hx).imp (List.mem_cons_of_mem _) id
theorem len_nil (w : World) : Calls Try.prog 31 #[.pointer none] w fun e w' => e = .returned (.int .i64 0) ∧ w = w' := by
  go_enter Try.func31, Try.ntmps31
  go_wp2
  go_ret
  exact ⟨rfl, rfl⟩
theorem len_ok (w : World) (b : Nat) (o : Value) (bs : List Bool) (h : Wr w b o bs) : Calls Try.prog 31 #[.pointer (some ⟨b, 0, none⟩)] w fun e w' => e = .returned (.int .i64 bs.length) ∧ w = w' := by
  have c1 : w.cell? ⟨b, 1, none⟩ = some (.int .i64 bs.length) := cell_of_row w b 1 _ _ _ h.1
  clear h
  go_enter Try.func31, Try.ntmps31
  go_wp2
  go_ret
  exact ⟨rfl, rfl⟩
theorem text_nil (w : World) : Calls Try.prog 30 #[.pointer none] w fun e w' => e = .returned (.string ⟨#[]⟩) ∧ w = w' := by
  go_enter Try.func30, Try.ntmps30
  go_wp2
  go_ret
  exact ⟨rfl, rfl⟩
theorem text_none (w : World) : (convert 82 9 (.slice none 0 0)).run Try.prog w = .ok (.string ⟨#[]⟩) w := by kernel_rfl
/-- 'string(b)' of an owned row of bytes. -/
theorem Row.text {w : World} {v : Value} {l : List UInt8} (h : Row w 5 v (u8s l)) : (convert 82 9 v).run Try.prog w = .ok (.string ⟨l.toArray⟩) w := by
  rcases h.2 with ⟨rfl, h2⟩ | ⟨g, cap, cur, rfl, hb, hg, hnc, hcm, hcs, ht⟩
  · have : l = [] := by simpa [u8s] using h2
    subst this
    exact text_none w
  · have hown : w.ownsRow 0 5 1 (.slice (some ⟨g, 0, none⟩) (u8s l).length cap) (u8s l).length (u8s l) := h
    have hl : (u8s l).length = l.length := by simp [u8s]
    rw [hl] at hown ⊢
    refine run_convert_bytes_back w _ _ _ ⟨g, 0, none⟩ cap l Try.underlying82 Try.underlying5 Try.underlying9 fun j hj => ?_
    rw [Addr.add_lit, Nat.zero_add, hown.cellAt j (by omega)]
    simp [u8s, hj]
theorem text_ok (w : World) (b : Nat) (o : Value) (bs : List Bool) (h : Wr w b o bs) : Calls Try.prog 30 #[.pointer (some ⟨b, 0, none⟩)] w fun e w' => e = .returned (.string ⟨(K.pack bs).toArray⟩) ∧ w = w' := by
  have c0 : w.cell? ⟨b, 0, none⟩ = some o := cell_of_row w b 0 _ _ _ h.1
  have hc := Row.text h.2.1
  clear h
  go_enter Try.func30, Try.ntmps30
  go_wp2
  go_ret
  exact ⟨rfl, rfl⟩
theorem put_nil (v n : Int) (w : World) : Calls Try.prog 29 #[.pointer none, .int .u64 v, .int .i64 n] w fun e w' => e = .returned (.int .i64 1) ∧ w = w' := by
  go_enter Try.func29, Try.ntmps29
  go_wp2
  go_ret
  exact ⟨rfl, rfl⟩
theorem put_arg (b : Nat) (v : Nat) (n : Int) (w : World) (hv : v < 18446744073709551616) (hn : n < 0 ∨ 64 < n ∨ ¬ v < 2 ^ n.toNat) :
    Calls Try.prog 29 #[.pointer (some ⟨b, 0, none⟩), .int .u64 v, .int .i64 n] w fun e w' => e = .returned (.int .i64 2) ∧ w = w' := by
  by_cases h : n < 0
  · have g1 : decide (n < 0) = true := by simpa using h
    go_enter Try.func29, Try.ntmps29
    go_wp2
    go_ret
    exact ⟨rfl, rfl⟩
  · have g1 : decide (n < 0) = false := by simpa using h
    by_cases h64 : 64 < n
    · have g2 : decide (64 < n) = true := by simpa using h64
      clear hn
      go_enter Try.func29, Try.ntmps29
      go_wp2
      go_ret
      exact ⟨rfl, rfl⟩
    · have g2 : decide (64 < n) = false := by simpa using h64
      obtain ⟨m, rfl⟩ := Int.eq_ofNat_of_zero_le (show 0 ≤ n by omega)
      have hnv : ¬ v < 2 ^ m := by
        rcases hn with hn | hn | hn
        · omega
        · omega
        · simpa using hn
      have h63 : m < 64 := by
        rcases Nat.lt_or_ge m 64 with h | h
        · exact h
        · have : 2 ^ 64 ≤ 2 ^ m := Nat.pow_le_pow_right (by decide) h
          omega
      have g3 : decide ((m : Int) < 64) = true := by simp; omega
      have g4 : ((v : Int) / 2 ^ m != 0) = true := by
        have : 0 < v / 2 ^ m := Nat.div_pos (by omega) (Nat.pow_pos (by decide))
        rw [show ((v : Int) / 2 ^ m) = ((v / 2 ^ m : Nat) : Int) by norm_cast]
        generalize v / 2 ^ m = z at this ⊢
        simp; omega
      clear hn hnv hv
      go_enter Try.func29, Try.ntmps29
      go_wp2
      go_ret
      exact ⟨rfl, rfl⟩
end Go.Proofs.Ytodjfgdolegfpaa
