/-
  Of the sort's functions at rotate's compare: the walks of reverseRange, xorshift's Next, nextPowerOfTwo, breakPatterns.
-/
import Derived.Test.YtaeppgooenbfiaaRotS1
import Derived.Sort.LotB
namespace Go.Proofs.Ytaeppgooenbfiaa
open Go.RowKit Go.Sort
set_option linter.unusedVariables false
set_option linter.unusedSimpArgs false

/-- A part permuted. -/
def PermPost (w0 : World) (g c n : Nat) (d : Array Nat) (a b : Nat) (e : Ending) (w' : World) : Prop :=
  e = .returned (.tuple #[]) ∧ ∃ d', SortW w0 g c n d' w' ∧ PermIn a b d d'

set_option maxRecDepth 100000 in
set_option maxHeartbeats 1000000 in
theorem reverse_ok (w0 : World) (g c n : Nat) (cv : Value) (d : Array Nat) (a b : Nat) (w : World) (hW : SortW w0 g c n d w) (hab : a < b) (hb : b ≤ n) (hn : n ≤ 1000000000) :
    Calls Try.prog 46 #[.slice (some ⟨g, 0, none⟩) n c, .int .i64 a, .int .i64 b, cv] w (PermPost w0 g c n d a b) := by
  have HW := Lib.hid hW
  have e1 : (b : Int) - 1 = ((b - 1 : Nat) : Int) := by omega
  clear hW
  go_enter Try.func46, Try.ntmps46
  go_wp2_with fail
  go_loopg [8, 9] (b - a) (fun k v1 v2 wr => ∃ (i j : Nat) (dk : Array Nat), v1 = .int .i64 i ∧ v2 = .int .i64 j ∧ a ≤ i ∧ j < b ∧ i ≤ j + 1 ∧ k = j + 1 - i ∧ Hid (SortW w0 g c n dk wr) ∧ Hid (PermIn a b d dk))
  case atStart => exact ⟨a, b - 1, d, rfl, rfl, Nat.le_refl _, by omega, by omega, by omega, HW, Lib.hid (permIn_refl _ _ _)⟩
  case round =>
    obtain ⟨i, j, dk, rfl, rfl, hai, hjb, hij, hk, HS, HP⟩ := hrel
    have Hk := Lib.hid hk
    clear hk HW e1
    by_cases hlt : i < j
    · have hli : (i : Int) < (j : Int) := by omega
      obtain ⟨j', rfl⟩ : ∃ j', j = j' + 1 := ⟨j - 1, by omega⟩
      obtain ⟨x, y, c0, c1, f0, f1, H1, H2⟩ := HS.out.exch i (j' + 1) (by omega) (by omega)
      have hsz := HS.out.size
      have hp := permIn_trans _ _ _ a b HP.out (swp_permIn dk a b i (j' + 1) hai (by omega) (by omega) hjb (by omega))
      have HP2 := Lib.hid hp
      have hin : (i : Int) < (n : Int) := by omega
      have hjn : ((j' + 1 : Nat) : Int) < (n : Int) := by omega
      clear hp hsz
      generalize hje : ((j' + 1 : Nat) : Int) = J at *
      have hJ : J - 1 = (j' : Int) := by omega
      have hJn : J.toNat = j' + 1 := by omega
      have hJ0 : 0 ≤ J := by omega
      have HJE := Lib.hid hje
      clear hje
      go_wp2_with fail
      go_region
      all_goals
        go_wp2_with fail
        go_roundg (j' + 1 - (i + 1))
        case measure => have := Hk.out; omega
        case rel => exact ⟨i + 1, j', swp dk i (j' + 1), by go_num, rfl, by omega, by omega, by omega, by omega, (by first | exact H1 | exact H2), HP2⟩
    · have hli : ¬ (i : Int) < (j : Int) := by omega
      go_wp2_with fail
      go_end0
      exact ⟨rfl, dk, HS.out, HP.out⟩
theorem xor_rng (a b : Int) : 0 ≤ bits .xor .u64 a b ∧ bits .xor .u64 a b < 18446744073709551616 := by
  have : bits .xor .u64 a b = IntKind.u64.wrap ((BitVec.ofInt 64 a ^^^ BitVec.ofInt 64 b).toNat : Int) := rfl
  rw [this, IntKind.wrap_u64]
  omega
/-- The next random number: some number. -/
def RandPost (sb : Nat) (w : World) (e : Ending) (w' : World) : Prop :=
  ∃ v : Int, e = .returned (.int .u64 v) ∧ 0 ≤ v ∧ v < 18446744073709551616 ∧ Arr w' sb 79 [.int .u64 v] ∧ Kept [sb] w w'

set_option maxRecDepth 100000 in
set_option maxHeartbeats 1000000 in
theorem next_rand (sb : Nat) (x : Int) (w : World) (hA : Arr w sb 79 [.int .u64 x]) (h0 : 0 ≤ x) (h1 : x < 18446744073709551616) :
    Calls Try.prog 54 #[.pointer (some ⟨sb, 0, none⟩)] w (RandPost sb w) := by
  have c0 := hA.cell (i := 0) rfl
  have f0 := hA.free 0
  have HA := Lib.hid hA
  have HK := Lib.hid (Kept.refl [sb] w)
  clear hA
  go_enter Try.func54, Try.ntmps54
  go_wp2_with fail
  go_region
  go_wp2_with fail
  have rv := xor_rng x (IntKind.u64.wrap (x * 8192))
  generalize bits BinOp.xor IntKind.u64 x (IntKind.u64.wrap (x * 8192)) = v at rv ⊢
  have hA1 : Arr (w.setCell ⟨sb, 0, none⟩ (.int .u64 v)).drew sb 79 [.int .u64 v] := HA.out.set 0 (.int .u64 v)
  have hk1 : Kept [sb] w (w.setCell ⟨sb, 0, none⟩ (.int .u64 v)).drew := ((Kept.refl [sb] w).setCell (p := ⟨sb, 0, none⟩) (.inl (by simp)) _).drew
  generalize (w.setCell ⟨sb, 0, none⟩ (.int .u64 v)).drew = w1 at hA1 hk1 ⊢
  have c1 := hA1.cell (i := 0) rfl
  have f1 := hA1.free 0
  have v0 : 0 ≤ v := rv.1
  have v1 : v < 18446744073709551616 := rv.2
  have HA1 := Lib.hid hA1
  have HK1 := Lib.hid hk1
  clear c0 f0 h0 h1 rv hA1 hk1 HA HK
  go_region
  go_wp2_with fail
  have rv := xor_rng v (v / 128)
  generalize bits BinOp.xor IntKind.u64 v (v / 128) = u at rv ⊢
  have hA2 : Arr (w1.setCell ⟨sb, 0, none⟩ (.int .u64 u)).drew sb 79 [.int .u64 u] := HA1.out.set 0 (.int .u64 u)
  have hk2 : Kept [sb] w (w1.setCell ⟨sb, 0, none⟩ (.int .u64 u)).drew := (HK1.out.setCell (p := ⟨sb, 0, none⟩) (.inl (by simp)) _).drew
  generalize (w1.setCell ⟨sb, 0, none⟩ (.int .u64 u)).drew = w2 at hA2 hk2 ⊢
  have c2 := hA2.cell (i := 0) rfl
  have f2 := hA2.free 0
  have u0 : 0 ≤ u := rv.1
  have u1 : u < 18446744073709551616 := rv.2
  have HA2 := Lib.hid hA2
  have HK2 := Lib.hid hk2
  clear c1 f1 v0 v1 rv hA2 hk2 HA1 HK1
  go_region
  go_wp2_with fail
  have rv := xor_rng u (IntKind.u64.wrap (u * 131072))
  generalize bits BinOp.xor IntKind.u64 u (IntKind.u64.wrap (u * 131072)) = t at rv ⊢
  have HA3 := Lib.hid (show Arr (w2.setCell ⟨sb, 0, none⟩ (.int .u64 t)).drew sb 79 [.int .u64 t] from HA2.out.set 0 (.int .u64 t))
  have HK3 := Lib.hid (show Kept [sb] w (w2.setCell ⟨sb, 0, none⟩ (.int .u64 t)).drew from (HK2.out.setCell (p := ⟨sb, 0, none⟩) (.inl (by simp)) _).drew)
  go_ret
  exact ⟨t, rfl, rv.1, rv.2, HA3.out, HK3.out⟩
theorem bitLen_two : ∀ x : Nat, x ≠ 0 → x < 2 ^ 62 → 2 ^ Lib.bitLen x ≤ 2 * x ∧ x < 2 ^ Lib.bitLen x := by
  intro x
  induction x using Nat.strongRecOn with
  | ind x ih =>
    intro h0 h1
    rw [Lib.bitLen_half x h0 (by omega)]
    by_cases hx : x = 1
    · subst hx; decide +kernel
    · obtain ⟨a, b⟩ := ih (x / 2) (by omega) (by omega) (by omega)
      rw [Nat.pow_add]
      omega
/-- A power of two above l. -/
def PowPost (l : Nat) (w : World) (e : Ending) (w' : World) : Prop := ∃ k, e = .returned (.int .u64 ((2 ^ k : Nat) : Int)) ∧ 2 ^ k ≤ 2 * l ∧ w' = w

set_option maxRecDepth 100000 in
theorem power_ok (l : Nat) (w : World) (h0 : 0 < l) (h1 : l ≤ 1000000000) : Calls Try.prog 53 #[.int .i64 l] w (PowPost l w) := by
  have hb := bitLen_two l (by omega) (by omega)
  have hw : IntKind.u64.wrap (l : Int) = (l : Int) := by rw [IntKind.wrap_u64]; omega
  have hlen := len_any l w (by omega)
  generalize Lib.bitLen l = k at hb hlen
  have hk : k ≤ 31 := by
    rcases Nat.lt_or_ge k 32 with h | h
    · omega
    · have := Nat.pow_le_pow_right (n := 2) (by decide) h
      omega
  obtain ⟨p, hp⟩ : ∃ p : Nat, 2 ^ k = p := ⟨_, rfl⟩
  have hpow : IntKind.u64.wrap (2 ^ k) = (p : Int) := by
    rw [show ((2 : Int) ^ k) = ((2 ^ k : Nat) : Int) by norm_cast, hp, IntKind.wrap_u64]; omega
  have HP := Lib.hid hp
  have HB := Lib.hid hb
  have HL := Lib.hid hlen
  clear hp hb hlen
  go_enter Try.func53, Try.ntmps53
  go_wp2_with fail
  refine HL.out.mono ?_
  rintro e w1 ⟨rfl, rfl⟩
  go_wp2_with fail
  go_ret
  exact ⟨k, by rw [HP.out]; rfl, HB.out.1, rfl⟩

theorem and_pow (v : Int) (k p : Nat) (hp : 2 ^ k = p) (h0 : 0 ≤ v) (h1 : v < 18446744073709551616) (hp1 : p ≤ 4294967296) : bits .and .u64 v ((p : Int) - 1) = ((v.toNat % p : Nat) : Int) := by
  obtain ⟨x, rfl⟩ := Int.eq_ofNat_of_zero_le h0
  have hpos : 0 < 2 ^ k := Nat.two_pow_pos k
  have : (p : Int) - 1 = ((2 ^ k - 1 : Nat) : Int) := by omega
  rw [this, u64_and_nat x (2 ^ k - 1) (by omega) (by omega), Nat.and_two_pow_sub_one_eq_mod, hp, Int.toNat_natCast]

set_option maxRecDepth 100000 in
set_option maxHeartbeats 2000000 in
theorem break_ok (w0 : World) (g c n : Nat) (cv : Value) (d : Array Nat) (a b : Nat) (w : World) (hW : SortW w0 g c n d w) (hab : a + 12 < b) (hb : b ≤ n) (hn : n ≤ 1000000000) :
    Calls Try.prog 44 #[.slice (some ⟨g, 0, none⟩) n c, .int .i64 a, .int .i64 b, cv] w (PermPost w0 g c n d a b) := by
  obtain ⟨l, hl⟩ : ∃ l, b - a = l := ⟨_, rfl⟩
  obtain ⟨q, hq⟩ : ∃ q, l / 4 = q := ⟨_, rfl⟩
  obtain ⟨m, hm⟩ : ∃ m, a + q * 2 = m := ⟨_, rfl⟩
  have hq3 : 3 ≤ q := by omega
  have hmb : a + 6 ≤ m ∧ m + 2 < b := by omega
  have el : (b : Int) - (a : Int) = (l : Int) := by omega
  have eq : (l : Int) / 4 = (q : Int) := by omega
  have em : (a : Int) + (q : Int) * 2 = (m : Int) := by omega
  have em1 : (m : Int) - 1 = ((m - 1 : Nat) : Int) := by omega
  have hsb0 : w0.heap.size ≤ w.heap.size := hW.kept.size
  have hgl : g < w.heap.size := hW.row.lt g (by simp [foot, Value.ownBlock])
  have g8 : decide (8 ≤ (l : Int)) = true := by simp; omega
  have hul : IntKind.u64.wrap (l : Int) = (l : Int) := by rw [IntKind.wrap_u64]; omega
  have hW1 : SortW w0 g c n d (w.alloc (.cells #[.int .u64 (l : Int)] 79)) := hW.kept0 ((Kept.refl _ _).alloc _)
  have hA1 : Arr (w.alloc (.cells #[.int .u64 (l : Int)] 79)) w.heap.size 79 [.int .u64 (l : Int)] := Arr.new w [.int .u64 (l : Int)] 79
  have HW1 := Lib.hid hW1
  have HA1 := Lib.hid hA1
  have hl2 : a + l = b := by omega
  clear hW hW1 hA1 hl hq hm
  go_enter Try.func44, Try.ntmps44
  go_wp2_with fail
  obtain ⟨sb, hsb⟩ : ∃ sb, w.heap.size = sb := ⟨_, rfl⟩
  rw [hsb] at HA1 hgl hsb0 ⊢
  generalize w.alloc (.cells #[.int .u64 (l : Int)] 79) = w1 at HW1 HA1 ⊢
  refine (power_ok l w1 (by omega) (by omega)).mono ?_
  rintro e w2 ⟨k, rfl, hk, rfl⟩
  obtain ⟨p, hp⟩ : ∃ p : Nat, 2 ^ k = p := ⟨_, rfl⟩
  have hp1 : 1 ≤ p := by rw [← hp]; exact Nat.two_pow_pos k
  rw [hp] at hk ⊢
  have HP := Lib.hid hp
  clear hsb hp
  go_wp2_with fail
  go_loopg [11] 3 (fun kk v wr => ∃ (i : Nat) (dk : Array Nat) (x : Int), v = .int .i64 (i : Nat) ∧ m ≤ i + 1 ∧ i ≤ m + 2 ∧ kk = m + 2 - i ∧ Hid (SortW w0 g c n dk wr) ∧ Hid (PermIn a b d dk) ∧ Hid (Arr wr sb 79 [.int .u64 x]) ∧ 0 ≤ x ∧ x < 18446744073709551616)
  case atStart => exact ⟨m - 1, d, l, rfl, by omega, by omega, by omega, HW1, Lib.hid (permIn_refl _ _ _), HA1, by omega, by omega⟩
  case round =>
    obtain ⟨i, dk, x, rfl, hi1, hi2, hkk, HS, HPE, HA, hx0, hx1⟩ := hrel
    have Hk := Lib.hid hkk
    clear hkk HW1 HA1 em1
    by_cases hlt : i ≤ m + 1
    · have hli : (i : Int) ≤ (m : Int) + 1 := by omega
      go_wp2_with fail
      refine (next_rand sb x _ HA.out hx0 hx1).mono ?_
      rintro e w3 ⟨v, rfl, hv0, hv1, hA3, hk3⟩
      have hand := and_pow v k p HP.out hv0 hv1 (by omega)
      obtain ⟨o, ho⟩ : ∃ o, v.toNat % p = o := ⟨_, rfl⟩
      rw [ho] at hand
      have hop : o < p := by rw [← ho]; exact Nat.mod_lt _ (by omega)
      have how : IntKind.i64.wrap (o : Int) = (o : Int) := IntWalk.i64_in _ (by omega)
      have HS3 := Lib.hid (show SortW w0 g c n dk w3 from ⟨HS.out.row.kept hk3 (by simp [foot, Value.ownBlock]; omega), HS.out.size, HS.out.lt, HS.out.kept.trans hk3 (by intro z hz; simp at hz; subst hz; exact .inr hsb0)⟩)
      have HA3 := Lib.hid hA3
      have hszd := HS.out.size
      have HSZ := Lib.hid hszd
      clear hA3 hk3 ho hszd
      have hin : (i : Int) < (n : Int) := by omega
      by_cases hge : l ≤ o
      · have hgei : (l : Int) ≤ (o : Int) := by omega
        obtain ⟨t, ht⟩ : ∃ t, a + (o - l) = t := ⟨_, rfl⟩
        have et : (a : Int) + ((o : Int) - (l : Int)) = (t : Int) := by omega
        have etw : IntKind.i64.wrap ((a : Int) + ((o : Int) - (l : Int))) = (t : Int) := by rw [IntWalk.i64_in _ (by omega)]; omega
        have htb : a ≤ t ∧ t < b := by omega
        have htn : (t : Int) < (n : Int) := by omega
        have HP2 := Lib.hid (permIn_trans _ _ _ a b HPE.out (swp_permIn dk a b i t (by omega) (by omega) htb.1 htb.2 (by rw [HSZ.out]; omega)))
        have HA4 := fun (u1 u2 : Value) (j1 j2 : Nat) => Lib.hid (HA3.out.kept (((Kept.refl [g] w3).setCell (p := ⟨g, j1, none⟩) (.inl (by simp)) u1).setCell (p := ⟨g, j2, none⟩) (.inl (by simp)) u2).drew (by simp; omega))
        have HH4 := Lib.hid HA4
        clear ht HA4
        by_cases hit : i = t
        · subst hit
          obtain ⟨x1, c0, f0, H1⟩ := HS3.out.exch1 i (by omega)
          go_wp2_with fail
          go_region
          all_goals
            go_wp2_with fail
            go_roundg (m + 2 - (i + 1))
            case measure => have := Hk.out; omega
            case rel => exact ⟨i + 1, swp dk i i, v, by go_num, by omega, by omega, rfl, H1, HP2, HH4.out _ _ _ _, hv0, hv1⟩
        · have hit2 : ¬ t = i := fun h => hit h.symm
          obtain ⟨x1, y1, c0, c1, f0, f1, H1, H2⟩ := HS3.out.exch i t (by omega) (by omega)
          go_wp2_with fail
          go_region
          all_goals
            go_wp2_with fail
            go_roundg (m + 2 - (i + 1))
            case measure => have := Hk.out; omega
            case rel => exact ⟨i + 1, swp dk i t, v, by go_num, by omega, by omega, rfl, (by first | exact H1 | exact H2), HP2, HH4.out _ _ _ _, hv0, hv1⟩
      · have hgei : ¬ (l : Int) ≤ (o : Int) := by omega
        obtain ⟨t, ht⟩ : ∃ t, a + o = t := ⟨_, rfl⟩
        have et : (a : Int) + (o : Int) = (t : Int) := by omega
        have etw : IntKind.i64.wrap ((a : Int) + (o : Int)) = (t : Int) := by rw [IntWalk.i64_in _ (by omega)]; omega
        have htb : a ≤ t ∧ t < b := by omega
        have htn : (t : Int) < (n : Int) := by omega
        have HP2 := Lib.hid (permIn_trans _ _ _ a b HPE.out (swp_permIn dk a b i t (by omega) (by omega) htb.1 htb.2 (by rw [HSZ.out]; omega)))
        have HA4 := fun (u1 u2 : Value) (j1 j2 : Nat) => Lib.hid (HA3.out.kept (((Kept.refl [g] w3).setCell (p := ⟨g, j1, none⟩) (.inl (by simp)) u1).setCell (p := ⟨g, j2, none⟩) (.inl (by simp)) u2).drew (by simp; omega))
        have HH4 := Lib.hid HA4
        clear ht HA4
        by_cases hit : i = t
        · subst hit
          obtain ⟨x1, c0, f0, H1⟩ := HS3.out.exch1 i (by omega)
          go_wp2_with fail
          go_region
          all_goals
            go_wp2_with fail
            go_roundg (m + 2 - (i + 1))
            case measure => have := Hk.out; omega
            case rel => exact ⟨i + 1, swp dk i i, v, by go_num, by omega, by omega, rfl, H1, HP2, HH4.out _ _ _ _, hv0, hv1⟩
        · have hit2 : ¬ t = i := fun h => hit h.symm
          obtain ⟨x1, y1, c0, c1, f0, f1, H1, H2⟩ := HS3.out.exch i t (by omega) (by omega)
          go_wp2_with fail
          go_region
          all_goals
            go_wp2_with fail
            go_roundg (m + 2 - (i + 1))
            case measure => have := Hk.out; omega
            case rel => exact ⟨i + 1, swp dk i t, v, by go_num, by omega, by omega, rfl, (by first | exact H1 | exact H2), HP2, HH4.out _ _ _ _, hv0, hv1⟩
    · have hli : ¬ (i : Int) ≤ (m : Int) + 1 := by omega
      go_wp2_with fail
      go_end0
      exact ⟨rfl, dk, HS.out, HPE.out⟩
end Go.Proofs.Ytaeppgooenbfiaa
