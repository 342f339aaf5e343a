/-
  The walks of groups.Tables, mayList, groups, and the reference's. The walks of groups.may and the reference's May. The walks of groups.order, groups.moved, the reference's ints and Same. The walk of the reference's Same. The walks of kistlaw11's flat and light.
-/
import Derived.Test.YtdaenajhgbagdaaPlainG
import Derived.Test.YtdaenajhgbagdaaLenX
import Derived.Test.YtdaenajhgbagdaaWriteA
import Derived.Test.YtdaenajhgbagdaaSymX
namespace Go.Proofs.Ytdaenajhgbagdaa
open Go.RowKit
set_option linter.unusedVariables false
set_option linter.unusedSimpArgs false

def TablesPost (m : Int) (w : World) (e : Ending) (w' : World) : Prop := e = .returned (.tuple #[.int .i64 ((K.tablesR m).1 : Nat), .int .i64 ((K.tablesR m).2 : Nat)]) ∧ w = w'
theorem tables_ret (m : Int) (a b : Nat) (h : K.tablesR m = (a, b)) (w : World) : TablesPost m w (.returned (.tuple #[.int .i64 (a : Int), .int .i64 (b : Int)])) w := by
  unfold TablesPost; rw [h]; exact ⟨rfl, rfl⟩
theorem gtables_any (m : Int) (w : World) : Calls Try.prog 12 #[.int .i64 m] w (TablesPost m w) := by
  have i0 : ∀ w, (Instr.index 65 (.agg #[.int .i64 200, .int .i64 600, .int .i64 1200, .int .i64 2400]) (.int .i64 0)).run Try.prog w = .ok (.int .i64 200) w := fun _ => by kernel_rfl
  have i1 : ∀ w, (Instr.index 65 (.agg #[.int .i64 200, .int .i64 600, .int .i64 1200, .int .i64 2400]) (.int .i64 1)).run Try.prog w = .ok (.int .i64 600) w := fun _ => by kernel_rfl
  have i2 : ∀ w, (Instr.index 65 (.agg #[.int .i64 200, .int .i64 600, .int .i64 1200, .int .i64 2400]) (.int .i64 2)).run Try.prog w = .ok (.int .i64 1200) w := fun _ => by kernel_rfl
  have i3 : ∀ w, (Instr.index 65 (.agg #[.int .i64 200, .int .i64 600, .int .i64 1200, .int .i64 2400]) (.int .i64 3)).run Try.prog w = .ok (.int .i64 2400) w := fun _ => by kernel_rfl
  by_cases h0 : m < 1
  · have HR := Lib.hid (show K.tablesR m = (0, 2) by unfold K.tablesR; rw [if_pos h0])
    go_enter Try.func12, Try.ntmps12
    go_wp2_with fail
    go_ret2
    exact tables_ret m 0 2 HR.out _
  · go_enter Try.func12, Try.ntmps12
    go_wp2_with fail
    go_loopg [9] 4 (fun k v wr => ∃ j : Int, (j = 0 ∨ (j = 1 ∧ ¬ m < 200) ∨ (j = 2 ∧ ¬ m < 600) ∨ (j = 3 ∧ ¬ m < 1200) ∨ (j = 4 ∧ ¬ m < 2400)) ∧ k = (4 - j).toNat ∧ v = .int .i64 j ∧ w = wr)
    case atStart => exact ⟨0, .inl rfl, by omega, rfl, rfl⟩
    case round =>
      obtain ⟨j, hj, hk, rfl, rfl⟩ := hrel
      have Hk := Lib.hid hk
      clear hk
      rcases hj with rfl | ⟨rfl, hb⟩ | ⟨rfl, hb⟩ | ⟨rfl, hb⟩ | ⟨rfl, hb⟩
      · by_cases h1 : m < 200
        · have HR := Lib.hid (show K.tablesR m = (2, 0) by unfold K.tablesR; rw [if_neg (by omega), if_pos (by omega)])
          go_wp2_with fail
          go_ret2
          exact tables_ret m 2 0 HR.out _
        · go_wp2_with fail
          go_roundg 3
          case measure => have := Hk.out; omega
          case rel => exact ⟨1, .inr (.inl ⟨rfl, by omega⟩), by omega, rfl, rfl⟩
      · by_cases h1 : m < 600
        · have HR := Lib.hid (show K.tablesR m = (3, 0) by unfold K.tablesR; rw [if_neg (by omega), if_neg (by omega), if_pos (by omega)])
          go_wp2_with fail
          go_ret2
          exact tables_ret m 3 0 HR.out _
        · go_wp2_with fail
          go_roundg 2
          case measure => have := Hk.out; omega
          case rel => exact ⟨2, .inr (.inr (.inl ⟨rfl, by omega⟩)), by omega, rfl, rfl⟩
      · by_cases h1 : m < 1200
        · have HR := Lib.hid (show K.tablesR m = (4, 0) by unfold K.tablesR; rw [if_neg (by omega), if_neg (by omega), if_neg (by omega), if_pos (by omega)])
          go_wp2_with fail
          go_ret2
          exact tables_ret m 4 0 HR.out _
        · go_wp2_with fail
          go_roundg 1
          case measure => have := Hk.out; omega
          case rel => exact ⟨3, .inr (.inr (.inr (.inl ⟨rfl, by omega⟩))), by omega, rfl, rfl⟩
      · by_cases h1 : m < 2400
        · have HR := Lib.hid (show K.tablesR m = (5, 0) by unfold K.tablesR; rw [if_neg (by omega), if_neg (by omega), if_neg (by omega), if_neg (by omega), if_pos (by omega)])
          go_wp2_with fail
          go_ret2
          exact tables_ret m 5 0 HR.out _
        · go_wp2_with fail
          go_roundg 0
          case measure => have := Hk.out; omega
          case rel => exact ⟨4, .inr (.inr (.inr (.inr ⟨rfl, by omega⟩))), by omega, rfl, rfl⟩
      · have HR := Lib.hid (show K.tablesR m = (6, 0) by unfold K.tablesR; rw [if_neg (by omega), if_neg (by omega), if_neg (by omega), if_neg (by omega), if_neg (by omega)])
        go_wp2_with fail
        go_ret2
        exact tables_ret m 6 0 HR.out _
theorem rgtables_any (m : Int) (w : World) : Calls Try.prog 13 #[.int .i64 m] w (TablesPost m w) := by
  have key : ∀ a b, K.tablesR m = (a, b) → Hid (K.tablesR m = (a, b)) := fun a b h => Lib.hid h
  by_cases h0 : m < 1
  · have HR := key 0 2 (by unfold K.tablesR; rw [if_pos h0])
    have g0 : decide (m < 1) = true := decide_eq_true h0
    clear key
    go_enter Try.func13, Try.ntmps13
    go_wp2_with fail
    go_ret2
    exact tables_ret m 0 2 HR.out _
  have g0 : decide (m < 1) = false := decide_eq_false h0
  by_cases h1 : 2400 ≤ m
  · have HR := key 6 0 (by unfold K.tablesR; rw [if_neg h0, if_neg (by omega), if_neg (by omega), if_neg (by omega), if_neg (by omega)])
    have g1 : decide (2400 ≤ m) = true := decide_eq_true h1
    clear key
    go_enter Try.func13, Try.ntmps13
    go_wp2_with fail
    go_ret2
    exact tables_ret m 6 0 HR.out _
  have g1 : decide (2400 ≤ m) = false := decide_eq_false h1
  by_cases h2 : 1200 ≤ m
  · have HR := key 5 0 (by unfold K.tablesR; rw [if_neg h0, if_neg (by omega), if_neg (by omega), if_neg (by omega), if_pos (by omega)])
    have g2 : decide (1200 ≤ m) = true := decide_eq_true h2
    clear key
    go_enter Try.func13, Try.ntmps13
    go_wp2_with fail
    go_ret2
    exact tables_ret m 5 0 HR.out _
  have g2 : decide (1200 ≤ m) = false := decide_eq_false h2
  by_cases h3 : 600 ≤ m
  · have HR := key 4 0 (by unfold K.tablesR; rw [if_neg h0, if_neg (by omega), if_neg (by omega), if_pos (by omega)])
    have g3 : decide (600 ≤ m) = true := decide_eq_true h3
    clear key
    go_enter Try.func13, Try.ntmps13
    go_wp2_with fail
    go_ret2
    exact tables_ret m 4 0 HR.out _
  have g3 : decide (600 ≤ m) = false := decide_eq_false h3
  by_cases h4 : 200 ≤ m
  · have HR := key 3 0 (by unfold K.tablesR; rw [if_neg h0, if_neg (by omega), if_pos (by omega)])
    have g4 : decide (200 ≤ m) = true := decide_eq_true h4
    clear key
    go_enter Try.func13, Try.ntmps13
    go_wp2_with fail
    go_ret2
    exact tables_ret m 3 0 HR.out _
  have g4 : decide (200 ≤ m) = false := decide_eq_false h4
  have HR := key 2 0 (by unfold K.tablesR; rw [if_neg h0, if_pos (by omega)])
  clear key
  go_enter Try.func13, Try.ntmps13
  go_wp2_with fail
  go_ret2
  exact tables_ret m 2 0 HR.out _

theorem ggroups_any (m : Nat) (w : World) (hm : m ≤ 17592186043904) : Calls Try.prog 52 #[.int .i64 m] w fun e w' => e = .returned (.int .i64 (K.groupsN m : Nat)) ∧ w = w' := by
  have HG := Lib.hid (show ((K.groupsN m : Nat) : Int) = ((m : Int) + 49) / 50 by unfold K.groupsN; omega)
  go_enter Try.func52, Try.ntmps52
  go_wp2_with fail
  go_ret
  exact ⟨ret_k (by rw [HG.out]; omega), rfl⟩
theorem rgroups_any (m : Nat) (w : World) (hm : m ≤ 1000000000) : Calls Try.prog 71 #[.int .i64 m] w fun e w' => e = .returned (.int .i64 (K.groupsN m : Nat)) ∧ w = w' := by
  have HG := Lib.hid (show K.groupsN m = (m + 49) / 50 from rfl)
  go_enter Try.func71, Try.ntmps71
  go_wp2_with fail
  go_loopg [3] (K.groupsN m) (fun k v wr => ∃ n : Nat, k = K.groupsN m - n ∧ n ≤ K.groupsN m ∧ v = .int .i64 (n : Nat) ∧ w = wr)
  case atStart => exact ⟨0, by omega, by omega, rfl, rfl⟩
  case round =>
    obtain ⟨n, hk, hn, rfl, rfl⟩ := hrel
    have Hk := Lib.hid hk
    clear hk
    have hnb : n ≤ 30000000 := by have := HG.out; omega
    by_cases h1 : 50 * n < m
    · have h1i : 50 * (n : Int) < (m : Int) := by omega
      go_wp2_with fail
      go_roundg (K.groupsN m - (n + 1))
      case measure => have := Hk.out; have := HG.out; omega
      case rel => exact ⟨n + 1, rfl, by have := HG.out; omega, by simp, rfl⟩
    · have h1i : ¬ 50 * (n : Int) < (m : Int) := by omega
      go_wp2_with fail
      go_ret
      exact ⟨ret_k (by have := HG.out; omega), rfl⟩

def BoolP (b : Bool) (w : World) (e : Ending) (w' : World) : Prop := e = .returned (.bool b) ∧ w = w'
theorem mayList_no {xs : List Int} {n : Int} (h : ¬ (3 ≤ n ∧ n ≤ 258) ∨ ¬ (1 ≤ xs.length ∧ xs.length ≤ 1638350)) : K.mayListL xs n = false := by
  unfold K.mayListL
  rcases h with h | h
  · rw [decide_eq_false h]; rfl
  · rw [decide_eq_false h, Bool.and_false]; rfl
theorem mayList_bad {xs : List Int} {n x : Int} {i : Nat} (hx : xs[i]? = some x) (h : x < 0 ∨ n ≤ x) : K.mayListL xs n = false := by
  rw [Bool.eq_false_iff]
  intro hh
  unfold K.mayListL at hh
  rw [Bool.and_eq_true, List.all_eq_true] at hh
  have := hh.2 x (List.mem_of_getElem? hx)
  rw [decide_eq_true_eq] at this
  omega
theorem gmayList_any (a : Option Addr) (c : Nat) (xs : List Int) (n : Int) (w : World) (h : Sees w 1 a xs.length (intVals xs)) (hl : xs.length ≤ 17592186043904) :
    Calls Try.prog 66 #[.slice a xs.length c, .int .i64 n] w (BoolP (K.mayListL xs n) w) := by
  have HS := Lib.hid h
  clear h
  by_cases h1 : n < 3
  · have HN := Lib.hid (mayList_no (xs := xs) (n := n) (.inl (by omega)))
    have g1 : decide (n < 3) = true := decide_eq_true h1
    go_enter Try.func66, Try.ntmps66
    go_wp2_with fail
    go_ret
    exact ⟨by rw [HN.out]; rfl, rfl⟩
  have g1 : decide (n < 3) = false := decide_eq_false h1
  by_cases h2 : 258 < n
  · have HN := Lib.hid (mayList_no (xs := xs) (n := n) (.inl (by omega)))
    have g2 : decide (258 < n) = true := decide_eq_true h2
    go_enter Try.func66, Try.ntmps66
    go_wp2_with fail
    go_ret
    exact ⟨by rw [HN.out]; rfl, rfl⟩
  have g2 : decide (258 < n) = false := decide_eq_false h2
  by_cases h3 : xs.length < 1
  · have HN := Lib.hid (mayList_no (xs := xs) (n := n) (.inr (by omega)))
    have g3 : decide ((xs.length : Int) < 1) = true := by simp; omega
    go_enter Try.func66, Try.ntmps66
    go_wp2_with fail
    go_ret
    exact ⟨by rw [HN.out]; rfl, rfl⟩
  have g3 : decide ((xs.length : Int) < 1) = false := by simp; omega
  by_cases h4 : 1638350 < xs.length
  · have HN := Lib.hid (mayList_no (xs := xs) (n := n) (.inr (by omega)))
    have g4 : decide (1638350 < (xs.length : Int)) = true := by simp; omega
    go_enter Try.func66, Try.ntmps66
    go_wp2_with fail
    go_ret
    exact ⟨by rw [HN.out]; rfl, rfl⟩
  have g4 : decide (1638350 < (xs.length : Int)) = false := by simp; omega
  obtain ⟨b, off, rfl, -⟩ := HS.out.at (by rw [intVals_length]; omega)
  go_enter Try.func66, Try.ntmps66
  go_wp2_with fail
  go_loopg [25] xs.length (fun k v wr => ∃ i : Nat, k = xs.length - i ∧ i ≤ xs.length ∧ v = .int .i64 (i : Nat) ∧ Hid (∀ x ∈ xs.take i, 0 ≤ x ∧ x < n) ∧ w = wr)
  case atStart => exact ⟨0, by omega, by omega, rfl, Lib.hid (by simp), rfl⟩
  case round =>
    obtain ⟨i, hk, hi, rfl, HB, rfl⟩ := hrel
    have Hk := Lib.hid hk
    clear hk
    by_cases hlt : i < xs.length
    · have hli : (i : Int) < (xs.length : Int) := by omega
      obtain ⟨x, hx⟩ : ∃ x, xs[i]? = some x := ⟨_, List.getElem?_eq_getElem hlt⟩
      have c0 := HS.out.int hx
      have HX := Lib.hid hx
      clear hx
      by_cases k1 : x < 0
      · have q1 : decide (x < 0) = true := decide_eq_true k1
        have HN := Lib.hid (mayList_bad (n := n) HX.out (.inl k1))
        go_wp2_with fail
        go_ret
        exact ⟨by rw [HN.out]; rfl, rfl⟩
      have q1 : decide (x < 0) = false := decide_eq_false k1
      by_cases k2 : n ≤ x
      · have q2 : decide (n ≤ x) = true := decide_eq_true k2
        have HN := Lib.hid (mayList_bad (n := n) HX.out (.inr k2))
        go_wp2_with fail
        go_ret
        exact ⟨by rw [HN.out]; rfl, rfl⟩
      have q2 : decide (n ≤ x) = false := decide_eq_false k2
      go_wp2_with fail
      go_roundg (xs.length - (i + 1))
      case measure => have := Hk.out; omega
      case rel =>
        refine ⟨i + 1, rfl, by omega, by simp, Lib.hid fun y hy => ?_, rfl⟩
        rw [List.take_add_one, HX.out] at hy
        rcases List.mem_append.1 hy with h | h
        · exact HB.out y h
        · simp at h; omega
    · obtain rfl : i = xs.length := by omega
      have hll : ¬ (xs.length : Int) < (xs.length : Int) := by omega
      have HY := Lib.hid (show K.mayListL xs n = true by
        have hb := HB.out
        rw [List.take_of_length_le (Nat.le_refl _)] at hb
        unfold K.mayListL
        rw [decide_eq_true (show 3 ≤ n ∧ n ≤ 258 by omega), decide_eq_true (show 1 ≤ xs.length ∧ xs.length ≤ 1638350 by omega), Bool.true_and, Bool.true_and, List.all_eq_true]
        intro x hx
        rw [decide_eq_true_eq]
        exact hb x hx)
      go_wp2_with fail
      go_ret
      exact ⟨by rw [HY.out]; rfl, rfl⟩
theorem rmayList_any (a : Option Addr) (c : Nat) (xs : List Int) (n : Int) (w : World) (h : Sees w 1 a xs.length (intVals xs)) (hl : xs.length ≤ 17592186043904) :
    Calls Try.prog 70 #[.slice a xs.length c, .int .i64 n] w (BoolP (K.mayListL xs n) w) := by
  have HS := Lib.hid h
  clear h
  go_enter Try.func70, Try.ntmps70
  go_wp2_with fail
  go_loopg [5] xs.length (fun k v wr => ∃ i : Nat, k = xs.length - i ∧ i ≤ xs.length ∧ v = .int .i64 (i : Nat) ∧ Hid (∀ x ∈ xs.take i, 0 ≤ x ∧ x < n) ∧ w = wr)
  case atStart => exact ⟨0, by omega, by omega, rfl, Lib.hid (by simp), rfl⟩
  case round =>
    obtain ⟨i, hk, hi, rfl, HB, rfl⟩ := hrel
    have Hk := Lib.hid hk
    clear hk
    by_cases hlt : i < xs.length
    · have hli : (i : Int) < (xs.length : Int) := by omega
      obtain ⟨x, hx⟩ : ∃ x, xs[i]? = some x := ⟨_, List.getElem?_eq_getElem hlt⟩
      obtain ⟨b, off, rfl, -⟩ := HS.out.at (by rw [intVals_length]; omega)
      have c0 := HS.out.int hx
      have HX := Lib.hid hx
      clear hx
      by_cases k1 : x < 0
      · have q1 : decide (x < 0) = true := decide_eq_true k1
        have HN := Lib.hid (mayList_bad (n := n) HX.out (.inl k1))
        go_wp2_with fail
        go_ret
        exact ⟨by rw [HN.out]; rfl, rfl⟩
      have q1 : decide (x < 0) = false := decide_eq_false k1
      by_cases k2 : n ≤ x
      · have q2 : decide (n ≤ x) = true := decide_eq_true k2
        have HN := Lib.hid (mayList_bad (n := n) HX.out (.inr k2))
        go_wp2_with fail
        go_ret
        exact ⟨by rw [HN.out]; rfl, rfl⟩
      have q2 : decide (n ≤ x) = false := decide_eq_false k2
      go_wp2_with fail
      go_roundg (xs.length - (i + 1))
      case measure => have := Hk.out; omega
      case rel =>
        refine ⟨i + 1, rfl, by omega, by simp, Lib.hid fun y hy => ?_, rfl⟩
        rw [List.take_add_one, HX.out] at hy
        rcases List.mem_append.1 hy with h | h
        · exact HB.out y h
        · simp at h; omega
    · obtain rfl : i = xs.length := by omega
      have hll : ¬ (xs.length : Int) < (xs.length : Int) := by omega
      have HA := Lib.hid (show (xs.all fun s => decide (0 ≤ s ∧ s < n)) = true by
        have hb := HB.out
        rw [List.take_of_length_le (Nat.le_refl _)] at hb
        rw [List.all_eq_true]
        intro x hx
        rw [decide_eq_true_eq]
        exact hb x hx)
      by_cases h1 : 3 ≤ n
      · have g1 : decide (3 ≤ n) = true := decide_eq_true h1
        by_cases h2 : n ≤ 258
        · have g2 : decide (n ≤ 258) = true := decide_eq_true h2
          by_cases h3 : 1 ≤ xs.length
          · have g3 : decide (1 ≤ (xs.length : Int)) = true := by simp; omega
            have HN := Lib.hid (show K.mayListL xs n = decide ((xs.length : Int) ≤ 1638350) by
              unfold K.mayListL
              rw [HA.out, decide_eq_true (show 3 ≤ n ∧ n ≤ 258 from ⟨h1, h2⟩), Bool.true_and, Bool.and_true]
              exact decide_eq_decide.2 (by omega))
            go_wp2_with fail
            go_ret
            exact ⟨by rw [HN.out]; rfl, rfl⟩
          · have g3 : decide (1 ≤ (xs.length : Int)) = false := by simp; omega
            have HN := Lib.hid (mayList_no (xs := xs) (n := n) (.inr (by omega)))
            go_wp2_with fail
            go_ret
            exact ⟨by rw [HN.out]; rfl, rfl⟩
        · have g2 : decide (n ≤ 258) = false := decide_eq_false h2
          have HN := Lib.hid (mayList_no (xs := xs) (n := n) (.inl (by omega)))
          go_wp2_with fail
          go_ret
          exact ⟨by rw [HN.out]; rfl, rfl⟩
      · have g1 : decide (3 ≤ n) = false := decide_eq_false h1
        have HN := Lib.hid (mayList_no (xs := xs) (n := n) (.inl (by omega)))
        go_wp2_with fail
        go_ret
        exact ⟨by rw [HN.out]; rfl, rfl⟩
end Go.Proofs.Ytdaenajhgbagdaa
namespace Go.Proofs.Ytdaenajhgbagdaa
open Go.RowKit
set_option linter.unusedVariables false
set_option linter.unusedSimpArgs false

/-- A plan by value: its tables, its picks. -/
def planV (aT : Option Addr) (nT cT : Nat) (aP : Option Addr) (nP cP : Nat) : Value := .agg #[.slice aT nT cT, .slice aP nP cP]
def KBool (b : Bool) (w : World) (e : Ending) (w' : World) : Prop := e = .returned (.bool b) ∧ Kept [] w w'
theorem mayPlan_cnt {T : List (List Int)} {P : List Int} (h : ¬ (2 ≤ T.length ∧ T.length ≤ 6) ∨ ¬ (1 ≤ P.length ∧ P.length ≤ 32767)) : K.mayPlan T P = false := by
  unfold K.mayPlan
  rcases h with h | h
  · rw [decide_eq_false h]; rfl
  · rw [decide_eq_false h, Bool.and_false]; rfl
theorem mayPlan_tab {T : List (List Int)} {P : List Int} {i : Nat} {t : List Int} (ht : T[i]? = some t) (h : K.tableOk (T.getD 0 []).length t = false) : K.mayPlan T P = false := by
  rw [Bool.eq_false_iff]
  intro hh
  unfold K.mayPlan at hh
  rw [Bool.and_eq_true, Bool.and_eq_true, List.all_eq_true, List.all_eq_true] at hh
  have := hh.1.2 t (List.mem_of_getElem? ht)
  rw [h] at this
  cases this
theorem mayPlan_pick {T : List (List Int)} {P : List Int} {i : Nat} {x : Int} (hx : P[i]? = some x) (h : x < 0 ∨ (T.length : Int) ≤ x) : K.mayPlan T P = false := by
  rw [Bool.eq_false_iff]
  intro hh
  unfold K.mayPlan at hh
  rw [Bool.and_eq_true, List.all_eq_true] at hh
  have := hh.2 x (List.mem_of_getElem? hx)
  rw [decide_eq_true_eq] at this
  omega
theorem mayPlan_yes {T : List (List Int)} {P : List Int} (h1 : 2 ≤ T.length ∧ T.length ≤ 6) (h2 : 1 ≤ P.length ∧ P.length ≤ 32767) (h3 : ∀ t ∈ T, K.tableOk (T.getD 0 []).length t = true) (h4 : ∀ x ∈ P, 0 ≤ x ∧ x < (T.length : Int)) : K.mayPlan T P = true := by
  unfold K.mayPlan
  rw [decide_eq_true h1, decide_eq_true h2, Bool.true_and, Bool.true_and, Bool.and_eq_true, List.all_eq_true, List.all_eq_true]
  exact ⟨h3, fun x hx => by rw [decide_eq_true_eq]; exact h4 x hx⟩
theorem tableOk_iff (n : Nat) (t : List Int) : K.tableOk n t = true ↔ t.length = n ∧ 3 ≤ t.length ∧ K.goodL t = true := by
  unfold K.tableOk
  rw [Bool.and_eq_true, Bool.and_eq_true, decide_eq_true_eq, decide_eq_true_eq, and_assoc]
theorem SeesM.int {w : World} {a : Option Addr} {n : Nat} {T : List (List Int)} (h : SeesM w a n (T.map intVals)) {i : Nat} {t : List Int} (hi : T[i]? = some t) :
    ∃ b off ar c, a = some ⟨b, off, none⟩ ∧ w.cell? ⟨b, off + i, none⟩ = some (.slice ar t.length c) ∧ Sees w 1 ar t.length (intVals t) ∧ t.length ≤ c := by
  obtain ⟨b, off, ar, c, h1, h2, h3, h4, -⟩ := h.at i (intVals t) (by rw [List.getElem?_map, hi]; rfl)
  rw [intVals_length] at h2 h3 h4
  exact ⟨b, off, ar, c, h1, h2, h3, h4⟩

theorem gmay_any (aT aP : Option Addr) (cT cP : Nat) (T : List (List Int)) (P : List Int) (w : World) (hT : SeesM w aT T.length (T.map intVals)) (hP : Sees w 1 aP P.length (intVals P))
    (hTl : T.length ≤ 17592186043904) (hPl : P.length ≤ 17592186043904) (hrl : ∀ t ∈ T, t.length ≤ 17592186043904) :
    Calls Try.prog 37 #[planV aT T.length cT aP P.length cP] w (KBool (K.mayPlan T P) w) := by
  have HK := Lib.hid ((Kept.refl [] w).alloc (.cells #[.slice aT T.length cT, .slice aP P.length cP] 32))
  have HB := Lib.hid (Arr.new w [.slice aT T.length cT, .slice aP P.length cP] 32)
  have HT := Lib.hid (hT.kept0 HK.out)
  have HP := Lib.hid (hP.kept0 HK.out)
  have HRL := Lib.hid hrl
  have b0 : (w.alloc (.cells #[.slice aT T.length cT, .slice aP P.length cP] 32)).cell? ⟨w.heap.size, 0, none⟩ = some (.slice aT T.length cT) := HB.out.cell (i := 0) rfl
  have b1 : (w.alloc (.cells #[.slice aT T.length cT, .slice aP P.length cP] 32)).cell? ⟨w.heap.size, 1, none⟩ = some (.slice aP P.length cP) := HB.out.cell (i := 1) rfl
  clear hT hP hrl
  unfold planV
  by_cases h1 : T.length < 2
  · have HN := Lib.hid (mayPlan_cnt (T := T) (P := P) (.inl (by omega)))
    have g1 : decide ((T.length : Int) < 2) = true := by simp; omega
    go_enter Try.func37, Try.ntmps37
    go_wp2_with fail
    go_ret
    exact ⟨by rw [HN.out]; rfl, HK.out⟩
  have g1 : decide ((T.length : Int) < 2) = false := by simp; omega
  by_cases h2 : 6 < T.length
  · have HN := Lib.hid (mayPlan_cnt (T := T) (P := P) (.inl (by omega)))
    have g2 : decide (6 < (T.length : Int)) = true := by simp; omega
    go_enter Try.func37, Try.ntmps37
    go_wp2_with fail
    go_ret
    exact ⟨by rw [HN.out]; rfl, HK.out⟩
  have g2 : decide (6 < (T.length : Int)) = false := by simp; omega
  by_cases h3 : P.length < 1
  · have HN := Lib.hid (mayPlan_cnt (T := T) (P := P) (.inr (by omega)))
    have g3 : decide ((P.length : Int) < 1) = true := by simp; omega
    go_enter Try.func37, Try.ntmps37
    go_wp2_with fail
    go_ret
    exact ⟨by rw [HN.out]; rfl, HK.out⟩
  have g3 : decide ((P.length : Int) < 1) = false := by simp; omega
  by_cases h4 : 32767 < P.length
  · have HN := Lib.hid (mayPlan_cnt (T := T) (P := P) (.inr (by omega)))
    have g4 : decide (32767 < (P.length : Int)) = true := by simp; omega
    go_enter Try.func37, Try.ntmps37
    go_wp2_with fail
    go_ret
    exact ⟨by rw [HN.out]; rfl, HK.out⟩
  have g4 : decide (32767 < (P.length : Int)) = false := by simp; omega
  obtain ⟨t0, ht0⟩ : ∃ t, T[0]? = some t := ⟨_, List.getElem?_eq_getElem (by omega)⟩
  have HT0 := Lib.hid (show (T.getD 0 []).length = t0.length by rw [List.getD, ht0]; rfl)
  obtain ⟨bT, oT, ar0, cr0, rfl, e0, -, -⟩ := HT.out.int ht0
  rw [Nat.add_zero] at e0
  obtain ⟨bP, oP, rfl, -⟩ := HP.out.at (by rw [intVals_length]; omega)
  have ht0l := HRL.out t0 (List.mem_of_getElem? ht0)
  have hpos : (0 : Int) < (T.length : Int) := by omega
  clear ht0 h1 h2 h3 h4
  go_enter Try.func37, Try.ntmps37
  go_wp2_with fail
  obtain ⟨W, hW⟩ : ∃ W, w.alloc (.cells #[.slice (some ⟨bT, oT, none⟩) T.length cT, .slice (some ⟨bP, oP, none⟩) P.length cP] 32) = W := ⟨_, rfl⟩
  rw [hW] at b0 b1 e0 HT HP HK ⊢
  clear hW HB
  go_loopg [32] T.length (fun k v wr => ∃ i : Nat, k = T.length - i ∧ i ≤ T.length ∧ v = .int .i64 (i : Nat) ∧ Hid (∀ t ∈ T.take i, K.tableOk (T.getD 0 []).length t = true) ∧ W = wr)
  case atStart => exact ⟨0, by omega, by omega, rfl, Lib.hid (by simp), rfl⟩
  case round =>
    obtain ⟨i, hk, hi, rfl, HA, rfl⟩ := hrel
    have Hk := Lib.hid hk
    clear hk
    by_cases hlt : i < T.length
    · have hli : (i : Int) < (T.length : Int) := by omega
      obtain ⟨t, ht⟩ : ∃ t, T[i]? = some t := ⟨_, List.getElem?_eq_getElem hlt⟩
      obtain ⟨bT', oT', ar, cr, eT, d0, hsr, -⟩ := HT.out.int ht
      cases eT
      have htl := HRL.out t (List.mem_of_getElem? ht)
      have HTI := Lib.hid ht
      have HSR := Lib.hid hsr
      clear ht hsr
      by_cases k1 : t.length = t0.length
      · have q1 : ((t.length : Int) != (t0.length : Int)) = false := by simp; omega
        by_cases k2 : t.length < 3
        · have q2 : decide ((t.length : Int) < 3) = true := by simp; omega
          have HN := Lib.hid (mayPlan_tab (P := P) HTI.out (by rw [Bool.eq_false_iff]; intro hh; rw [tableOk_iff] at hh; omega))
          clear k1
          go_wp2_with fail
          go_ret
          exact ⟨by rw [HN.out]; rfl, HK.out⟩
        have q2 : decide ((t.length : Int) < 3) = false := by simp; omega
        have K1 := Lib.hid k1
        clear k1
        cases hg : K.goodL t with
        | false =>
          have HN := Lib.hid (mayPlan_tab (P := P) HTI.out (by rw [Bool.eq_false_iff]; intro hh; rw [tableOk_iff, hg] at hh; exact absurd hh.2.2 (by simp)))
          have HC := Lib.hid (show checkR t = 80 by unfold checkR; rw [hg]; rfl)
          clear hg
          go_wp2_with fail
          refine (check_any ar cr t _ HSR.out (by omega)).mono ?_
          rintro e w2 ⟨rfl, rfl⟩
          rw [HC.out]
          go_wp2_with fail
          go_ret
          exact ⟨by rw [HN.out]; rfl, HK.out⟩
        | true =>
          have HY := Lib.hid (show K.tableOk (T.getD 0 []).length t = true by rw [tableOk_iff, HT0.out]; exact ⟨K1.out, by omega, hg⟩)
          have HC := Lib.hid (show checkR t = 0 by unfold checkR; rw [hg]; rfl)
          clear hg
          go_wp2_with fail
          refine (check_any ar cr t _ HSR.out (by omega)).mono ?_
          rintro e w2 ⟨rfl, rfl⟩
          rw [HC.out]
          go_wp2_with fail
          go_roundg (T.length - (i + 1))
          case measure => have := Hk.out; omega
          case rel =>
            refine ⟨i + 1, rfl, by omega, by simp, Lib.hid fun u hu => ?_, rfl⟩
            rw [List.take_add_one, HTI.out] at hu
            rcases List.mem_append.1 hu with h | h
            · exact HA.out u h
            · simp at h; rw [h]; exact HY.out
      · have q1 : ((t.length : Int) != (t0.length : Int)) = true := by simp; omega
        have HN := Lib.hid (mayPlan_tab (P := P) HTI.out (by rw [Bool.eq_false_iff]; intro hh; rw [tableOk_iff, HT0.out] at hh; omega))
        go_wp2_with fail
        go_ret
        exact ⟨by rw [HN.out]; rfl, HK.out⟩
    · obtain rfl : i = T.length := by omega
      have hll : ¬ (T.length : Int) < (T.length : Int) := by omega
      have hall := HA.out
      rw [List.take_of_length_le (Nat.le_refl _)] at hall
      have HALL := Lib.hid hall
      clear hall HA Hk
      go_wp2_with fail
      go_loopg [58] P.length (fun k v wr => ∃ i : Nat, k = P.length - i ∧ i ≤ P.length ∧ v = .int .i64 (i : Nat) ∧ Hid (∀ x ∈ P.take i, 0 ≤ x ∧ x < (T.length : Int)) ∧ W = wr)
      case atStart => exact ⟨0, by omega, by omega, rfl, Lib.hid (by simp), rfl⟩
      case round =>
        obtain ⟨i, hk, hi, rfl, HA, rfl⟩ := hrel
        have Hk := Lib.hid hk
        clear hk
        by_cases hlt : i < P.length
        · have hli : (i : Int) < (P.length : Int) := by omega
          obtain ⟨x, hx⟩ : ∃ x, P[i]? = some x := ⟨_, List.getElem?_eq_getElem hlt⟩
          have d0 := HP.out.int hx
          have HX := Lib.hid hx
          clear hx
          by_cases k1 : x < 0
          · have q1 : decide (x < 0) = true := decide_eq_true k1
            have HN := Lib.hid (mayPlan_pick (T := T) HX.out (.inl k1))
            go_wp2_with fail
            go_ret
            exact ⟨by rw [HN.out]; rfl, HK.out⟩
          have q1 : decide (x < 0) = false := decide_eq_false k1
          by_cases k2 : (T.length : Int) ≤ x
          · have q2 : decide ((T.length : Int) ≤ x) = true := decide_eq_true k2
            have HN := Lib.hid (mayPlan_pick (T := T) HX.out (.inr k2))
            go_wp2_with fail
            go_ret
            exact ⟨by rw [HN.out]; rfl, HK.out⟩
          have q2 : decide ((T.length : Int) ≤ x) = false := decide_eq_false k2
          go_wp2_with fail
          go_roundg (P.length - (i + 1))
          case measure => have := Hk.out; omega
          case rel =>
            refine ⟨i + 1, rfl, by omega, by simp, Lib.hid fun y hy => ?_, rfl⟩
            rw [List.take_add_one, HX.out] at hy
            rcases List.mem_append.1 hy with h | h
            · exact HA.out y h
            · simp at h; omega
        · obtain rfl : i = P.length := by omega
          have hll : ¬ (P.length : Int) < (P.length : Int) := by omega
          have HY := Lib.hid (show K.mayPlan T P = true by
            have hb := HA.out
            rw [List.take_of_length_le (Nat.le_refl _)] at hb
            have a1 : 2 ≤ T.length ∧ T.length ≤ 6 := by simp at g1 g2; omega
            have a2 : 1 ≤ P.length ∧ P.length ≤ 32767 := by simp at g3 g4; omega
            exact mayPlan_yes a1 a2 HALL.out hb)
          go_wp2_with fail
          go_ret
          exact ⟨by rw [HY.out]; rfl, HK.out⟩
theorem grmay_any (aT aP : Option Addr) (cT cP : Nat) (T : List (List Int)) (P : List Int) (w : World) (hT : SeesM w aT T.length (T.map intVals)) (hP : Sees w 1 aP P.length (intVals P))
    (hTl : T.length ≤ 17592186043904) (hPl : P.length ≤ 17592186043904) (hrl : ∀ t ∈ T, t.length ≤ 17592186043904) :
    Calls Try.prog 49 #[planV aT T.length cT aP P.length cP] w (KBool (K.mayPlan T P) w) := by
  have HK := Lib.hid ((Kept.refl [] w).alloc (.cells #[.slice aT T.length cT, .slice aP P.length cP] 32))
  have HB := Lib.hid (Arr.new w [.slice aT T.length cT, .slice aP P.length cP] 32)
  have HT := Lib.hid (hT.kept0 HK.out)
  have HP := Lib.hid (hP.kept0 HK.out)
  have HRL := Lib.hid hrl
  have b0 : (w.alloc (.cells #[.slice aT T.length cT, .slice aP P.length cP] 32)).cell? ⟨w.heap.size, 0, none⟩ = some (.slice aT T.length cT) := HB.out.cell (i := 0) rfl
  have b1 : (w.alloc (.cells #[.slice aT T.length cT, .slice aP P.length cP] 32)).cell? ⟨w.heap.size, 1, none⟩ = some (.slice aP P.length cP) := HB.out.cell (i := 1) rfl
  clear hT hP hrl
  unfold planV
  by_cases h1 : T.length < 2
  · have HN := Lib.hid (mayPlan_cnt (T := T) (P := P) (.inl (by omega)))
    have g1 : decide ((T.length : Int) < 2) = true := by simp; omega
    go_enter Try.func49, Try.ntmps49
    go_wp2_with fail
    go_ret
    exact ⟨by rw [HN.out]; rfl, HK.out⟩
  have g1 : decide ((T.length : Int) < 2) = false := by simp; omega
  by_cases h2 : 6 < T.length
  · have HN := Lib.hid (mayPlan_cnt (T := T) (P := P) (.inl (by omega)))
    have g2 : decide (6 < (T.length : Int)) = true := by simp; omega
    go_enter Try.func49, Try.ntmps49
    go_wp2_with fail
    go_ret
    exact ⟨by rw [HN.out]; rfl, HK.out⟩
  have g2 : decide (6 < (T.length : Int)) = false := by simp; omega
  by_cases h3 : P.length < 1
  · have HN := Lib.hid (mayPlan_cnt (T := T) (P := P) (.inr (by omega)))
    have g3 : decide ((P.length : Int) < 1) = true := by simp; omega
    go_enter Try.func49, Try.ntmps49
    go_wp2_with fail
    go_ret
    exact ⟨by rw [HN.out]; rfl, HK.out⟩
  have g3 : decide ((P.length : Int) < 1) = false := by simp; omega
  by_cases h4 : 32767 < P.length
  · have HN := Lib.hid (mayPlan_cnt (T := T) (P := P) (.inr (by omega)))
    have g4 : decide (32767 < (P.length : Int)) = true := by simp; omega
    go_enter Try.func49, Try.ntmps49
    go_wp2_with fail
    go_ret
    exact ⟨by rw [HN.out]; rfl, HK.out⟩
  have g4 : decide (32767 < (P.length : Int)) = false := by simp; omega
  obtain ⟨t0, ht0⟩ : ∃ t, T[0]? = some t := ⟨_, List.getElem?_eq_getElem (by omega)⟩
  have HT0 := Lib.hid (show (T.getD 0 []).length = t0.length by rw [List.getD, ht0]; rfl)
  obtain ⟨bT, oT, ar0, cr0, rfl, e0, -, -⟩ := HT.out.int ht0
  rw [Nat.add_zero] at e0
  obtain ⟨bP, oP, rfl, -⟩ := HP.out.at (by rw [intVals_length]; omega)
  have ht0l := HRL.out t0 (List.mem_of_getElem? ht0)
  have hpos : (0 : Int) < (T.length : Int) := by omega
  clear ht0 h1 h2 h3 h4
  go_enter Try.func49, Try.ntmps49
  go_wp2_with fail
  obtain ⟨W, hW⟩ : ∃ W, w.alloc (.cells #[.slice (some ⟨bT, oT, none⟩) T.length cT, .slice (some ⟨bP, oP, none⟩) P.length cP] 32) = W := ⟨_, rfl⟩
  rw [hW] at b0 b1 e0 HT HP HK ⊢
  clear hW HB
  have ht3 : Hid ((T.getD 0 []).length = t0.length) := HT0
  go_loopg [4] T.length (fun k v wr => ∃ i : Nat, k = T.length - i ∧ i ≤ T.length ∧ v = .int .i64 (i : Nat) ∧ Hid (∀ t ∈ T.take i, t.length = t0.length ∧ K.goodL t = true) ∧ W = wr)
  case atStart => exact ⟨0, by omega, by omega, rfl, Lib.hid (by simp), rfl⟩
  case round =>
    obtain ⟨i, hk, hi, rfl, HA, rfl⟩ := hrel
    have Hk := Lib.hid hk
    clear hk
    by_cases hlt : i < T.length
    · have hli : (i : Int) < (T.length : Int) := by omega
      obtain ⟨t, ht⟩ : ∃ t, T[i]? = some t := ⟨_, List.getElem?_eq_getElem hlt⟩
      obtain ⟨bT', oT', ar, cr, eT, d0, hsr, -⟩ := HT.out.int ht
      cases eT
      have htl := HRL.out t (List.mem_of_getElem? ht)
      have HTI := Lib.hid ht
      have HSR := Lib.hid hsr
      clear ht hsr
      by_cases k1 : t.length = t0.length
      · have q1 : ((t.length : Int) != (t0.length : Int)) = false := by simp; omega
        have K1 := Lib.hid k1
        clear k1
        cases hg : K.goodL t with
        | false =>
          have HN := Lib.hid (mayPlan_tab (P := P) HTI.out (by rw [Bool.eq_false_iff]; intro hh; rw [tableOk_iff, hg] at hh; exact absurd hh.2.2 (by simp)))
          have HC := Lib.hid (show checkR t = 80 by unfold checkR; rw [hg]; rfl)
          clear hg
          go_wp2_with fail
          refine (rcheck_any ar cr t _ HSR.out (by omega)).mono ?_
          rintro e w2 ⟨rfl, rfl⟩
          rw [HC.out]
          go_wp2_with fail
          go_ret
          exact ⟨by rw [HN.out]; rfl, HK.out⟩
        | true =>
          have HC := Lib.hid (show checkR t = 0 by unfold checkR; rw [hg]; rfl)
          have HG := Lib.hid hg
          clear hg
          go_wp2_with fail
          refine (rcheck_any ar cr t _ HSR.out (by omega)).mono ?_
          rintro e w2 ⟨rfl, rfl⟩
          rw [HC.out]
          go_wp2_with fail
          go_roundg (T.length - (i + 1))
          case measure => have := Hk.out; omega
          case rel =>
            refine ⟨i + 1, rfl, by omega, by simp, Lib.hid fun u hu => ?_, rfl⟩
            rw [List.take_add_one, HTI.out] at hu
            rcases List.mem_append.1 hu with h | h
            · exact HA.out u h
            · simp at h; rw [h]; exact ⟨K1.out, HG.out⟩
      · have q1 : ((t.length : Int) != (t0.length : Int)) = true := by simp; omega
        have HN := Lib.hid (mayPlan_tab (P := P) HTI.out (by rw [Bool.eq_false_iff]; intro hh; rw [tableOk_iff, HT0.out] at hh; omega))
        go_wp2_with fail
        go_ret
        exact ⟨by rw [HN.out]; rfl, HK.out⟩
    · obtain rfl : i = T.length := by omega
      have hll : ¬ (T.length : Int) < (T.length : Int) := by omega
      have hall := HA.out
      rw [List.take_of_length_le (Nat.le_refl _)] at hall
      have HALL := Lib.hid hall
      clear hall HA Hk
      go_wp2_with fail
      go_loopg [5] P.length (fun k v wr => ∃ i : Nat, k = P.length - i ∧ i ≤ P.length ∧ v = .int .i64 (i : Nat) ∧ Hid (∀ x ∈ P.take i, 0 ≤ x ∧ x < (T.length : Int)) ∧ Hid (Kept [] W wr))
      case atStart => exact ⟨0, by omega, by omega, rfl, Lib.hid (by simp), Lib.hid (Kept.refl _ _)⟩
      case round =>
        obtain ⟨i, hk, hi, rfl, HA, HKW⟩ := hrel
        have Hk := Lib.hid hk
        clear hk
        have c0 := HKW.out.cellOf b0 (by simp)
        have c1 := HKW.out.cellOf b1 (by simp)
        by_cases hlt : i < P.length
        · have hli : (i : Int) < (P.length : Int) := by omega
          obtain ⟨x, hx⟩ : ∃ x, P[i]? = some x := ⟨_, List.getElem?_eq_getElem hlt⟩
          have d0 := (HP.out.kept0 HKW.out).int hx
          have HX := Lib.hid hx
          clear hx
          by_cases k1 : x < 0
          · have q1 : decide (x < 0) = true := decide_eq_true k1
            have HN := Lib.hid (mayPlan_pick (T := T) HX.out (.inl k1))
            go_wp2_with fail
            go_quiet (fail)
            go_wp2_with fail
            go_ret
            exact ⟨by rw [HN.out]; rfl, HK.out.trans (HKW.out.drewN _) (by simp)⟩
          have q1 : decide (x < 0) = false := decide_eq_false k1
          by_cases k2 : (T.length : Int) ≤ x
          · have q2 : decide ((T.length : Int) ≤ x) = true := decide_eq_true k2
            have HN := Lib.hid (mayPlan_pick (T := T) HX.out (.inr k2))
            go_wp2_with fail
            go_quiet (fail)
            go_wp2_with fail
            go_ret
            exact ⟨by rw [HN.out]; rfl, HK.out.trans (HKW.out.drewN _) (by simp)⟩
          have q2 : decide ((T.length : Int) ≤ x) = false := decide_eq_false k2
          go_wp2_with fail
          go_quiet (fail)
          go_wp2_with fail
          go_roundg (P.length - (i + 1))
          case measure => have := Hk.out; omega
          case rel =>
            refine ⟨i + 1, rfl, by omega, by simp, Lib.hid fun y hy => ?_, Lib.hid (HKW.out.drewN _)⟩
            rw [List.take_add_one, HX.out] at hy
            rcases List.mem_append.1 hy with h | h
            · exact HA.out y h
            · simp at h; omega
        · obtain rfl : i = P.length := by omega
          have hll : ¬ (P.length : Int) < (P.length : Int) := by omega
          by_cases h3 : 3 ≤ t0.length
          · have q3 : decide (3 ≤ (t0.length : Int)) = true := by simp; omega
            have HY := Lib.hid (show K.mayPlan T P = true by
              have hb := HA.out
              rw [List.take_of_length_le (Nat.le_refl _)] at hb
              have a1 : 2 ≤ T.length ∧ T.length ≤ 6 := by simp at g1 g2; omega
              have a2 : 1 ≤ P.length ∧ P.length ≤ 32767 := by simp at g3 g4; omega
              refine mayPlan_yes a1 a2 (fun t ht => ?_) hb
              have := HALL.out t ht
              rw [tableOk_iff, HT0.out]
              exact ⟨this.1, by omega, this.2⟩)
            go_wp2_with fail
            go_ret
            exact ⟨by rw [HY.out]; rfl, HK.out.trans HKW.out (by simp)⟩
          · have q3 : decide (3 ≤ (t0.length : Int)) = false := by simp; omega
            have HN := Lib.hid (show K.mayPlan T P = false by
              obtain ⟨t1, ht1⟩ : ∃ t, T[0]? = some t := ⟨_, List.getElem?_eq_getElem (by simp at g1; omega)⟩
              refine mayPlan_tab (P := P) ht1 ?_
              rw [Bool.eq_false_iff]; intro hh; rw [tableOk_iff, HT0.out] at hh; omega)
            go_wp2_with fail
            go_ret
            exact ⟨by rw [HN.out]; rfl, HK.out.trans HKW.out (by simp)⟩
end Go.Proofs.Ytdaenajhgbagdaa
namespace Go.Proofs.Ytdaenajhgbagdaa
open Go.RowKit
set_option linter.unusedVariables false
set_option linter.unusedSimpArgs false

theorem Try.sizeI (w : World) : (Try.prog.info? 3).map (·.size) = some 1 := by kernel_rfl
theorem nv_get {l : List Nat} {i x : Nat} (h : l[i]? = some x) : (natVals l)[i]? = some (.int .i64 (x : Int)) := by simp [natVals, h]
def OrderPost (n : Nat) (w : World) (e : Ending) (w' : World) : Prop :=
  ∃ g, e = .returned (.slice (some ⟨g, 0, none⟩) n n) ∧ Row w' 3 (.slice (some ⟨g, 0, none⟩) n n) (natVals (List.range n)) ∧ Kept [] w w' ∧ w.heap.size ≤ g
theorem gorder_any (n : Nat) (w : World) (hn : n ≤ 1000) : Calls Try.prog 40 #[.int .i64 n] w (OrderPost n w) := by
  go_enter Try.func40, Try.ntmps40
  go_wp2_with ((at_make; refine wp_make1 rfl _ _ 30 rfl 3 (.int .i64 0) 8 Try.underlying30 Try.infoInt rfl .i64 .i64 _ _ n n rfl rfl rfl rfl (Nat.le_refl _) (by omega) (by simp only [maxLen]; omega) ?_; intro w1 hrow1 hk1))
  rw [show List.replicate n (Value.int .i64 0) = natVals (List.replicate n 0) by simp [natVals]] at hrow1
  obtain ⟨g, hg⟩ : ∃ g, w.heap.size = g := ⟨_, rfl⟩
  have HG := Lib.hid (show w.heap.size ≤ g by omega)
  rw [hg] at hrow1 ⊢
  have HR := Lib.hid hrow1
  have HK := Lib.hid hk1
  clear hrow1 hk1 hg
  go_loopg [9] n (fun k v wr => ∃ i : Nat, k = n - i ∧ i ≤ n ∧ v = .int .i64 (i : Nat) ∧ Hid (Row wr 3 (.slice (some ⟨g, 0, none⟩) n n) (natVals (List.range i ++ List.replicate (n - i) 0))) ∧ Hid (Kept [] w wr))
  case atStart => exact ⟨0, by omega, by omega, rfl, HR, HK⟩
  case round =>
    clear HR HK
    obtain ⟨i, hk, hi, rfl, HR, HK⟩ := hrel
    have Hk := Lib.hid hk
    clear hk
    by_cases hlt : i < n
    · have hli : (i : Int) < (n : Int) := by omega
      have hz : (List.range i ++ List.replicate (n - i) 0)[i]? = some 0 := by
        rw [List.getElem?_append_right (by simp), List.length_range, Nat.sub_self, List.getElem?_replicate, if_pos (by omega)]
      have c0 := HR.out.cellAt (nv_get hz)
      have f0 := HR.out.free i
      clear hz
      go_wp2_with fail
      go_roundg (n - (i + 1))
      case measure => have := Hk.out; omega
      case rel =>
        have h1 := HR.out.put i (.int .i64 (i : Int))
        have e : (natVals (List.range i ++ List.replicate (n - i) 0)).set i (.int .i64 (i : Int)) = natVals (List.range (i + 1) ++ List.replicate (n - (i + 1)) 0) := by
          unfold natVals
          rw [← List.map_set, List.set_append_right _ _ (by simp), List.length_range, Nat.sub_self, show n - i = (n - (i + 1)) + 1 by omega, List.replicate_succ, List.set_cons_zero, List.range_succ, List.append_assoc]
          rfl
        rw [e] at h1
        exact ⟨i + 1, by omega, by omega, by simp, Lib.hid h1, Lib.hid (HK.out.setCell (p := ⟨g, i, none⟩) (.inr HG.out) _)⟩
    · obtain rfl : i = n := by omega
      have hll : ¬ (i : Int) < (i : Int) := by omega
      go_wp2_with fail
      go_ret
      have h := HR.out
      rw [Nat.sub_self, List.replicate_zero, List.append_nil] at h
      exact ⟨g, rfl, h, HK.out, HG.out⟩
theorem natVals_oneC (l : List Nat) : ∀ u ∈ natVals l, u.oneCell' = true := by
  intro u hu
  obtain ⟨c, -, rfl⟩ := List.mem_map.1 hu
  rfl
set_option maxRecDepth 100000 in
theorem gmoved_ok (g c p : Nat) (l : List Nat) (w : World) (hp : p < l.length) (hc : l.length ≤ c) (hc1 : 2 ≤ c) (hl : l.length ≤ 1000) (h : Blk w g (natVals l)) :
    Calls Try.prog 41 #[.slice (some ⟨g, 0, none⟩) l.length c, .int .i64 p] w fun e w' => e = .returned (.int .i64 (l.getD p 0 : Nat)) ∧ Blk w' g (natVals (K.turned l p)) ∧ Kept [g] w w' := by
  have hget : l[p]? = some (l.getD p 0) := by rw [List.getD, List.getElem?_eq_getElem hp]; rfl
  have c0 := h.cell (nv_get hget)
  have hw1 : IntKind.i64.wrap ((p : Int) + 1) = (p : Int) + 1 := IntWalk.i64_in _ (by omega)
  have h0 : (0 : Int) ≤ (p : Int) + 1 := by omega
  have h1 : ((p : Int) + 1).toNat = p + 1 := by omega
  have h2 : (p : Int) ≤ (c : Int) := by omega
  have h3 : (p : Int) + 1 ≤ (c : Int) := by omega
  have h4 : (1 : Int) ≤ (p : Int) + 1 := by omega
  have h5 : (p : Int) < (l.length : Int) := by omega
  have hlen : ((natVals l).take p).length = p := by rw [List.length_take, natVals_length]; omega
  have hfit : 1 + ((natVals l).take p).length ≤ (natVals l).length := by rw [hlen, natVals_length]; omega
  have hsrc : ∀ j v, ((natVals l).take p)[j]? = some v → w.cell? ⟨g, j, none⟩ = some v := fun j v hj => h.cell (by
    rw [List.getElem?_take] at hj
    split at hj
    · exact hj
    · cases hj)
  have hmv := splice_moved (fun b : Nat => Value.int .i64 (b : Int)) l p hp
  have hdd : l.getD p default = l.getD p 0 := rfl
  have HB := Lib.hid h
  have HONE := Lib.hid (fun v (hv : v ∈ (natVals l).take p) => natVals_oneC l v (List.mem_of_mem_take hv))
  have HLEN := Lib.hid hlen
  have HFIT := Lib.hid hfit
  have HSRC := Lib.hid hsrc
  have HMV := Lib.hid hmv
  have hc2 : (1 : Int) < (c : Int) := by omega
  have hcn : ¬ c = 1 := by omega
  obtain ⟨x, hx⟩ : ∃ x, l.getD p 0 = x := ⟨_, rfl⟩
  have HX := Lib.hid hx
  rw [hx] at c0 ⊢
  clear h hlen hfit hsrc hmv hget hdd hx
  go_enter Try.func41, Try.ntmps41
  go_wp2_with fail
  have hpos : 0 < ((natVals l).take p).length → (some ⟨g, 1, none⟩ : Option Addr) = some ⟨g, 1, none⟩ ∧ ∃ ad : Addr, (some ⟨g, 0, none⟩ : Option Addr) = some ad ∧ ∀ j v, ((natVals l).take p)[j]? = some v → w.cell? (ad.add j) = some v :=
    fun _ => ⟨rfl, _, rfl, fun j v hj => by rw [Addr.add_lit, Nat.zero_add]; exact HSRC.out j v hj⟩
  have HPOS := Lib.hid hpos
  clear hpos
  go_region_held3 (fun w' => True) (exact trivial)
    (first
      | (refine step_copyBlk rfl _ _ 30 30 rfl 3 Try.underlying30 (Try.sizeI w) (some ⟨g, 1, none⟩) (some ⟨g, 0, none⟩) p (c - 1) p c rfl rfl g 1 (natVals l) ((natVals l).take p) (HB.out.kept (Kept.refl [] w).drew (by simp)) (by rw [HLEN.out]; exact (Nat.min_self p).symm) HPOS.out HFIT.out HONE.out ?_; intro w1 hb1 hk1))
  have hsl : (splice (natVals l) 1 ((natVals l).take p)).length = l.length := by rw [length_splice _ _ _ HFIT.out, natVals_length]
  have d0 := hb1.cell (List.getElem?_eq_getElem (show 0 < (splice (natVals l) 1 ((natVals l).take p)).length by rw [hsl]; omega))
  have f0 := hb1.free (show 0 < (splice (natVals l) 1 ((natVals l).take p)).length by rw [hsl]; omega)
  have hb2 := hb1.set 0 (.int .i64 (x : Int)) (by rw [hsl]; omega)
  have hb2 : Blk (w1.setCell ⟨g, 0, none⟩ (.int .i64 (x : Int))) g (natVals (K.turned l p)) := by
    have e := HMV.out
    have e2 : splice (natVals l) 1 ((natVals l).take p) = splice (l.map fun b : Nat => Value.int .i64 (b : Int)) 1 ((l.map fun b : Nat => Value.int .i64 (b : Int)).take p) := rfl
    rw [e2] at hb2
    have e3 : l.getD p default = x := HX.out
    rw [e3] at e
    rw [natVals, ← e]
    exact hb2
  have HB2 := Lib.hid hb2
  clear hb1 hb2
  go_wp2_with fail
  go_ret
  exact ⟨rfl, HB2.out, ((Kept.refl [g] w).drew.trans hk1 (fun x hx => .inl hx)).setCell (by simp) _⟩

theorem rints_any (a b : Option Addr) (ca cb : Nat) (xs ys : List Int) (w : World) (ha : Sees w 1 a xs.length (intVals xs)) (hb : Sees w 1 b ys.length (intVals ys)) (hl : xs.length ≤ 17592186043904) :
    Calls Try.prog 65 #[.slice a xs.length ca, .slice b ys.length cb] w (KBool (decide (xs = ys)) w) := by
  have HA := Lib.hid ha
  have HB := Lib.hid hb
  clear ha hb
  by_cases hne : xs.length = ys.length
  · have g1 : ((xs.length : Int) != (ys.length : Int)) = false := by simp; omega
    have HE := Lib.hid hne
    clear hne
    go_enter Try.func65, Try.ntmps65
    go_wp2_with fail
    go_loopg [5] xs.length (fun k v wr => ∃ i : Nat, k = xs.length - i ∧ i ≤ xs.length ∧ v = .int .i64 (i : Nat) ∧ Hid (xs.take i = ys.take i) ∧ Hid (Kept [] w wr))
    case atStart => exact ⟨0, by omega, by omega, rfl, Lib.hid rfl, Lib.hid (Kept.refl _ _)⟩
    case round =>
      obtain ⟨i, hk, hi, rfl, HS, HK⟩ := hrel
      have Hk := Lib.hid hk
      clear hk
      by_cases hlt : i < xs.length
      · have hli : (i : Int) < (xs.length : Int) := by omega
        have hli2 : (i : Int) < (ys.length : Int) := by have := HE.out; omega
        obtain ⟨x, hx⟩ : ∃ x, xs[i]? = some x := ⟨_, List.getElem?_eq_getElem hlt⟩
        obtain ⟨y, hy⟩ : ∃ y, ys[i]? = some y := ⟨_, List.getElem?_eq_getElem (by have := HE.out; omega)⟩
        obtain ⟨b1, o1, rfl, -⟩ := HA.out.at (by rw [intVals_length]; omega)
        obtain ⟨b2, o2, rfl, -⟩ := HB.out.at (by rw [intVals_length]; have := HE.out; omega)
        have d0 := (HA.out.kept0 HK.out).int hx
        have d1 := (HB.out.kept0 HK.out).int hy
        have HX := Lib.hid hx
        have HY := Lib.hid hy
        clear hx hy
        by_cases hxy : x = y
        · have q1 : (x != y) = false := by simp [hxy]
          have HXY := Lib.hid hxy
          clear hxy
          go_wp2_with fail
          go_quiet (fail)
          go_wp2_with fail
          go_roundg (xs.length - (i + 1))
          case measure => have := Hk.out; omega
          case rel => exact ⟨i + 1, rfl, by omega, by simp, Lib.hid (by rw [List.take_add_one, List.take_add_one, HX.out, HY.out, HS.out, HXY.out]), Lib.hid (HK.out.drewN _)⟩
        · have q1 : (x != y) = true := by simp [hxy]
          have HN := Lib.hid (show decide (xs = ys) = false by
            rw [decide_eq_false_iff_not]
            intro h
            have h1 := HX.out
            rw [h, HY.out] at h1
            exact hxy (by injection h1 with h1; exact h1.symm))
          go_wp2_with fail
          go_quiet (fail)
          go_wp2_with fail
          go_ret
          exact ⟨by rw [HN.out]; rfl, HK.out.drewN _⟩
      · obtain rfl : i = xs.length := by omega
        have hll : ¬ (xs.length : Int) < (xs.length : Int) := by omega
        have HY := Lib.hid (show decide (xs = ys) = true by
          rw [decide_eq_true_eq]
          have h := HS.out
          rw [List.take_of_length_le (Nat.le_refl _), List.take_of_length_le (by rw [HE.out]; exact Nat.le_refl _)] at h
          exact h)
        go_wp2_with fail
        go_ret
        exact ⟨by rw [HY.out]; rfl, HK.out⟩
  · have g1 : ((xs.length : Int) != (ys.length : Int)) = true := by simp; omega
    have HN := Lib.hid (show decide (xs = ys) = false by rw [decide_eq_false_iff_not]; intro h; exact hne (by rw [h]))
    go_enter Try.func65, Try.ntmps65
    go_wp2_with fail
    go_ret
    exact ⟨by rw [HN.out]; rfl, Kept.refl _ _⟩
end Go.Proofs.Ytdaenajhgbagdaa
namespace Go.Proofs.Ytdaenajhgbagdaa
open Go.RowKit
set_option linter.unusedVariables false
set_option linter.unusedSimpArgs false

/-- A plan can be read: its tables, its picks. -/
structure PlanAt (w : World) (aT aP : Option Addr) (cT cP : Nat) (T : List (List Int)) (P : List Int) : Prop where
  tabs : SeesM w aT T.length (T.map intVals)
  picks : Sees w 1 aP P.length (intVals P)
  tl : T.length ≤ 17592186043904
  pl : P.length ≤ 17592186043904
  rl : ∀ t ∈ T, t.length ≤ 17592186043904
theorem PlanAt.kept {w w' : World} {aT aP : Option Addr} {cT cP : Nat} {T : List (List Int)} {P : List Int} (h : PlanAt w aT aP cT cP T P) (hk : Kept [] w w') : PlanAt w' aT aP cT cP T P :=
  ⟨h.tabs.kept0 hk, h.picks.kept0 hk, h.tl, h.pl, h.rl⟩
/-- Two plans are one. -/
def sameP (T : List (List Int)) (P : List Int) (U : List (List Int)) (Q : List Int) : Bool := decide (T = U ∧ P = Q)
theorem sameP_self (T : List (List Int)) (P : List Int) : sameP T P T P = true := by simp [sameP]
set_option maxHeartbeats 1000000 in
theorem same_any (aT aP : Option Addr) (cT cP : Nat) (T : List (List Int)) (P : List Int) (aU aQ : Option Addr) (cU cQ : Nat) (U : List (List Int)) (Q : List Int) (w : World)
    (h1 : PlanAt w aT aP cT cP T P) (h2 : PlanAt w aU aQ cU cQ U Q) :
    Calls Try.prog 28 #[planV aT T.length cT aP P.length cP, planV aU U.length cU aQ Q.length cQ] w (KBool (sameP T P U Q) w) := by
  have hk : Kept [] w ((w.alloc (.cells #[.slice aT T.length cT, .slice aP P.length cP] 32)).alloc (.cells #[.slice aU U.length cU, .slice aQ Q.length cQ] 32)) := ((Kept.refl [] w).alloc _).alloc _
  have hA : Arr ((w.alloc (.cells #[.slice aT T.length cT, .slice aP P.length cP] 32)).alloc (.cells #[.slice aU U.length cU, .slice aQ Q.length cQ] 32)) w.heap.size 32 [.slice aT T.length cT, .slice aP P.length cP] :=
    (Arr.new w [.slice aT T.length cT, .slice aP P.length cP] 32).kept ((Kept.refl [] _).alloc _) (by simp)
  have hB : Arr ((w.alloc (.cells #[.slice aT T.length cT, .slice aP P.length cP] 32)).alloc (.cells #[.slice aU U.length cU, .slice aQ Q.length cQ] 32)) (w.heap.size + 1) 32 [.slice aU U.length cU, .slice aQ Q.length cQ] := by
    have h := Arr.new (w.alloc (.cells #[.slice aT T.length cT, .slice aP P.length cP] 32)) [.slice aU U.length cU, .slice aQ Q.length cQ] 32
    rwa [show (w.alloc (.cells #[.slice aT T.length cT, .slice aP P.length cP] 32)).heap.size = w.heap.size + 1 by simp] at h
  have p1 := h1.kept hk
  have p2 := h2.kept hk
  unfold planV
  have b0 : ((w.alloc (.cells #[.slice aT T.length cT, .slice aP P.length cP] 32)).alloc (.cells #[.slice aU U.length cU, .slice aQ Q.length cQ] 32)).cell? ⟨w.heap.size, 0, none⟩ = some (.slice aT T.length cT) := hA.cell (i := 0) rfl
  have b1 : ((w.alloc (.cells #[.slice aT T.length cT, .slice aP P.length cP] 32)).alloc (.cells #[.slice aU U.length cU, .slice aQ Q.length cQ] 32)).cell? ⟨w.heap.size, 1, none⟩ = some (.slice aP P.length cP) := hA.cell (i := 1) rfl
  have b2 : ((w.alloc (.cells #[.slice aT T.length cT, .slice aP P.length cP] 32)).alloc (.cells #[.slice aU U.length cU, .slice aQ Q.length cQ] 32)).cell? ⟨w.heap.size + 1, 0, none⟩ = some (.slice aU U.length cU) := hB.cell (i := 0) rfl
  have b3 : ((w.alloc (.cells #[.slice aT T.length cT, .slice aP P.length cP] 32)).alloc (.cells #[.slice aU U.length cU, .slice aQ Q.length cQ] 32)).cell? ⟨w.heap.size + 1, 1, none⟩ = some (.slice aQ Q.length cQ) := hB.cell (i := 1) rfl
  have HK := Lib.hid hk
  have hTl : T.length ≤ 17592186043904 := h1.tl
  have HP1 := Lib.hid p1
  have HP2 := Lib.hid p2
  clear hk p1 p2 h1 h2 hA hB
  by_cases hl : T.length = U.length
  · have g1 : ((T.length : Int) != (U.length : Int)) = false := by simp; omega
    have HL := Lib.hid hl
    clear hl
    go_enter Try.func28, Try.ntmps28
    go_wp2_with fail
    obtain ⟨W, hW⟩ : ∃ W, (w.alloc (.cells #[.slice aT T.length cT, .slice aP P.length cP] 32)).alloc (.cells #[.slice aU U.length cU, .slice aQ Q.length cQ] 32) = W := ⟨_, rfl⟩
    rw [hW] at b0 b1 b2 b3 HK HP1 HP2 ⊢
    clear hW
    refine (rints_any aP aQ cP cQ P Q _ HP1.out.picks HP2.out.picks HP1.out.pl).mono ?_
    rintro e w2 ⟨rfl, hk2⟩
    have HK2 := Lib.hid (HK.out.trans hk2 (by simp))
    have HQ1 := Lib.hid (HP1.out.kept hk2)
    have HQ2 := Lib.hid (HP2.out.kept hk2)
    have c0 := hk2.cellOf b0 (by simp)
    have c2 := hk2.cellOf b2 (by simp)
    clear hk2 b0 b1 b2 b3 HP1 HP2 HK
    by_cases hPQ : P = Q
    · have g2 : decide (P = Q) = true := decide_eq_true hPQ
      have HPQ := Lib.hid hPQ
      rw [g2]
      clear hPQ g2
      go_wp2_with fail
      go_loopg [5] T.length (fun k v wr => ∃ i : Nat, k = T.length - i ∧ i ≤ T.length ∧ v = .int .i64 (i : Nat) ∧ Hid (T.take i = U.take i) ∧ Hid (Kept [] w2 wr))
      case atStart => exact ⟨0, by omega, by omega, rfl, Lib.hid rfl, Lib.hid (Kept.refl _ _)⟩
      case round =>
        obtain ⟨i, hk, hi, rfl, HS, HKW⟩ := hrel
        have Hk := Lib.hid hk
        have d0 := HKW.out.cellOf c0 (by simp)
        have d2 := HKW.out.cellOf c2 (by simp)
        clear hk
        by_cases hlt : i < T.length
        · have hli : (i : Int) < (T.length : Int) := by omega
          have hli2 : (i : Int) < (U.length : Int) := by have := HL.out; omega
          obtain ⟨t, ht⟩ : ∃ t, T[i]? = some t := ⟨_, List.getElem?_eq_getElem hlt⟩
          obtain ⟨u, hu⟩ : ∃ t, U[i]? = some t := ⟨_, List.getElem?_eq_getElem (by have := HL.out; omega)⟩
          obtain ⟨b1, o1, ar, cr, rfl, e1, s1, -⟩ := (HQ1.out.tabs.kept0 HKW.out).int ht
          obtain ⟨b2, o2, as_, cs, rfl, e2, s2, -⟩ := (HQ2.out.tabs.kept0 HKW.out).int hu
          have htl := HQ1.out.rl t (List.mem_of_getElem? ht)
          have HTI := Lib.hid ht
          have HUI := Lib.hid hu
          have HS1 := Lib.hid s1
          have HS2 := Lib.hid s2
          obtain ⟨bb, hbb⟩ : ∃ bb, decide (t = u) = bb := ⟨_, rfl⟩
          have HC := Lib.hid (fun W (hW : Kept [] wr W) => show Calls Try.prog 65 #[.slice ar t.length cr, .slice as_ u.length cs] W (KBool bb W) by
            rw [← hbb]; exact rints_any ar as_ cr cs t u W (HS1.out.kept0 hW) (HS2.out.kept0 hW) htl)
          have HBB := Lib.hid hbb
          clear ht hu s1 s2 hbb
          cases bb with
          | true =>
            go_wp2_with fail
            go_region_held3 (fun w' => Kept [] wr w' ∧ w'.cell? ⟨w.heap.size, 0, none⟩ = some (.slice (some ⟨b1, o1, none⟩) T.length cT) ∧ w'.cell? ⟨w.heap.size + 1, 0, none⟩ = some (.slice (some ⟨b2, o2, none⟩) U.length cU) ∧ w'.cell? ⟨b1, o1 + i, none⟩ = some (.slice ar t.length cr) ∧ w'.cell? ⟨b2, o2 + i, none⟩ = some (.slice as_ u.length cs))
              (first | exact ⟨(Kept.refl _ _).drew, d0, d2, e1, e2⟩ | exact ⟨hk3, hk3.cellOf d0 (by simp), hk3.cellOf d2 (by simp), hk3.cellOf e1 (by simp), hk3.cellOf e2 (by simp)⟩)
              (first | (go_at_call 65; refine (HC.out _ (Kept.refl [] wr).drew).mono ?_; rintro e w3 ⟨rfl, hk3'⟩; have hk3 : Kept [] wr w3 := (Kept.refl [] wr).drew.trans hk3' (by simp)))
            rename_i hS
            clear hS
            have HK3 := Lib.hid (HKW.out.trans hk3 (by simp))
            clear hk3 d0 d2 e1 e2
            go_wp2_with fail
            go_roundg (T.length - (i + 1))
            case measure => have := Hk.out; omega
            case rel => exact ⟨i + 1, rfl, by omega, by simp, Lib.hid (by rw [List.take_add_one, List.take_add_one, HTI.out, HUI.out, HS.out, of_decide_eq_true HBB.out]), HK3⟩
          | false =>
            have HN := Lib.hid (show sameP T P U Q = false by
              unfold sameP
              rw [decide_eq_false_iff_not]
              rintro ⟨h, -⟩
              have h1 := HTI.out
              rw [h, HUI.out] at h1
              exact of_decide_eq_false HBB.out (by injection h1 with h1; exact h1.symm))
            go_wp2_with fail
            go_region_held3 (fun w' => Kept [] wr w' ∧ w'.cell? ⟨w.heap.size, 0, none⟩ = some (.slice (some ⟨b1, o1, none⟩) T.length cT) ∧ w'.cell? ⟨w.heap.size + 1, 0, none⟩ = some (.slice (some ⟨b2, o2, none⟩) U.length cU) ∧ w'.cell? ⟨b1, o1 + i, none⟩ = some (.slice ar t.length cr) ∧ w'.cell? ⟨b2, o2 + i, none⟩ = some (.slice as_ u.length cs))
              (first | exact ⟨(Kept.refl _ _).drew, d0, d2, e1, e2⟩ | exact ⟨hk3, hk3.cellOf d0 (by simp), hk3.cellOf d2 (by simp), hk3.cellOf e1 (by simp), hk3.cellOf e2 (by simp)⟩)
              (first | (go_at_call 65; refine (HC.out _ (Kept.refl [] wr).drew).mono ?_; rintro e w3 ⟨rfl, hk3'⟩; have hk3 : Kept [] wr w3 := (Kept.refl [] wr).drew.trans hk3' (by simp)))
            rename_i hS
            clear hS
            have HK3 := Lib.hid (HKW.out.trans hk3 (by simp))
            clear hk3 d0 d2 e1 e2
            go_wp2_with fail
            go_ret
            exact ⟨by rw [HN.out]; rfl, HK2.out.trans HK3.out (by simp)⟩
        · obtain rfl : i = T.length := by omega
          have hll : ¬ (T.length : Int) < (T.length : Int) := by omega
          have HY := Lib.hid (show sameP T P U Q = true by
            unfold sameP
            rw [decide_eq_true_eq]
            have h := HS.out
            rw [List.take_of_length_le (Nat.le_refl _), List.take_of_length_le (by rw [HL.out]; exact Nat.le_refl _)] at h
            exact ⟨h, HPQ.out⟩)
          go_wp2_with fail
          go_ret
          exact ⟨by rw [HY.out]; rfl, HK2.out.trans HKW.out (by simp)⟩
    · have g2 : decide (P = Q) = false := decide_eq_false hPQ
      have HN := Lib.hid (show sameP T P U Q = false by unfold sameP; rw [decide_eq_false_iff_not]; exact fun h => hPQ h.2)
      rw [g2]
      clear g2
      go_wp2_with fail
      go_ret
      exact ⟨by rw [HN.out]; rfl, HK2.out⟩
  · have g1 : ((T.length : Int) != (U.length : Int)) = true := by simp; omega
    have HN := Lib.hid (show sameP T P U Q = false by unfold sameP; rw [decide_eq_false_iff_not]; intro h; exact hl (by rw [h.1]))
    go_enter Try.func28, Try.ntmps28
    go_wp2_with fail
    go_ret
    exact ⟨by rw [HN.out]; rfl, HK.out⟩
end Go.Proofs.Ytdaenajhgbagdaa
namespace Go.Proofs.Ytdaenajhgbagdaa
open Go.RowKit
set_option linter.unusedVariables false
set_option linter.unusedSimpArgs false

def flT : List (List Int) := [[1, 2, 2], [1, 2, 2]]
/-- What flat leaves. -/
def KFlatPost (w : World) (e : Ending) (w' : World) : Prop := ∃ aT aP, e = .returned (planV aT 2 2 aP 1 1) ∧ PlanAt w' aT aP 2 1 flT [0] ∧ Kept [] w w'
theorem Arr.alloc {w : World} {g : Nat} {t : TypeId} {xs : List Value} (h : Arr w g t xs) (o : Obj) : Arr (w.alloc o) g t xs := h.kept ((Kept.refl [] w).alloc o) (by simp)
theorem Arr.newAt (w : World) (xs : List Value) (t : TypeId) (g : Nat) (h : w.heap.size = g) : Arr (w.alloc (.cells xs.toArray t)) g t xs := h ▸ Arr.new w xs t
theorem Arr.seesInts {w : World} {g : Nat} {xs : List Int} {n : Nat} {t : TypeId} (h : Arr w g t (intVals xs)) (hl : n = xs.length) : Sees w 1 (some ⟨g, 0, none⟩) n (intVals xs) :=
  ⟨by rw [intVals_length, hl, Nat.mul_one], fun j u hj => ⟨g, 0, rfl, by rw [Nat.zero_add]; exact h.cell hj⟩⟩
/-- The blocks that flat lays. -/
def flatW (w : World) (n : Nat) : World :=
  ((((w.alloc (.cells #[.slice (some ⟨n + 1 + 1 + 1, 0, none⟩) 2 2, .slice (some ⟨n + 1 + 1 + 1 + 1, 0, none⟩) 1 1] 32)).alloc (.cells #[.int .i64 1, .int .i64 2, .int .i64 2] 3)).alloc (.cells #[.int .i64 1, .int .i64 2, .int .i64 2] 3)).alloc
    (.cells #[.slice (some ⟨n + 1, 0, none⟩) 3 3, .slice (some ⟨n + 1 + 1, 0, none⟩) 3 3] 30)).alloc (.cells #[.int .i64 0] 3)
theorem flatW_ok (w : World) (n : Nat) (hn : w.heap.size = n) : PlanAt (flatW w n) (some ⟨n + 1 + 1 + 1, 0, none⟩) (some ⟨n + 1 + 1 + 1 + 1, 0, none⟩) 2 1 flT [0] ∧ Kept [] w (flatW w n) ∧
    (flatW w n).cell? ⟨n, 0, none⟩ = some (.slice (some ⟨n + 1 + 1 + 1, 0, none⟩) 2 2) ∧ (flatW w n).cell? ⟨n, 1, none⟩ = some (.slice (some ⟨n + 1 + 1 + 1 + 1, 0, none⟩) 1 1) := by
  have h0 : Arr (flatW w n) n 32 [.slice (some ⟨n + 1 + 1 + 1, 0, none⟩) 2 2, .slice (some ⟨n + 1 + 1 + 1 + 1, 0, none⟩) 1 1] := ((((Arr.newAt w _ _ n hn).alloc _).alloc _).alloc _).alloc _
  have h1 : Arr (flatW w n) (n + 1) 3 (intVals [1, 2, 2]) := (((Arr.newAt _ (intVals [1, 2, 2]) _ (n + 1) (by simp [hn])).alloc _).alloc _).alloc _
  have h2 : Arr (flatW w n) (n + 1 + 1) 3 (intVals [1, 2, 2]) := ((Arr.newAt _ (intVals [1, 2, 2]) _ (n + 1 + 1) (by simp [hn])).alloc _).alloc _
  have h3 : Arr (flatW w n) (n + 1 + 1 + 1) 30 [.slice (some ⟨n + 1, 0, none⟩) 3 3, .slice (some ⟨n + 1 + 1, 0, none⟩) 3 3] := (Arr.newAt _ [.slice (some ⟨n + 1, 0, none⟩) 3 3, .slice (some ⟨n + 1 + 1, 0, none⟩) 3 3] _ (n + 1 + 1 + 1) (by simp [hn])).alloc _
  have h4 : Arr (flatW w n) (n + 1 + 1 + 1 + 1) 3 (intVals [0]) := Arr.newAt _ (intVals [0]) _ (n + 1 + 1 + 1 + 1) (by simp [hn])
  refine ⟨⟨⟨[.slice (some ⟨n + 1, 0, none⟩) 3 3, .slice (some ⟨n + 1 + 1, 0, none⟩) 3 3], ⟨rfl, fun j u hj => ⟨_, _, rfl, by rw [Nat.zero_add]; exact h3.cell hj⟩⟩, rfl, fun j u r hj hr => ?_⟩, h4.seesInts rfl, by simp [flT], by simp, fun t ht => ?_⟩, ?_, h0.cell rfl, h0.cell rfl⟩
  · match j, hj, hr with
    | 0, hj, hr =>
      simp [flT] at hj hr
      subst hj; subst hr
      exact ⟨_, 3, rfl, h1.seesInts rfl, by simp [intVals], by simp [maxLen]⟩
    | 1, hj, hr =>
      simp [flT] at hj hr
      subst hj; subst hr
      exact ⟨_, 3, rfl, h2.seesInts rfl, by simp [intVals], by simp [maxLen]⟩
    | j + 2, hj, hr => simp at hj
  · simp [flT] at ht; rw [ht]; simp
  · exact (((((Kept.refl [] w).alloc _).alloc _).alloc _).alloc _).alloc _
theorem kflat_any (w : World) : Calls Try.prog 36 #[] w (KFlatPost w) := by
  obtain ⟨h1, h2, h3, h4⟩ := flatW_ok w w.heap.size rfl
  go_enter Try.func36, Try.ntmps36
  go_wp2_with fail
  unfold flatW at h3 h4
  refine bodyPost_ret (v := planV (some ⟨w.heap.size + 1 + 1 + 1, 0, none⟩) 2 2 (some ⟨w.heap.size + 1 + 1 + 1 + 1, 0, none⟩) 1 1) (by simp [results, Try.results36, go_sem, planV, h3, h4]) rfl ?_
  exact ⟨_, _, rfl, h1, h2⟩

/-- Is a plan small? -/
def lightN (T : List (List Int)) (P : List Int) : Nat := P.length + ((T.take 10).map List.length).sum
def lightP (T : List (List Int)) (P : List Int) : Bool := decide (lightN T P ≤ 3000) && decide (T.length ≤ 10)
theorem light_sum (T : List (List Int)) (P : List Int) (i : Nat) (h : ∀ t ∈ T, t.length ≤ 17592186043904) : ((T.take i).map List.length).sum ≤ 17592186043904 * i := by
  induction i with
  | zero => simp
  | succ i ih =>
    rw [List.take_add_one]
    cases ht : T[i]? with
    | none => rw [List.map_append, List.sum_append]; simp only [Option.toList, List.map_nil, List.sum_nil]; omega
    | some t =>
      have := h t (List.mem_of_getElem? ht)
      rw [List.map_append, List.sum_append]
      simp only [Option.toList, List.map_cons, List.map_nil, List.sum_cons, List.sum_nil]
      omega
theorem light_any (aT aP : Option Addr) (cT cP : Nat) (T : List (List Int)) (P : List Int) (w : World) (h : PlanAt w aT aP cT cP T P) :
    Calls Try.prog 15 #[planV aT T.length cT aP P.length cP] w (KBool (lightP T P) w) := by
  have hk : Kept [] w (w.alloc (.cells #[.slice aT T.length cT, .slice aP P.length cP] 32)) := (Kept.refl [] w).alloc _
  have p1 := h.kept hk
  have hA := Arr.new w [.slice aT T.length cT, .slice aP P.length cP] 32
  unfold planV
  have b0 := hA.cell (i := 0) (u := .slice aT T.length cT) rfl
  have b1 := hA.cell (i := 1) (u := .slice aP P.length cP) rfl
  have hTl := h.tl
  have hPl := h.pl
  have HPL := Lib.hid p1
  have HK := Lib.hid hk
  clear hA p1 hk h
  go_enter Try.func15, Try.ntmps15
  go_wp2_with fail
  obtain ⟨W, hW⟩ : ∃ W, w.alloc (.cells #[.slice aT T.length cT, .slice aP P.length cP] 32) = W := ⟨_, rfl⟩
  rw [hW] at b0 b1 HPL HK ⊢
  clear hW
  go_loopg [3, 4] (min T.length 10) (fun k v3 v wr => ∃ i : Nat, k = min T.length 10 - i ∧ i ≤ T.length ∧ i ≤ 10 ∧ v = .int .i64 (i : Nat) ∧ v3 = .int .i64 ((P.length + ((T.take i).map List.length).sum : Nat) : Int) ∧ W = wr)
  case atStart => exact ⟨0, by omega, by omega, by omega, rfl, by simp, rfl⟩
  case round =>
    obtain ⟨i, hk, hi, hi10, rfl, rfl, rfl⟩ := hrel
    have Hk := Lib.hid hk
    have HSB := Lib.hid (light_sum T P i HPL.out.rl)
    have hsb : P.length + ((T.take i).map List.length).sum ≤ 17592186043904 * 11 := by have := HSB.out; omega
    clear hk
    by_cases hlt : i < T.length
    · by_cases h10 : i < 10
      · have hli : (i : Int) < (T.length : Int) := by omega
        obtain ⟨t, ht⟩ : ∃ t, T[i]? = some t := ⟨_, List.getElem?_eq_getElem hlt⟩
        have htl := HPL.out.rl t (List.mem_of_getElem? ht)
        have HS := Lib.hid (show ((T.take (i + 1)).map List.length).sum = ((T.take i).map List.length).sum + t.length by rw [List.take_add_one, ht]; simp)
        obtain ⟨bT, oT, ar, cr, rfl, e0, -, -⟩ := HPL.out.tabs.int ht
        clear ht
        obtain ⟨s, hs⟩ : ∃ s, ((T.take i).map List.length).sum = s := ⟨_, rfl⟩
        rw [hs] at HS hsb ⊢
        clear hs HSB
        go_wp2_with fail
        go_roundg (min T.length 10 - (i + 1))
        case measure => have := Hk.out; omega
        case rel => exact ⟨i + 1, rfl, by omega, by omega, by simp, by rw [HS.out]; simp; omega, rfl⟩
      · have h10' : ¬ (i : Int) < 10 := by omega
        obtain rfl : i = 10 := by omega
        have HR := Lib.hid (show lightP T P = false by unfold lightP; rw [decide_eq_false (show ¬ T.length ≤ 10 by omega), Bool.and_false])
        have hT10 : ¬ (T.length : Int) ≤ 10 := by omega
        obtain ⟨s, hs⟩ : ∃ s, P.length + ((T.take 10).map List.length).sum = s := ⟨_, rfl⟩
        rw [hs] at hsb ⊢
        clear hs HSB
        by_cases hn : s ≤ 3000
        · have hn' : (s : Int) ≤ 3000 := by omega
          go_wp2_with fail
          go_ret
          exact ⟨by rw [HR.out]; simp, HK.out⟩
        · have hn' : ¬ (s : Int) ≤ 3000 := by omega
          go_wp2_with fail
          go_ret
          exact ⟨by rw [HR.out]; simp, HK.out⟩
    · obtain rfl : i = T.length := by omega
      have hll : ¬ (T.length : Int) < (T.length : Int) := by omega
      have HR := Lib.hid (show lightP T P = decide (P.length + ((T.take T.length).map List.length).sum ≤ 3000) by unfold lightP lightN; rw [decide_eq_true (show T.length ≤ 10 by omega), Bool.and_true, List.take_length, List.take_of_length_le (show T.length ≤ 10 by omega)])
      have hT10 : (T.length : Int) ≤ 10 := by omega
      obtain ⟨s, hs⟩ : ∃ s, P.length + ((T.take T.length).map List.length).sum = s := ⟨_, rfl⟩
      rw [hs] at hsb HR ⊢
      clear hs HSB
      by_cases hn : s ≤ 3000
      · have hn' : (s : Int) ≤ 3000 := by omega
        go_wp2_with fail
        go_ret
        exact ⟨by rw [HR.out, decide_eq_true hn]; simp; try omega, HK.out⟩
      · have hn' : ¬ (s : Int) ≤ 3000 := by omega
        go_wp2_with fail
        go_ret
        exact ⟨by rw [HR.out, decide_eq_false hn]; simp; try omega, HK.out⟩
end Go.Proofs.Ytdaenajhgbagdaa
