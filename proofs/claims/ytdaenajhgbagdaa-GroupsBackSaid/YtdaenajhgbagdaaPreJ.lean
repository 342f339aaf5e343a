/-
  The walks of layer 9's references: Encode, begins.
-/
import Derived.Test.YtdaenajhgbagdaaPreI
import Derived.BigQuiet
namespace Go.Proofs.Ytdaenajhgbagdaa
open Go.RowKit
set_option linter.unusedVariables false
set_option linter.unusedSimpArgs false

theorem encR_put (xs list : List Int) : K.encR xs list = if (put9R xs list).2 = 0 then (K.pack (put9R xs list).1, (((put9R xs list).1.length : Nat) : Int), 0) else ([], 0, (put9R xs list).2) := by
  rcases Bool.eq_false_or_eq_true (K.goodL xs) with h | h
  · cases he : K.encP (K.natsOf xs) list with
    | none => rw [K.encR_none _ _ h he, put9R_none _ _ h he]; rfl
    | some B => rw [K.encR_some _ _ B h he, put9R_some _ _ B h he]; rfl
  · rw [K.encR_bad _ _ h, put9R_bad _ _ h]; rfl
theorem put9R_len (xs list : List Int) : (put9R xs list).1.length ≤ 20 * list.length ∧ (put9R xs list).2 ≤ 80 := by
  have key : ∀ (list : List Int) (B : List Bool), K.goodL xs = true → K.encP (K.natsOf xs) list = some B → B.length ≤ 20 * list.length := by
    intro list
    induction list with
    | nil => intro B _ hB; simp [K.encP] at hB; subst hB; simp
    | cons s r ih =>
      intro B hg hB
      by_cases hs : s < 0 ∨ ((K.natsOf xs).length : Int) ≤ s
      · rw [K.encP_none _ _ _ hs] at hB; cases hB
      · rw [K.encP_cons _ _ _ hs] at hB
        cases he : K.encP (K.natsOf xs) r with
        | none => rw [he] at hB; cases hB
        | some R =>
          rw [he] at hB
          have hB : K.symP (K.natsOf xs) s.toNat ++ R = B := by simpa using hB
          subst hB
          have hi : s.toNat < (K.natsOf xs).length := by omega
          have := ih R hg he
          have hx : (K.natsOf xs).getD s.toNat 0 ≤ 20 := by rw [List.getD, List.getElem?_eq_getElem hi]; exact (K.goodL_in hg _ (List.getElem_mem hi)).2
          rw [List.length_append, K.symP_length, List.length_cons]
          omega
  rcases Bool.eq_false_or_eq_true (K.goodL xs) with h | h
  · cases he : K.encP (K.natsOf xs) list with
    | none => rw [put9R_none _ _ h he]; simp
    | some B => rw [put9R_some _ _ B h he]; exact ⟨key list B h he, by simp⟩
  · rw [put9R_bad _ _ h]; simp
/-- In begins' loop: the first i codes are looked at. -/
def RBegI (w0 : World) (T : List (List Bool)) (B : List Bool) (k : Nat) (nv sv c : Value) (w : World) : Prop :=
  ∃ i m, i ≤ T.length ∧ k = T.length - i ∧ c = .int .i64 (i : Nat) ∧ nv = .int .i64 ((K.begTo T B i).1 : Nat) ∧ sv = .int .i64 (K.begTo T B i).2 ∧ w = w0.drewN m
/-- In the loop within: k bits are held against. -/
def RBegJ (w0 : World) (t B : List Bool) (k : Nat) (sv c : Value) (w : World) : Prop :=
  ∃ j m, j ≤ B.length ∧ k = B.length - j ∧ c = .int .i64 (j : Nat) ∧ sv = .bool (decide (B.length ≤ t.length ∧ B.take j = t.take j)) ∧ w = w0.drewN m
theorem bt_get (l : List Bool) (j : Nat) (h : j < l.length) : (bis l)[j]? = some (.int .i64 ((l.getD j false).toNat : Nat)) := bis_get l j h

set_option maxHeartbeats 1000000 in
theorem rbegins_any (a : Option Addr) (cap : Nat) (T : List (List Bool)) (b : Option Addr) (bc : Nat) (B : List Bool) (w : World) (hT : SeesM w a T.length (T.map bis)) (hB : Sees w 1 b B.length (bis B)) (hTl : T.length ≤ 1000) (hBl : B.length ≤ 1000) :
    Calls Try.prog 85 #[.slice a T.length cap, .slice b B.length bc] w fun e w' => e = .returned (.tuple #[.int .i64 ((K.begTo T B T.length).1 : Nat), .int .i64 (K.begTo T B T.length).2]) ∧ Kept [] w w' := by
  have HT := Lib.hid hT
  have HB := Lib.hid hB
  clear hT hB
  go_enter Try.func85, Try.ntmps85
  go_wp2_with fail
  go_loopg [6, 7, 8] T.length (fun k nv sv c wr => RBegI w T B k nv sv c wr)
  case atStart => exact ⟨0, 0, by omega, by omega, rfl, rfl, rfl, rfl⟩
  case round =>
    obtain ⟨i, m, hi, hk, rfl, rfl, rfl, rfl⟩ := hrel
    have Hk := Lib.hid hk
    have hble := K.begTo_le T B i
    clear hk
    by_cases hlt : i < T.length
    · have hli : (i : Int) < (T.length : Int) := by omega
      obtain ⟨t, ht⟩ : ∃ t, T[i]? = some t := ⟨_, List.getElem?_eq_getElem hlt⟩
      obtain ⟨bo, oo, ar, c, rfl, hc, hsr, -, -⟩ := HT.out.at i (bis t) (by rw [List.getElem?_map, ht]; rfl)
      rw [bis_length] at hc hsr
      have hgd : T.getD i [] = t := by rw [List.getD, ht]; rfl
      have HSR := Lib.hid hsr
      have HGD := Lib.hid hgd
      have hst : K.begTo T B (i + 1) = if B <+: t then ((K.begTo T B i).1 + 1, if t.length = B.length then (i : Int) else (K.begTo T B i).2) else K.begTo T B i := by rw [K.begTo, hgd]
      have HST := Lib.hid hst
      generalize hbn : (K.begTo T B i).1 = bn at hst hble ⊢
      generalize hbs : (K.begTo T B i).2 = bs at hst hble ⊢
      have HBN := Lib.hid hbn
      have HBS := Lib.hid hbs
      clear ht hsr hgd hst hbn hbs
      have hpre : (B <+: t) ↔ (B.length ≤ t.length ∧ B.take B.length = t.take B.length) := by
        rw [List.prefix_iff_eq_take, List.take_length]
        constructor
        · intro h
          refine ⟨?_, h⟩
          have := congrArg List.length h
          rw [List.length_take] at this
          omega
        · exact fun h => h.2
      have hmono : ∀ j, j ≤ B.length → B.take B.length = t.take B.length → B.take j = t.take j := by
        intro j hj h
        have := congrArg (List.take j) h
        rwa [List.take_take, List.take_take, Nat.min_eq_left hj] at this
      have HPRE := Lib.hid hpre
      have HMONO := Lib.hid hmono
      clear hpre hmono
      rcases Nat.lt_or_ge t.length B.length with htl | htl
      case' inl =>
        have hti : ¬ (B.length : Int) ≤ (t.length : Int) := by omega
        have hd0 : Value.bool false = .bool (decide (B.length ≤ t.length ∧ B.take 0 = t.take 0)) := by
          rw [decide_eq_false (by omega)]
        have HD0 := Lib.hid hd0
        clear hd0
        go_wp2_with fail
      case' inr =>
        have hti : (B.length : Int) ≤ (t.length : Int) := by omega
        have hd0 : Value.bool true = .bool (decide (B.length ≤ t.length ∧ B.take 0 = t.take 0)) := by
          rw [decide_eq_true ⟨htl, by simp⟩]
        have HD0 := Lib.hid hd0
        clear hd0
        go_wp2_with fail
      all_goals
        clear hti htl
        go_loopg [9, 10] B.length (fun k sv c wr => RBegJ w t B k sv c wr)
        case atStart => exact ⟨0, _, by omega, by omega, rfl, HD0.out, rfl⟩
        case round =>
          obtain ⟨j, m2, hj, hk, rfl, rfl, rfl⟩ := hrel
          have Hk2 := Lib.hid hk
          clear hk
          by_cases hP : B.length ≤ t.length ∧ B.take j = t.take j
          · rw [decide_eq_true hP]
            have HP := Lib.hid hP
            have htl := hP.1
            clear hP
            by_cases hlj : j < B.length
            · have hlji : (j : Int) < (B.length : Int) := by omega
              have hltj : (j : Int) < (t.length : Int) := by omega
              obtain ⟨bt, ot, har, hct⟩ := HSR.out.at (by rw [bis_length]; omega)
              obtain ⟨bb, ob, hab, hcb⟩ := HB.out.at (by rw [bis_length]; omega)
              have e1 := hct j _ (bt_get t j (by omega))
              have e2 := hcb j _ (bt_get B j hlj)
              have htk : ∀ l : List Bool, j < l.length → l.take (j + 1) = l.take j ++ [l.getD j false] := fun l hl => by
                rw [List.take_succ_eq_append_getElem hl, List.getD, List.getElem?_eq_getElem hl]; rfl
              have h1 := htk t (by omega)
              have h2 := htk B hlj
              obtain ⟨x, hx⟩ : ∃ x, t.getD j false = x := ⟨_, rfl⟩
              obtain ⟨y, hy⟩ : ∃ y, B.getD j false = y := ⟨_, rfl⟩
              rw [hx] at e1 h1
              rw [hy] at e2 h2
              have H1 := Lib.hid h1
              have H2 := Lib.hid h2
              subst har hab
              clear hct hcb htk h1 h2 hx hy
              by_cases hxy : x = y
              · subst hxy
                have hnew : Value.bool true = .bool (decide (B.length ≤ t.length ∧ B.take (j + 1) = t.take (j + 1))) := by
                  rw [decide_eq_true ⟨htl, by rw [H1.out, H2.out, HP.out.2]⟩]
                have HN := Lib.hid hnew
                clear hnew
                generalize x.toNat = xn at e1 e2
                go_wp2_with fail
                go_quiet (fail)
                go_wp2_with fail
                go_roundg (B.length - (j + 1))
                case measure => have := Hk2.out; omega
                case rel => exact ⟨j + 1, _, by omega, rfl, by go_num, HN.out, rfl⟩
              · have hnew : Value.bool false = .bool (decide (B.length ≤ t.length ∧ B.take (j + 1) = t.take (j + 1))) := by
                  rw [decide_eq_false]
                  rintro ⟨-, h⟩
                  rw [H1.out, H2.out, HP.out.2] at h
                  have h := List.append_cancel_left h
                  injection h with h
                  exact hxy h.symm
                have HN := Lib.hid hnew
                have hne : (((x.toNat : Nat) : Int) == ((y.toNat : Nat) : Int)) = false := by
                  rw [beq_eq_false_iff_ne]
                  intro h
                  apply hxy
                  cases x <;> cases y <;> simp at h ⊢
                clear hnew hxy
                generalize x.toNat = xn at e1 hne
                generalize y.toNat = yn at e2 hne
                go_wp2_with fail
                go_quiet (fail)
                go_wp2_with fail
                go_roundg (B.length - (j + 1))
                case measure => have := Hk2.out; omega
                case rel => exact ⟨j + 1, _, by omega, rfl, by go_num, HN.out, rfl⟩
            · obtain rfl : j = B.length := by omega
              have hst := HST.out
              rw [if_pos (HPRE.out.2 HP.out)] at hst
              have HST2 := Lib.hid hst
              clear hst
              by_cases hle : t.length = B.length
              · have hlei : (t.length : Int) = (B.length : Int) := by omega
                have hst := HST2.out
                rw [if_pos hle] at hst
                have HST3 := Lib.hid hst
                clear hst
                go_wp2_with fail
                go_roundg (T.length - (i + 1))
                case measure => have := Hk.out; omega
                case rel => exact ⟨i + 1, _, by omega, rfl, by go_num, by rw [HST3.out]; simp only [HBN.out]; go_num, by rw [HST3.out]; try simp only [HBS.out], rfl⟩
              · have hlei : ¬ (t.length : Int) = (B.length : Int) := by omega
                have hleb : ((t.length : Int) == (B.length : Int)) = false := by rw [beq_eq_false_iff_ne]; exact hlei
                have hst := HST2.out
                rw [if_neg hle] at hst
                have HST3 := Lib.hid hst
                clear hst
                go_wp2_with fail
                go_roundg (T.length - (i + 1))
                case measure => have := Hk.out; omega
                case rel => exact ⟨i + 1, _, by omega, rfl, by go_num, by rw [HST3.out]; simp only [HBN.out]; go_num, by rw [HST3.out]; try simp only [HBS.out], rfl⟩
          · rw [decide_eq_false hP]
            have hst := HST.out
            rw [if_neg (fun h => hP ⟨(HPRE.out.1 h).1, HMONO.out j hj (HPRE.out.1 h).2⟩)] at hst
            have HST2 := Lib.hid hst
            clear hst hP
            go_wp2_with fail
            go_roundg (T.length - (i + 1))
            case measure => have := Hk.out; omega
            case rel => exact ⟨i + 1, _, by omega, rfl, by go_num, by rw [HST2.out, HBN.out], by rw [HST2.out, HBS.out], rfl⟩
    · obtain rfl : i = T.length := by omega
      go_wp2_with fail
      go_ret2
      exact ⟨rfl, (Kept.refl _ _).drewN _⟩
end Go.Proofs.Ytdaenajhgbagdaa
