/-
  The walk of kistref08.Flat.
-/
import Derived.Test.YtcjkjknahalpnaaRefO
import Derived.Test.YtcjkjknahalpnaaHufH
import Derived.BigQuiet
namespace Go.Proofs.Ytcjkjknahalpnaa
open Go.RowKit
set_option linter.unusedVariables false
set_option linter.unusedSimpArgs false

theorem pow_big {k n : Nat} (h : 2 ^ k ≤ n) (hn : n ≤ 258) : k ≤ 8 := by
  rcases Nat.lt_or_ge k 9 with h' | h'
  · omega
  · have := Nat.pow_le_pow_right (n := 2) (by omega) h'
    omega
theorem ownN_get {xs : List Int} {i : Nat} {x : Int} (h : xs[i]? = some x) : (((ownN xs).getD i 0 : Nat) : Int) = clampI x := by
  have h1 : (ownN xs)[i]? = some (clampI x).toNat := by simp [ownN, h]
  have h2 := clampI_pos x
  rw [List.getD, h1, Option.getD_some]
  omega
theorem before_int {xs : List Int} {i j : Nat} {x y : Int} (hx : xs[i]? = some x) (hy : xs[j]? = some y) : K.before (ownN xs) i j = decide (clampI x < clampI y ∨ (clampI y = clampI x ∧ j < i)) := by
  have h1 := ownN_get hx
  have h2 := ownN_get hy
  unfold K.before
  apply decide_eq_decide.2
  omega
theorem rflat_bad (a : Option Addr) (c : Nat) (xs : List Int) (w : World) (h : Sees w 1 a xs.length (intVals xs)) (hl : xs.length ≤ 17592186043904) (hno : mayL xs = false) :
    Calls Try.prog 15 #[.slice a xs.length c] w (NatsPost ([], 2) w) := by
  have M := wrmay_any a c xs w h hl
  rw [hno] at M
  clear h hno
  go_enter Try.func15, Try.ntmps15
  go_wp2_with fail
  refine M.mono ?_
  rintro e w' ⟨rfl, rfl⟩
  go_wp2_with fail
  go_ret2
  exact .err rfl (Kept.refl _ _)

/-- So many symbols have got their flat lengths. -/
def FlatI (w0 : World) (xs : List Int) (go : Nat) (g : Nat) (v : Value) (wr : World) : Prop :=
  ∃ i : Nat, g = xs.length - i ∧ i ≤ xs.length ∧ v = .int .i64 (i : Nat) ∧ Hid (Row wr 3 (.slice (some ⟨go, 0, none⟩) xs.length xs.length) (natVals ((K.flatL (ownN xs)).take i ++ List.replicate (xs.length - i) 0))) ∧ Hid (Kept [] w0 wr)
/-- Those in front are counted. -/
def FrontI (w0 : World) (xs : List Int) (i : Nat) (g : Nat) (v8 v9 : Value) (wr : World) : Prop :=
  ∃ j f : Nat, g = xs.length - j ∧ j ≤ xs.length ∧ f ≤ j ∧ Hid (f = K.frontTo (ownN xs) i j) ∧ v8 = .int .i64 (f : Nat) ∧ v9 = .int .i64 (j : Nat) ∧ Hid (Kept [] w0 wr)
set_option maxHeartbeats 1000000 in
theorem rflat_good (a : Option Addr) (c : Nat) (xs : List Int) (w : World) (h : Sees w 1 a xs.length (intVals xs)) (hm : mayL xs = true) :
    Calls Try.prog 15 #[.slice a xs.length c] w (NatsPost (K.flatL (ownN xs), 0) w) := by
  obtain ⟨hx2, hx258, hall⟩ := mayL_get hm
  have M := wrmay_any a c xs w h (by omega)
  rw [hm] at M
  have HS := Lib.hid h
  obtain ⟨b, off, rfl, -⟩ := h.at (by rw [intVals_length]; omega)
  clear h hm hall
  go_enter Try.func15, Try.ntmps15
  go_wp2_with fail
  refine M.mono ?_
  rintro e w' ⟨rfl, rfl⟩
  clear M
  go_wp2_with fail
  go_loopg [5] 8 (fun g v wr => ∃ k : Nat, g = 9 - k ∧ 1 ≤ k ∧ k ≤ 8 ∧ Hid (2 ^ k ≤ xs.length) ∧ v = .int .i64 (k : Nat) ∧ w = wr)
  case atStart => exact ⟨1, by omega, by omega, by omega, Lib.hid hx2, rfl, rfl⟩
  case round =>
    obtain ⟨k, hg, hk1, hk8, HP, rfl, rfl⟩ := hrel
    have Hg := Lib.hid hg
    clear hg
    obtain ⟨t, ht⟩ : ∃ t, k + 1 = t := ⟨_, rfl⟩
    have hsub : (k : Int) + 1 = (t : Int) := by omega
    have hpw : (2 : Int) ^ t = ((2 ^ t : Nat) : Int) := by norm_cast
    have hp512 : 2 ^ t ≤ 512 := by
      have := Nat.pow_le_pow_right (n := 2) (by omega) (show t ≤ 9 by omega)
      omega
    have HT := Lib.hid ht
    obtain ⟨p, hp⟩ : ∃ p, 2 ^ t = p := ⟨_, rfl⟩
    have HPP := Lib.hid hp
    rw [hp] at hpw hp512
    have ht9 : t ≤ 9 := by omega
    have ht0 : (0 : Int) ≤ (t : Int) := by omega
    clear ht hp
    by_cases hle : p ≤ xs.length
    · have hlei : (p : Int) ≤ (xs.length : Int) := by omega
      go_wp2_with fail
      go_roundg (9 - t)
      case measure => have := Hg.out; have := HT.out; omega
      case rel => exact ⟨t, rfl, by omega, by rw [← HPP.out] at hle; exact pow_big hle hx258, Lib.hid (by rw [HPP.out]; exact hle), by first | rfl | simp, rfl⟩
    · have hlei : ¬ (p : Int) ≤ (xs.length : Int) := by omega
      have HLOG := Lib.hid (show Nat.log2 xs.length = k from K.log2_is (by omega) HP.out (by rw [HT.out, HPP.out]; omega))
      have hpos : 0 < xs.length := by omega
      go_wp2_with ((at_make; refine wp_make1 rfl _ _ 22 rfl 3 (.int .i64 0) 8 Try.underlying22 Try.infoInt rfl .i64 .i64 _ _ xs.length xs.length rfl rfl rfl rfl (Nat.le_refl _) (by omega) (by simp only [maxLen]; omega) ?_; intro w7 hrow7 hk7))
      rw [show List.replicate xs.length (Value.int .i64 0) = natVals (List.replicate xs.length 0) by simp [natVals]] at hrow7
      obtain ⟨go, hgo⟩ : ∃ go, w.heap.size = go := ⟨_, rfl⟩
      have HGO := Lib.hid (show w.heap.size ≤ go by omega)
      rw [hgo] at hrow7 ⊢
      have HROW := Lib.hid hrow7
      have HK7 := Lib.hid hk7
      clear hrow7 hk7 hgo Hg
      go_loopg [7] xs.length (fun g v wr => FlatI w xs go g v wr)
      case atStart => exact ⟨0, by omega, by omega, rfl, HROW, HK7⟩
      case round =>
        clear HROW HK7
        obtain ⟨i, hg, hi, rfl, HR, HK⟩ := hrel
        have Hg := Lib.hid hg
        clear hg
        obtain ⟨wq, rfl⟩ : ∃ wo : World, wo = wr := ⟨_, rfl⟩
        by_cases hlt : i < xs.length
        · have hli : (i : Int) < (xs.length : Int) := by omega
          obtain ⟨x, hx⟩ : ∃ x, xs[i]? = some x := ⟨_, List.getElem?_eq_getElem hlt⟩
          have HX := Lib.hid hx
          clear hx
          go_wp2_with fail
          go_loopg [8, 9] xs.length (fun g v8 v9 wr => FrontI wq xs i g v8 v9 wr)
          case atStart => exact ⟨0, 0, by omega, by omega, by omega, Lib.hid rfl, rfl, rfl, Lib.hid (Kept.refl _ _)⟩
          case round =>
            obtain ⟨j, f, hg, hj, hfj, HF, rfl, rfl, HKJ⟩ := hrel
            have Hgj := Lib.hid hg
            clear hg
            by_cases hjt : j < xs.length
            · have hji : (j : Int) < (xs.length : Int) := by omega
              obtain ⟨y, hy⟩ : ∃ y, xs[j]? = some y := ⟨_, List.getElem?_eq_getElem hjt⟩
              have c0 := ((HS.out.kept0 HK.out).kept0 HKJ.out).int HX.out
              have c1 := ((HS.out.kept0 HK.out).kept0 HKJ.out).int hy
              have HBF := Lib.hid (before_int HX.out hy)
              clear hy
              go_wp2_with fail
              go_upto_region 16 with (go_quiet (fail))
              have hcx : (if x < 1 then (1 : Int) else x) = clampI x := by unfold clampI; split <;> split <;> omega
              have hcy : (if y < 1 then (1 : Int) else y) = clampI y := by unfold clampI; split <;> split <;> omega
              rw [hcx, hcy]
              have HKN := Lib.hid (HKJ.out.drewN nq)
              generalize clampI x = A at *
              generalize clampI y = B at *
              clear hcx hcy c0 c1
              by_cases h1 : A < B
              · have g1 : decide (A < B) = true := by simp; omega
                have HFS := Lib.hid (show K.frontTo (ownN xs) i (j + 1) = f + 1 by
                  rw [K.frontTo_succ, HBF.out, ← HF.out, if_pos (by simp; omega)])
                go_wp2_with fail
                go_roundg (xs.length - (j + 1))
                case measure => have := Hgj.out; omega
                case rel => exact ⟨j + 1, f + 1, by omega, by omega, by omega, Lib.hid (by rw [HFS.out]), by simp, by simp, HKN⟩
              · have g1 : decide (A < B) = false := by simp; omega
                by_cases h2 : B = A
                · have g2 : (B == A) = true := by simp; omega
                  by_cases h3 : j < i
                  · have g3 : decide ((j : Int) < (i : Int)) = true := by simp; omega
                    have HFS := Lib.hid (show K.frontTo (ownN xs) i (j + 1) = f + 1 by
                      rw [K.frontTo_succ, HBF.out, ← HF.out, if_pos (by simp; omega)])
                    clear h2
                    go_wp2_with fail
                    go_roundg (xs.length - (j + 1))
                    case measure => have := Hgj.out; omega
                    case rel => exact ⟨j + 1, f + 1, by omega, by omega, by omega, Lib.hid (by rw [HFS.out]), by simp, by simp, HKN⟩
                  · have g3 : decide ((j : Int) < (i : Int)) = false := by simp; omega
                    have HFS := Lib.hid (show K.frontTo (ownN xs) i (j + 1) = f by
                      rw [K.frontTo_succ, HBF.out, ← HF.out, if_neg (by simp; omega)]; rfl)
                    clear h2
                    go_wp2_with fail
                    go_roundg (xs.length - (j + 1))
                    case measure => have := Hgj.out; omega
                    case rel => exact ⟨j + 1, f, by omega, by omega, by omega, Lib.hid (by rw [HFS.out]), by simp, by simp, HKN⟩
                · have g2 : (B == A) = false := by simp; omega
                  have HFS := Lib.hid (show K.frontTo (ownN xs) i (j + 1) = f by
                    rw [K.frontTo_succ, HBF.out, ← HF.out, if_neg (by simp; omega)]; rfl)
                  go_wp2_with fail
                  go_roundg (xs.length - (j + 1))
                  case measure => have := Hgj.out; omega
                  case rel => exact ⟨j + 1, f, by omega, by omega, by omega, Lib.hid (by rw [HFS.out]), by simp, by simp, HKN⟩
            · obtain rfl : j = xs.length := by omega
              have hll : ¬ (xs.length : Int) < (xs.length : Int) := by omega
              have HFR := Lib.hid (show f = K.frontN (ownN xs) i by rw [HF.out]; unfold K.frontN; rw [ownN_length])
              have HRJ := Lib.hid (HR.out.kept HKJ.out (by simp))
              have HKA := Lib.hid (HK.out.trans HKJ.out (by simp))
              have hz : ((K.flatL (ownN xs)).take i ++ List.replicate (xs.length - i) 0)[i]? = some 0 := by
                have e : ((K.flatL (ownN xs)).take i).length = i := by simp [K.flatL_length, ownN_length]; omega
                rw [List.getElem?_append_right (by omega), e, Nat.sub_self, List.getElem?_replicate, if_pos (by omega)]
              have c0 := HRJ.out.cellAt (natVals_get hz)
              have f0 := HRJ.out.free i
              have c1 := (HRJ.out.put i (.int .i64 (k : Int))).cellAt (j := i) (u := .int .i64 (k : Int)) (by rw [List.getElem?_set_self (by have := (List.getElem?_eq_some_iff.1 hz).1; rw [natVals_length]; exact this)])
              have f1 := (HRJ.out.put i (.int .i64 (k : Int))).free i
              have hset : ∀ v, K.flatAt xs.length f = v → ((K.flatL (ownN xs)).take i ++ List.replicate (xs.length - i) 0).set i v = (K.flatL (ownN xs)).take (i + 1) ++ List.replicate (xs.length - (i + 1)) 0 := by
                intro v hv
                have hfl : (K.flatL (ownN xs)).length = xs.length := by rw [K.flatL_length, ownN_length]
                rw [K.outS_start _ _ _ hlt, K.outS_set _ _ _ _ _ hlt hfl, ← K.outS_end _ _ _ hlt hfl, K.flatL_get _ _ (by rw [ownN_length]; exact hlt), ownN_length, ← HFR.out, hv]
              have HSET := Lib.hid hset
              have hflat : K.flatAt xs.length f = k + if p - xs.length ≤ f then 1 else 0 := by
                unfold K.flatAt
                rw [HLOG.out, HT.out, HPP.out]
              have HFLAT := Lib.hid hflat
              clear hz hset hflat
              by_cases hge : p - xs.length ≤ f
              · have hgei : (p : Int) - (xs.length : Int) ≤ (f : Int) := by omega
                go_wp2_with fail
                go_roundg (xs.length - (i + 1))
                case measure => have := Hg.out; omega
                case rel =>
                  have h1 := (HRJ.out.put i (.int .i64 (k : Int))).put i (.int .i64 ((t : Nat) : Int))
                  rw [List.set_set, ← natVals_set, HSET.out t (by rw [HFLAT.out, if_pos hge]; exact HT.out)] at h1
                  have h2 := (HKA.out.setCell (p := ⟨go, i, none⟩) (.inr HGO.out) (.int .i64 (k : Int))).setCell (p := ⟨go, i, none⟩) (.inr HGO.out) (.int .i64 ((t : Nat) : Int))
                  exact ⟨i + 1, by omega, by omega, by simp, Lib.hid h1, Lib.hid h2⟩
              · have hgei : ¬ (p : Int) - (xs.length : Int) ≤ (f : Int) := by omega
                go_wp2_with fail
                go_roundg (xs.length - (i + 1))
                case measure => have := Hg.out; omega
                case rel =>
                  have h1 := HRJ.out.put i (.int .i64 (k : Int))
                  rw [← natVals_set, HSET.out k (by rw [HFLAT.out, if_neg hge]; rfl)] at h1
                  have h2 := HKA.out.setCell (p := ⟨go, i, none⟩) (.inr HGO.out) (.int .i64 (k : Int))
                  exact ⟨i + 1, by omega, by omega, by simp, Lib.hid h1, Lib.hid h2⟩
        · obtain rfl : i = xs.length := by omega
          have hll : ¬ (xs.length : Int) < (xs.length : Int) := by omega
          have hfl : (K.flatL (ownN xs)).length = xs.length := by rw [K.flatL_length, ownN_length]
          have HFL := Lib.hid hfl
          clear hfl
          go_wp2_with fail
          go_ret2
          have h := HR.out
          rw [Nat.sub_self, List.replicate_zero, List.append_nil, List.take_of_length_le (by rw [HFL.out]; exact Nat.le_refl _), ← HFL.out] at h
          exact ⟨some ⟨go, 0, none⟩, _, by rw [HFL.out]; rfl, h, HK.out, by intro x hx; simp [footA] at hx; subst hx; exact HGO.out⟩
end Go.Proofs.Ytcjkjknahalpnaa
