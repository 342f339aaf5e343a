/-
  The walks of groups.group and of Choose's closure cost; of layer 11's references part, pick, counts.
-/
import Derived.Test.YtdaenajhgbagdaaPlainI
import Derived.Test.YtdaenajhgbagdaaGrpX
import Derived.BigQuiet
namespace Go.Proofs.Ytdaenajhgbagdaa
open Go.RowKit
set_option linter.unusedVariables false
set_option linter.unusedSimpArgs false

/-- A group: its slice, and what that shows. -/
def GroupPost (xs : List Value) (k : Nat) (w : World) (e : Ending) (w' : World) : Prop :=
  ∃ a' c', e = .returned (.slice a' (K.groupL xs k).length c') ∧ Sees w 1 a' (K.groupL xs k).length (K.groupL xs k) ∧ w = w'
/-- The same, and where it lies. -/
def GroupPostF (a : Option Addr) (xs : List Value) (k : Nat) (w : World) (e : Ending) (w' : World) : Prop :=
  ∃ a' c', e = .returned (.slice a' (K.groupL xs k).length c') ∧ Sees w 1 a' (K.groupL xs k).length (K.groupL xs k) ∧ w = w' ∧ footA a' = footA a
theorem ggroup_foot (a : Option Addr) (c k : Nat) (xs : List Value) (w : World) (h : Sees w 1 a xs.length xs) (hc : xs.length ≤ c) (hcm : c ≤ maxLen) (hk : 50 * k < xs.length) (hl : xs.length ≤ 10000000) :
    Calls Try.prog 68 #[.slice a xs.length c, .int .i64 k] w (GroupPostF a xs k w) := by
  obtain ⟨H, hH⟩ : ∃ H, 50 * k + (K.groupL xs k).length = H := ⟨_, rfl⟩
  have hgl := K.groupL_length xs k
  obtain ⟨b, off, rfl, -⟩ := h.at (by omega)
  have hpart := h.part (50 * k) (K.groupL xs k).length (by omega) (a' := some ⟨b, off + 50 * k, none⟩) (by rintro - b' off' he; injection he with he; injection he with h1 h2; subst h1 h2; rfl)
  have he : (xs.drop (50 * k)).take (K.groupL xs k).length = K.groupL xs k := by
    rw [hgl]
    unfold K.groupL
    rw [List.take_eq_take_iff, List.length_drop]
    omega
  rw [he] at hpart
  have HP := Lib.hid hpart
  have hmin : min (xs.length : Int) (((k : Int) + 1) * 50) = (H : Int) := by omega
  have hz0 : (0 : Int) ≤ (k : Int) * 50 := by omega
  have hz1 : (k : Int) * 50 ≤ (H : Int) := by omega
  have hz2 : (H : Int) ≤ (c : Int) := by omega
  have hz3 : ((k : Int) * 50).toNat = 50 * k := by omega
  have hz4 : ¬ 50 * k = c := by omega
  have hz5 : ((H : Nat) : Int).toNat = H := by omega
  have HG := Lib.hid (show H - 50 * k = (K.groupL xs k).length by omega)
  clear hpart he hgl hH h
  go_enter Try.func68, Try.ntmps68
  go_wp2_with fail
  go_ret
  rw [HG.out]
  exact ⟨_, _, rfl, HP.out, rfl, rfl⟩
theorem ggroup_any (a : Option Addr) (c k : Nat) (xs : List Value) (w : World) (h : Sees w 1 a xs.length xs) (hc : xs.length ≤ c) (hcm : c ≤ maxLen) (hk : 50 * k < xs.length) (hl : xs.length ≤ 10000000) :
    Calls Try.prog 68 #[.slice a xs.length c, .int .i64 k] w (GroupPost xs k w) := by
  refine (ggroup_foot a c k xs w h hc hcm hk hl).mono ?_
  rintro e w' ⟨a', c', h1, h2, h3, -⟩
  exact ⟨a', c', h1, h2, h3⟩
theorem rpart_any (a : Option Addr) (c k : Nat) (xs : List Value) (w : World) (h : Sees w 1 a xs.length xs) (hc : xs.length ≤ c) (hcm : c ≤ maxLen) (hk : 50 * k < xs.length) (hl : xs.length ≤ 10000000) :
    Calls Try.prog 73 #[.slice a xs.length c, .int .i64 k] w (GroupPost xs k w) := by
  obtain ⟨H, hH⟩ : ∃ H, 50 * k + (K.groupL xs k).length = H := ⟨_, rfl⟩
  have hgl := K.groupL_length xs k
  obtain ⟨b, off, rfl, -⟩ := h.at (by omega)
  have hpart := h.part (50 * k) (K.groupL xs k).length (by omega) (a' := some ⟨b, off + 50 * k, none⟩) (by rintro - b' off' he; injection he with he; injection he with h1 h2; subst h1 h2; rfl)
  have he : (xs.drop (50 * k)).take (K.groupL xs k).length = K.groupL xs k := by
    rw [hgl]
    unfold K.groupL
    rw [List.take_eq_take_iff, List.length_drop]
    omega
  rw [he] at hpart
  have HP := Lib.hid hpart
  have hz0 : (0 : Int) ≤ 50 * (k : Int) := by omega
  have hz3 : (50 * (k : Int)).toNat = 50 * k := by omega
  have hz4 : ¬ 50 * k = c := by omega
  by_cases hb : (xs.length : Int) < 50 * (k : Int) + 50
  · have hz1 : 50 * (k : Int) ≤ (xs.length : Int) := by omega
    have hz2 : (xs.length : Int) ≤ (c : Int) := by omega
    have HG := Lib.hid (show xs.length - 50 * k = (K.groupL xs k).length by omega)
    clear hpart he hgl hH h
    go_enter Try.func73, Try.ntmps73
    go_wp2_with fail
    go_ret
    rw [HG.out]
    exact ⟨_, _, rfl, HP.out, rfl⟩
  · have hz1 : 50 * (k : Int) ≤ 50 * (k : Int) + 50 := by omega
    have hz2 : 50 * (k : Int) + 50 ≤ (c : Int) := by omega
    have hz5 : (50 * (k : Int) + 50).toNat = 50 * k + 50 := by omega
    have HG := Lib.hid (show (K.groupL xs k).length = 50 by omega)
    clear hpart he hgl hH h
    go_enter Try.func73, Try.ntmps73
    go_wp2_with fail
    go_ret
    exact ⟨some ⟨b, off + 50 * k, none⟩, c - 50 * k, by rw [HG.out]; rfl, HP.out, rfl⟩
theorem SeesM.nat {w : World} {a : Option Addr} {n : Nat} {T : List (List Nat)} (h : SeesM w a n (T.map natVals)) {i : Nat} {t : List Nat} (hi : T[i]? = some t) :
    ∃ b off ar c, a = some ⟨b, off, none⟩ ∧ w.cell? ⟨b, off + i, none⟩ = some (.slice ar t.length c) ∧ Sees w 1 ar t.length (natVals t) ∧ t.length ≤ c ∧ c ≤ maxLen := by
  have := h.at i (natVals t) (by rw [List.getElem?_map, hi]; rfl)
  rwa [natVals_length] at this
theorem groupN_lt (L : List Nat) (k : Nat) (h : k < K.groupsN L.length) : 50 * k < L.length := by unfold K.groupsN at h; omega
/-- The closure cost. -/
theorem gcost_any (gL gP gT m c n t k : Nat) (aL : Option Addr) (L : List Nat) (T : List (List Nat)) (w : World) (h0 : w.cell? ⟨gL, 0, none⟩ = some (.slice aL L.length c)) (h1 : Sees w 1 aL L.length (natVals L)) (hc : L.length ≤ c) (hcm : c ≤ maxLen)
    (h2 : w.cell? ⟨gP, 0, none⟩ = some (.slice (some ⟨gT, 0, none⟩) m m)) (h3 : SeesM w (some ⟨gT, 0, none⟩) m (T.map natVals)) (hT : K.GoodT n m T) (ht : t < m) (hm : m ≤ 6) (hk : 50 * k < L.length) (hl : L.length ≤ 1638350) (hL : ∀ s ∈ L, s < n) (hn : n ≤ 258) :
    Calls Try.prog 67 #[.int .i64 t, .int .i64 k, .pointer (some ⟨gL, 0, none⟩), .pointer (some ⟨gP, 0, none⟩)] w fun e w' => e = .returned (.int .i64 (K.costL (T.getD t []) (K.groupL L k) : Nat)) ∧ w = w' := by
  obtain ⟨row, hrow⟩ : ∃ r, T[t]? = some r := ⟨_, List.getElem?_eq_getElem (by rw [hT.1]; exact ht)⟩
  obtain ⟨hrl, hrb⟩ := hT.2 row (List.mem_of_getElem? hrow)
  rw [show T.getD t [] = row by rw [List.getD, hrow]; rfl]
  obtain ⟨b, off, ar, cr, hb, d0, hsr, -, -⟩ := h3.nat hrow
  injection hb with hb
  injection hb with hb1 hb2
  subst hb1 hb2
  rw [Nat.zero_add] at d0
  have hcost := K.costL_le row 20 hrb
  have G := ggroup_any aL c k (natVals L) w (by rw [natVals_length]; exact h1) (by rw [natVals_length]; exact hc) hcm (by rw [natVals_length]; exact hk) (by rw [natVals_length]; omega)
  rw [natVals_length] at G
  have hgm : K.groupL (natVals L) k = natVals (K.groupL L k) := K.groupL_map _ _ _
  have hgl : (K.groupL L k).length ≤ 50 := by rw [K.groupL_length]; omega
  have hgs : ∀ s ∈ K.groupL L k, s < row.length := by
    intro s hs
    rw [hrl]
    exact hL s (List.mem_of_mem_drop (List.mem_of_mem_take hs))
  unfold GroupPost at G
  rw [hgm, natVals_length] at G
  obtain ⟨g, hg⟩ : ∃ g, K.groupL L k = g := ⟨_, rfl⟩
  rw [hg] at G hgl hgs ⊢
  have HG := Lib.hid G
  have HC := Lib.hid hcost
  have HGS := Lib.hid hgs
  have HSR := Lib.hid hsr
  have htm : (t : Int) < (m : Int) := by omega
  clear G hcost hgs hsr hgm hg hrow hT h3 h1 hL hrb
  go_enter Try.func67, Try.ntmps67
  go_wp2_with fail
  refine HG.out.mono ?_
  rintro e w2 ⟨a2, c2, rfl, hs2, rfl⟩
  have HS2 := Lib.hid hs2
  clear hs2
  go_wp2_with fail
  go_loopg [7, 14] g.length (fun k v7 v wr => ∃ j : Nat, k = g.length - j ∧ j ≤ g.length ∧ v = .int .i64 (j : Nat) ∧ v7 = .int .i64 (K.costL row (g.take j) : Nat) ∧ w = wr)
  case atStart => exact ⟨0, by omega, by omega, rfl, by simp [K.costL], rfl⟩
  case round =>
    obtain ⟨j, hk, hj, rfl, rfl, rfl⟩ := hrel
    have Hk := Lib.hid hk
    have hcb : K.costL row (g.take j) ≤ 1000 := by
      have h1 := HC.out (g.take j)
      have h2 := List.length_take_le j g
      have h3 : (g.take j).length ≤ 50 := by rw [List.length_take]; omega
      have h4 : 20 * (g.take j).length ≤ 20 * 50 := Nat.mul_le_mul_left _ h3
      omega
    clear hk
    by_cases hlt : j < g.length
    · have hli : (j : Int) < (g.length : Int) := by omega
      obtain ⟨s, hs⟩ : ∃ s, g[j]? = some s := ⟨_, List.getElem?_eq_getElem hlt⟩
      have hsl := HGS.out s (List.mem_of_getElem? hs)
      have hsi : (s : Int) < (row.length : Int) := by omega
      obtain ⟨b2, o2, rfl, hc2⟩ := HS2.out.at (by rw [natVals_length]; omega)
      have e0 := hc2 j _ (nv_get hs)
      obtain ⟨b3, o3, rfl, hc3⟩ := HSR.out.at (by rw [natVals_length]; omega)
      obtain ⟨x, hx⟩ : ∃ x, row[s]? = some x := ⟨_, List.getElem?_eq_getElem hsl⟩
      have e1 := hc3 s _ (nv_get hx)
      have HSUM := Lib.hid (show K.costL row (g.take (j + 1)) = K.costL row (g.take j) + x by rw [K.costL_take row g j s hs, List.getD, hx]; rfl)
      have hxb : x ≤ 1000 := by
        have h1 := HC.out [s]
        have h2 : K.costL row [s] = x := by simp [K.costL, hx]
        rw [h2] at h1
        simp at h1; omega
      clear hs hc2 hc3 hx
      obtain ⟨S, hS⟩ : ∃ S, K.costL row (g.take j) = S := ⟨_, rfl⟩
      rw [hS] at HSUM hcb ⊢
      clear hS
      go_wp2_with fail
      go_roundg (g.length - (j + 1))
      case measure => have := Hk.out; omega
      case rel => exact ⟨j + 1, rfl, by omega, by simp, by rw [HSUM.out]; simp, rfl⟩
    · obtain rfl : j = g.length := by omega
      have hll : ¬ (g.length : Int) < (g.length : Int) := by omega
      go_wp2_with fail
      go_ret
      exact ⟨by simp, rfl⟩
/-- The reference's pick. -/
def RPickA (w0 : World) (T : List (List Nat)) (g : List Nat) (m : Nat) (k : Nat) (v5 v6 v : Value) (wr : World) : Prop :=
  ∃ t : Nat, k = m - t ∧ t ≤ m ∧ v = .int .i64 (t : Nat) ∧ v5 = .int .i64 (K.bestTo T g (t - 1) : Nat) ∧ v6 = .int .i64 (if t = 0 then 0 else (K.costL (T.getD (K.bestTo T g (t - 1)) []) g : Nat)) ∧ Hid (Kept [] w0 wr)
def RPickB (w0 : World) (row g : List Nat) (k : Nat) (v8 v : Value) (wr : World) : Prop :=
  ∃ j : Nat, k = g.length - j ∧ j ≤ g.length ∧ v = .int .i64 (j : Nat) ∧ v8 = .int .i64 (K.costL row (g.take j) : Nat) ∧ Hid (Kept [] w0 wr)
set_option maxHeartbeats 1000000 in
theorem rpick_any (aT aG : Option Addr) (m cT cG n : Nat) (g : List Nat) (T : List (List Nat)) (w : World) (h3 : SeesM w aT m (T.map natVals)) (hg : Sees w 1 aG g.length (natVals g)) (hT : K.GoodT n m T) (hm1 : 1 ≤ m) (hm : m ≤ 6) (hgl : g.length ≤ 50) (hgs : ∀ s ∈ g, s < n) (hn : n ≤ 258) :
    Calls Try.prog 72 #[.slice aT m cT, .slice aG g.length cG] w fun e w' => e = .returned (.int .i64 (K.bestTo T g (m - 1) : Nat)) ∧ Kept [] w w' := by
  have H3 := Lib.hid h3
  have HG := Lib.hid hg
  have HT := Lib.hid hT
  have HGS := Lib.hid hgs
  clear h3 hg hT hgs
  go_enter Try.func72, Try.ntmps72
  go_wp2_with fail
  go_loopg [5, 6, 7] m (fun k v5 v6 v wr => RPickA w T g m k v5 v6 v wr)
  case atStart => exact ⟨0, by omega, by omega, rfl, rfl, rfl, Lib.hid (Kept.refl _ _)⟩
  case round =>
    obtain ⟨t, hk, ht, rfl, rfl, rfl, HKW⟩ := hrel
    have Hk := Lib.hid hk
    clear hk
    by_cases hlt : t < m
    · have hli : (t : Int) < (m : Int) := by omega
      obtain ⟨row, hrow⟩ : ∃ r, T[t]? = some r := ⟨_, List.getElem?_eq_getElem (by rw [HT.out.1]; exact hlt)⟩
      obtain ⟨hrl, hrb⟩ := HT.out.2 row (List.mem_of_getElem? hrow)
      have HRT := Lib.hid (show T.getD t [] = row by rw [List.getD, hrow]; rfl)
      have HC := Lib.hid (K.costL_le row 20 hrb)
      have hbt := K.bestTo_le T g (t - 1)
      have hcb : K.costL (T.getD (K.bestTo T g (t - 1)) []) g ≤ 1000 := by
        obtain ⟨r2, hr2⟩ : ∃ r, T[K.bestTo T g (t - 1)]? = some r := ⟨_, List.getElem?_eq_getElem (by rw [HT.out.1]; omega)⟩
        rw [List.getD, hr2]
        have h1 := K.costL_le r2 20 (HT.out.2 r2 (List.mem_of_getElem? hr2)).2 g
        simp only [Option.getD_some]
        omega
      have HBT := Lib.hid (show K.bestTo T g t = if t = 0 then 0 else if K.costL row g < K.costL (T.getD (K.bestTo T g (t - 1)) []) g then t else K.bestTo T g (t - 1) by
        cases t with
        | zero => rfl
        | succ t => rw [K.bestTo, HRT.out]; simp)
      have HROW := Lib.hid hrow
      clear hrb hrow
      obtain ⟨best, hbest⟩ : ∃ best, K.bestTo T g (t - 1) = best := ⟨_, rfl⟩
      rw [hbest] at hcb HBT hbt ⊢
      obtain ⟨lc, hlc⟩ : ∃ lc, K.costL (T.getD best []) g = lc := ⟨_, rfl⟩
      rw [hlc] at hcb HBT ⊢
      have HLC := Lib.hid hlc
      clear hbest hlc
      obtain ⟨least, hleast⟩ : ∃ least : Nat, (if t = 0 then (0 : Int) else ((lc : Nat) : Int)) = (least : Int) := ⟨if t = 0 then 0 else lc, by split <;> rfl⟩
      have HLE := Lib.hid (show t ≠ 0 → least = lc by intro h; rw [if_neg h] at hleast; omega)
      have hlb : least ≤ 1000 := by
        by_cases h : t = 0
        · rw [if_pos h] at hleast; omega
        · rw [if_neg h] at hleast; omega
      rw [hleast]
      clear hleast
      go_wp2_with fail
      go_loopg [8, 9] g.length (fun k v8 v wr2 => RPickB wr row g k v8 v wr2)
      case atStart => exact ⟨0, by omega, by omega, rfl, by simp [K.costL], Lib.hid (Kept.refl _ _)⟩
      case round =>
        obtain ⟨j, hk, hj, rfl, rfl, HKV⟩ := hrel
        have Hk2 := Lib.hid hk
        have hcj : K.costL row (g.take j) ≤ 1000 := by
          have h1 := HC.out (g.take j)
          have h3 : (g.take j).length ≤ 50 := by rw [List.length_take]; omega
          have h4 : 20 * (g.take j).length ≤ 20 * 50 := Nat.mul_le_mul_left _ h3
          omega
        clear hk
        by_cases hlt2 : j < g.length
        · have hli2 : (j : Int) < (g.length : Int) := by omega
          obtain ⟨s, hs⟩ : ∃ s, g[j]? = some s := ⟨_, List.getElem?_eq_getElem hlt2⟩
          have hsl : s < row.length := by rw [hrl]; exact HGS.out s (List.mem_of_getElem? hs)
          have hsi : (s : Int) < (row.length : Int) := by omega
          have hkk := HKW.out.trans HKV.out (by simp)
          obtain ⟨b2, o2, rfl, hc2⟩ := (HG.out.kept0 hkk).at (by rw [natVals_length]; omega)
          have e0 := hc2 j _ (nv_get hs)
          obtain ⟨bT, oT, ar, cr, rfl, e2, hsr, -, -⟩ := (H3.out.kept0 hkk).nat HROW.out
          obtain ⟨b3, o3, rfl, hc3⟩ := hsr.at (by rw [natVals_length]; omega)
          obtain ⟨x, hx⟩ : ∃ x, row[s]? = some x := ⟨_, List.getElem?_eq_getElem hsl⟩
          have e1 := hc3 s _ (nv_get hx)
          have HSUM := Lib.hid (show K.costL row (g.take (j + 1)) = K.costL row (g.take j) + x by rw [K.costL_take row g j s hs, List.getD, hx]; rfl)
          have hxb : x ≤ 1000 := by
            have h1 := HC.out [s]
            have h2 : K.costL row [s] = x := by simp [K.costL, hx]
            rw [h2] at h1
            simp at h1; omega
          clear hs hc2 hc3 hx hsr hkk
          obtain ⟨S, hS⟩ : ∃ S, K.costL row (g.take j) = S := ⟨_, rfl⟩
          rw [hS] at HSUM hcj ⊢
          clear hS
          go_wp2_with fail
          go_quiet (fail)
          go_wp2_with fail
          go_roundg (g.length - (j + 1))
          case measure => have := Hk2.out; omega
          case rel => exact ⟨j + 1, rfl, by omega, by simp, by rw [HSUM.out]; simp, Lib.hid (HKV.out.drewN _)⟩
        · obtain rfl : j = g.length := by omega
          have hll : ¬ (g.length : Int) < (g.length : Int) := by omega
          rw [List.take_length] at hcj ⊢
          obtain ⟨S, hS⟩ : ∃ S, K.costL row g = S := ⟨_, rfl⟩
          rw [hS] at hcj HBT ⊢
          have HSS := Lib.hid hS
          have HKX := Lib.hid (HKW.out.trans HKV.out (by simp))
          clear hS Hk2
          by_cases ht0 : t = 0
          · have q1 : ((t : Int) == 0) = true := by simp; omega
            have HB := Lib.hid (show K.bestTo T g t = t by rw [HBT.out, if_pos ht0, ht0])
            clear ht0
            go_wp2_with fail
            go_roundg (m - (t + 1))
            case measure => have := Hk.out; omega
            case rel => exact ⟨t + 1, rfl, by omega, by simp, by rw [Nat.add_sub_cancel, HB.out], by rw [if_neg (by omega), Nat.add_sub_cancel, HB.out, HRT.out, HSS.out], HKX⟩
          · have q1 : ((t : Int) == 0) = false := by simp; omega
            have hle := HLE.out ht0
            subst hle
            by_cases hb : S < least
            · have q2 : S < least := hb
              have q2i : (S : Int) < (least : Int) := by omega
              have HB := Lib.hid (show K.bestTo T g t = t by rw [HBT.out, if_neg ht0, if_pos hb])
              clear ht0 hb
              go_wp2_with fail
              go_roundg (m - (t + 1))
              case measure => have := Hk.out; omega
              case rel => exact ⟨t + 1, rfl, by omega, by simp, by rw [Nat.add_sub_cancel, HB.out], by rw [if_neg (by omega), Nat.add_sub_cancel, HB.out, HRT.out, HSS.out], HKX⟩
            · have q2 : ¬ S < least := hb
              have q2i : ¬ (S : Int) < (least : Int) := by omega
              have HB := Lib.hid (show K.bestTo T g t = best by rw [HBT.out, if_neg ht0, if_neg hb])
              clear ht0 hb
              go_wp2_with fail
              go_roundg (m - (t + 1))
              case measure => have := Hk.out; omega
              case rel => exact ⟨t + 1, rfl, by omega, by simp, by rw [Nat.add_sub_cancel, HB.out], by rw [if_neg (by omega), Nat.add_sub_cancel, HB.out, HLC.out], HKX⟩
    · obtain rfl : t = m := by omega
      have hll : ¬ (t : Int) < (t : Int) := by omega
      go_wp2_with fail
      go_ret
      exact ⟨rfl, HKW.out⟩
/-- The reference's counts. -/
def RCntI (w0 w1 : World) (L P : List Nat) (t n g : Nat) (k : Nat) (v : Value) (wr : World) : Prop :=
  ∃ i : Nat, k = L.length - i ∧ i ≤ L.length ∧ v = .int .i64 (i : Nat) ∧ Hid (Row wr 3 (.slice (some ⟨g, 0, none⟩) n n) (natVals (K.cntAt L P t n i))) ∧ Hid (Kept [g] w1 wr) ∧ Hid (Kept [] w0 wr)
def CntPost (ws : List Nat) (w : World) (e : Ending) (w' : World) : Prop := ∃ g, e = .returned (.slice (some ⟨g, 0, none⟩) ws.length ws.length) ∧ Row w' 3 (.slice (some ⟨g, 0, none⟩) ws.length ws.length) (natVals ws) ∧ Kept [] w w' ∧ w.heap.size ≤ g
set_option maxHeartbeats 1000000 in
theorem rcounts_any (aL aP : Option Addr) (cL cP t n : Nat) (L P : List Nat) (w : World) (hL : Sees w 1 aL L.length (natVals L)) (hP : Sees w 1 aP P.length (natVals P)) (hl : L.length ≤ 10000000) (hp : L.length ≤ 50 * P.length) (hs : ∀ s ∈ L, s < n) (hn1 : 1 ≤ n) (hn : n ≤ 258) (ht : t ≤ 6) :
    Calls Try.prog 75 #[.slice aL L.length cL, .slice aP P.length cP, .int .i64 t, .int .i64 n] w (CntPost (K.cntAt L P t n L.length) w) := by
  have HL := Lib.hid hL
  have HP := Lib.hid hP
  have HS := Lib.hid hs
  clear hL hP hs
  unfold CntPost
  rw [K.cntAt_length]
  go_enter Try.func75, Try.ntmps75
  go_wp2_with ((at_make; refine wp_make1 rfl _ _ 30 rfl 3 (.int .i64 0) 8 Try.underlying30 Try.infoInt rfl .i64 .i64 _ _ n n rfl rfl rfl rfl (Nat.le_refl _) (by omega) (by simp only [maxLen]; omega) ?_; intro w2 hrow2 hk2))
  rw [show List.replicate n (Value.int .i64 0) = natVals (K.cntAt L P t n 0) by rw [K.cntAt_zero]; simp [natVals]] at hrow2
  obtain ⟨g, hg⟩ : ∃ g, w.heap.size = g := ⟨_, rfl⟩
  have HG := Lib.hid hg
  rw [hg] at hrow2 ⊢
  have HROW := Lib.hid hrow2
  have HK2 := Lib.hid hk2
  have HGF := Lib.hid (show Fresh w.heap.size [g] by intro x hx; simp at hx; omega)
  have HKG := Lib.hid (hk2.mono (T := [g]) (by simp))
  clear hrow2 hk2 hg
  go_loopg [10] L.length (fun k v wr => RCntI w w L P t n g k v wr)
  case atStart => exact ⟨0, by omega, by omega, rfl, HROW, HKG, HK2⟩
  case round =>
    clear HROW HKG HK2
    obtain ⟨i, hk, hi, rfl, HR, HKG, HKW⟩ := hrel
    have Hk := Lib.hid hk
    clear hk
    by_cases hlt : i < L.length
    · have hli : (i : Int) < (L.length : Int) := by omega
      have hPi : i / 50 < P.length := by omega
      obtain ⟨y, hy⟩ : ∃ y, P[i / 50]? = some y := ⟨_, List.getElem?_eq_getElem hPi⟩
      obtain ⟨x, hx⟩ : ∃ x, L[i]? = some x := ⟨_, List.getElem?_eq_getElem hlt⟩
      have hxn := HS.out x (List.mem_of_getElem? hx)
      obtain ⟨bP, oP, rfl, hcP⟩ := (HP.out.kept0 HKW.out).at (by rw [natVals_length]; omega)
      have d0 := hcP _ _ (nv_get hy)
      obtain ⟨bL, oL, rfl, hcL⟩ := (HL.out.kept0 HKW.out).at (by rw [natVals_length]; omega)
      have d1 := hcL _ _ (nv_get hx)
      have hPD : P.getD (i / 50) 0 = y := by rw [List.getD, hy]; rfl
      obtain ⟨j, hj⟩ : ∃ j, i / 50 = j := ⟨_, rfl⟩
      have hje : (i : Int) / 50 = (j : Int) := by omega
      rw [hj] at d0 hPi
      have hjP : (j : Int) < (P.length : Int) := by omega
      have hj0 : (0 : Int) ≤ (j : Int) := by omega
      clear hcP hcL
      by_cases he : y = t
      · have q1 : ((y : Int) == (t : Int)) = true := by simp; omega
        have hxi : (x : Int) < (n : Int) := by omega
        obtain ⟨c, hc⟩ : ∃ c, (K.cntAt L P t n i)[x]? = some c := ⟨_, List.getElem?_eq_getElem (by rw [K.cntAt_length]; exact hxn)⟩
        have hcb : c ≤ 10000000 := by
          have := K.cntAt_le L P t n i c (List.mem_of_getElem? hc)
          omega
        have d2 := HR.out.cellAt (nv_get hc)
        have f2 := HR.out.free x
        have HSET := Lib.hid (K.cntAt_hit L P t n i x (by rw [hPD]; exact he) hx c hc)
        clear hy hx hPD hj he hc
        go_wp2_with fail
        go_roundg (L.length - (i + 1))
        case measure => have := Hk.out; omega
        case rel =>
          have h1 := HR.out.put x (.int .i64 ((c + 1 : Nat) : Int))
          rw [← natVals_set, HSET.out] at h1
          have hkk : Kept [g] wr (wr.setCell ⟨g, x, none⟩ (.int .i64 ((c + 1 : Nat) : Int))) := (Kept.refl [g] wr).setCell (p := ⟨g, x, none⟩) (by simp) _
          exact ⟨i + 1, by omega, by omega, by simp, Lib.hid h1, Lib.hid (HKG.out.trans hkk (fun y hy => .inl hy)), Lib.hid (HKW.out.trans hkk (by intro y hy; simp at hy; subst hy; exact .inr (by have := HG.out; omega)))⟩
      · have q1 : ((y : Int) == (t : Int)) = false := by simp; omega
        have HSET := Lib.hid (K.cntAt_miss L P t n i (by rw [hPD]; exact he))
        clear hy hx hPD hj he
        go_wp2_with fail
        go_roundg (L.length - (i + 1))
        case measure => have := Hk.out; omega
        case rel => exact ⟨i + 1, by omega, by omega, by simp, by rw [HSET.out]; exact HR, HKG, HKW⟩
    · obtain rfl : i = L.length := by omega
      have hll : ¬ (L.length : Int) < (L.length : Int) := by omega
      go_wp2_with fail
      go_ret
      exact ⟨g, rfl, HR.out, HKW.out, by have := HG.out; omega⟩
end Go.Proofs.Ytdaenajhgbagdaa
