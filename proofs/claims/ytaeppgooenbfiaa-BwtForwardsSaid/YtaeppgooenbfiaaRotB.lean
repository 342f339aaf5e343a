/-
  The walks of slices.SortFunc and insertionSortCmpFunc at rotate's compare, a method value.
-/
import Derived.Test.YtaeppgooenbfiaaRotA
import Derived.Sort.WalkA
import Derived.Sort.LotA
import Derived.Sort.Lot0
namespace Go.Proofs.Ytaeppgooenbfiaa
open Go.RowKit Go.Sort
set_option linter.unusedVariables false
set_option linter.unusedSimpArgs false

/-- compare of some ranks, as a value. -/
def cmpV (a : Option Addr) (n c by_ : Nat) : Value := .func (.func 32) #[ranksV a n c by_] #[]
def ltR (n : Nat) (rank : List Nat) (by_ : Nat) (i j : Nat) : Bool := decide (K.cmpR n rank by_ i j < 0)
theorem ltR_iff (n : Nat) (rank : List Nat) (by_ i j : Nat) : ltR n rank by_ i j = true ↔ K.key1 rank i < K.key1 rank j ∨ (K.key1 rank i = K.key1 rank j ∧ (K.key2 n rank by_ i < K.key2 n rank by_ j ∨ (K.key2 n rank by_ i = K.key2 n rank by_ j ∧ i < j))) := by
  unfold ltR
  rw [decide_eq_true_iff, K.cmpR_neg]
  unfold K.kLt
  omega
theorem ltR_no (n : Nat) (rank : List Nat) (by_ i j : Nat) : ltR n rank by_ i j = false ↔ ¬ (K.key1 rank i < K.key1 rank j ∨ (K.key1 rank i = K.key1 rank j ∧ (K.key2 n rank by_ i < K.key2 n rank by_ j ∨ (K.key2 n rank by_ i = K.key2 n rank by_ j ∧ i < j)))) := by
  rw [← ltR_iff]; simp
theorem swoR (n : Nat) (rank : List Nat) (by_ : Nat) : SWO (ltR n rank by_) where
  irrefl x := by rw [ltR_no]; omega
  trans x y z h1 h2 := by rw [ltR_iff] at *; omega
  ntrans x y z h1 h2 := by rw [ltR_no] at *; omega

/-- What the sort's functions read and may write. -/
structure SortW (w0 : World) (g c n : Nat) (d : Array Nat) (w : World) : Prop where
  row : Row w 3 (.slice (some ⟨g, 0, none⟩) n c) (natVals d.toList)
  size : d.size = n
  lt : ∀ i, i < n → d[i]! < n
  kept : Kept [g] w0 w
theorem arr_get (d : Array Nat) (i : Nat) (hi : i < d.size) : d.toList[i]? = some d[i]! := by
  rw [Array.getElem?_toList, Array.getElem?_eq_getElem hi, getElem!_pos d i hi]
theorem SortW.cell {w0 w : World} {g c n : Nat} {d : Array Nat} (h : SortW w0 g c n d w) (i : Nat) (hi : i < n) : w.cell? ⟨g, i, none⟩ = some (.int .i64 (d[i]! : Nat)) :=
  h.row.cellAt (nat_get _ _ _ (arr_get d i (by rw [h.size]; exact hi)))
theorem SortW.kept0 {w0 w w' : World} {g c n : Nat} {d : Array Nat} (h : SortW w0 g c n d w) (hk : Kept [] w w') : SortW w0 g c n d w' :=
  ⟨h.row.kept hk (by simp), h.size, h.lt, h.kept.trans hk (by simp)⟩
theorem SortW.drew {w0 w : World} {g c n : Nat} {d : Array Nat} (h : SortW w0 g c n d w) : SortW w0 g c n d w.drew := ⟨h.row.drew, h.size, h.lt, h.kept.drew⟩
theorem swp_list (d : Array Nat) (i j : Nat) : (swp d i j).toList = (d.toList.set i d[j]!).set j d[i]! := by simp [swp]
theorem swp_lt {d : Array Nat} {n : Nat} (hs : d.size = n) (h : ∀ i, i < n → d[i]! < n) (i j : Nat) (hi : i < n) (hj : j < n) : ∀ k, k < n → (swp d i j)[k]! < n := by
  intro k hk
  rw [swp_get d (by omega) (by omega)]
  split
  · exact h i hi
  · split
    · exact h j hj
    · exact h k hk
theorem SortW.swap {w0 w : World} {g c n : Nat} {d : Array Nat} (h : SortW w0 g c n d w) (i j : Nat) (hi : i < n) (hj : j < n) :
    SortW w0 g c n (swp d i j) ((w.setCell ⟨g, i, none⟩ (.int .i64 (d[j]! : Nat))).setCell ⟨g, j, none⟩ (.int .i64 (d[i]! : Nat))) := by
  refine ⟨?_, by rw [swp_size]; exact h.size, swp_lt h.size h.lt i j hi hj, (h.kept.setCell (p := ⟨g, i, none⟩) (.inl (by simp)) _).setCell (p := ⟨g, j, none⟩) (.inl (by simp)) _⟩
  have := (h.row.put i (.int .i64 (d[j]! : Nat))).put j (.int .i64 (d[i]! : Nat))
  rw [nat_set, nat_set] at this
  rw [swp_list]
  exact this
theorem SortW.swap2 {w0 w : World} {g c n : Nat} {d : Array Nat} (h : SortW w0 g c n d w) (i j : Nat) (hij : i ≠ j) (hi : i < n) (hj : j < n) :
    SortW w0 g c n (swp d i j) ((w.setCell ⟨g, j, none⟩ (.int .i64 (d[i]! : Nat))).setCell ⟨g, i, none⟩ (.int .i64 (d[j]! : Nat))) := by
  refine ⟨?_, by rw [swp_size]; exact h.size, swp_lt h.size h.lt i j hi hj, (h.kept.setCell (p := ⟨g, j, none⟩) (.inl (by simp)) _).setCell (p := ⟨g, i, none⟩) (.inl (by simp)) _⟩
  have := (h.row.put j (.int .i64 (d[i]! : Nat))).put i (.int .i64 (d[j]! : Nat))
  rw [nat_set, nat_set] at this
  rw [swp_list, List.set_comm _ _ hij]
  exact this
/-- What compare reads. -/
structure CmpW (w0 : World) (g rb ro n by_ : Nat) (rank : List Nat) : Prop where
  sees : Sees w0 1 (some ⟨rb, ro, none⟩) n (natVals rank)
  len : rank.length = n
  small : ∀ x ∈ rank, x < 1000000000
  n9 : n ≤ 1000000000
  by12 : by_ ≤ 1000000000000
  ne : rb ≠ g
theorem CmpW.call {w0 w : World} {g c n rb ro by_ : Nat} {rank : List Nat} {d : Array Nat} (h : CmpW w0 g rb ro n by_ rank) (hW : SortW w0 g c n d w) (rc i j : Nat) (hi : i < n) (hj : j < n) :
    Calls Try.prog 32 #[ranksV (some ⟨rb, ro, none⟩) n rc by_, .int .i64 i, .int .i64 j] w fun e w' => e = .returned (.int .i64 (K.cmpR n rank by_ i j)) ∧ Kept [] w w' :=
  compare_ok rb ro n rc by_ i j rank w (h.sees.kept hW.kept (by intro x hx hm; simp [footA] at hx; simp at hm; have := h.ne; omega)) h.len h.small h.n9 hi hj h.by12

set_option maxHeartbeats 2000000 in
set_option maxRecDepth 100000 in
theorem insertion_ok (w0 : World) (g c n rb ro rc by_ : Nat) (rank : List Nat) (d : Array Nat) (a b : Nat) (w : World) (hC : CmpW w0 g rb ro n by_ rank) (hW : SortW w0 g c n d w) (hab : a ≤ b) (hb : b ≤ n) :
    Calls Try.prog 42 #[.slice (some ⟨g, 0, none⟩) n c, .int .i64 a, .int .i64 b, cmpV (some ⟨rb, ro, none⟩) n rc by_] w fun e w' => e = .returned (.tuple #[]) ∧ SortW w0 g c n (insertionSort (ltR n rank by_) d a b) w' := by
  have HC := Lib.hid hC
  have HW := Lib.hid hW
  have hn9 := hC.n9
  obtain ⟨R, hR⟩ : ∃ R, insOuter (ltR n rank by_) a b (a + 1) d = R := ⟨_, rfl⟩
  have hR2 : insertionSort (ltR n rank by_) d a b = R := hR
  rw [hR2]
  have HR := Lib.hid hR
  clear hC hW hR hR2
  unfold cmpV
  go_enter Try.func42, Try.ntmps42
  go_wp2_with fail
  go_loopg [8] (b - a) (fun k vi wr => ∃ (i : Nat) (di : Array Nat), vi = .int .i64 i ∧ a < i ∧ i ≤ b + 1 ∧ k + i = b + 1 ∧ Hid (SortW w0 g c n di wr) ∧ Hid (insOuter (ltR n rank by_) a b i di = R))
  case atStart => exact ⟨a + 1, d, by go_num, by omega, by omega, by omega, HW, HR⟩
  case round =>
    obtain ⟨i, di, rfl, hai, hib, hk, HI, HO⟩ := hrel
    have Hk := Lib.hid hk
    clear hk HW HR
    by_cases hlt : i < b
    · have hlti : (i : Int) < (b : Int) := by omega
      go_wp2_with fail
      go_loopg [9] i (fun k vj wr2 => ∃ (j : Nat) (dj : Array Nat), vj = .int .i64 j ∧ a ≤ j ∧ j ≤ i ∧ k = j ∧ Hid (SortW w0 g c n dj wr2) ∧ Hid (insInner (ltR n rank by_) a j dj = insInner (ltR n rank by_) a i di))
      case atStart => exact ⟨i, di, rfl, by omega, by omega, rfl, HI, Lib.hid rfl⟩
      case round =>
        obtain ⟨j, dj, rfl, haj, hji, hkj, HJ, HN⟩ := hrel
        have out : (j ≤ a ∨ ltR n rank by_ dj[j]! dj[j - 1]! = false) → insOuter (ltR n rank by_) a b (i + 1) dj = R := fun hs => by
          rw [← HO.out, insOuter_go _ _ _ _ _ hlt, ← HN.out, insInner_stop _ _ _ _ hs]
        have OUT := Lib.hid out
        have Hkj := Lib.hid hkj
        clear out hkj HI
        by_cases hja : a < j
        · have hjaz : (a : Int) < (j : Int) := by omega
          obtain ⟨jp, hjp⟩ : ∃ q, q + 1 = j := ⟨j - 1, by omega⟩
          have hj1 : j - 1 = jp := by omega
          rw [hj1] at OUT
          have c0 := HJ.out.cell j (by omega)
          have c1 := HJ.out.cell jp (by omega)
          have hx := HJ.out.lt j (by omega)
          have hy := HJ.out.lt jp (by omega)
          obtain ⟨x, hxd⟩ : ∃ x, dj[j]! = x := ⟨_, rfl⟩
          obtain ⟨y, hyd⟩ : ∃ y, dj[jp]! = y := ⟨_, rfl⟩
          have hsw := HJ.out
          rw [hxd] at c0 hx
          rw [hyd] at c1 hy
          rw [hxd, hyd] at OUT
          have hjw : IntKind.i64.wrap ((j : Int) - 1) = (jp : Int) := by rw [IntWalk.i64_in _ (by omega)]; omega
          have hjn : (j : Int) < (n : Int) := by omega
          have hjpn : (jp : Int) < (n : Int) := by omega
          obtain ⟨r, hr⟩ : ∃ r, K.cmpR n rank by_ x y = r := ⟨_, rfl⟩
          have hlr : ltR n rank by_ x y = decide (r < 0) := by unfold ltR; rw [hr]
          have HXD := Lib.hid hxd
          have HYD := Lib.hid hyd
          have HR2 := Lib.hid hr
          have HLR := Lib.hid hlr
          have HJP := Lib.hid hjp
          have HJ1 := Lib.hid hj1
          clear hxd hyd hr hlr hsw hjp hj1
          by_cases hneg : r < 0
          · have hdr : decide (r < 0) = true := decide_eq_true hneg
            go_wp2_with fail
            go_region_held3 (fun w' => SortW w0 g c n dj w' ∧ w'.cell? ⟨g, j, none⟩ = some (.int .i64 (x : Int)) ∧ w'.cell? ⟨g, jp, none⟩ = some (.int .i64 (y : Int)))
              (first | exact ⟨HJ.out, c0, c1⟩ | exact ⟨HJ.out.drew, c0, c1⟩ | exact ⟨hW2, hk2.cellOf c0 (by simp), hk2.cellOf c1 (by simp)⟩)
              (first | (go_at_call 32; refine (HC.out.call (SortW.drew HJ.out) rc x y hx hy).mono ?_; rintro e w2 ⟨he, hk2⟩; rw [HR2.out] at he; subst he; have hk2 : Kept [] wr w2 := (Kept.refl [] wr).drew.trans hk2 (by simp); have hW2 : SortW w0 g c n dj w2 := HJ.out.kept0 hk2))
            have d0 := hk2.cellOf c0 (by simp)
            have d1 := hk2.cellOf c1 (by simp)
            have f0 := hW2.row.free j
            have f1 := hW2.row.free jp
            have hjne : ¬ j = jp := by have := HJP.out; omega
            have hjne2 : ¬ jp = j := by have := HJP.out; omega
            have hsw := hW2.swap j jp (by have := HJP.out; omega) (by have := HJP.out; omega)
            have hsw2 := hW2.swap2 j jp hjne (by have := HJP.out; omega) (by have := HJP.out; omega)
            rw [HXD.out, HYD.out] at hsw hsw2
            have HSW := Lib.hid hsw
            have HSW2 := Lib.hid hsw2
            have hgo := insInner_go (ltR n rank by_) a j dj hja (by rw [HJ1.out, HXD.out, HYD.out, HLR.out]; exact hdr)
            rw [HJ1.out] at hgo
            have HGO := Lib.hid hgo
            clear hsw hsw2 hW2 hk2 c0 c1 hx hy hgo
            go_wp2_with fail
            go_region
            all_goals
              go_wp2_with fail
              go_roundg jp
              case measure => have := Hkj.out; have := HJP.out; omega
              case rel => exact ⟨jp, _, by go_num, by have := HJP.out; omega, by have := HJP.out; omega, rfl, (by first | exact Lib.hid (SortW.drew HSW.out) | exact Lib.hid (SortW.drew HSW2.out)), Lib.hid (HGO.out.symm.trans HN.out)⟩
          · have hdr : decide (r < 0) = false := decide_eq_false hneg
            go_wp2_with fail
            go_region_held3 (fun w' => SortW w0 g c n dj w' ∧ w'.cell? ⟨g, j, none⟩ = some (.int .i64 (x : Int)) ∧ w'.cell? ⟨g, jp, none⟩ = some (.int .i64 (y : Int)))
              (first | exact ⟨HJ.out, c0, c1⟩ | exact ⟨HJ.out.drew, c0, c1⟩ | exact ⟨hW2, hk2.cellOf c0 (by simp), hk2.cellOf c1 (by simp)⟩)
              (first | (go_at_call 32; refine (HC.out.call (SortW.drew HJ.out) rc x y hx hy).mono ?_; rintro e w2 ⟨he, hk2⟩; rw [HR2.out] at he; subst he; have hk2 : Kept [] wr w2 := (Kept.refl [] wr).drew.trans hk2 (by simp); have hW2 : SortW w0 g c n dj w2 := HJ.out.kept0 hk2))
            have hfin := OUT.out (.inr (by rw [HLR.out]; exact hdr))
            have HF := Lib.hid hfin
            have HW2 := Lib.hid hW2
            clear hfin OUT hW2 hk2 c0 c1 hx hy
            go_wp2_with fail
            go_roundg (b - i)
            case measure => have := Hk.out; omega
            case rel => exact ⟨i + 1, dj, by go_num, by omega, by omega, by omega, HW2, HF⟩
        · have hjaz : ¬ (a : Int) < (j : Int) := by omega
          have hfin := OUT.out (.inl (by omega))
          have HF := Lib.hid hfin
          clear hfin OUT
          go_wp2_with fail
          go_quiet (fail)
          go_wp2_with fail
          go_roundg (b - i)
          case measure => have := Hk.out; omega
          case rel => exact ⟨i + 1, dj, by go_num, by omega, by omega, by omega, Lib.hid (HJ.out.kept0 ((Kept.refl _ _).drewN _)), HF⟩
    · have hib2 : ¬ (i : Int) < (b : Int) := by omega
      have hfin := HO.out
      rw [insOuter_stop _ _ _ _ _ hlt] at hfin
      subst hfin
      go_wp2_with fail
      go_end0
      exact ⟨rfl, HI.out⟩
end Go.Proofs.Ytaeppgooenbfiaa
