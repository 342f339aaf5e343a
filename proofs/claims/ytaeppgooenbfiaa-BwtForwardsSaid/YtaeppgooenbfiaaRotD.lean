/-
  The walk of rotate.Order's own function again: ranks made anew out of the order.
-/
import Derived.Test.YtaeppgooenbfiaaRotC
namespace Go.Proofs.Ytaeppgooenbfiaa
open Go.RowKit Go.Sort
set_option linter.unusedVariables false
set_option linter.unusedSimpArgs false

theorem make_ints (n : Nat) (hn : n ≤ 1000000000) : ∃ Z : Array Value, Z.toList = List.replicate n (.int .i64 0) ∧ ∀ W : World, (Instr.makeSlice 23 (.int .i64 n) (.int .i64 n)).run Try.prog W = .ok (.slice (some ⟨W.heap.size, 0, none⟩) n n) (W.alloc (.cells Z 3)) := by
  obtain ⟨i, hi, h0, h1, h2⟩ := info_parts Try.infoInt
  refine ⟨madeCells (Value.int .i64 0).cells (n * i.size), ?_, fun W => ?_⟩
  · rw [h1, show (Value.int .i64 0).cells = #[Value.int .i64 0] from rfl, Nat.mul_one, toList_madeCells_one]
  · have := run_make (P := Try.prog) W 23 3 i (.int .i64 0) Try.underlying23 hi h0 .i64 .i64 n n (by omega) (by omega) (by rw [h2]; omega) (by omega)
    simpa using this
theorem Row.made (W : World) (n : Nat) (Z : Array Value) (hZ : Z.toList = List.replicate n (.int .i64 0)) (hn : n ≤ 1000000000) : Row (W.alloc (.cells Z 3)) 3 (.slice (some ⟨W.heap.size, 0, none⟩) n n) (List.replicate n (.int .i64 0)) := by
  have hs : Z.size = n := by rw [← Array.length_toList, hZ]; simp
  refine ⟨by simp, .inr ⟨W.heap.size, n, _, by simp, Nat.zero_le _, heap_alloc_new W _, by simp, by simp only [maxLen]; omega, by simp [hs], ?_⟩⟩
  rw [hZ]
  simp

/-- The new ranks, in a block of their own. -/
def AgainPost (n : Nat) (l : List Nat) (w : World) (e : Ending) (w' : World) : Prop :=
  ∃ h, e = .returned (.slice (some ⟨h, 0, none⟩) n n) ∧ Row w' 3 (.slice (some ⟨h, 0, none⟩) n n) (natVals l) ∧ Kept [] w w' ∧ w.heap.size ≤ h
def AgainI (w0 : World) (h n : Nat) (rank : List Nat) (by_ : Nat) (L : List Nat) (k : Nat) (v : Value) (w : World) : Prop :=
  ∃ i, 1 ≤ i ∧ i ≤ n ∧ k = n - i ∧ v = .int .i64 (i : Nat) ∧ Row w 3 (.slice (some ⟨h, 0, none⟩) n n) (natVals (K.again n rank by_ L (i - 1))) ∧ Kept [h] w0 w

set_option maxRecDepth 100000 in
set_option maxHeartbeats 2000000 in
theorem again_ok (nb ob g c rb ro rc n by_ : Nat) (rank L : List Nat) (w : World) (hcn : w.cell? ⟨nb, 0, none⟩ = some (.int .i64 (n : Int))) (hco : w.cell? ⟨ob, 0, none⟩ = some (.slice (some ⟨g, 0, none⟩) n c))
    (hL : Sees w 1 (some ⟨g, 0, none⟩) n (natVals L)) (hLl : L.length = n) (hLt : ∀ x ∈ L, x < n) (hS : Sees w 1 (some ⟨rb, ro, none⟩) n (natVals rank)) (hrl : rank.length = n) (hn1 : 1 ≤ n) (hn9 : n ≤ 1000000000) (hby : by_ ≤ 1000000000000) :
    Calls Try.prog 29 #[ranksV (some ⟨rb, ro, none⟩) n rc by_, .pointer (some ⟨nb, 0, none⟩), .pointer (some ⟨ob, 0, none⟩)] w (AgainPost n (K.again n rank by_ L (n - 1)) w) := by
  have hk0 : Kept [] w (w.alloc (.cells #[.slice (some ⟨rb, ro, none⟩) n rc, .int .i64 (by_ : Int)] 48)) := (Kept.refl _ _).alloc _
  have hX := heap_alloc_new w (.cells #[.slice (some ⟨rb, ro, none⟩) n rc, .int .i64 (by_ : Int)] 48)
  have hzX : (w.alloc (.cells #[.slice (some ⟨rb, ro, none⟩) n rc, .int .i64 (by_ : Int)] 48)).heap.size = w.heap.size + 1 := by simp
  have n0 : (w.alloc (.cells #[.slice (some ⟨rb, ro, none⟩) n rc, .int .i64 (by_ : Int)] 48)).cell? ⟨nb, 0, none⟩ = some (.int .i64 (n : Int)) := hk0.cellOf hcn (by simp)
  have HX := Lib.hid hX
  have HK0 := Lib.hid hk0
  have HCN := Lib.hid hcn
  have HCO := Lib.hid hco
  have HL := Lib.hid hL
  have HS := Lib.hid hS
  have HLT := Lib.hid hLt
  clear hk0 hX hcn hco hL hS hLt
  unfold ranksV
  go_enter Try.func29, Try.ntmps29
  go_wp2_with ((at_make; refine wp_make1 rfl _ _ 23 rfl 3 (.int .i64 0) 8 Try.underlying23 Try.infoInt rfl .i64 .i64 _ _ n n rfl rfl rfl rfl (Nat.le_refl _) (by omega) (by simp only [maxLen]; omega) ?_; intro w1 hrow1 hk1))
  generalize w.alloc (.cells #[.slice (some ⟨rb, ro, none⟩) n rc, .int .i64 (by_ : Int)] 48) = W0 at HX HK0 hzX n0 hrow1 hk1 ⊢
  rw [hzX] at hrow1
  generalize hg : w.heap.size + 1 = h at hrow1 ⊢
  have hhw : w.heap.size < h := by omega
  have hrow2 : Row w1 3 (.slice (some ⟨h, 0, none⟩) n n) (natVals (K.again n rank by_ L 0)) := by rw [show natVals (K.again n rank by_ L 0) = List.replicate n (.int .i64 0) by simp [K.again, natVals]]; exact hrow1
  have hgX : ¬ w.heap.size = h := by omega
  have hX1 := hk1.heap HX.out (by simp)
  have hk1w := HK0.out.new hk1 (by simp [Fresh])
  have hnbl := World.block_lt_of_cell? w _ HCN.out
  have hobl := World.block_lt_of_cell? w _ HCO.out
  have hgl : g < w.heap.size := HL.out.lt (by rw [natVals_length]; omega) g (by simp [footA])
  have hrbl : rb < w.heap.size := HS.out.lt (by rw [natVals_length]; omega) rb (by simp [footA])
  simp only at hnbl hobl
  have hkey : ∀ (W : World) (x : Nat), x < n → Kept [h] w W → Calls Try.prog 30 #[.agg #[.slice (some ⟨rb, ro, none⟩) n rc, .int .i64 (by_ : Int)], .int .i64 x] W fun e w' => e = .returned (.tuple #[.int .i64 (K.key1 rank x : Nat), .int .i64 (K.key2 n rank by_ x : Nat)]) ∧ Kept [] W w' := by
    intro W x hx hk
    have := key_ok rb ro n rc by_ x rank W (HS.out.kept hk (by intro y hy hm; simp [footA] at hy; simp at hm; omega)) hrl hn9 hx hby
    unfold ranksV at this
    exact this
  have HKEY := Lib.hid hkey
  have HKW := Lib.hid hk1w
  have HX1 := Lib.hid hX1
  have HROW2 := Lib.hid hrow2
  have HG := Lib.hid hg
  clear hrow1 hrow2 hk1 hk1w hX1 hkey n0 hg
  go_wp2_with fail
  go_loopg [6] (n - 1) (fun k v wr => AgainI w1 h n rank by_ L k v wr)
  case atStart => exact ⟨1, by omega, by omega, rfl, rfl, HROW2.out, Kept.refl _ _⟩
  case round =>
    obtain ⟨i, hi1, hi, hk, rfl, hrow, hkept⟩ := hrel
    have hkw : Kept [h] w wr := (HKW.out.mono (by simp)).trans hkept (by simp)
    have n0 := hkw.cellOf HCN.out (by simp; omega)
    have o0 := hkw.cellOf HCO.out (by simp; omega)
    have hxr := hkept.heap HX1.out (by simp; omega)
    have x0 : wr.cell? ⟨w.heap.size, 0, none⟩ = _ := cell_of_row wr w.heap.size 0 _ _ _ hxr
    have x1 : wr.cell? ⟨w.heap.size, 1, none⟩ = _ := cell_of_row wr w.heap.size 1 _ _ _ hxr
    simp at x0 x1
    have Hk := Lib.hid hk
    have HROW := Lib.hid hrow
    have HKE := Lib.hid hkept
    have HKR := Lib.hid hkw
    clear hk hrow hkept hxr
    by_cases hlt : i < n
    · have hli : (i : Int) < (n : Int) := by omega
      obtain ⟨j, hj⟩ : ∃ j, j + 1 = i := ⟨i - 1, by omega⟩
      have hij : i - 1 = j := by omega
      have hjw : IntKind.i64.wrap ((i : Int) - 1) = (j : Int) := by rw [IntWalk.i64_in _ (by omega)]; omega
      have hjn : (j : Int) < (n : Int) := by omega
      have hSL := HL.out.kept HKR.out (by intro y hy hm; simp [footA] at hy; simp at hm; omega)
      obtain ⟨p, hp⟩ : ∃ p, L.getD j 0 = p := ⟨_, rfl⟩
      obtain ⟨q, hq⟩ : ∃ q, L.getD i 0 = q := ⟨_, rfl⟩
      have hLp : L[j]? = some p := by rw [← hp, List.getD, List.getElem?_eq_getElem (by omega)]; rfl
      have hLq : L[i]? = some q := by rw [← hq, List.getD, List.getElem?_eq_getElem (by omega)]; rfl
      have hpn : p < n := HLT.out p (List.mem_of_getElem? hLp)
      have hqn : q < n := HLT.out q (List.mem_of_getElem? hLq)
      have cp := hSL.natC hLp
      have cq := hSL.natC hLq
      rw [Nat.zero_add] at cp cq
      have hag : K.again n rank by_ L (j + 1) = (K.again n rank by_ L j).set q ((K.again n rank by_ L j).getD p 0 + K.step1 n rank by_ p q) := by rw [K.again, hp, hj, hq]
      rw [hj] at hag
      have HR := HROW.out
      rw [hij] at HR
      have hPl := K.again_length n rank by_ L j
      have hPle := K.again_le n rank by_ L j
      generalize K.again n rank by_ L j = P at hag HR hPl hPle
      obtain ⟨u, hu⟩ : ∃ u, P.getD p 0 = u := ⟨_, rfl⟩
      obtain ⟨v, hv⟩ : ∃ v, P.getD q 0 = v := ⟨_, rfl⟩
      have hPp : P[p]? = some u := by rw [← hu, List.getD, List.getElem?_eq_getElem (by omega)]; rfl
      have hPq : P[q]? = some v := by rw [← hv, List.getD, List.getElem?_eq_getElem (by omega)]; rfl
      have hu9 : u ≤ j := hPle u (List.mem_of_getElem? hPp)
      rw [hu] at hag
      have HAG := Lib.hid hag
      have HRR := Lib.hid HR
      have HPP := Lib.hid hPp
      have HPQ := Lib.hid hPq
      have HIJ := Lib.hid hij
      have HJJ := Lib.hid hj
      have hpi : (p : Int) < (n : Int) := by omega
      have hqi : (q : Int) < (n : Int) := by omega
      have huw : IntKind.i64.wrap ((u : Int) + 1) = (u : Int) + 1 := IntWalk.i64_in _ (by omega)
      clear hSL hp hq hLp hLq hag HR hPl hPle hu hv hPp hPq hij hj
      go_wp2_with fail
      go_region_held3 (fun w' => Kept [] wr w' ∧ w'.cell? ⟨w.heap.size, 0, none⟩ = some (.slice (some ⟨rb, ro, none⟩) n rc) ∧ w'.cell? ⟨w.heap.size, 1, none⟩ = some (.int .i64 (by_ : Int)) ∧ w'.cell? ⟨ob, 0, none⟩ = some (.slice (some ⟨g, 0, none⟩) n c) ∧ w'.cell? ⟨g, j, none⟩ = some (.int .i64 (p : Int)))
        (first | exact ⟨Kept.refl _ _, x0, x1, o0, cp⟩ | exact ⟨(Kept.refl [] wr).drew, x0, x1, o0, cp⟩ | exact ⟨hk5, hk5.cellOf x0 (by simp), hk5.cellOf x1 (by simp), hk5.cellOf o0 (by simp), hk5.cellOf cp (by simp)⟩)
        (first | (go_at_call 30; refine (HKEY.out _ p hpn (HKR.out.drew)).mono ?_; rintro e w5 ⟨rfl, hk5⟩; have hk5 : Kept [] wr w5 := (Kept.refl [] wr).drew.trans hk5 (by simp)))
      have x0 := hk5.cellOf x0 (by simp)
      have x1 := hk5.cellOf x1 (by simp)
      have o0 := hk5.cellOf o0 (by simp)
      have cp := hk5.cellOf cp (by simp)
      have cq := hk5.cellOf cq (by simp)
      have n0 := hk5.cellOf n0 (by simp)
      have HK5 := Lib.hid hk5
      clear hk5
      go_wp2_with fail
      go_region_held3 (fun w' => Kept [] w5 w' ∧ w'.cell? ⟨w.heap.size, 0, none⟩ = some (.slice (some ⟨rb, ro, none⟩) n rc) ∧ w'.cell? ⟨w.heap.size, 1, none⟩ = some (.int .i64 (by_ : Int)) ∧ w'.cell? ⟨ob, 0, none⟩ = some (.slice (some ⟨g, 0, none⟩) n c) ∧ w'.cell? ⟨g, i, none⟩ = some (.int .i64 (q : Int)))
        (first | exact ⟨Kept.refl _ _, x0, x1, o0, cq⟩ | exact ⟨(Kept.refl [] w5).drew, x0, x1, o0, cq⟩ | exact ⟨hk6, hk6.cellOf x0 (by simp), hk6.cellOf x1 (by simp), hk6.cellOf o0 (by simp), hk6.cellOf cq (by simp)⟩)
        (first | (go_at_call 30; refine (HKEY.out _ q hqn ((HKR.out.trans HK5.out (by simp)).drew)).mono ?_; rintro e w6 ⟨rfl, hk6⟩; have hk6 : Kept [] w5 w6 := (Kept.refl [] w5).drew.trans hk6 (by simp)))
      have o0 := hk6.cellOf o0 (by simp)
      have cp := hk6.cellOf cp (by simp)
      have cq := hk6.cellOf cq (by simp)
      have n0 := hk6.cellOf n0 (by simp)
      have hk56 : Kept [] wr w6 := HK5.out.trans hk6 (by simp)
      have hr6 := HRR.out.kept hk56 (by simp)
      have u0 := hr6.cellAt (nat_get _ _ _ HPP.out)
      have v0 := hr6.cellAt (nat_get _ _ _ HPQ.out)
      have fq := hr6.free q
      have hput := hr6.put q (.int .i64 (u : Int))
      have hgh : ¬ g = h := by omega
      have hobh : ¬ ob = h := by omega
      have HR6 := Lib.hid hr6
      have HK6 := Lib.hid (HKE.out.trans hk56 (by simp))
      have HPUT := Lib.hid hput
      clear x0 x1 hk6 hk56 hr6 hput
      go_wp2_with fail
      go_region
      have hq2 : (P.set q u)[q]? = some u := by
        rw [List.getElem?_set, if_pos rfl, if_pos (List.getElem?_eq_some_iff.1 HPQ.out).1]
      have hput := HPUT.out
      rw [nat_set] at hput
      have hK7 : Kept [h] w6 (w6.setCell ⟨h, q, none⟩ (.int .i64 (u : Int))).drew := ((Kept.refl [h] w6).setCell (p := ⟨h, q, none⟩) (.inl (by simp)) _).drew
      have hr7 : Row (w6.setCell ⟨h, q, none⟩ (.int .i64 (u : Int))).drew 3 (.slice (some ⟨h, 0, none⟩) n n) (natVals (P.set q u)) := hput.drew
      generalize (w6.setCell ⟨h, q, none⟩ (.int .i64 (u : Int))).drew = w7 at hK7 hr7 ⊢
      have o7 := hK7.cellOf o0 (by simp; omega)
      have q7 := hK7.cellOf cq (by simp; omega)
      have u7 := hr7.cellAt (nat_get _ _ _ hq2)
      have f7 := hr7.free q
      have hput7 := hr7.put q (.int .i64 ((u + 1 : Nat) : Int))
      rw [nat_set, List.set_set] at hput7
      have HPUT7 := Lib.hid hput7
      have HR7 := Lib.hid hr7
      have HK7 := Lib.hid (HK6.out.trans hK7 (by simp))
      clear hput hK7 hr7 hput7 hq2 o0 cp cq u0 v0 fq n0
      by_cases hd : K.diff n rank by_ p q
      · have hs1 : K.step1 n rank by_ p q = 1 := by unfold K.step1; rw [if_pos hd]
        have HS1 := Lib.hid hs1
        have e9 : ((u + 1 : Nat) : Int) = (u : Int) + 1 := by omega
        have HE9 := Lib.hid e9
        unfold K.diff at hd
        clear hs1 e9
        generalize K.key1 rank p = p1 at hd ⊢
        generalize K.key1 rank q = q1 at hd ⊢
        generalize K.key2 n rank by_ p = p2 at hd ⊢
        generalize K.key2 n rank by_ q = q2 at hd ⊢
        have fin : AgainI w1 h n rank by_ L (n - (i + 1)) (.int .i64 ((i : Int) + 1)) (w7.setCell ⟨h, q, none⟩ (.int .i64 ((u : Int) + 1))) := by
          refine ⟨i + 1, by omega, by omega, rfl, by go_num, ?_, HK7.out.setCell (p := ⟨h, q, none⟩) (.inl (by simp)) _⟩
          rw [Nat.add_sub_cancel, HAG.out, HS1.out, ← HE9.out]
          exact HPUT7.out
        have FIN := Lib.hid fin
        clear fin
        by_cases h1 : p1 = q1
        · have k1 : ((p1 : Int) != (q1 : Int)) = false := by simp [h1]
          have k1' : (p1 != q1) = false := by simp [h1]
          have k2 : ((p2 : Int) != (q2 : Int)) = true := bne_iff_ne.2 (by omega)
          have k2' : (p2 != q2) = true := bne_iff_ne.2 (by omega)
          clear h1 hd
          go_wp2_with fail
          go_roundg (n - (i + 1))
          case measure => have := Hk.out; omega
          case rel => exact FIN.out
        · have k1 : ((p1 : Int) != (q1 : Int)) = true := bne_iff_ne.2 (by omega)
          have k1' : (p1 != q1) = true := bne_iff_ne.2 (by omega)
          clear h1 hd
          go_wp2_with fail
          go_roundg (n - (i + 1))
          case measure => have := Hk.out; omega
          case rel => exact FIN.out
      · have hs1 : K.step1 n rank by_ p q = 0 := by unfold K.step1; rw [if_neg hd]
        have HS1 := Lib.hid hs1
        unfold K.diff at hd
        clear hs1
        generalize K.key1 rank p = p1 at hd ⊢
        generalize K.key1 rank q = q1 at hd ⊢
        generalize K.key2 n rank by_ p = p2 at hd ⊢
        generalize K.key2 n rank by_ q = q2 at hd ⊢
        have h1 : p1 = q1 := by omega
        have h2 : p2 = q2 := by omega
        have k1 : ((p1 : Int) != (q1 : Int)) = false := by simp [h1]
        have k1' : (p1 != q1) = false := by simp [h1]
        have k2 : ((p2 : Int) != (q2 : Int)) = false := by simp [h2]
        have k2' : (p2 != q2) = false := by simp [h2]
        clear h1 h2 hd
        go_wp2_with fail
        go_roundg (n - (i + 1))
        case measure => have := Hk.out; omega
        case rel =>
          refine ⟨i + 1, by omega, by omega, rfl, by go_num, ?_, HK7.out⟩
          rw [Nat.add_sub_cancel, HAG.out, HS1.out, Nat.add_zero]
          exact HR7.out
    · obtain rfl : i = n := by omega
      have HR := HROW.out
      have HRR := Lib.hid HR
      clear HR x0 x1 o0
      go_wp2_with fail
      go_ret
      exact ⟨h, rfl, HRR.out, HKW.out.new HKE.out (by intro x hx; simp at hx; omega), by omega⟩
end Go.Proofs.Ytaeppgooenbfiaa
