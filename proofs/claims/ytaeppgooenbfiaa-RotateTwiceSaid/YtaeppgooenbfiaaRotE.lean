/-
  The walk of rotate.Order, over what slices.SortFunc does.
-/
import Derived.Test.YtaeppgooenbfiaaRotD
import Derived.Deep.CutRange
namespace Go.Proofs.Ytaeppgooenbfiaa
open Go.RowKit Go.Sort
set_option linter.unusedVariables false
set_option linter.unusedSimpArgs false

/-- The two rows that Order makes, and the cell of the one that again holds. -/
def OrdS (W : World) (n : Nat) (A B : List Nat) (g h ob : Nat) (wc : World) : Prop :=
  wc.cell? ⟨ob, 0, none⟩ = some (.slice (some ⟨g, 0, none⟩) n n) ∧ Row wc 3 (.slice (some ⟨g, 0, none⟩) n n) (natVals A) ∧ Row wc 3 (.slice (some ⟨h, 0, none⟩) n n) (natVals B) ∧
    Kept [] W wc ∧ W.heap.size ≤ g ∧ W.heap.size ≤ h ∧ W.heap.size ≤ ob ∧ g ≠ h ∧ g ≠ ob ∧ h ≠ ob
def OrdC (W : World) (n : Nat) (s4 s5 : Value) (wc : World) : Prop :=
  ∃ g h ob, s4 = .pointer (some ⟨ob, 0, none⟩) ∧ s5 = .slice (some ⟨h, 0, none⟩) n n ∧ OrdS W n (List.replicate n 0) (List.replicate n 0) g h ob wc
theorem Row.at_heap (W : World) (b n : Nat) (Z : Array Value) (hZ : Z.toList = List.replicate n (.int .i64 0)) (hn : n ≤ 1000000000) (hb : W.heap[b]? = some (.cells Z 3 (0, 0))) : Row W 3 (.slice (some ⟨b, 0, none⟩) n n) (natVals (List.replicate n 0)) := by
  have hs : Z.size = n := by rw [← Array.length_toList, hZ]; simp
  rw [show natVals (List.replicate n 0) = List.replicate n (.int .i64 0) by simp [natVals]]
  refine ⟨by simp, .inr ⟨b, n, _, by simp, Nat.zero_le _, hb, by simp, by simp only [maxLen]; omega, by simp [hs], ?_⟩⟩
  rw [hZ]
  simp
theorem three (W : World) (x y z : Array Value) (p q r : TypeId) (m : Nat) (hm : W.heap.size = m) :
    (((W.alloc (.cells x p)).alloc (.cells y q)).alloc (.cells z r)).heap[m]? = some (.cells x p (0, 0)) ∧ (((W.alloc (.cells x p)).alloc (.cells y q)).alloc (.cells z r)).heap[m + 1]? = some (.cells y q (0, 0)) ∧
    (((W.alloc (.cells x p)).alloc (.cells y q)).alloc (.cells z r)).heap[m + 1 + 1]? = some (.cells z r (0, 0)) ∧ Kept [] W (((W.alloc (.cells x p)).alloc (.cells y q)).alloc (.cells z r)) := by
  subst hm
  have h1 := heap_alloc_new W (.cells x p)
  have h2 := heap_alloc_new (W.alloc (.cells x p)) (.cells y q)
  have h3 := heap_alloc_new ((W.alloc (.cells x p)).alloc (.cells y q)) (.cells z r)
  have k1 : Kept [] (W.alloc (.cells x p)) ((W.alloc (.cells x p)).alloc (.cells y q)) := (Kept.refl _ _).alloc _
  have k2 : Kept [] ((W.alloc (.cells x p)).alloc (.cells y q)) (((W.alloc (.cells x p)).alloc (.cells y q)).alloc (.cells z r)) := (Kept.refl _ _).alloc _
  have e1 : (W.alloc (.cells x p)).heap.size = W.heap.size + 1 := by simp
  have e2 : ((W.alloc (.cells x p)).alloc (.cells y q)).heap.size = W.heap.size + 1 + 1 := by simp
  rw [e1] at h2
  rw [e2] at h3
  exact ⟨(k1.trans k2 (by simp)).heap h1 (by simp), k2.heap h2 (by simp), h3, (((Kept.refl _ _).alloc _).alloc _).alloc _⟩
theorem ord_mk (W W3 : World) (n : Nat) (Z : Array Value) (g h ob : Nat) (hZ : Z.toList = List.replicate n (.int .i64 0)) (hn : n ≤ 1000000000) (hk : Kept [] W W3) (hg : W3.heap[g]? = some (.cells Z 3 (0, 0))) (hh : W3.heap[h]? = some (.cells Z 3 (0, 0)))
    (ho : W3.heap[ob]? = some (.cells #[.slice (some ⟨g, 0, none⟩) n n] 23 (0, 0))) (a : W.heap.size ≤ g ∧ W.heap.size ≤ h ∧ W.heap.size ≤ ob ∧ g ≠ h ∧ g ≠ ob ∧ h ≠ ob) :
    OrdC W n (.pointer (some ⟨ob, 0, none⟩)) (.slice (some ⟨h, 0, none⟩) n n) W3.drew := by
  refine ⟨g, h, ob, rfl, rfl, ?_, (Row.at_heap W3 g n Z hZ hn hg).drew, (Row.at_heap W3 h n Z hZ hn hh).drew, hk.drew, a.1, a.2.1, a.2.2.1, a.2.2.2.1, a.2.2.2.2.1, a.2.2.2.2.2⟩
  have := cell_of_row W3 ob 0 _ _ _ ho
  simpa using this
theorem made_zero (W : World) (n : Nat) (Z : Array Value) (hZ : Z.toList = List.replicate n (.int .i64 0)) (hn : n ≤ 1000000000) : Row (W.alloc (.cells Z 3)) 3 (.slice (some ⟨W.heap.size, 0, none⟩) n n) (natVals (List.replicate n 0)) := by
  have := Row.made W n Z hZ hn
  rwa [show natVals (List.replicate n 0) = List.replicate n (.int .i64 0) by simp [natVals]]
/-- In Order's second loop: the ranks tell m bytes. -/
structure OrdL (w1 : World) (n : Nat) (f : Nat → Nat) (g rr rb kby m : Nat) (rank L : List Nat) (w : World) : Prop where
  lo : 1 ≤ m
  hi : m ≤ 2 * n
  cells : Arr w rr 48 [.slice (some ⟨rb, 0, none⟩) n n, .int .i64 (kby : Nat)]
  sees : Sees w 1 (some ⟨rb, 0, none⟩) n (natVals rank)
  len : rank.length = n
  small : ∀ x ∈ rank, x < 1000000000
  by12 : kby ≤ 2 * n
  row : Row w 3 (.slice (some ⟨g, 0, none⟩) n n) (natVals L)
  perm : L.Perm (List.range n)
  key : K.KeyBy n f rank kby m
  ne1 : rb ≠ g
  ne2 : rb ≠ rr
  kept : Kept [g, rr] w1 w
theorem perm_lt {L : List Nat} {n : Nat} (h : L.Perm (List.range n)) : ∀ i, i < n → L.toArray[i]! < n := by
  intro i hi
  have hl : L.length = n := by rw [h.length_eq, List.length_range]
  rw [getElem!_pos L.toArray i (by simpa [hl] using hi)]
  exact List.mem_range.1 (h.mem_iff.1 (by simp))
theorem set_next (A : List Nat) (d x : Nat) : (A ++ List.replicate (d + 1) 0).set A.length x = A ++ [x] ++ List.replicate d 0 := by
  rw [List.replicate_succ, List.append_assoc, List.set_append_right _ _ (Nat.le_refl _), Nat.sub_self]
  rfl

set_option maxRecDepth 100000 in
set_option maxHeartbeats 4000000 in
theorem order_new (s : ByteArray) (w : World) (hs : s.size ≤ 1000000) (hSort : SortC s.size) : Calls Try.prog 15 #[.string s] w fun e w' =>
    ∃ g L, e = .returned (.slice (some ⟨g, 0, none⟩) s.size s.size) ∧ K.Ordered s.size (K.fS s.data.toList) s.size L ∧ Row w' 3 (.slice (some ⟨g, 0, none⟩) s.size s.size) (natVals L) ∧ Kept [] w w' ∧ w.heap.size ≤ g := by
  obtain ⟨Z, hZ, hmk⟩ := make_ints s.size (by omega)
  have hk0 : (w.alloc (.cells #[.int .i64 (s.size : Int)] 3)).cell? ⟨w.heap.size, 0, none⟩ = some (.int .i64 (s.size : Int)) := by
    simp
  have HSORT := Lib.hid hSort
  have HZ := Lib.hid hZ
  clear hSort hZ
  go_enter Try.func15, Try.ntmps15
  go_upto_region 2 with (fail)
  have hkW : Kept [] w (w.alloc (.cells #[.int .i64 (s.size : Int)] 3)) := (Kept.refl _ _).alloc _
  generalize hW : w.alloc (.cells #[.int .i64 (s.size : Int)] 3) = W at hk0 hkW ⊢
  have hzW : W.heap.size = w.heap.size + 1 := by rw [← hW]; simp
  have HW := Lib.hid hW
  have HKW := Lib.hid hkW
  clear hW hkW
  go_cut [4, 5] (fun s4 s5 wc => OrdC W s.size s4 s5 wc)
  case first =>
    go_region_held3 (fun w' => w'.cell? ⟨w.heap.size, 0, none⟩ = some (.int .i64 (s.size : Int))) (first | (refine Kept.cellOf (w := W) (S := []) ?_ hk0 (by simp); repeat (first | exact Kept.refl _ _ | refine Kept.drew ?_ | refine Kept.alloc ?_ _ | refine Kept.setCell ?_ (.inr (by simp; try omega)) _))) (fail)
    all_goals
      go_wp2_with fail
      go_meet
      first
        | exact ord_mk W _ _ Z _ _ _ HZ.out (by omega) (three W _ _ _ _ _ _ (w.heap.size + 1) hzW).2.2.2 (three W _ _ _ _ _ _ (w.heap.size + 1) hzW).1 (three W _ _ _ _ _ _ (w.heap.size + 1) hzW).2.1 (three W _ _ _ _ _ _ (w.heap.size + 1) hzW).2.2.1 (by omega)
        | exact ord_mk W _ _ Z _ _ _ HZ.out (by omega) (three W _ _ _ _ _ _ (w.heap.size + 1) hzW).2.2.2 (three W _ _ _ _ _ _ (w.heap.size + 1) hzW).1 (three W _ _ _ _ _ _ (w.heap.size + 1) hzW).2.2.1 (three W _ _ _ _ _ _ (w.heap.size + 1) hzW).2.1 (by omega)
        | exact ord_mk W _ _ Z _ _ _ HZ.out (by omega) (three W _ _ _ _ _ _ (w.heap.size + 1) hzW).2.2.2 (three W _ _ _ _ _ _ (w.heap.size + 1) hzW).2.1 (three W _ _ _ _ _ _ (w.heap.size + 1) hzW).1 (three W _ _ _ _ _ _ (w.heap.size + 1) hzW).2.2.1 (by omega)
        | exact ord_mk W _ _ Z _ _ _ HZ.out (by omega) (three W _ _ _ _ _ _ (w.heap.size + 1) hzW).2.2.2 (three W _ _ _ _ _ _ (w.heap.size + 1) hzW).2.1 (three W _ _ _ _ _ _ (w.heap.size + 1) hzW).2.2.1 (three W _ _ _ _ _ _ (w.heap.size + 1) hzW).1 (by omega)
        | exact ord_mk W _ _ Z _ _ _ HZ.out (by omega) (three W _ _ _ _ _ _ (w.heap.size + 1) hzW).2.2.2 (three W _ _ _ _ _ _ (w.heap.size + 1) hzW).2.2.1 (three W _ _ _ _ _ _ (w.heap.size + 1) hzW).1 (three W _ _ _ _ _ _ (w.heap.size + 1) hzW).2.1 (by omega)
        | exact ord_mk W _ _ Z _ _ _ HZ.out (by omega) (three W _ _ _ _ _ _ (w.heap.size + 1) hzW).2.2.2 (three W _ _ _ _ _ _ (w.heap.size + 1) hzW).2.2.1 (three W _ _ _ _ _ _ (w.heap.size + 1) hzW).2.1 (three W _ _ _ _ _ _ (w.heap.size + 1) hzW).1 (by omega)
  case rest =>
    obtain ⟨g, h, ob, rfl, rfl, ho, hg, hh, hk, hg0, hh0, hob0, hgh, hgo, hho⟩ := hcut
    have n0 := hk.cellOf hk0 (by simp)
    have hbl : s.data.toList.length = s.size := byte_len s
    have HO := Lib.hid ho
    have HG := Lib.hid hg
    have HH := Lib.hid hh
    have HK := Lib.hid hk
    have HN := Lib.hid n0
    clear ho hg hh hk hk0 hmk
    go_wp2_with fail
    go_loopg [17] s.size (fun k v wr => ∃ i, i ≤ s.size ∧ k = s.size - i ∧ v = .int .i64 (i : Nat) ∧ Hid (OrdS W s.size (List.range i ++ List.replicate (s.size - i) 0) ((K.firstR s.data.toList).take i ++ List.replicate (s.size - i) 0) g h ob wr) ∧ Hid (Kept [g, h] wc wr))
    case atStart => exact ⟨0, by omega, by omega, rfl, Lib.hid ⟨HO.out, HG.out, HH.out, HK.out, hg0, hh0, hob0, hgh, hgo, hho⟩, Lib.hid (Kept.refl _ _)⟩
    case round =>
      obtain ⟨i, hi, hk, rfl, HS, HKE⟩ := hrel
      have Hk := Lib.hid hk
      clear hk
      by_cases hlt : i < s.size
      · have hli : (i : Int) < (s.size : Int) := by omega
        obtain ⟨ho, hrg, hrh, hk, -, -, -, -, -, -⟩ := HS.out
        obtain ⟨d, hd⟩ : ∃ d, s.size - i = d + 1 := ⟨s.size - i - 1, by omega⟩
        have hd2 : s.size - (i + 1) = d := by omega
        have hfl : ((K.firstR s.data.toList).take i).length = i := by rw [List.length_take, K.firstR, List.length_map, hbl]; omega
        have hrl : (List.range i).length = i := List.length_range
        have hgetF : (K.firstR s.data.toList)[i]? = some (s[i].toNat) := by
          rw [K.firstR, List.getElem?_map, List.getElem?_eq_getElem (by omega)]
          have := byte_get s i hlt
          rw [List.getD, List.getElem?_eq_getElem (by omega)] at this
          simp only [Option.getD_some] at this
          rw [this]; rfl
        have htk : (K.firstR s.data.toList).take (i + 1) = (K.firstR s.data.toList).take i ++ [s[i].toNat] := by rw [List.take_add_one, hgetF]; rfl
        have hputg := hrg.put i (.int .i64 (i : Nat))
        have hputh := (Row.setCell hrh (p := ⟨g, i, none⟩) (by simp [foot, Value.ownBlock]; omega) (.int .i64 (i : Nat))).put i (.int .i64 (s[i].toNat : Nat))
        have s1 := set_next (List.range i) d i
        rw [hrl] at s1
        have s2 := set_next ((K.firstR s.data.toList).take i) d s[i].toNat
        rw [hfl] at s2
        rw [nat_set, hd, s1, ← List.range_succ] at hputg
        rw [nat_set, hd, s2, ← htk] at hputh
        have og := hrg.cellAt (j := i) (u := .int .i64 (0 : Nat)) (nat_get _ _ _ (by rw [hd, List.getElem?_append_right (by omega), hrl, Nat.sub_self]; rfl))
        have oh := hrh.cellAt (j := i) (u := .int .i64 (0 : Nat)) (nat_get _ _ _ (by rw [hd, List.getElem?_append_right (by omega), hfl, Nat.sub_self]; rfl))
        have fg := hrg.free i
        have fh := hrh.free i
        have n1 := HKE.out.cellOf HN.out (by simp; omega)
        have HPG := Lib.hid hputg
        have HPH := Lib.hid hputh
        have HK1 := Lib.hid hk
        have HO1 := Lib.hid ho
        have HD2 := Lib.hid hd2
        clear hrg hrh hk hd hd2 hfl hrl hgetF htk s1 s2 hputg hputh
        obtain ⟨b, hb⟩ : ∃ b, s[i].toNat = b := ⟨_, rfl⟩
        have hb256 : b < 256 := by rw [← hb]; exact UInt8.toNat_lt _
        have hwb : IntKind.i64.wrap (b : Int) = (b : Int) := IntWalk.i64_in _ (by omega)
        have hwb2 : wrap64 (b : Int) = (b : Int) := by unfold wrap64; omega
        rw [hb] at HPH
        go_wp2_with fail
        go_region
        all_goals
          go_wp2_with fail
          go_roundg (s.size - (i + 1))
          case measure => have := Hk.out; omega
          case rel =>
            refine ⟨i + 1, by omega, rfl, by go_num, ?_, Lib.hid ?_⟩
            · rw [HD2.out]
              refine Lib.hid ⟨?_, ?_, ?_, ?_, hg0, hh0, hob0, hgh, hgo, hho⟩
              · exact ((((Kept.refl [g, h] wr).setCell (p := ⟨g, i, none⟩) (.inl (by simp)) _).setCell (p := ⟨h, i, none⟩) (.inl (by simp)) _).drew).cellOf HO1.out (by simp; omega)
              · exact (Row.setCell HPG.out (p := ⟨h, i, none⟩) (by simp [foot, Value.ownBlock]; omega) _).drew
              · exact HPH.out.drew
              · exact ((HK1.out.setCell (p := ⟨g, i, none⟩) (.inr (by simpa using hg0)) _).setCell (p := ⟨h, i, none⟩) (.inr (by simpa using hh0)) _).drew
            · exact (((HKE.out.setCell (p := ⟨g, i, none⟩) (.inl (by simp)) _).setCell (p := ⟨h, i, none⟩) (.inl (by simp)) _).drew)
      · obtain rfl : i = s.size := by omega
        obtain ⟨ho, hrg, hrh, hk, -, -, -, -, -, -⟩ := HS.out
        rw [Nat.sub_self, List.replicate_zero, List.append_nil] at hrg hrh
        rw [List.take_of_length_le (by rw [K.firstR, List.length_map, hbl]; exact Nat.le_refl _)] at hrh
        have n1 := HKE.out.cellOf HN.out (by simp; omega)
        have HK1 := Lib.hid hk
        have HRG := Lib.hid hrg
        have HRH := Lib.hid hrh
        have HO1 := Lib.hid ho
        clear hk hrg hrh
        by_cases hz : s.size = 0
        · have hzi : (s.size : Int) = 0 := by omega
          have hzb : ((s.size : Int) == 0) = true := beq_iff_eq.2 hzi
          go_wp2_with fail
          go_ret
          refine ⟨g, List.range s.size, by rw [hz]; rfl, ⟨List.Perm.refl _, ?_⟩, HRG.out, HKW.out.new HK1.out (by simp [Fresh]), by omega⟩
          rw [hz]; exact List.Pairwise.nil
        · have hzi : ¬ (s.size : Int) = 0 := by omega
          have hzb : ((s.size : Int) == 0) = false := beq_eq_false_iff_ne.2 hzi
          go_wp2_with fail
          have hz1 : (wr.alloc (.cells #[.slice (some ⟨h, 0, none⟩) s.size s.size, .int .i64 0] 48)).heap.size = wr.heap.size + 1 := by simp
          have hka : Kept [] wr (wr.alloc (.cells #[.slice (some ⟨h, 0, none⟩) s.size s.size, .int .i64 0] 48)) := (Kept.refl _ _).alloc _
          have hra := heap_alloc_new wr (.cells #[.slice (some ⟨h, 0, none⟩) s.size s.size, .int .i64 0] 48)
          generalize wr.alloc (.cells #[.slice (some ⟨h, 0, none⟩) s.size s.size, .int .i64 0] 48) = w1 at hz1 hka hra ⊢
          generalize hrr : wr.heap.size = rr at hz1 hra ⊢
          have hgl : g < rr := by rw [← hrr]; exact HRG.out.lt g (by simp [foot, Value.ownBlock])
          have hhl : h < rr := by rw [← hrr]; exact HRH.out.lt h (by simp [foot, Value.ownBlock])
          have hobl : ob < rr := by rw [← hrr]; exact World.block_lt_of_cell? wr _ HO1.out
          have hnbl : w.heap.size < rr := by rw [← hrr]; exact World.block_lt_of_cell? wr _ n1
          have hperm0 : (List.range s.size).Perm (List.range s.size) := List.Perm.refl _
          have hkey0 := K.key_once s.size (K.fS s.data.toList) (K.firstR s.data.toList) (by have := K.first_rank s.data.toList; rwa [hbl] at this)
          have hsm0 : ∀ x ∈ K.firstR s.data.toList, x < 1000000000 := by
            intro x hx
            simp only [K.firstR, List.mem_map] at hx
            obtain ⟨b, -, rfl⟩ := hx
            have := UInt8.toNat_lt b
            omega
          have hst : OrdL w1 s.size (K.fS s.data.toList) g rr h 0 1 (K.firstR s.data.toList) (List.range s.size) w1 :=
            ⟨Nat.le_refl _, by omega, hra, (HRH.out.kept hka (by simp)).seeA, by rw [K.firstR, List.length_map, hbl], hsm0, by omega, HRG.out.kept hka (by simp), hperm0, hkey0, by omega, by omega, Kept.refl _ _⟩
          have HST := Lib.hid hst
          have HN1 := Lib.hid (hka.cellOf n1 (by simp))
          have HO2 := Lib.hid (hka.cellOf HO1.out (by simp))
          have HKA := Lib.hid (HKW.out.new (HK1.out.new hka (by simp [Fresh])) (by simp [Fresh]))
          have HRR := Lib.hid hrr
          clear hka hra hrr hperm0 hkey0 hsm0 hst n1
          go_loopg [9] (2 * s.size - 1) (fun k v wx => ∃ rb kby m rank L, k + m = 2 * s.size ∧ v = .int .i64 (m : Nat) ∧ Hid (OrdL w1 s.size (K.fS s.data.toList) g rr rb kby m rank L wx))
          case atStart => exact ⟨h, 0, 1, _, _, by omega, rfl, HST⟩
          case round =>
            obtain ⟨rb, kby, m, rank, L, hk, rfl, HL⟩ := hrel
            have Hk := Lib.hid hk
            have hm1 := HL.out.lo
            have hm2 := HL.out.hi
            have hb12 := HL.out.by12
            have e0 := HL.out.cells.cell (i := 0) rfl
            have e1 := HL.out.cells.cell (i := 1) rfl
            have n1 := HL.out.kept.cellOf HN1.out (by simp; omega)
            have o1 := HL.out.kept.cellOf HO2.out (by simp; omega)
            have hsort := HSORT.out g s.size rb 0 s.size kby rank L.toArray wr ⟨HL.out.sees, HL.out.len, HL.out.small, by omega, by omega, HL.out.ne1⟩ ⟨HL.out.row, by have := HL.out.perm.length_eq; simpa using this, perm_lt HL.out.perm, Kept.refl _ _⟩
            unfold cmpV ranksV at hsort
            have HSO := Lib.hid hsort
            clear hsort hk
            go_wp2_with fail
            refine HSO.out.mono ?_
            rintro e w2 ⟨rfl, d', hW2, hPI, hSI⟩
            have hLl : L.length = s.size := by rw [HL.out.perm.length_eq, List.length_range]
            have hord := ordered_of s.size (K.fS s.data.toList) rank kby m L.toArray d' (by simpa using hLl) (by simpa using HL.out.perm) hPI hSI HL.out.key
            have hA2 := HL.out.cells.kept hW2.kept (by simp; omega)
            have e0 := hA2.cell (i := 0) rfl
            have e1 := hA2.cell (i := 1) rfl
            have n1 := hW2.kept.cellOf n1 (by simp; omega)
            have o1 := hW2.kept.cellOf o1 (by simp; omega)
            have hne1 := HL.out.ne1
            have hne2 := HL.out.ne2
            have hS2 := HL.out.sees.kept hW2.kept (by intro y hy hm; simp [footA] at hy; simp at hm; omega)
            have hag := again_ok w.heap.size ob g s.size rb 0 s.size s.size kby rank d'.toList w2 n1 o1 hW2.row.seeA hord.len hord.lt hS2 HL.out.len (by omega) (by omega) (by omega)
            unfold ranksV at hag
            have HAG := Lib.hid hag
            have HORD := Lib.hid hord
            have HA2 := Lib.hid hA2
            have HRW2 := Lib.hid hW2.row
            have HK2 := Lib.hid hW2.kept
            clear hag hord hA2 hW2 hPI hSI hS2 HSO
            go_wp2_with fail
            refine HAG.out.mono ?_
            rintro e w3 ⟨h3, rfl, hrow3, hk3, hge3⟩
            have hA3 := HA2.out.kept hk3 (by simp)
            have e0 := hA3.cell (i := 0) rfl
            have e1 := hA3.cell (i := 1) rfl
            have f0 := hA3.free 0
            have f1 := hA3.free 1
            have n1 := hk3.cellOf n1 (by simp)
            have o1 := hk3.cellOf o1 (by simp)
            have HROW3 := Lib.hid hrow3
            have HK3 := Lib.hid hk3
            have HA3 := Lib.hid hA3
            clear hrow3 hk3 hA3 HAG
            have hA4 := (HA3.out.set 0 (.slice (some ⟨h3, 0, none⟩) s.size s.size)).set 1 (.int .i64 (m : Nat))
            have hk4 : Kept [rr] w3 ((w3.setCell ⟨rr, 0, none⟩ (.slice (some ⟨h3, 0, none⟩) s.size s.size)).setCell ⟨rr, 1, none⟩ (.int .i64 (m : Nat))) := ((Kept.refl [rr] w3).setCell (p := ⟨rr, 0, none⟩) (.inl (by simp)) _).setCell (p := ⟨rr, 1, none⟩) (.inl (by simp)) _
            have hrl2 : rr < w2.heap.size := HA2.out.lt
            have hrow4 := (HROW3.out.kept hk4 (by simp [foot, Value.ownBlock]; omega)).seeA
            have hg4 := (HRW2.out.kept HK3.out (by simp)).kept hk4 (by simp [foot, Value.ownBlock]; omega)
            have hkept4 : Kept [g, rr] w1 ((w3.setCell ⟨rr, 0, none⟩ (.slice (some ⟨h3, 0, none⟩) s.size s.size)).setCell ⟨rr, 1, none⟩ (.int .i64 (m : Nat))) :=
              ((HL.out.kept.trans HK2.out (by simp)).trans HK3.out (by simp)).trans hk4 (by simp)
            have hkey4 := K.key_twice s.size (K.fS s.data.toList) (K.fS_lt _) (fun i => by have := K.fS_per s.data.toList i; rwa [hbl] at this) _ m (K.again_rank s.size (K.fS s.data.toList) rank kby m HL.out.key d'.toList HORD.out)
            have hsm4 : ∀ x ∈ K.again s.size rank kby d'.toList (s.size - 1), x < 1000000000 := fun x hx => by have := K.again_le _ _ _ _ _ x hx; omega
            have hlen4 := K.again_length s.size rank kby d'.toList (s.size - 1)
            have hgl3 : g < w2.heap.size := HRW2.out.lt g (by simp [foot, Value.ownBlock])
            have hng : h3 ≠ g := by omega
            have hnr : h3 ≠ rr := by omega
            generalize K.again s.size rank kby d'.toList (s.size - 1) = rank4 at *
            have hA4' : Arr ((w3.setCell ⟨rr, 0, none⟩ (.slice (some ⟨h3, 0, none⟩) s.size s.size)).setCell ⟨rr, 1, none⟩ (.int .i64 (m : Nat))) rr 48 [.slice (some ⟨h3, 0, none⟩) s.size s.size, .int .i64 (m : Nat)] := hA4
            have o4 := hk4.cellOf o1 (by simp; omega)
            by_cases hfin : s.size ≤ m
            · have hfi : (s.size : Int) ≤ (m : Int) := by omega
              have hfb : decide (s.size ≤ m) = true := by simp; omega
              have hds : d'.size = s.size := by have := HORD.out.len; simpa using this
              have hsort := HSORT.out g s.size h3 0 s.size m rank4 d' _ ⟨hrow4, hlen4, hsm4, by omega, by omega, hng⟩ ⟨hg4, hds, fun i hi => by rw [getElem!_pos d' i (by omega)]; exact HORD.out.lt _ (by simp), Kept.refl _ _⟩
              unfold cmpV ranksV at hsort
              have HSO := Lib.hid hsort
              have HKEY := Lib.hid hkey4
              have HK4 := Lib.hid hkept4
              clear hA4 hA4' hk4 hrow4 hg4 hkept4 hkey4 hsm4 hlen4 hsort
              go_wp2_with fail
              refine HSO.out.mono ?_
              rintro e w5 ⟨rfl, d5, hW5, hPI, hSI⟩
              have hord := ordered_of s.size (K.fS s.data.toList) rank4 m (m + m) d' d5 hds HORD.out.perm hPI hSI HKEY.out
              have hmore := K.Ordered.more (s := s.data.toList) (m := m + m) (L := d5.toList) (by omega) (by omega) (by rw [hbl]; exact hord)
              rw [hbl] at hmore
              have o5 := hW5.kept.cellOf o4 (by simp; omega)
              have HR5 := Lib.hid hW5.row
              have HK5 := Lib.hid hW5.kept
              have HM := Lib.hid hmore
              clear hW5 hPI hSI hord hmore
              go_wp2_with fail
              go_ret
              refine ⟨g, d5.toList, rfl, HM.out, HR5.out, HKA.out.trans (HK4.out.trans HK5.out (by simp)) ?_, by omega⟩
              intro x hx
              have hww : w.heap.size ≤ g := by omega
              simp at hx
              rcases hx with rfl | rfl
              · exact .inr hww
              · exact .inr (by omega)
            · have hfi : ¬ (s.size : Int) ≤ (m : Int) := by omega
              have hfb : decide (s.size ≤ m) = false := by simp; omega
              have hm2w : IntKind.i64.wrap ((m : Int) * 2) = ((m + m : Nat) : Int) := by rw [IntWalk.i64_in _ (by omega)]; omega
              have hnext : OrdL w1 s.size (K.fS s.data.toList) g rr h3 m (m + m) rank4 d'.toList ((w3.setCell ⟨rr, 0, none⟩ (.slice (some ⟨h3, 0, none⟩) s.size s.size)).setCell ⟨rr, 1, none⟩ (.int .i64 (m : Nat))) :=
                ⟨by omega, by omega, hA4', hrow4, hlen4, hsm4, by omega, hg4, HORD.out.perm, hkey4, hng, hnr, hkept4⟩
              have HNX := Lib.hid hnext
              clear hA4 hA4' hk4 hrow4 hg4 hkept4 hkey4 hsm4 hlen4 hnext
              go_wp2_with fail
              go_roundg (2 * s.size - (m + m))
              case measure => have := Hk.out; omega
              case rel => exact ⟨h3, m, m + m, rank4, d'.toList, by omega, by go_num, HNX⟩
theorem order_any (s : ByteArray) (w : World) (hs : s.size ≤ 1000000) (hSort : SortC s.size) : Calls Try.prog 15 #[.string s] w fun e w' =>
    ∃ g L, e = .returned (.slice (some ⟨g, 0, none⟩) s.size s.size) ∧ K.Ordered s.size (K.fS s.data.toList) s.size L ∧ Row w' 3 (.slice (some ⟨g, 0, none⟩) s.size s.size) (natVals L) ∧ Kept [] w w' :=
  (order_new s w hs hSort).mono fun _ _ ⟨g, L, a, b, c, d, _⟩ => ⟨g, L, a, b, c, d⟩
end Go.Proofs.Ytaeppgooenbfiaa
