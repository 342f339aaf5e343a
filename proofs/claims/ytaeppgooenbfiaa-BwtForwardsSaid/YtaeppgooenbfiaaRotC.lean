/-
  slices.SortFunc at twelve elements or fewer, at rotate's compare; what it leaves is the order.
-/
import Derived.Test.YtaeppgooenbfiaaRotB
import Derived.Test.YtaeppgooenbfiaaBitLen
namespace Go.Proofs.Ytaeppgooenbfiaa
open Go.RowKit Go.Sort
set_option linter.unusedVariables false
set_option linter.unusedSimpArgs false

/-- What slices.SortFunc does at n elements. -/
def SortC (n : Nat) : Prop := ∀ (g c rb ro rc by_ : Nat) (rank : List Nat) (d : Array Nat) (w : World), CmpW w g rb ro n by_ rank → SortW w g c n d w →
  Calls Try.prog 31 #[.slice (some ⟨g, 0, none⟩) n c, cmpV (some ⟨rb, ro, none⟩) n rc by_] w fun e w' => e = .returned (.tuple #[]) ∧ ∃ d', SortW w g c n d' w' ∧ PermIn 0 n d d' ∧ SortedIn (ltR n rank by_) 0 n d'

set_option maxRecDepth 100000 in
set_option maxHeartbeats 1000000 in
theorem pdq_small (g c n rb ro rc by_ : Nat) (l : Int) (rank : List Nat) (d : Array Nat) (w : World) (hC : CmpW w g rb ro n by_ rank) (hW : SortW w g c n d w) (hn : n ≤ 12) :
    Calls Try.prog 39 #[.slice (some ⟨g, 0, none⟩) n c, .int .i64 0, .int .i64 n, .int .i64 l, cmpV (some ⟨rb, ro, none⟩) n rc by_] w fun e w' => e = .returned (.tuple #[]) ∧ SortW w g c n (insertionSort (ltR n rank by_) d 0 n) w' := by
  have hins := insertion_ok w g c n rb ro rc by_ rank d 0 n w hC hW (by omega) (Nat.le_refl _)
  have hw : IntKind.i64.wrap (n : Int) = (n : Int) := IntWalk.i64_in _ (by omega)
  have g1 : decide (n ≤ 12) = true := by simp; omega
  have g1' : decide ((n : Int) ≤ 12) = true := by simp; omega
  have HI := Lib.hid hins
  clear hins hC hW
  unfold cmpV at HI ⊢
  go_enter Try.func39, Try.ntmps39
  go_wp2_with fail
  go_loopg [1, 2, 3, 10, 11] 0 (fun k v1 v2 v3 v10 v11 wr => v1 = .int .i64 0 ∧ v2 = .int .i64 n ∧ wr = w)
  case atStart => exact ⟨rfl, rfl, rfl⟩
  case round =>
    obtain ⟨rfl, rfl, rfl⟩ := hrel
    go_wp2_with fail
    refine HI.out.mono ?_
    rintro e w1 ⟨rfl, hW1⟩
    have H1 := Lib.hid hW1
    clear hW1 HI
    go_wp2_with fail
    refine bodyPost_ret (results_none rfl _ _ _) rfl ?_
    exact ⟨rfl, H1.out⟩

set_option maxRecDepth 100000 in
set_option maxHeartbeats 1000000 in
theorem sort_small (n : Nat) (hn : n ≤ 12) : SortC n := by
  intro g c rb ro rc by_ rank d w hC hW
  have hsz := hW.size
  have hpdq := fun l => pdq_small g c n rb ro rc by_ l rank d w hC hW hn
  have hsorts := insertionSort_holds (swoR n rank by_) d 0 n (by omega) (by omega)
  have hkk : ∀ w' : World, Kept [] w w' → ∀ l : Int, Calls Try.prog 39 #[.slice (some ⟨g, 0, none⟩) n c, .int .i64 0, .int .i64 n, .int .i64 l, cmpV (some ⟨rb, ro, none⟩) n rc by_] w' fun e w'' => e = .returned (.tuple #[]) ∧ SortW w' g c n (insertionSort (ltR n rank by_) d 0 n) w'' := by
    intro w' hk l
    exact pdq_small g c n rb ro rc by_ l rank d w' ⟨hC.sees.kept0 hk, hC.len, hC.small, hC.n9, hC.by12, hC.ne⟩ ⟨hW.row.kept hk (by simp), hW.size, hW.lt, Kept.refl _ _⟩ hn
  have HKK := Lib.hid hkk
  have HS := Lib.hid hsorts
  have hu : IntKind.u64.wrap (n : Int) = (n : Int) := by rw [IntKind.wrap_u64]; omega
  clear hpdq hsorts hC hW hkk
  go_enter Try.func31, Try.ntmps31
  go_wp2_with fail
  refine (len_any n _ (by omega)).mono ?_
  rintro e w1 ⟨rfl, rfl⟩
  have HK1 := Lib.hid (Kept.refl [] w1)
  go_wp2_with fail
  refine (HKK.out w1 HK1.out _).mono ?_
  rintro e w2 ⟨rfl, hW2⟩
  have HW2 := Lib.hid hW2
  clear hW2
  go_wp2_with fail
  go_end0
  exact ⟨rfl, _, ⟨HW2.out.row, HW2.out.size, HW2.out.lt, (HK1.out.mono (by simp)).trans HW2.out.kept (by simp)⟩, HS.out.1, HS.out.2⟩

theorem ordered_of (n : Nat) (f : Nat → Nat) (rank : List Nat) (by_ m : Nat) (d d' : Array Nat) (hs : d.size = n) (hd : d.toList.Perm (List.range n)) (hp : PermIn 0 n d d') (hS : SortedIn (ltR n rank by_) 0 n d') (hk : K.KeyBy n f rank by_ m) : K.Ordered n f m d'.toList := by
  have hs' : d'.size = n := by rw [hp.1, hs]
  have e1 : (d'.extract 0 n).toList = d'.toList := by rw [← hs']; simp
  have e2 : (d.extract 0 n).toList = d.toList := by rw [← hs]; simp
  have hperm : d'.toList.Perm (List.range n) := by
    have := hp.2.2
    rw [e1, e2] at this
    exact this.trans hd
  refine ⟨hperm, ?_⟩
  rw [List.pairwise_iff_getElem]
  intro i j hi hj hij
  have hi' : i < d'.size := by simpa using hi
  have hj' : j < d'.size := by simpa using hj
  have hnd : d'.toList.Nodup := hperm.nodup_iff.2 List.nodup_range
  have hne : d'.toList[i] ≠ d'.toList[j] := List.pairwise_iff_getElem.1 (show d'.toList.Pairwise (· ≠ ·) from hnd) i j hi hj hij
  have hlt : ∀ x ∈ d'.toList, x < n := fun x hx => List.mem_range.1 (hperm.mem_iff.1 hx)
  have h1 := hS i j (Nat.zero_le _) hij (by omega)
  rw [getElem!_pos d' i hi', getElem!_pos d' j hj'] at h1
  have a1 : d'[i] = d'.toList[i] := by simp
  have a2 : d'[j] = d'.toList[j] := by simp
  rw [a1, a2] at h1
  have h2 := K.cmpR_rot n f rank by_ m hk d'.toList[j] d'.toList[i] (hlt _ (List.getElem_mem hj)) (hlt _ (List.getElem_mem hi))
  have h3 : ¬ K.cmpR n rank by_ d'.toList[j] d'.toList[i] < 0 := of_decide_eq_false h1
  rw [h2] at h3
  unfold K.rotLt at h3 ⊢
  omega
end Go.Proofs.Ytaeppgooenbfiaa
