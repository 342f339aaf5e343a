/-
  No cell of these rows narrows 'for every input' (looked for: loops, veiled, ifaces, maps, wideKeys, modest, calm, conditions, laid).
  DERIVED. THE GIVEN ROWS OF THIS SEAT. 7 by the template 'for every input the law returns true; each argument reads behind the call as it read before'; 0 by the template 'total and deterministic' (their statements: YtcjkjknahalpnaaTotals.lean).
  GIVEN WITH THE SEED: the statements are not yours to turn. If you find one false, say at which input.
  Laid BY PROGRAM, IN A SANDBOX (cutbox-rows.mjs): the forced cells as the released guide's own fill.sh prints them over the translation 99a1f70af5afd73a… (all of the seat's roots in one cut). By AI agents, Wed Nov 11 2026. No macro, syntax, notation, axiom, sorry.
-/
import Derived.Test.YtcjkjknahalpnaaChecked
import GoSem.Claim
import GoSem.ClaimJoined
import GoSem.ClaimMapViews
import Derived.JoinedTies
import Derived.KernelRfl
namespace Go.Proofs.Ytcjkjknahalpnaa
/- THE CELL 'sum', in the pinned program and in every row, IS THE sha256 OF THE DUMP (.gsa) THAT YtcjkjknahalpnaaProg.lean LOADS. Nothing in Lean hashes anything: it is a label: what it is worth is what the hold of that sum in a sandbox is worth. -/
noncomputable def Try.pinned : Pinned := { name := "ytcjkjknahalpnaa", sum := "99a1f70af5afd73a898633b76e4f6d6788930aa005b17068094b1a26ccaa6a03", checked := Try.checked }
namespace Rows
def none {H : Type} : Left H := { results := [], args := [] }

/-- 'kistlaw08.LengthsMakes': WHATEVER THE INPUT: true; the input reads as it did. -/
def lengthsMakesSpec : ChangeSpec := { name := "lengthsMakes", fn := fun _ => fun
  | [d1, d2] => { results := [.lit (.bool true)], args := [d1, d2] }
  | _ => none }
def lengthsMakesRow : OpenClaim := { program := "ytcjkjknahalpnaa", sum := "99a1f70af5afd73a898633b76e4f6d6788930aa005b17068094b1a26ccaa6a03", func := "kist/kistlaw08.LengthsMakes", spec := "lengthsMakes", unfollowed := true, recurses := true, apart := false }
def LengthsMakesSaid : Prop := lengthsMakesRow.holds Try.pinned (OpenSpec.ofChange lengthsMakesSpec)

/-- ITS FALSE NEIGHBOUR: 'it returns false'. Refute it at one input. -/
def lengthsMakesWrong : ChangeSpec := { name := "lengthsMakes", fn := fun _ => fun
  | [d1, d2] => { results := [.lit (.bool false)], args := [d1, d2] }
  | _ => none }
def LengthsMakesWrongFalsely : Prop := lengthsMakesRow.holds Try.pinned (OpenSpec.ofChange lengthsMakesWrong)

/-- 'kistlaw08.LengthsFlats': WHATEVER THE INPUT: true; the input reads as it did. -/
def lengthsFlatsSpec : ChangeSpec := { name := "lengthsFlats", fn := fun _ => fun
  | [d] => { results := [.lit (.bool true)], args := [d] }
  | _ => none }
def lengthsFlatsRow : OpenClaim := { program := "ytcjkjknahalpnaa", sum := "99a1f70af5afd73a898633b76e4f6d6788930aa005b17068094b1a26ccaa6a03", func := "kist/kistlaw08.LengthsFlats", spec := "lengthsFlats", unfollowed := true, recurses := true, apart := false }
def LengthsFlatsSaid : Prop := lengthsFlatsRow.holds Try.pinned (OpenSpec.ofChange lengthsFlatsSpec)

/-- ITS FALSE NEIGHBOUR: 'it returns false'. Refute it at one input. -/
def lengthsFlatsWrong : ChangeSpec := { name := "lengthsFlats", fn := fun _ => fun
  | [d] => { results := [.lit (.bool false)], args := [d] }
  | _ => none }
def LengthsFlatsWrongFalsely : Prop := lengthsFlatsRow.holds Try.pinned (OpenSpec.ofChange lengthsFlatsWrong)

/-- 'kistlaw08.LengthsChecks': WHATEVER THE INPUT: true; the input reads as it did. -/
def lengthsChecksSpec : ChangeSpec := { name := "lengthsChecks", fn := fun _ => fun
  | [d] => { results := [.lit (.bool true)], args := [d] }
  | _ => none }
def lengthsChecksRow : OpenClaim := { program := "ytcjkjknahalpnaa", sum := "99a1f70af5afd73a898633b76e4f6d6788930aa005b17068094b1a26ccaa6a03", func := "kist/kistlaw08.LengthsChecks", spec := "lengthsChecks", unfollowed := true, recurses := true, apart := false }
def LengthsChecksSaid : Prop := lengthsChecksRow.holds Try.pinned (OpenSpec.ofChange lengthsChecksSpec)

/-- ITS FALSE NEIGHBOUR: 'it returns false'. Refute it at one input. -/
def lengthsChecksWrong : ChangeSpec := { name := "lengthsChecks", fn := fun _ => fun
  | [d] => { results := [.lit (.bool false)], args := [d] }
  | _ => none }
def LengthsChecksWrongFalsely : Prop := lengthsChecksRow.holds Try.pinned (OpenSpec.ofChange lengthsChecksWrong)

/-- 'kistlaw08.LengthsCosts': WHATEVER THE INPUT: true; the input reads as it did. -/
def lengthsCostsSpec : ChangeSpec := { name := "lengthsCosts", fn := fun _ => fun
  | [d1, d2] => { results := [.lit (.bool true)], args := [d1, d2] }
  | _ => none }
def lengthsCostsRow : OpenClaim := { program := "ytcjkjknahalpnaa", sum := "99a1f70af5afd73a898633b76e4f6d6788930aa005b17068094b1a26ccaa6a03", func := "kist/kistlaw08.LengthsCosts", spec := "lengthsCosts", unfollowed := true, recurses := true, apart := false }
def LengthsCostsSaid : Prop := lengthsCostsRow.holds Try.pinned (OpenSpec.ofChange lengthsCostsSpec)

/-- ITS FALSE NEIGHBOUR: 'it returns false'. Refute it at one input. -/
def lengthsCostsWrong : ChangeSpec := { name := "lengthsCosts", fn := fun _ => fun
  | [d1, d2] => { results := [.lit (.bool false)], args := [d1, d2] }
  | _ => none }
def LengthsCostsWrongFalsely : Prop := lengthsCostsRow.holds Try.pinned (OpenSpec.ofChange lengthsCostsWrong)

/-- 'kistlaw08.LengthsFull': WHATEVER THE INPUT: true; the input reads as it did. -/
def lengthsFullSpec : ChangeSpec := { name := "lengthsFull", fn := fun _ => fun
  | [d1, d2] => { results := [.lit (.bool true)], args := [d1, d2] }
  | _ => none }
def lengthsFullRow : OpenClaim := { program := "ytcjkjknahalpnaa", sum := "99a1f70af5afd73a898633b76e4f6d6788930aa005b17068094b1a26ccaa6a03", func := "kist/kistlaw08.LengthsFull", spec := "lengthsFull", unfollowed := true, recurses := true, apart := false }
def LengthsFullSaid : Prop := lengthsFullRow.holds Try.pinned (OpenSpec.ofChange lengthsFullSpec)

/-- ITS FALSE NEIGHBOUR: 'it returns false'. Refute it at one input. -/
def lengthsFullWrong : ChangeSpec := { name := "lengthsFull", fn := fun _ => fun
  | [d1, d2] => { results := [.lit (.bool false)], args := [d1, d2] }
  | _ => none }
def LengthsFullWrongFalsely : Prop := lengthsFullRow.holds Try.pinned (OpenSpec.ofChange lengthsFullWrong)

/-- 'kistlaw08.LengthsEven': WHATEVER THE INPUT: true; the input reads as it did. -/
def lengthsEvenSpec : ChangeSpec := { name := "lengthsEven", fn := fun _ => fun
  | [d] => { results := [.lit (.bool true)], args := [d] }
  | _ => none }
def lengthsEvenRow : OpenClaim := { program := "ytcjkjknahalpnaa", sum := "99a1f70af5afd73a898633b76e4f6d6788930aa005b17068094b1a26ccaa6a03", func := "kist/kistlaw08.LengthsEven", spec := "lengthsEven", unfollowed := true, recurses := true, apart := false }
def LengthsEvenSaid : Prop := lengthsEvenRow.holds Try.pinned (OpenSpec.ofChange lengthsEvenSpec)

/-- ITS FALSE NEIGHBOUR: 'it returns false'. Refute it at one input. -/
def lengthsEvenWrong : ChangeSpec := { name := "lengthsEven", fn := fun _ => fun
  | [d] => { results := [.lit (.bool false)], args := [d] }
  | _ => none }
def LengthsEvenWrongFalsely : Prop := lengthsEvenRow.holds Try.pinned (OpenSpec.ofChange lengthsEvenWrong)

/-- 'kistlaw08.LengthsBest': WHATEVER THE INPUT: true; the input reads as it did. -/
def lengthsBestSpec : ChangeSpec := { name := "lengthsBest", fn := fun _ => fun
  | [d1, d2] => { results := [.lit (.bool true)], args := [d1, d2] }
  | _ => none }
def lengthsBestRow : OpenClaim := { program := "ytcjkjknahalpnaa", sum := "99a1f70af5afd73a898633b76e4f6d6788930aa005b17068094b1a26ccaa6a03", func := "kist/kistlaw08.LengthsBest", spec := "lengthsBest", unfollowed := true, recurses := true, apart := false }
def LengthsBestSaid : Prop := lengthsBestRow.holds Try.pinned (OpenSpec.ofChange lengthsBestSpec)

/-- ITS FALSE NEIGHBOUR: 'it returns false'. Refute it at one input. -/
def lengthsBestWrong : ChangeSpec := { name := "lengthsBest", fn := fun _ => fun
  | [d1, d2] => { results := [.lit (.bool false)], args := [d1, d2] }
  | _ => none }
def LengthsBestWrongFalsely : Prop := lengthsBestRow.holds Try.pinned (OpenSpec.ofChange lengthsBestWrong)

/- THE SECOND FORM. 'bulk': how many values and letters a reading holds, each counted each time it is reached (what is shared counts as often as it is met; a slice's spare places count too). A statement '..UptoSaid' is the law's where the arguments, and the package variables that the reading takes, are together of bulk at most 1048576: NARROWER than '..Said'. Prove '..Said' where nothing that the law and all that it calls make is longer than what came in: it says more and counts as full. Else prove '..UptoSaid'. A law counts once. -/
mutual
def uptoBulk {H : Type} : DataW H → Nat
  | .lit (.string bytes) => bytes.length + 1
  | .lit _ => 1
  | .nil => 1
  | .ptr d => uptoBulk d + 1
  | .slice elems spare => uptoBulkAll elems + uptoBulkAll spare + 1
  | .agg parts => uptoBulkAll parts + 1
  | .iface _ d => uptoBulk d + 1
  | .map entries => uptoBulkEntries entries + 1
  | .held _ => 1
def uptoBulkAll {H : Type} : List (DataW H) → Nat
  | [] => 0
  | d :: r => uptoBulk d + uptoBulkAll r
def uptoBulkEntries {H : Type} : List (Lit × DataW H) → Nat
  | [] => 0
  | x :: r => uptoBulkEntry x + uptoBulkEntries r
def uptoBulkEntry {H : Type} : Lit × DataW H → Nat
  | (.string bytes, d) => bytes.length + uptoBulk d + 1
  | (_, d) => uptoBulk d + 1
 end
def uptoSmall : (H : Type) → List (DataW H) → Bool := fun _ ds => decide (uptoBulkAll ds ≤ 1048576)
def OpenSpec.upto (s : _root_.Go.ChangeSpec) : _root_.Go.OpenSpec := { _root_.Go.OpenSpec.ofChange s with cond := some uptoSmall }

/-- 'kistlaw08.LengthsMakes', WHERE WHAT IT READS IS OF BULK AT MOST 1048576: true; the input reads as it did. -/
def lengthsMakesUptoRow : OpenClaim := { program := "ytcjkjknahalpnaa", sum := "99a1f70af5afd73a898633b76e4f6d6788930aa005b17068094b1a26ccaa6a03", func := "kist/kistlaw08.LengthsMakes", spec := "lengthsMakes", unfollowed := true, recurses := true, apart := false, narrowed := true }
def LengthsMakesUptoSaid : Prop := lengthsMakesUptoRow.holds Try.pinned (OpenSpec.upto lengthsMakesSpec)

/-- 'kistlaw08.LengthsFlats', WHERE WHAT IT READS IS OF BULK AT MOST 1048576: true; the input reads as it did. -/
def lengthsFlatsUptoRow : OpenClaim := { program := "ytcjkjknahalpnaa", sum := "99a1f70af5afd73a898633b76e4f6d6788930aa005b17068094b1a26ccaa6a03", func := "kist/kistlaw08.LengthsFlats", spec := "lengthsFlats", unfollowed := true, recurses := true, apart := false, narrowed := true }
def LengthsFlatsUptoSaid : Prop := lengthsFlatsUptoRow.holds Try.pinned (OpenSpec.upto lengthsFlatsSpec)

/-- 'kistlaw08.LengthsChecks', WHERE WHAT IT READS IS OF BULK AT MOST 1048576: true; the input reads as it did. -/
def lengthsChecksUptoRow : OpenClaim := { program := "ytcjkjknahalpnaa", sum := "99a1f70af5afd73a898633b76e4f6d6788930aa005b17068094b1a26ccaa6a03", func := "kist/kistlaw08.LengthsChecks", spec := "lengthsChecks", unfollowed := true, recurses := true, apart := false, narrowed := true }
def LengthsChecksUptoSaid : Prop := lengthsChecksUptoRow.holds Try.pinned (OpenSpec.upto lengthsChecksSpec)

/-- 'kistlaw08.LengthsCosts', WHERE WHAT IT READS IS OF BULK AT MOST 1048576: true; the input reads as it did. -/
def lengthsCostsUptoRow : OpenClaim := { program := "ytcjkjknahalpnaa", sum := "99a1f70af5afd73a898633b76e4f6d6788930aa005b17068094b1a26ccaa6a03", func := "kist/kistlaw08.LengthsCosts", spec := "lengthsCosts", unfollowed := true, recurses := true, apart := false, narrowed := true }
def LengthsCostsUptoSaid : Prop := lengthsCostsUptoRow.holds Try.pinned (OpenSpec.upto lengthsCostsSpec)

/-- 'kistlaw08.LengthsFull', WHERE WHAT IT READS IS OF BULK AT MOST 1048576: true; the input reads as it did. -/
def lengthsFullUptoRow : OpenClaim := { program := "ytcjkjknahalpnaa", sum := "99a1f70af5afd73a898633b76e4f6d6788930aa005b17068094b1a26ccaa6a03", func := "kist/kistlaw08.LengthsFull", spec := "lengthsFull", unfollowed := true, recurses := true, apart := false, narrowed := true }
def LengthsFullUptoSaid : Prop := lengthsFullUptoRow.holds Try.pinned (OpenSpec.upto lengthsFullSpec)

/-- 'kistlaw08.LengthsEven', WHERE WHAT IT READS IS OF BULK AT MOST 1048576: true; the input reads as it did. -/
def lengthsEvenUptoRow : OpenClaim := { program := "ytcjkjknahalpnaa", sum := "99a1f70af5afd73a898633b76e4f6d6788930aa005b17068094b1a26ccaa6a03", func := "kist/kistlaw08.LengthsEven", spec := "lengthsEven", unfollowed := true, recurses := true, apart := false, narrowed := true }
def LengthsEvenUptoSaid : Prop := lengthsEvenUptoRow.holds Try.pinned (OpenSpec.upto lengthsEvenSpec)

/-- 'kistlaw08.LengthsBest', WHERE WHAT IT READS IS OF BULK AT MOST 1048576: true; the input reads as it did. -/
def lengthsBestUptoRow : OpenClaim := { program := "ytcjkjknahalpnaa", sum := "99a1f70af5afd73a898633b76e4f6d6788930aa005b17068094b1a26ccaa6a03", func := "kist/kistlaw08.LengthsBest", spec := "lengthsBest", unfollowed := true, recurses := true, apart := false, narrowed := true }
def LengthsBestUptoSaid : Prop := lengthsBestUptoRow.holds Try.pinned (OpenSpec.upto lengthsBestSpec)

end Rows
end Go.Proofs.Ytcjkjknahalpnaa
