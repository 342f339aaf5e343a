/-
  No cell of these rows narrows 'for every input' (looked for: loops, veiled, ifaces, maps, wideKeys, modest, calm, conditions, laid).
  DERIVED. THE GIVEN ROWS OF THIS SEAT. 7 by the template 'for every input the law returns true; each argument reads behind the call as it read before'; 0 by the template 'total and deterministic' (their statements: YtodjfgdolegfpaaTotals.lean).
  GIVEN WITH THE SEED: the statements are not yours to turn. If you find one false, say at which input.
  Laid BY PROGRAM, IN A SANDBOX (cutbox-rows.mjs): the forced cells as the released guide's own fill.sh prints them over the translation a1e722450d3f4a49… (all of the seat's roots in one cut). By AI agents, Wed Nov 11 2026. No macro, syntax, notation, axiom, sorry.
-/
import Derived.Test.YtodjfgdolegfpaaChecked
import GoSem.Claim
import GoSem.ClaimJoined
import GoSem.ClaimMapViews
import Derived.JoinedTies
import Derived.KernelRfl
namespace Go.Proofs.Ytodjfgdolegfpaa
/- THE CELL 'sum', in the pinned program and in every row, IS THE sha256 OF THE DUMP (.gsa) THAT YtodjfgdolegfpaaProg.lean LOADS. Nothing in Lean hashes anything: it is a label: what it is worth is what the hold of that sum in a sandbox is worth. -/
noncomputable def Try.pinned : Pinned := { name := "ytodjfgdolegfpaa", sum := "a1e722450d3f4a491afc91746656ef16ebfffd874d6b982bda48f7907e388fc6", checked := Try.checked }
namespace Rows
def none {H : Type} : Left H := { results := [], args := [] }

/-- 'kistlaw09.PrefixCodes': WHATEVER THE INPUT: true; the input reads as it did. -/
def prefixCodesSpec : ChangeSpec := { name := "prefixCodes", fn := fun _ => fun
  | [d] => { results := [.lit (.bool true)], args := [d] }
  | _ => none }
def prefixCodesRow : OpenClaim := { program := "ytodjfgdolegfpaa", sum := "a1e722450d3f4a491afc91746656ef16ebfffd874d6b982bda48f7907e388fc6", func := "kist/kistlaw09.PrefixCodes", spec := "prefixCodes", unfollowed := true, recurses := true, apart := false }
def PrefixCodesSaid : Prop := prefixCodesRow.holds Try.pinned (OpenSpec.ofChange prefixCodesSpec)

/-- ITS FALSE NEIGHBOUR: 'it returns false'. Refute it at one input. -/
def prefixCodesWrong : ChangeSpec := { name := "prefixCodes", fn := fun _ => fun
  | [d] => { results := [.lit (.bool false)], args := [d] }
  | _ => none }
def PrefixCodesWrongFalsely : Prop := prefixCodesRow.holds Try.pinned (OpenSpec.ofChange prefixCodesWrong)

/-- 'kistlaw09.PrefixEncodes': WHATEVER THE INPUT: true; the input reads as it did. -/
def prefixEncodesSpec : ChangeSpec := { name := "prefixEncodes", fn := fun _ => fun
  | [d1, d2] => { results := [.lit (.bool true)], args := [d1, d2] }
  | _ => none }
def prefixEncodesRow : OpenClaim := { program := "ytodjfgdolegfpaa", sum := "a1e722450d3f4a491afc91746656ef16ebfffd874d6b982bda48f7907e388fc6", func := "kist/kistlaw09.PrefixEncodes", spec := "prefixEncodes", unfollowed := true, recurses := true, apart := false }
def PrefixEncodesSaid : Prop := prefixEncodesRow.holds Try.pinned (OpenSpec.ofChange prefixEncodesSpec)

/-- ITS FALSE NEIGHBOUR: 'it returns false'. Refute it at one input. -/
def prefixEncodesWrong : ChangeSpec := { name := "prefixEncodes", fn := fun _ => fun
  | [d1, d2] => { results := [.lit (.bool false)], args := [d1, d2] }
  | _ => none }
def PrefixEncodesWrongFalsely : Prop := prefixEncodesRow.holds Try.pinned (OpenSpec.ofChange prefixEncodesWrong)

/-- 'kistlaw09.PrefixDecodes': WHATEVER THE INPUT: true; the input reads as it did. -/
def prefixDecodesSpec : ChangeSpec := { name := "prefixDecodes", fn := fun _ => fun
  | [d1, d2, d3] => { results := [.lit (.bool true)], args := [d1, d2, d3] }
  | _ => none }
def prefixDecodesRow : OpenClaim := { program := "ytodjfgdolegfpaa", sum := "a1e722450d3f4a491afc91746656ef16ebfffd874d6b982bda48f7907e388fc6", func := "kist/kistlaw09.PrefixDecodes", spec := "prefixDecodes", unfollowed := true, recurses := true, apart := false }
def PrefixDecodesSaid : Prop := prefixDecodesRow.holds Try.pinned (OpenSpec.ofChange prefixDecodesSpec)

/-- ITS FALSE NEIGHBOUR: 'it returns false'. Refute it at one input. -/
def prefixDecodesWrong : ChangeSpec := { name := "prefixDecodes", fn := fun _ => fun
  | [d1, d2, d3] => { results := [.lit (.bool false)], args := [d1, d2, d3] }
  | _ => none }
def PrefixDecodesWrongFalsely : Prop := prefixDecodesRow.holds Try.pinned (OpenSpec.ofChange prefixDecodesWrong)

/-- 'kistlaw09.PrefixAlls': WHATEVER THE INPUT: true; the input reads as it did. -/
def prefixAllsSpec : ChangeSpec := { name := "prefixAlls", fn := fun _ => fun
  | [d1, d2, d3] => { results := [.lit (.bool true)], args := [d1, d2, d3] }
  | _ => none }
def prefixAllsRow : OpenClaim := { program := "ytodjfgdolegfpaa", sum := "a1e722450d3f4a491afc91746656ef16ebfffd874d6b982bda48f7907e388fc6", func := "kist/kistlaw09.PrefixAlls", spec := "prefixAlls", unfollowed := true, recurses := true, apart := false }
def PrefixAllsSaid : Prop := prefixAllsRow.holds Try.pinned (OpenSpec.ofChange prefixAllsSpec)

/-- ITS FALSE NEIGHBOUR: 'it returns false'. Refute it at one input. -/
def prefixAllsWrong : ChangeSpec := { name := "prefixAlls", fn := fun _ => fun
  | [d1, d2, d3] => { results := [.lit (.bool false)], args := [d1, d2, d3] }
  | _ => none }
def PrefixAllsWrongFalsely : Prop := prefixAllsRow.holds Try.pinned (OpenSpec.ofChange prefixAllsWrong)

/-- 'kistlaw09.PrefixFree': WHATEVER THE INPUT: true; the input reads as it did. -/
def prefixFreeSpec : ChangeSpec := { name := "prefixFree", fn := fun _ => fun
  | [d] => { results := [.lit (.bool true)], args := [d] }
  | _ => none }
def prefixFreeRow : OpenClaim := { program := "ytodjfgdolegfpaa", sum := "a1e722450d3f4a491afc91746656ef16ebfffd874d6b982bda48f7907e388fc6", func := "kist/kistlaw09.PrefixFree", spec := "prefixFree", unfollowed := true, recurses := true, apart := false }
def PrefixFreeSaid : Prop := prefixFreeRow.holds Try.pinned (OpenSpec.ofChange prefixFreeSpec)

/-- ITS FALSE NEIGHBOUR: 'it returns false'. Refute it at one input. -/
def prefixFreeWrong : ChangeSpec := { name := "prefixFree", fn := fun _ => fun
  | [d] => { results := [.lit (.bool false)], args := [d] }
  | _ => none }
def PrefixFreeWrongFalsely : Prop := prefixFreeRow.holds Try.pinned (OpenSpec.ofChange prefixFreeWrong)

/-- 'kistlaw09.PrefixBack': WHATEVER THE INPUT: true; the input reads as it did. -/
def prefixBackSpec : ChangeSpec := { name := "prefixBack", fn := fun _ => fun
  | [d1, d2, d3] => { results := [.lit (.bool true)], args := [d1, d2, d3] }
  | _ => none }
def prefixBackRow : OpenClaim := { program := "ytodjfgdolegfpaa", sum := "a1e722450d3f4a491afc91746656ef16ebfffd874d6b982bda48f7907e388fc6", func := "kist/kistlaw09.PrefixBack", spec := "prefixBack", unfollowed := true, recurses := true, apart := false }
def PrefixBackSaid : Prop := prefixBackRow.holds Try.pinned (OpenSpec.ofChange prefixBackSpec)

/-- ITS FALSE NEIGHBOUR: 'it returns false'. Refute it at one input. -/
def prefixBackWrong : ChangeSpec := { name := "prefixBack", fn := fun _ => fun
  | [d1, d2, d3] => { results := [.lit (.bool false)], args := [d1, d2, d3] }
  | _ => none }
def PrefixBackWrongFalsely : Prop := prefixBackRow.holds Try.pinned (OpenSpec.ofChange prefixBackWrong)

/-- 'kistlaw09.PrefixFull': WHATEVER THE INPUT: true; the input reads as it did. -/
def prefixFullSpec : ChangeSpec := { name := "prefixFull", fn := fun _ => fun
  | [d1, d2, d3] => { results := [.lit (.bool true)], args := [d1, d2, d3] }
  | _ => none }
def prefixFullRow : OpenClaim := { program := "ytodjfgdolegfpaa", sum := "a1e722450d3f4a491afc91746656ef16ebfffd874d6b982bda48f7907e388fc6", func := "kist/kistlaw09.PrefixFull", spec := "prefixFull", unfollowed := true, recurses := true, apart := false }
def PrefixFullSaid : Prop := prefixFullRow.holds Try.pinned (OpenSpec.ofChange prefixFullSpec)

/-- ITS FALSE NEIGHBOUR: 'it returns false'. Refute it at one input. -/
def prefixFullWrong : ChangeSpec := { name := "prefixFull", fn := fun _ => fun
  | [d1, d2, d3] => { results := [.lit (.bool false)], args := [d1, d2, d3] }
  | _ => none }
def PrefixFullWrongFalsely : Prop := prefixFullRow.holds Try.pinned (OpenSpec.ofChange prefixFullWrong)

/- THE SECOND FORM. 'bulk': how many values and letters a reading holds, each counted each time it is reached (what is shared counts as often as it is met; a slice's spare places count too). A statement '..UptoSaid' is the law's where the arguments, and the package variables that the reading takes, are together of bulk at most 1048576: NARROWER than '..Said'. Prove '..Said' where nothing that the law and all that it calls make is longer than what came in: it says more and counts as full. Else prove '..UptoSaid'. A law counts once. -/
mutual
def uptoBulk {H : Type} : DataW H → Nat
  | .lit (.string bytes) => bytes.length + 1
  | .lit _ => 1
  | .nil => 1
  | .ptr d => uptoBulk d + 1
  | .slice elems spare => uptoBulkAll elems + uptoBulkAll spare + 1
  | .agg parts => uptoBulkAll parts + 1
  | .iface _ d => uptoBulk d + 1
  | .map entries => uptoBulkEntries entries + 1
  | .held _ => 1
def uptoBulkAll {H : Type} : List (DataW H) → Nat
  | [] => 0
  | d :: r => uptoBulk d + uptoBulkAll r
def uptoBulkEntries {H : Type} : List (Lit × DataW H) → Nat
  | [] => 0
  | x :: r => uptoBulkEntry x + uptoBulkEntries r
def uptoBulkEntry {H : Type} : Lit × DataW H → Nat
  | (.string bytes, d) => bytes.length + uptoBulk d + 1
  | (_, d) => uptoBulk d + 1
 end
def uptoSmall : (H : Type) → List (DataW H) → Bool := fun _ ds => decide (uptoBulkAll ds ≤ 1048576)
def OpenSpec.upto (s : _root_.Go.ChangeSpec) : _root_.Go.OpenSpec := { _root_.Go.OpenSpec.ofChange s with cond := some uptoSmall }

/-- 'kistlaw09.PrefixCodes', WHERE WHAT IT READS IS OF BULK AT MOST 1048576: true; the input reads as it did. -/
def prefixCodesUptoRow : OpenClaim := { program := "ytodjfgdolegfpaa", sum := "a1e722450d3f4a491afc91746656ef16ebfffd874d6b982bda48f7907e388fc6", func := "kist/kistlaw09.PrefixCodes", spec := "prefixCodes", unfollowed := true, recurses := true, apart := false, narrowed := true }
def PrefixCodesUptoSaid : Prop := prefixCodesUptoRow.holds Try.pinned (OpenSpec.upto prefixCodesSpec)

/-- 'kistlaw09.PrefixEncodes', WHERE WHAT IT READS IS OF BULK AT MOST 1048576: true; the input reads as it did. -/
def prefixEncodesUptoRow : OpenClaim := { program := "ytodjfgdolegfpaa", sum := "a1e722450d3f4a491afc91746656ef16ebfffd874d6b982bda48f7907e388fc6", func := "kist/kistlaw09.PrefixEncodes", spec := "prefixEncodes", unfollowed := true, recurses := true, apart := false, narrowed := true }
def PrefixEncodesUptoSaid : Prop := prefixEncodesUptoRow.holds Try.pinned (OpenSpec.upto prefixEncodesSpec)

/-- 'kistlaw09.PrefixDecodes', WHERE WHAT IT READS IS OF BULK AT MOST 1048576: true; the input reads as it did. -/
def prefixDecodesUptoRow : OpenClaim := { program := "ytodjfgdolegfpaa", sum := "a1e722450d3f4a491afc91746656ef16ebfffd874d6b982bda48f7907e388fc6", func := "kist/kistlaw09.PrefixDecodes", spec := "prefixDecodes", unfollowed := true, recurses := true, apart := false, narrowed := true }
def PrefixDecodesUptoSaid : Prop := prefixDecodesUptoRow.holds Try.pinned (OpenSpec.upto prefixDecodesSpec)

/-- 'kistlaw09.PrefixAlls', WHERE WHAT IT READS IS OF BULK AT MOST 1048576: true; the input reads as it did. -/
def prefixAllsUptoRow : OpenClaim := { program := "ytodjfgdolegfpaa", sum := "a1e722450d3f4a491afc91746656ef16ebfffd874d6b982bda48f7907e388fc6", func := "kist/kistlaw09.PrefixAlls", spec := "prefixAlls", unfollowed := true, recurses := true, apart := false, narrowed := true }
def PrefixAllsUptoSaid : Prop := prefixAllsUptoRow.holds Try.pinned (OpenSpec.upto prefixAllsSpec)

/-- 'kistlaw09.PrefixFree', WHERE WHAT IT READS IS OF BULK AT MOST 1048576: true; the input reads as it did. -/
def prefixFreeUptoRow : OpenClaim := { program := "ytodjfgdolegfpaa", sum := "a1e722450d3f4a491afc91746656ef16ebfffd874d6b982bda48f7907e388fc6", func := "kist/kistlaw09.PrefixFree", spec := "prefixFree", unfollowed := true, recurses := true, apart := false, narrowed := true }
def PrefixFreeUptoSaid : Prop := prefixFreeUptoRow.holds Try.pinned (OpenSpec.upto prefixFreeSpec)

/-- 'kistlaw09.PrefixBack', WHERE WHAT IT READS IS OF BULK AT MOST 1048576: true; the input reads as it did. -/
def prefixBackUptoRow : OpenClaim := { program := "ytodjfgdolegfpaa", sum := "a1e722450d3f4a491afc91746656ef16ebfffd874d6b982bda48f7907e388fc6", func := "kist/kistlaw09.PrefixBack", spec := "prefixBack", unfollowed := true, recurses := true, apart := false, narrowed := true }
def PrefixBackUptoSaid : Prop := prefixBackUptoRow.holds Try.pinned (OpenSpec.upto prefixBackSpec)

/-- 'kistlaw09.PrefixFull', WHERE WHAT IT READS IS OF BULK AT MOST 1048576: true; the input reads as it did. -/
def prefixFullUptoRow : OpenClaim := { program := "ytodjfgdolegfpaa", sum := "a1e722450d3f4a491afc91746656ef16ebfffd874d6b982bda48f7907e388fc6", func := "kist/kistlaw09.PrefixFull", spec := "prefixFull", unfollowed := true, recurses := true, apart := false, narrowed := true }
def PrefixFullUptoSaid : Prop := prefixFullUptoRow.holds Try.pinned (OpenSpec.upto prefixFullSpec)

end Rows
end Go.Proofs.Ytodjfgdolegfpaa
