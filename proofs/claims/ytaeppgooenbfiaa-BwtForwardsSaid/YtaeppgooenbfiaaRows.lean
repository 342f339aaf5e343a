/-
  No cell of these rows narrows 'for every input' (looked for: loops, veiled, ifaces, maps, wideKeys, modest, calm, conditions, laid).
  DERIVED. THE GIVEN ROWS OF THIS SEAT. 11 by the template 'for every input the law returns true; each argument reads behind the call as it read before'; 0 by the template 'total and deterministic' (their statements: YtaeppgooenbfiaaTotals.lean).
  GIVEN WITH THE SEED: the statements are not yours to turn. If you find one false, say at which input.
  Laid BY PROGRAM, IN A SANDBOX (cutbox-rows.mjs): the forced cells as the released guide's own fill.sh prints them over the translation c2468df4e38e16e6… (all of the seat's roots in one cut). By AI agents, Wed Nov 11 2026. No macro, syntax, notation, axiom, sorry.
-/
import Derived.Test.YtaeppgooenbfiaaChecked
import GoSem.Claim
import GoSem.ClaimJoined
import GoSem.ClaimMapViews
import Derived.JoinedTies
import Derived.KernelRfl
namespace Go.Proofs.Ytaeppgooenbfiaa
/- THE CELL 'sum', in the pinned program and in every row, IS THE sha256 OF THE DUMP (.gsa) THAT YtaeppgooenbfiaaProg.lean LOADS. Nothing in Lean hashes anything: it is a label: what it is worth is what the hold of that sum in a sandbox is worth. -/
noncomputable def Try.pinned : Pinned := { name := "ytaeppgooenbfiaa", sum := "c2468df4e38e16e6ea39836d23a601e7c3fa9940415e7d215bd39fddef51b54d", checked := Try.checked }
namespace Rows
def none {H : Type} : Left H := { results := [], args := [] }

/-- 'kistlaw04.RotateOrders': WHATEVER THE INPUT: true; the input reads as it did. -/
def rotateOrdersSpec : ChangeSpec := { name := "rotateOrders", fn := fun _ => fun
  | [d] => { results := [.lit (.bool true)], args := [d] }
  | _ => none }
def rotateOrdersRow : OpenClaim := { program := "ytaeppgooenbfiaa", sum := "c2468df4e38e16e6ea39836d23a601e7c3fa9940415e7d215bd39fddef51b54d", func := "kist/kistlaw04.RotateOrders", spec := "rotateOrders", unfollowed := true, recurses := true, apart := false }
def RotateOrdersSaid : Prop := rotateOrdersRow.holds Try.pinned (OpenSpec.ofChange rotateOrdersSpec)

/-- ITS FALSE NEIGHBOUR: 'it returns false'. Refute it at one input. -/
def rotateOrdersWrong : ChangeSpec := { name := "rotateOrders", fn := fun _ => fun
  | [d] => { results := [.lit (.bool false)], args := [d] }
  | _ => none }
def RotateOrdersWrongFalsely : Prop := rotateOrdersRow.holds Try.pinned (OpenSpec.ofChange rotateOrdersWrong)

/-- 'kistlaw04.RotateRanks': WHATEVER THE INPUT: true; the input reads as it did. -/
def rotateRanksSpec : ChangeSpec := { name := "rotateRanks", fn := fun _ => fun
  | [d1, d2] => { results := [.lit (.bool true)], args := [d1, d2] }
  | _ => none }
def rotateRanksRow : OpenClaim := { program := "ytaeppgooenbfiaa", sum := "c2468df4e38e16e6ea39836d23a601e7c3fa9940415e7d215bd39fddef51b54d", func := "kist/kistlaw04.RotateRanks", spec := "rotateRanks", unfollowed := true, recurses := true, apart := false }
def RotateRanksSaid : Prop := rotateRanksRow.holds Try.pinned (OpenSpec.ofChange rotateRanksSpec)

/-- ITS FALSE NEIGHBOUR: 'it returns false'. Refute it at one input. -/
def rotateRanksWrong : ChangeSpec := { name := "rotateRanks", fn := fun _ => fun
  | [d1, d2] => { results := [.lit (.bool false)], args := [d1, d2] }
  | _ => none }
def RotateRanksWrongFalsely : Prop := rotateRanksRow.holds Try.pinned (OpenSpec.ofChange rotateRanksWrong)

/-- 'kistlaw04.RotatePeriods': WHATEVER THE INPUT: true; the input reads as it did. -/
def rotatePeriodsSpec : ChangeSpec := { name := "rotatePeriods", fn := fun _ => fun
  | [d] => { results := [.lit (.bool true)], args := [d] }
  | _ => none }
def rotatePeriodsRow : OpenClaim := { program := "ytaeppgooenbfiaa", sum := "c2468df4e38e16e6ea39836d23a601e7c3fa9940415e7d215bd39fddef51b54d", func := "kist/kistlaw04.RotatePeriods", spec := "rotatePeriods", unfollowed := true, recurses := true, apart := false }
def RotatePeriodsSaid : Prop := rotatePeriodsRow.holds Try.pinned (OpenSpec.ofChange rotatePeriodsSpec)

/-- ITS FALSE NEIGHBOUR: 'it returns false'. Refute it at one input. -/
def rotatePeriodsWrong : ChangeSpec := { name := "rotatePeriods", fn := fun _ => fun
  | [d] => { results := [.lit (.bool false)], args := [d] }
  | _ => none }
def RotatePeriodsWrongFalsely : Prop := rotatePeriodsRow.holds Try.pinned (OpenSpec.ofChange rotatePeriodsWrong)

/-- 'kistlaw04.RotateCmps': WHATEVER THE INPUT: true; the input reads as it did. -/
def rotateCmpsSpec : ChangeSpec := { name := "rotateCmps", fn := fun _ => fun
  | [d1, d2, d3] => { results := [.lit (.bool true)], args := [d1, d2, d3] }
  | _ => none }
def rotateCmpsRow : OpenClaim := { program := "ytaeppgooenbfiaa", sum := "c2468df4e38e16e6ea39836d23a601e7c3fa9940415e7d215bd39fddef51b54d", func := "kist/kistlaw04.RotateCmps", spec := "rotateCmps", unfollowed := true, recurses := true, apart := false }
def RotateCmpsSaid : Prop := rotateCmpsRow.holds Try.pinned (OpenSpec.ofChange rotateCmpsSpec)

/-- ITS FALSE NEIGHBOUR: 'it returns false'. Refute it at one input. -/
def rotateCmpsWrong : ChangeSpec := { name := "rotateCmps", fn := fun _ => fun
  | [d1, d2, d3] => { results := [.lit (.bool false)], args := [d1, d2, d3] }
  | _ => none }
def RotateCmpsWrongFalsely : Prop := rotateCmpsRow.holds Try.pinned (OpenSpec.ofChange rotateCmpsWrong)

/-- 'kistlaw04.RotateRises': WHATEVER THE INPUT: true; the input reads as it did. -/
def rotateRisesSpec : ChangeSpec := { name := "rotateRises", fn := fun _ => fun
  | [d] => { results := [.lit (.bool true)], args := [d] }
  | _ => none }
def rotateRisesRow : OpenClaim := { program := "ytaeppgooenbfiaa", sum := "c2468df4e38e16e6ea39836d23a601e7c3fa9940415e7d215bd39fddef51b54d", func := "kist/kistlaw04.RotateRises", spec := "rotateRises", unfollowed := true, recurses := true, apart := false }
def RotateRisesSaid : Prop := rotateRisesRow.holds Try.pinned (OpenSpec.ofChange rotateRisesSpec)

/-- ITS FALSE NEIGHBOUR: 'it returns false'. Refute it at one input. -/
def rotateRisesWrong : ChangeSpec := { name := "rotateRises", fn := fun _ => fun
  | [d] => { results := [.lit (.bool false)], args := [d] }
  | _ => none }
def RotateRisesWrongFalsely : Prop := rotateRisesRow.holds Try.pinned (OpenSpec.ofChange rotateRisesWrong)

/-- 'kistlaw04.RotateTwice': WHATEVER THE INPUT: true; the input reads as it did. -/
def rotateTwiceSpec : ChangeSpec := { name := "rotateTwice", fn := fun _ => fun
  | [d1, d2] => { results := [.lit (.bool true)], args := [d1, d2] }
  | _ => none }
def rotateTwiceRow : OpenClaim := { program := "ytaeppgooenbfiaa", sum := "c2468df4e38e16e6ea39836d23a601e7c3fa9940415e7d215bd39fddef51b54d", func := "kist/kistlaw04.RotateTwice", spec := "rotateTwice", unfollowed := true, recurses := true, apart := false }
def RotateTwiceSaid : Prop := rotateTwiceRow.holds Try.pinned (OpenSpec.ofChange rotateTwiceSpec)

/-- ITS FALSE NEIGHBOUR: 'it returns false'. Refute it at one input. -/
def rotateTwiceWrong : ChangeSpec := { name := "rotateTwice", fn := fun _ => fun
  | [d1, d2] => { results := [.lit (.bool false)], args := [d1, d2] }
  | _ => none }
def RotateTwiceWrongFalsely : Prop := rotateTwiceRow.holds Try.pinned (OpenSpec.ofChange rotateTwiceWrong)

/-- 'kistlaw05.BwtForwards': WHATEVER THE INPUT: true; the input reads as it did. -/
def bwtForwardsSpec : ChangeSpec := { name := "bwtForwards", fn := fun _ => fun
  | [d] => { results := [.lit (.bool true)], args := [d] }
  | _ => none }
def bwtForwardsRow : OpenClaim := { program := "ytaeppgooenbfiaa", sum := "c2468df4e38e16e6ea39836d23a601e7c3fa9940415e7d215bd39fddef51b54d", func := "kist/kistlaw05.BwtForwards", spec := "bwtForwards", unfollowed := true, recurses := true, apart := false }
def BwtForwardsSaid : Prop := bwtForwardsRow.holds Try.pinned (OpenSpec.ofChange bwtForwardsSpec)

/-- ITS FALSE NEIGHBOUR: 'it returns false'. Refute it at one input. -/
def bwtForwardsWrong : ChangeSpec := { name := "bwtForwards", fn := fun _ => fun
  | [d] => { results := [.lit (.bool false)], args := [d] }
  | _ => none }
def BwtForwardsWrongFalsely : Prop := bwtForwardsRow.holds Try.pinned (OpenSpec.ofChange bwtForwardsWrong)

/-- 'kistlaw05.BwtBacks': WHATEVER THE INPUT: true; the input reads as it did. -/
def bwtBacksSpec : ChangeSpec := { name := "bwtBacks", fn := fun _ => fun
  | [d1, d2] => { results := [.lit (.bool true)], args := [d1, d2] }
  | _ => none }
def bwtBacksRow : OpenClaim := { program := "ytaeppgooenbfiaa", sum := "c2468df4e38e16e6ea39836d23a601e7c3fa9940415e7d215bd39fddef51b54d", func := "kist/kistlaw05.BwtBacks", spec := "bwtBacks", unfollowed := true, recurses := true, apart := false }
def BwtBacksSaid : Prop := bwtBacksRow.holds Try.pinned (OpenSpec.ofChange bwtBacksSpec)

/-- ITS FALSE NEIGHBOUR: 'it returns false'. Refute it at one input. -/
def bwtBacksWrong : ChangeSpec := { name := "bwtBacks", fn := fun _ => fun
  | [d1, d2] => { results := [.lit (.bool false)], args := [d1, d2] }
  | _ => none }
def BwtBacksWrongFalsely : Prop := bwtBacksRow.holds Try.pinned (OpenSpec.ofChange bwtBacksWrong)

/-- 'kistlaw05.BwtBack': WHATEVER THE INPUT: true; the input reads as it did. -/
def bwtBackSpec : ChangeSpec := { name := "bwtBack", fn := fun _ => fun
  | [d] => { results := [.lit (.bool true)], args := [d] }
  | _ => none }
def bwtBackRow : OpenClaim := { program := "ytaeppgooenbfiaa", sum := "c2468df4e38e16e6ea39836d23a601e7c3fa9940415e7d215bd39fddef51b54d", func := "kist/kistlaw05.BwtBack", spec := "bwtBack", unfollowed := true, recurses := true, apart := false }
def BwtBackSaid : Prop := bwtBackRow.holds Try.pinned (OpenSpec.ofChange bwtBackSpec)

/-- ITS FALSE NEIGHBOUR: 'it returns false'. Refute it at one input. -/
def bwtBackWrong : ChangeSpec := { name := "bwtBack", fn := fun _ => fun
  | [d] => { results := [.lit (.bool false)], args := [d] }
  | _ => none }
def BwtBackWrongFalsely : Prop := bwtBackRow.holds Try.pinned (OpenSpec.ofChange bwtBackWrong)

/-- 'kistlaw05.BwtRows': WHATEVER THE INPUT: true; the input reads as it did. -/
def bwtRowsSpec : ChangeSpec := { name := "bwtRows", fn := fun _ => fun
  | [d1, d2] => { results := [.lit (.bool true)], args := [d1, d2] }
  | _ => none }
def bwtRowsRow : OpenClaim := { program := "ytaeppgooenbfiaa", sum := "c2468df4e38e16e6ea39836d23a601e7c3fa9940415e7d215bd39fddef51b54d", func := "kist/kistlaw05.BwtRows", spec := "bwtRows", unfollowed := true, recurses := true, apart := false }
def BwtRowsSaid : Prop := bwtRowsRow.holds Try.pinned (OpenSpec.ofChange bwtRowsSpec)

/-- ITS FALSE NEIGHBOUR: 'it returns false'. Refute it at one input. -/
def bwtRowsWrong : ChangeSpec := { name := "bwtRows", fn := fun _ => fun
  | [d1, d2] => { results := [.lit (.bool false)], args := [d1, d2] }
  | _ => none }
def BwtRowsWrongFalsely : Prop := bwtRowsRow.holds Try.pinned (OpenSpec.ofChange bwtRowsWrong)

/-- 'kistlaw05.BwtTurns': WHATEVER THE INPUT: true; the input reads as it did. -/
def bwtTurnsSpec : ChangeSpec := { name := "bwtTurns", fn := fun _ => fun
  | [d1, d2, d3] => { results := [.lit (.bool true)], args := [d1, d2, d3] }
  | _ => none }
def bwtTurnsRow : OpenClaim := { program := "ytaeppgooenbfiaa", sum := "c2468df4e38e16e6ea39836d23a601e7c3fa9940415e7d215bd39fddef51b54d", func := "kist/kistlaw05.BwtTurns", spec := "bwtTurns", unfollowed := true, recurses := true, apart := false }
def BwtTurnsSaid : Prop := bwtTurnsRow.holds Try.pinned (OpenSpec.ofChange bwtTurnsSpec)

/-- ITS FALSE NEIGHBOUR: 'it returns false'. Refute it at one input. -/
def bwtTurnsWrong : ChangeSpec := { name := "bwtTurns", fn := fun _ => fun
  | [d1, d2, d3] => { results := [.lit (.bool false)], args := [d1, d2, d3] }
  | _ => none }
def BwtTurnsWrongFalsely : Prop := bwtTurnsRow.holds Try.pinned (OpenSpec.ofChange bwtTurnsWrong)

/- THE SECOND FORM. 'bulk': how many values and letters a reading holds, each counted each time it is reached (what is shared counts as often as it is met; a slice's spare places count too). A statement '..UptoSaid' is the law's where the arguments, and the package variables that the reading takes, are together of bulk at most 1048576: NARROWER than '..Said'. Prove '..Said' where nothing that the law and all that it calls make is longer than what came in: it says more and counts as full. Else prove '..UptoSaid'. A law counts once. -/
mutual
def uptoBulk {H : Type} : DataW H → Nat
  | .lit (.string bytes) => bytes.length + 1
  | .lit _ => 1
  | .nil => 1
  | .ptr d => uptoBulk d + 1
  | .slice elems spare => uptoBulkAll elems + uptoBulkAll spare + 1
  | .agg parts => uptoBulkAll parts + 1
  | .iface _ d => uptoBulk d + 1
  | .map entries => uptoBulkEntries entries + 1
  | .held _ => 1
def uptoBulkAll {H : Type} : List (DataW H) → Nat
  | [] => 0
  | d :: r => uptoBulk d + uptoBulkAll r
def uptoBulkEntries {H : Type} : List (Lit × DataW H) → Nat
  | [] => 0
  | x :: r => uptoBulkEntry x + uptoBulkEntries r
def uptoBulkEntry {H : Type} : Lit × DataW H → Nat
  | (.string bytes, d) => bytes.length + uptoBulk d + 1
  | (_, d) => uptoBulk d + 1
 end
def uptoSmall : (H : Type) → List (DataW H) → Bool := fun _ ds => decide (uptoBulkAll ds ≤ 1048576)
def OpenSpec.upto (s : _root_.Go.ChangeSpec) : _root_.Go.OpenSpec := { _root_.Go.OpenSpec.ofChange s with cond := some uptoSmall }

/-- 'kistlaw04.RotateOrders', WHERE WHAT IT READS IS OF BULK AT MOST 1048576: true; the input reads as it did. -/
def rotateOrdersUptoRow : OpenClaim := { program := "ytaeppgooenbfiaa", sum := "c2468df4e38e16e6ea39836d23a601e7c3fa9940415e7d215bd39fddef51b54d", func := "kist/kistlaw04.RotateOrders", spec := "rotateOrders", unfollowed := true, recurses := true, apart := false, narrowed := true }
def RotateOrdersUptoSaid : Prop := rotateOrdersUptoRow.holds Try.pinned (OpenSpec.upto rotateOrdersSpec)

/-- 'kistlaw04.RotateRanks', WHERE WHAT IT READS IS OF BULK AT MOST 1048576: true; the input reads as it did. -/
def rotateRanksUptoRow : OpenClaim := { program := "ytaeppgooenbfiaa", sum := "c2468df4e38e16e6ea39836d23a601e7c3fa9940415e7d215bd39fddef51b54d", func := "kist/kistlaw04.RotateRanks", spec := "rotateRanks", unfollowed := true, recurses := true, apart := false, narrowed := true }
def RotateRanksUptoSaid : Prop := rotateRanksUptoRow.holds Try.pinned (OpenSpec.upto rotateRanksSpec)

/-- 'kistlaw04.RotatePeriods', WHERE WHAT IT READS IS OF BULK AT MOST 1048576: true; the input reads as it did. -/
def rotatePeriodsUptoRow : OpenClaim := { program := "ytaeppgooenbfiaa", sum := "c2468df4e38e16e6ea39836d23a601e7c3fa9940415e7d215bd39fddef51b54d", func := "kist/kistlaw04.RotatePeriods", spec := "rotatePeriods", unfollowed := true, recurses := true, apart := false, narrowed := true }
def RotatePeriodsUptoSaid : Prop := rotatePeriodsUptoRow.holds Try.pinned (OpenSpec.upto rotatePeriodsSpec)

/-- 'kistlaw04.RotateCmps', WHERE WHAT IT READS IS OF BULK AT MOST 1048576: true; the input reads as it did. -/
def rotateCmpsUptoRow : OpenClaim := { program := "ytaeppgooenbfiaa", sum := "c2468df4e38e16e6ea39836d23a601e7c3fa9940415e7d215bd39fddef51b54d", func := "kist/kistlaw04.RotateCmps", spec := "rotateCmps", unfollowed := true, recurses := true, apart := false, narrowed := true }
def RotateCmpsUptoSaid : Prop := rotateCmpsUptoRow.holds Try.pinned (OpenSpec.upto rotateCmpsSpec)

/-- 'kistlaw04.RotateRises', WHERE WHAT IT READS IS OF BULK AT MOST 1048576: true; the input reads as it did. -/
def rotateRisesUptoRow : OpenClaim := { program := "ytaeppgooenbfiaa", sum := "c2468df4e38e16e6ea39836d23a601e7c3fa9940415e7d215bd39fddef51b54d", func := "kist/kistlaw04.RotateRises", spec := "rotateRises", unfollowed := true, recurses := true, apart := false, narrowed := true }
def RotateRisesUptoSaid : Prop := rotateRisesUptoRow.holds Try.pinned (OpenSpec.upto rotateRisesSpec)

/-- 'kistlaw04.RotateTwice', WHERE WHAT IT READS IS OF BULK AT MOST 1048576: true; the input reads as it did. -/
def rotateTwiceUptoRow : OpenClaim := { program := "ytaeppgooenbfiaa", sum := "c2468df4e38e16e6ea39836d23a601e7c3fa9940415e7d215bd39fddef51b54d", func := "kist/kistlaw04.RotateTwice", spec := "rotateTwice", unfollowed := true, recurses := true, apart := false, narrowed := true }
def RotateTwiceUptoSaid : Prop := rotateTwiceUptoRow.holds Try.pinned (OpenSpec.upto rotateTwiceSpec)

/-- 'kistlaw05.BwtForwards', WHERE WHAT IT READS IS OF BULK AT MOST 1048576: true; the input reads as it did. -/
def bwtForwardsUptoRow : OpenClaim := { program := "ytaeppgooenbfiaa", sum := "c2468df4e38e16e6ea39836d23a601e7c3fa9940415e7d215bd39fddef51b54d", func := "kist/kistlaw05.BwtForwards", spec := "bwtForwards", unfollowed := true, recurses := true, apart := false, narrowed := true }
def BwtForwardsUptoSaid : Prop := bwtForwardsUptoRow.holds Try.pinned (OpenSpec.upto bwtForwardsSpec)

/-- 'kistlaw05.BwtBacks', WHERE WHAT IT READS IS OF BULK AT MOST 1048576: true; the input reads as it did. -/
def bwtBacksUptoRow : OpenClaim := { program := "ytaeppgooenbfiaa", sum := "c2468df4e38e16e6ea39836d23a601e7c3fa9940415e7d215bd39fddef51b54d", func := "kist/kistlaw05.BwtBacks", spec := "bwtBacks", unfollowed := true, recurses := true, apart := false, narrowed := true }
def BwtBacksUptoSaid : Prop := bwtBacksUptoRow.holds Try.pinned (OpenSpec.upto bwtBacksSpec)

/-- 'kistlaw05.BwtBack', WHERE WHAT IT READS IS OF BULK AT MOST 1048576: true; the input reads as it did. -/
def bwtBackUptoRow : OpenClaim := { program := "ytaeppgooenbfiaa", sum := "c2468df4e38e16e6ea39836d23a601e7c3fa9940415e7d215bd39fddef51b54d", func := "kist/kistlaw05.BwtBack", spec := "bwtBack", unfollowed := true, recurses := true, apart := false, narrowed := true }
def BwtBackUptoSaid : Prop := bwtBackUptoRow.holds Try.pinned (OpenSpec.upto bwtBackSpec)

/-- 'kistlaw05.BwtRows', WHERE WHAT IT READS IS OF BULK AT MOST 1048576: true; the input reads as it did. -/
def bwtRowsUptoRow : OpenClaim := { program := "ytaeppgooenbfiaa", sum := "c2468df4e38e16e6ea39836d23a601e7c3fa9940415e7d215bd39fddef51b54d", func := "kist/kistlaw05.BwtRows", spec := "bwtRows", unfollowed := true, recurses := true, apart := false, narrowed := true }
def BwtRowsUptoSaid : Prop := bwtRowsUptoRow.holds Try.pinned (OpenSpec.upto bwtRowsSpec)

/-- 'kistlaw05.BwtTurns', WHERE WHAT IT READS IS OF BULK AT MOST 1048576: true; the input reads as it did. -/
def bwtTurnsUptoRow : OpenClaim := { program := "ytaeppgooenbfiaa", sum := "c2468df4e38e16e6ea39836d23a601e7c3fa9940415e7d215bd39fddef51b54d", func := "kist/kistlaw05.BwtTurns", spec := "bwtTurns", unfollowed := true, recurses := true, apart := false, narrowed := true }
def BwtTurnsUptoSaid : Prop := bwtTurnsUptoRow.holds Try.pinned (OpenSpec.upto bwtTurnsSpec)

end Rows
end Go.Proofs.Ytaeppgooenbfiaa
