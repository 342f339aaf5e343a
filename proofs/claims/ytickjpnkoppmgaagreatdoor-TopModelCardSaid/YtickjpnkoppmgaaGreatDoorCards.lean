/-
  DERIVED. GIVEN WITH THE SEED: THE CARDS: each row of YtickjpnkoppmgaaGreatDoorRows.lean that lists a variable, with what it lists TIED to the program's text (the seventh form; the later family's looks); each row that meets fmt, with fmt's text TOLD by the authors' own Lean function (tested against real Go, not proved from fmt's source: count such statements apart). THE CARD IS WHAT COUNTS. Prove the row's statement (the work); the ties are given (YtickjpnkoppmgaaGreatDoorTie.lean); close each card by the builder's one call (the guide's Derived/Test/ToyasCard.lean, 'card_holds'). Laid BY PROGRAM, IN A SANDBOX (cutbox-door.mjs). By AI agents, Wed Nov 11 2026. No macro, syntax, notation, axiom, sorry.
-/
import Derived.Test.YtickjpnkoppmgaaGreatDoorRows
import GoSem.ClaimSeven
namespace Go.Proofs.YtickjpnkoppmgaaGreatDoor
namespace Rows

/-- THE TIED CARD OF 'kisttop.TopModel'. -/
def topModelCard : Claim7 := { stood := { row := topModelRow, standIns := [], harness := (true, "e31a393c5f342d587848af2480b4b57edd33bb0718de9e1a7aebd17f45543637"), looks := true }, kinds := [], alts := [], laidByText := true, laidKinds := [.data, .data, .data, .data, .pinned], laidTests := true, laidLooks := .later }
def TopModelCardSaid : Prop := Claim7.holds Tryz.pinned (.plain (OpenSpec.ofChange topModelSpec)) topModelCard

/-- THE TIED CARD OF 'kisttop.TopCompact'. -/
def topCompactCard : Claim7 := { stood := { row := topCompactRow, standIns := [], harness := (true, "e31a393c5f342d587848af2480b4b57edd33bb0718de9e1a7aebd17f45543637"), looks := true }, kinds := [], alts := [], laidByText := true, laidKinds := [.data, .data, .data, .data, .pinned], laidTests := true, laidLooks := .later }
def TopCompactCardSaid : Prop := Claim7.holds Tryz.pinned (.plain (OpenSpec.ofChange topCompactSpec)) topCompactCard

/-- THE TIED CARD OF 'kisttop.TopCalls'. -/
def topCallsCard : Claim7 := { stood := { row := topCallsRow, standIns := [], harness := (true, "e31a393c5f342d587848af2480b4b57edd33bb0718de9e1a7aebd17f45543637"), looks := true }, kinds := [], alts := [], laidByText := true, laidKinds := [.data, .data, .data, .data, .pinned], laidTests := true, laidLooks := .later }
def TopCallsCardSaid : Prop := Claim7.holds Tryz.pinned (.plain (OpenSpec.ofChange topCallsSpec)) topCallsCard

/-- THE SECOND FORM's CARD OF 'kisttop.TopModel'. -/
def topModelUptoCard : Claim7 := { stood := { row := topModelUptoRow, standIns := [], harness := (true, "e31a393c5f342d587848af2480b4b57edd33bb0718de9e1a7aebd17f45543637"), looks := true }, kinds := [], alts := [], laidByText := true, laidKinds := [.data, .data, .data, .data, .pinned], laidTests := true, laidLooks := .later }
def TopModelUptoCardSaid : Prop := Claim7.holds Tryz.pinned (.plain (OpenSpec.upto topModelSpec)) topModelUptoCard

/-- THE SECOND FORM's CARD OF 'kisttop.TopCompact'. -/
def topCompactUptoCard : Claim7 := { stood := { row := topCompactUptoRow, standIns := [], harness := (true, "e31a393c5f342d587848af2480b4b57edd33bb0718de9e1a7aebd17f45543637"), looks := true }, kinds := [], alts := [], laidByText := true, laidKinds := [.data, .data, .data, .data, .pinned], laidTests := true, laidLooks := .later }
def TopCompactUptoCardSaid : Prop := Claim7.holds Tryz.pinned (.plain (OpenSpec.upto topCompactSpec)) topCompactUptoCard

/-- THE SECOND FORM's CARD OF 'kisttop.TopCalls'. -/
def topCallsUptoCard : Claim7 := { stood := { row := topCallsUptoRow, standIns := [], harness := (true, "e31a393c5f342d587848af2480b4b57edd33bb0718de9e1a7aebd17f45543637"), looks := true }, kinds := [], alts := [], laidByText := true, laidKinds := [.data, .data, .data, .data, .pinned], laidTests := true, laidLooks := .later }
def TopCallsUptoCardSaid : Prop := Claim7.holds Tryz.pinned (.plain (OpenSpec.upto topCallsSpec)) topCallsUptoCard
end Rows
end Go.Proofs.YtickjpnkoppmgaaGreatDoor
