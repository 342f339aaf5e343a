import Derived.Test.YtcjkjknahalpnaaProg
import Derived.Test.YtcjkjknahalpnaaLib
import Derived.Test.YtcjkjknahalpnaaPlain
import Derived.BigQuiet
import Derived.Outline
import Derived.Deep.LoopGhost
import Derived.Deep.DeepCutAuto
import Derived.Laws.BitsAllLaws
namespace Go.Proofs.Ytcjkjknahalpnaa
open Go.RowKit

theorem Try.infoU8 : (Try.prog.info? 5).map (fun i => (i.zero, i.size, i.bytes)) = some (some (.int .u8 0), 1, 1) := by kernel_rfl
/-- Bytes as values. -/
def u8s (l : List UInt8) : List Value := l.map fun b => .int .u8 (b.toNat : Int)

end Go.Proofs.Ytcjkjknahalpnaa
