/-
  math/bits.Len off the shelf.
-/
import Derived.Test.YtaeppgooenbfiaaInts
import Derived.Shelf.Small.Bits
import Derived.Shelf.Lay
import Derived.Ground.NamesProg
namespace Go.Proofs
open Go.Shelf Go.Lib
shelf_lay Lays.n125 Nm 125 at Try as Try.bitsLen
end Go.Proofs
namespace Go.Proofs.Ytaeppgooenbfiaa
theorem len_any (n : Nat) (w : World) (h : n < 18446744073709551616) : Calls Try.prog 40 #[.int .u64 n] w fun e w' => e = .returned (.int .i64 (Lib.bitLen n : Nat)) ∧ w' = w := by
  have := Any.bits_Len Try.bitsLen (n : Int) w (by omega) (by omega)
  rwa [Int.toNat_natCast] at this
end Go.Proofs.Ytaeppgooenbfiaa
