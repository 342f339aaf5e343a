/-
  math/bits.Len off the shelf: the shelf's plain layings, written by its tool lay-plain.mjs (no command of the shelf's), numbers by marks (wip/marklay.py).
-/
import Derived.Test.YtdaenajhgbagdaaWriteA
import Derived.Shelf.Small.Bits
import Derived.Ground.NamesProg
namespace Go.Proofs
open Go.Shelf Go.Lib
def Try.bitsLen_ren : Go.Shelf.Ren := ⟨fun | 125 => 109 | 128 => 118 | 129 => 119 | n => n, fun | 46 => 86 | 3 => 3 | 51 => 153 | 53 => 70 | 4 => 4 | 5 => 5 | 9 => 9 | n => n, fun | n => n⟩
theorem Try.bitsLen : Go.Proofs.Lays.n125 Try.prog Try.bitsLen_ren := {
  mixed := by kernel_rfl
  f125 := Try.func109.trans (congrArg some (by kernel_rfl))
  f128 := Try.func118.trans (congrArg some (by kernel_rfl))
  f129 := Try.func119.trans (congrArg some (by kernel_rfl))
  t3 := Try.underlying3
  a3 := Try.isAgg3
  z3 := Try.sizeOf3
  v3 := Try.zeroValue3
  t4 := Try.underlying4
  a4 := Try.isAgg4
  z4 := Try.sizeOf4
  v4 := Try.zeroValue4
  t5 := Try.underlying5
  a5 := Try.isAgg5
  z5 := Try.sizeOf5
  v5 := Try.zeroValue5
  t9 := Try.underlying9
  a9 := Try.isAgg9
  z9 := Try.sizeOf9
  v9 := Try.zeroValue9
  t46 := Try.underlying86
  a46 := Try.isAgg86
  z46 := Try.sizeOf86
  v46 := Try.zeroValue86
  t51 := Try.underlying153
  a51 := Try.isAgg153
  z51 := Try.sizeOf153
  v51 := Try.zeroValue153
  t53 := Try.underlying70
  a53 := Try.isAgg70
  z53 := Try.sizeOf70
  v53 := Try.zeroValue70 }
end Go.Proofs
namespace Go.Proofs.Ytdaenajhgbagdaa
open Go.Shelf Go.Lib
theorem len_any (n : Nat) (w : World) (h : n < 18446744073709551616) : Calls Try.prog 109 #[.int .u64 n] w fun e w' => e = .returned (.int .i64 (Lib.bitLen n : Nat)) ∧ w' = w := by
  have := Any.bits_Len Try.bitsLen (n : Int) w (by omega) (by omega)
  rwa [Int.toNat_natCast] at this
end Go.Proofs.Ytdaenajhgbagdaa
