import Derived.Shelf.Small.Bits
import Derived.Ground.NamesProg
import Derived.Test.YtickjpnkoppmgaaGreatDoorAd
set_option linter.all false
namespace Go.Proofs
section
open Tryz Go.Shelf Go.Lib
def Tryz.bitsLen_ren:Go.Shelf.Ren:=⟨fun|125=>104|128=>145|129=>146|n=>n,fun|46=>179|3=>3|51=>67|53=>214|4=>4|5=>5|9=>9|n=>n,fun|n=>n⟩
theorem Tryz.bitsLen:Go.Proofs.Lays.n125 prog Tryz.bitsLen_ren:={
 mixed:=by kernel_rfl
 f125:=tq func104
 f128:=tq func145
 f129:=tq func146
 t3:=underlying3
 a3:=isAgg3
 z3:=sizeOf3
 v3:=zeroValue3
 t4:=underlying4
 a4:=isAgg4
 z4:=sizeOf4
 v4:=zeroValue4
 t5:=underlying5
 a5:=isAgg5
 z5:=sizeOf5
 v5:=zeroValue5
 t9:=underlying9
 a9:=isAgg9
 z9:=sizeOf9
 v9:=zeroValue9
 t46:=underlying179
 a46:=isAgg179
 z46:=sizeOf179
 v46:=zeroValue179
 t51:=underlying67
 a51:=isAgg67
 z51:=sizeOf67
 v51:=zeroValue67
 t53:=underlying214
 a53:=isAgg214
 z53:=sizeOf214
 v53:=zeroValue214}
end
end Go.Proofs
namespace Go.Proofs.YtickjpnkoppmgaaGreatDoor
open Go.Proofs.Tryz Go.RowKit K Go.Lib Go.Shelf
theorem fI (n:Nat)(w)(h:n<18446744073709551616):Calls prog 104 #[.int .u64 n] w fun e w'=>e=.returned (Lib.bitLen n:Nat)∧w'=w:=by have:=Any.bits_Len Tryz.bitsLen (n:Int) w (by omega) (by omega);rwa[ZH]at this
