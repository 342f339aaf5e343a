import Derived.ProofKit
import Derived.JoinedOf
import Derived.SevenTiedAt
import Derived.Test.YtickjpnkoppmgaaGreatDoorRows
import Derived.Test.YtickjpnkoppmgaaGreatDoorProg
import Derived.Test.YtickjpnkoppmgaaGreatDoorAa
set_option linter.all false
namespace Go.Proofs.YtickjpnkoppmgaaGreatDoor.topCompact
def k0:(Rows.topCompactRow.wf<|OpenSpec.ofChange Rows.topCompactSpec)=true:=by kernel_rfl
def k1:(laidOutB Tryz.pinned.checked.prog)=true:=by kernel_rfl
def k2:(mapsRowed Tryz.pinned.checked.prog)=true:=by kernel_rfl
def k3:(Tryz.f4.params.all (Tryz.pinned.checked.prog.readableRec ·))=true:=by kernel_rfl
def k4:(namedTie Tryz.pinned.checked.prog Rows.topCompactRow.named Rows.topCompactSpec.vars)=true:=by kernel_rfl
def k5:((Rows.topCompactRow.stops==[]))=true:=by kernel_rfl
def k6:((Tryz.pinned.checked.prog.stops==[]))=true:=by kernel_rfl
def k7:((Rows.topCompactRow.knobs==[]))=true:=by kernel_rfl
def k8:((Tryz.pinned.checked.prog.stopKnobs==[]))=true:=by kernel_rfl
def k9:((Rows.topCompactRow.inPlace==Tryz.pinned.checked.prog.inPlace 4))=true:=by kernel_rfl
def k10:((Rows.topCompactRow.unfollowed==Tryz.pinned.checked.prog.unfollowed 4))=true:=by kernel_rfl
def k11:((Rows.topCompactRow.recurses==Tryz.pinned.checked.prog.recurses 4))=true:=by kernel_rfl
def k12:((Rows.topCompactRow.named==Tryz.pinned.checked.prog.varsNamed 4))=true:=by kernel_rfl
def k13:((Rows.topCompactRow.maps==(Tryz.f4.params.toList++Rows.topCompactSpec.plain.varTypes Tryz.pinned.checked.prog).any (Tryz.pinned.checked.prog.mapsRec ·)))=true:=by kernel_rfl
def k14:((Rows.topCompactRow.ifaces==(Tryz.f4.params.toList++Rows.topCompactSpec.plain.varTypes Tryz.pinned.checked.prog).any (Tryz.pinned.checked.prog.ifacesRec ·)))=true:=by kernel_rfl
def k15:((Rows.topCompactRow.mapsOut==Tryz.pinned.checked.prog.mapsAmong Tryz.f4.resultTypes.toList))=true:=by kernel_rfl
def k16:((Rows.topCompactRow.loops==(Tryz.f4.params.toList++Rows.topCompactSpec.plain.varTypes Tryz.pinned.checked.prog).any (Tryz.pinned.checked.prog.loopsFrom ·)))=true:=by kernel_rfl
def k17:((Rows.topCompactRow.wideKeys==(Tryz.f4.params.toList++Rows.topCompactSpec.plain.varTypes Tryz.pinned.checked.prog++Tryz.f4.resultTypes.toList).any (Tryz.pinned.checked.prog.wideKeysFrom ·)))=true:=by kernel_rfl
def k18:(Rows.topCompactSpec.vars.all (Tryz.pinned.checked.prog.varReadable ·))=true:=by kernel_rfl
def k19:(Tryz.f4.resultTypes.all fun t=>Tryz.pinned.checked.prog.readableRec t&&decide (t<Tryz.pinned.checked.prog.types.size))=true:=by kernel_rfl
def k20:((Rows.topCompactRow.ifacesOut==Tryz.f4.resultTypes.toList.any (Tryz.pinned.checked.prog.ifacesRec ·)))=true:=by kernel_rfl
def k21:((Rows.topCompactRow.loopsOut==Tryz.f4.resultTypes.toList.any (Tryz.pinned.checked.prog.loopsFrom ·)))=true:=by kernel_rfl
def k22:((Rows.topCompactRow.plainKeys==Tryz.pinned.checked.prog.plainKeys))=true:=by kernel_rfl
def k23:(Rows.topCompactRow.shortTexts.isNone)=true:=by kernel_rfl
def k24:(Tryz.pinned.checked.prog.stopsHeard)=true:=by kernel_rfl
def k25:(Tryz.pinned.checked.prog.mayEnter)=true:=by kernel_rfl
def k26:((Rows.topCompactRow.lifted==Tryz.pinned.checked.prog.liftsFinal))=true:=by kernel_rfl
def k27:((Tryz.pinned.checked.prog.make==some Rows.topCompactRow.make))=true:=by kernel_rfl
def k29:((Rows.topCompactRow.pinned==Rows.topCompactRow.pinnedBy))=true:=by kernel_rfl
def k30:((Rows.topCompactRow.veiled==(Tryz.f4.params.toList++Rows.topCompactSpec.plain.varTypes Tryz.pinned.checked.prog++Tryz.f4.resultTypes.toList).any (Tryz.pinned.checked.prog.veiledRec ·)))=true:=by kernel_rfl
def k31:(Rows.topCompactRow.veiledFits Tryz.pinned.checked.prog Tryz.f4.params.toList<|Tryz.f4.params.toList++Rows.topCompactSpec.plain.varTypes Tryz.pinned.checked.prog++Tryz.f4.resultTypes.toList)=true:=by kernel_rfl
def closed:joinedFacts Tryz.pinned.checked.prog 4 Tryz.f4 Rows.topCompactSpec Rows.topCompactRow=true:=by unfold joinedFacts;simp only[Xh];exact⟨⟨⟨⟨⟨⟨⟨⟨⟨⟨⟨⟨⟨⟨⟨⟨⟨⟨⟨⟨⟨⟨⟨⟨⟨⟨⟨⟨⟨⟨⟨k0,k1⟩,k2⟩,k3⟩,k4⟩,k5⟩,k6⟩,k7⟩,k8⟩,k9⟩,k10⟩,k11⟩,k12⟩,k13⟩,k14⟩,k15⟩,k16⟩,k17⟩,k18⟩,k19⟩,k20⟩,k21⟩,k22⟩,k23⟩,k24⟩,k25⟩,k26⟩,k27⟩,by kernel_rfl⟩,k29⟩,k30⟩,k31⟩
def Qby:Tryz.pinned.checked.prog.funcNamed Rows.topCompactRow.func=some 4:=by kernel_rfl
def zN:Tryz.f4.isInstance Tryz.pinned.checked.prog Rows.topCompactRow.origin Rows.topCompactRow.targs:=Ct (by kernel_rfl)
def Qi9:Tryz.f4.isWrapper Tryz.pinned.checked.prog Rows.topCompactRow.wrapper Rows.topCompactRow.mainSum:=by unfold Func.isWrapper;first|(rw[Qg<|by decide+kernel];kernel_rfl)|(rw[Qf<|by decide+kernel];exact⟨rfl,rfl⟩)
def sK:Rows.topCompactRow.wfByText (OpenSpec.ofChange Rows.topCompactSpec)=true:=by kernel_rfl
def Qa5:Tryz.pinned.checked.prog.mainIs=some (true,"e31a393c5f342d587848af2480b4b57edd33bb0718de9e1a7aebd17f45543637".toList):=by kernel_rfl
def Qay:true=Tryz.pinned.checked.prog.looks []:=by kernel_rfl
def yA:false=Rows.topCompactRow.goesBy Tryz.pinned.checked.prog:=by kernel_rfl
def at_ok:Tryz.prog.funcNamed "kist/kisttop.TopCompact" =some 4:=by kernel_rfl
