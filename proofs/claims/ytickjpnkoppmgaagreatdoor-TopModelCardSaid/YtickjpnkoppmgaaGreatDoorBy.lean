import Derived.ProofKit
import Derived.JoinedOf
import Derived.SevenTiedAt
import Derived.Test.YtickjpnkoppmgaaGreatDoorRows
import Derived.Test.YtickjpnkoppmgaaGreatDoorProg
import Derived.Test.YtickjpnkoppmgaaGreatDoorAa
set_option linter.all false
namespace Go.Proofs.YtickjpnkoppmgaaGreatDoor.topModel
def k0:(Rows.topModelRow.wf<|OpenSpec.ofChange Rows.topModelSpec)=true:=by kernel_rfl
def k1:(laidOutB Tryz.pinned.checked.prog)=true:=by kernel_rfl
def k2:(mapsRowed Tryz.pinned.checked.prog)=true:=by kernel_rfl
def k3:(Tryz.f3.params.all (Tryz.pinned.checked.prog.readableRec ·))=true:=by kernel_rfl
def k4:(namedTie Tryz.pinned.checked.prog Rows.topModelRow.named Rows.topModelSpec.vars)=true:=by kernel_rfl
def k5:((Rows.topModelRow.stops==[]))=true:=by kernel_rfl
def k6:((Tryz.pinned.checked.prog.stops==[]))=true:=by kernel_rfl
def k7:((Rows.topModelRow.knobs==[]))=true:=by kernel_rfl
def k8:((Tryz.pinned.checked.prog.stopKnobs==[]))=true:=by kernel_rfl
def k9:((Rows.topModelRow.inPlace==Tryz.pinned.checked.prog.inPlace 3))=true:=by kernel_rfl
def k10:((Rows.topModelRow.unfollowed==Tryz.pinned.checked.prog.unfollowed 3))=true:=by kernel_rfl
def k11:((Rows.topModelRow.recurses==Tryz.pinned.checked.prog.recurses 3))=true:=by kernel_rfl
def k12:((Rows.topModelRow.named==Tryz.pinned.checked.prog.varsNamed 3))=true:=by kernel_rfl
def k13:((Rows.topModelRow.maps==(Tryz.f3.params.toList++Rows.topModelSpec.plain.varTypes Tryz.pinned.checked.prog).any (Tryz.pinned.checked.prog.mapsRec ·)))=true:=by kernel_rfl
def k14:((Rows.topModelRow.ifaces==(Tryz.f3.params.toList++Rows.topModelSpec.plain.varTypes Tryz.pinned.checked.prog).any (Tryz.pinned.checked.prog.ifacesRec ·)))=true:=by kernel_rfl
def k15:((Rows.topModelRow.mapsOut==Tryz.pinned.checked.prog.mapsAmong Tryz.f3.resultTypes.toList))=true:=by kernel_rfl
def k16:((Rows.topModelRow.loops==(Tryz.f3.params.toList++Rows.topModelSpec.plain.varTypes Tryz.pinned.checked.prog).any (Tryz.pinned.checked.prog.loopsFrom ·)))=true:=by kernel_rfl
def k17:((Rows.topModelRow.wideKeys==(Tryz.f3.params.toList++Rows.topModelSpec.plain.varTypes Tryz.pinned.checked.prog++Tryz.f3.resultTypes.toList).any (Tryz.pinned.checked.prog.wideKeysFrom ·)))=true:=by kernel_rfl
def k18:(Rows.topModelSpec.vars.all (Tryz.pinned.checked.prog.varReadable ·))=true:=by kernel_rfl
def k19:(Tryz.f3.resultTypes.all fun t=>Tryz.pinned.checked.prog.readableRec t&&decide (t<Tryz.pinned.checked.prog.types.size))=true:=by kernel_rfl
def k20:((Rows.topModelRow.ifacesOut==Tryz.f3.resultTypes.toList.any (Tryz.pinned.checked.prog.ifacesRec ·)))=true:=by kernel_rfl
def k21:((Rows.topModelRow.loopsOut==Tryz.f3.resultTypes.toList.any (Tryz.pinned.checked.prog.loopsFrom ·)))=true:=by kernel_rfl
def k22:((Rows.topModelRow.plainKeys==Tryz.pinned.checked.prog.plainKeys))=true:=by kernel_rfl
def k23:(Rows.topModelRow.shortTexts.isNone)=true:=by kernel_rfl
def k24:(Tryz.pinned.checked.prog.stopsHeard)=true:=by kernel_rfl
def k25:(Tryz.pinned.checked.prog.mayEnter)=true:=by kernel_rfl
def k26:((Rows.topModelRow.lifted==Tryz.pinned.checked.prog.liftsFinal))=true:=by kernel_rfl
def k27:((Tryz.pinned.checked.prog.make==some Rows.topModelRow.make))=true:=by kernel_rfl
def k29:((Rows.topModelRow.pinned==Rows.topModelRow.pinnedBy))=true:=by kernel_rfl
def k30:((Rows.topModelRow.veiled==(Tryz.f3.params.toList++Rows.topModelSpec.plain.varTypes Tryz.pinned.checked.prog++Tryz.f3.resultTypes.toList).any (Tryz.pinned.checked.prog.veiledRec ·)))=true:=by kernel_rfl
def k31:(Rows.topModelRow.veiledFits Tryz.pinned.checked.prog Tryz.f3.params.toList<|Tryz.f3.params.toList++Rows.topModelSpec.plain.varTypes Tryz.pinned.checked.prog++Tryz.f3.resultTypes.toList)=true:=by kernel_rfl
def closed:joinedFacts Tryz.pinned.checked.prog 3 Tryz.f3 Rows.topModelSpec Rows.topModelRow=true:=by unfold joinedFacts;simp only[Xt];exact⟨⟨⟨⟨⟨⟨⟨⟨⟨⟨⟨⟨⟨⟨⟨⟨⟨⟨⟨⟨⟨⟨⟨⟨⟨⟨⟨⟨⟨⟨⟨k0,k1⟩,k2⟩,k3⟩,k4⟩,k5⟩,k6⟩,k7⟩,k8⟩,k9⟩,k10⟩,k11⟩,k12⟩,k13⟩,k14⟩,k15⟩,k16⟩,k17⟩,k18⟩,k19⟩,k20⟩,k21⟩,k22⟩,k23⟩,k24⟩,k25⟩,k26⟩,k27⟩,by kernel_rfl⟩,k29⟩,k30⟩,k31⟩
def Qeg:Tryz.pinned.checked.prog.funcNamed Rows.topModelRow.func=some 3:=by kernel_rfl
def Qcf:Tryz.f3.isInstance Tryz.pinned.checked.prog Rows.topModelRow.origin Rows.topModelRow.targs:=Df (by kernel_rfl)
def Qlp:Tryz.f3.isWrapper Tryz.pinned.checked.prog Rows.topModelRow.wrapper Rows.topModelRow.mainSum:=by unfold Func.isWrapper;first|(rw[Qg<|by decide+kernel];kernel_rfl)|(rw[Qf<|by decide+kernel];exact⟨rfl,rfl⟩)
def vQ:Rows.topModelRow.wfByText (OpenSpec.ofChange Rows.topModelSpec)=true:=by kernel_rfl
def Qdn:Tryz.pinned.checked.prog.mainIs=some (true,"e31a393c5f342d587848af2480b4b57edd33bb0718de9e1a7aebd17f45543637".toList):=by kernel_rfl
def Qdg:true=Tryz.pinned.checked.prog.looks []:=by kernel_rfl
def Qbc:false=Rows.topModelRow.goesBy Tryz.pinned.checked.prog:=by kernel_rfl
def at_ok:Tryz.prog.funcNamed "kist/kisttop.TopModel" =some 3:=by kernel_rfl
