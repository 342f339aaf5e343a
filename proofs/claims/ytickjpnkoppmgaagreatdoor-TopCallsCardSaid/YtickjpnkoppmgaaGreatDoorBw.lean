import Derived.SevenTiedAt
import Derived.ProofKit
import Derived.JoinedOf
import Derived.Test.YtickjpnkoppmgaaGreatDoorRows
import Derived.Test.YtickjpnkoppmgaaGreatDoorProg
import Derived.Test.YtickjpnkoppmgaaGreatDoorAa
set_option linter.all false
namespace Go.Proofs.YtickjpnkoppmgaaGreatDoor.topCalls
theorem k0:(Rows.topCallsRow.wf<|OpenSpec.ofChange Rows.topCallsSpec)=true:=by kernel_rfl
theorem k1:(laidOutB Tryz.pinned.checked.prog)=true:=by kernel_rfl
theorem k2:(mapsRowed Tryz.pinned.checked.prog)=true:=by kernel_rfl
theorem k3:(Tryz.f5.params.all (Tryz.pinned.checked.prog.readableRec ·))=true:=by kernel_rfl
theorem k4:(namedTie Tryz.pinned.checked.prog Rows.topCallsRow.named Rows.topCallsSpec.vars)=true:=by kernel_rfl
theorem k5:((Rows.topCallsRow.stops==[]))=true:=by kernel_rfl
theorem k6:((Tryz.pinned.checked.prog.stops==[]))=true:=by kernel_rfl
theorem k7:((Rows.topCallsRow.knobs==[]))=true:=by kernel_rfl
theorem k8:((Tryz.pinned.checked.prog.stopKnobs==[]))=true:=by kernel_rfl
theorem k9:((Rows.topCallsRow.inPlace==Tryz.pinned.checked.prog.inPlace 5))=true:=by kernel_rfl
theorem k10:((Rows.topCallsRow.unfollowed==Tryz.pinned.checked.prog.unfollowed 5))=true:=by kernel_rfl
theorem k11:((Rows.topCallsRow.recurses==Tryz.pinned.checked.prog.recurses 5))=true:=by kernel_rfl
theorem k12:((Rows.topCallsRow.named==Tryz.pinned.checked.prog.varsNamed 5))=true:=by kernel_rfl
theorem k13:((Rows.topCallsRow.maps==(Tryz.f5.params.toList++Rows.topCallsSpec.plain.varTypes Tryz.pinned.checked.prog).any (Tryz.pinned.checked.prog.mapsRec ·)))=true:=by kernel_rfl
theorem k14:((Rows.topCallsRow.ifaces==(Tryz.f5.params.toList++Rows.topCallsSpec.plain.varTypes Tryz.pinned.checked.prog).any (Tryz.pinned.checked.prog.ifacesRec ·)))=true:=by kernel_rfl
theorem k15:((Rows.topCallsRow.mapsOut==Tryz.pinned.checked.prog.mapsAmong Tryz.f5.resultTypes.toList))=true:=by kernel_rfl
theorem k16:((Rows.topCallsRow.loops==(Tryz.f5.params.toList++Rows.topCallsSpec.plain.varTypes Tryz.pinned.checked.prog).any (Tryz.pinned.checked.prog.loopsFrom ·)))=true:=by kernel_rfl
theorem k17:((Rows.topCallsRow.wideKeys==(Tryz.f5.params.toList++Rows.topCallsSpec.plain.varTypes Tryz.pinned.checked.prog++Tryz.f5.resultTypes.toList).any (Tryz.pinned.checked.prog.wideKeysFrom ·)))=true:=by kernel_rfl
theorem k18:(Rows.topCallsSpec.vars.all (Tryz.pinned.checked.prog.varReadable ·))=true:=by kernel_rfl
theorem k19:(Tryz.f5.resultTypes.all fun t=>Tryz.pinned.checked.prog.readableRec t&&decide (t<Tryz.pinned.checked.prog.types.size))=true:=by kernel_rfl
theorem k20:((Rows.topCallsRow.ifacesOut==Tryz.f5.resultTypes.toList.any (Tryz.pinned.checked.prog.ifacesRec ·)))=true:=by kernel_rfl
theorem k21:((Rows.topCallsRow.loopsOut==Tryz.f5.resultTypes.toList.any (Tryz.pinned.checked.prog.loopsFrom ·)))=true:=by kernel_rfl
theorem k22:((Rows.topCallsRow.plainKeys==Tryz.pinned.checked.prog.plainKeys))=true:=by kernel_rfl
theorem k23:(Rows.topCallsRow.shortTexts.isNone)=true:=by kernel_rfl
theorem k24:(Tryz.pinned.checked.prog.stopsHeard)=true:=by kernel_rfl
theorem k25:(Tryz.pinned.checked.prog.mayEnter)=true:=by kernel_rfl
theorem k26:((Rows.topCallsRow.lifted==Tryz.pinned.checked.prog.liftsFinal))=true:=by kernel_rfl
theorem k27:((Tryz.pinned.checked.prog.make==some Rows.topCallsRow.make))=true:=by kernel_rfl
theorem k29:((Rows.topCallsRow.pinned==Rows.topCallsRow.pinnedBy))=true:=by kernel_rfl
theorem k30:((Rows.topCallsRow.veiled==(Tryz.f5.params.toList++Rows.topCallsSpec.plain.varTypes Tryz.pinned.checked.prog++Tryz.f5.resultTypes.toList).any (Tryz.pinned.checked.prog.veiledRec ·)))=true:=by kernel_rfl
theorem k31:(Rows.topCallsRow.veiledFits Tryz.pinned.checked.prog Tryz.f5.params.toList<|Tryz.f5.params.toList++Rows.topCallsSpec.plain.varTypes Tryz.pinned.checked.prog++Tryz.f5.resultTypes.toList)=true:=by kernel_rfl
theorem closed:joinedFacts Tryz.pinned.checked.prog 5 Tryz.f5 Rows.topCallsSpec Rows.topCallsRow=true:=by unfold joinedFacts;simp only[Xg];exact⟨⟨⟨⟨⟨⟨⟨⟨⟨⟨⟨⟨⟨⟨⟨⟨⟨⟨⟨⟨⟨⟨⟨⟨⟨⟨⟨⟨⟨⟨⟨k0,k1⟩,k2⟩,k3⟩,k4⟩,k5⟩,k6⟩,k7⟩,k8⟩,k9⟩,k10⟩,k11⟩,k12⟩,k13⟩,k14⟩,k15⟩,k16⟩,k17⟩,k18⟩,k19⟩,k20⟩,k21⟩,k22⟩,k23⟩,k24⟩,k25⟩,k26⟩,k27⟩,by kernel_rfl⟩,k29⟩,k30⟩,k31⟩
theorem named_ok:Tryz.pinned.checked.prog.funcNamed Rows.topCallsRow.func=some 5:=by kernel_rfl
theorem inst_ok:Tryz.f5.isInstance Tryz.pinned.checked.prog Rows.topCallsRow.origin Rows.topCallsRow.targs:=of_decide_eq_true (by kernel_rfl)
theorem wrap_ok:Tryz.f5.isWrapper Tryz.pinned.checked.prog Rows.topCallsRow.wrapper Rows.topCallsRow.mainSum:=by unfold Func.isWrapper;first|(rw[if_pos (by decide+kernel)];kernel_rfl)|(rw[if_neg (by decide+kernel)];exact⟨rfl,rfl⟩)
theorem byText_ok:Rows.topCallsRow.wfByText (OpenSpec.ofChange Rows.topCallsSpec)=true:=by kernel_rfl
theorem main_ok:Tryz.pinned.checked.prog.mainIs=some (true, "e31a393c5f342d587848af2480b4b57edd33bb0718de9e1a7aebd17f45543637".toList):=by kernel_rfl
theorem looks_ok:true=Tryz.pinned.checked.prog.looks []:=by kernel_rfl
theorem goesBy_ok:false=Rows.topCallsRow.goesBy Tryz.pinned.checked.prog:=by kernel_rfl
theorem at_ok:Tryz.prog.funcNamed "kist/kisttop.TopCalls" =some 5:=by kernel_rfl
