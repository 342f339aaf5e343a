/-
  TopModel: for every input the call returns true, and each argument reads behind it as before.
-/
import Derived.Test.YtickjpnkoppmgaaGreatDoorBw
import Derived.Test.YtickjpnkoppmgaaGreatDoorBx
import Derived.Test.YtickjpnkoppmgaaGreatDoorBy
set_option linter.all false
namespace Go.Proofs.YtickjpnkoppmgaaGreatDoor.topModel
open Go.ChangeShapes Go.WideShapes Go.ChangeAt Go.RowKit
open Go.ChangeMaps (open_string shut_string)
set_option maxRecDepth 100000 in
theorem lifted (os:Os)(started:os.Started)(H:Type)(enc:TypeId × Value→H):
 ReturnsInHanded {} Tryz.checked os 3 .any (fun w args=>(Rows.topModelSpec.pre enc Tryz.prog Tryz.f3 Rows.topModelRow.domain false w args∧laidMetH Tryz.prog DR w)∧sizedMet enc Tryz.prog Tryz.f3 (OpenSpec.ofChange Rows.topModelSpec) false w args)
  (Rows.topModelSpec.post enc Tryz.prog Tryz.f3 false true false false):=by
 refine Qda (C:=Tryz.checked) (X:=fun w _=>laidMetH Tryz.prog DR w) (fun _ _ _ hh h=>h.of_heap hh) own started (by kernel_rfl) Tryz.func3
  (ChangeSpec.witness_at (enc:=enc) (C:=Tryz.checked) (os:=os) (X:=fun w _=>laidMetH Tryz.prog DR w) false (fG os) #[.int .i64 0,.slice none 0 0] 8 rfl (by kernel_rfl) (by kernel_rfl) (by kernel_rfl) (by kernel_rfl) (by kernel_rfl) (Qcz os _)) ?_
 intro W base args ds gs UK hval0 hW hcnd hsz0 hL hsh hholds
 have hval:∀(j:Nat) t v,Tryz.f3.params[j]?=some t→args[j]?=some v→Value.okWide Tryz.prog W .any base t v:=hval0
 have hW':=hW
 obtain⟨p,q,hA0,hV,rfl,hfz,hnd⟩:=hW
 have hA:DataW.TrodAll enc Tryz.prog W 0 (fun _=>true) true Tryz.f3.params.toList args.toList ds p:=hA0
 have hsz:(DataW.weightsEach Tryz.prog (Tryz.f3.params.toList++Rows.topModelSpec.plain.varTypes Tryz.prog) (ds++gs)).all (· ≤reachBytes)=true:=hsz0
 rw[Tryz.params3]at hA hval hsz
 obtain⟨v0,vs0,d0,ds0,p0,q0,hargs,rfl,rfl,h0,r0⟩:=trodAll_cons hA
 obtain⟨v1,vs1,d1,ds1,p1,q1,rfl,rfl,rfl,h1,r1⟩:=trodAll_cons r0
 obtain⟨rfl,rfl,rfl⟩:=trodAll_nil r1
 obtain rfl:args=#[v0,v1]:=by cases args;simp_all
 obtain⟨rfl,rfl⟩:=trodVars_none hV
 obtain⟨a0,rfl,rfl,rfl,w0⟩:=open_int Tryz.underlying3 (hval 0 3 v0 rfl rfl) h0
 obtain⟨a1,len1,cap1,rfl⟩:=okWide_slice Tryz.underlying22 (hval 1 22 v1 rfl rfl)
 have k1:=h1
 have lt1:∀x∈p1,x.block<W.heap.size:=by obtain⟨m,hm⟩:=k1;exact DataW.trod_lt m _ _ _ hm
 obtain⟨z1,w1⟩:=Qii h1 (fun n hn=>by simpa using List.all_eq_true.1 hsz _ (DataW.weights_mem_each (j:=1) rfl rfl n hn))
 clear hA0 hval0
 refine(Qkh a0 _ z1 W ⟨vO hsh,Qgp hL⟩ (Qb0 hsh) (kI w0).1 (kI w0).2 w1).mono fun e W' ⟨he,kept⟩=>?_
 subst he
 have bel:=kept.below
 exact⟨_,rfl,_,_,_,[],_,[],hW',trodAll_mk1 (shut_bool Tryz.underlying4 _),(trodAll_cons_mk (shut_int Tryz.underlying3 w0) (trodAll_cons_mk (Below.trod Qcy (by kernel_rfl) (of_decide_eq_true (by kernel_rfl)) k1 bel lt1) trodAll_mk0)),rfl,bel.frame _,fun h=>by cases h⟩
theorem over:Rows.TopModelSaid:=
 OpenClaim.holds_of_wide 3 Tryz.f3 rfl rfl rfl rfl rfl rfl rfl ⟨rfl,rfl,rfl,rfl,rfl⟩ rfl rfl rfl rfl rfl Qeg Tryz.func3 closed Qcf Qlp
  (fun os started H enc _=>lifted os started H enc)
theorem Qch:Tryz.prog.wantsStandIn 3=false:=by kernel_rfl
theorem acts_ok:Tryz.prog.wantsStandIn 22=false:=by kernel_rfl
theorem proved:Rows.TopModelCardSaid:=
 Claim7.holds_tied_plain_at .later [] [.data,.data,.data,.data,.pinned] true (true,"e31a393c5f342d587848af2480b4b57edd33bb0718de9e1a7aebd17f45543637") true
  over (fun _ h=>by cases h) vQ (fun _ h=>by cases h) topModel_row_tie rfl ⟨rfl,rfl⟩ Qdn rfl
  (fun f fn hf hfn=>by
   obtain rfl:f=3:=Option.some.inj (at_ok.symm.trans hf)|>.symm
   obtain rfl:fn=Tryz.f3:=(Option.some.inj (Tryz.func3.symm.trans hfn)).symm
   exact⟨Qdg,fun j t ht=>by
    rw[Tryz.params3]at ht
    have h3:t=3∨t=22:=by
     rcases j with _|_|j
     ·left;simpa using ht.symm
     ·right;simpa using ht.symm
     ·simp at ht
    rcases h3 with rfl|rfl
    ·exact Qch
    ·exact acts_ok⟩)
  Qbc
#print axioms proved
