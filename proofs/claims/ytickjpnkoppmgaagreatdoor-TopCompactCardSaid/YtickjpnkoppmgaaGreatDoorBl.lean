import Derived.Test.YtickjpnkoppmgaaGreatDoorBh
import Derived.Test.YtickjpnkoppmgaaGreatDoorBf
set_option linter.all false
namespace Go.Proofs
section
open Go.Shelf Go.Lib
def qM:Go.Shelf.Ren:=⟨fun|6=>68|15=>104|14=>103|28=>145|29=>146|20=>137|21=>138|22=>139|23=>140|24=>141|25=>142|26=>143|27=>144|46=>184|47=>185|48=>186|49=>187|50=>188|57=>231|n=>n,fun|22=>38|24=>69|25=>139|3=>3|39=>179|0=>0|53=>67|55=>214|4=>4|46=>235|45=>234|50=>239|5=>5|9=>9|66=>279|70=>283|76=>322|77=>323|n=>n,fun|n=>n⟩
def SV:Go.Proofs.SlLaysF0.n6 Tryz.prog qM:={
 mixed:=by kernel_rfl
 f6:=⟨Tryz.f68.name,by decide,Tryz.func68.trans<|congrArg some<|by kernel_rfl⟩
 f14:=⟨Tryz.f103.name,by decide,Tryz.func103.trans<|congrArg some<|by kernel_rfl⟩
 f15:=Tryz.func104.trans (congrArg some<|by kernel_rfl)
 f20:=⟨Tryz.f137.name,by decide,Tryz.func137.trans<|congrArg some<|by kernel_rfl⟩
 f21:=⟨Tryz.f138.name,by decide,Tryz.func138.trans<|congrArg some<|by kernel_rfl⟩
 f22:=⟨Tryz.f139.name,by decide,Tryz.func139.trans<|congrArg some<|by kernel_rfl⟩
 f23:=⟨Tryz.f140.name,by decide,Tryz.func140.trans<|congrArg some<|by kernel_rfl⟩
 f24:=⟨Tryz.f141.name,by decide,Tryz.func141.trans<|congrArg some<|by kernel_rfl⟩
 f25:=⟨Tryz.f142.name,by decide,Tryz.func142.trans<|congrArg some<|by kernel_rfl⟩
 f26:=⟨Tryz.f143.name,by decide,Tryz.func143.trans<|congrArg some<|by kernel_rfl⟩
 f27:=⟨Tryz.f144.name,by decide,Tryz.func144.trans<|congrArg some<|by kernel_rfl⟩
 f28:=Tryz.func145.trans (congrArg some<|by kernel_rfl)
 f29:=Tryz.func146.trans (congrArg some<|by kernel_rfl)
 f46:=⟨Tryz.f184.name,by decide,Tryz.func184.trans<|congrArg some<|by kernel_rfl⟩
 f47:=Tryz.func185.trans (congrArg some<|by kernel_rfl)
 f48:=Tryz.func186.trans (congrArg some<|by kernel_rfl)
 f49:=⟨Tryz.f187.name,by decide,Tryz.func187.trans<|congrArg some<|by kernel_rfl⟩
 f50:=⟨Tryz.f188.name,by decide,Tryz.func188.trans<|congrArg some<|by kernel_rfl⟩
 f57:=⟨Tryz.f231.name,by decide,Tryz.func231.trans<|congrArg some<|by kernel_rfl⟩
 t0:=Tryz.underlying0
 a0:=Tryz.isAgg0
 z0:=Tryz.sizeOf0
 v0:=Tryz.zeroValue0
 t3:=Tryz.underlying3
 a3:=Tryz.isAgg3
 z3:=Tryz.sizeOf3
 v3:=Tryz.zeroValue3
 t4:=Tryz.underlying4
 a4:=Tryz.isAgg4
 z4:=Tryz.sizeOf4
 v4:=Tryz.zeroValue4
 t5:=Tryz.underlying5
 a5:=Tryz.isAgg5
 z5:=Tryz.sizeOf5
 v5:=Tryz.zeroValue5
 t9:=Tryz.underlying9
 a9:=Tryz.isAgg9
 z9:=Tryz.sizeOf9
 v9:=Tryz.zeroValue9
 t22:=Tryz.underlying38
 a22:=Tryz.isAgg38
 z22:=Tryz.sizeOf38
 v22:=Tryz.zeroValue38
 t25:=Tryz.underlying139
 a25:=Tryz.isAgg139
 z25:=Tryz.sizeOf139
 v25:=Tryz.zeroValue139
 t39:=Tryz.underlying179
 a39:=Tryz.isAgg179
 z39:=Tryz.sizeOf179
 v39:=Tryz.zeroValue179
 t45:=Tryz.underlying234
 a45:=Tryz.isAgg234
 z45:=Tryz.sizeOf234
 v45:=Tryz.zeroValue234
 t46:=Tryz.underlying235
 a46:=Tryz.isAgg235
 z46:=Tryz.sizeOf235
 v46:=Tryz.zeroValue235
 t50:=Tryz.underlying239
 a50:=Tryz.isAgg239
 z50:=Tryz.sizeOf239
 v50:=Tryz.zeroValue239
 t53:=Tryz.underlying67
 a53:=Tryz.isAgg67
 z53:=Tryz.sizeOf67
 v53:=Tryz.zeroValue67
 t55:=Tryz.underlying214
 a55:=Tryz.isAgg214
 z55:=Tryz.sizeOf214
 v55:=Tryz.zeroValue214
 t66:=Tryz.underlying279
 a66:=Tryz.isAgg279
 z66:=Tryz.sizeOf279
 v66:=Tryz.zeroValue279
 t70:=Tryz.underlying283
 a70:=Tryz.isAgg283
 z70:=Tryz.sizeOf283
 v70:=Tryz.zeroValue283
 t76:=Tryz.underlying322
 a76:=Tryz.isAgg322
 z76:=Tryz.sizeOf322
 v76:=Tryz.zeroValue322
 t77:=Tryz.underlying323
 a77:=Tryz.isAgg323
 z77:=Tryz.sizeOf323
 v77:=Tryz.zeroValue323}
end
end Go.Proofs
namespace Go.Proofs.YtickjpnkoppmgaaGreatDoor
open Go.Proofs.Tryz Go.RowKit K Go.Shelf Go.Sort
def Y9(m:RM):Prop:=m.path.length≤120∧0≤m.start∧m.start≤4096
def RZ.ms{m}(a:RZ m):Y9 m:=⟨(YK a.ok).2.2,by have:=a.st;omega,by have:=a.st;omega⟩
abbrev MS:={m:RM//Y9 m}
instance:Inhabited MS:=⟨⟨⟨[],0,0,0,0⟩,by decide,by decide,by decide⟩⟩
def Eo(x:MS):LV:=Zi x.1
def WO(l):Qx Eo l=Qx Zi (l.map (·.1)):=by
 induction l with
 |nil=>rfl
 |cons x l ih=>unfold Qx at ih ⊢;rw[Jn,ih,QR,Jn];rfl
def pO(g c n:Nat)(l:List RM)(f:RM→RM→Int)(w:WD)(e:Ending)(w':WD):Prop:=
 e=.returned (.tuple #[])∧∃a:List RM,a.Perm l∧(a.Pairwise fun b d=>¬f d b<0)∧Qn w' 69 5 (.slice g n c) n (Qx Zi a)∧Qb [g] w w'
set_option maxHeartbeats 1000000 in
def Qgj(f:Nat)(k)(v:SWO (ltOf fun x b:MS=>k x.1 b.1))(r:∀args w,(callFunc f args).run prog w=.ok (.enter f args) w)(y:∀(x b:RM),Y9 x→Y9 b→∀W,YN W→Calls prog f #[.agg (Zi x).toArray,.agg (Zi b).toArray] W fun e w'=>e=.returned (.int .i64<|k x b)∧∃d a,w'=grow (W.drewN d) a)(g c n:Nat)(l w)(j:Qn w 69 5 (.slice g n c) n (Qx Zi l))(h:l.length=n)(d:∀m∈l,Y9 m)(t:YN w)(A:g≠0)(a:n≤1000000):
 Calls prog 68 #[.slice g n c,.func (.func f) #[] #[]] w (pO g c n l k w):=by
 obtain⟨a,q⟩:∃a:List MS,a.map (·.1)=l:=⟨l.pmap Subtype.mk d,by rw[List.map_pmap];simp⟩;have d:a.length=n:=by rw[←h,←q,QH]
 have hk:∀x,(Eo x).length=5:=fun _=>rfl
 have h:∀x,∀i∈Eo x,i.oneCell'=true:=fun x=>MT x.1
 have i:Qn w 69 5 (.slice g n c) n (Qx Eo a):=by rwa[WO,q]
 have z:g<w.heap.size:=j.lt g (by simp[Qd,qo]);have u:HoldsK Eo 5 w g 0 a.toArray:=by intro j o;rw[size_flatK]at o;have p:=IQ hk (by decide) a j (by simpa using o);exact⟨by rw[ZE];exact i.aZ p,i.free _⟩
 have s:=AnyQ.slices_SortFunc SV 5 isAgg69 sizeOf69 Eo hk h (fun x b=>k x.1 b.1) v f #[] g 0 c a.toArray w r (fun m os dk hs x b=>y x.1 b.1 x.2 b.2 _ (by
  have b:dk.toList.length=n:=by rw[Rr,hs];simpa using d
  obtain⟨-,k⟩:=OS (l':=dk.toList) (m:=m) (os:=os) hk (by decide) h i d b;rw[show dk.toList.toArray=dk from rfl]at k;exact t.kept k (by simpa using fun e=>A e.symm))) u z (by simp[d];omega)
 have r:a.toArray.size=n:=by simpa using d
 rw[r]at s;refine Calls.mono s ?_;rintro e w'⟨rfl,b,m,os,⟨t,s,s⟩,hs,rfl⟩;have u:b.size=n:=by rw[t,r]
 have t:b.toList.Perm a:=by
  have h:b.extract 0 n=b:=by rw[←u];simp
  have p:a.toArray.extract 0 n=a.toArray:=by rw[←r];simp
  rw[h,p]at s;simpa using s
 obtain⟨r,k⟩:=OS (l':=b.toList) (m:=m) (os:=os) hk (by decide) h i d (by rw[t.length_eq,d]);refine⟨rfl,b.toList.map (·.1),by rw[←q];exact t.map _,?_,?_,k⟩
 ·rw[V5];refine Jp.2 fun a j hi o k=>?_
  have h:a<b.size:=by simpa using hi
  have p:j<b.size:=by simpa using o
  have d:=hs a j (ZF _) k (by omega);rw[getElem!_pos b a h,getElem!_pos b j p]at d;simpa[ltOf]using d
 have:=iY i r;rwa[WO]at this
def iW(f:Nat)(d:RM→RM→Int)(n:SWO (ltOf fun x c:MS=>d x.1 c.1))(i:∀args w,(callFunc f args).run prog w=.ok (.enter f args) w)(o:∀(x c:RM),Y9 x→Y9 c→∀W,YN W→Calls prog f #[.agg (Zi x).toArray,.agg (Zi c).toArray] W fun e w'=>e=.returned (.int .i64<|d x c)∧∃g c,w'=grow (W.drewN g) c)(v:VL)(l)(w:WD)(c:Qn w 69 5 v l.length (Qx Zi l))(s:∀m∈l,Y9 m)(k:YN w)(p:0∉Qd v)(r:l.length≤1000000):
 Calls prog 68 #[v,.func (.func f) #[] #[]] w fun e w'=>e=.returned (.tuple #[])∧∃l':List RM,l'.Perm l∧(l'.Pairwise fun a b=>¬d b a<0)∧Qn w' 69 5 v l'.length (Qx Zi l')∧Qb (Qd v) w w':=by
 rcases id c.2 with⟨rfl,g⟩|⟨j,h,q,rfl,-⟩
 ·have q:=J3 g;subst q;refine(AnyF.slices_SortFunc_none SV none 0 _ w).mono ?_;rintro e w'⟨rfl,rfl⟩;exact⟨rfl,[],List.Perm.refl _,List.Pairwise.nil,c,Qc _ _⟩
 refine(Qgj f d n i o j h l.length l w c rfl s k (fun e=>p<|by simp[Qd,qo,e]) r).mono ?_;rintro e w'⟨rfl,l',c,g,d,h⟩;exact⟨rfl,l',c,g,by rwa[c.length_eq],h.mono (fun x c=>by simp at c;simp[Qd,qo,c])⟩
