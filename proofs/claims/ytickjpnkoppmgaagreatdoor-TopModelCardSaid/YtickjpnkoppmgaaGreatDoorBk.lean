import Derived.Test.YtickjpnkoppmgaaGreatDoorBg
import Derived.Test.YtickjpnkoppmgaaGreatDoorBe
set_option linter.all false
namespace Go.Proofs
section
open Go.Shelf Go.Lib
def tU:Go.Shelf.Ren:=⟨fun|6=>68|15=>104|14=>103|28=>145|29=>146|20=>137|21=>138|22=>139|23=>140|24=>141|25=>142|26=>143|27=>144|46=>184|47=>185|48=>186|49=>187|50=>188|57=>231|n=>n,fun|22=>38|24=>69|25=>139|3=>3|39=>179|0=>0|53=>67|55=>214|4=>4|46=>235|45=>234|50=>239|5=>5|9=>9|66=>279|70=>283|76=>322|77=>323|n=>n,fun|n=>n⟩
def Wl:Go.Proofs.SlLaysF0.n6 Tryz.prog tU:={
 mixed:=kx
 f6:=⟨Tryz.f68.name,dx,Tryz.func68.trans<|congrArg some kx⟩
 f14:=⟨Tryz.f103.name,dx,Tryz.func103.trans<|congrArg some kx⟩
 f15:=Tryz.func104.trans (congrArg some kx)
 f20:=⟨Tryz.f137.name,dx,Tryz.func137.trans<|congrArg some kx⟩
 f21:=⟨Tryz.f138.name,dx,Tryz.func138.trans<|congrArg some kx⟩
 f22:=⟨Tryz.f139.name,dx,Tryz.func139.trans<|congrArg some kx⟩
 f23:=⟨Tryz.f140.name,dx,Tryz.func140.trans<|congrArg some kx⟩
 f24:=⟨Tryz.f141.name,dx,Tryz.func141.trans<|congrArg some kx⟩
 f25:=⟨Tryz.f142.name,dx,Tryz.func142.trans<|congrArg some kx⟩
 f26:=⟨Tryz.f143.name,dx,Tryz.func143.trans<|congrArg some kx⟩
 f27:=⟨Tryz.f144.name,dx,Tryz.func144.trans<|congrArg some kx⟩
 f28:=Tryz.func145.trans (congrArg some kx)
 f29:=Tryz.func146.trans (congrArg some kx)
 f46:=⟨Tryz.f184.name,dx,Tryz.func184.trans<|congrArg some kx⟩
 f47:=Tryz.func185.trans (congrArg some kx)
 f48:=Tryz.func186.trans (congrArg some kx)
 f49:=⟨Tryz.f187.name,dx,Tryz.func187.trans<|congrArg some kx⟩
 f50:=⟨Tryz.f188.name,dx,Tryz.func188.trans<|congrArg some kx⟩
 f57:=⟨Tryz.f231.name,dx,Tryz.func231.trans<|congrArg some kx⟩
 t0:=Tryz.underlying0
 a0:=Tryz.isAgg0
 z0:=Tryz.sizeOf0
 v0:=Tryz.zeroValue0
 t3:=Tryz.underlying3
 a3:=Tryz.isAgg3
 z3:=Tryz.sizeOf3
 v3:=Tryz.zeroValue3
 t4:=Tryz.underlying4
 a4:=Tryz.isAgg4
 z4:=Tryz.sizeOf4
 v4:=Tryz.zeroValue4
 t5:=Tryz.underlying5
 a5:=Tryz.isAgg5
 z5:=Tryz.sizeOf5
 v5:=Tryz.zeroValue5
 t9:=Tryz.underlying9
 a9:=Tryz.isAgg9
 z9:=Tryz.sizeOf9
 v9:=Tryz.zeroValue9
 t22:=Tryz.underlying38
 a22:=Tryz.isAgg38
 z22:=Tryz.sizeOf38
 v22:=Tryz.zeroValue38
 t25:=Tryz.underlying139
 a25:=Tryz.isAgg139
 z25:=Tryz.sizeOf139
 v25:=Tryz.zeroValue139
 t39:=Tryz.underlying179
 a39:=Tryz.isAgg179
 z39:=Tryz.sizeOf179
 v39:=Tryz.zeroValue179
 t45:=Tryz.underlying234
 a45:=Tryz.isAgg234
 z45:=Tryz.sizeOf234
 v45:=Tryz.zeroValue234
 t46:=Tryz.underlying235
 a46:=Tryz.isAgg235
 z46:=Tryz.sizeOf235
 v46:=Tryz.zeroValue235
 t50:=Tryz.underlying239
 a50:=Tryz.isAgg239
 z50:=Tryz.sizeOf239
 v50:=Tryz.zeroValue239
 t53:=Tryz.underlying67
 a53:=Tryz.isAgg67
 z53:=Tryz.sizeOf67
 v53:=Tryz.zeroValue67
 t55:=Tryz.underlying214
 a55:=Tryz.isAgg214
 z55:=Tryz.sizeOf214
 v55:=Tryz.zeroValue214
 t66:=Tryz.underlying279
 a66:=Tryz.isAgg279
 z66:=Tryz.sizeOf279
 v66:=Tryz.zeroValue279
 t70:=Tryz.underlying283
 a70:=Tryz.isAgg283
 z70:=Tryz.sizeOf283
 v70:=Tryz.zeroValue283
 t76:=Tryz.underlying322
 a76:=Tryz.isAgg322
 z76:=Tryz.sizeOf322
 v76:=Tryz.zeroValue322
 t77:=Tryz.underlying323
 a77:=Tryz.isAgg323
 z77:=Tryz.sizeOf323
 v77:=Tryz.zeroValue323}
end
end Go.Proofs
namespace Go.Proofs.YtickjpnkoppmgaaGreatDoor
open Go.Proofs.Tryz Go.RowKit K Go.Shelf Go.Sort
def Js(m:RM):Prop:=m.path.length<=120/\0<=m.start/\m.start<=4096
def UH.ms{m}(h:UH m):Js m:=⟨(XU h.ok).2.2,yx h.st,yx h.st⟩
abbrev MS:={m:RM//Js m}
instance:Inhabited MS:=⟨⟨⟨[],0,0,0,0⟩,dx,dx,dx⟩⟩
def Fb(x:MS):LV:=Q9 x.1
def cR(l):Qs Fb l=Qs Q9 (l.map (·.1)):=by
 induction l with
 |nil=>rfl
 |cons x l ih=>unfold Qs at ih ⊢;rw[Jd,ih,QV,Jd];rfl
def sW(g c n:Nat)(l:List RM)(h:RM->RM->Int)(w:WD)(e:Ending)(w':WD):Prop:=
 e=.returned (.tuple #[])/\∃d:List RM,d.Perm l/\(d.Pairwise fun a b=>¬h b a<0)/\Qm w' 69 5 (.slice g n c) n (Qs Q9 d)/\Qb [g] w w'
set_option maxHeartbeats 1000000 in
def Qiz(f:Nat)(q)(B:SWO (ltOf fun x h:MS=>q x.1 h.1))(v:∀args w,(callFunc f args).run prog w=.ok (.enter f args) w)(C:∀(x h:RM),Js x->Js h->∀W,Yt W->Calls prog f #[.agg (Q9 x).toArray,.agg (Q9 h).toArray] W fun e w'=>e=.returned (.int .i64<|q x h)/\∃i d,w'=grow (W.drewN i) d)(g c n:Nat)(l w)(p:Qm w 69 5 (.slice g n c) n (Qs Q9 l))(j:l.length=n)(i:∀m∈l,Js m)(z:Yt w)(E:g≠0)(d:n<=1000000):
 Calls prog 68 #[.slice g n c,.func (.func f) #[] #[]] w (sW g c n l q w):=by
 obtain⟨d,u⟩:∃d:List MS,d.map (·.1)=l:=⟨l.pmap Subtype.mk i,by rw[List.map_pmap];simp⟩;have i:d=n:=by rw[<-j,<-u,QH]
 have hk:∀x,(Fb x).length=5:=fun _=>rfl
 have j:∀x,∀o∈Fb x,o.oneCell'=true:=fun x=>KG x.1
 have o:Qm w 69 5 (.slice g n c) n (Qs Fb d):=by rwa[cR,u]
 have D:g<w:=p.lt g (by simp[Qd,qo]);have A:HoldsK Fb 5 w g 0 d.toArray:=by intro p s;rw[size_flatK]at s;have t:=KK hk dx d p (by simpa using s);exact⟨by rw[Zu];exact o.aZ t,o.free _⟩
 have y:=AnyQ.slices_SortFunc Wl 5 isAgg69 sizeOf69 Fb hk j (fun x h=>q x.1 h.1) B f #[] g 0 c d.toArray w v (fun m os dk hs x h=>C x.1 h.1 x.2 h.2 _ (by
  have h:dk.toList=n:=by rw[RS,hs];simpa using i
  obtain⟨-,q⟩:=Si (l':=dk.toList) (m:=m) (os:=os) hk dx j o i h;rw[show dk.toList.toArray=dk from rfl]at q;exact z.kept q (by simpa using fun e=>E e.symm))) A D (by simp[i];omega)
 have v:d.toArray.size=n:=by simpa using i
 rw[v]at y;refine Calls.mono y ?_;rintro e w'⟨rfl,h,m,os,⟨z,y,y⟩,hs,rfl⟩;have A:h.size=n:=by rw[z,v]
 have z:h.toList.Perm d:=by
  have j:h.extract 0 n=h:=by rw[<-A];simp
  have t:d.toArray.extract 0 n=d.toArray:=by rw[<-v];simp
  rw[j,t]at y;simpa using y
 obtain⟨v,q⟩:=Si (l':=h.toList) (m:=m) (os:=os) hk dx j o i (by rw[z.length_eq,i]);refine⟨rfl,h.toList.map (·.1),by rw[<-u];exact z.map _,?_,?_,q⟩
 ·rw[Rw];refine JP.2 fun d p hi s q=>?_
  have j:d<h.size:=by simpa using hi
  have t:p<h.size:=by simpa using s
  have i:=hs d p (Zv _) q ox;rw[getElem!_pos h d j,getElem!_pos h p t]at i;simpa[ltOf]using i
 have:=mE o v;rwa[cR]at this
def mC(f:Nat)(d:RM->RM->Int)(o:SWO (ltOf fun x c:MS=>d x.1 c.1))(i:∀args w,(callFunc f args).run prog w=.ok (.enter f args) w)(p:∀(x c:RM),Js x->Js c->∀W,Yt W->Calls prog f #[.agg (Q9 x).toArray,.agg (Q9 c).toArray] W fun e w'=>e=.returned (.int .i64<|d x c)/\∃g c,w'=grow (W.drewN g) c)(v:VL)(l)(w:WD)(h:Qm w 69 5 v l.length (Qs Q9 l))(u:∀m∈l,Js m)(n:Yt w)(q:0∉Qd v)(t:l.length<=1000000):
 Calls prog 68 #[v,.func (.func f) #[] #[]] w fun e w'=>e=.returned (.tuple #[])/\∃l':List RM,l'.Perm l/\(l'.Pairwise fun a b=>¬d b a<0)/\Qm w' 69 5 v l'.length (Qs Q9 l')/\Qb (Qd v) w w':=by
 rcases id h.2 with⟨rfl,c⟩|⟨j,g,s,rfl,-⟩
 ·have s:=J4 c;subst s;go_fit(AnyF.slices_SortFunc_none Wl none 0 _ w);rintro e w'⟨rfl,rfl⟩;exact⟨rfl,[],List.Perm.refl _,List.Pairwise.nil,h,Qc _ _⟩
 go_fit(Qiz f d o i p j g l l w h rfl u n (fun e=>q<|by simp[Qd,qo,e]) t);rintro e w'⟨rfl,l',d,c,g,i⟩;exact⟨rfl,l',d,c,by rwa[d.length_eq],i.mono (fun x c=>by simp at c;simp[Qd,qo,c])⟩
