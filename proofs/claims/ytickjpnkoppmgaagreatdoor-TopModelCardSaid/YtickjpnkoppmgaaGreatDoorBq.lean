import Derived.Test.YtickjpnkoppmgaaGreatDoorBp
set_option linter.all false
set_option maxHeartbeats 4000000
set_option maxRecDepth 100000
namespace Go.Proofs.YtickjpnkoppmgaaGreatDoor
open Go.Proofs.Tryz Go.RowKit K
structure YV(s:Vst)(c:LU->LU)(r:List RM)(t:Int):Prop where
 ok:Vok s c
 sub:∀m∈r,m∈s.mem
 srt:r.Pairwise fun a b=>a.start+a.eZ<=b.start
 low:∀m∈r,t<=m.start
 t30:30<=t
 done:∀m∈s.mem,m∉r->m.start+m.eZ<=t
 tile:∀k,30<=k->k<t->∃m∈s.mem,m∉r/\m.start<=k/\k<m.start+m.eZ
 sum:(ZV s.mem:Int)=t-30+ZV r
def YV.step{s c m r t}(h:YV s c (m::r) t)(e:m.start=t):YV s c r (t+m.eZ):=by
 have hs:=Vo.1 h.srt;have j:=h.sub m<|Yv ..;have hi:=h.ok.inX j;have d:=h.sum;unfold ZV at d;rw[QV,Xm]at d;have o:m∉r:=fun d=>by have:=hs.1 m d;omega
 refine⟨h.ok,fun d g=>h.sub d<|XO _ g,hs.2,fun d g=>by have:=hs.1 d g;omega,yx h.t30,fun d g n=>?_,fun k l i=>?_,by unfold ZV;omega⟩
 ·by_cases i:d=m
  ·subst i;omega
  have:=h.done d g (by simp[i,n]);omega
 by_cases i:k<t
 ·obtain⟨d,a,b,g⟩:=h.tile k l i;exact⟨d,a,fun hb=>b<|XO _ hb,g⟩
 exact⟨m,j,o,ox,ox⟩
def YV.step2{s c m r t}(ok:Vok s c)(h:m∈s.mem)(sub:∀x∈r,x∈s.mem)(srt:r.Pairwise fun a b=>a.start+a.eZ<=b.start)(low:∀x∈r,t+m.eZ<=x.start)(t30:30<=t)(hap:t+m.eZ<=m.start\/m.start+m.eZ<=t)(l:∀x∈r,x.path≠m.path)(done:∀x∈s.mem,x∉r->x≠m->x.start+x.eZ<=t)(tile:∀k,30<=k->k<t->∃x∈s.mem,x∉r/\x≠m/\x.start<=k/\k<x.start+x.eZ)(sum:(ZV s.mem:Int)=t-30+(m.eZ.toNat+ZV r:Nat))(p:t+m.eZ<=s.dev.cap)(o:s.dev.lZ+10000<=1000000000):
 ∃s',s.move m.path t=(0,s')/\Ub s s' c (2*m.eZ.toNat+10)/\YV s' c r (t+m.eZ)/\s'.mem.map (fun x=>(x.path,x.eZ))=s.mem.map (fun x=>(x.path,x.eZ)):=by
 have hi:=ok.inX h;have q:UA s.exts t m.eZ:=by
  intro x d;obtain⟨e,j,rfl⟩:=QA.1 d;show t+m.eZ<=e.start\/e.start+e.eZ<=t
  by_cases g:e=m
  ·subst g;exact hap
  by_cases i:e∈r
  ·exact .inl<|low e i
  exact .inr<|done e j i g
 obtain⟨s',n,i,-,e,j⟩:=ok.move_to h (Vst.okX_add ok.ext t30 hi.2.1 p q) o;refine⟨s',n,i,⟨i.ok,fun x d=>(e x).2 (.inr ⟨sub x d,l x d⟩),srt,low,ox,fun x d o=>?_,fun k i n=>?_,?_⟩,j⟩
 ·rcases(e x).1 d with rfl|⟨d,hp⟩
  ·exact AZ _
  have:=done x d o (fun g=>hp<|by rw[g]);omega
 ·by_cases o:k<t
  ·obtain⟨x,a,b,d,f⟩:=tile k i o;exact⟨x,(e x).2 (.inr ⟨a,fun g=>d<|ok.only a h g⟩),b,f⟩
  exact⟨{m with start:=t},(e _).2 (.inl rfl),fun hb=>l _ hb rfl,by show t<=k;omega,n⟩
 rw[(KJ (c:=c) j).2,sum];omega
def Ca(r:List RM):Nat:=(r.map fun c=>4*c.eZ.toNat+20).sum
def YV.pull:∀(r:List RM)(t:Int)(s:Vst)(c:LU->LU),YV s c r t->s.dev.lZ+Ca r+20000<=1000000000->
 ((Vst.pull r t s).1=0\/(Vst.pull r t s).1=220)/\Ub s (Vst.pull r t s).2 c (Ca r+2)/\(Vst.pull r t s).2.mem.map (fun x=>(x.path,x.eZ))=s.mem.map (fun x=>(x.path,x.eZ))/\
 ((Vst.pull r t s).1=0->∃T,YV (Vst.pull r t s).2 c [] T/\((Vst.pull r t s).2.dev.img.length:Int)<=T)
 | [],t,s,c,e,hc=>by
   obtain⟨a,b,-,j,i⟩:=e.ok.trim ox;refine⟨.inl a,⟨b.ok,b.cap,b.c0,by have:=b.c1;simp only[Vst.pull];omega⟩,by simp only[Vst.pull];rw[j],fun _=>⟨t,⟨b.ok,sx,sx,sx,e.t30,?_,?_,?_⟩,?_⟩⟩
   ·intro d m v;exact e.done d (by simp only[Vst.pull]at m;rwa[j]at m) v
   ·intro k l p;simp only[Vst.pull];rw[j];exact e.tile k l p
   ·simp only[Vst.pull];rw[j];exact e.sum
   refine Int.le_trans i<|Vst.endX_le _ _ e.t30 fun x h=>?_;obtain⟨d,m,rfl⟩:=QA.1 h;exact e.done d m sx
 |d::r,t,s,c,e,hc=>by
  have hs:=Vo.1 e.srt;have m:=e.sub d<|Yv ..;have hi:=e.ok.inX m;have:=e.low d<|Yv ..;have y:∀x∈r,d.start+d.eZ<=x.start:=hs.1;have n:d∉r:=fun o=>by have:=y d o;omega
  have z:∀x∈r,x.path≠d.path:=fun x h i=>n<|e.ok.only (e.sub x<|XO _ h) m i▸h
  have D:(ZV s.mem:Int)=t-30+(d.eZ.toNat+ZV r:Nat):=by have:=e.sum;unfold ZV at this ⊢;rwa[QV,Xm]at this
  have n:Ca (d::r)=4*d.eZ.toNat+20+Ca r:=by unfold Ca;rw[QV,Xm]
  rw[n]at hc;rw[n];have:d.eZ<=4096:=yx e.ok.dev.c2
  rw[Vst.pull]
  by_cases u:d.start=t
  ·have:=YV.pull r (t+d.eZ) s c (e.step u) ox;simp only[u,ne_eq,not_true,and_false,CX];obtain⟨a,b,j,i⟩:=this;exact⟨a,⟨b.ok,b.cap,b.c0,yx b.c1⟩,j,i⟩
  have B:∀s1,Vok s1 c->s1.dev.cap=s.dev.cap->s1.dev.lZ<=s.dev.lZ+(2*d.eZ.toNat+10)->s.dev.lZ<=s1.dev.lZ->s1.mem.map (fun x=>(x.path,x.eZ))=s.mem.map (fun x=>(x.path,x.eZ))->(∃o,s1.move d.path t=(0,o)/\Ub s1 o c (2*d.eZ.toNat+10)/\YV o c r (t+d.eZ)/\o.mem.map (fun x=>(x.path,x.eZ))=s1.mem.map (fun x=>(x.path,x.eZ)))->
   ∀b:Int × Vst,b=s1.move d.path t->((if b.1≠0 then b else Vst.pull r (t+d.eZ) b.2).1=0\/(if b.1≠0 then b else Vst.pull r (t+d.eZ) b.2).1=220)/\Ub s (if b.1≠0 then b else Vst.pull r (t+d.eZ) b.2).2 c (4*d.eZ.toNat+20+Ca r+2)/\
    (if b.1≠0 then b else Vst.pull r (t+d.eZ) b.2).2.mem.map (fun x=>(x.path,x.eZ))=s.mem.map (fun x=>(x.path,x.eZ))/\
    ((if b.1≠0 then b else Vst.pull r (t+d.eZ) b.2).1=0->∃T,YV (if b.1≠0 then b else Vst.pull r (t+d.eZ) b.2).2 c [] T/\((if b.1≠0 then b else Vst.pull r (t+d.eZ) b.2).2.dev.img.length:Int)<=T):=by
   rintro s1-k2 k3 k4 k5 ⟨o,w,n,e3,q⟩ b rfl;rw[w,Qf sx];have A:=n.c1;obtain⟨a,b,j,i⟩:=YV.pull r (t+d.eZ) o c e3 ox;have:=b.c1;have:=b.c0;have:=n.c0;exact⟨a,⟨b.ok,by rw[b.cap,n.cap,k2],by show _<=(Vst.pull r (t+d.eZ) o).2.dev.lZ;omega,by show(Vst.pull r (t+d.eZ) o).2.dev.lZ<=_;omega⟩,by rw[j,q,k5],i⟩
  by_cases C:d.start-t<d.eZ
  ·simp only[Qg<|Qr C u,Qg u];cases hg:YR s.dev.cap s.exts d.eZ with
   |none=>exact⟨.inr rfl,⟨e.ok,rfl,Qk _,MO _ _⟩,rfl,fun e=>by cases e⟩
   |some g=>
    obtain⟨-,g1,E,g3,-⟩:=GD hi.2.1 (yx e.ok.pZ) hg;obtain⟨s1,w,n,-,q,o⟩:=e.ok.move_to m (Vst.okX_add e.ok.ext g1 hi.2.1 E g3) ox;simp only[w];rw[Qf sx];have gt:d.start+d.eZ<=g:=by
     have l:=g3 (ZW d)<|JA m;simp only[ZW]at l;rcases l with l|l
     ·by_cases p:g<t
      ·obtain⟨x,h,-,a,b⟩:=e.tile g g1 p;have:=g3 (ZW x)<|JA h;simp only[ZW]at this;omega
      omega
     exact l
    have A:=n.c1;refine B s1 n.ok n.cap A n.c0 o ?_ _ rfl;have:=YV.step2 (m:={d with start:=g}) (r:=r) (t:=t) n.ok ((q _).2 (.inl rfl)) (fun x h=>(q x).2 (.inr ⟨e.sub x<|XO _ h,z x h⟩)) hs.2 (fun x h=>by have:=y x h;show t+d.eZ<=_;omega) e.t30 (.inl (by show t+d.eZ<=g;omega)) z
     (fun x h v hne=>by
      rcases(q x).1 h with i|⟨h,hp⟩
      ·exact absurd i hne
      exact e.done x h (by simp only[QD,Uj];exact⟨fun i=>hp<|by rw[i],v⟩))
     (fun k l p=>by
      obtain⟨x,a,b,j⟩:=e.tile k l p;simp only[QD,Uj]at b;have hp:x.path≠d.path:=fun i=>b.1<|e.ok.only a m i
      exact⟨x,(q x).2 (.inr ⟨a,hp⟩),b.2,fun i=>hp<|by rw[i],j⟩)
     (by rw[(KJ (c:=c) o).2];exact D) (by show t+d.eZ<=_;rw[n.cap];omega) ox
    exact this
  simp only[Qf (fun hh:d.start-t<d.eZ/\¬d.start=t=>C hh.1),Qg u,ne_eq,not_true,CX];refine B s e.ok rfl (MO _ _) (Qk _) rfl ?_ _ rfl;exact YV.step2 e.ok m (fun x h=>e.sub x<|XO _ h) hs.2 (fun x h=>by have:=y x h;omega) e.t30 (.inl ox) z
   (fun x h v hne=>e.done x h (by simp only[QD,Uj];exact⟨hne,v⟩))
   (fun k l p=>by obtain⟨x,a,b,j⟩:=e.tile k l p;simp only[QD,Uj]at b;exact⟨x,a,b.2,b.1,j⟩) D ox ox
def DL(l):(Vst.bZ l).Perm l:=ME l _
def aH(l):(Vst.bZ l).Pairwise fun a b=>a.start<=b.start:=
 (MF (le:=fun a b:RM=>decide<|a.start<=b.start) (fun a b c c c=>by simp at*;omega) (fun a b=>zx) l).imp fun c=>by simpa using c
def Vok.pull{s c}(h:Vok s c):YV s c (Vst.bZ s.mem) 30:=by
 have hp:=DL s.mem;have g:(Vst.bZ s.mem).Pairwise fun a b=>a.path≠b.path:=(hp.pairwise_iff fun h=>h.symm).2 (h.rise.imp fun h=>Da h)
 refine⟨h,fun e d=>hp.mem_iff.1 d,?_,fun e d=>(h.inX<|hp.mem_iff.1 d).1,AZ _,fun e d e=>absurd (hp.mem_iff.2 d) e,fun k e d=>ox,?_⟩
 ·refine((aH s.mem).and g).imp_of_mem fun {a b} ha hb ⟨e,d⟩=>?_
  have e:=h.apart (hp.mem_iff.1 ha) (hp.mem_iff.1 hb) d;have:=h.inX<|hp.mem_iff.1 ha;have:=h.inX<|hp.mem_iff.1 hb;unfold UJ ZW at e;simp only[]at e;omega
 have:ZV (Vst.bZ s.mem)=ZV s.mem:=(hp.map _).sum_nat;omega
def bV:∀l:List RM,Ca l=4*ZV l+20*l.length
 | []=>rfl
 |m::l=>by
  have:=bV l;unfold Ca ZV at*
  rw[QV,Xm,this,QV,Xm,QW];omega
def Vok.compact{s c}(h:Vok s c)(d:s.dev.lZ+100000<=1000000000):
 (s.compact.1=0\/s.compact.1=220)/\Ub s s.compact.2 c (4*ZV s.mem+20*s.mem.length+2)/\s.compact.2.mem.map (fun x=>(x.path,x.eZ))=s.mem.map (fun x=>(x.path,x.eZ))/\
 (s.compact.1=0->YV s.compact.2 c [] (30+ZV s.compact.2.mem)/\s.compact.2.dev.img.length<=30+ZV s.compact.2.mem):=by
 have hp:=DL s.mem;have g:Ca (Vst.bZ s.mem)=4*ZV s.mem+20*s.mem.length:=by rw[bV,hp.length_eq];have:ZV (Vst.bZ s.mem)=ZV s.mem:=(hp.map _).sum_nat;rw[this]
 have:ZV s.mem<=200*s.mem.length:=by
  have:∀d:List RM,(∀e∈d,e.eZ.toNat<=200)->ZV d<=200*d.length:=by
   intro d
   induction d with
   |nil=>simp[ZV]
   |cons y d ih=>
    intro h;have i:=h y<|Yv ..;have j:=ih fun x d=>h x<|XO _ d
    unfold ZV at*
    rw[QV,Xm,QW];omega
  refine this _ fun e d=>?_
  have i:=(h.mems e d).eZ;have j:=Vz (f:=(e.path,c e.path)) (h.plen d) (h.mems e d).big;omega
 have hf:=h.few;obtain⟨a,b,d,f⟩:=YV.pull (Vst.bZ s.mem) 30 s c h.pull (by rw[g];omega);rw[g]at b;refine⟨a,b,d,fun h0=>?_⟩;obtain⟨d,g1,e⟩:=f h0;have hs:=g1.sum;have:d=30+ZV s.compact.2.mem:=by have:ZV ([]:List RM)=0:=rfl;rw[this]at hs;show d=30+(ZV (Vst.pull _ _ _).2.mem:Int);omega
 rw[<-this];refine⟨g1,?_⟩;have g3:(s.compact.2.dev.img.length:Int)<=d:=e;omega
structure Ys where
 kind:Int
 path:LU
 text:LU
 tg:Int
 files:List QC
noncomputable def Vst.does(s:Vst)(a:Ys):Int × Vst:=
 if a.kind=0 then s.put [(a.path,a.text)]else if a.kind=1 then s.del a.path else if a.kind=2 then s.move a.path a.tg else if a.kind=3 then s.compact else if a.kind=4 then s.trim else if a.kind=5 then s.put a.files else(0,s)
def Qjs{l m}(h:m∈l):m.eZ.toNat<=ZV l:=by
 induction l with
 |nil=>cases h
 |cons y l ih=>
  unfold ZV at*
  rw[QV,Xm];rcases QD.1 h with rfl|h
  ·omega
  have:=ih h;omega
def Vok.sum{s c}(h:Vok s c):ZV s.mem<=200*s.mem.length:=by
 have:∀d:List RM,(∀e∈d,e.eZ.toNat<=200)->ZV d<=200*d.length:=by
  intro d
  induction d with
  |nil=>simp[ZV]
  |cons y d ih=>
   intro h;have g:=h y<|Yv ..;have i:=ih fun j d=>h j<|XO _ d
   unfold ZV at*
   rw[QV,Xm,QW];omega
 refine this _ fun e d=>?_
 have g:=(h.mems e d).eZ;have i:=Vz (f:=(e.path,c e.path)) (h.plen d) (h.mems e d).big;omega
def Vst.del_none{s:Vst}{p}(h:(s.del p).1≠0):(s.del p).2=s:=by
 unfold Vst.del at h ⊢
 split
 ·rfl
 rename_i o;rw[Qf o]at h;exact absurd rfl h
structure Cx(s s':Vst)(e:Int)(c':LU->LU)(f:Nat):Prop where
 ok:Vok s' c'
 cap:s'.dev.cap=s.dev.cap
 c0:s.dev.lZ<=s'.dev.lZ
 c1:s'.dev.lZ<=s.dev.lZ+4*(ZV s.mem+ZV s'.mem)+30*(s.mem.length+f+1)
 same:e≠0->e≠220->s'.dev.lZ=s.dev.lZ
def Cx.none{s s' e c}(h:Vok s c)(d:s'=s)(f):Cx s s' e c f:=by subst d;exact⟨h,rfl,Qk _,ox,fun _ _=>rfl⟩
def Ub.done{s s' c k f e}(h:Ub s s' c k)(d:e=0\/e=220)(hk:k<=4*(ZV s.mem+ZV s'.mem)+30*(s.mem.length+f+1)):Cx s s' e c f:=
 ⟨h.ok,h.cap,h.c0,yx h.c1,fun g g=>by rcases d with rfl|rfl<;>contradiction⟩
def Cx.few{s s' c c' f e}(h:Vok s c)(d:Cx s s' e c' f)(hf:f<=1000):s'.dev.lZ<=s.dev.lZ+60000:=by have:=h.sum;have:=d.ok.sum;have:=h.few;have:=d.ok.few;have:=d.c1;omega
noncomputable def Vst.fresh(cap:Nat):Vst:=⟨((⟨cap,[],0⟩:QG).wr 0 (Yp 0 [])).tick 1,0,0,[]⟩
def Vok.fresh(cap)(d:31<=cap)(e:cap<=4096)(c):Vok (Vst.fresh cap) c:=by have:=Un 0 [];have h0:(⟨cap,[],0⟩:QG).Ok:=⟨by show 1<=cap;omega,e,Zv _,sx,by show 0<=1000000000;omega⟩;exact⟨h0.wrL (by show 0+_<=cap;omega) (Sg _ _) 1 (by show 0+_+1<=_;omega),d,Zv _,Zv _,List.Pairwise.nil,Zv _,fun d d=>absurd d EC,(YL _ _).2 ⟨fun d d=>absurd d EC,List.Pairwise.nil⟩⟩
section
open Go.Sort Go.Shelf
def wP{d c g s w}(h:Dk w d c g s)(hs:s.Ok)(h0:s.img=[]):
 Calls prog 34 #[.pointer d] w (RK (.tuple #[(0:Int),.slice none 0 0,(230:Int)]) w):=by
 have⟨c,g,i⟩:=qc (Rg h hs) (EZ h hs) fun j (l:Qb [] w j)=>DS (h.kZ l) hs;rw[h0]at i;have:((s.cap:Int)==0)=false:=Ze.2 (yx hs.c1);have g1:¬(s.cap:Int)=0:=yx hs.c1
 go_enter func34,ntmps34;go_wp2_with (first
  |(go_fit c.o;rintro e w⟨rfl,rfl⟩)
  |(go_fit g.o;rintro e w⟨rfl,rfl⟩))
 have c:=(Qc [] w).alloc<|.cells #[(0:Int),(),.bool false,(0:Int),(),.bool false] 127;have⟨j,g⟩:=qb c<|Qx w [(0:Int),(),.bool false,(0:Int),(),.bool false] 127
 go_loopg [6,21] 2 (fun k c l wr=>(∃c:Nat,c<=2/\k=2-c/\l=.int .i64 (c:Nat))/\wr=w.alloc (.cells #[(0:Int),(),.bool false,(0:Int),(),.bool false] 127))
 ·exact⟨⟨0,ox,ox,rfl⟩,rfl⟩
 obtain⟨⟨c,hi,hk,rfl⟩,rfl⟩:=hrel
 by_cases hlt:c<2
 ·obtain⟨_,_⟩:(c:Int)<2/\(0:Int)<((c:Int)+1)*5:=ox
  go_wp2_with (go_fit(i.o _ j.o);rintro e l⟨rfl,rfl⟩)
  go_roundg (2-(c+1))
  ·exact⟨⟨c+1,ox,rfl,by go_num⟩,rfl⟩
  omega
 obtain rfl:c=2:=ox
 have c0:=g.o.cq 0;have c1:=g.o.cq 1;have c2:=g.o.cq 2;have c3:=g.o.cq 3;have:=g.o.cq 4;have:=g.o.cq 5;go_wp2_with fail
 go_region
 all_goals
  go_wp2
  go_ret3
  exact⟨rfl,((((Qc [] w).alloc _).alloc _).alloc _).drew⟩
def rK(w:WD)(d:Nat)(c h:VL)(cap:Nat)(e:Ending)(w':WD):Prop:=
 ∃a g i,e=.returned (.tuple #[.pointer (some ⟨a,0,none⟩),(0:Int)])/\Zn w' a d g i () (Vst.fresh cap)/\Qb (Q2 d c h) w w'/\QQ w (Q2 d c h) (QN a d g i ())
def Qe8{d cap g i w}(h:Dk w d g i ⟨cap,[],0⟩)(c:31<=cap)(c:cap<=4096)(j:Y5 w)(l:∀x∈Q2 d g i,10<=x):
 Calls prog 11 #[.pointer d] w (rK w d g i cap):=by
 have hs:(⟨cap,[],0⟩:QG).Ok:=⟨by show 1<=cap;omega,c,Zv _,sx,by show 0<=1000000000;omega⟩;have⟨o,p,u,t,v⟩:=qe (Rg h hs) (EZ h hs) (wP h hs rfl) (fun c (e:Qb [] w c)=>DS (h.kZ e) hs) fun c (e:Qb [] w c)=>NV () [] 0 d g i ⟨cap,[],0⟩ c (h.kZ e) hs (Qm.nil _ _ _).memA (j.kZ e).1 ox sx List.Pairwise.nil sx ((YL _ _).2 ⟨fun x c=>absurd c EC,List.Pairwise.nil⟩) ((YL _ _).2 ⟨fun x c=>absurd c EC,List.Pairwise.nil⟩) (by show(_:Nat)<=cap;omega) (by show 0+_<=_;omega);have:((cap:Int)==0)=false:=Ze.2 ox;obtain⟨g1,_⟩: ¬(cap:Int)<=30/\¬(cap:Int)=0:=ox
 have q:=Qa j;have s:=Qa h;have n:=Qa l;go_enter func11,ntmps11;go_wp2_with (first
  |(go_fit o.o;rintro j w⟨rfl,rfl⟩)
  |(go_fit p.o;rintro j w⟨rfl,rfl⟩)
  |(go_fit u.o;rintro j z⟨rfl,e⟩)
  |(go_fit(t.o _ e);rintro j A⟨rfl,rfl⟩)
  |(go_fit(v.o _ e);rintro j m⟨rfl,y⟩))
 obtain⟨j,o,k1,k2,k3⟩:=y;have p:10<=w.heap.size:=by have:=n.o d (by simp[Q2]);have:=s.o.lt d (by simp[Q2]);omega
 have l:∀x∈Q2 d j o,10<=x:=fun x c=>(k3 x c).elim (n.o x) fun h=>QS p<|QS e.size h
 have:=k2.size;have:=e.size;go_ret2;refine⟨m.heap.size,j,o,rfl,⟨⟨Qx m [.pointer d,(0:Int),(0:Int),(),.bool false] 76,k1.kZ<|(Qc [] m).alloc _,Qm.nil _ _ _,fun j=>absurd (k1.lt _ j)<|CE _,by simp[Qd,qo],by simp[Qd,qo,Qq]⟩,
  ((q.o.kZ e).kept k2 n.o).kZ ((Qc [] m).alloc _),fun x c=>?_⟩,((e.mono (T:=Q2 d g i) sx).trans k2 fun x c=>.inl c).alloc _,fun x c=>?_⟩
 ·simp only[QN,QD,Q4]at c;rcases c with rfl|c|c
  ·omega
  ·simp[Qd,qo]at c
  exact l x (by simpa[Q2]using c)
 simp only[QN,QD,Q4]at c;rcases c with rfl|c|c
 ·exact .inr ox
 ·simp[Qd,qo]at c
 exact(k3 x<|by simpa[Q2]using c).imp id (fun h=>ox)
end
section
open Go.Sort Go.Shelf
section
variable {a d:Nat} {nv pv mv:VL} {s:Vst} {w:WD} {c:LU->LU}
def Mf(h:Zn w a d nv pv mv s)(i:Vok s c)(p x)(hp:p.length<=1000000)(m:x.length<=140737488351232)(j:s.dev.lZ+10000<=1000000000):
 Calls prog 12 #[.pointer a,str p,str x] w fun e w'=>e=.returned (.int .i64 (s.put [(p,x)]).1)/\ZU w a d nv pv mv (s.put [(p,x)]).2 w':=by
 have g:=(Qc [] w).alloc<|.cells #[str p,str x] 63;have⟨l,j⟩:=qb (SD (h.kZ g) i (.slice w 1 1) [(p,x)] ⟨_,_,rfl,by have:=(Qx w [str p,str x] 63).sees (size:=2) (n:=1) rfl;rwa[show Qs Jv [(p,x)]=[.string<|str p,.string<|str x]from rfl]⟩ sx (by simp;exact⟨hp,m⟩) j) g;go_enter func12,ntmps12;go_wp2_with (go_fit l.o;rintro e i⟨rfl,g⟩);go_ret;exact⟨rfl,.from j.o g⟩
def Qcj(x c)(l:Js x)(m:Js c)(w)(j:Yt w):Calls prog 89 #[.agg (Q9 x).toArray,.agg (Q9 c).toArray] w fun e w'=>e=.returned (.int .i64<|x.start-c.start)/\∃d h,w'=grow (w.drewN d) h:=by
 have i:=Qa (show ∀(d g:Obj),∃n h,(w.alloc d).alloc g=grow (w.drewN n) h from fun d g=>⟨0,#[d]++#[g],by rw[alloc_eq_grow,alloc_eq_grow,grow_grow];simp[grow,World.drewN]⟩);obtain⟨-,d,d⟩:=l;obtain⟨-,d,d⟩:=m;have:IntKind.i64.wrap (x.start-c.start)=x.start-c.start:=by rw[Zq];omega
 unfold Q9;go_enter func89,ntmps89
 go_wp2
 go_ret;exact⟨rfl,i.o _ _⟩
def Qjx:SWO (ltOf fun x c:MS=>x.1.start-c.1.start) where
 irrefl x:=by simp[ltOf]
 trans x c z h k:=by simp only[ltOf,ZE]at h k ⊢;omega
 ntrans x c z h k:=by simp only[ltOf,Cb]at h k ⊢;omega
def Vok.bZ(d:Vok s c){l}(hp:l.Perm s.mem)(hs:l.Pairwise fun a b=>¬b.start-a.start<0):l=Vst.bZ s.mem:=by
 refine Ig (le:=fun a b:RM=>a.start<=b.start) (fun a b ha hb e e=>?_) (hs.imp fun e=>ox) (aH s.mem)<|hp.trans (DL s.mem).symm;have ha:=hp.mem_iff.1 ha;have hb:=(DL s.mem).mem_iff.1 hb
 by_cases e:a.path=b.path
 ·exact d.only ha hb e
 have g:=d.apart ha hb e;have:=d.inX ha;have:=d.inX hb;unfold UJ ZW at g;simp only at g;omega
def Qcd(h:Zn w a d nv pv mv s)(e:Vok s c):Calls prog 52 #[.pointer a] w (FX (Vst.bZ s.mem) w):=by
 have⟨n,p,o⟩:=qc (Fo h.vt (yx e.few)) (fun t i (o:Qb [] w i) hr h0=>mC 89 (fun g l=>g.start-l.start) Qjx (enters_of func89 kx rfl) (fun g l j q i m=>Qcj g l j q i m) t s.mem i hr (fun l i=>(e.rm l i).ms) (h.env.kZ o).1 h0 (yx e.few)) fun l=>e.bZ (l:=l);have:0<w.heap.size:=by have:=h.low a sx;have:=h.vt.lt a sx;omega
 go_enter func52,ntmps52;go_wp2_with (first
  |(go_fit n.o;rintro q A⟨m,rfl,u,l,e⟩)
  |(go_fit(p.o m A l u (fun i=>by have:=e 0 i;omega));rintro q B⟨rfl,x,y,z,v,t⟩))
 go_ret;obtain rfl:=o.o x y z;exact⟨m,rfl,v,l.trans t fun g j=>.inr<|e g j,e⟩
def wF(m v k xs w)(h:Qm w 109 2 v k xs)(hk:k<=1000):
 Calls prog 54 #[v,.agg (Q9 m).toArray] w fun e w'=>∃g cap,e=.returned (.slice (some ⟨g,0,none⟩) (k+1) cap)/\Qm w' 109 2 (.slice (some ⟨g,0,none⟩) (k+1) cap) (k+1) (xs++Zc (m.start,m.eZ))/\Qb (Qd v) w w'/\(g∈Qd v\/w.heap.size<=g):=by
 have i:k+1<=maxLen:=by simp only[maxLen];omega
 have j:(k+1)*16<=140737488355328:=ox
 have⟨c,d⟩:=qb (fun d=>(Qc (Qd v) w).alloc d) h;unfold Q9;go_enter func54,ntmps54;go_wp2_with (at_builtin;(refine Rr (w.alloc<|.cells #[str m.path,m.start,m.eZ,m.size,.int .u32 m.sum] 69) rfl _ _ 106 rfl 109 (.agg #[(0:Int),(0:Int)]) 2 16 AC BW rfl dx v k _ (Zc (m.start,m.eZ)) rfl (by rw[Ux];rfl) rfl rfl (Fc _) (World.ownsRow.alloc d.o _) i j ?_;intro n l s q p o));go_ret;refine⟨n,l,rfl,q,(c.o _).trans p fun c c=>.inl c,?_⟩;rcases o with h|h
 ·exact .inl h
 exact .inr (by simp at h;omega)
def Qaw(v l w)(h:J6 w v l)(hl:l.length<=100):
 Calls prog 53 #[v,.slice none 0 0,.func (.func 54) #[] #[]] w (Es (l.map ZW) w):=by
 obtain⟨a1,c1,rfl,h5,x3⟩:=h;have h4:=Qa h5;have⟨n,h2⟩:=qx l.length;rw[h2]at hl h4 ⊢;have HN:=Qa h2;go_enter func53,ntmps53
 go_wp2
 go_loopg [1,8,11] n (fun k x1 x8 x5 wr=>(∃(i:Nat)(v5:VL),i<=n/\k=n-i/\v5=x1/\x5=.int .i64 (i:Nat)/\Hid (Qm wr 109 2 v5 i<|Qs Zc<|(l.take i).map ZW)/\Hid (∀x∈Qd v5,w.heap.size<=x))/\Hid (Qb [] w wr))
 ·exact⟨⟨0,(),ox,ox,rfl,rfl,Qa<|Qm.nil _ _ _,Qa<|by simp[Qd,qo]⟩,Qa<|Qc _ _⟩
 obtain⟨⟨i,v5,hi,hk,rfl,rfl,h3,q⟩,o⟩:=hrel
 by_cases hlt:i<n
 ·have q0:(i:Int)<n:=ox
  have⟨m,hm⟩:=qy l i (yx HN.o);obtain⟨g,off,rfl,c0,e1,e2,e3,e4⟩:=RA (h4.o.kZ o.o) hm;have h9:=Qa (by rw[Zh,hm];simp[Qs,ZW]:Qs Zc ((l.take<|i+1).map ZW)=Qs Zc ((l.take i).map ZW)++Zc (m.start,m.eZ));have h1:=(Qc [] wr).alloc<|.cells #[.string<|str m.path,.int .i64 m.start,.int .i64 m.eZ,.int .i64 m.size,.int .u32 m.sum] 69;have HC:=Qa (wF m v5 i _ _ (h3.o.kept h1<|Zy _) ox);unfold Q9 at HC;have h8:=Qa h1;go_wp2_with (go_fit HC.o;rintro e w1⟨g5,c5,rfl,x4,x2,x0⟩)
  go_roundg (n-(i+1))
  ·refine⟨⟨i+1,_,ox,rfl,rfl,by go_num,Qa<|by rwa[h9.o],Qa fun y hy=>?_⟩,Qa<|(o.o.trans h8.o sx).trans x2 fun x hx=>.inr<|q.o x hx⟩;simp[Qd,qo]at hy;subst hy;have:=o.o.size;rcases x0 with h|h
   ·exact q.o _ h
   simp at h;omega
  omega
 obtain rfl:n=i:=ox
 have q0:¬(n:Int)<n:=ox
 have HE:=Qa<|show l.take n=l from Q5 (by rw[HN.o];exact Qk _)
 go_wp2
 go_ret;have:=h3.o;rw[HE.o]at this;exact⟨_,rfl,by rw[QH,HN.o];exact this,o.o,q.o⟩
end
end
section
open Go.Sort Go.Shelf
def Vst.put_nil{s:Vst}(h:s.mem.length<=16):s.put []=(0,s):=by unfold Vst.put;rw[Qf<|by simp[Vst.bad],Qf sx,Qf (by simp[Q8];exact h)];rfl
structure EM(s0 s:Vst)(c:LU->LU)(R:List RM)(i:Nat)(t:Int):Prop where
 eq:s0.compact=Vst.pull (R.drop i) t s
 ok:Vok s c
 cap:s.dev.cap=s0.dev.cap
 lZ:s.dev.lZ<=s0.dev.lZ+2000*i
 t0:30<=t/\t<=30+4096*i
def EM.drop{s0 s c R i t}(h:EM s0 s c R i t){m}(e:R[i]?=some m):s0.compact=Vst.pull (m::R.drop (i+1)) t s:=by have d:=Qy.1 e;rw[h.eq,Xf d.1,d.2]
def Vok.moved{s c}(h:Vok s c)(p tg)(d:s.dev.lZ+10000<=1000000000):Vok (s.move p tg).2 c/\(s.move p tg).2.dev.cap=s.dev.cap/\(s.move p tg).2.dev.lZ<=s.dev.lZ+1000:=by
 by_cases h0:(s.move p tg).1=0
 ·obtain⟨d,g,e,-,-⟩:=h.move ox h0;have:=(h.mems d g).eZ;have:=(Vz (f:=(d.path,c d.path)) (h.plen g) (h.mems d g).big).2.2;exact⟨e.ok,e.cap,yx e.c1⟩
 rw[Vst.move_none h0];exact⟨h,rfl,ox⟩
def jY{m r t s}(h:m.start-t<m.eZ/\m.start≠t)(c:YR s.dev.cap s.exts m.eZ=none):Vst.pull (m::r) t s=(220,s):=by unfold Vst.pull;simp only[Qg h,c];rfl
def jX{m r t s g}(h:m.start-t<m.eZ/\m.start≠t)(d:YR s.dev.cap s.exts m.eZ=some g)(c:(s.move m.path g).1≠0):Vst.pull (m::r) t s=s.move m.path g:=by unfold Vst.pull;simp only[Qg h,d,Qg c]
def jZ{m r t s g}(h:m.start-t<m.eZ/\m.start≠t)(d:YR s.dev.cap s.exts m.eZ=some g)(c:(s.move m.path g).1=0):
 Vst.pull (m::r) t s=if((s.move m.path g).2.move m.path t).1≠0 then(s.move m.path g).2.move m.path t else Vst.pull r (t+m.eZ) ((s.move m.path g).2.move m.path t).2:=by
 rw[Vst.pull];simp only[Qg h,d,Qg h.2];simp only[c,ne_eq,not_true,CX]
def kD{m r t s}(h:¬(m.start-t<m.eZ/\m.start≠t))(c:m.start≠t):
 Vst.pull (m::r) t s=if(s.move m.path t).1≠0 then s.move m.path t else Vst.pull r (t+m.eZ) (s.move m.path t).2:=by
 rw[Vst.pull];simp only[Qf h,Qg c];simp only[ne_eq,not_true,CX]
def kC{m r t s}(c:m.start=t):Vst.pull (m::r) t s=Vst.pull r (t+m.eZ) s:=by rw[Vst.pull];simp[c]
def bU{a d n p mv s w c}(h:Zn w a d n p mv s)(i:Vok s c)(B:s.dev.lZ+200000<=1000000000):
 Calls prog 29 #[.pointer a] w fun e w'=>e=.returned s.compact.1/\ZU w a d n p mv s.compact.2 w':=by
 have t:=Qa (SD h i () [] ⟨none,0,rfl,⟨by simp[Qs],fun g g g=>by simp[Qs]at g⟩⟩ sx sx ox);rw[Vst.put_nil i.few]at t;have:=Qa h;have⟨o,h3⟩:=qb i B;have⟨x,j⟩:=qx<|Vst.bZ s.mem;have u:∀g∈x,g∈s.mem:=fun g q=>by rw[<-j]at q;exact(DL s.mem).mem_iff.1 q
 have⟨m,l⟩:=qx x.length;have:m<=16:=by rw[<-l,<-j,(DL s.mem).length_eq];exact i.few
 have⟨M,v⟩:=qx s.compact;rw[v];have x1:=Qa v;have x2:=Qa<|Qr j<|Qr u l;have A:=Qa<|show EM s s c x 0 30 from⟨by rw[<-j];rfl,i,rfl,ox,ox⟩;clear h i B v j u l;go_enter func29,ntmps29;go_wp2_with (first
  |(go_fit t.o;rintro e D⟨rfl,C⟩;obtain⟨x6,x7,x5,i,y,u⟩:=C)
  |(go_fit(Qcd i o.o);rintro e x8⟨v2,rfl,j,G,l⟩;rw[x2.o.1,x2.o.2.2]at j;have z:=j;obtain⟨a2,c2,rfl,-,-,E,-⟩:=z.sees))
 have⟨t,h8,h5,D,C⟩:=qe (i.kZ G) (show Qb (QN a d n p mv) w x8 from y.trans G sx) u (show ∀n∈Qd (.slice a2 m c2),n∉QN a d x6 x7 x5 from fun n p q=>by have:=l n p;have:=i.vt.lt n q;omega) j;clear i y u G l j E z
 go_loopg [4,6,7,8,9,10,11,20] m (fun k z i i i i i i u wr=>∃(l:Nat)(i:Int)(j:Vst)(y:LU->LU),l<=m/\k=m-l/\z=.int .i64 i/\u=.int .i64 (l:Nat)/\Hid (EM s j y x l i)/\Hid (ZU x8 a d x6 x7 x5 j wr))
 ·exact⟨0,30,s,c,ox,ox,rfl,rfl,A,Qa t.o.refl⟩
 obtain⟨l,i,j,y,hi,hk,rfl,rfl,t,u⟩:=hrel;obtain⟨z8,p0,z7,W,G,y7⟩:=u.o;have:=Qa W;have⟨F,E⟩:=qb G y7
 by_cases hlt:l<m
 ·have p3:(l:Int)<m:=ox
  have⟨g,q⟩:=qy x l (yx x2.o.2.2);have I:=C.o.kept G fun n p=>D.o n p;obtain⟨a3,c3,n,-,-,H,-⟩:=I.sees;injection n with n _ e5;subst n e5;obtain⟨n,off,rfl,n,n,n,n,n⟩:=RA H q;have C:=x2.o.2.1 g<|QB q;have T:=o.o.inX C;have u:=o.o.plen C;have Q:=o.o.dev.c2;have V:=t.o.t0;have h4:=Qa<|t.o.drop q;have A:=(Qc [] wr).alloc<|.cells #[.string<|str g.path,.int .i64 g.start,.int .i64 g.eZ,.int .i64 g.size,.int .u32 g.sum] 69;have p:=Qx wr [.string<|str g.path,.int .i64 g.start,.int .i64 g.eZ,.int .i64 g.size,.int .u32 g.sum] 69;have⟨b,hb⟩:=qx wr.heap.size;have⟨U,n⟩:=qx<|wr.alloc<|.cells #[.string<|str g.path,.int .i64 g.start,.int .i64 g.eZ,.int .i64 g.size,.int .u32 g.sum] 69;have L:=Qa<|W.kZ A;have D:b∉QN a d z8 p0 z7:=fun q=>by have:=W.vt.lt b q;omega
  rw[hb]at p;rw[show[Value.string<|str g.path,.int .i64 g.start,.int .i64 g.eZ,.int .i64 g.size,.int .u32 g.sum].toArray=#[Value.string<|str g.path,.int .i64 g.start,.int .i64 g.eZ,.int .i64 g.size,.int .u32 g.sum]from rfl]at p;rw[n]at p A L;have⟨p2,J,x9⟩:=qc p A D;have:b<U:=p.lt;have y4:=Qa (fun o Z h1 Y n (O:Zn o a d Z h1 Y n)(hok:Vok n y)(B:n.dev.lZ<=s.dev.lZ+40000) tg r z (e:n.move g.path tg=(r,z))=>show Calls prog 42 #[.pointer a,.string<|str g.path,.int .i64 tg] o fun e w'=>e=.returned (.int .i64 r)/\ZU o a d Z h1 Y z w' by have:=iH O hok g.path ox tg (yx h3.o);rw[e]at this;exact this);have P:=t.o.lZ;have⟨y5,R⟩:=qb (fun n (v:s.compact=Vst.pull (x.drop<|l+1) (i+g.eZ) n)(hok:Vok n y)(hcap:n.dev.cap=s.dev.cap)(B:n.dev.lZ<=j.dev.lZ+2000)=>show EM s n y x (l+1) (i+g.eZ)from⟨v,hok,hcap,ox,ox⟩) (ox:j.dev.lZ<=s.dev.lZ+32000);have:IntKind.i64.wrap (g.start-i)=g.start-i:=by rw[Zq];omega
  have:IntKind.i64.wrap (i+g.eZ)=i+g.eZ:=by rw[Zq];omega
  have⟨v,S⟩:=qb (Qr t.o.ok t.o.cap) fun B o n=>dH B j.exts j.dev.cap g.eZ o n (by unfold Vst.exts;rw[QH];have:=t.o.ok.few;omega) (yx t.o.ok.pZ) (yx t.o.ok.dev.c2) ox t.o.ok.ext;have b0:=p.cq 0 (u:=.string<|str g.path);have:=p.cq 1 (u:=.int .i64 g.start);have y6:=p.cq 2 (u:=.int .i64 g.eZ);clear q I C T u Q A p D W G y7 P H V
  by_cases V:g.start=i
  ·have p:(g.start==i)=true:=(by rw[V];simp);have⟨x0,x3⟩:=qb (y5.o j (by rw[h4.o,kC V]) v.o.1 v.o.2 ox)<|show ZU x8 a d x6 x7 x5 j U from .next F.o E.o (.from J.o L.o.refl);clear V;go_wp2_with fail
   all_goals
    go_roundg (m-(l+1))
    ·exact⟨l+1,_,j,y,ox,rfl,rfl,by go_num,x0,x3⟩
    omega
  have p:(g.start==i)=false:=Ze.2 V
  by_cases z6:g.start-i<g.eZ
  ·have C:g.start-i<g.eZ/\g.start≠i:=⟨z6,V⟩;have⟨y9,y8,y3⟩:=qc (Fo L.o.vt (yx v.o.1.few)) (fun B o n=>Qaw B j.mem o n (yx v.o.1.few)) fun o (O:Qb [] U o)=>Qk6 (L.o.kZ O).vt v.o.1.dev;cases hfx:YR j.dev.cap j.exts g.eZ with
   |none=>
    rw[hfx]at S;unfold Ff at S;have A:=Qa (by rw[<-x1.o,h4.o,jY C hfx]:M=(220,j));clear hfx C;go_wp2_with (first
     |(go_fit y9.o;rintro e h2⟨v3,rfl,I,P,-⟩)
     |(go_fit(y8.o _ _ I.memA);rintro e D⟨v4,rfl,B,Q,-⟩;have c2:=(P.trans Q sx).cZ y6 sx))
    have B:Qm D 109 2 v4 j.exts (Qs Zc j.exts):=B;have⟨y2,h9⟩:=qb B (P.trans Q sx);clear I B P Q
    go_region_held3 (fun w'=>w'.cell? ⟨b,2,none⟩=some (.int .i64 g.eZ)) (first|exact c2|exact y1|go_keep)
     (first
       |(go_fit(y3.o _<|h9.o.trans (Qc [] D).drew sx);rintro e p4⟨rfl,rfl⟩)
       |(go_fit(S.o _ _ (y2.o.kept (Qc [] D).drew<|Zy _).exA);rintro e p1⟨rfl,X⟩;have y1:=X.cZ c2 sx))
    go_wp2
    go_ret;rw[A.o];exact⟨rfl,.next h8.o h5.o<|.next F.o E.o<|.from J.o<|L.o.refl.kept<|h9.o.trans ((Qc [] D).drew.trans X sx) sx⟩
   |some g1=>
    rw[hfx]at S;unfold Ff at S;obtain⟨⟨n,s1⟩,p⟩:∃x4,j.move g.path g1=x4:=⟨_,rfl⟩;have y0:=Qa fun o Z h1 Y O=>y4.o o Z h1 Y j O v.o.1 (yx R.o) g1 n s1 p;have H:Vok s1 y/\s1.dev.cap=j.dev.cap/\s1.dev.lZ<=j.dev.lZ+1000:=(by have:=v.o.1.moved g.path g1 (wx R.o h3.o);rw[p]at this;exact this);have T:=Qa H;have z1:=Qa (show(n≠0->s.compact=(n,s1))/\(n=0->s.compact=if(s1.move g.path i).1≠0 then s1.move g.path i else Vst.pull (x.drop<|l+1) (i+g.eZ) (s1.move g.path i).2)from
     ⟨fun e=>by rw[h4.o,jX C hfx<|by rwa[p],p],fun e=>by rw[h4.o,jZ C hfx<|by rwa[p],p]⟩)
    clear hfx C H p;go_wp2_with (first
     |(go_fit y9.o;rintro e h2⟨v3,rfl,I,P,-⟩)
     |(go_fit(y8.o _ _ I.memA);rintro e D⟨v4,rfl,B,Q,-⟩;have c2:=(P.trans Q sx).cZ y6 sx))
    have B:Qm D 109 2 v4 j.exts (Qs Zc j.exts):=B;have⟨y2,h9⟩:=qb B (P.trans Q sx);clear I B P Q
    go_region_held3 (fun w'=>w'.cell? ⟨b,2,none⟩=some (.int .i64 g.eZ)) (first|exact c2|exact y1|go_keep)
     (first
       |(go_fit(y3.o _<|h9.o.trans (Qc [] D).drew sx);rintro e p4⟨rfl,rfl⟩)
       |(go_fit(S.o _ _ (y2.o.kept (Qc [] D).drew<|Zy _).exA);rintro e p1⟨rfl,X⟩;have y1:=X.cZ c2 sx))
    have B:=h9.o.trans ((Qc [] D).drew.trans X sx) sx;have⟨y2,y3⟩:=qb B<|y0.o p1 _ _ _<|L.o.kZ B;have:=B.cZ b0 sx;have h9:=Qa (p2.o.kept B sx);clear B X c2 y1
    by_cases B:n=0
    ·subst B;obtain⟨⟨X,z⟩,D⟩:∃x4,s1.move g.path i=x4:=⟨_,rfl⟩;have P:Vok z y/\z.dev.cap=s1.dev.cap/\z.dev.lZ<=s1.dev.lZ+1000:=(by have:=T.o.1.moved g.path i (by have:=T.o.2.2;have:=R.o;have:=h3.o;omega);rw[D]at this;exact this);have u:=z1.o.2 rfl;rw[D]at u;have y1:=Qa (fun o Z h1 Y O=>y4.o o Z h1 Y s1 O T.o.1 (wx T.o.2.2 R.o) i X z D)
     by_cases Q:X=0
     ·subst Q;have x0:=Qa<|y5.o z (by rw[u];simp) P.1 ((P.2.1.trans T.o.2.1).trans v.o.2) (wx P.2.2 T.o.2.2);clear D P u;go_wp2_with (first
       |(go_at_call 42;(with_reducible refine y3.o.mono ?_);rintro e y8⟨rfl,O⟩;obtain⟨p1,p2,y9,Y,I,S⟩:=O;have o:=h9.o.kept I x9.o;have p4:=o.cq 0;have p5:=o.cq 1)
       |(go_fit(y1.o _ _ _ _ Y);rintro e h1⟨rfl,T⟩;have p6:h1.cell? ⟨b,2,none⟩=some (.int .i64 g.eZ):=(by obtain⟨_,_,_,-,Z,-⟩:=T;exact Z.cZ (o.cq 2) fun q=>(S b q).elim x9.o (fun h=>by have:=h9.o.lt;omega))))
      have x3:=Qa<|show ZU x8 a d x6 x7 x5 z h1 from .next F.o E.o (.from J.o<|.from y2.o<|.next I S T)
      go_roundg (m-(l+1))
      ·exact⟨l+1,_,z,y,ox,rfl,rfl,by go_num,x0,x3⟩
      omega
     have A:=Qa (by rw[<-x1.o,u,Qg Q]:M=(X,z));have g4:(X==0)=false:=Ze.2 Q;clear D P u Q;go_wp2_with (first
      |(go_at_call 42;(with_reducible refine y3.o.mono ?_);rintro e y8⟨rfl,O⟩;obtain⟨p1,p2,y9,Y,I,S⟩:=O;have o:=h9.o.kept I x9.o;have p4:=o.cq 0;have p5:=o.cq 1)
      |(go_fit(y1.o _ _ _ _ Y);rintro e h1⟨rfl,T⟩))
     go_ret;rw[A.o];exact⟨rfl,.next h8.o h5.o<|.next F.o E.o<|.from J.o<|.from y2.o<|.next I S T⟩
    have A:=Qa (by rw[<-x1.o,z1.o.1 B]:M=(n,s1));have g4:(n==0)=false:=Ze.2 B;clear B;go_wp2_with (go_fit y3.o;rintro e y8⟨rfl,O⟩);go_ret;rw[A.o];exact⟨rfl,.next h8.o h5.o<|.next F.o E.o<|.from J.o<|.from y2.o O⟩
  have C:¬(g.start-i<g.eZ/\g.start≠i):=fun h=>z6 h.1
  obtain⟨⟨n,s1⟩,p⟩:∃x4,j.move g.path i=x4:=⟨_,rfl⟩;have y0:=Qa<|y4.o U z8 p0 z7 j L.o v.o.1 (yx R.o) i n s1 p;have H:Vok s1 y/\s1.dev.cap=j.dev.cap/\s1.dev.lZ<=j.dev.lZ+1000:=by have:=v.o.1.moved g.path i (wx R.o h3.o);rw[p]at this;exact this
  have u:s.compact=if n≠0 then(n,s1)else Vst.pull (x.drop<|l+1) (i+g.eZ) s1:=by rw[h4.o,kD C V,p]
  by_cases B:n=0
  ·subst B;have x0:=Qa<|y5.o s1 (by rw[u];simp) H.1 (H.2.1.trans v.o.2) (yx H.2.2);clear p H u C;go_wp2_with (go_fit y0.o;rintro e h2⟨rfl,i⟩;have p6:h2.cell? ⟨b,2,none⟩=some (.int .i64 g.eZ):=(by obtain⟨_,_,_,-,Z,-⟩:=i;exact Z.cZ y6 x9.o));have x3:=Qa (show ZU x8 a d x6 x7 x5 s1 h2 from .next F.o E.o (.from J.o i))
   go_roundg (m-(l+1))
   ·exact⟨l+1,_,s1,y,ox,rfl,rfl,by go_num,x0,x3⟩
   omega
  have A:=Qa (by rw[<-x1.o,u,Qg B]:M=(n,s1));have g4:(n==0)=false:=Ze.2 B;clear p H u C B;go_wp2_with (go_fit y0.o;rintro e h2⟨rfl,i⟩);go_ret;rw[A.o];exact⟨rfl,.next h8.o h5.o<|.next F.o E.o<|.from J.o i⟩
 obtain rfl:m=l:=ox
 have p3:¬(m:Int)<m:=ox
 have⟨A,g⟩:=qb (by rw[<-x1.o,t.o.eq,Jq (by rw[x2.o.2.2];exact Qk _)];rfl:M=j.trim)<|nX W t.o.ok (wx t.o.lZ h3.o);clear W G y7;go_wp2_with (go_fit g.o;rintro e h2⟨rfl,i⟩);go_ret;rw[A.o];exact⟨rfl,.next h8.o h5.o<|.next F.o E.o i⟩
end
def Pw(o bs n i0 m:Nat)(cap:Array VL)(s:BA)(T:LN)(Q:Nat->WD->Prop)(hT:o∉T/\bs∉T/\o≠bs)
 (x5:∀(b:Int) W,(callFunc n<|#[.int .u8 b]++cap).run prog W=.ok (.enter n<|#[.int .u8 b]++cap) W)
 (hQ:∀k W q,Q k W->Qb [o] W q->Q k q)(x2:i0<=m)(hm:m<=s.size)
 (x0:∀k (h:k<s.size),i0<=k->k<m->∀W,Q k W->Calls prog n (#[.int .u8 (s[k]'h).toNat]++cap) W fun e q=>e=.returned (.bool true)/\Q (k+1) q/\Qb T W q)
 (x1:∀(h:m<s.size) W,Q m W->Calls prog n (#[.int .u8 (s[m]'h).toNat]++cap) W fun e q=>e=.returned (.bool false)/\Q m q/\Qb T W q)
 (w:WD)(hi:Qe w o 3 [i0])(hs:Qe w bs 9 [s])(h0:Q i0 w)(x6:s.size<=1000):
 Calls prog 257 #[.func (.func n) #[] cap,.pointer o,.pointer bs] w fun e w'=>e=.returned (.tuple #[])/\Q m w'/\Qe w' o 3 [m]/\Qb (o::T) w w':=by
 have⟨HT,HQ,HG,HS,H0,HI,HA⟩:=qg hT hQ x0 x1 h0 hi hs;go_enter func257,ntmps257
 go_wp2
 go_loopg [] (m-i0) (fun k wr=>∃i:Nat,i0<=i/\i<=m/\k=m-i/\Hid (Q i wr)/\Hid (Qe wr o 3 [i])/\Hid (Qb (o::T) w wr))
 ·exact⟨i0,Qk _,x2,rfl,H0,HI,Qa<|Qc _ _⟩
 obtain⟨i,h1,h2,hk,h5,h3,h4⟩:=hrel;have c1:=h3.o.cq 0 (u:=.int .i64 i);have h8:=HA.o.kept h4.o (by simp only[QD,Uj];exact⟨fun e=>HT.o.2.2 e.symm,HT.o.2.1⟩);have c2:=h8.cq 0 (u:=.string s);have x4:=Qa h8
 by_cases hlt:i<s.size
 ·have g0:(i:Int)<s.size:=ox
  have i0:=UV s i (i:Int) hlt rfl
  by_cases x3:i<m
  ·have HC:=Qa<|HG.o i hlt h1 x3 wr h5.o;go_wp2_with (go_fit HC.o;rintro e w2⟨rfl,h9,y⟩;have A2:=h3.o.kept y HT.o.1;have e1:=A2.cq 0 (u:=.int .i64 i);have e2:=A2.free 0)
   go_roundg (m-(i+1))
   ·exact⟨i+1,ox,ox,rfl,Qa<|HQ.o _ _ _ h9<|(Qc [o] w2).setCell (p:=o) (.inl sx) _,Qa<|A2.set 0 _,Qa<|(h4.o.trans y fun x hx=>.inl<|by simp[hx]).setCell (p:=o) (.inl sx) _⟩
   omega
  obtain rfl:i=m:=ox
  have HC:=Qa<|HS.o hlt wr h5.o;go_wp2_with (go_fit HC.o;rintro e w2⟨rfl,h9,y⟩)
  go_end0
  exact⟨rfl,h9,h3.o.kept y HT.o.1,h4.o.trans y fun x hx=>.inl<|by simp[hx]⟩
 have g0:¬(i:Int)<s.size:=ox
 obtain rfl:i=m:=ox
 go_wp2
 go_end0
 exact⟨rfl,h5.o,h3.o,h4.o⟩
def Qck(b:Int)(w:WD):Calls prog 258 #[.int .u8 b] w fun e w'=>e=.returned (.bool<|b==32)/\w'=w:=by
 go_enter func258,ntmps258
 go_wp2
 go_ret;exact⟨rfl,rfl⟩
def Qcn(b:Int)(w:WD):Calls prog 260 #[.int .u8 b] w fun e w'=>e=.returned (.bool<|b==32||b==0)/\w'=w:=by
 go_enter func260,ntmps260
 by_cases c:b=32
 ·subst c
  go_wp2
  go_ret;exact⟨rfl,rfl⟩
 have d:(b==32)=false:=Ze.2 c;rw[d]
 go_wp2
 go_ret;exact⟨rfl,rfl⟩
def Qcm(b:Int)(c d:Nat)(w:WD)(h:b<48\/55<b):Calls prog 259 #[.int .u8 b,.pointer c,.pointer d] w fun e w'=>e=.returned (.bool false)/\w'=w:=by
 go_enter func259,ntmps259
 by_cases c:b<48
 ·go_wp2
  go_ret;exact⟨rfl,rfl⟩
 have:55<b:=ox
 go_wp2
 go_ret;exact⟨rfl,rfl⟩
def Qcl(b n c d:Nat)(w:WD)(g:48<=b)(g:b<=55)(g:n<2^40)(hb:Qe w c 4 [.bool false])(h:Qe w d 3 [n])(hne:c≠d):
 Calls prog 259 #[.int .u8 b,.pointer c,.pointer d] w fun e w'=>e=.returned (.bool true)/\Qe w' c 4 [.bool false]/\Qe w' d 3 [((8*n+(b-48):Nat):Int)]/\Qb [c,d] w w':=by
 obtain⟨g1,_⟩: ¬(b:Int)<48/\¬(55:Int)<b:=ox
 have c0:=hb.cq 0 (u:=.bool false);have c1:=h.cq 0 (u:=.int .i64 n);have:=hb.free 0;have:=h.free 0;have l:(8:Int)*n+((b:Int)-48)=((8*n+(b-48):Nat):Int):=ox
 have⟨g,j⟩:=qx<|8*n+(b-48);rw[j]at l ⊢;have:IntKind.u8.wrap ((b:Int)-48)=(b:Int)-48:=by rw[Cz];omega
 have:IntKind.i64.wrap ((b:Int)-48)=(b:Int)-48:=by rw[Zq];omega
 have g3:¬(9007199254740992:Int)<g:=ox
 have:IntKind.i64.wrap ((8:Int)*n)=8*n:=by rw[Zq];omega
 have:IntKind.i64.wrap (g:Int)=g:=by rw[Zq];omega
 have⟨l,m⟩:=qb hb h;go_enter func259,ntmps259
 go_wp2
 go_ret;have hh:=(m.o.set 0<|.int .i64 (g:Int)).kept (((Qc [c] _).setCell (p:=c) (.inl sx)<|.bool false)) (by simpa using fun e=>hne e.symm);have h:=(l.o.kept ((Qc [d] _).setCell (p:=d) (.inl sx)<|.int .i64 (g:Int))<|by simpa using hne).set 0<|.bool false;exact⟨rfl,h,hh,((Qc _ _).setCell (p:=d) (.inl sx) _).setCell (p:=c) (.inl sx) _⟩
def Qe0(s:BA)(x z:LU)(w:WD)(hs:s.data.toList=x++z)(h0:x≠[])(l:∀b∈x,48<=b.toNat/\b.toNat<=55)(P:x.length<=12)(hz:∀b∈z,b=32\/b=0)(S:z.length<=900):
 Calls prog 217 #[s] w (RK (.tuple #[.int .i64 (VH 0 x:Nat),(0:Int)]) w):=by
 have R:s.size=x.length+z.length:=by rw[<-Zr,hs,Qo]
 have q:∀k (c:k<s.size),(x++z)[k]?=some (s[k]'c):=fun k c=>by rw[<-hs];exact Qj (by rwa[Zr]:k<s.data.toList.length)
 have v:∀k (c:k<s.size),k<x.length->48<=(s[k]'c).toNat/\(s[k]'c).toNat<=55:=fun k c hk=>by have hb:=q k c;rw[Xc hk]at hb;exact l _<|QB hb
 have E:∀k (c:k<s.size),x.length<=k->(s[k]'c)=32\/(s[k]'c)=0:=fun k c hk=>by have hb:=q k c;rw[Zm hk]at hb;exact hz _<|QB hb
 have J:0<x.length:=In.2 h0;have D:∀k (c:k<s.size),k<x.length->VH 0 (x.take<|k+1)=8*VH 0 (x.take k)+((s[k]'c).toNat-48):=fun k c hk=>by have hb:=q k c;rw[Xc hk]at hb;rw[Zh,hb];unfold VH;rw[BS];rfl
 have F:∀k,k<=x.length->VH 0 (x.take k)<8^k:=fun k=>by
  induction k with
  |zero=>intro _;simp[VH]
  |succ k ih=>intro hk;have c:=ih ox;rw[D k ox ox,J9];have:=v k ox ox;omega
 have C:∀k,k<=x.length->VH 0 (x.take k)<2^40:=fun k hk=>Av (F k hk) (QS (Ju dx (ox:k<=12)) dx)
 have A:=Qa (by rw[VM]:VH 0 (x.take x)=VH 0 x);have I:=C x.length<|Qk _;have⟨bs,t⟩:=qx w.heap.size;have⟨d,o⟩:=qx<|(w.alloc<|.cells #[s] 9).alloc<|.cells #[(0:Int)] 3;have G:Qb [] w d:=by rw[<-o];exact((Qc _ _).alloc _).alloc _
 have m:Qe d bs 9 [s]:=by rw[<-o,<-t];exact(Qx w [s] _).kept ((Qc [] _).alloc _) sx
 have n:Qe d (bs+1) 3 [(0:Nat)]:=by have:=Qx (w.alloc<|.cells #[s] 9) [(0:Int)] 3;rw[o]at this;simpa[t]using this
 have H:d=bs+2:=by rw[<-o,<-t];simp
 have L:=Qa (Pw (bs+1) bs 258 0 0 #[] s [] (fun _ _=>True) ⟨sx,sx,ox⟩ (fun _ _=>kx) (fun _ _ _ _ _=>trivial) (Qk _) (Zv _) (fun k c p B=>ox)
  (fun c g _=>by go_fit(Qck _ g);rintro e w'⟨rfl,rfl⟩;have:=v 0 c J;exact⟨by rw[show(((s[0]'c).toNat:Int)==32)=false from Ze.2 ox],trivial,Qc _ _⟩) d n m trivial ox)
 have M:=Qa (fun(h j:Nat)(d:WD)(hne:h≠j)(y:bs+1<h/\bs+1<j)(n:Qe d (bs+1) 3 [(0:Nat)])(m:Qe d bs 9 [s])(hb:Qe d h 4 [.bool false])(Q:Qe d j 3 [(0:Nat)])=>
  Pw (bs+1) bs 259 0 x #[.pointer h,.pointer j] s [h,j] (fun k g=>Qe g h 4 [.bool false]/\Qe g j 3 [.int .i64 (VH 0 (x.take k):Nat)]) ⟨zx,zx,ox⟩ (fun _ _=>kx)
  (fun k g y c hk=>⟨c.1.kept hk zx,c.2.kept hk zx⟩) (Zv _) ox
  (fun k c _ hk g y=>by have:=v k c hk;go_fit(Qcl (s[k]'c).toNat (VH 0<|x.take k) h j g this.1 this.2 (C k ox) y.1 y.2 hne);rintro e w'⟨rfl,p,B,O⟩;exact⟨rfl,⟨p,by rw[D k c hk];exact B⟩,O⟩)
  (fun c g y=>by go_fit(Qcm _ h j g<|by rcases E x c (Qk _)with e|e<;>rw[e]<;>decide);rintro e w'⟨rfl,rfl⟩;exact⟨rfl,y,Qc _ _⟩) d n m ⟨hb,Q⟩ ox)
 have O:=Qa (fun(h:WD)(n:Qe h (bs+1) 3 [.int .i64 (x:Nat)])(m:Qe h bs 9 [s])=>
  Pw (bs+1) bs 260 x.length s.size #[] s [] (fun _ _=>True) ⟨sx,sx,ox⟩ (fun _ _=>kx) (fun _ _ _ _ _=>trivial) ox (Qk _)
  (fun k c p B g _=>by go_fit(Qcn _ g);rintro e w'⟨rfl,rfl⟩;exact⟨by rcases E k c p with e|e<;>rw[e]<;>rfl,trivial,Qc _ _⟩)
  (fun c g _=>ox) h n m trivial ox)
 have⟨y,c⟩:=qx<|VH 0 x;rw[A.o]at I;rw[c]at A I ⊢;have⟨g,h,B,j,p⟩:=qe m G o H t;have g1:¬(s.size:Int)<s.size:=ox
 clear q v E D F C m n G o H hs h0 l P hz S R J c;go_enter func217,ntmps217;go_wp2_with fail;rw[B.o];go_fit L.o;rintro e d⟨rfl,-,hI3,hk3⟩;have m:bs+2<=d:=by have:=hk3.size;have:=j.o;omega
 have q:=Qa m;have c:=g.o.kept hk3 sx;have⟨t,g,o⟩:=qc (h.o.trans hk3 fun x l=>.inr (by simp at l;have:=p.o;omega)) hI3 c;clear hk3 hI3 c m;go_wp2_with fail;have j:Qb [] d ((d.alloc<|Obj.cells #[Value.int IntKind.i64 0] 3).alloc<|Obj.cells #[Value.bool false] 4):=((Qc _ _).alloc _).alloc _;have m:=q.o;go_fit(M.o (d.heap.size+1) d _ ox ⟨ox,ox⟩ (g.o.kept j sx) (o.o.kept j sx) (by simpa using Qx (d.alloc<|Obj.cells #[Value.int IntKind.i64 0] 3) [.bool false] 4)<|(Qx d [(0:Int)] 3).kept ((Qc [] _).alloc _) sx);rintro e B⟨rfl,⟨h,d⟩,g,n⟩;rw[A.o]at d;have c:=(o.o.kept j sx).kept n zx;have⟨v,o⟩:=qb ((t.o.trans j sx).trans n fun x l=>.inr (by simp at l;have:=p.o;omega))<|Qr h<|Qr d<|Qr g c;clear j n h d g c m;go_wp2_with fail;obtain⟨h,d,g,c⟩:=o.o;go_fit(O.o B g c);rintro e j⟨rfl,-,hI6,hk6⟩;have m:=q.o;have:=(h.kept hk6 zx).cq 0 (u:=.bool false);have:=(d.kept hk6 zx).cq 0 (u:=.int .i64 y);have:=hI6.cq 0 (u:=.int .i64 s.size);have:=(c.kept hk6 sx).cq 0 (u:=.string s);have j:=Qa<|v.o.trans hk6 fun x l=>.inr (by simp at l;have:=p.o;omega);clear h d g c hI6 hk6
 go_wp2
 go_ret2;exact⟨rfl,j.o⟩
def eV(m):∀{x:LU},(0:UInt8)∉x->Lib.indexByte (x++Q3 m) 0=if m=0 then -1 else(x.length:Int)
 | [],_=>by
   cases m with
   |zero=>rfl
   |succ m=>simp[Q3,JB,Lib.indexByte]
 |b::x,h=>by
  simp only[QD,Uj]at h;rw[XY,Lib.indexByte,Qf<|by simpa using fun c=>h.1 c.symm,eV m h.2]
  split
  ·simp
  rw[Qf sx];simp
def NW(x m w)(h:(0:UInt8)∉x)(c:x.length+m<=1000):Calls prog 176 #[str<|x++Q3 m] w fun e w'=>e=.returned (str x)/\w'=w:=by
 have c:=Qa<|Tryz.strByte (str<|x++Q3 m) 0 w;rw[show((0:Int).toNat.toUInt8)=(0:UInt8)from rfl,show(str<|x++Q3 m).data.toList=x++Q3 m from rfl,eV m h]at c
 by_cases d:m=0
 ·subst d;rw[Qg rfl]at c;go_enter func176,ntmps176;go_wp2_with (go_fit c.o;rintro e i⟨rfl,rfl⟩);go_ret;exact⟨by simp[Q3],rfl⟩
 rw[Qf d]at c;have s1:=BH (str<|x++Q3 m) x (x:Int) (by show _<=(x++Q3 m).length;simp) rfl;have g:(str<|x++Q3 m).extract 0 x=str x:=by rw[JS _ 0 _ (by show _<=(x++Q3 m).length;simp),VJ,Aw,show(str<|x++Q3 m).data.toList=x++Q3 m from rfl,DA]
 rw[g]at s1;go_enter func176,ntmps176;go_wp2_with (go_fit c.o;rintro e i⟨rfl,rfl⟩);go_ret;exact⟨rfl,rfl⟩
def Qgw(c n x d bad w)(h:Qe w c 271 [str<|x++d,.bool bad])(g:x.length=n)(j:n<=1000):
 Calls prog 175 #[.pointer c,n] w fun e w'=>e=.returned (str x)/\Qe w' c 271 [str d,.bool bad]/\Qb [c] w w':=by
 have c0:=h.cq 0 (u:=.string<|str<|x++d);have:=h.free 0;have j:n<=(str<|x++d).size:=by show _<=(x++d).length;simp;omega
 have s1:=BH (str<|x++d) n (n:Int) j rfl;have m:=Ee (str<|x++d) n (n:Int) j rfl;have l:(str<|x++d).extract 0 n=str x:=by rw[JS _ 0 _ j,VJ,Aw,show(str<|x++d).data.toList=x++d from rfl,<-g,DA]
 have j:(str<|x++d).extract n (str<|x++d).size=str d:=by rw[JS _ n _<|Qk _,show(str<|x++d).data.toList=x++d from rfl,<-g,FQ,Q5 (by show _<=(x++d).length-_;simp)]
 rw[l]at s1;rw[j]at m;have d:=Qa h;go_enter func175,ntmps175
 go_wp2
 go_ret;exact⟨rfl,d.o.set 0 _,(Qc _ _).setCell (p:=c) (.inl sx) _⟩
section
structure Cu(w0:WD)(L:LY)(r c h:Nat)(i:Nat)(xs:LV)(w:WD):Prop where
 cc:Qe w c 271 [str (L.drop i).flatten,.bool false]
 hh:Qe w h 165 xs
 rr:Qe w r 165 [.string ⟨#[]⟩,(0:Int),.int .u8 0,(0:Int),(0:Int),.string ⟨#[]⟩,.string ⟨#[]⟩,.string ⟨#[]⟩,(0:Int),(0:Int)]
 kk:Qb [] w0 w
 ne:c≠h/\c≠r/\h≠r/\w0.heap.size<=c/\w0.heap.size<=h/\w0.heap.size<=r
section
variable {w0 w:WD} {L:LY} {r c h i:Nat} {xs:LV}
def Cu.set(d:Cu w0 L r c h i xs w)(j u):Cu w0 L r c h i (xs.set j u) (w.setCell ⟨h,j,none⟩ u):=by have k:=(Qc [h] w).setCell (p:=⟨h,j,none⟩) (.inl sx) u;obtain⟨e,n2,g,l,l,l⟩:=d.ne;exact⟨d.cc.kept k<|by simpa using e,d.hh.set j u,d.rr.kept k<|by simpa using g.symm,d.kk.trans k fun e e=>.inr (by simp at e;omega),d.ne⟩
def Cu.kZ{w'}(d:Cu w0 L r c h i xs w)(k:Qb [] w w'):Cu w0 L r c h i xs w':=⟨d.cc.kept k sx,d.hh.kept k sx,d.rr.kept k sx,d.kk.trans k sx,d.ne⟩
def Cu.raw(d:Cu w0 L r c h i xs w)(x)(j:L[i]?=some x)(n)(p:x.length=n)(o:n<=1000):
 Calls prog 175 #[.pointer c,n] w fun e w'=>e=.returned (.string<|str x)/\Cu w0 L r c h (i+1) xs w':=by
 obtain⟨q,n2,g,g,g,g⟩:=d.ne;have m:L.drop i=x::L.drop (i+1):=by have g:=(Qy.1 j);rw[Xf g.1,g.2]
 have l:=d.cc;rw[m,Ev]at l;go_fit(Qgw c n x _ false w l p o);rintro e w'⟨rfl,g,k⟩;exact⟨rfl,g,d.hh.kept k<|by simpa using q.symm,d.rr.kept k<|by simpa using n2.symm,d.kk.trans k fun x j=>.inr (by simp at j;omega),d.ne⟩
def Cu.num(d:Cu w0 L r c h i xs w)(x z)(g:L[i]?=some (x++z))(n:Nat)(l:(x++z).length=n)(m:n<=1000)(h0:x≠[])(j:∀b∈x,48<=b.toNat/\b.toNat<=55)(s:x.length<=12)(hz:∀b∈z,b=32\/b=0)(t:z.length<=900):
 Calls prog 174 #[.pointer c,n] w fun e w'=>e=.returned (.int .i64 (VH 0 x:Nat))/\Cu w0 L r c h (i+1) xs w':=by
 have⟨o,m⟩:=qb (d.raw _ g n l m) fun q=>Qe0 (str<|x++z) x z q rfl h0 j s hz t;clear d g l h0 j hz;go_enter func174,ntmps174;go_wp2_with fail;go_fit o.o;rintro e j⟨rfl,j⟩;have l:=Qa j;clear j;go_wp2_with fail;go_fit(m.o _);rintro e o⟨rfl,k2⟩;have j:=l.o.cc.kept k2 sx;have c1:=j.cq 1 (u:=.bool false);have:=j.free 1;have m:=Qa k2;clear k2 j
 go_wp2
 go_ret;have d:=l.o;have k2:=m.o;obtain⟨j,n2,l,l,l,l⟩:=d.ne;have k:=(Qc [c] o).setCell (p:=⟨c,1,none⟩) (.inl sx)<|.bool false;refine⟨rfl,(d.cc.kept k2 sx).set 1<|.bool false,(d.hh.kept k2 sx).kept k<|by simpa using j.symm,(d.rr.kept k2 sx).kept k<|by simpa using n2.symm,(d.kk.trans k2 sx).trans k fun x g=>.inr (by simp at g;omega),d.ne⟩
def Qe5:∀k n,∀b∈VD k n,48<=b.toNat/\b.toNat<=55:=fun k n b hb=>by have:=Yb.1 (jB k n) b hb;simpa[OE]using this
def Cu.oct(o:Cu w0 L r c h i xs w)(k v z)(l:L[i]?=some (VD k v++z))(n)(g:k+z.length=n)(d:1<=k)(d:k<=12)(j:v<8^k)(hz:∀b∈z,b=32\/b=0)(m:z.length<=900):
 Calls prog 174 #[.pointer c,n] w fun e w'=>e=.returned (v:Nat)/\Cu w0 L r c h (i+1) xs w':=by
 have:=o.num (VD k v) z l n (by rwa[Qo,GX]) ox (fun e=>by have:=GX k v;rw[e]at this;simp at this;omega) (Qe5 k v) (by rwa[GX]) hz m;rwa[oN,IA,Zu,XH j]at this
end
def KU(pre name:LU)(kind:UInt8)(size sum:Nat):LY:=
 [Zt name 100,Zg 420 8,Zg 0 8,Zg 0 8,Zg size 12,Zg 0 12,VD 6 sum++[0,32],[kind],Zt [] 100,DU,Zt [] 32,Zt [] 32,Zg 0 8++Zg 0 8,Zt pre 155,Zt [] 12]
def Qbq(pre name kind size):(KU pre name kind size<|Dp pre name kind size).flatten=X8 pre name kind size:=by simp[KU,X8,CV,FD,Zg]
def Uk(pre name:LU):LU:=if pre=[]then name else pre++47::name
def Qkr(pre name kind size w)(z:(0:UInt8)∉name)(hp:(0:UInt8)∉pre)(l:name.length<=100)(s:pre.length<=155)(hk:kind≠0)(hs:size<1000000000)(c:1<=name.length):
 Calls prog 129 #[str<|X8 pre name kind size] w (RK (.tuple #[Ae (str<|Uk pre name) kind size,(0:Int)]) w):=by
 have⟨d,q⟩:=qx<|X8 pre name kind size;have⟨sum,A⟩:=qx<|Dp pre name kind size;have n:=Qbq pre name kind size;have m:=Ad kind size l s;have o:=Qjq kind size l s;rw[q,A]at n o;rw[q]at m ⊢;have:sum<8^6:=by have:=Mb d 512;rw[o]at this;exact Iw this dx
 have:size<8^(12-1):=Nat.lt_trans hs dx;have x:=Qa fun g=>dP (str d) g m;rw[show(str d).data.toList=d from rfl,o]at x;have:(str d).size=512:=m;have⟨j,y⟩:=qx<|KU pre name kind size sum;rw[y]at n;have⟨B,C,t⟩:=qc (fun g=>NW name (100-name.length) g z ox) (fun g=>NW pre (155-pre.length) g hp ox) (fun c g (h:c<=1000)=>NW [] c g sx<|by simpa using h);have c:Cu w j w (w.heap.size+1) (w.heap.size+1+1) 0 ["",(0:Int),.int .u8 0,(0:Int),(0:Int),"","","",(0:Int),(0:Int)]
  (((w.alloc<|.cells #["",(0:Int),.int .u8 0,(0:Int),(0:Int),"","","",(0:Int),(0:Int)] 165).alloc<|.cells #[.string<|str d,.bool false] 271).alloc
    (.cells #["",(0:Int),.int .u8 0,(0:Int),(0:Int),"","","",(0:Int),(0:Int)] 165)):=by
  refine⟨?_,by simpa using Qx ((w.alloc _).alloc _) ["",(0:Int),.int .u8 0,(0:Int),(0:Int),"","","",(0:Int),(0:Int)] 165,
   (Qx w ["",(0:Int),.int .u8 0,(0:Int),(0:Int),"","","",(0:Int),(0:Int)] 165).kept (((Qc [] _).alloc _).alloc _) sx,(((Qc [] w).alloc _).alloc _).alloc _,ox⟩
  have:=(Qx (w.alloc<|.cells #["",(0:Int),.int .u8 0,(0:Int),(0:Int),"","","",(0:Int),(0:Int)] 165) [.string<|str d,.bool false] 271).kept ((Qc [] _).alloc<|.cells #["",(0:Int),.int .u8 0,(0:Int),(0:Int),"","","",(0:Int),(0:Int)] 165) sx;rw[VJ,n];simpa using this
 have D:=Ct name 100 l;have t2:=Ct pre 155 s;subst y;have⟨r,y⟩:=qx w.heap.size;have⟨l,d⟩:=qx<|r+1;have⟨hb,s⟩:=qx<|l+1;have j:=Qa c;have:∀g:World,(Instr.indexAt 163 (.pointer<|some ⟨hb,8,none⟩) (0:Int)).run prog g=.ok (.pointer<|some ⟨hb,8,none⟩) g:=fun g=>by simp[Instr.indexAt,go_sem]
 have:∀g:World,(Instr.indexAt 163 (.pointer<|some ⟨hb,8,none⟩) (1:Int)).run prog g=.ok (.pointer<|some ⟨hb,9,none⟩) g:=fun g=>by simp[Instr.indexAt,go_sem]
 have:∀g:World,(Instr.indexAt 162 (.pointer<|some ⟨hb,6,none⟩) (0:Int)).run prog g=.ok (.pointer<|some ⟨hb,6,none⟩) g:=fun g=>by simp[Instr.indexAt,go_sem]
 have:∀g:World,(Instr.indexAt 162 (.pointer<|some ⟨hb,6,none⟩) (1:Int)).run prog g=.ok (.pointer<|some ⟨hb,7,none⟩) g:=fun g=>by simp[Instr.indexAt,go_sem]
 clear c n o q A z hp m;go_enter func129,ntmps129;go_wp2_with fail;have c:=j.o;clear j;rw[y,d,s]at c;go_fit(c.raw _ rfl _ D dx);rintro e d⟨rfl,d⟩;clear c;go_wp2_with fail;go_fit(B.o _);rintro e m⟨rfl,rfl⟩;have c:=d;clear d;go_wp2_with (go_fit(c.oct _ _ _ rfl _ rfl dx dx (by first|assumption|decide) sx sx);rintro e g⟨rfl,d⟩;clear c;have c:=d;clear d;have o:=c.hh.free 3;have q:=c.hh.free 8;have s:=c.hh.free 9;have c3:=c.hh.cq 3;have m:=c.hh.cq 8;have n:=c.hh.cq 9);have d:=(((c.set 3 (420:Int)).set 8 (0:Int)).set 9 (0:Int));clear c;have c:=d;clear d;clear o q s c3 m n;go_wp2_with (first|(go_fit(c.oct _ _ _ rfl _ rfl dx dx (by first|assumption|decide) sx sx);rintro e g⟨rfl,d⟩;clear c;have c:=d;clear d;have n:=c.hh.free 1;have c1:=c.hh.cq 1;have o:=c.hh.free 4;have m:=c.hh.cq 4));have d:=((c.set 1 size).set 4 (0:Int));clear c;have c:=d;clear d;clear n o c1 m;have i0:∀g,(Instr.index 9 (.string<|str [kind]) (0:Int)).run prog g=.ok (.int .u8 kind.toNat) g:=UV (str [kind]) 0 0 (by show 0<[kind].length;simp) rfl;go_wp2_with (first|(go_fit(c.oct _ _ _ rfl _ rfl dx dx (by first|assumption|decide) sx sx);rintro e g⟨rfl,d⟩;clear c;have c:=d;clear d)|(go_fit(c.raw _ rfl _ (by first|assumption|rfl) dx);rintro e g⟨rfl,d⟩;clear c;have c:=d;clear d;have o:=c.hh.free 2;have c2:=c.hh.cq 2));have d:=(c.set 2<|.int .u8 kind.toNat);clear c;have c:=d;clear d;clear o c2;go_wp2_with (first|(go_fit(c.raw _ rfl _ (by first|assumption|rfl) dx);rintro e g⟨rfl,d⟩;clear c;have c:=d;clear d;have q:=c.hh.free 5;have n:=c.hh.cq 5)|(go_fit(t.o _ _ dx);rintro e m⟨rfl,rfl⟩));have d:=(c.set 5<|.string<|str []);clear c;have c:=d;clear d;clear q n;go_wp2_with (first|(go_fit(c.raw _ rfl _ (by first|assumption|rfl) dx);rintro e g⟨rfl,d⟩;clear c;have c:=d;clear d;have f6:=c.hh.free 6;have n:=c.hh.cq 6;have s:=c.hh.free 7;have q:=c.hh.cq 7)|(go_fit(t.o _ _ dx);rintro e m⟨rfl,rfl⟩));have d:=((c.set 6<|.string<|str []).set 7<|.string<|str []);clear c;have c:=d;clear d;clear f6 s n q;go_wp2_with (first|(go_fit(c.raw _ rfl _ (by first|assumption|rfl) dx);rintro e g⟨rfl,d⟩;clear c;have c:=d;clear d));go_fit(C.o _);rintro e m⟨rfl,rfl⟩;have n:=c.hh.free 0;have c0:=c.hh.cq 0
 go_upto_if 75 with fail
 have d:=c.set 0<|.string<|str name;clear c;have c:=d;clear d n c0;have:str pre++⟨#[47]⟩++str name=str (pre++47::name):=by
  rw[<-Rp (_++_)]
  congr 1
  simp;rfl
 have j:=Qa c;clear c;have⟨g,d⟩:=qx<|(!(str pre).toList.isEmpty);rw[d];have m:=Qa d;clear d
 go_cut []from 75 to 80 (fun d=>Hid<|Cu w (KU pre name kind size sum) r l hb 14 [str<|Uk pre name,size,.int .u8 kind.toNat,(420:Int),(0:Int),str [],str [],str [],(0:Int),(0:Int)] d)
 ·cases g with
  |false=>
   have d:=Qa (show Uk pre name=name by
    unfold Uk;rw[Qg];have h:=m.o;rw[Xk]at h;exact List.isEmpty_iff.1 (show pre.isEmpty=true by cases hh:pre.isEmpty with
     |true=>rfl
     |false=>rw[show(str pre).data.toList=pre from rfl,hh]at h;cases h))
   go_wp2
   go_meet
   case rel=>exact Qa (by rw[d.o];exact j.o)
  |true=>
   have d:=Qa (show Uk pre name=pre++47::name by unfold Uk;rw[Qf];intro h;have g:=m.o;rw[Xk,h]at g;cases g);have n:=j.o.hh.free 0;have c0:=j.o.hh.cq 0;have:∀g:List UInt8,(str g).size=g:=fun _=>rfl
   obtain⟨l,z2⟩: ¬9223372036854775807<pre.length+1/\¬9223372036854775807<pre.length+1+name.length:=ox
   go_wp2
   go_meet
   case rel=>exact Qa (by rw[d.o];exact j.o.set 0 _)
 have c:=hcut.o;have c2:=c.hh.cq 2;have o:=c.hh.free 2;have d:0<(Uk pre name).length:=by
  unfold Uk
  split
  ·omega
  rw[Qo,QW];omega
 have:(str<|Uk pre name).toList.isEmpty=false:=Do _ d;have:((kind.toNat:Int)==0)=false:=Ze.2 fun h=>hk<|DK.1 (by show kind.toNat=0;omega);clear hk;go_wp2_with (go_fit(x.o _);rintro e L⟨rfl,g⟩;have d:=c.kZ g;have:=d.cc.cq 1;have c0:=d.hh.cq 0;have:=d.hh.cq 1;have:=d.hh.cq 2;have:=d.hh.cq 3;have:=d.hh.cq 4;have:=d.hh.cq 5;have:=d.hh.cq 6;have:=d.hh.cq 7;have:=d.hh.cq 8;have:=d.hh.cq 9;have:=d.rr.free 0;have z0:=d.rr.cq 0;have:=d.rr.free 1;have l:=d.rr.cq 1;have:=d.rr.free 2;have z2:=d.rr.cq 2;have:=d.rr.free 3;have z3:=d.rr.cq 3;have:=d.rr.free 4;have z4:=d.rr.cq 4;have:=d.rr.free 5;have z5:=d.rr.cq 5;have:=d.rr.free 6;have:=d.rr.cq 6;have:=d.rr.free 7;have:=d.rr.cq 7;have r8:=d.rr.free 8;have:=d.rr.cq 8;have:=d.rr.free 9;have z9:=d.rr.cq 9;have:str DU=⟨#[117,115,116,97,114,0,48,48]⟩:=rfl);have c:=d.rr;have c:=c.set 0<|.string<|str<|Uk pre name;have c:=c.set 1 size;have c:=c.set 2<|.int .u8 kind.toNat;have c:=c.set 3 (420:Int);have c:=c.set 4 (0:Int);have c:=c.set 5<|.string<|str [];have c:=c.set 6<|.string<|str [];have c:=c.set 7<|.string<|str [];have c:=c.set 8 (0:Int);have c:=c.set 9 (0:Int);have g:=c.cq 0 (u:=.string<|str<|Uk pre name);have h:=c.cq 1 (u:=.int .i64 size);have j:=c.cq 2 (u:=.int .u8 kind.toNat);have l:=c.cq 3 (u:=.int .i64 420);have m:=c.cq 4 (u:=.int .i64 0);have n:=c.cq 5 (u:=.string<|str []);have o:=c.cq 6 (u:=.string<|str []);have q:=c.cq 7 (u:=.string<|str []);have s:=c.cq 8 (u:=.int .i64 0);have t:=c.cq 9 (u:=.int .i64 0);refine Zj (v:=.tuple #[Ae (str<|Uk pre name) kind size,(0:Int)]) (by simp[results,results129,go_sem,g,h,j,l,m,n,o,q,s,t,Ae];rfl) rfl ⟨rfl,?_⟩;have c:=d.ne.2.2.2.2.2;exact((((((((((d.kk.setCell (p:=⟨r,0,none⟩) (.inr c) _).setCell (p:=⟨r,1,none⟩) (.inr c) _).setCell (p:=⟨r,2,none⟩) (.inr c) _).setCell (p:=⟨r,3,none⟩) (.inr c) _).setCell (p:=⟨r,4,none⟩) (.inr c) _).setCell (p:=⟨r,5,none⟩) (.inr c) _).setCell (p:=⟨r,6,none⟩) (.inr c) _).setCell (p:=⟨r,7,none⟩) (.inr c) _).setCell (p:=⟨r,8,none⟩) (.inr c) _).setCell (p:=⟨r,9,none⟩) (.inr c) _)
end
