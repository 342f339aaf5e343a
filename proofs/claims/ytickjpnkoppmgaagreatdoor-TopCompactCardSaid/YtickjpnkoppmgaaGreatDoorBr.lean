import Derived.Test.YtickjpnkoppmgaaGreatDoorBq
set_option linter.all false
namespace Go.Proofs.YtickjpnkoppmgaaGreatDoor
open Go.Proofs.Tryz Go.RowKit K
structure Ys(s:Vst)(c:LU→LU)(r:List RM)(t:Int):Prop where
 ok:Vok s c
 sub:∀m∈r,m∈s.mem
 srt:r.Pairwise fun a b=>a.start+a.eZ≤b.start
 low:∀m∈r,t≤m.start
 t30:30≤t
 done:∀m∈s.mem,m∉r→m.start+m.eZ≤t
 tile:∀k,30≤k→k<t→∃m∈s.mem,m∉r∧m.start≤k∧k<m.start+m.eZ
 sum:(Zd s.mem:Int)=t-30+Zd r
def Ys.step{s c m r t}(a:Ys s c (m::r) t)(e:m.start=t):Ys s c r (t+m.eZ):=by
 have hs:=Vm.1 a.srt;have g:=a.sub m<|YH ..;have hi:=a.ok.inX g;have b:=a.sum;unfold Zd at b;rw[QR,Z9]at b;have l:m∉r:=fun b=>by have:=hs.1 m b;omega
 refine⟨a.ok,fun b d=>a.sub b<|XW _ d,hs.2,fun b d=>by have:=hs.1 b d;omega,by have:=a.t30;omega,fun b d i=>?_,fun h j f=>?_,by unfold Zd;omega⟩
 ·by_cases f:b=m
  ·subst f;omega
  have:=a.done b d (by simp[f,i]);omega
 by_cases k:h<t
 ·obtain⟨b,d,f,i⟩:=a.tile h j k;exact⟨b,d,fun hb=>f<|XW _ hb,i⟩
 exact⟨m,g,l,by omega,by omega⟩
def Ys.step2{s c m r t}(ok:Vok s c)(g:m∈s.mem)(sub:∀x∈r,x∈s.mem)(srt:r.Pairwise fun a b=>a.start+a.eZ≤b.start)(low:∀x∈r,t+m.eZ≤x.start)(t30:30≤t)(hap:t+m.eZ≤m.start∨m.start+m.eZ≤t)(j:∀x∈r,x.path≠m.path)(done:∀x∈s.mem,x∉r→x≠m→x.start+x.eZ≤t)(tile:∀k,30≤k→k<t→∃x∈s.mem,x∉r∧x≠m∧x.start≤k∧k<x.start+x.eZ)(sum:(Zd s.mem:Int)=t-30+(m.eZ.toNat+Zd r:Nat))(o:t+m.eZ≤s.dev.cap)(n:s.dev.lZ+10000≤1000000000):
 ∃s',s.move m.path t=(0,s')∧JM s s' c (2*m.eZ.toNat+10)∧Ys s' c r (t+m.eZ)∧s'.mem.map (fun x=>(x.path,x.eZ))=s.mem.map (fun x=>(x.path,x.eZ)):=by
 have hi:=ok.inX g;have p:Uq s.exts t m.eZ:=by
  intro x d;obtain⟨e,i,rfl⟩:=QB.1 d;show t+m.eZ≤e.start∨e.start+e.eZ≤t
  by_cases f:e=m
  ·subst f;exact hap
  by_cases h:e∈r
  ·exact .inl<|low e h
  exact .inr<|done e i h f
 obtain⟨s',l,h,-,e,i⟩:=ok.move_to g (Vst.okX_add ok.ext t30 hi.2.1 o p) n;refine⟨s',l,h,⟨h.ok,fun x d=>(e x).2 (.inr ⟨sub x d,j x d⟩),srt,low,by omega,fun x d h=>?_,fun k l n=>?_,?_⟩,i⟩
 ·rcases(e x).1 d with rfl|⟨d,hp⟩
  ·exact Av _
  have:=done x d h (fun f=>hp<|by rw[f]);omega
 ·by_cases o:k<t
  ·obtain⟨x,a,b,d,h⟩:=tile k l o;exact⟨x,(e x).2 (.inr ⟨a,fun f=>d<|ok.only a g f⟩),b,h⟩
  exact⟨{m with start:=t},(e _).2 (.inl rfl),fun hb=>j _ hb rfl,by show t≤k;omega,n⟩
 rw[(IN (c:=c) i).2,sum];omega
def By(r:List RM):Nat:=(r.map fun a=>4*a.eZ.toNat+20).sum
def Ys.pull:∀(r:List RM)(t:Int)(s:Vst)(c:LU→LU),Ys s c r t→s.dev.lZ+By r+20000≤1000000000→
 ((Vst.pull r t s).1=0∨(Vst.pull r t s).1=220)∧JM s (Vst.pull r t s).2 c (By r+2)∧(Vst.pull r t s).2.mem.map (fun x=>(x.path,x.eZ))=s.mem.map (fun x=>(x.path,x.eZ))∧
 ((Vst.pull r t s).1=0→∃T,Ys (Vst.pull r t s).2 c [] T∧((Vst.pull r t s).2.dev.img.length:Int)≤T)
 | [],t,s,c,d,hc=>by
   obtain⟨j,a,-,h,f⟩:=d.ok.trim (by omega);refine⟨.inl j,⟨a.ok,a.cap,a.c0,by have:=a.c1;simp only[Vst.pull];omega⟩,by simp only[Vst.pull];rw[h],fun _=>⟨t,⟨a.ok,by simp,by simp,by simp,d.t30,?_,?_,?_⟩,?_⟩⟩
   ·intro b l u;exact d.done b (by simp only[Vst.pull]at l;rwa[h]at l) u
   ·intro v k o;simp only[Vst.pull];rw[h];exact d.tile v k o
   ·simp only[Vst.pull];rw[h];exact d.sum
   refine Int.le_trans f<|Vst.endX_le _ _ d.t30 fun x e=>?_;obtain⟨b,l,rfl⟩:=QB.1 e;exact d.done b l (by simp)
 |b::r,t,s,c,d,hc=>by
  have hs:=Vm.1 d.srt;have l:=d.sub b<|YH ..;have hi:=d.ok.inX l;have:=d.low b<|YH ..;have y:∀x∈r,b.start+b.eZ≤x.start:=hs.1;have i:b∉r:=fun m=>by have:=y b m;omega
  have z:∀x∈r,x.path≠b.path:=fun x e f=>i<|d.ok.only (d.sub x<|XW _ e) l f▸e
  have D:(Zd s.mem:Int)=t-30+(b.eZ.toNat+Zd r:Nat):=by have:=d.sum;unfold Zd at this ⊢;rwa[QR,Z9]at this
  have i:By (b::r)=4*b.eZ.toNat+20+By r:=by unfold By;rw[QR,Z9]
  rw[i]at hc;rw[i];have:b.eZ≤4096:=by have:=d.ok.dev.c2;omega
  rw[Vst.pull]
  by_cases q:b.start=t
  ·have:=Ys.pull r (t+b.eZ) s c (d.step q) (by omega);simp only[q,ne_eq,not_true,and_false,Ew];obtain⟨j,a,h,f⟩:=this;exact⟨j,⟨a.ok,a.cap,a.c0,by have:=a.c1;omega⟩,h,f⟩
  have B:∀i,Vok i c→i.dev.cap=s.dev.cap→i.dev.lZ≤s.dev.lZ+(2*b.eZ.toNat+10)→s.dev.lZ≤i.dev.lZ→i.mem.map (fun x=>(x.path,x.eZ))=s.mem.map (fun x=>(x.path,x.eZ))→(∃n,i.move b.path t=(0,n)∧JM i n c (2*b.eZ.toNat+10)∧Ys n c r (t+b.eZ)∧n.mem.map (fun x=>(x.path,x.eZ))=i.mem.map (fun x=>(x.path,x.eZ)))→
   ∀a:Int × Vst,a=i.move b.path t→((if a.1≠0 then a else Vst.pull r (t+b.eZ) a.2).1=0∨(if a.1≠0 then a else Vst.pull r (t+b.eZ) a.2).1=220)∧JM s (if a.1≠0 then a else Vst.pull r (t+b.eZ) a.2).2 c (4*b.eZ.toNat+20+By r+2)∧
    (if a.1≠0 then a else Vst.pull r (t+b.eZ) a.2).2.mem.map (fun x=>(x.path,x.eZ))=s.mem.map (fun x=>(x.path,x.eZ))∧
    ((if a.1≠0 then a else Vst.pull r (t+b.eZ) a.2).1=0→∃T,Ys (if a.1≠0 then a else Vst.pull r (t+b.eZ) a.2).2 c [] T∧((if a.1≠0 then a else Vst.pull r (t+b.eZ) a.2).2.dev.img.length:Int)≤T):=by
   rintro i-k2 k3 k4 k5 ⟨n,w,m,e3,p⟩ a rfl;rw[w,Qf<|by simp];have A:=m.c1;obtain⟨j,a,h,f⟩:=Ys.pull r (t+b.eZ) n c e3 (by omega);have:=a.c1;have:=a.c0;have:=m.c0;exact⟨j,⟨a.ok,by rw[a.cap,m.cap,k2],by show _≤(Vst.pull r (t+b.eZ) n).2.dev.lZ;omega,by show(Vst.pull r (t+b.eZ) n).2.dev.lZ≤_;omega⟩,by rw[h,p,k5],f⟩
  by_cases C:b.start-t<b.eZ
  ·simp only[Qg<|Qr C q,Qg q];cases hg:Y5 s.dev.cap s.exts b.eZ with
   |none=>exact⟨.inr rfl,⟨d.ok,rfl,Ql _,LJ _ _⟩,rfl,fun d=>by cases d⟩
   |some g=>
    obtain⟨-,g1,E,g3,-⟩:=IP hi.2.1 (by have:=d.ok.pZ;omega) hg;obtain⟨i,w,m,-,p,n⟩:=d.ok.move_to l (Vst.okX_add d.ok.ext g1 hi.2.1 E g3) (by omega);simp only[w];rw[Qf<|by simp];have gt:b.start+b.eZ≤g:=by
     have k:=g3 (Xe b)<|Ue l;simp only[Xe]at k;rcases k with k|k
     ·by_cases o:g<t
      ·obtain⟨x,e,-,j,a⟩:=d.tile g g1 o;have:=g3 (Xe x)<|Ue e;simp only[Xe]at this;omega
      omega
     exact k
    have A:=m.c1;refine B i m.ok m.cap A m.c0 n ?_ _ rfl;have:=Ys.step2 (m:={b with start:=g}) (r:=r) (t:=t) m.ok ((p _).2 (.inl rfl)) (fun x e=>(p x).2 (.inr ⟨d.sub x<|XW _ e,z x e⟩)) hs.2 (fun x e=>by have:=y x e;show t+b.eZ≤_;omega) d.t30 (.inl (by show t+b.eZ≤g;omega)) z
     (fun x e u hne=>by
      rcases(p x).1 e with f|⟨e,hp⟩
      ·exact absurd f hne
      exact d.done x e (by simp only[QE,JU];exact⟨fun f=>hp<|by rw[f],u⟩))
     (fun v k o=>by
      obtain⟨x,j,a,h⟩:=d.tile v k o;simp only[QE,JU]at a;have hp:x.path≠b.path:=fun f=>a.1<|d.ok.only j l f
      exact⟨x,(p x).2 (.inr ⟨j,hp⟩),a.2,fun f=>hp<|by rw[f],h⟩)
     (by rw[(IN (c:=c) n).2];exact D) (by show t+b.eZ≤_;rw[m.cap];omega) (by omega)
    exact this
  simp only[Qf (fun hh:b.start-t<b.eZ∧¬b.start=t=>C hh.1),Qg q,ne_eq,not_true,Ew];refine B s d.ok rfl (LJ _ _) (Ql _) rfl ?_ _ rfl;exact Ys.step2 d.ok l (fun x e=>d.sub x<|XW _ e) hs.2 (fun x e=>by have:=y x e;omega) d.t30 (.inl<|by omega) z
   (fun x e u hne=>d.done x e (by simp only[QE,JU];exact⟨hne,u⟩))
   (fun v k o=>by obtain⟨x,j,a,h⟩:=d.tile v k o;simp only[QE,JU]at a;exact⟨x,j,a.2,a.1,h⟩) D (by omega) (by omega)
def Da(l):(Vst.bZ l).Perm l:=Lv l _
def TL(l):(Vst.bZ l).Pairwise fun a b=>a.start≤b.start:=
 (Lw (le:=fun a b:RM=>decide<|a.start≤b.start) (fun a b c c c=>by simp at*;omega) (fun a b=>by simp;omega) l).imp fun c=>by simpa using c
def Vok.pull{s c}(a:Vok s c):Ys s c (Vst.bZ s.mem) 30:=by
 have hp:=Da s.mem;have g:(Vst.bZ s.mem).Pairwise fun d e=>d.path≠e.path:=(hp.pairwise_iff fun a=>a.symm).2 (a.rise.imp fun a=>Ez a)
 refine⟨a,fun f b=>hp.mem_iff.1 b,?_,fun f b=>(a.inX<|hp.mem_iff.1 b).1,Av _,fun f b f=>absurd (hp.mem_iff.2 b) f,fun b f b=>by omega,?_⟩
 ·refine((TL s.mem).and g).imp_of_mem fun {d e} ha hb ⟨f,b⟩=>?_
  have d:=a.apart (hp.mem_iff.1 ha) (hp.mem_iff.1 hb) b;have:=a.inX<|hp.mem_iff.1 ha;have:=a.inX<|hp.mem_iff.1 hb;unfold Uj Xe at d;simp only[]at d;omega
 have:Zd (Vst.bZ s.mem)=Zd s.mem:=(hp.map _).sum_nat;omega
def Wu:∀l:List RM,By l=4*Zd l+20*l.length
 | []=>rfl
 |m::l=>by
  have:=Wu l;unfold By Zd at*
  rw[QR,Z9,this,QR,Z9,Q0];omega
def Vok.compact{s c}(a:Vok s c)(b:s.dev.lZ+100000≤1000000000):
 (s.compact.1=0∨s.compact.1=220)∧JM s s.compact.2 c (4*Zd s.mem+20*s.mem.length+2)∧s.compact.2.mem.map (fun x=>(x.path,x.eZ))=s.mem.map (fun x=>(x.path,x.eZ))∧
 (s.compact.1=0→Ys s.compact.2 c [] (30+Zd s.compact.2.mem)∧s.compact.2.dev.img.length≤30+Zd s.compact.2.mem):=by
 have hp:=Da s.mem;have e:By (Vst.bZ s.mem)=4*Zd s.mem+20*s.mem.length:=by rw[Wu,hp.length_eq];have:Zd (Vst.bZ s.mem)=Zd s.mem:=(hp.map _).sum_nat;rw[this]
 have:Zd s.mem≤200*s.mem.length:=by
  have:∀b:List RM,(∀d∈b,d.eZ.toNat≤200)→Zd b≤200*b.length:=by
   intro b
   induction b with
   |nil=>simp[Zd]
   |cons y b ih=>
    intro a;have f:=a y<|YH ..;have g:=ih fun x b=>a x<|XW _ b
    unfold Zd at*
    rw[QR,Z9,Q0];omega
  refine this _ fun d b=>?_
  have f:=(a.mems d b).eZ;have g:=Rg (f:=(d.path,c d.path)) (a.plen b) (a.mems d b).big;omega
 have hf:=a.few;obtain⟨d,b,f,g⟩:=Ys.pull (Vst.bZ s.mem) 30 s c a.pull (by rw[e];omega);rw[e]at b;refine⟨d,b,f,fun h0=>?_⟩;obtain⟨a,g1,b⟩:=g h0;have hs:=g1.sum;have:a=30+Zd s.compact.2.mem:=by have:Zd ([]:List RM)=0:=rfl;rw[this]at hs;show a=30+(Zd (Vst.pull _ _ _).2.mem:Int);omega
 rw[←this];refine⟨g1,?_⟩;have g3:(s.compact.2.dev.img.length:Int)≤a:=b;omega
structure Ud where
 kind:Int
 path:LU
 text:LU
 tg:Int
 files:List QC
noncomputable def Vst.does(s:Vst)(a:Ud):Int × Vst:=
 if a.kind=0 then s.put [(a.path,a.text)]else if a.kind=1 then s.del a.path else if a.kind=2 then s.move a.path a.tg else if a.kind=3 then s.compact else if a.kind=4 then s.trim else if a.kind=5 then s.put a.files else(0,s)
def Qhe{l m}(a:m∈l):m.eZ.toNat≤Zd l:=by
 induction l with
 |nil=>cases a
 |cons y l ih=>
  unfold Zd at*
  rw[QR,Z9];rcases QE.1 a with rfl|a
  ·omega
  have:=ih a;omega
def Vok.sum{s c}(a:Vok s c):Zd s.mem≤200*s.mem.length:=by
 have:∀b:List RM,(∀d∈b,d.eZ.toNat≤200)→Zd b≤200*b.length:=by
  intro b
  induction b with
  |nil=>simp[Zd]
  |cons y b ih=>
   intro a;have e:=a y<|YH ..;have g:=ih fun h b=>a h<|XW _ b
   unfold Zd at*
   rw[QR,Z9,Q0];omega
 refine this _ fun d b=>?_
 have e:=(a.mems d b).eZ;have g:=Rg (f:=(d.path,c d.path)) (a.plen b) (a.mems d b).big;omega
def Vst.del_none{s:Vst}{p}(h:(s.del p).1≠0):(s.del p).2=s:=by
 unfold Vst.del at h ⊢
 split
 ·rfl
 rename_i o;rw[Qf o]at h;exact absurd rfl h
structure BT(s s':Vst)(e:Int)(c':LU→LU)(f:Nat):Prop where
 ok:Vok s' c'
 cap:s'.dev.cap=s.dev.cap
 c0:s.dev.lZ≤s'.dev.lZ
 c1:s'.dev.lZ≤s.dev.lZ+4*(Zd s.mem+Zd s'.mem)+30*(s.mem.length+f+1)
 same:e≠0→e≠220→s'.dev.lZ=s.dev.lZ
def BT.none{s s' e c}(b:Vok s c)(a:s'=s)(f):BT s s' e c f:=by subst a;exact⟨b,rfl,Ql _,by omega,fun _ _=>rfl⟩
def JM.done{s s' c k f e}(a:JM s s' c k)(b:e=0∨e=220)(hk:k≤4*(Zd s.mem+Zd s'.mem)+30*(s.mem.length+f+1)):BT s s' e c f:=
 ⟨a.ok,a.cap,a.c0,by have:=a.c1;omega,fun a a=>by rcases b with rfl|rfl<;>contradiction⟩
def BT.few{s s' c c' f e}(b:Vok s c)(a:BT s s' e c' f)(hf:f≤1000):s'.dev.lZ≤s.dev.lZ+60000:=by have:=b.sum;have:=a.ok.sum;have:=b.few;have:=a.ok.few;have:=a.c1;omega
noncomputable def Vst.fresh(cap:Nat):Vst:=⟨((⟨cap,[],0⟩:QI).wr 0 (UT 0 [])).tick 1,0,0,[]⟩
def Vok.fresh(cap)(a:31≤cap)(b:cap≤4096)(c):Vok (Vst.fresh cap) c:=by have:=CB 0 [];have h0:(⟨cap,[],0⟩:QI).Ok:=⟨by show 1≤cap;omega,b,ZF _,by simp,by show 0≤1000000000;omega⟩;exact⟨h0.wrL (by show 0+_≤cap;omega) (OQ _ _) 1 (by show 0+_+1≤_;omega),a,ZF _,ZF _,List.Pairwise.nil,ZF _,fun a a=>absurd a Ff,(YD _ _).2 ⟨fun a a=>absurd a Ff,List.Pairwise.nil⟩⟩
section
open Go.Sort Go.Shelf
def tH{d b c s w}(a:Dk w d b c s)(hs:s.Ok)(h0:s.img=[]):
 Calls prog 34 #[.pointer d] w fun e w'=>e=.returned (.tuple #[(0:Int),.slice none 0 0,(230:Int)])∧Qb [] w w':=by
 have⟨b,f,c⟩:=qc (Cg a hs) (MP a hs) fun g (h:Qb [] w g)=>Ey (a.kZ h) hs;rw[h0]at c;have:((s.cap:Int)==0)=false:=Zb.2 (by have:=hs.c1;omega);have g1:¬(s.cap:Int)=0:=by have:=hs.c1;omega
 go_enter func34,ntmps34;go_wp2_with (first
  |(go_at_call 14;refine b.o.mono ?_;rintro e w⟨rfl,rfl⟩)
  |(go_at_call 33;refine f.o.mono ?_;rintro e w⟨rfl,rfl⟩))
 have a:=(Qc [] w).alloc<|.cells #[(0:Int),.slice none 0 0,.bool false,(0:Int),.slice none 0 0,.bool false] 127;have⟨f,b⟩:=qb a<|Qy w [(0:Int),.slice none 0 0,.bool false,(0:Int),.slice none 0 0,.bool false] 127
 go_loopg [6,21] 2 (fun g a h wr=>(∃a:Nat,a≤2∧g=2-a∧h=.int .i64 (a:Nat))∧wr=w.alloc (.cells #[(0:Int),.slice none 0 0,.bool false,(0:Int),.slice none 0 0,.bool false] 127))
 ·exact⟨⟨0,by omega,by omega,rfl⟩,rfl⟩
 obtain⟨⟨a,hi,hk,rfl⟩,rfl⟩:=hrel
 by_cases hlt:a<2
 ·obtain⟨_,_⟩:(a:Int)<2∧(0:Int)<((a:Int)+1)*5:=by omega
  go_wp2_with (go_at_call 24;refine(c.o _ f.o).mono ?_;rintro e g⟨rfl,rfl⟩)
  go_roundg (2-(a+1))
  ·exact⟨⟨a+1,by omega,rfl,by go_num⟩,rfl⟩
  omega
 obtain rfl:a=2:=by omega
 have c0:=b.o.cell (i:=0) rfl;have c1:=b.o.cell (i:=1) rfl;have c2:=b.o.cell (i:=2) rfl;have c3:=b.o.cell (i:=3) rfl;have:=b.o.cell (i:=4) rfl;have:=b.o.cell (i:=5) rfl;go_wp2_with fail
 go_region
 all_goals
  go_wp2
  go_ret3
  exact⟨rfl,((((Qc [] w).alloc _).alloc _).alloc _).drew⟩
def oC(w:WD)(d:Nat)(b f:VL)(cap:Nat)(e:Ending)(w':WD):Prop:=
 ∃a c g,e=.returned (.tuple #[.pointer (some ⟨a,0,none⟩),(0:Int)])∧Zj w' a d c g (.slice none 0 0) (Vst.fresh cap)∧Qb (Q7 d b f) w w'∧QP w.heap.size (Q7 d b f) (QT a d c g (.slice none 0 0))
def Qcq{d cap e f w}(b:Dk w d e f ⟨cap,[],0⟩)(a:31≤cap)(a:cap≤4096)(g:JF w)(h:∀x∈Q7 d e f,10≤x):
 Calls prog 11 #[.pointer d] w (oC w d e f cap):=by
 have hs:(⟨cap,[],0⟩:QI).Ok:=⟨by show 1≤cap;omega,a,ZF _,by simp,by show 0≤1000000000;omega⟩;have⟨k,l,p,o,q⟩:=qe (Cg b hs) (MP b hs) (tH b hs rfl) (fun a (c:Qb [] w a)=>Ey (b.kZ c) hs) fun a (c:Qb [] w a)=>Ww (.slice none 0 0) [] 0 d e f ⟨cap,[],0⟩ a (b.kZ c) hs (Qn.nil _ _ _).memA (g.kZ c).1 (by omega) (by simp) List.Pairwise.nil (by simp) ((YD _ _).2 ⟨fun x a=>absurd a Ff,List.Pairwise.nil⟩) ((YD _ _).2 ⟨fun x a=>absurd a Ff,List.Pairwise.nil⟩) (by show(_:Nat)≤cap;omega) (by show 0+_≤_;omega);have:((cap:Int)==0)=false:=Zb.2 (by omega);obtain⟨g1,_⟩: ¬(cap:Int)≤30∧¬(cap:Int)=0:=by omega
 have m:=Qa g;have n:=Qa b;have j:=Qa h;go_enter func11,ntmps11;go_wp2_with (first
  |(go_at_call 14;refine k.o.mono ?_;rintro g w⟨rfl,rfl⟩)
  |(go_at_call 33;refine l.o.mono ?_;rintro g w⟨rfl,rfl⟩)
  |(go_at_call 34;refine p.o.mono ?_;rintro g s⟨rfl,c⟩)
  |(go_at_call 24;refine(o.o _ c).mono ?_;rintro g t⟨rfl,rfl⟩)
  |(go_at_call 38;refine(q.o _ c).mono ?_;rintro g i⟨rfl,r⟩))
 obtain⟨g,k,k1,k2,k3⟩:=r;have l:10≤w.heap.size:=by have:=j.o d (by simp[Q7]);have:=n.o.lt d (by simp[Q7]);omega
 have h:∀x∈Q7 d g k,10≤x:=fun x a=>(k3 x a).elim (j.o x) fun b=>QS l<|QS c.size b
 have:=k2.size;have:=c.size;go_ret2;refine⟨i.heap.size,g,k,rfl,⟨⟨Qy i [.pointer d,(0:Int),(0:Int),.slice none 0 0,.bool false] 76,k1.kZ<|(Qc [] i).alloc _,Qn.nil _ _ _,fun g=>absurd (k1.lt _ g)<|DX _,by simp[Qd,qo],by simp[Qd,qo,Qq]⟩,
  ((m.o.kZ c).kept k2 j.o).kZ ((Qc [] i).alloc _),fun x a=>?_⟩,((c.mono (T:=Q7 d e f)<|by simp).trans k2 fun x a=>.inl a).alloc _,fun x a=>?_⟩
 ·simp only[QT,QE,Q6]at a;rcases a with rfl|a|a
  ·omega
  ·simp[Qd,qo]at a
  exact h x (by simpa[Q7]using a)
 simp only[QT,QE,Q6]at a;rcases a with rfl|a|a
 ·exact .inr (by omega)
 ·simp[Qd,qo]at a
 exact(k3 x<|by simpa[Q7]using a).imp id (fun b=>by omega)
end
section
open Go.Sort Go.Shelf
section
variable {a d:Nat} {nv pv mv:VL} {s:Vst} {w:WD} {c:LU→LU}
def Pm(f:Zj w a d nv pv mv s)(g:Vok s c)(p x)(hp:p.length≤1000000)(j:x.length≤140737488351232)(h:s.dev.lZ+10000≤1000000000):
 Calls prog 12 #[.pointer a,str p,str x] w fun e w'=>e=.returned (.int .i64 (s.put [(p,x)]).1)∧ZQ w a d nv pv mv (s.put [(p,x)]).2 w':=by
 have b:=(Qc [] w).alloc<|.cells #[str p,str x] 63;have⟨i,h⟩:=qb (Po (f.kZ b) g (.slice w.heap.size 1 1) [(p,x)] ⟨_,_,rfl,by have:=(Qy w [str p,str x] 63).sees (size:=2) (n:=1) rfl;rwa[show Qx Y4 [(p,x)]=[.string<|str p,.string<|str x]from rfl]⟩ (by simp) (by simp;exact⟨hp,j⟩) h) b;go_enter func12,ntmps12;go_wp2_with (go_at_call 39;refine i.o.mono ?_;rintro e f⟨rfl,b⟩);go_ret;exact⟨rfl,.from h.o b⟩
def Qiu(m)(x:Int)(w)(a:0≤x∧x≤1000000)(a:0≤m.eZ∧m.eZ≤4096):Calls prog 48 #[(1:Int),x,.agg (Zi m).toArray] w fun e w'=>e=.returned (.int .i64<|x+m.eZ)∧Qb [] w w':=by
 have a:=Qa fun b=>(Qc [] w).alloc b;have:IntKind.i64.wrap m.eZ=m.eZ:=by rw[Zz];omega
 have:IntKind.i64.wrap (x+m.eZ)=x+m.eZ:=by rw[Zz];omega
 unfold Zi;go_enter func48,ntmps48
 go_wp2
 go_ret;exact⟨rfl,a.o _⟩
def zR(x a)(h:Y9 x)(i:Y9 a)(w)(g:YN w):Calls prog 89 #[.agg (Zi x).toArray,.agg (Zi a).toArray] w fun e w'=>e=.returned (.int .i64<|x.start-a.start)∧∃b d,w'=grow (w.drewN b) d:=by
 have f:=Qa (show ∀(b c:Obj),∃j d,(w.alloc b).alloc c=grow (w.drewN j) d from fun b c=>⟨0,#[b]++#[c],by rw[alloc_eq_grow,alloc_eq_grow,grow_grow];simp[grow,World.drewN]⟩);obtain⟨-,b,b⟩:=h;obtain⟨-,b,b⟩:=i;have:IntKind.i64.wrap (x.start-a.start)=x.start-a.start:=by rw[Zz];omega
 unfold Zi;go_enter func89,ntmps89
 go_wp2
 go_ret;exact⟨rfl,f.o _ _⟩
def Qhj:SWO (ltOf fun x a:MS=>x.1.start-a.1.start) where
 irrefl x:=by simp[ltOf]
 trans x a z h k:=by simp only[ltOf,Zv]at h k ⊢;omega
 ntrans x a z h k:=by simp only[ltOf,Bz]at h k ⊢;omega
def Vok.bZ(d:Vok s c){l}(hp:l.Perm s.mem)(hs:l.Pairwise fun a b=>¬b.start-a.start<0):l=Vst.bZ s.mem:=by
 refine GI (le:=fun a b:RM=>a.start≤b.start) (fun a b ha hb e e=>?_) (hs.imp fun e=>by omega) (TL s.mem)<|hp.trans (Da s.mem).symm;have ha:=hp.mem_iff.1 ha;have hb:=(Da s.mem).mem_iff.1 hb
 by_cases e:a.path=b.path
 ·exact d.only ha hb e
 have f:=d.apart ha hb e;have:=d.inX ha;have:=d.inX hb;unfold Uj Xe at f;simp only at f;omega
def zL(b:Zj w a d nv pv mv s)(e:Vok s c):Calls prog 52 #[.pointer a] w (Fh (Vst.bZ s.mem) w):=by
 have⟨j,l⟩:=qb (Do b.vt (by have:=e.few;omega)) fun o g (m:Qb [] w g) hr h0=>iW 89 (fun f i=>f.start-i.start) Qhj (enters_of func89 (by kernel_rfl) rfl) (fun f i h n g k=>zR f i h n g k) o s.mem g hr (fun i g=>(e.rm i g).ms) (b.env.kZ m).1 h0 (by have:=e.few;omega);have k:=Qa fun i=>e.bZ (l:=i);have:0<w.heap.size:=by have:=b.low a (by simp);have:=b.vt.lt a (by simp);omega
 go_enter func52,ntmps52;go_wp2_with (first
  |(go_at_call 10;refine j.o.mono ?_;rintro m u⟨i,rfl,o,e,b⟩)
  |(go_at_call 68;refine(l.o i u e o (fun g=>by have:=b 0 g;omega)).mono ?_;rintro m v⟨rfl,q,r,t,p,n⟩))
 go_ret;obtain rfl:=k.o q r t;exact⟨i,rfl,p,e.trans n fun f h=>.inr<|b f h,b⟩
def xJ(v l w)(a:Uf w v l)(c:l.length≤100)(hs:∀m∈l,0≤m.eZ∧m.eZ≤4096):
 Calls prog 47 #[v,(0:Int),.func (.func 48) #[(1:Int)] #[]] w fun e w'=>e=.returned ((Zd l:Nat):Int)∧Qb [] w w':=by
 obtain⟨b,c1,rfl,h,k⟩:=a;have f:=Qa h;have⟨b,d⟩:=qx l.length;rw[d]at c f ⊢;have i:=Qa d;have j:=Qa hs;have n:=Qa (show ∀a,a≤b→Zd (l.take a)≤4096*a from fun a hi=>by
  have:∀c:List RM,(∀m∈c,m∈l)→Zd c≤4096*c.length:=by
   intro c
   induction c with
   |nil=>simp[Zd]
   |cons y c ih=>
    intro c;have g:=ih fun p o=>c p<|XW _ o
    have o:=hs y (c y<|by simp);unfold Zd at*
    rw[QR,Z9,Q0];omega
  have g:=this (l.take a) fun m c=>VE c
  rw[Zl]at g;omega)
 go_enter func47,ntmps47
 go_wp2
 go_loopg [1,8,11] b (fun d g h h wr=>(∃a:Nat,a≤b∧d=b-a∧h=.int .i64 (a:Nat)∧g=.int .i64 ((Zd (l.take a):Nat):Int))∧Hid (Qb [] w wr))
 ·exact⟨⟨0,by omega,by omega,rfl,rfl⟩,Qa<|Qc _ _⟩
 obtain⟨⟨a,hi,hk,rfl,rfl⟩,g⟩:=hrel
 by_cases hlt:a<b
 ·have o:(a:Int)<b:=by omega
  have⟨m,c⟩:=qy l a (by have:=i.o;omega);obtain⟨d,off,rfl,c0,d,d,d,d⟩:=VT (f.o.kZ g.o) c;have k:=j.o m<|QA c;have⟨d,h⟩:=qx<|Zd<|l.take a;have f:=n.o a hi;rw[h]at f ⊢;have j:=Qa fun f=>Qiu m (d:Int) f (by omega) k;unfold Zi at j;have f:=Qa (show((Zd (l.take<|a+1):Nat):Int)=(d:Int)+m.eZ by
   rw[Zt,c];unfold Zd at*
   rw[Xi,List.sum_append,h];simp;omega)
  have d:=Qa<|g.o.alloc<|.cells #[.string<|str m.path,.int .i64 m.start,.int .i64 m.eZ,.int .i64 m.size,.int .u32 m.sum] 69;go_wp2_with (go_at_call 48;refine(j.o _).mono ?_;rintro e h⟨rfl,c⟩)
  go_roundg (b-(a+1))
  ·exact⟨⟨a+1,by omega,rfl,by go_num,by rw[f.o]⟩,Qa<|d.o.trans c<|by simp⟩
  omega
 obtain rfl:b=a:=by omega
 have o:¬(b:Int)<b:=by omega
 have f:=Qa<|show l.take b=l from Q8 (by rw[i.o];exact Ql _)
 go_wp2
 go_ret;exact⟨by rw[f.o];rfl,g.o⟩
def Qb1(f:Zj w a d nv pv mv s)(b:Vok s c):Calls prog 23 #[.pointer a] w fun e w'=>e=.returned ((Zd s.mem:Nat):Int)∧Qb [] w w':=by
 have⟨h,g⟩:=qb (Do f.vt (by have:=b.few;omega)) fun k i j=>xJ k s.mem i j (by have:=b.few;omega) (fun i i=>by have:=b.inX i;have:=b.dev.c2;omega);have:∀(fn:Fn)(first cap:Array VL)(w:WD),(Instr.makeFunc fn first cap).run prog w=.ok (.func fn first cap) w:=fun _ _ _ _=>rfl
 go_enter func23,ntmps23;go_wp2_with (first
  |(go_at_call 10;refine h.o.mono ?_;rintro e k⟨j,rfl,i,b,l⟩)
  |(go_at_call 47;refine(g.o j k i.memA).mono ?_;rintro e m⟨rfl,f⟩))
 go_ret;exact⟨rfl,b.trans f<|by simp⟩
def sY(m v k xs w)(a:Qn w 109 2 v k xs)(hk:k≤1000):
 Calls prog 54 #[v,.agg (Zi m).toArray] w fun e w'=>∃g cap,e=.returned (.slice (some ⟨g,0,none⟩) (k+1) cap)∧Qn w' 109 2 (.slice (some ⟨g,0,none⟩) (k+1) cap) (k+1) (xs++Q4 (m.start,m.eZ))∧Qb (Qd v) w w'∧(g∈Qd v∨w.heap.size≤g):=by
 have d:k+1≤maxLen:=by simp only[maxLen];omega
 have f:(k+1)*16≤140737488355328:=by omega
 have⟨b,c⟩:=qb (fun c=>(Qc (Qd v) w).alloc c) a;unfold Zi;go_enter func54,ntmps54;go_wp2_with (at_builtin;(refine RO (w.alloc<|.cells #[str m.path,m.start,m.eZ,m.size,.int .u32 m.sum] 69) rfl _ _ 106 rfl 109 (.agg #[(0:Int),(0:Int)]) 2 16 R9 Bt rfl (by decide) v k _ (Q4 (m.start,m.eZ)) rfl (by rw[Vo];rfl) rfl rfl (Ep _) (World.ownsRow.alloc c.o _) d f ?_;intro i h o n l j));go_ret;refine⟨i,h,rfl,n,(b.o _).trans l fun b b=>.inl b,?_⟩;rcases j with a|a
 ·exact .inl a
 exact .inr (by simp at a;omega)
def xK(v l w)(h:Uf w v l)(hl:l.length≤100):
 Calls prog 53 #[v,.slice none 0 0,.func (.func 54) #[] #[]] w (DH (l.map Xe) w):=by
 obtain⟨a1,c1,rfl,h5,x3⟩:=h;have h4:=Qa h5;have⟨n,h2⟩:=qx l.length;rw[h2]at hl h4 ⊢;have HN:=Qa h2;go_enter func53,ntmps53
 go_wp2
 go_loopg [1,8,11] n (fun k x1 x8 x5 wr=>(∃(i:Nat)(v5:VL),i≤n∧k=n-i∧v5=x1∧x5=.int .i64 (i:Nat)∧Hid (Qn wr 109 2 v5 i<|Qx Q4<|(l.take i).map Xe)∧Hid (∀x∈Qd v5,w.heap.size≤x))∧Hid (Qb [] w wr))
 ·exact⟨⟨0,.slice none 0 0,by omega,by omega,rfl,rfl,Qa<|Qn.nil _ _ _,Qa<|by simp[Qd,qo]⟩,Qa<|Qc _ _⟩
 obtain⟨⟨i,v5,hi,hk,rfl,rfl,h3,q⟩,o⟩:=hrel
 by_cases hlt:i<n
 ·have q0:(i:Int)<n:=by omega
  have⟨m,hm⟩:=qy l i (by have:=HN.o;omega);obtain⟨g,off,rfl,c0,e1,e2,e3,e4⟩:=VT (h4.o.kZ o.o) hm;have h9:=Qa (by rw[Zt,hm];simp[Qx,Xe]:Qx Q4 ((l.take<|i+1).map Xe)=Qx Q4 ((l.take i).map Xe)++Q4 (m.start,m.eZ));have h1:=(Qc [] wr).alloc<|.cells #[.string<|str m.path,.int .i64 m.start,.int .i64 m.eZ,.int .i64 m.size,.int .u32 m.sum] 69;have HC:=Qa (sY m v5 i _ _ (h3.o.kept h1<|ZM _)<|by omega);unfold Zi at HC;have h8:=Qa h1;go_wp2_with (go_at_call 54;refine HC.o.mono ?_;rintro e w1⟨g5,c5,rfl,x4,x2,x0⟩)
  go_roundg (n-(i+1))
  ·refine⟨⟨i+1,_,by omega,rfl,rfl,by go_num,Qa<|by rwa[h9.o],Qa fun y hy=>?_⟩,Qa<|(o.o.trans h8.o<|by simp).trans x2 fun x hx=>.inr<|q.o x hx⟩;simp[Qd,qo]at hy;subst hy;have:=o.o.size;rcases x0 with h|h
   ·exact q.o _ h
   simp at h;omega
  omega
 obtain rfl:n=i:=by omega
 have q0:¬(n:Int)<n:=by omega
 have HE:=Qa<|show l.take n=l from Q8 (by rw[HN.o];exact Ql _)
 go_wp2
 go_ret;have:=h3.o;rw[HE.o]at this;exact⟨_,rfl,by rw[QH,HN.o];exact this,o.o,q.o⟩
end
end
section
open Go.Sort Go.Shelf
def Vst.put_nil{s:Vst}(a:s.mem.length≤16):s.put []=(0,s):=by unfold Vst.put;rw[Qf<|by simp[Vst.bad],Qf<|by simp,Qf (by simp[Zn];exact a)];rfl
structure Ea(s0 s:Vst)(c:LU→LU)(R:List RM)(i:Nat)(t:Int):Prop where
 eq:s0.compact=Vst.pull (R.drop i) t s
 ok:Vok s c
 cap:s.dev.cap=s0.dev.cap
 lZ:s.dev.lZ≤s0.dev.lZ+2000*i
 t0:30≤t∧t≤30+4096*i
def Ea.drop{a s c R i t}(b:Ea a s c R i t){m}(d:R[i]?=some m):a.compact=Vst.pull (m::R.drop (i+1)) t s:=by have a:=Qz.1 d;rw[b.eq,Z8 a.1,a.2]
def Vok.moved{s c}(a:Vok s c)(p tg)(b:s.dev.lZ+10000≤1000000000):Vok (s.move p tg).2 c∧(s.move p tg).2.dev.cap=s.dev.cap∧(s.move p tg).2.dev.lZ≤s.dev.lZ+1000:=by
 by_cases h0:(s.move p tg).1=0
 ·obtain⟨b,e,d,-,-⟩:=a.move (by omega) h0;have:=(a.mems b e).eZ;have:=(Rg (f:=(b.path,c b.path)) (a.plen e) (a.mems b e).big).2.2;exact⟨d.ok,d.cap,by have:=d.c1;omega⟩
 rw[Vst.move_none h0];exact⟨a,rfl,by omega⟩
def Qea{m r t s}(a:m.start-t<m.eZ∧m.start≠t)(b:Y5 s.dev.cap s.exts m.eZ=none):Vst.pull (m::r) t s=(220,s):=by unfold Vst.pull;simp only[Qg a,b];rfl
def Qd9{m r t s g}(a:m.start-t<m.eZ∧m.start≠t)(c:Y5 s.dev.cap s.exts m.eZ=some g)(b:(s.move m.path g).1≠0):Vst.pull (m::r) t s=s.move m.path g:=by unfold Vst.pull;simp only[Qg a,c,Qg b]
def Qeb{m r t s g}(a:m.start-t<m.eZ∧m.start≠t)(c:Y5 s.dev.cap s.exts m.eZ=some g)(b:(s.move m.path g).1=0):
 Vst.pull (m::r) t s=if((s.move m.path g).2.move m.path t).1≠0 then(s.move m.path g).2.move m.path t else Vst.pull r (t+m.eZ) ((s.move m.path g).2.move m.path t).2:=by
 rw[Vst.pull];simp only[Qg a,c,Qg a.2];simp only[b,ne_eq,not_true,Ew]
def Qed{m r t s}(a:¬(m.start-t<m.eZ∧m.start≠t))(b:m.start≠t):
 Vst.pull (m::r) t s=if(s.move m.path t).1≠0 then s.move m.path t else Vst.pull r (t+m.eZ) (s.move m.path t).2:=by
 rw[Vst.pull];simp only[Qf a,Qg b];simp only[ne_eq,not_true,Ew]
def Qec{m r t s}(a:m.start=t):Vst.pull (m::r) t s=Vst.pull r (t+m.eZ) s:=by rw[Vst.pull];simp[a]
set_option maxRecDepth 100000 in
set_option maxHeartbeats 4000000 in
def Wt{a d i l mv s w c}(T:Zj w a d i l mv s)(f:Vok s c)(q:s.dev.lZ+200000≤1000000000):
 Calls prog 29 #[.pointer a] w fun e w'=>e=.returned s.compact.1∧ZQ w a d i l mv s.compact.2 w':=by
 have o:=Qa (Po T f (.slice none 0 0) [] ⟨none,0,rfl,⟨by simp[Qx],fun b b b=>by simp[Qx]at b⟩⟩ (by simp) (by simp)<|by omega);rw[Vst.put_nil f.few]at o;have:=Qa T;have⟨k,h2⟩:=qb f q;have⟨t,g⟩:=qx<|Vst.bZ s.mem;have p:∀b∈t,b∈s.mem:=fun b n=>by rw[←g]at n;exact(Da s.mem).mem_iff.1 n
 have⟨j,h⟩:=qx t.length;have:j≤16:=by rw[←h,←g,(Da s.mem).length_eq];exact f.few
 have⟨J,m⟩:=qx s.compact;rw[m];have x0:=Qa m;have x1:=Qa<|Qr g<|Qr p h;have y:=Qa<|show Ea s s c t 0 30 from⟨by rw[←g];rfl,f,rfl,by omega,by omega⟩;clear T f q m g p h;go_enter func29,ntmps29;go_wp2_with (first
  |(go_at_call 39;refine o.o.mono ?_;rintro e z⟨rfl,h⟩;obtain⟨x5,x6,x4,f,v,u⟩:=h)
  |(go_at_call 52;refine(zL f k.o).mono ?_;rintro e x7⟨v2,rfl,g,E,p⟩;rw[x1.o.1,x1.o.2.2]at g;have x:=g;obtain⟨a2,c2,rfl,-,-,B,-⟩:=x.sees))
 have⟨o,h5,h4,A,z⟩:=qe (f.kZ E) (show Qb (QT a d i l mv) w x7 from v.trans E (by simp)) u (show ∀h∈Qd (.slice a2 j c2),h∉QT a d x5 x6 x4 from fun h l n=>by have:=p h l;have:=f.vt.lt h n;omega) g;clear f v u E p g B x
 go_loopg [4,6,7,8,9,10,11,20] j (fun p x f f f f f f v wr=>∃(i:Nat)(f:Int)(g:Vst)(u:LU→LU),i≤j∧p=j-i∧x=.int .i64 f∧v=.int .i64 (i:Nat)∧Hid (Ea s g u t i f)∧Hid (ZQ x7 a d x5 x6 x4 g wr))
 ·exact⟨0,30,s,c,by omega,by omega,rfl,rfl,y,Qa o.o.refl⟩
 obtain⟨i,f,g,u,hi,hk,rfl,rfl,o,p⟩:=hrel;obtain⟨z7,z8,z6,V,E,y6⟩:=p.o;have:=Qa V;have⟨D,C⟩:=qb E y6
 by_cases hlt:i<j
 ·have p2:(i:Int)<j:=by omega
  have⟨b,n⟩:=qy t i (by have:=x1.o.2.2;omega);have G:=z.o.kept E fun h l=>A.o h l;obtain⟨a3,c3,h,-,-,B,-⟩:=G.sees;injection h with h _ e5;subst h e5;obtain⟨h,off,rfl,h,h,h,h,h⟩:=VT B n;have z:=x1.o.2.1 b<|QA n;have O:=k.o.inX z;have p:=k.o.plen z;have M:=k.o.dev.c2;have R:=o.o.t0;have h3:=Qa<|o.o.drop n;have y:=(Qc [] wr).alloc<|.cells #[.string<|str b.path,.int .i64 b.start,.int .i64 b.eZ,.int .i64 b.size,.int .u32 b.sum] 69;have k:=Qy wr [.string<|str b.path,.int .i64 b.start,.int .i64 b.eZ,.int .i64 b.size,.int .u32 b.sum] 69;have⟨x,hb⟩:=qx wr.heap.size;have⟨S,h⟩:=qx<|wr.alloc<|.cells #[.string<|str b.path,.int .i64 b.start,.int .i64 b.eZ,.int .i64 b.size,.int .u32 b.sum] 69;have I:=Qa<|V.kZ y;have A:x∉QT a d z7 z8 z6:=fun n=>by have:=V.vt.lt x n;omega
  rw[hb]at k;rw[show[Value.string<|str b.path,.int .i64 b.start,.int .i64 b.eZ,.int .i64 b.size,.int .u32 b.sum].toArray=#[Value.string<|str b.path,.int .i64 b.start,.int .i64 b.eZ,.int .i64 b.size,.int .u32 b.sum]from rfl]at k;rw[h]at k y I;have⟨p1,H,x8⟩:=qc k y A;have:x<S.heap.size:=k.lt;have y3:=Qa (fun l Y Z X h (L:Zj l a d Y Z X h)(hok:Vok h u)(q:h.dev.lZ≤s.dev.lZ+40000) tg r v (e:h.move b.path tg=(r,v))=>show Calls prog 42 #[.pointer a,.string<|str b.path,.int .i64 tg] l fun e w'=>e=.returned (.int .i64 r)∧ZQ l a d Y Z X v w' by have:=eG L hok b.path (by omega) tg (by have:=h2.o;omega);rw[e]at this;exact this);have F:=o.o.lZ;have⟨y4,P⟩:=qb (fun h (m:s.compact=Vst.pull (t.drop<|i+1) (f+b.eZ) h)(hok:Vok h u)(hcap:h.dev.cap=s.dev.cap)(q:h.dev.lZ≤g.dev.lZ+2000)=>show Ea s h u t (i+1) (f+b.eZ)from⟨m,hok,hcap,by omega,by omega⟩) (by omega:g.dev.lZ≤s.dev.lZ+32000);have:IntKind.i64.wrap (b.start-f)=b.start-f:=by rw[Zz];omega
  have:IntKind.i64.wrap (f+b.eZ)=f+b.eZ:=by rw[Zz];omega
  have⟨q,Q⟩:=qb (Qr o.o.ok o.o.cap) fun m l h=>aB m g.exts g.dev.cap b.eZ l h (by unfold Vst.exts;rw[QH];have:=o.o.ok.few;omega) (by have:=o.o.ok.pZ;omega) (by have:=o.o.ok.dev.c2;omega) (by omega) o.o.ok.ext;have b0:=k.cell (i:=0) (u:=.string<|str b.path) rfl;have:=k.cell (i:=1) (u:=.int .i64 b.start) rfl;have y5:=k.cell (i:=2) (u:=.int .i64 b.eZ) rfl;clear n G z O p M y k A V E y6 F B R
  by_cases U:b.start=f
  ·have k:(b.start==f)=true:=(by rw[U];simp);have⟨h9,x2⟩:=qb (y4.o g (by rw[h3.o,Qec U]) q.o.1 q.o.2<|by omega)<|show ZQ x7 a d x5 x6 x4 g S from .next D.o C.o (.from H.o I.o.refl);clear U;go_wp2_with fail
   all_goals
    go_roundg (j-(i+1))
    ·exact⟨i+1,_,g,u,by omega,rfl,rfl,by go_num,h9,x2⟩
    omega
  have k:(b.start==f)=false:=Zb.2 U
  by_cases z1:b.start-f<b.eZ
  ·have A:b.start-f<b.eZ∧b.start≠f:=⟨z1,U⟩;have⟨y8,y7,y2⟩:=qc (Do I.o.vt (by have:=q.o.1.few;omega)) (fun m l h=>xK m g.mem l h (by have:=q.o.1.few;omega)) fun l (L:Qb [] S l)=>Qis (I.o.kZ L).vt q.o.1.dev;cases hfx:Y5 g.dev.cap g.exts b.eZ with
   |none=>
    rw[hfx]at Q;unfold Es at Q;have y:=Qa (by rw[←x0.o,h3.o,Qea A hfx]:J=(220,g));clear hfx A;go_wp2_with (first
     |(go_at_call 10;refine y8.o.mono ?_;rintro e h1⟨v3,rfl,G,M,-⟩)
     |(go_at_call 53;refine(y7.o _ _ G.memA).mono ?_;rintro e B⟨v4,rfl,z,O,-⟩;have c2:=(M.trans O<|by simp).cZ y5<|by simp))
    have z:Qn B 109 2 v4 g.exts.length (Qx Q4 g.exts):=z;have⟨y1,h8⟩:=qb z (M.trans O<|by simp);clear G z M O
    go_region_held3 (fun w'=>w'.cell? ⟨x,2,none⟩=some (.int .i64 b.eZ)) (first|exact c2|exact y0|go_keep)
     (first
       |(go_at_call 56;refine(y2.o _<|h8.o.trans (Qc [] B).drew<|by simp).mono ?_;rintro e p3⟨rfl,rfl⟩)
       |(go_at_call 55;refine(Q.o _ _ (y1.o.kept (Qc [] B).drew<|ZM _).exA).mono ?_;rintro e p0⟨rfl,W⟩;have y0:=W.cZ c2<|by simp))
    go_wp2
    go_ret;rw[y.o];exact⟨rfl,.next h5.o h4.o<|.next D.o C.o<|.from H.o<|I.o.refl.kept<|h8.o.trans ((Qc [] B).drew.trans W<|by simp)<|by simp⟩
   |some g1=>
    rw[hfx]at Q;unfold Es at Q;obtain⟨⟨k,h⟩,m⟩:∃x3,g.move b.path g1=x3:=⟨_,rfl⟩;have x9:=Qa fun l Y Z X L=>y3.o l Y Z X g L q.o.1 (by have:=P.o;omega) g1 k h m;have F:Vok h u∧h.dev.cap=g.dev.cap∧h.dev.lZ≤g.dev.lZ+1000:=(by have:=q.o.1.moved b.path g1 (by have:=P.o;have:=h2.o;omega);rw[m]at this;exact this);have R:=Qa F;have y9:=Qa (show(k≠0→s.compact=(k,h))∧(k=0→s.compact=if(h.move b.path f).1≠0 then h.move b.path f else Vst.pull (t.drop<|i+1) (f+b.eZ) (h.move b.path f).2)from
     ⟨fun e=>by rw[h3.o,Qd9 A hfx<|by rwa[m],m],fun e=>by rw[h3.o,Qeb A hfx<|by rwa[m],m]⟩)
    clear hfx A F m;go_wp2_with (first
     |(go_at_call 10;refine y8.o.mono ?_;rintro e h1⟨v3,rfl,G,M,-⟩)
     |(go_at_call 53;refine(y7.o _ _ G.memA).mono ?_;rintro e B⟨v4,rfl,z,O,-⟩;have c2:=(M.trans O<|by simp).cZ y5<|by simp))
    have z:Qn B 109 2 v4 g.exts.length (Qx Q4 g.exts):=z;have⟨y1,h8⟩:=qb z (M.trans O<|by simp);clear G z M O
    go_region_held3 (fun w'=>w'.cell? ⟨x,2,none⟩=some (.int .i64 b.eZ)) (first|exact c2|exact y0|go_keep)
     (first
       |(go_at_call 56;refine(y2.o _<|h8.o.trans (Qc [] B).drew<|by simp).mono ?_;rintro e p3⟨rfl,rfl⟩)
       |(go_at_call 55;refine(Q.o _ _ (y1.o.kept (Qc [] B).drew<|ZM _).exA).mono ?_;rintro e p0⟨rfl,W⟩;have y0:=W.cZ c2<|by simp))
    have z:=h8.o.trans ((Qc [] B).drew.trans W<|by simp) (by simp);have⟨y1,y2⟩:=qb z<|x9.o p0 _ _ _<|I.o.kZ z;have:=z.cZ b0 (by simp);have h8:=Qa (p1.o.kept z<|by simp);clear z W c2 y0
    by_cases z:k=0
    ·subst z;obtain⟨⟨W,v⟩,B⟩:∃x3,h.move b.path f=x3:=⟨_,rfl⟩;have M:Vok v u∧v.dev.cap=h.dev.cap∧v.dev.lZ≤h.dev.lZ+1000:=(by have:=R.o.1.moved b.path f (by have:=R.o.2.2;have:=P.o;have:=h2.o;omega);rw[B]at this;exact this);have p:=y9.o.2 rfl;rw[B]at p;have y0:=Qa (fun l Y Z X L=>y3.o l Y Z X h L R.o.1 (by have:=R.o.2.2;have:=P.o;omega) f W v B)
     by_cases O:W=0
     ·subst O;have h9:=Qa<|y4.o v (by rw[p];simp) M.1 ((M.2.1.trans R.o.2.1).trans q.o.2) (by have:=M.2.2;have:=R.o.2.2;omega);clear B M p;go_wp2_with (first
       |(go_at_call 42;(with_reducible refine y2.o.mono ?_);rintro e y7⟨rfl,L⟩;obtain⟨p0,p1,y8,X,G,Q⟩:=L;have l:=h8.o.kept G x8.o;have p3:=l.cell (i:=0) rfl;have p4:=l.cell (i:=1) rfl)
       |(go_at_call 42;refine(y0.o _ _ _ _ X).mono ?_;rintro e Z⟨rfl,R⟩;have p5:Z.cell? ⟨x,2,none⟩=some (.int .i64 b.eZ):=(by obtain⟨_,_,_,-,Y,-⟩:=R;exact Y.cZ (l.cell (i:=2) rfl) fun n=>(Q x n).elim x8.o (fun T=>by have:=h8.o.lt;omega))))
      have x2:=Qa<|show ZQ x7 a d x5 x6 x4 v Z from .next D.o C.o (.from H.o<|.from y1.o<|.next G Q R)
      go_roundg (j-(i+1))
      ·exact⟨i+1,_,v,u,by omega,rfl,rfl,by go_num,h9,x2⟩
      omega
     have y:=Qa (by rw[←x0.o,p,Qg O]:J=(W,v));have g4:(W==0)=false:=Zb.2 O;clear B M p O;go_wp2_with (first
      |(go_at_call 42;(with_reducible refine y2.o.mono ?_);rintro e y7⟨rfl,L⟩;obtain⟨p0,p1,y8,X,G,Q⟩:=L;have l:=h8.o.kept G x8.o;have p3:=l.cell (i:=0) rfl;have p4:=l.cell (i:=1) rfl)
      |(go_at_call 42;refine(y0.o _ _ _ _ X).mono ?_;rintro e Z⟨rfl,R⟩))
     go_ret;rw[y.o];exact⟨rfl,.next h5.o h4.o<|.next D.o C.o<|.from H.o<|.from y1.o<|.next G Q R⟩
    have y:=Qa (by rw[←x0.o,y9.o.1 z]:J=(k,h));have g4:(k==0)=false:=Zb.2 z;clear z;go_wp2_with (go_at_call 42;refine y2.o.mono ?_;rintro e y7⟨rfl,L⟩);go_ret;rw[y.o];exact⟨rfl,.next h5.o h4.o<|.next D.o C.o<|.from H.o<|.from y1.o L⟩
  have A:¬(b.start-f<b.eZ∧b.start≠f):=fun T=>z1 T.1
  obtain⟨⟨k,h⟩,m⟩:∃x3,g.move b.path f=x3:=⟨_,rfl⟩;have x9:=Qa<|y3.o S z7 z8 z6 g I.o q.o.1 (by have:=P.o;omega) f k h m;have F:Vok h u∧h.dev.cap=g.dev.cap∧h.dev.lZ≤g.dev.lZ+1000:=by have:=q.o.1.moved b.path f (by have:=P.o;have:=h2.o;omega);rw[m]at this;exact this
  have p:s.compact=if k≠0 then(k,h)else Vst.pull (t.drop<|i+1) (f+b.eZ) h:=by rw[h3.o,Qed A U,m]
  by_cases z:k=0
  ·subst z;have h9:=Qa<|y4.o h (by rw[p];simp) F.1 (F.2.1.trans q.o.2) (by have:=F.2.2;omega);clear m F p A;go_wp2_with (go_at_call 42;refine x9.o.mono ?_;rintro e h1⟨rfl,f⟩;have p5:h1.cell? ⟨x,2,none⟩=some (.int .i64 b.eZ):=(by obtain⟨_,_,_,-,Y,-⟩:=f;exact Y.cZ y5 x8.o));have x2:=Qa (show ZQ x7 a d x5 x6 x4 h h1 from .next D.o C.o (.from H.o f))
   go_roundg (j-(i+1))
   ·exact⟨i+1,_,h,u,by omega,rfl,rfl,by go_num,h9,x2⟩
   omega
  have y:=Qa (by rw[←x0.o,p,Qg z]:J=(k,h));have g4:(k==0)=false:=Zb.2 z;clear m F p A z;go_wp2_with (go_at_call 42;refine x9.o.mono ?_;rintro e h1⟨rfl,f⟩);go_ret;rw[y.o];exact⟨rfl,.next h5.o h4.o<|.next D.o C.o<|.from H.o f⟩
 obtain rfl:j=i:=by omega
 have p2:¬(j:Int)<j:=by omega
 have⟨y,b⟩:=qb (by rw[←x0.o,o.o.eq,JI (by rw[x1.o.2.2];exact Ql _)];rfl:J=g.trim)<|kR V o.o.ok (by have:=o.o.lZ;have:=h2.o;omega);clear V E y6;go_wp2_with (go_at_call 43;refine b.o.mono ?_;rintro e h1⟨rfl,f⟩);go_ret;rw[y.o];exact⟨rfl,.next h5.o h4.o<|.next D.o C.o f⟩
end
def Od(o bs n i0 m:Nat)(cap:Array VL)(s:BA)(T:LN)(Q:Nat→WD→Prop)(hT:o∉T∧bs∉T∧o≠bs)
 (x5:∀(b:Int) W,(callFunc n<|#[.int .u8 b]++cap).run prog W=.ok (.enter n<|#[.int .u8 b]++cap) W)
 (hQ:∀k W q,Q k W→Qb [o] W q→Q k q)(x2:i0≤m)(hm:m≤s.size)
 (x0:∀k (h:k<s.size),i0≤k→k<m→∀W,Q k W→Calls prog n (#[.int .u8 (s[k]'h).toNat]++cap) W fun e q=>e=.returned (.bool true)∧Q (k+1) q∧Qb T W q)
 (x1:∀(h:m<s.size) W,Q m W→Calls prog n (#[.int .u8 (s[m]'h).toNat]++cap) W fun e q=>e=.returned (.bool false)∧Q m q∧Qb T W q)
 (w:WD)(hi:Qe w o 3 [i0])(hs:Qe w bs 9 [s])(h0:Q i0 w)(x6:s.size≤1000):
 Calls prog 257 #[.func (.func n) #[] cap,.pointer o,.pointer bs] w fun e w'=>e=.returned (.tuple #[])∧Q m w'∧Qe w' o 3 [m]∧Qb (o::T) w w':=by
 have⟨HT,HQ,HG,HS,H0,HI,HA⟩:=qg hT hQ x0 x1 h0 hi hs;go_enter func257,ntmps257
 go_wp2
 go_loopg [] (m-i0) (fun k wr=>∃i:Nat,i0≤i∧i≤m∧k=m-i∧Hid (Q i wr)∧Hid (Qe wr o 3 [i])∧Hid (Qb (o::T) w wr))
 ·exact⟨i0,Ql _,x2,rfl,H0,HI,Qa<|Qc _ _⟩
 obtain⟨i,h1,h2,hk,h5,h3,h4⟩:=hrel;have c1:=h3.o.cell (i:=0) (u:=.int .i64 i) rfl;have h8:=HA.o.kept h4.o (by simp only[QE,JU];exact⟨fun e=>HT.o.2.2 e.symm,HT.o.2.1⟩);have c2:=h8.cell (i:=0) (u:=.string s) rfl;have x4:=Qa h8
 by_cases hlt:i<s.size
 ·have g0:(i:Int)<s.size:=by omega
  have i0:=Ux s i (i:Int) hlt rfl
  by_cases x3:i<m
  ·have HC:=Qa<|HG.o i hlt h1 x3 wr h5.o;go_wp2_with (refine HC.o.mono ?_;rintro e w2⟨rfl,h9,y⟩;have A2:=h3.o.kept y HT.o.1;have e1:=A2.cell (i:=0) (u:=.int .i64 i) rfl;have e2:=A2.free 0)
   go_roundg (m-(i+1))
   ·exact⟨i+1,by omega,by omega,rfl,Qa<|HQ.o _ _ _ h9<|(Qc [o] w2).setCell (p:=o) (.inl<|by simp) _,Qa<|A2.set 0 _,Qa<|(h4.o.trans y fun x hx=>.inl<|by simp[hx]).setCell (p:=o) (.inl<|by simp) _⟩
   omega
  obtain rfl:i=m:=by omega
  have HC:=Qa<|HS.o hlt wr h5.o;go_wp2_with (refine HC.o.mono ?_;rintro e w2⟨rfl,h9,y⟩)
  go_end0
  exact⟨rfl,h9,h3.o.kept y HT.o.1,h4.o.trans y fun x hx=>.inl<|by simp[hx]⟩
 have g0:¬(i:Int)<s.size:=by omega
 obtain rfl:i=m:=by omega
 go_wp2
 go_end0
 exact⟨rfl,h5.o,h3.o,h4.o⟩
def zS(b:Int)(w:WD):Calls prog 258 #[.int .u8 b] w fun e w'=>e=.returned (.bool<|b==32)∧w'=w:=by
 go_enter func258,ntmps258
 go_wp2
 go_ret;exact⟨rfl,rfl⟩
def zV(b:Int)(w:WD):Calls prog 260 #[.int .u8 b] w fun e w'=>e=.returned (.bool<|b==32||b==0)∧w'=w:=by
 go_enter func260,ntmps260
 by_cases a:b=32
 ·subst a
  go_wp2
  go_ret;exact⟨rfl,rfl⟩
 have c:(b==32)=false:=Zb.2 a;rw[c]
 go_wp2
 go_ret;exact⟨rfl,rfl⟩
def zU(b:Int)(a c:Nat)(w:WD)(d:b<48∨55<b):Calls prog 259 #[.int .u8 b,.pointer a,.pointer c] w fun e w'=>e=.returned (.bool false)∧w'=w:=by
 go_enter func259,ntmps259
 by_cases a:b<48
 ·go_wp2
  go_ret;exact⟨rfl,rfl⟩
 have:55<b:=by omega
 go_wp2
 go_ret;exact⟨rfl,rfl⟩
def zT(b n a c:Nat)(w:WD)(d:48≤b)(d:b≤55)(d:n<2^40)(hb:Qe w a 4 [.bool false])(f:Qe w c 3 [n])(hne:a≠c):
 Calls prog 259 #[.int .u8 b,.pointer a,.pointer c] w fun e w'=>e=.returned (.bool true)∧Qe w' a 4 [.bool false]∧Qe w' c 3 [((8*n+(b-48):Nat):Int)]∧Qb [a,c] w w':=by
 obtain⟨g1,_⟩: ¬(b:Int)<48∧¬(55:Int)<b:=by omega
 have c0:=hb.cell (i:=0) (u:=.bool false) rfl;have c1:=f.cell (i:=0) (u:=.int .i64 n) rfl;have:=hb.free 0;have:=f.free 0;have h:(8:Int)*n+((b:Int)-48)=((8*n+(b-48):Nat):Int):=by omega
 have⟨d,g⟩:=qx<|8*n+(b-48);rw[g]at h ⊢;have:IntKind.u8.wrap ((b:Int)-48)=(b:Int)-48:=by rw[CN];omega
 have:IntKind.i64.wrap ((b:Int)-48)=(b:Int)-48:=by rw[Zz];omega
 have g3:¬(9007199254740992:Int)<d:=by omega
 have:IntKind.i64.wrap ((8:Int)*n)=8*n:=by rw[Zz];omega
 have:IntKind.i64.wrap (d:Int)=d:=by rw[Zz];omega
 have⟨h,j⟩:=qb hb f;go_enter func259,ntmps259
 go_wp2
 go_ret;have hh:=(j.o.set 0<|.int .i64 (d:Int)).kept (((Qc [a] _).setCell (p:=a) (.inl<|by simp)<|.bool false)) (by simpa using fun e=>hne e.symm);have f:=(h.o.kept ((Qc [c] _).setCell (p:=c) (.inl<|by simp)<|.int .i64 (d:Int))<|by simpa using hne).set 0<|.bool false;exact⟨rfl,f,hh,((Qc _ _).setCell (p:=c) (.inl<|by simp) _).setCell (p:=a) (.inl<|by simp) _⟩
def Qci(s:BA)(x z:LU)(w:WD)(hs:s.data.toList=x++z)(h0:x≠[])(j:∀b∈x,48≤b.toNat∧b.toNat≤55)(L:x.length≤12)(hz:∀b∈z,b=32∨b=0)(P:z.length≤900):
 Calls prog 217 #[s] w fun e w'=>e=.returned (.tuple #[.int .i64 (Vj 0 x:Nat),(0:Int)])∧Qb [] w w':=by
 have O:s.size=x.length+z.length:=by rw[←Zo,hs,Qo]
 have o:∀a (c:a<s.size),(x++z)[a]?=some (s[a]'c):=fun a c=>by rw[←hs];exact Qj (by rwa[Zo]:a<s.data.toList.length)
 have q:∀a (c:a<s.size),a<x.length→48≤(s[a]'c).toNat∧(s[a]'c).toNat≤55:=fun a c hk=>by have hb:=o a c;rw[Xp hk]at hb;exact j _<|QA hb
 have B:∀a (c:a<s.size),x.length≤a→(s[a]'c)=32∨(s[a]'c)=0:=fun a c hk=>by have hb:=o a c;rw[Zx hk]at hb;exact hz _<|QA hb
 have G:0<x.length:=Lu.2 h0;have A:∀a (c:a<s.size),a<x.length→Vj 0 (x.take<|a+1)=8*Vj 0 (x.take a)+((s[a]'c).toNat-48):=fun a c hk=>by have hb:=o a c;rw[Xp hk]at hb;rw[Zt,hb];unfold Vj;rw[DK];rfl
 have C:∀a,a≤x.length→Vj 0 (x.take a)<8^a:=fun a=>by
  induction a with
  |zero=>intro _;simp[Vj]
  |succ a ih=>intro hk;have c:=ih (by omega);rw[A a (by omega)<|by omega,J5];have:=q a (by omega) (by omega);omega
 have y:∀a,a≤x.length→Vj 0 (x.take a)<2^40:=fun a hk=>Az (C a hk) (QS (Jc (by decide) (by omega:a≤12))<|by decide)
 have t:=Qa (by rw[VG]:Vj 0 (x.take x.length)=Vj 0 x);have F:=y x.length<|Ql _;have⟨bs,p⟩:=qx w.heap.size;have⟨d,m⟩:=qx<|(w.alloc<|.cells #[s] 9).alloc<|.cells #[(0:Int)] 3;have D:Qb [] w d:=by rw[←m];exact((Qc _ _).alloc _).alloc _
 have k:Qe d bs 9 [s]:=by rw[←m,←p];exact(Qy w [s] _).kept ((Qc [] _).alloc _) (by simp)
 have l:Qe d (bs+1) 3 [(0:Nat)]:=by have:=Qy (w.alloc<|.cells #[s] 9) [(0:Int)] 3;rw[m]at this;simpa[p]using this
 have E:d.heap.size=bs+2:=by rw[←m,←p];simp
 have H:=Qa (Od (bs+1) bs 258 0 0 #[] s [] (fun _ _=>True) ⟨by simp,by simp,by omega⟩ (fun _ _=>by kernel_rfl) (fun _ _ _ _ _=>trivial) (Ql _) (ZF _) (fun a c n v=>by omega)
  (fun c f _=>by refine(zS _ f).mono ?_;rintro e w'⟨rfl,rfl⟩;have:=q 0 c G;exact⟨by rw[show(((s[0]'c).toNat:Int)==32)=false from Zb.2 (by omega)],trivial,Qc _ _⟩) d l k trivial (by omega))
 have I:=Qa (fun(g h:Nat)(d:WD)(hne:g≠h)(r:bs+1<g∧bs+1<h)(l:Qe d (bs+1) 3 [(0:Nat)])(k:Qe d bs 9 [s])(hb:Qe d g 4 [.bool false])(M:Qe d h 3 [(0:Nat)])=>
  Od (bs+1) bs 259 0 x.length #[.pointer g,.pointer h] s [g,h] (fun a f=>Qe f g 4 [.bool false]∧Qe f h 3 [.int .i64 (Vj 0 (x.take a):Nat)]) ⟨by simp;omega,by simp;omega,by omega⟩ (fun _ _=>by kernel_rfl)
  (fun a f r c hk=>⟨c.1.kept hk (by simp;omega),c.2.kept hk (by simp;omega)⟩) (ZF _) (by omega)
  (fun a c _ hk f r=>by have:=q a c hk;refine(zT (s[a]'c).toNat (Vj 0<|x.take a) g h f this.1 this.2 (y a<|by omega) r.1 r.2 hne).mono ?_;rintro e w'⟨rfl,n,v,J⟩;exact⟨rfl,⟨n,by rwa[A a c hk]⟩,J⟩)
  (fun c f r=>by refine(zU _ g h f<|by rcases B x.length c (Ql _)with e|e<;>rw[e]<;>decide).mono ?_;rintro e w'⟨rfl,rfl⟩;exact⟨rfl,r,Qc _ _⟩) d l k ⟨hb,M⟩ (by omega))
 have J:=Qa (fun(g:WD)(l:Qe g (bs+1) 3 [.int .i64 (x.length:Nat)])(k:Qe g bs 9 [s])=>
  Od (bs+1) bs 260 x.length s.size #[] s [] (fun _ _=>True) ⟨by simp,by simp,by omega⟩ (fun _ _=>by kernel_rfl) (fun _ _ _ _ _=>trivial) (by omega) (Ql _)
  (fun a c n v f _=>by refine(zV _ f).mono ?_;rintro e w'⟨rfl,rfl⟩;exact⟨by rcases B a c n with e|e<;>rw[e]<;>rfl,trivial,Qc _ _⟩)
  (fun c f _=>by omega) g l k trivial (by omega))
 have⟨r,a⟩:=qx<|Vj 0 x;rw[t.o]at F;rw[a]at t F ⊢;have⟨c,f,h,g,n⟩:=qe k D m E p;have g1:¬(s.size:Int)<s.size:=by omega
 clear o q B A C y k l D m E hs h0 j L hz P O G a;go_enter func217,ntmps217;go_wp2_with fail;rw[h.o];refine H.o.mono ?_;rintro e d⟨rfl,-,hI3,hk3⟩;have h:bs+2≤d.heap.size:=by have:=hk3.size;have:=g.o;omega
 have m:=Qa h;have a:=c.o.kept hk3 (by simp);have⟨o,c,l⟩:=qc (f.o.trans hk3 fun x j=>.inr (by simp at j;have:=n.o;omega)) hI3 a;clear hk3 hI3 a h;go_wp2_with fail;have g:Qb [] d ((d.alloc<|Obj.cells #[Value.int IntKind.i64 0] 3).alloc<|Obj.cells #[Value.bool false] 4):=((Qc _ _).alloc _).alloc _;have h:=m.o;refine(I.o (d.heap.size+1) d.heap.size _ (by omega) ⟨by omega,by omega⟩ (c.o.kept g<|by simp) (l.o.kept g<|by simp) (by simpa using Qy (d.alloc<|Obj.cells #[Value.int IntKind.i64 0] 3) [.bool false] 4)<|(Qy d [(0:Int)] 3).kept ((Qc [] _).alloc _)<|by simp).mono ?_;rintro e q⟨rfl,⟨f,c⟩,d,k⟩;rw[t.o]at c;have a:=(l.o.kept g<|by simp).kept k (by simp;omega);have⟨p,l⟩:=qb ((o.o.trans g<|by simp).trans k fun x j=>.inr (by simp at j;have:=n.o;omega))<|Qr f<|Qr c<|Qr d a;clear g k f c d a h;go_wp2_with fail;obtain⟨f,c,d,a⟩:=l.o;refine(J.o q d a).mono ?_;rintro e g⟨rfl,-,hI6,hk6⟩;have h:=m.o;have:=(f.kept hk6 (by simp;omega)).cell (i:=0) (u:=.bool false) rfl;have:=(c.kept hk6 (by simp;omega)).cell (i:=0) (u:=.int .i64 r) rfl;have:=hI6.cell (i:=0) (u:=.int .i64 s.size) rfl;have:=(a.kept hk6<|by simp).cell (i:=0) (u:=.string s) rfl;have g:=Qa<|p.o.trans hk6 fun x j=>.inr (by simp at j;have:=n.o;omega);clear f c d a hI6 hk6
 go_wp2
 go_ret2;exact⟨rfl,g.o⟩
def bU(m):∀{x:LU},(0:UInt8)∉x→Lib.indexByte (x++Ze m) 0=if m=0 then -1 else(x.length:Int)
 | [],_=>by
   cases m with
   |zero=>rfl
   |succ m=>simp[Ze,Y8,Lib.indexByte]
 |b::x,h=>by
  simp only[QE,JU]at h;rw[Yf,Lib.indexByte,Qf<|by simpa using fun a=>h.1 a.symm,bU m h.2]
  split
  ·simp
  rw[Qf<|by simp];simp
def MO(x m w)(b:(0:UInt8)∉x)(a:x.length+m≤1000):Calls prog 176 #[str<|x++Ze m] w fun e w'=>e=.returned (str x)∧w'=w:=by
 have a:=Qa<|Tryz.strByte (str<|x++Ze m) 0 w;rw[show((0:Int).toNat.toUInt8)=(0:UInt8)from rfl,show(str<|x++Ze m).data.toList=x++Ze m from rfl,bU m b]at a
 by_cases b:m=0
 ·subst b;rw[Qg rfl]at a;go_enter func176,ntmps176;go_wp2_with (go_at_call 192;refine a.o.mono ?_;rintro e f⟨rfl,rfl⟩);go_ret;exact⟨by simp[Ze],rfl⟩
 rw[Qf b]at a;have d:=CA (str<|x++Ze m) x.length (x.length:Int) (by show _≤(x++Ze m).length;simp) rfl;have c:(str<|x++Ze m).extract 0 x.length=str x:=by rw[Uo _ 0 _ (by show _≤(x++Ze m).length;simp),VD,Br,show(str<|x++Ze m).data.toList=x++Ze m from rfl,CQ]
 rw[c]at d;go_enter func176,ntmps176;go_wp2_with (go_at_call 192;refine a.o.mono ?_;rintro e f⟨rfl,rfl⟩);go_ret;exact⟨rfl,rfl⟩
def Qek(c n x a bad w)(b:Qe w c 271 [str<|x++a,.bool bad])(d:x.length=n)(f:n≤1000):
 Calls prog 175 #[.pointer c,n] w fun e w'=>e=.returned (str x)∧Qe w' c 271 [str a,.bool bad]∧Qb [c] w w':=by
 have c0:=b.cell (i:=0) (u:=.string<|str<|x++a) rfl;have:=b.free 0;have f:n≤(str<|x++a).size:=by show _≤(x++a).length;simp;omega
 have h:=CA (str<|x++a) n (n:Int) f rfl;have j:=Gp (str<|x++a) n (n:Int) f rfl;have g:(str<|x++a).extract 0 n=str x:=by rw[Uo _ 0 _ f,VD,Br,show(str<|x++a).data.toList=x++a from rfl,←d,CQ]
 have f:(str<|x++a).extract n (str<|x++a).size=str a:=by rw[Uo _ n _<|Ql _,show(str<|x++a).data.toList=x++a from rfl,←d,Fa,Q8 (by show _≤(x++a).length-_;simp)]
 rw[g]at h;rw[f]at j;have a:=Qa b;go_enter func175,ntmps175
 go_wp2
 go_ret;exact⟨rfl,a.o.set 0 _,(Qc _ _).setCell (p:=c) (.inl<|by simp) _⟩
