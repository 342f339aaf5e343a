import Derived.Test.YtickjpnkoppmgaaGreatDoorAg
set_option linter.all false
set_option maxHeartbeats 1000000
set_option maxRecDepth 100000
namespace Go.Proofs.YtickjpnkoppmgaaGreatDoor
open Go.Proofs.Tryz Go.RowKit K
def Hn(m:Int)(w:World)(e:Ending)(w':World):Prop:=e=.returned (.tuple #[((Yd m).1:Nat),((Yd m).2:Nat)])∧w=w'
def ET(m a b)(c:Yd m=(a,b))(w):Hn m w (.returned<|.tuple #[(a:Int),(b:Int)]) w:=by unfold Hn;rw[c];exact⟨rfl,rfl⟩
def xU(m:Int)(w):Calls prog 250 #[m] w (Hn m w):=by
 have i0:∀w,(Instr.index 359 (.agg #[(200:Int),(600:Int),(1200:Int),(2400:Int)]) (0:Int)).run prog w=.ok (200:Int) w:=fun _=>by kernel_rfl
 have:∀w,(Instr.index 359 (.agg #[(200:Int),(600:Int),(1200:Int),(2400:Int)]) (1:Int)).run prog w=.ok (600:Int) w:=fun _=>by kernel_rfl
 have i2:∀w,(Instr.index 359 (.agg #[(200:Int),(600:Int),(1200:Int),(2400:Int)]) (2:Int)).run prog w=.ok (1200:Int) w:=fun _=>by kernel_rfl
 have i3:∀w,(Instr.index 359 (.agg #[(200:Int),(600:Int),(1200:Int),(2400:Int)]) (3:Int)).run prog w=.ok (2400:Int) w:=fun _=>by kernel_rfl
 by_cases h0:m<1
 ·have a:=Qa (by unfold Yd;rw[Qg h0]:Yd m=(0,2));go_enter func250,ntmps250
  go_wp2
  go_ret2;exact ET m 0 2 a.o _
 go_enter func250,ntmps250
 go_wp2
 go_loopg [9] 4 (fun c d wr=>∃b:Int,(b=0∨(b=1∧¬m<200)∨(b=2∧¬m<600)∨(b=3∧¬m<1200)∨(b=4∧¬m<2400))∧c=(4-b).toNat∧d=.int .i64 b∧w=wr)
 ·exact⟨0,.inl rfl,by omega,rfl,rfl⟩
 obtain⟨b,c,hk,rfl,rfl⟩:=hrel;have b:=Qa hk;rcases c with rfl|⟨rfl,hb⟩|⟨rfl,hb⟩|⟨rfl,hb⟩|⟨rfl,hb⟩
 ·by_cases c:m<200
  ·have a:=Qa (by unfold Yd;rw[Qe<|by omega,Qg<|by omega]:Yd m=(2,0))
   go_wp2
   go_ret2;exact ET m 2 0 a.o _
  go_wp2
  go_roundg 3
  ·exact⟨1,.inr<|.inl ⟨rfl,by omega⟩,by omega,rfl,rfl⟩
  have:=b.o;omega
 ·by_cases c:m<600
  ·have a:=Qa (by unfold Yd;rw[Qe<|by omega,Qe<|by omega,Qg<|by omega]:Yd m=(3,0))
   go_wp2
   go_ret2;exact ET m 3 0 a.o _
  go_wp2
  go_roundg 2
  ·exact⟨2,.inr<|.inr<|.inl ⟨rfl,by omega⟩,by omega,rfl,rfl⟩
  have:=b.o;omega
 ·by_cases c:m<1200
  ·have a:=Qa (by unfold Yd;rw[Qe<|by omega,Qe<|by omega,Qe<|by omega,Qg<|by omega]:Yd m=(4,0))
   go_wp2
   go_ret2;exact ET m 4 0 a.o _
  go_wp2
  go_roundg 1
  ·exact⟨3,.inr<|.inr<|.inr<|.inl ⟨rfl,by omega⟩,by omega,rfl,rfl⟩
  have:=b.o;omega
 ·by_cases c:m<2400
  ·have a:=Qa (by unfold Yd;rw[Qe<|by omega,Qe<|by omega,Qe<|by omega,Qe<|by omega,Qg<|by omega]:Yd m=(5,0))
   go_wp2
   go_ret2;exact ET m 5 0 a.o _
  go_wp2
  go_roundg 0
  ·exact⟨4,.inr<|.inr<|.inr<|.inr ⟨rfl,by omega⟩,by omega,rfl,rfl⟩
  have:=b.o;omega
 have a:=Qa (by unfold Yd;rw[Qe<|by omega,Qe<|by omega,Qe<|by omega,Qe<|by omega,Qe<|by omega]:Yd m=(6,0))
 go_wp2
 go_ret2;exact ET m 6 0 a.o _
def MB(m:Nat)(w)(a:m≤17592186043904):Calls prog 211 #[m] w fun e w'=>e=.returned (ZG m:Nat)∧w=w':=by
 have a:=Qa (show((ZG m:Nat):Int)=((m:Int)+49)/50 by unfold ZG;omega);go_enter func211,ntmps211
 go_wp2
 go_ret;exact⟨fY (by rw[a.o];omega),rfl⟩
def lQ(b:Bool)(w:World)(e:Ending)(w':World):Prop:=e=.returned (.bool b)∧w=w'
def IR{xs n}(a:¬(3≤n∧n≤258)∨¬(1≤xs.length∧xs.length≤1638350)):X1 xs n=false:=by
 unfold X1;rcases a with a|a
 ·rw[XI a];rfl
 rw[XI a,KM];rfl
def dH{xs n x}{i:Nat}(a:xs[i]?=some x)(b:x<0∨n≤x):X1 xs n=false:=by rw[Bb];intro hh;unfold X1 at hh;rw[Xg,XO]at hh;have:=hh.2 x<|QC a;rw[Zu]at this;omega
def IA(a c xs)(n:Int)(w)(f:Qn w 1 a xs.length (QK xs))(b:xs.length≤17592186043904):
 Calls prog 249 #[.slice a xs.length c,n] w (lQ (X1 xs n) w):=by
 have h:=Qa f
 by_cases b:n<3
 ·have d:=Qa (IR (xs:=xs) (n:=n)<|.inl<|by omega);have g1:decide (n<3)=true:=Xr b;go_enter func249,Hr
  go_wp2
  go_ret;exact⟨by rw[d.o];rfl,rfl⟩
 have g1:decide (n<3)=false:=XI b
 by_cases b:258<n
 ·have d:=Qa (IR (xs:=xs) (n:=n)<|.inl<|by omega);have e:decide (258<n)=true:=Xr b;go_enter func249,Hr
  go_wp2
  go_ret;exact⟨by rw[d.o];rfl,rfl⟩
 have e:decide (258<n)=false:=XI b
 by_cases b:xs.length<1
 ·have d:=Qa (IR (xs:=xs) (n:=n)<|.inr<|by omega);have g3:decide ((xs.length:Int)<1)=true:=by simp;omega
  go_enter func249,Hr
  go_wp2
  go_ret;exact⟨by rw[d.o];rfl,rfl⟩
 have g3:decide ((xs.length:Int)<1)=false:=by simp;omega
 by_cases b:1638350<xs.length
 ·have d:=Qa (IR (xs:=xs) (n:=n)<|.inr<|by omega);have g4:decide (1638350<(xs.length:Int))=true:=by simp;omega
  go_enter func249,Hr
  go_wp2
  go_ret;exact⟨by rw[d.o];rfl,rfl⟩
 have g4:decide (1638350<(xs.length:Int))=false:=by simp;omega
 obtain⟨b,b,rfl,-⟩:=h.o.at (by rw[Xk];omega);go_enter func249,Hr
 go_wp2
 go_loopg [25] xs.length (fun b g wr=>∃e:Nat,b=xs.length-e∧e≤xs.length∧g=.int .i64 (e:Nat)∧Hid (∀b∈xs.take e,0≤b∧b<n)∧w=wr)
 ·exact⟨0,by omega,by omega,rfl,Qa<|by simp,rfl⟩
 obtain⟨e,hk,hi,rfl,i,rfl⟩:=hrel;have j:=Qa hk
 by_cases hlt:e<xs.length
 ·have:(e:Int)<xs.length:=by omega
  have⟨b,g⟩:=qy xs e hlt;have c0:=h.o.int g;have h:=Qa g
  by_cases k1:b<0
  ·have k:decide (b<0)=true:=Xr k1;have d:=Qa (dH (n:=n) h.o<|.inl k1)
   go_wp2
   go_ret;exact⟨by rw[d.o];rfl,rfl⟩
  have k:decide (b<0)=false:=XI k1
  by_cases k2:n≤b
  ·have q2:decide (n≤b)=true:=Xr k2;have d:=Qa (dH (n:=n) h.o<|.inr k2)
   go_wp2
   go_ret;exact⟨by rw[d.o];rfl,rfl⟩
  have q2:decide (n≤b)=false:=XI k2
  go_wp2
  go_roundg (xs.length-(e+1))
  ·refine⟨e+1,rfl,by omega,by simp,Qa fun j d=>?_,rfl⟩;rw[ZE,h.o]at d;rcases Q5.1 d with f|f
   ·exact i.o j f
   simp at f;omega
  have:=j.o;omega
 obtain rfl:e=xs.length:=by omega
 have:¬(xs.length:Int)<xs.length:=by omega
 have d:=Qa (by have hb:=i.o;rw[Zd<|Ql _]at hb;unfold X1;rw[Xr<|show 3≤n∧n≤258 by omega,Xr<|show 1≤xs.length∧xs.length≤1638350 by omega,VJ,VJ,XO];intro b g;rw[Zu];exact hb b g:X1 xs n=true)
 go_wp2
 go_ret;exact⟨by rw[d.o];rfl,rfl⟩
def QX(b:Option Addr)(f d:Nat)(a:Option Addr)(e c:Nat):Value:=.agg #[.slice b f d,.slice a e c]
def Pk(b:Bool)(w:World)(e:Ending)(w':World):Prop:=e=.returned (.bool b)∧Qb [] w w'
def IS{T P}(a:¬(2≤T.length∧T.length≤6)∨¬(1≤P.length∧P.length≤32767)):Xm T P=false:=by
 unfold Xm;rcases a with a|a
 ·rw[XI a];rfl
 rw[XI a,KM];rfl
def Nk{T P}{i:Nat}{t}(b:T[i]?=some t)(a:CE (T.getD 0 []).length t=false):Xm T P=false:=by rw[Bb];intro hh;unfold Xm at hh;rw[Xg,Xg,XO,XO]at hh;have:=hh.1.2 t<|QC b;rw[a]at this;cases this
def dI{T P}{i:Nat}{x}(a:P[i]?=some x)(b:x<0∨(T.length:Int)≤x):Xm T P=false:=by rw[Bb];intro hh;unfold Xm at hh;rw[Xg,XO]at hh;have:=hh.2 x<|QC a;rw[Zu]at this;omega
def dJ{T P}(a:2≤T.length∧T.length≤6)(b:1≤P.length∧P.length≤32767)(c:∀t∈T,CE (T.getD 0 []).length t=true)(d:∀x∈P,0≤x∧x<(T.length:Int)):Xm T P=true:=by unfold Xm;rw[Xr a,Xr b,VJ,VJ,Xg,XO,XO];exact⟨c,fun x a=>by rw[Zu];exact d x a⟩
def Gy(n t):CE n t=true↔t.length=n∧3≤t.length∧XA t=true:=by unfold CE;rw[Xg,Xg,Zu,Zu,and_assoc]
def Xw.int{w a n}{T:List (List Int)}(j:Xw w a n (T.map QK)){i t}(hi:T[i]?=some t):
 ∃b e d c,a=some ⟨b,e,none⟩∧w.cell? ⟨b,e+i,none⟩=some (.slice d t.length c)∧Qn w 1 d t.length (QK t)∧t.length≤c:=by
 obtain⟨b,e,d,c,k,f,g,h,-⟩:=j.at i (QK t) (by rw[ZJ,hi];rfl);rw[Xk]at f g h;exact⟨b,e,d,c,k,f,g,h⟩
def FR(b a e d T P w)(h:Xw w b T.length (T.map QK))(g:Qn w 1 a P.length (QK P))(c:T.length≤17592186043904)(c:P.length≤17592186043904)(k:∀t∈T,t.length≤17592186043904):
 Calls prog 207 #[QX b T.length e a P.length d] w (Pk (Xm T P) w):=by
 have⟨c,f⟩:=qb ((Qc [] w).alloc<|.cells #[.slice b T.length e,.slice a P.length d] 255)<|Qx w [.slice b T.length e,.slice a P.length d] 255;have⟨j,i,l⟩:=qc (h.kZ c.o) (g.kZ c.o) k;have b0:(w.alloc<|.cells #[.slice b T.length e,.slice a P.length d] 255).cell? ⟨w.heap.size,0,none⟩=some (.slice b T.length e):=f.o.cell (i:=0) rfl;have m:(w.alloc<|.cells #[.slice b T.length e,.slice a P.length d] 255).cell? ⟨w.heap.size,1,none⟩=some (.slice a P.length d):=f.o.cell (i:=1) rfl;clear h g k;unfold QX
 by_cases h:T.length<2
 ·have b:=Qa (IS (T:=T) (P:=P)<|.inl<|by omega);have g1:decide ((T.length:Int)<2)=true:=by simp;omega
  go_enter func207,Hs
  go_wp2
  go_ret;exact⟨by rw[b.o];rfl,c.o⟩
 have g1:decide ((T.length:Int)<2)=false:=by simp;omega
 by_cases p:6<T.length
 ·have b:=Qa (IS (T:=T) (P:=P)<|.inl<|by omega);have r:decide (6<(T.length:Int))=true:=by simp;omega
  go_enter func207,Hs
  go_wp2
  go_ret;exact⟨by rw[b.o];rfl,c.o⟩
 have r:decide (6<(T.length:Int))=false:=by simp;omega
 by_cases q:P.length<1
 ·have b:=Qa (IS (T:=T) (P:=P)<|.inr<|by omega);have g3:decide ((P.length:Int)<1)=true:=by simp;omega
  go_enter func207,Hs
  go_wp2
  go_ret;exact⟨by rw[b.o];rfl,c.o⟩
 have g3:decide ((P.length:Int)<1)=false:=by simp;omega
 by_cases s:32767<P.length
 ·have b:=Qa (IS (T:=T) (P:=P)<|.inr<|by omega);have g4:decide (32767<(P.length:Int))=true:=by simp;omega
  go_enter func207,Hs
  go_wp2
  go_ret;exact⟨by rw[b.o];rfl,c.o⟩
 have g4:decide (32767<(P.length:Int))=false:=by simp;omega
 obtain⟨t0,a⟩:∃t,T[0]?=some t:=⟨_,Qj<|by omega⟩;have o:=Qa (show(T.getD 0 []).length=t0.length by rw[List.getD,a];rfl);obtain⟨n,v,g,g,rfl,g,-,-⟩:=j.o.int a;rw[Y6]at g;obtain⟨k,u,rfl,-⟩:=i.o.at (by rw[Xk];omega);have:=l.o t0<|QC a;have:(0:Int)<T.length:=by omega
 clear a h p q s;go_enter func207,Hs;go_wp2_with fail;have⟨h,a⟩:=qx<|w.alloc<|.cells #[.slice (some ⟨n,v,none⟩) T.length e,.slice (some ⟨k,u,none⟩) P.length d] 255;rw[a]at b0 m g j i c ⊢;clear a f
 go_loopg [32] T.length (fun k m wr=>∃a:Nat,k=T.length-a∧a≤T.length∧m=.int .i64 (a:Nat)∧Hid (∀t∈T.take a,CE (T.getD 0 []).length t=true)∧h=wr)
 ·exact⟨0,by omega,by omega,rfl,Qa<|by simp,rfl⟩
 obtain⟨a,hk,hi,rfl,f,rfl⟩:=hrel;have g:=Qa hk;clear hk
 by_cases hlt:a<T.length
 ·have x:(a:Int)<T.length:=by omega
  have⟨t,e⟩:=qy T a hlt;obtain⟨d,d,p,q,d,u,s,-⟩:=j.o.int e;cases d;have:=l.o t<|QC e;have⟨d,n⟩:=qb e s;clear e s
  by_cases k1:t.length=t0.length
  ·have l:((t.length:Int) != (t0.length:Int))=false:=by simp;omega
   by_cases k2:t.length<3
   ·have q2:decide ((t.length:Int)<3)=true:=(by simp;omega);have b:=Qa<|Nk (P:=P) d.o (by rw[Bb];intro hh;rw[Gy]at hh;omega);clear k1
    go_wp2
    go_ret;exact⟨by rw[b.o];rfl,c.o⟩
   have q2:decide ((t.length:Int)<3)=false:=(by simp;omega);have s:=Qa k1;clear k1;cases hg:XA t with
   |false=>
    have⟨b,e⟩:=qb (Nk (P:=P) d.o (by rw[Bb];intro hh;rw[Gy,hg]at hh;exact absurd hh.2.2<|by simp)) (by unfold JZ;rw[hg];rfl:JZ t=80);clear hg;go_wp2_with fail;refine(Em p q t _ n.o<|by omega).mono ?_;rintro v y⟨rfl,rfl⟩;rw[e.o]
    go_wp2
    go_ret;exact⟨by rw[b.o];rfl,c.o⟩
   |true=>
    have⟨j,e⟩:=qb (by rw[Gy,o.o];exact⟨s.o,by omega,hg⟩:CE (T.getD 0 []).length t=true) (by unfold JZ;rw[hg];rfl:JZ t=0);clear hg;go_wp2_with fail;refine(Em p q t _ n.o<|by omega).mono ?_;rintro v y⟨rfl,rfl⟩;rw[e.o]
    go_wp2
    go_roundg (T.length-(a+1))
    ·refine⟨a+1,rfl,by omega,by simp,Qa fun n e=>?_,rfl⟩;rw[ZE,d.o]at e;rcases Q5.1 e with e|e
     ·exact f.o n e
     simp at e;rw[e];exact j.o
    have:=g.o;omega
  have l:((t.length:Int) != (t0.length:Int))=true:=by simp;omega
  have b:=Qa<|Nk (P:=P) d.o (by rw[Bb];intro hh;rw[Gy,o.o]at hh;omega)
  go_wp2
  go_ret;exact⟨by rw[b.o];rfl,c.o⟩
 obtain rfl:a=T.length:=by omega
 have o:¬(T.length:Int)<T.length:=by omega
 have d:=f.o;rw[Zd<|Ql _]at d;have n:=Qa d;clear d f g
 go_wp2
 go_loopg [58] P.length (fun k m wr=>∃a:Nat,k=P.length-a∧a≤P.length∧m=.int .i64 (a:Nat)∧Hid (∀d∈P.take a,0≤d∧d<(T.length:Int))∧h=wr)
 ·exact⟨0,by omega,by omega,rfl,Qa<|by simp,rfl⟩
 obtain⟨a,hk,hi,rfl,f,rfl⟩:=hrel;have g:=Qa hk;clear hk
 by_cases hlt:a<P.length
 ·have x:(a:Int)<P.length:=by omega
  have⟨d,k⟩:=qy P a hlt;have u:=i.o.int k;have h:=Qa k;clear k
  by_cases k1:d<0
  ·have l:decide (d<0)=true:=Xr k1;have b:=Qa (dI (T:=T) h.o<|.inl k1)
   go_wp2
   go_ret;exact⟨by rw[b.o];rfl,c.o⟩
  have l:decide (d<0)=false:=XI k1
  by_cases k2:(T.length:Int)≤d
  ·have q2:decide ((T.length:Int)≤d)=true:=Xr k2;have b:=Qa (dI (T:=T) h.o<|.inr k2)
   go_wp2
   go_ret;exact⟨by rw[b.o];rfl,c.o⟩
  have q2:decide ((T.length:Int)≤d)=false:=XI k2
  go_wp2
  go_roundg (P.length-(a+1))
  ·refine⟨a+1,rfl,by omega,by simp,Qa fun d b=>?_,rfl⟩;rw[ZE,h.o]at b;rcases Q5.1 b with e|e
   ·exact f.o d e
   simp at e;omega
  have:=g.o;omega
 obtain rfl:a=P.length:=by omega
 have o:¬(P.length:Int)<P.length:=by omega
 have j:=Qa (show Xm T P=true by
  have hb:=f.o;rw[Zd<|Ql _]at hb;have a:2≤T.length∧T.length≤6:=by simp at g1 r;omega
  have a2:1≤P.length∧P.length≤32767:=by simp at g3 g4;omega
  exact dJ a a2 n.o hb)
 go_wp2
 go_ret;exact⟨by rw[j.o];rfl,c.o⟩
def pU(w:World):(prog.info? 3).map (·.size)=some 1:=by kernel_rfl
def AP{l}{i x:Nat}(a:l[i]?=some x):(Qi l)[i]?=some (.int .i64 (x:Int)):=by simp[Qi,a]
def nR(n:Nat)(w:World)(e:Ending)(w':World):Prop:=
 ∃a,e=.returned (.slice (some ⟨a,0,none⟩) n n)∧Qh w' 3 (.slice (some ⟨a,0,none⟩) n n) (Qi (List.range n))∧Qb [] w w'∧w.heap.size≤a
def aJ(n:Nat)(w)(hn:n≤1000):Calls prog 208 #[n] w (nR n w):=by
 go_enter func208,ntmps208;go_wp2_with ((at_make;refine Y0 rfl _ _ 51 rfl 3 (0:Int) 8 XH XR rfl .i64 .i64 _ _ n n rfl rfl rfl rfl (Ql _) (by omega) (by simp only[maxLen];omega) ?_;intro w1 y h2));rw[show List.replicate n (Value.int .i64 0)=Qi (List.replicate n 0)by simp[Qi]]at y;have⟨g,hg⟩:=qx w.heap.size;have HG:=Qa (by omega:w.heap.size≤g);rw[hg]at y ⊢;have⟨o,q⟩:=qb y h2
 go_loopg [9] n (fun k v wr=>∃i:Nat,k=n-i∧i≤n∧v=.int .i64 (i:Nat)∧Hid (Qh wr 3 (.slice (some ⟨g,0,none⟩) n n)<|Qi<|List.range i++List.replicate (n-i) 0)∧Hid (Qb [] w wr))
 ·exact⟨0,by omega,by omega,rfl,o,q⟩
 obtain⟨i,hk,hi,rfl,o,q⟩:=hrel;have Hk:=Qa hk
 by_cases hlt:i<n
 ·have h3:(i:Int)<n:=by omega
  have hz:(List.range i++List.replicate (n-i) 0)[i]?=some 0:=by rw[Zy<|by simp,U6,ZM,VM,Qg<|by omega]
  have c0:=o.o.aZ<|AP hz;have f0:=o.o.free i
  go_wp2
  go_roundg (n-(i+1))
  ·have h1:=o.o.put i (i:Int);have e:(Qi<|List.range i++List.replicate (n-i) 0).set i (i:Int)=Qi (List.range (i+1)++List.replicate (n-(i+1)) 0):=(by unfold Qi;rw[←Bj,Vo _ _<|by simp,U6,ZM,show n-i=(n-(i+1))+1 by omega,Y4,UN,JE,QN];rfl);rw[e]at h1;exact⟨i+1,by omega,by omega,by simp,Qa h1,Qa<|q.o.setCell (p:=⟨g,i,none⟩) (.inr HG.o) _⟩
  have:=Hk.o;omega
 obtain rfl:i=n:=by omega
 have h4:¬(i:Int)<i:=by omega
 go_wp2
 go_ret;have h:=o.o;rw[ZM,CQ,XP]at h;exact⟨g,rfl,h,q.o,HG.o⟩
def dZ(l):∀u∈Qi l,u.oneCell'=true:=by intro u a;obtain⟨b,-,rfl⟩:=Qy.1 a;rfl
def aH(g c p:Nat)(l w)(hp:p<l.length)(a:l.length≤c)(a:2≤c)(a:l.length≤1000)(j:QI w g (Qi l)):
 Calls prog 209 #[.slice g l.length c,p] w fun e w'=>e=.returned (l.getD p 0:Nat)∧QI w' g (Qi<|K.turned l p)∧Qb [g] w w':=by
 have o:l[p]?=some (l.getD p 0):=by rw[List.getD,Qj hp];rfl
 have c0:=j.cell<|AP o;have:IntKind.i64.wrap ((p:Int)+1)=(p:Int)+1:=Q2 _ (by omega);obtain⟨h0,_,_,_,_,_⟩:(0:Int)≤p+1∧((p:Int)+1).toNat=p+1∧(p:Int)≤c∧(p:Int)+1≤(c:Int)∧(1:Int)≤p+1∧(p:Int)<l.length:=by omega
 have k:((Qi l).take p).length=p:=by rw[Zn,QD];omega
 have n:1+((Qi l).take p).length≤(Qi l).length:=by rw[k,QD];omega
 have r:∀b a,((Qi l).take p)[b]?=some a→w.cell? ⟨g,b,none⟩=some a:=fun b a d=>j.cell (by
  rw[Bi]at d
  split at d
  ·exact d
  cases d)
 have q:=iR (fun h:Nat=>Value.int .i64 (h:Int)) l p hp;have z:l.getD p default=l.getD p 0:=rfl;have⟨s,v,t,m,x,u⟩:=qf j (fun a (f:a∈(Qi l).take p)=>dZ l a<|VN f) k n r q;obtain⟨_,_⟩:(1:Int)<c∧¬c=1:=by omega
 have⟨f,i⟩:=qx<|l.getD p 0;have y:=Qa i;rw[i]at c0 ⊢;go_enter func209,ntmps209;go_wp2_with fail;have k:0<((Qi l).take p).length→(some ⟨g,1,none⟩:Option Addr)=some ⟨g,1,none⟩∧∃j:Addr,(some ⟨g,0,none⟩:Option Addr)=some j∧∀b a,((Qi l).take p)[b]?=some a→w.cell? (j.add b)=some a:=
  fun _=>⟨rfl,_,rfl,fun b a d=>by rw[YK,Zz];exact x.o b a d⟩
 have a:=Qa k
 go_region_held3 (fun w'=>True) (exact trivial)
  (first
    |(refine Kv rfl _ _ 51 51 rfl 3 XH (pU w) (some ⟨g,1,none⟩) g p (c-1) p c rfl rfl g 1 (Qi l) ((Qi l).take p) (s.o.kept (Qc [] w).drew<|by simp) (by rw[t.o];exact(Nat.min_self p).symm) a.o m.o v.o ?_;intro k b j))
 have d:(splice (Qi l) 1<|(Qi l).take p).length=l.length:=by rw[MZ _ _ _ m.o,QD]
 have:=b.cell<|Qj (by rw[d];omega:0<(splice (Qi l) 1<|(Qi l).take p).length);have:=b.free (by rw[d];omega:0<(splice (Qi l) 1<|(Qi l).take p).length);have a:=b.set 0 (.int .i64 (f:Int)) (by rw[d];omega);have a:QI (k.setCell ⟨g,0,none⟩<|.int .i64 (f:Int)) g (Qi<|K.turned l p):=by have e:=u.o;have d:splice (Qi l) 1 ((Qi l).take p)=splice (l.map fun h:Nat=>Value.int .i64 (h:Int)) 1 ((l.map fun h:Nat=>Value.int .i64 (h:Int)).take p):=rfl;rw[d]at a;have d:l.getD p default=f:=y.o;rw[d]at e;rwa[Qi,←e]
 have d:=Qa a
 go_wp2
 go_ret;exact⟨rfl,d.o,((Qc [g] w).drew.trans j fun f i=>.inl i).setCell (by simp) _⟩
structure Xv(w:World)(aT aP:Option Addr)(cT cP:Nat)(T:List (List Int))(P:List Int):Prop where
 tabs:Xw w aT T.length (T.map QK)
 picks:Qn w 1 aP P.length (QK P)
 tl:T.length≤17592186043904
 pl:P.length≤17592186043904
 rl:∀t∈T,t.length≤17592186043904
def Xv.kept{w w' c b e d T P}(a:Xv w c b e d T P)(hk:Qb [] w w'):Xv w' c b e d T P:=
 ⟨a.tabs.kZ hk,a.picks.kZ hk,a.tl,a.pl,a.rl⟩
def Qf.alloc{w g t xs}(b:Qf w g t xs)(a):Qf (w.alloc a) g t xs:=b.kept ((Qc [] w).alloc a) (by simp)
def Qf.newAt(w:World)(xs t g)(a:w.heap.size=g):Qf (w.alloc<|.cells xs.toArray t) g t xs:=a▸Qx w xs t
def CF(s:ByteArray):s.data.toList.length=s.size:=by simp only[Rf];rfl
def XC(s:ByteArray):(Qk s.data.toList).length=8*s.size:=by rw[Yq,CF]
def pI(r a:Nat)(s:ByteArray)(i:Nat)(n:Int)(w:World)(p:Nat × Nat)(e:Ending)(w':World):Prop:=
 e=.returned (.tuple #[.int .u64 p.1,p.2])∧Rd w' r a s (if p.2=0 then i+n.toNat else i)∧Qb [r] w w'
def BM(r e s i)(n:Int)(w)(b:Rd w r e s i)(hs:s.size≤1125899906842624)(hi:i≤8*s.size):
 Calls prog 171 #[.pointer r,n] w (pI r e s i n w<|QH (Qk s.data.toList) i n):=by
 by_cases f:n<0∨64<n
 ·have c:QH (Qk s.data.toList) i n=(0,2):=by simp[QH,f]
  rw[c];exact(Qg6 r e s i n w b f).mono fun h j ⟨d,hw⟩=>⟨d,by rw[←hw];simpa using b,by rw[←hw];exact Qc _ _⟩
 obtain⟨a,rfl⟩:=X5 (by omega:0≤n)
 by_cases g:8*s.size<i+a
 ·have c:QH (Qk s.data.toList) i a=(0,10):=by unfold QH;rw[Qe f,Qg (by rw[XC];simpa using g)]
  rw[c];exact(Qg8 r e s i a w b hs hi (by omega) g).mono fun h j ⟨d,k,hw⟩=>⟨d,by rwa[hw],by rw[hw];exact(Qc _ _).drewN _⟩
 have c:QH (Qk s.data.toList) i a=(K.num<|QS (Qk s.data.toList) i a,0):=by unfold QH;rw[Qe f,Qe (by rw[XC];simpa using g)];rfl
 rw[c];exact(Qg7 r e s i a w b hs (by omega)<|by omega).mono fun h j ⟨d,a,b⟩=>⟨d,by simpa using a,b⟩
def Qho(r a s i)(n:Int)(w)(b:Rd w r a s i)(hs:s.size≤1125899906842624)(hi:i≤8*s.size):
 Calls prog 223 #[.pointer r,n] w (Tf r a s i w<|DG (Qk s.data.toList) i n):=by
 by_cases d:n<0
 ·have c:DG (Qk s.data.toList) i n=(0,2):=by simp[DG,d]
  rw[c];exact(Qhp r a s i n w b d).mono fun e e ⟨e,hw⟩=>⟨e,by rw[←hw];simpa using b,by rw[←hw];exact Qc _ _⟩
 have c:DG (Qk s.data.toList) i n=ZR n 0 ((Qk s.data.toList).drop i):=by simp[DG,d]
 rw[c];exact Qhr r a s i n w b hs hi (by omega)
def sK(x r:Nat):(((x:Int)*2^r%256==0):Bool)=(x*2^r%256==0):=by
 have a:(x:Int)*2^r=((x*2^r:Nat):Int):=by push_cast;rfl
 rw[a];generalize x*2^r=y;have a:(y:Int)%256=((y%256:Nat):Int):=by omega
 rw[a];generalize y%256=z;rw[DJ];simp
def Qa1(s:ByteArray)(n:Int)(w)(hs:s.size≤140737488351232)(c:n≤9223372036854775807):
 Calls prog 169 #[.agg #[s,n]] w fun e w'=>e=.returned (.bool<|Ue s.data.toList n)∧Qb [] w w':=by
 by_cases h0:n<0
 ·have a:Ue s.data.toList n=false:=by unfold Ue;rw[XI<|by omega];rfl
  rw[a];have g1:decide (n<0)=true:=by simpa using h0
  clear a c;go_enter func169,LB
  go_wp2
  go_ret;exact⟨rfl,(Qc _ _).alloc _⟩
 obtain⟨n,rfl⟩:=X5 (by omega:0≤n);have g1:decide ((n:Int)<0)=false:=by simp
 have b:=CF s;have:(n:Int)/8≤1152921504606846976:=by omega
 by_cases a:s.size=n/8+(n%8+7)/8
 ·by_cases f:n%8=0
  ·rw[Qau _ _ (by rwa[b]) f];have g:((s.size:Int) != (n:Int)/8+((n:Int)%8+7)/8)=false:=(by simp;omega);have t2:((n:Int)%8==0)=true:=(by simp;omega);have d:=Qa a;clear a b c hs;go_enter func169,LB
   go_wp2
   have h:(n:Int).tmod 8=(n:Int)%8:=BP (by omega);go_quiet (fail)
   go_wp2
   go_ret;exact⟨rfl,((Qc _ _).alloc _).drewN _⟩
  rw[Qaw _ _ (by rwa[b]) f,b];have g:((s.size:Int) != (n:Int)/8+((n:Int)%8+7)/8)=false:=by simp;omega
  have t2:((n:Int)%8==0)=false:=by simp;omega
  have hlt:s.size-1<s.size:=by omega
  have:(1:Int)≤s.size:=by omega
  have t9:1≤s.size:=by omega
  have:0<s.size:=by omega
  obtain⟨t3,t4⟩:(0:Int)≤s.size-1∧(s.size:Int)-1<(s.size:Int):=by omega
  have t5:IntKind.i64.wrap ((s.size:Int)-1)=(s.size:Int)-1:=Q2 _ (by omega);have:((s.size:Int)-1).toNat=s.size-1:=by omega
  have⟨d,f⟩:=qb a b;clear a b c hs;go_enter func169,LB
  go_wp2
  have h:(n:Int).tmod 8=(n:Int)%8:=BP (by omega);go_quiet (fail)
  go_wp2
  go_ret;refine⟨?_,((Qc _ _).alloc _).drewN _⟩;have h:s.data.toList.getD (s.size-1) 0=s[s.size-1]'hlt:=by have:s.size-1<s.data.toList.length:=(by rw[f.o];exact hlt);rw[List.getD,Qj this];rfl
  rw[h];have f:=sK (s[s.size-1]'hlt).toNat<|n%8;rw[←f];rfl
 rw[Qav _ _<|by rwa[b]];have g:((s.size:Int) != (n:Int)/8+((n:Int)%8+7)/8)=true:=by simp;omega
 have d:=Qa a;clear a b c hs;go_enter func169,LB
 go_wp2
 go_ret;exact⟨rfl,(Qc _ _).alloc _⟩
def Zf(p:List UInt8 × Int × Nat):Value:=.tuple #[.agg #[.string ⟨p.1.toArray⟩,p.2.1],p.2.2]
def OB(s:ByteArray)(p)(a:p<8*s.size):QH (Qk s.data.toList) p 1=((X3 s.data.toList p).toNat,0):=by unfold QH;rw[Qe<|by omega,Qe (by rw[XC];simp;omega),show(1:Int).toNat=1 from rfl,Qc4 _ _<|by rwa[CF],Qby]
def low_bit(b):K.low ((b.toNat:Nat):Int).toNat (1:Int).toNat=[b]:=by rw[Zw];exact Qaj b
def Yk(a:List (ByteArray × Int)):List Value:=a.flatMap fun a=>[.string a.1,.int .i64 a.2]
def rM(a):(Yk a).length=a.length*2:=by
 induction a with
 |nil=>rfl
 |cons p a ih=>simp[Yk]at ih ⊢;omega
def Ty(a i p)(b:a[i]?=some p):(Yk a)[i*2]?=some (.string p.1)∧(Yk a)[i*2+1]?=some (.int .i64 p.2):=by
 induction a generalizing i with
 |nil=>simp at b
 |cons q a ih=>
  cases i with
  |zero=>simp at b;subst b;simp[Yk]
  |succ i=>have:=ih i (by simpa using b);have b:Yk (q::a)=.string q.1:: .int .i64 q.2::Yk a:=(by simp[Yk]);rw[b,show(i+1)*2=i*2+1+1 by omega];simpa using this
def Yo(a:List (ByteArray × Int)):List (List UInt8 × Int):=a.map fun a=>(a.1.data.toList,a.2)
def Qdd(a)(i:Nat)(p)(b:a[i]?=some p):(Yo a)[i]?=some (p.1.data.toList,p.2):=by simp[Yo,b]
def mU(w0:World)(d:List (List UInt8 × Int))(b:Nat)(k:Nat)(c:Value)(w:World):Prop:=
 ∃a e,a≤d.length∧k=d.length-a∧c=.int .i64 (a:Nat)∧((d.take a).all fun f=>Ue f.1 f.2)=true∧Wr w b e (Ym (d.take a))∧Qb [] w0 w∧Qs w0.heap.size (b::Qd e)
def mV(w0:World)(s:ByteArray)(bs:List Bool)(r e b n:Nat)(k:Nat)(c:Value)(w:World):Prop:=
 ∃a d,a≤n∧k=n-a∧c=.int .i64 (a:Nat)∧Rd w r e s a∧Wr w b d (bs++(Qk s.data.toList).take a)∧Qr [r,e] (b::Qd d)∧Qb [] w0 w∧Qs w0.heap.size (b::Qd d)
def bN(a cap ps w)(h:Qn w 2 a ps.length (Yk ps))(hT:Jg (Yo ps)≤1000000)(b8:ps.length≤140737488351232)(hp:∀p∈ps,p.2≤9223372036854775807):
 Calls prog 121 #[.slice a ps.length cap] w fun e w'=>e=.returned (Zf<|BA<|Yo ps)∧Qb [] w w':=by
 have q1:(Yo ps).length=ps.length:=by simp[Yo]
 have⟨h5,HP,HS⟩:=qc q1 hp h;go_enter func121,ntmps121;go_wp2_with fail;have x5:(w.alloc<|.cells #[.string ⟨#[]⟩,(0:Int)] 204).heap[w.heap.size]?=some (.cells #[.string ⟨#[]⟩,(0:Int)] 204 (0,0)):=Xe _ _;have y4:Qb [] w (w.alloc<|.cells #[.string ⟨#[]⟩,(0:Int)] 204):=(Qc _ _).alloc _;have y9:(w.alloc<|.cells #[.string ⟨#[]⟩,(0:Int)] 204).heap.size=w.heap.size+1:=by simp
 generalize w.alloc (.cells #[.string ⟨#[]⟩,(0:Int)] 204)=W0 at x5 y4 y9 ⊢;have⟨z1,x3,b5⟩:=qc x5 y4 y9;refine(Dv _).mono ?_;rintro e w1⟨b,rfl,hw,p6,hb⟩
 go_wp2
 go_loopg [13] ps.length (fun k c wr=>mU W0 (Yo ps) b k c wr)
 ·exact⟨0,_,by omega,by rw[h5.o];omega,rfl,rfl,hw,p6,hb⟩
 obtain⟨j,o,hj,hk,rfl,p0,h2,h1,h3⟩:=hrel;rw[h5.o]at hj hk;have⟨Hk,x2⟩:=qb hk p0
 by_cases hlt:j<ps.length
 ·have q5:=HS.o.kZ (x3.o.new h1<|by simp[Qs]);obtain⟨b0,c5,rfl,x6⟩:=q5.at (by rw[rM];omega);obtain⟨⟨t,N⟩,h8⟩:∃p,ps[j]?=some p:=⟨_,Qj hlt⟩;have c0:=x6 _ _ (Ty ps j _ h8).1;have c1:=x6 _ _ (Ty ps j _ h8).2;rw[←Jj]at c1;have b7:(j:Int)<ps.length:=by omega
  have hN:=HP.o _<|QC h8;have y6:=Qdd ps j _ h8;have q7:=Qhd _ _ _ y6;simp only[CF]at q7;have b9:t.size≤1000000:=by omega
  have⟨x4,z7,x0,r4,HN⟩:=qe y6 h2 h1 h3 hN;go_wp2_with fail;have x7:(wr.alloc<|.cells #[t,N] 204).heap[wr.heap.size]?=some (.cells #[t,N] 204 (0,0)):=Xe _ _;have y3:Qb [] wr (wr.alloc<|.cells #[t,N] 204):=(Qc _ _).alloc _;generalize wr.alloc (.cells #[t,N] 204)=WA at x7 y3 ⊢;refine(Qa1 t N _ (by omega) HN.o).mono ?_;rintro e w2⟨rfl,x9⟩;have p7:=y3.new x9 (by simp[Qs]);have p4:=x9.heap x7 (by simp);have⟨h4,z6⟩:=qb p7 p4;rcases Jv (Ue t.data.toList N)with hM|hM
  ·rw[hM];have y7:=Qax _ _ hM;rw[CF]at y7;obtain⟨n,rfl⟩:=X5 y7.1;have hn:n≤8*t.size:=(by omega);have HM:=Qa hM;have e0:w2.cell? ⟨wr.heap.size,0,none⟩=_:=Zt w2 wr.heap.size 0 _ _ _ z6.o;simp at e0;go_wp2_with fail;refine(BD _ _ _ (by omega) (by decide)<|by simp).mono ?_;rintro e w3⟨r,q,rfl,hr,y0,y8⟩;have hr:Rd w3 r q t 0:=hr;have e1:w3.cell? ⟨wr.heap.size,1,none⟩=_:=Zt w3 wr.heap.size 1 _ _ _ (y0.heap z6.o<|by simp);simp at e1;have x1:=h4.o.new y0 (by simp[Qs]);have q9:=z7.o.kept x1<|Z9 _;have p1:Qr [r,q] (b::Qd o):=(Qr.fresh (fun x hx=>Bl (z7.o.lt x hx) h4.o.size) y8).symm;have p5:=x0.o.new x1 (by simp[Qs]);have q4:Qs W0.heap.size [r,q]:=y8.mono<|QU x0.o.size h4.o.size;have⟨r9,b4⟩:=qb q4 x1;have a8:=zF<|(Yo ps).take j;have p3:=Qhe (Yo ps) j;have b6:(Ym<|(Yo ps).take j).length≤8000000:=by omega
   go_wp2
   go_loopg [26] n (fun k c wr=>mV W0 t (Ym<|(Yo ps).take j) r q b n k c wr)
   ·exact⟨0,o,by omega,by omega,rfl,hr,by simpa using q9,p1,p5,r4.o⟩
   obtain⟨x,o,hx,hk,rfl,q3,h2,hap,h1,h3⟩:=hrel;have a6:=Qa hk
   by_cases c4:x<n
   ·have z8:=OB t x (by omega);have q8:=rL t.data.toList x (by rw[CF];omega);have⟨r7,a1⟩:=qb q8 z8;have p2:(Ym ((Yo ps).take j)++(Qk t.data.toList).take x).length≤1000000000000:=(by rw[Qo,Zn];omega);have r3:=Qa p2;go_wp2_with fail;refine(BM r q t x 1 _ q3 (by omega)<|by omega).mono ?_;rintro e w4 q0;rw[a1.o]at q0;obtain⟨rfl,h9,y1⟩:=q0;have h9:Rd w4 r q t (x+1):=h9;have r0:=h2.kept y1 (hap.sub<|by simp).symm;have y5:=h1.new y1 fun y hy=>r9.o y (by simp at hy;simp[hy]);have p3:=DK<|X3 t.data.toList x;go_wp2_with fail;refine(V7 b _ _ o _ _ (by decide) (by decide) (by omega) (by simp;omega) r3.o r0).mono ?_;rintro e w5⟨rfl,o5,r1,y2,x8⟩;rw[low_bit,QN,←r7.o]at r1;have b3:=h9.kept y2 hap;have a7:=hap.grow h9.lt x8;have b1:=h3.grow x8 y5.size;have b2:=y5.new y2 h3
    go_wp2
    go_roundg (n-(x+1))
    ·exact⟨x+1,o5,by omega,rfl,by go_num,b3,r1,a7,b2,b1⟩
    have:=a6.o;omega
   obtain rfl:x=n:=by omega
   go_wp2
   go_roundg (ps.length-(j+1))
   ·refine⟨j+1,o,by rw[h5.o];omega,by rw[h5.o],by go_num,?_,?_,h1,h3⟩
    ·rw[qS _ _ _ _ x4.o,x2.o];exact HM.o
    rwa[zH _ _ _ x4.o]
   have:=Hk.o;omega
  rw[hM];have p9:=zI _ _ _ x4.o hM;have r6:=Qa p9;have hh:=h4.o.heap (x0.o.heap z1.o<|by simp) (by simp);have c0:w2.cell? ⟨w.heap.size,0,none⟩=_:=Zt w2 w.heap.size 0 _ _ _ hh;have c1:w2.cell? ⟨w.heap.size,1,none⟩=_:=Zt w2 w.heap.size 1 _ _ _ hh;have f0:=Uc w2 w.heap.size 0 _ _ hh;have f1:=Uc w2 w.heap.size 1 _ _ hh;simp at c0 c1;go_wp2_with fail;rw[r6.o];refine Q9 (v:=Zf ([],0,2)) (by simp[results,results121,go_sem,c0,c1,Zf]) rfl ⟨rfl,?_⟩;exact((x3.o.new x0.o<|by simp[Qs]).new h4.o<|by simp[Qs]).setCell (.inr<|Ql _) _|>.setCell (.inr<|Ql _) _
 obtain rfl:j=ps.length:=by omega
 have q6:(Yo ps).take ps.length=Yo ps:=Zd (by rw[h5.o];omega);rw[q6]at h2 x2;have r2:BA (Yo ps)=(Qu<|Ym<|Yo ps,(((Ym<|Yo ps).length:Nat):Int),0):=by unfold BA;rw[x2.o];rfl
 have HY:=Qa r2;have hh:=h1.heap z1.o (by simp);have c0:wr.cell? ⟨w.heap.size,0,none⟩=_:=Zt wr w.heap.size 0 _ _ _ hh;have c1:wr.cell? ⟨w.heap.size,1,none⟩=_:=Zt wr w.heap.size 1 _ _ _ hh;have f0:=Uc wr w.heap.size 0 _ _ hh;have f1:=Uc wr w.heap.size 1 _ _ hh;simp at c0 c1;have p8:=x3.o.new h1 (by simp[Qs]);have r5:=Qa p8;go_wp2_with fail;refine(DC _ _ _ _ h2).mono ?_;rintro e w'⟨rfl,rfl⟩;go_wp2_with fail;refine(Dr _ _ _ _ h2).mono ?_;rintro e w'⟨rfl,rfl⟩;go_wp2_with fail;rw[HY.o];refine Q9 (v:=Zf (Qu<|Ym<|Yo ps,(((Ym<|Yo ps).length:Nat):Int),0)) (by simp[results,results121,go_sem,c0,c1,Zf]) rfl ⟨rfl,?_⟩;exact(r5.o.setCell (.inr<|Ql _) _).setCell (.inr<|Ql _) _
def lX(w0:World)(xs:List Int)(k:Nat)(c:Value)(w:World):Prop:=
 ∃a,a≤xs.length∧k=xs.length-a∧c=.int .i64 (a:Nat)∧((xs.take a).all fun a=>decide (1≤a∧a≤20))=true∧Qb [] w0 w
def lY(w0:World)(xs:List Int)(b:Nat)(k:Nat)(s c:Value)(w:World):Prop:=
 ∃a d e f,a≤xs.length∧k=xs.length-a∧c=.int .i64 (a:Nat)∧s=.int .i64 d∧(1≤d∧d≤20)∧Q0 xs=e++U3 d (xs.drop a)∧Wr w b f e∧Qb [] w0 w∧Qs w0.heap.size (b::Qd f)
def Pd(w0:World)(T:List Bool)(x:Int)(e:List Bool)(b:Nat)(m:Int→Nat)(good:Int→Prop)(k:Nat)(s:Value)(w:World):Prop:=
 ∃a c d,k=m a∧s=.int .i64 a∧(1≤a∧a≤20)∧good a∧T=c++(Vh a x++e)∧Wr w b d c∧Qb [] w0 w∧Qs w0.heap.size (b::Qd d)
def uT(a cap xs w)(b:Qn w 1 a xs.length (QK xs))(c:xs.length≤140737488351232):
 Calls prog 210 #[.slice a xs.length cap] w fun e w'=>e=.returned (Zf<|BK xs)∧Qb [] w w':=by
 have q:=Qa b;clear b
 by_cases Q:2≤xs.length∧xs.length≤258
 ·have g1:decide ((xs.length:Int)<2)=false:=by simp;omega
  have I:decide (258<(xs.length:Int))=false:=by simp;omega
  go_enter func210,Sk;go_wp2_with fail;have b:(w.alloc<|.cells #[.string ⟨#[]⟩,(0:Int)] 204).heap[w.heap.size]?=some (.cells #[.string ⟨#[]⟩,(0:Int)] 204 (0,0)):=Xe _ _;have c:Qb [] w (w.alloc<|.cells #[.string ⟨#[]⟩,(0:Int)] 204):=(Qc _ _).alloc _;generalize w.alloc (.cells #[.string ⟨#[]⟩,(0:Int)] 204)=W0 at b c ⊢;have⟨O,t⟩:=qb b c;clear b c g1 I
  go_loopg [21] xs.length (fun s z wr=>lX W0 xs s z wr)
  ·exact⟨0,by omega,by omega,rfl,rfl,Qc _ _⟩
  obtain⟨d,hi,hk,rfl,b,c⟩:=hrel;have⟨M,f,i⟩:=qc hk b c;clear hk b
  by_cases hlt:d<xs.length
  ·obtain⟨b0,B,rfl,k⟩:=(q.o.kZ<|t.o.new c<|by simp[Qs]).at (by rw[Xk];omega);have⟨b,n⟩:=qy xs d hlt;have c0:=k _ _<|ED xs d _ n;have G:(d:Int)<xs.length:=(by omega);have g:xs.take (d+1)=xs.take d++[b]:=(by rw[ZE,n];rfl);have⟨h,j⟩:=qb g n;clear k n g c
   by_cases g:1≤b∧b≤20
   ·have g1:decide (b<1)=false:=(by simp;omega);have I:decide (20<b)=false:=by simp;omega
    go_wp2
    go_roundg (xs.length-(d+1))
    ·exact⟨d+1,by omega,rfl,by go_num,by rw[h.o,List.all_append,f.o];simp;exact g,i.o⟩
    have:=M.o;omega
   have D:BK xs=([],0,80):=(by unfold BK;rw[bV xs d b j.o<|by omega];rfl);have y:=Qa D;have hh:=i.o.heap O.o (by simp);have u:wr.cell? ⟨w.heap.size,0,none⟩=_:=Zt wr w.heap.size 0 _ _ _ hh;have x:wr.cell? ⟨w.heap.size,1,none⟩=_:=Zt wr w.heap.size 1 _ _ _ hh;have V:=Uc wr w.heap.size 0 _ _ hh;have W:=Uc wr w.heap.size 1 _ _ hh;simp at u x;have H:=Qa (t.o.new i.o<|by simp[Qs]);clear D hh
   by_cases m:b<1
   ·have g1:decide (b<1)=true:=(by simp;omega);go_wp2_with fail;rw[y.o];refine Q9 (v:=Zf ([],0,80)) (by simp[results,Ht,go_sem,u,x,Zf]) rfl ⟨rfl,?_⟩;exact(H.o.setCell (.inr<|Ql _) _).setCell (.inr<|Ql _) _
   have g1:decide (b<1)=false:=(by simp;omega);have I:decide (20<b)=true:=(by simp;omega);go_wp2_with fail;rw[y.o];refine Q9 (v:=Zf ([],0,80)) (by simp[results,Ht,go_sem,u,x,Zf]) rfl ⟨rfl,?_⟩;exact(H.o.setCell (.inr<|Ql _) _).setCell (.inr<|Ql _) _
  obtain rfl:d=xs.length:=by omega
  have j:Jn xs=true:=by have m:=f.o;rw[Zd<|Ql _]at m;unfold Jn;rw[m];simp;exact Q
  have o:=((UC xs).1 j).2;obtain⟨f,l⟩:∃b,xs[0]?=some b:=⟨_,Qj<|by omega⟩;have p:xs.headD 0=f:=by cases xs with
   |nil=>simp at l
   |cons g ys=>simpa using l
  have X:=o f<|QC l;have:=Gt xs j;have r:BK xs=(Qu<|Q0 xs,(((Q0 xs).length:Nat):Int),0):=by unfold BK;rw[j];rfl
  have h:Q0 xs=K.low f.toNat 5++U3 f (xs.drop 0):=by unfold Q0;rw[p];rfl
  have⟨U,S,R,C⟩:=qd r h o l;clear r h j o p c;go_wp2_with fail;refine(Dv _).mono ?_;rintro e j⟨j,rfl,L,A,o⟩;have l:=i.o.new A (by simp[Qs]);have o:Qs W0.heap.size (j::Qd (.slice none 0 0)):=o.mono i.o.size;obtain⟨b0,B,rfl,k⟩:=(q.o.kZ<|t.o.new l<|by simp[Qs]).at (by rw[Xk];omega);have c0:=k _ _<|ED xs 0 _ C.o;rw[Y6]at c0;have G:(0:Int)<xs.length:=by omega
  have:IntKind.u64.wrap f=f:=by rw[JA];omega
  clear k l;go_wp2_with fail;refine(V7 j f 5 _ _ _ (by decide) (by decide) (by omega) (by simp;omega) (by simp) L).mono ?_;rintro e p⟨rfl,P,r,J,E⟩;have r:Wr p j P (K.low f.toNat 5):=r;have l:=i.o.new A (by simp[Qs]);have B:=l.new J o;have F:=o.grow E l.size;obtain⟨T,Y,p,k⟩:=(q.o.kZ<|t.o.new B<|by simp[Qs]).at (by rw[Xk];omega);have c0:=k _ _<|ED xs 0 _ C.o;rw[Y6]at c0;injection p with p;injection p with m h2;subst m h2;clear k L A J E o l
  go_wp2
  go_loopg [7,45] xs.length (fun s E z wr=>lY W0 xs j s E z wr)
  ·exact⟨0,f,_,P,by omega,by omega,rfl,rfl,X,S.o,r,B,F⟩
  obtain⟨d,z,l,J,hi,hk,rfl,rfl,A,o,i,c,f⟩:=hrel;have⟨M,P⟩:=qb hk o;clear hk o r B F c0
  by_cases hlt:d<xs.length
  ·obtain⟨T,Y,p,k⟩:=(q.o.kZ<|t.o.new c<|by simp[Qs]).at (by rw[Xk];omega);have⟨b,n⟩:=qy xs d hlt;have c1:=k _ _<|ED xs d _ n;injection p with p;injection p with m h2;subst m h2;have:=R.o b<|QC n;have p:xs.drop d=b::xs.drop (d+1):=(by obtain⟨m,rfl⟩:=Qz.1 n;exact Xa m);have r:=P.o;rw[p,Oi]at r;have q:=Qa r;have G:(d:Int)<xs.length:=(by omega);clear k n p r;have⟨p,n,k⟩:=qc i c f;clear i c f
   go_wp2
   go_loopg [7] (b-z).toNat (fun s E wr=>Pd W0 (Q0 xs) b (U3 b<|xs.drop<|d+1) j (fun g=>(b-g).toNat) (fun _=>True) s E wr)
   ·exact⟨z,l,J,rfl,rfl,A,trivial,q.o,p.o,n.o,k.o⟩
   obtain⟨g,l,J,hk,rfl,X,-,o,i,c,f⟩:=hrel;have⟨R,L⟩:=qb hk o;clear hk o c1
   by_cases k:g<b
   ·have h:=L.o;rw[jE g b k]at h;have A:l.length≤1000000000000:=(by have:=Qq List.length L.o;rw[Qo]at this;omega);have⟨z,G⟩:=qb h A;have Y:IntKind.i64.wrap (g+1)=g+1:=Q2 _ (by omega);clear h A;go_wp2_with fail;refine(V7 j 2 2 _ _ _ (by decide) (by decide) (by decide) (by decide) G.o i).mono ?_;rintro e F⟨rfl,q,k,p,n⟩;have k:Wr F j q (l++[true,false]):=k;have C:=c.new p f;have B:=f.grow n c.size;clear i c f p n
    go_wp2
    go_roundg (b-(g+1)).toNat
    ·exact⟨g+1,_,q,rfl,by go_num,by omega,trivial,by rw[z.o];simp,k,C,B⟩
    have:=R.o;omega
   have⟨T,S,R⟩:=qc i c f;clear i c f
   go_wp2
   go_loopg [7] (g-b).toNat (fun s E wr=>Pd W0 (Q0 xs) b (U3 b<|xs.drop<|d+1) j (fun g=>(g-b).toNat) (fun g=>b≤g) s E wr)
   ·exact⟨g,l,J,rfl,rfl,X,by omega,L.o,T.o,S.o,R.o⟩
   obtain⟨g,l,J,hk,rfl,hz,s,o,i,c,f⟩:=hrel;have⟨E,s⟩:=qb hk o;have A:l.length≤1000000000000:=(by have:=Qq List.length s.o;rw[Qo]at this;omega);have G:=Qa A;clear hk o A
   by_cases o:b<g
   ·have h:=s.o;rw[jC g b o]at h;have z:=Qa h;have Y:IntKind.i64.wrap (g-1)=g-1:=Q2 _ (by omega);clear h;go_wp2_with fail;refine(V7 j 3 2 _ _ _ (by decide) (by decide) (by decide) (by decide) G.o i).mono ?_;rintro e F⟨rfl,q,k,p,n⟩;have k:Wr F j q (l++[true,true]):=k;have C:=c.new p f;have B:=f.grow n c.size;clear i c f p n
    go_wp2
    go_roundg (g-1-b).toNat
    ·exact⟨g-1,_,q,rfl,by go_num,by omega,by omega,by rw[z.o];simp,k,C,B⟩
    have:=E.o;omega
   obtain rfl:g=b:=(by omega);have h:=s.o;rw[jD]at h;have z:=Qa h;clear h;go_wp2_with fail;refine(V7 j 0 1 _ _ _ (by decide) (by decide) (by decide) (by decide) G.o i).mono ?_;rintro e F⟨rfl,q,k,p,n⟩;have k:Wr F j q (l++[false]):=k;have C:=c.new p f;have B:=f.grow n c.size;clear i c f p n
   go_wp2
   go_roundg (xs.length-(d+1))
   ·exact⟨d+1,g,_,q,by omega,rfl,by go_num,rfl,hz,by rw[z.o];simp,k,C,B⟩
   have:=M.o;omega
  obtain rfl:d=xs.length:=by omega
  have r:=P.o;rw[KW]at r;have b:Q0 xs=l:=by rw[r];simp[U3]
  subst b;have hh:=c.heap O.o (by simp);have u:wr.cell? ⟨w.heap.size,0,none⟩=_:=Zt wr w.heap.size 0 _ _ _ hh;have x:wr.cell? ⟨w.heap.size,1,none⟩=_:=Zt wr w.heap.size 1 _ _ _ hh;have V:=Uc wr w.heap.size 0 _ _ hh;have W:=Uc wr w.heap.size 1 _ _ hh;simp at u x;have H:=Qa (t.o.new c<|by simp[Qs]);clear hh r c;go_wp2_with fail;refine(DC _ _ _ _ i).mono ?_;rintro e w'⟨rfl,rfl⟩;go_wp2_with fail;refine(Dr _ _ _ _ i).mono ?_;rintro e w'⟨rfl,rfl⟩;go_wp2_with fail;rw[U.o];refine Q9 (v:=Zf (Qu<|Q0 xs,(((Q0 xs).length:Nat):Int),0)) (by simp[results,Ht,go_sem,u,x,Zf]) rfl ⟨rfl,?_⟩;exact(H.o.setCell (.inr<|Ql _) _).setCell (.inr<|Ql _) _
 have D:BK xs=([],0,80):=by unfold BK;rw[Na xs Q];rfl
 have y:=Qa D;clear D
 by_cases m:xs.length<2
 ·have g1:decide ((xs.length:Int)<2)=true:=by simp;omega
  go_enter func210,Sk;go_wp2_with fail;rw[y.o];refine Q9 (v:=Zf ([],0,80)) (by simp[results,Ht,go_sem,Zf]) rfl ⟨rfl,?_⟩
  first|exact(Qc [] w).alloc _|exact((Qc [] w).alloc _).setCell (by simp) _|exact(((Qc [] w).alloc _).setCell (by simp) _).setCell (by simp) _
 have g1:decide ((xs.length:Int)<2)=false:=by simp;omega
 have I:decide (258<(xs.length:Int))=true:=by simp;omega
 go_enter func210,Sk;go_wp2_with fail;rw[y.o];refine Q9 (v:=Zf ([],0,80)) (by simp[results,Ht,go_sem,Zf]) rfl ⟨rfl,?_⟩
 first|exact(Qc [] w).alloc _|exact((Qc [] w).alloc _).setCell (by simp) _|exact(((Qc [] w).alloc _).setCell (by simp) _).setCell (by simp) _
