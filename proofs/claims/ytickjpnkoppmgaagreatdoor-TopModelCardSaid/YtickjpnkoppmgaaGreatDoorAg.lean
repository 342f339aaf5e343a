import Derived.Test.YtickjpnkoppmgaaGreatDoorAf
set_option linter.all false
set_option maxHeartbeats 1000000
set_option maxRecDepth 100000
namespace Go.Proofs.YtickjpnkoppmgaaGreatDoor
open Go.Proofs.Tryz Go.RowKit K
namespace K
def QL(bs:LB)(i:Nat)(n:Int):Nat × Nat:=if n<0\/64<n then(0,2)else if bs.length<i+n.toNat then(0,10)else(num (QZ bs i n.toNat),0)
def Ek(bs:LB)(i:Nat)(c:Int):Nat × Nat:=if c<0 then(0,2)else Xa c 0 (bs.drop i)
def nM(bs i n)(h:(QL bs i n).2=0):0<=n/\n<=64/\i+n.toNat<=bs.length:=by
 unfold QL at h
 split at h
 ·simp at h
 split at h
 ·simp at h
 omega
def oE(c):∀(l:LB)(n:Nat),(Xa c n l).2<=10/\(Xa c n l).1<=n+l.length/\((Xa c n l).2=0->(Xa c n l).1+1<=n+l.length)
 | [],n=>by simp[Xa]
 |false::t,n=>by simp[Xa]<;>omega
 |true::t,n=>by
  simp only[Xa]
  split
  ·simp
  have:=oE c t<|n+1;simp only[QW];omega
end K
namespace K
def Ym(list:LI)(n:Int):Bool:=decide (3<=n/\n<=258)&&decide (1<=list.length/\list.length<=1638350)&&list.all fun c=>decide (0<=c/\c<n)
def YC(m:Int):Nat × Nat:=if m<1 then(0,2)else if m<200 then(2,0)else if m<600 then(3,0)else if m<1200 then(4,0)else if m<2400 then(5,0)else(6,0)
def Dq(n:Nat)(t:LI):Bool:=decide (t.length=n)&&decide (3<=t.length)&&XM t
def Xz(T:List LI)(P:LI):Bool:=
 decide (2<=T.length/\T.length<=6)&&decide (1<=P.length/\P.length<=32767)&&(T.all (Dq (T.getD 0 []).length))&&P.all fun k=>decide (0<=k/\k<(T:Int))
def ZP(m:Nat):Nat:=(m+49)/50
def XF{α:Type}(l:List α)(k:Nat):List α:=(l.drop (50*k)).take 50
def Ui:LN->LN->LB
 |_,[]=>[]
 |o,p::r=>List.replicate (o.idxOf p) true++false::Ui (turned o (o.idxOf p)) r
def iJ(P):∀c:LN,(∀p∈P,p∈c)->(Ui c P).length<=P.length*c.length:=by
 induction P with
 |nil=>intro c _;simp[Ui]
 |cons p r ih=>
  intro c d;have hp:=d p sx;have hi:c.idxOf p<c:=MA.2 hp;have:=ih (turned c<|c.idxOf p) fun e g=>(Hs c _ hi e).2 (d e<|by simp[g])
  rw[Ej c _ hi]at this;rw[Ui,Qo,As,QW,QW,V5,Nat.one_mul];omega
end K
namespace K
def WZ(x):∀(l:LN)(j c:Nat),j<l.idxOf x->l[j]?=some c->c≠x
 | [],j,c,h,hy=>by simp at hy
 |a::l,j,c,h,hy=>by
  rw[List.idxOf_cons]at h
  by_cases d:a=x
  ·simp[d]at h
  have hb:(a==x)=false:=by simp[d]
  rw[hb]at h;cases j with
  |zero=>simp at hy;omega
  |succ j=>exact WZ x l j c (by simpa using h) (by simpa using hy)
def JF(T:List LI)(P:LI):LB:=low T.length 3++(low P.length 15++Ui (List.range T.length) (QE P))
def Zx(T:List LI)(P:LI):LB:=JF T P++T.flatMap Q7
def BG(T:List LI)(P:LI):LU × Int × Nat:=if Xz T P then(Qw (Zx T P),((Zx T P).length:Nat),0)else([],0,110)
def Af{T P}(h:Xz T P=true):(2<=T.length/\T.length<=6)/\(1<=P.length/\P.length<=32767)/\(∀t∈T,t.length=(T.getD 0 []).length/\3<=t.length/\XM t=true)/\∀x∈P,0<=x/\x<(T.length:Int):=by unfold Xz at h;rw[Xt,Xt,Xt,ZE,ZE,Yb,Yb]at h;obtain⟨⟨⟨c,d⟩,e⟩,g⟩:=h;refine⟨c,d,fun t c=>?_,fun x d=>by have:=g x d;rwa[ZE]at this⟩;have:=e t c;unfold Dq at this;rw[Xt,Xt,ZE,ZE,and_assoc]at this;exact this
def iO{T:List LI}{P}(h:∀x∈P,0<=x/\x<(T.length:Int)):∀p∈QE P,p∈List.range T.length:=by intro p hp;obtain⟨x,c,rfl⟩:=QA.1 hp;have:=h x c;rw[ZR];omega
def KW{T P}(h:Xz T P=true):(JF T P).length<=200000:=by obtain⟨c,d,-,e⟩:=Af h;have:=iJ (QE P) (List.range T.length)<|iO e;rw[VK,Vi]at this;unfold JF;rw[Qo,Qo,Yl,Yl];have:P.length*T.length<=32767*6:=Ga d.2 c.2;omega
def AT(T:List LI)(P:LI)(k:Nat):List (LU × Int):=(Qw (JF T P),((JF T P).length:Nat))::(T.take k).map fun c=>(Qw (Q7 c),((Q7 c).length:Nat))
def Qcp(l:List LI):YK (l.map fun t=>(Qw<|Q7 t,((Q7 t).length:Nat)))=l.flatMap Q7:=by
 induction l with
 |nil=>rfl
 |cons t l ih=>
  have c:YK ((t::l).map fun t=>(Qw<|Q7 t,(((Q7 t).length:Nat):Int)))=Cm (Qw<|Q7 t,((Q7 t).length:Nat))++YK (l.map fun t=>(Qw<|Q7 t,(((Q7 t).length:Nat):Int))):=by simp[YK]
  rw[c,Pp,ih,Jd]
def Qgi(T P):YK (AT T P T.length)=Zx T P:=by
 have d:YK (AT T P T)=Cm (Qw<|JF T P,((JF T P).length:Nat))++YK ((T.take T).map fun c=>(Qw<|Q7 c,(((Q7 c).length:Nat):Int))):=by simp[YK,AT]
 rw[d,Pp,Qcp,VM];rfl
def Qju(l:List LI)(h:∀t∈l,XM t=true):((l.map fun t=>(Qw<|Q7 t,(((Q7 t).length:Nat):Int))).map fun p=>p.1.length).sum<=l.length*2501:=by
 induction l with
 |nil=>simp
 |cons t l ih=>
  have:=ih fun d c=>h d (by simp[c])
  have:=Hi t (Vc<|h t sx);rw[QV,QV,Xm,QW,UD,V5];omega
def Qgk{T P}(h:Xz T P=true):JL (AT T P T.length)<=1000000:=by
 obtain⟨c,-,d,-⟩:=Af h;have a:=KW h;have b:=Qju T fun g e=>(d g e).2.2
 unfold JL AT;rw[VM,QV,Xm,UD];have:T.length*2501<=6*2501:=Be _ c.2;omega
def Qgj{T P}(h:Xz T P=true):∀p∈AT T P T.length,p.2<=9223372036854775807:=by
 obtain⟨-,-,d,-⟩:=Af h;intro p hp;simp only[AT,QD,QA,VM]at hp;rcases hp with rfl|⟨c,e,rfl⟩
 ·have:=KW h;simp only;omega
 have:=Hi c<|Vc (d c e).2.2;simp only;omega
end K
namespace K
def AM(T:List LI)(bs:LB)(d:Int):LI->LN->Nat->LN × Nat × Nat
 | [],out,p=>([],0,110)
 |k::r,out,p=>
  let c:=Ue (T.getD k.toNat []) bs (p:Int) 50 d
  if c.2.2≠0 then([],0,c.2.2)else if((c.1.getD (c.1.length-1) 0:Nat):Int)=d then(out++c.1,c.2.1,0)else AM T bs d r (out++c.1) c.2.1
def Ac(T:List LI)(P:LI)(bs:LB)(at_:Int):LN × Nat × Nat:=
 if Xz T P then(if at_<0\/(bs:Int)<at_ then([],0,2)else AM T bs ((((T.getD 0 []).length:Nat):Int)-1) P [] at_.toNat)else([],0,110)
def WS(ls bs n e):∀f out p,(YG ls bs n e f out p).2.2=0->(out.length:Int)<=n->out.length<=(YG ls bs n e f out p).1.length/\((YG ls bs n e f out p).1.length:Int)<=n/\
 ((out.length:Int)<n->out.length<(YG ls bs n e f out p).1.length)
 |0,out,p,c,hn=>by simp[YG]at c
 |f+1,out,p,c,hn=>by
  rw[YG]at c ⊢
  by_cases d:(out.length:Int)<n
  ·rw[Qg d]at c ⊢
   by_cases g:(Xj ls bs p).2.2≠0
   ·rw[Qg g]at c;exact absurd c g
   rw[Qf g]at c ⊢
   by_cases g:((Xj ls bs p).1:Int)=e
   ·rw[Qg g];simp only[Qo,QW,YE];omega
   rw[Qf g]at c ⊢;have g:=WS ls bs n e f _ _ c (by simp only[Qo,QW,YE];omega);simp only[Qo,QW,YE]at g;omega
  rw[Qf d];exact⟨Qk _,hn,fun c=>absurd c d⟩
def uI(l bs)(p:Nat)(e)(h:(Ue l bs (p:Int) 50 e).2.2=0):1<=(Ue l bs (p:Int) 50 e).1.length/\(Ue l bs (p:Int) 50 e).1.length<=50:=by
 unfold Ue at h ⊢
 split at h
 ·rename_i y;rw[Qg y]
  split at h
  ·simp at h
  rename_i hb;rw[Qf hb];rw[ZH]at h ⊢;obtain⟨-,h2,o⟩:=WS (QE l) bs 50 e _ [] _ h sx;have q:=o sx;simp only[YE]at q;omega
 simp at h
def Nx(ls bs n e):∀f out p,p<=bs.length->(YG ls bs n e f out p).2.2=0->(YG ls bs n e f out p).2.1<=bs.length
 |0,out,p,hp,h=>by simp[YG]at h
 |f+1,out,p,hp,h=>by
  rw[YG]at h ⊢
  by_cases d:(out.length:Int)<n
  ·rw[Qg d]at h ⊢
   by_cases c:(Xj ls bs p).2.2≠0
   ·rw[Qg c]at h;exact absurd h c
   have g:=(Pd ls bs p ox).2;rw[Qf c]at h ⊢
   by_cases c:((Xj ls bs p).1:Int)=e
   ·rwa[Qg c]
   rw[Qf c]at h ⊢;exact Nx ls bs n e f _ _ g h
  rwa[Qf d]
def uJ(l bs)(p:Nat)(e)(h:(Ue l bs (p:Int) 50 e).2.2=0):(Ue l bs (p:Int) 50 e).2.1<=bs.length:=by
 unfold Ue at h ⊢
 split at h
 ·rename_i o;rw[Qg o]
  split at h
  ·simp at h
  rename_i hb;rw[Qf hb];rw[ZH]at h ⊢;exact Nx (QE l) bs 50 e _ [] _ ox h
 simp at h
end K
namespace K
def Cn(T:List LI)(bs:LB)(d:Int)(P:LI):Nat->Nat->LN->Nat->LN × Nat × Nat
 |0,_,_,_=>([],0,110)
 |f+1,i,out,p=>
  let c:=Xj (QE (T.getD (P.getD (i/50) 0).toNat [])) bs p
  if c.2.2≠0 then([],0,c.2.2)else if(c.1:Int)=d then(out++[c.1],c.2.1,0)else Cn T bs d P f (i+1) (out++[c.1]) c.2.1
def Gr(T:List LI)(bs:LB)(c:Int)(P:LI)(f i:Nat)(out:LN)(A:LN × Nat × Nat):LN × Nat × Nat:=
 if A.2.2≠0 then([],0,A.2.2)else if((A.1.getD (A.1.length-1) 0:Nat):Int)=c then(out++A.1,A.2.1,0)else Cn T bs c P f i (out++A.1) A.2.1
def kW(T bs c P k r ls)(e:QE (T.getD (P.getD k 0).toNat [])=ls)(out):
 ∀(f:Nat)(L:LN)(p:Nat),p<=bs.length->bs.length+1<=f+p->L.length<=50->(L≠[]->((L.getD (L.length-1) 0:Nat):Int)≠c)->(L.length=50->True)->
  (L=[]->0<50)->
  Cn T bs c P (r+(50-L.length)) (50*k+L.length) (out++L) p=Gr T bs c P r (50*(k+1)) out (YG ls bs 50 c f L p)
 |0,L,p,hp,hf,hL,hn,_,_=>by omega
 |f+1,L,p,hp,hf,hL,hn,_,_=>by
  by_cases d:L.length=50
  ·rw[WO _ _ _ _ _ _ _ ox];have hne:L≠[]:=(by intro g;rw[g]at d;simp at d);unfold Gr;rw[Qf sx,Qf<|hn hne,d];rfl
  obtain⟨hlt,d⟩:(L:Int)<50/\(50*k+L.length)/50=k:=ox
  rw[show r+(50-L.length)=(r+(50-(L.length+1)))+1 by omega,Cn,d,e]
  by_cases hz:(Xj ls bs p).2.2=0
  ·obtain⟨d,h⟩:=Pd ls bs p hz;rw[Qf (by rw[hz];simp)]
   by_cases d:((Xj ls bs p).1:Int)=c
   ·rw[Qg d,WQ ls bs 50 c f L p (Xj ls bs p).1 (Xj ls bs p).2.1 hlt (by rw[<-hz]) d];unfold Gr;rw[Qf sx,Qg<|by simpa using d,QR]
   rw[Qf d,WT ls bs 50 c f L p (Xj ls bs p).1 (Xj ls bs p).2.1 hlt (by rw[<-hz]) d];have g:=kW T bs c P k r ls e out f (L++[(Xj ls bs p).1]) (Xj ls bs p).2.1 h ox (by simp only[Qo,QW,YE];omega) (by intro _;simpa using d) (fun _=>trivial) (fun _=>ox);rw[Qo,QW,YE,<-QR]at g;rw[<-g];rfl
  rw[Qg hz,WR ls bs 50 c f L p (Xj ls bs p).2.2 hlt (iS ls bs p hz) hz];unfold Gr;rw[Qg hz]
def kV(T bs c P)(e:∀x∈P,XM (T.getD x.toNat [])=true):
 ∀(m k:Nat)(out:LN)(p:Nat),m+k=P.length->p<=bs.length->Cn T bs c P (50*m) (50*k) out p=AM T bs c (P.drop k) out p
 |0,k,out,p,hk,hp=>by rw[Jq ox];rfl
 |m+1,k,out,p,hk,hp=>by
  have⟨x,d⟩:=qy P k ox;have g:P.getD k 0=x:=by rw[List.getD,d];rfl
  obtain⟨i,j⟩:=Qy.1 d;have h:=e x<|QB d;have d:=kW T bs c P k (50*m) (QE<|T.getD x.toNat []) (by rw[g]) out (bs.length+1) [] p hp ox sx (fun g=>absurd rfl g) (fun _=>trivial) (fun _=>ox);rw[YE,XX]at d;rw[show 50*(m+1)=50*m+(50-0)by omega];have g:Cn T bs c P (50*m+(50-0)) (50*k) out p=_:=d;rw[g,Xf i,j,AM];have d:Ue (T.getD x.toNat []) bs (p:Int) 50 c=YG (QE<|T.getD x.toNat []) bs 50 c (bs.length+1) [] p:=by unfold Ue;rw[Qg h,Qf ox,ZH]
  simp only[d];unfold Gr
  by_cases h0:(YG (QE<|T.getD x.toNat []) bs 50 c (bs.length+1) [] p).2.2≠0
  ·rw[Qg h0,Qg h0]
  rw[Qf h0,Qf h0]
  by_cases d:(((YG (QE<|T.getD x.toNat []) bs 50 c (bs.length+1) [] p).1.getD ((YG (QE<|T.getD x.toNat []) bs 50 c (bs.length+1) [] p).1.length-1) 0:Nat):Int)=c
  ·rw[Qg d,Qg d]
  rw[Qf d,Qf d];exact kV T bs c P e m (k+1) _ _ ox (Nx (QE<|T.getD x.toNat []) bs 50 c _ [] _ hp<|by simpa using h0)
end K
namespace K
def JI(bs:LB)(many:Nat):Nat->LN->LN->Nat->LN × Nat × Nat
 |0,_,out,p=>(out,p,0)
 |m+1,o,out,p=>
  let c:=Xa ((many:Int)-1) 0 (bs.drop p)
  if c.2=0 then JI bs many m (turned o c.1) (out++[o.getD c.1 0]) (p+c.1+1)else([],0,if c.2=3 then 110 else c.2)
def Rq(bs:LB)(n:Int):Nat->List LI->Nat->List LI × Nat × Nat
 |0,out,p=>(out,p,0)
 |m+1,out,p=>
  let c:=Jw bs (p:Int) n
  if c.2.2≠0 then([],0,c.2.2)else if XM c.1 then Rq bs n m (out++[c.1]) c.2.1 else([],0,80)
def Us(bs:LB)(at_ n:Int):List LI × LN × Nat × Nat:=
 if at_<0\/(bs:Int)<at_\/n<3\/258<n then([],[],0,2)else
 let c:=QL bs at_.toNat 3
 if c.2≠0 then([],[],0,c.2)else if c.1<2\/6<c.1 then([],[],0,110)else
 let d:=QL bs (at_.toNat+3) 15
 if d.2≠0 then([],[],0,d.2)else if d.1=0 then([],[],0,110)else
 let e:=JI bs c.1 d.1 (List.range c.1) [] (at_.toNat+18)
 if e.2.2≠0 then([],[],0,e.2.2)else
 let d:=Rq bs n c.1 [] e.2.1
 if d.2.2≠0 then([],[],0,d.2.2)else(d.1,e.1,d.2.1,0)
def JY(T:List LI)(P:LI)(i:Nat):LN:=QE (T.getD (P.getD (i/50) 0).toNat [])
def Yg(T:List LI)(P:LI)(n:Int):Nat->LI->Option LB
 |_,[]=>some []
 |i,s::r=>if s<0\/n<=s then none else(Yg T P n (i+1) r).map (Uq (JY T P i) s.toNat++ ·)
def JD(T:List LI)(P list:LI):LB × Nat:=
 if Xz T P&&decide (ZP list.length<=P.length)then match Yg T P ((T.getD 0 []).length:Nat) 0 list with|none=>([],60)|some B=>(B,0)else([],110)
def Rn(T:List LI)(P list:LI):LU × Int × Nat:=if(JD T P list).2=0 then(Qw (JD T P list).1,(((JD T P list).1.length:Nat):Int),0)else([],0,(JD T P list).2)
def Vk(T:List LI)(P list:LI):Nat × Nat:=if(JD T P list).2=0 then((Zx T P).length+(JD T P list).1.length,0)else(0,(JD T P list).2)
def bN(T P n):∀(l:LI)(i:Nat),(∃s∈l,s<0\/n<=s)->Yg T P n i l=none
 | [],i,h=>by obtain⟨s,hs,-⟩:=h;cases hs
 |x::r,i,h=>by
  rw[Yg]
  split
  ·rfl
  rename_i q;obtain⟨s,hs,o⟩:=h;rcases QD.1 hs with rfl|hs
  ·exact absurd o q
  rw[bN T P n r (i+1) ⟨s,hs,o⟩];rfl
def bQ(T P n):∀(l:LI)(i:Nat),(∀s∈l,0<=s/\s<n)->∃c,Yg T P n i l=some c
 | [],i,h=>⟨[],rfl⟩
 |x::r,i,h=>by
  have:=h x sx;obtain⟨c,c⟩:=bQ T P n r (i+1) fun s hs=>h s (by simp[hs])
  rw[Yg,Qf ox,c];exact⟨_,rfl⟩
def bO(T P n x)(o:0<=x/\x<n):∀(l:LI)(i:Nat)(B:LB),Yg T P n i l=some B->Yg T P n i (l++[x])=some (B++Uq (JY T P<|i+l.length) x.toNat)
 | [],i,B,h=>by rw[Yg]at h;injection h with h;subst h;rw[YU,Yg,Qf ox,Yg];simp
 |y::r,i,B,h=>by
  rw[Yg]at h
  split at h
  ·cases h
  rename_i q;cases hr:Yg T P n (i+1) r with
  |none=>rw[hr]at h;cases h
  |some C=>rw[hr]at h;injection h with h;have ih:=bO T P n x o r (i+1) C hr;rw[XY,Yg,Qf q,ih,<-h,QW,show i+1+r.length=i+(r.length+1)by omega];simp
def Qj2{T P}(h:Xz T P=true)(i s):(Uq (JY T P i) s).length<=20:=by
 obtain⟨-,-,d,-⟩:=Af h;rw[nF];unfold JY;cases hT:T[(P.getD (i/50) 0).toNat]? with
 |none=>
  have c:T.getD (P.getD (i/50) 0).toNat []=[]:=by rw[List.getD,hT];rfl
  rw[c];simp[QE]
 |some t=>
  have c:T.getD (P.getD (i/50) 0).toNat []=t:=by rw[List.getD,hT];rfl
  rw[c,List.getD];cases hs:(QE t)[s]? with
  |none=>simp
  |some v=>exact(CU (d t<|QB hT).2.2 v (QB hs)).2
def bM{T P}(h:Xz T P=true)(n):∀(l:LI)(i:Nat)(d:LB),Yg T P n i l=some d->d.length<=20*l.length
 | [],i,d,c=>by rw[Yg]at c;injection c with c;subst c;simp
 |y::r,i,d,c=>by
  rw[Yg]at c
  split at c
  ·cases c
  cases hr:Yg T P n (i+1) r with
  |none=>rw[hr]at c;cases c
  |some C=>rw[hr]at c;injection c with c;have:=bM h n r (i+1) C hr;have:=Qj2 h i y.toNat;rw[<-c,Qo,QW];omega
end K
def IJ(m:Int)(w:WD)(e:Ending)(w':WD):Prop:=e=.returned (.tuple #[((YC m).1:Nat),((YC m).2:Nat)])/\w=w'
def FC(m a b)(h:YC m=(a,b))(w):IJ m w (.returned<|.tuple #[(a:Int),(b:Int)]) w:=by unfold IJ;rw[h];exact⟨rfl,rfl⟩
def Qbk(m:Int)(w):Calls prog 250 #[m] w (IJ m w):=by
 have i0:∀w,(Instr.index 359 (.agg #[(200:Int),(600:Int),(1200:Int),(2400:Int)]) (0:Int)).run prog w=.ok (200:Int) w:=fun _=>by kernel_rfl
 have:∀w,(Instr.index 359 (.agg #[(200:Int),(600:Int),(1200:Int),(2400:Int)]) (1:Int)).run prog w=.ok (600:Int) w:=fun _=>by kernel_rfl
 have i2:∀w,(Instr.index 359 (.agg #[(200:Int),(600:Int),(1200:Int),(2400:Int)]) (2:Int)).run prog w=.ok (1200:Int) w:=fun _=>by kernel_rfl
 have i3:∀w,(Instr.index 359 (.agg #[(200:Int),(600:Int),(1200:Int),(2400:Int)]) (3:Int)).run prog w=.ok (2400:Int) w:=fun _=>by kernel_rfl
 by_cases h0:m<1
 ·have c:=Qa (by unfold YC;rw[Qg h0]:YC m=(0,2));go_enter func250,ntmps250
  go_wp2
  go_ret2;exact FC m 0 2 c.o _
 go_enter func250,ntmps250
 go_wp2
 go_loopg [9] 4 (fun k e wr=>∃d:Int,(d=0\/(d=1/\¬m<200)\/(d=2/\¬m<600)\/(d=3/\¬m<1200)\/(d=4/\¬m<2400))/\k=(4-d).toNat/\e=.int .i64 d/\w=wr)
 ·exact⟨0,.inl rfl,ox,rfl,rfl⟩
 obtain⟨d,e,hk,rfl,rfl⟩:=hrel;have d:=Qa hk;rcases e with rfl|⟨rfl,hb⟩|⟨rfl,hb⟩|⟨rfl,hb⟩|⟨rfl,hb⟩
 ·by_cases e:m<200
  ·have c:=Qa (by unfold YC;rw[Qf ox,Qg ox]:YC m=(2,0))
   go_wp2
   go_ret2;exact FC m 2 0 c.o _
  go_wp2
  go_roundg 3
  ·exact⟨1,.inr<|.inl ⟨rfl,ox⟩,ox,rfl,rfl⟩
  have:=d.o;omega
 ·by_cases e:m<600
  ·have c:=Qa (by unfold YC;rw[Qf ox,Qf ox,Qg ox]:YC m=(3,0))
   go_wp2
   go_ret2;exact FC m 3 0 c.o _
  go_wp2
  go_roundg 2
  ·exact⟨2,.inr<|.inr<|.inl ⟨rfl,ox⟩,ox,rfl,rfl⟩
  have:=d.o;omega
 ·by_cases e:m<1200
  ·have c:=Qa (by unfold YC;rw[Qf ox,Qf ox,Qf ox,Qg ox]:YC m=(4,0))
   go_wp2
   go_ret2;exact FC m 4 0 c.o _
  go_wp2
  go_roundg 1
  ·exact⟨3,.inr<|.inr<|.inr<|.inl ⟨rfl,ox⟩,ox,rfl,rfl⟩
  have:=d.o;omega
 ·by_cases e:m<2400
  ·have c:=Qa (by unfold YC;rw[Qf ox,Qf ox,Qf ox,Qf ox,Qg ox]:YC m=(5,0))
   go_wp2
   go_ret2;exact FC m 5 0 c.o _
  go_wp2
  go_roundg 0
  ·exact⟨4,.inr<|.inr<|.inr<|.inr ⟨rfl,ox⟩,ox,rfl,rfl⟩
  have:=d.o;omega
 have c:=Qa (by unfold YC;rw[Qf ox,Qf ox,Qf ox,Qf ox,Qf ox]:YC m=(6,0))
 go_wp2
 go_ret2;exact FC m 6 0 c.o _
def Og(m:Nat)(w)(c:m<=17592186043904):Calls prog 211 #[m] w fun e w'=>e=.returned (ZP m:Nat)/\w=w':=by
 have c:=Qa (show((ZP m:Nat):Int)=((m:Int)+49)/50 by unfold ZP;omega);go_enter func211,ntmps211
 go_wp2
 go_ret;exact⟨kS (by rw[c.o];omega),rfl⟩
def pL(b:Bool)(w:WD)(e:Ending)(w':WD):Prop:=e=.returned (.bool b)/\w=w'
def Lh{xs n}(h:¬(3<=n/\n<=258)\/¬(1<=xs.length/\xs.length<=1638350)):Ym xs n=false:=by
 unfold Ym;rcases h with h|h
 ·rw[X0 h];rfl
 rw[X0 h,Mp];rfl
def gU{xs n x}{i:Nat}(c:xs[i]?=some x)(h:x<0\/n<=x):Ym xs n=false:=by rw[BN];intro hh;unfold Ym at hh;rw[Xt,Yb]at hh;have:=hh.2 x<|QB c;rw[ZE]at this;omega
def KO(a c xs)(n:Int)(w)(h:Qp w 1 a xs.length (QO xs))(d:xs.length<=17592186043904):
 Calls prog 249 #[.slice a xs.length c,n] w (pL (Ym xs n) w):=by
 have j:=Qa h
 by_cases d:n<3
 ·have e:=Qa (Lh (xs:=xs) (n:=n)<|.inl ox);have g1:decide (n<3)=true:=XE d;go_enter func249,IU
  go_wp2
  go_ret;exact⟨by rw[e.o];rfl,rfl⟩
 have g1:decide (n<3)=false:=X0 d
 by_cases d:258<n
 ·have e:=Qa (Lh (xs:=xs) (n:=n)<|.inl ox);have g:decide (258<n)=true:=XE d;go_enter func249,IU
  go_wp2
  go_ret;exact⟨by rw[e.o];rfl,rfl⟩
 have g:decide (258<n)=false:=X0 d
 by_cases d:xs.length<1
 ·have e:=Qa (Lh (xs:=xs) (n:=n)<|.inr ox);have g3:decide ((xs:Int)<1)=true:=zx
  go_enter func249,IU
  go_wp2
  go_ret;exact⟨by rw[e.o];rfl,rfl⟩
 have g3:decide ((xs:Int)<1)=false:=zx
 by_cases d:1638350<xs.length
 ·have e:=Qa (Lh (xs:=xs) (n:=n)<|.inr ox);have g4:decide (1638350<(xs:Int))=true:=zx
  go_enter func249,IU
  go_wp2
  go_ret;exact⟨by rw[e.o];rfl,rfl⟩
 have g4:decide (1638350<(xs:Int))=false:=zx
 obtain⟨b,off,rfl,-⟩:=j.o.at (by rw[Xx];omega);go_enter func249,IU
 go_wp2
 go_loopg [25] xs (fun k d wr=>∃g:Nat,k=xs.length-g/\g<=xs.length/\d=.int .i64 (g:Nat)/\Hid (∀d∈xs.take g,0<=d/\d<n)/\w=wr)
 ·exact⟨0,ox,ox,rfl,Qa sx,rfl⟩
 obtain⟨g,hk,hi,rfl,l,rfl⟩:=hrel;have m:=Qa hk
 by_cases hlt:g<xs
 ·have:(g:Int)<xs.length:=ox
  have⟨d,i⟩:=qy xs g hlt;have c0:=j.o.int i;have j:=Qa i
  by_cases k1:d<0
  ·have o:decide (d<0)=true:=XE k1;have e:=Qa (gU (n:=n) j.o<|.inl k1)
   go_wp2
   go_ret;exact⟨by rw[e.o];rfl,rfl⟩
  have o:decide (d<0)=false:=X0 k1
  by_cases k2:n<=d
  ·have q2:decide (n<=d)=true:=XE k2;have e:=Qa (gU (n:=n) j.o<|.inr k2)
   go_wp2
   go_ret;exact⟨by rw[e.o];rfl,rfl⟩
  have q2:decide (n<=d)=false:=X0 k2
  go_wp2
  go_roundg (xs.length-(g+1))
  ·refine⟨g+1,rfl,ox,sx,Qa fun m e=>?_,rfl⟩;rw[Zh,j.o]at e;rcases Q4.1 e with h|h
   ·exact l.o m h
   simp at h;omega
  have:=m.o;omega
 obtain rfl:g=xs:=ox
 have:¬(xs:Int)<xs.length:=ox
 have e:=Qa (by have hb:=l.o;rw[Q5<|Qk _]at hb;unfold Ym;rw[XE<|(ox:3<=n/\n<=258),XE<|(ox:1<=xs.length/\xs.length<=1638350),Rt,Rt,Yb];intro d i;rw[ZE];exact hb d i:Ym xs n=true)
 go_wp2
 go_ret;exact⟨by rw[e.o];rfl,rfl⟩
def ZL(d:OA)(i g:Nat)(c:OA)(h e:Nat):VL:=.agg #[.slice d i g,.slice c h e]
def SZ(b:Bool)(w:WD)(e:Ending)(w':WD):Prop:=e=.returned (.bool b)/\Qb [] w w'
def Li{T P}(h:¬(2<=T.length/\T.length<=6)\/¬(1<=P.length/\P.length<=32767)):Xz T P=false:=by
 unfold Xz;rcases h with h|h
 ·rw[X0 h];rfl
 rw[X0 h,Mp];rfl
def OY{T P}{i:Nat}{t}(c:T[i]?=some t)(h:Dq (T.getD 0 []).length t=false):Xz T P=false:=by rw[BN];intro hh;unfold Xz at hh;rw[Xt,Xt,Yb,Yb]at hh;have:=hh.1.2 t<|QB c;rw[h]at this;cases this
def gV{T P}{i:Nat}{x}(c:P[i]?=some x)(h:x<0\/(T.length:Int)<=x):Xz T P=false:=by rw[BN];intro hh;unfold Xz at hh;rw[Xt,Yb]at hh;have:=hh.2 x<|QB c;rw[ZE]at this;omega
def gX{T P}(c:2<=T.length/\T.length<=6)(d:1<=P.length/\P.length<=32767)(e:∀t∈T,Dq (T.getD 0 []).length t=true)(g:∀x∈P,0<=x/\x<(T.length:Int)):Xz T P=true:=by unfold Xz;rw[XE c,XE d,Rt,Rt,Xt,Yb,Yb];exact⟨e,fun x c=>by rw[ZE];exact g x c⟩
def Hp(n t):Dq n t=true↔t.length=n/\3<=t.length/\XM t=true:=by unfold Dq;rw[Xt,Xt,ZE,ZE,and_assoc]
def XJ.int{w a n}{T:List LI}(h:XJ w a n (T.map QO)){i t}(hi:T[i]?=some t):
 ∃b off ar c,a=some ⟨b,off,none⟩/\w.cell? ⟨b,off+i,none⟩=some (.slice ar t.length c)/\Qp w 1 ar t.length (QO t)/\t.length<=c:=by
 obtain⟨b,off,ar,c,j,d,e,g,-⟩:=h.at i (QO t) (by rw[Zz,hi];rfl);rw[Xx]at d e g;exact⟨b,off,ar,c,j,d,e,g⟩
def GG(d c h g T P w)(l:XJ w d T.length (T.map QO))(j:Qp w 1 c P.length (QO P))(e:T.length<=17592186043904)(e:P.length<=17592186043904)(o:∀t∈T,t.length<=17592186043904):
 Calls prog 207 #[ZL d T.length h c P.length g] w (SZ (Xz T P) w):=by
 have⟨e,i⟩:=qb ((Qc [] w).alloc<|.cells #[.slice d T h,.slice c P g] 255)<|Qx w [.slice d T h,.slice c P g] 255;have⟨n,m,p⟩:=qc (l.kZ e.o) (j.kZ e.o) o;have b0:(w.alloc<|.cells #[.slice d T h,.slice c P g] 255).cell? w=some (.slice d T h):=i.o.cq 0;have q:(w.alloc<|.cells #[.slice d T h,.slice c P g] 255).cell? ⟨w.heap.size,1,none⟩=some (.slice c P g):=i.o.cq 1;clear l j o;unfold ZL
 by_cases l:T.length<2
 ·have d:=Qa (Li (T:=T) (P:=P)<|.inl ox);have g1:decide ((T:Int)<2)=true:=zx
  go_enter func207,IV
  go_wp2
  go_ret;exact⟨by rw[d.o];rfl,e.o⟩
 have g1:decide ((T:Int)<2)=false:=zx
 by_cases x:6<T.length
 ·have d:=Qa (Li (T:=T) (P:=P)<|.inl ox);have v:decide (6<(T:Int))=true:=zx
  go_enter func207,IV
  go_wp2
  go_ret;exact⟨by rw[d.o];rfl,e.o⟩
 have v:decide (6<(T:Int))=false:=zx
 by_cases y:P.length<1
 ·have d:=Qa (Li (T:=T) (P:=P)<|.inr ox);have g3:decide ((P:Int)<1)=true:=zx
  go_enter func207,IV
  go_wp2
  go_ret;exact⟨by rw[d.o];rfl,e.o⟩
 have g3:decide ((P:Int)<1)=false:=zx
 by_cases z:32767<P.length
 ·have d:=Qa (Li (T:=T) (P:=P)<|.inr ox);have g4:decide (32767<(P:Int))=true:=zx
  go_enter func207,IV
  go_wp2
  go_ret;exact⟨by rw[d.o];rfl,e.o⟩
 have g4:decide (32767<(P:Int))=false:=zx
 obtain⟨t0,c⟩:∃t,T[0]?=some t:=⟨_,Qj ox⟩;have s:=Qa (show(T.getD 0 []).length=t0.length by rw[List.getD,c];rfl);obtain⟨u,B,j,j,rfl,j,-,-⟩:=n.o.int c;rw[Jt]at j;obtain⟨o,A,rfl,-⟩:=m.o.at (by rw[Xx];omega);have:=p.o t0<|QB c;have:(0:Int)<T.length:=ox
 clear c l x y z;go_enter func207,IV;go_wp2_with fail;have⟨l,c⟩:=qx<|w.alloc<|.cells #[.slice (some ⟨u,B,none⟩) T h,.slice (some ⟨o,A,none⟩) P g] 255;rw[c]at b0 q j n m e ⊢;clear c i
 go_loopg [32] T (fun k o wr=>∃c:Nat,k=T.length-c/\c<=T.length/\o=.int .i64 (c:Nat)/\Hid (∀t∈T.take c,Dq (T.getD 0 []).length t=true)/\l=wr)
 ·exact⟨0,ox,ox,rfl,Qa sx,rfl⟩
 obtain⟨c,hk,hi,rfl,i,rfl⟩:=hrel;have j:=Qa hk;clear hk
 by_cases hlt:c<T
 ·have A:(c:Int)<T.length:=ox
  have⟨t,h⟩:=qy T c hlt;obtain⟨g,g,ar,u,g,y,x,-⟩:=n.o.int h;cases g;have:=p.o t<|QB h;have⟨g,q⟩:=qb h x;clear h x
  by_cases k1:t.length=t0.length
  ·have p:((t:Int) != (t0:Int))=false:=zx
   by_cases k2:t.length<3
   ·have q2:decide ((t:Int)<3)=true:=zx;have d:=Qa<|OY (P:=P) g.o (by rw[BN];intro hh;rw[Hp]at hh;omega);clear k1
    go_wp2
    go_ret;exact⟨by rw[d.o];rfl,e.o⟩
   have q2:decide ((t:Int)<3)=false:=zx;have x:=Qa k1;clear k1;cases hg:XM t with
   |false=>
    have⟨d,h⟩:=qb (OY (P:=P) g.o (by rw[BN];intro hh;rw[Hp,hg]at hh;exact absurd hh.2.2 sx)) (by unfold Uy;rw[hg];rfl:Uy t=80);clear hg;go_wp2_with fail;go_fit(Gv ar u t _ q.o ox);rintro z B⟨rfl,rfl⟩;rw[h.o]
    go_wp2
    go_ret;exact⟨by rw[d.o];rfl,e.o⟩
   |true=>
    have⟨n,h⟩:=qb (by rw[Hp,s.o];exact⟨x.o,ox,hg⟩:Dq (T.getD 0 []).length t=true) (by unfold Uy;rw[hg];rfl:Uy t=0);clear hg;go_wp2_with fail;go_fit(Gv ar u t _ q.o ox);rintro z B⟨rfl,rfl⟩;rw[h.o]
    go_wp2
    go_roundg (T.length-(c+1))
    ·refine⟨c+1,rfl,ox,sx,Qa fun q h=>?_,rfl⟩;rw[Zh,g.o]at h;rcases Q4.1 h with h|h
     ·exact i.o q h
     simp at h;rw[h];exact n.o
    have:=j.o;omega
  have p:((t:Int) != (t0:Int))=true:=zx
  have d:=Qa<|OY (P:=P) g.o (by rw[BN];intro hh;rw[Hp,s.o]at hh;omega)
  go_wp2
  go_ret;exact⟨by rw[d.o];rfl,e.o⟩
 obtain rfl:c=T:=ox
 have s:¬(T:Int)<T.length:=ox
 have g:=i.o;rw[Q5<|Qk _]at g;have q:=Qa g;clear g i j
 go_wp2
 go_loopg [58] P (fun k o wr=>∃c:Nat,k=P.length-c/\c<=P.length/\o=.int .i64 (c:Nat)/\Hid (∀g∈P.take c,0<=g/\g<(T:Int))/\l=wr)
 ·exact⟨0,ox,ox,rfl,Qa sx,rfl⟩
 obtain⟨c,hk,hi,rfl,i,rfl⟩:=hrel;have j:=Qa hk;clear hk
 by_cases hlt:c<P
 ·have A:(c:Int)<P.length:=ox
  have⟨g,o⟩:=qy P c hlt;have y:=m.o.int o;have l:=Qa o;clear o
  by_cases k1:g<0
  ·have p:decide (g<0)=true:=XE k1;have d:=Qa (gV (T:=T) l.o<|.inl k1)
   go_wp2
   go_ret;exact⟨by rw[d.o];rfl,e.o⟩
  have p:decide (g<0)=false:=X0 k1
  by_cases k2:(T:Int)<=g
  ·have q2:decide ((T:Int)<=g)=true:=XE k2;have d:=Qa (gV (T:=T) l.o<|.inr k2)
   go_wp2
   go_ret;exact⟨by rw[d.o];rfl,e.o⟩
  have q2:decide ((T:Int)<=g)=false:=X0 k2
  go_wp2
  go_roundg (P.length-(c+1))
  ·refine⟨c+1,rfl,ox,sx,Qa fun g d=>?_,rfl⟩;rw[Zh,l.o]at d;rcases Q4.1 d with h|h
   ·exact i.o g h
   simp at h;omega
  have:=j.o;omega
 obtain rfl:c=P:=ox
 have s:¬(P:Int)<P.length:=ox
 have n:=Qa (show Xz T P=true by
  have hb:=i.o;rw[Q5<|Qk _]at hb;have c:2<=T.length/\T.length<=6:=by simp at g1 v;omega
  have a2:1<=P.length/\P.length<=32767:=by simp at g3 g4;omega
  exact gX c a2 q.o hb)
 go_wp2
 go_ret;exact⟨by rw[n.o];rfl,e.o⟩
def tP(w:WD):(prog.info? 3).map (·.size)=some 1:=by kernel_rfl
def BB{l}{i x:Nat}(h:l[i]?=some x):(Qi l)[i]?=some (.int .i64 (x:Int)):=by simp[Qi,h]
def rN(n:Nat)(w:WD)(e:Ending)(w':WD):Prop:=
 ∃c,e=.returned (.slice (some ⟨c,0,none⟩) n n)/\Qh w' 3 (.slice (some ⟨c,0,none⟩) n n) (Qi (List.range n))/\Qb [] w w'/\w.heap.size<=c
def dX(n:Nat)(w)(hn:n<=1000):Calls prog 208 #[n] w (rN n w):=by
 go_enter func208,ntmps208;go_wp2_with ((at_make;refine Jp rfl _ _ 51 rfl 3 (0:Int) 8 XP XZ rfl .i64 .i64 _ _ n n rfl rfl rfl rfl (Qk _) ox (by simp only[maxLen];omega) ?_;intro w1 y h2));rw[show List.replicate n (Value.int .i64 0)=Qi (List.replicate n 0)by simp[Qi]]at y;have⟨g,hg⟩:=qx w.heap.size;have HG:=Qa (ox:w<=g);rw[hg]at y ⊢;have⟨o,q⟩:=qb y h2
 go_loopg [9] n (fun k v wr=>∃i:Nat,k=n-i/\i<=n/\v=.int .i64 (i:Nat)/\Hid (Qh wr 3 (.slice (some ⟨g,0,none⟩) n n)<|Qi<|List.range i++List.replicate (n-i) 0)/\Hid (Qb [] w wr))
 ·exact⟨0,ox,ox,rfl,o,q⟩
 obtain⟨i,hk,hi,rfl,o,q⟩:=hrel;have Hk:=Qa hk
 by_cases hlt:i<n
 ·have h3:(i:Int)<n:=ox
  have hz:(List.range i++List.replicate (n-i) 0)[i]?=some 0:=by rw[Zm sx,VK,ZM,V1,Qg ox]
  have c0:=o.o.aZ<|BB hz;have f0:=o.o.free i
  go_wp2
  go_roundg (n-(i+1))
  ·have h1:=o.o.put i (i:Int);have e:(Qi<|List.range i++List.replicate (n-i) 0).set i (i:Int)=Qi (List.range (i+1)++List.replicate (n-(i+1)) 0):=(by unfold Qi;rw[<-BU,V2 _ _ sx,VK,ZM,(ox:n-i=(n-(i+1))+1),JB,Vp,J5,QR];rfl);rw[e]at h1;exact⟨i+1,ox,ox,sx,Qa h1,Qa<|q.o.setCell (p:=⟨g,i,none⟩) (.inr HG.o) _⟩
  have:=Hk.o;omega
 obtain rfl:i=n:=ox
 have h4:¬(i:Int)<i:=ox
 go_wp2
 go_ret;have h:=o.o;rw[ZM,Dz,XX]at h;exact⟨g,rfl,h,q.o,HG.o⟩
def iL(l):∀u∈Qi l,u.oneCell'=true:=by intro u c;obtain⟨d,-,rfl⟩:=QA.1 c;rfl
def dV(g c p:Nat)(l w)(hp:p<l.length)(d:l.length<=c)(d:2<=c)(d:l.length<=1000)(h:QJ w g (Qi l)):
 Calls prog 209 #[.slice g l.length c,p] w fun e w'=>e=.returned (l.getD p 0:Nat)/\QJ w' g (Qi<|K.turned l p)/\Qb [g] w w':=by
 have t:l[p]?=some (l.getD p 0):=by rw[List.getD,Qj hp];rfl
 have c0:=h.cell<|BB t;have:IntKind.i64.wrap ((p:Int)+1)=(p:Int)+1:=Za _ ox;obtain⟨h0,_,_,_,_,_⟩:(0:Int)<=p+1/\((p:Int)+1).toNat=p+1/\(p:Int)<=c/\(p:Int)+1<=(c:Int)/\(1:Int)<=p+1/\(p:Int)<l.length:=ox
 have o:((Qi l).take p).length=p:=by rw[Zd,QF];omega
 have s:1+((Qi l).take p).length<=(Qi l).length:=by rw[o,QF];omega
 have v:∀i d,((Qi l).take p)[i]?=some d->w.cell? ⟨g,i,none⟩=some d:=fun i d j=>h.cell (by
  rw[BT]at j
  split at j
  ·exact j
  cases j)
 have u:=mH (fun b:Nat=>Value.int .i64 (b:Int)) l p hp;have D:l.getD p default=l.getD p 0:=rfl;have⟨x,A,y,q,B,z⟩:=qf h (fun d (m:d∈(Qi l).take p)=>iL l d<|Rv m) o s v u;obtain⟨_,_⟩:(1:Int)<c/\¬c=1:=ox
 have⟨m,n⟩:=qx<|l.getD p 0;have C:=Qa n;rw[n]at c0 ⊢;go_enter func209,ntmps209;go_wp2_with fail;have s:0<((Qi l).take p).length->(some ⟨g,1,none⟩:OA)=some ⟨g,1,none⟩/\∃o:Addr,(some ⟨g,0,none⟩:OA)=some o/\∀i d,((Qi l).take p)[i]?=some d->w.cell? (o.add i)=some d:=
  fun _=>⟨rfl,_,rfl,fun i d j=>by rw[Jc,Zu];exact B.o i d j⟩
 have d:=Qa s
 go_region_held3 (fun w'=>True) (exact trivial)
  (first
    |(refine Ma rfl _ _ 51 51 rfl 3 XP (tP w) (some ⟨g,1,none⟩) g p (c-1) p c rfl rfl g 1 (Qi l) ((Qi l).take p) (x.o.kept (Qc [] w).drew sx) (by rw[y.o];exact(Nat.min_self p).symm) d.o q.o A.o ?_;intro s i o))
 have j:(splice (Qi l) 1<|(Qi l).take p).length=l.length:=by rw[OL _ _ _ q.o,QF]
 have:=i.cell<|Qj (by rw[j];omega:0<(splice (Qi l) 1<|(Qi l).take p).length);have:=i.free (by rw[j];omega:0<(splice (Qi l) 1<|(Qi l).take p).length);have d:=i.set 0 (.int .i64 (m:Int)) (by rw[j];omega);have d:QJ (s.setCell ⟨g,0,none⟩<|.int .i64 (m:Int)) g (Qi<|K.turned l p):=by have e:=z.o;have j:splice (Qi l) 1 ((Qi l).take p)=splice (l.map fun b:Nat=>Value.int .i64 (b:Int)) 1 ((l.map fun b:Nat=>Value.int .i64 (b:Int)).take p):=rfl;rw[j]at d;have j:l.getD p default=m:=C.o;rw[j]at e;rwa[Qi,<-e]
 have j:=Qa d
 go_wp2
 go_ret;exact⟨rfl,j.o,((Qc [g] w).drew.trans o fun m n=>.inl n).setCell sx _⟩
structure XI(w:WD)(aT aP:OA)(cT cP:Nat)(T:List LI)(P:LI):Prop where
 tabs:XJ w aT T.length (T.map QO)
 picks:Qp w 1 aP P.length (QO P)
 tl:T.length<=17592186043904
 pl:P.length<=17592186043904
 rl:∀t∈T,t.length<=17592186043904
def XI.kept{w w' d c g e T P}(h:XI w d c g e T P)(hk:Qb [] w w'):XI w' d c g e T P:=
 ⟨h.tabs.kZ hk,h.picks.kZ hk,h.tl,h.pl,h.rl⟩
def Qe.alloc{w g t xs}(h:Qe w g t xs)(c):Qe (w.alloc c) g t xs:=h.kept ((Qc [] w).alloc c) sx
def Qe.newAt(w:WD)(xs t g)(h:w.heap.size=g):Qe (w.alloc<|.cells xs.toArray t) g t xs:=h▸Qx w xs t
def Dr(s:BA):s.data.toList.length=s.size:=by simp only[RS];rfl
def XQ(s:BA):(Ql s).length=8*s.size:=by rw[YP,Dr]
def tD(r c:Nat)(s:BA)(i:Nat)(n:Int)(w:WD)(p:Nat × Nat)(e:Ending)(w':WD):Prop:=
 e=.returned (.tuple #[.int .u64 p.1,p.2])/\Rd w' r c s (if p.2=0 then i+n.toNat else i)/\Qb [r] w w'
def Cs(r g s i)(n:Int)(w)(h:Rd w r g s i)(hs:s.size<=1125899906842624)(hi:i<=8*s.size):
 Calls prog 171 #[.pointer r,n] w (tD r g s i n w<|QL (Ql s) i n):=by
 by_cases j:n<0\/64<n
 ·have d:QL (Ql s) i n=(0,2):=by simp[QL,j]
  rw[d];exact(Qkb r g s i n w h j).mono fun m o ⟨e,hw⟩=>⟨e,by rw[<-hw];simpa using h,by rw[<-hw];exact Qc _ _⟩
 obtain⟨c,rfl⟩:=Yu (ox:0<=n)
 by_cases l:8*s.size<i+c
 ·have d:QL (Ql s) i c=(0,10):=by unfold QL;rw[Qf j,Qg (by rw[XQ];simpa using l)]
  rw[d];exact(Qkd r g s i c w h hs hi ox l).mono fun m o ⟨e,k,hw⟩=>⟨e,by rwa[hw],by rw[hw];exact(Qc _ _).drewN _⟩
 have d:QL (Ql s) i c=(K.num<|QZ (Ql s) i c,0):=by unfold QL;rw[Qf j,Qf (by rw[XQ];simpa using l)];rfl
 rw[d];exact(Qkc r g s i c w h hs ox ox).mono fun m o ⟨e,c,d⟩=>⟨e,by simpa using c,d⟩
def Qkt(r c s i)(n:Int)(w)(h:Rd w r c s i)(hs:s.size<=1125899906842624)(hi:i<=8*s.size):
 Calls prog 223 #[.pointer r,n] w (WK r c s i w<|Ek (Ql s) i n):=by
 by_cases e:n<0
 ·have d:Ek (Ql s) i n=(0,2):=by simp[Ek,e]
  rw[d];exact(Qku r c s i n w h e).mono fun g g ⟨g,hw⟩=>⟨g,by rw[<-hw];simpa using h,by rw[<-hw];exact Qc _ _⟩
 have d:Ek (Ql s) i n=Xa n 0 ((Ql s).drop i):=by simp[Ek,e]
 rw[d];exact Qkw r c s i n w h hs hi ox
def wE(x r:Nat):(((x:Int)*2^r%256==0):Bool)=(x*2^r%256==0):=by
 have c:(x:Int)*2^r=((x*2^r:Nat):Int):=by push_cast;rfl
 rw[c];generalize x*2^r=y;have c:(y:Int)%256=((y%256:Nat):Int):=ox
 rw[c];generalize y%256=z;rw[Cw];simp
def Qd2(s:BA)(n:Int)(w)(hs:s.size<=140737488351232)(g:n<=9223372036854775807):
 Calls prog 169 #[.agg #[s,n]] w (RK (.bool<|UR s n) w):=by
 by_cases h0:n<0
 ·have c:UR s n=false:=by unfold UR;rw[X0 ox];rfl
  rw[c];have g1:decide (n<0)=true:=by simpa using h0
  clear c g;go_enter func169,Ni
  go_wp2
  go_ret;exact⟨rfl,(Qc _ _).alloc _⟩
 obtain⟨n,rfl⟩:=Yu (ox:0<=n);have g1:decide ((n:Int)<0)=false:=sx
 have d:=Dr s;have:(n:Int)/8<=1152921504606846976:=ox
 by_cases c:s.size=n/8+(n%8+7)/8
 ·by_cases i:n%8=0
  ·rw[Qdv _ _ (by rwa[d]) i];have j:((s.size:Int) != (n:Int)/8+((n:Int)%8+7)/8)=false:=zx;have t2:((n:Int)%8==0)=true:=zx;have h:=Qa c;clear c d g hs;go_enter func169,Ni
   go_wp2
   have l:(n:Int).tmod 8=(n:Int)%8:=BQ ox;go_quiet (fail)
   go_wp2
   go_ret;exact⟨rfl,((Qc _ _).alloc _).drewN _⟩
  rw[Qdx _ _ (by rwa[d]) i,d];have j:((s.size:Int) != (n:Int)/8+((n:Int)%8+7)/8)=false:=zx
  have t2:((n:Int)%8==0)=false:=zx
  have hlt:s.size-1<s.size:=ox
  have:(1:Int)<=s.size:=ox
  have t9:1<=s.size:=ox
  have:0<s.size:=ox
  obtain⟨t3,t4⟩:(0:Int)<=s.size-1/\(s.size:Int)-1<(s.size:Int):=ox
  have t5:IntKind.i64.wrap ((s.size:Int)-1)=(s.size:Int)-1:=Za _ ox;have:((s.size:Int)-1).toNat=s.size-1:=ox
  have⟨h,i⟩:=qb c d;clear c d g hs;go_enter func169,Ni
  go_wp2
  have l:(n:Int).tmod 8=(n:Int)%8:=BQ ox;go_quiet (fail)
  go_wp2
  go_ret;refine⟨?_,((Qc _ _).alloc _).drewN _⟩;have l:s.data.toList.getD (s.size-1) 0=s[s.size-1]'hlt:=by have:s.size-1<s.data.toList:=(by rw[i.o];exact hlt);rw[List.getD,Qj this];rfl
  rw[l];have i:=wE (s[s.size-1]'hlt).toNat<|n%8;rw[<-i];rfl
 rw[Qdw _ _<|by rwa[d]];have j:((s.size:Int) != (n:Int)/8+((n:Int)%8+7)/8)=true:=zx
 have h:=Qa c;clear c d g hs;go_enter func169,Ni
 go_wp2
 go_ret;exact⟨rfl,(Qc _ _).alloc _⟩
def Zk(p:LU × Int × Nat):VL:=.tuple #[.agg #[.string ⟨p.1.toArray⟩,p.2.1],p.2.2]
def Ss(s:BA)(p)(h:p<8*s.size):QL (Ql s) p 1=((Yq s p).toNat,0):=by unfold QL;rw[Qf ox,Qf (by rw[XQ];simp;omega),show(1:Int).toNat=1 from rfl,Qf8 _ _<|by rwa[Dr],Qe1]
def low_bit(b):K.low ((b.toNat:Nat):Int).toNat (1:Int).toNat=[b]:=by rw[ZH];exact Qdj b
def YH(c:List (BA × Int)):LV:=c.flatMap fun c=>[.string c.1,.int .i64 c.2]
def vF(c):(YH c).length=c.length*2:=by
 induction c with
 |nil=>rfl
 |cons p c ih=>simp[YH]at ih ⊢;omega
def aE(c i p)(h:c[i]?=some p):(YH c)[i*2]?=some (.string p.1)/\(YH c)[i*2+1]?=some (.int .i64 p.2):=by
 induction c generalizing i with
 |nil=>simp at h
 |cons q c ih=>
  cases i with
  |zero=>simp at h;subst h;simp[YH]
  |succ i=>have:=ih i (by simpa using h);have d:YH (q::c)=.string q.1:: .int .i64 q.2::YH c:=(by simp[YH]);rw[d,show(i+1)*2=i*2+1+1 by omega];simpa using this
def YM(c:List (BA × Int)):List (LU × Int):=c.map fun c=>(c.1.data.toList,c.2)
def Qgh(c)(i:Nat)(p)(h:c[i]?=some p):(YM c)[i]?=some (p.1.data.toList,p.2):=by simp[YM,h]
def qR(w0:WD)(e:List (LU × Int))(b:Nat)(k:Nat)(c:VL)(w:WD):Prop:=
 ∃d g,d<=e.length/\k=e.length-d/\c=.int .i64 (d:Nat)/\((e.take d).all fun h=>UR h.1 h.2)=true/\Wr w b g (YK (e.take d))/\Qb [] w0 w/\Qu w0 (b::Qd g)
def qS(w0:WD)(s:BA)(bs:LB)(r g b n:Nat)(k:Nat)(c:VL)(w:WD):Prop:=
 ∃d e,d<=n/\k=n-d/\c=.int .i64 (d:Nat)/\Rd w r g s d/\Wr w b e (bs++(Ql s).take d)/\Qq [r,g] (b::Qd e)/\Qb [] w0 w/\Qu w0 (b::Qd e)
def fD(a cap ps w)(h:Qp w 2 a ps.length (YH ps))(hT:JL (YM ps)<=1000000)(b8:ps.length<=140737488351232)(hp:∀p∈ps,p.2<=9223372036854775807):
 Calls prog 121 #[.slice a ps.length cap] w (RK (Zk<|Ch<|YM ps) w):=by
 have q1:(YM ps).length=ps.length:=by simp[YM]
 have⟨h5,HP,HS⟩:=qc q1 hp h;go_enter func121,ntmps121;go_wp2_with fail;have x5:(w.alloc<|.cells #["",(0:Int)] 204).heap[w.heap.size]?=some (.cells #["",(0:Int)] 204 (0,0)):=Xq _ _;have y4:Qb [] w (w.alloc<|.cells #["",(0:Int)] 204):=(Qc _ _).alloc _;have y9:(w.alloc<|.cells #["",(0:Int)] 204).heap.size=w.heap.size+1:=sx
 generalize w.alloc (.cells #["",(0:Int)] 204)=W0 at x5 y4 y9 ⊢;have⟨z1,x3,b5⟩:=qc x5 y4 y9;go_fit(DX _);rintro e w1⟨b,rfl,hw,p6,hb⟩
 go_wp2
 go_loopg [13] ps (fun k c wr=>qR W0 (YM ps) b k c wr)
 ·exact⟨0,_,ox,by rw[h5.o];omega,rfl,rfl,hw,p6,hb⟩
 obtain⟨j,o,hj,hk,rfl,p0,h2,h1,h3⟩:=hrel;rw[h5.o]at hj hk;have⟨Hk,x2⟩:=qb hk p0
 by_cases hlt:j<ps
 ·have q5:=HS.o.kZ (x3.o.new h1<|by simp[Qu]);obtain⟨b0,off,rfl,x6⟩:=q5.at (by rw[vF];omega);obtain⟨⟨t,N⟩,h8⟩:∃p,ps[j]?=some p:=⟨_,Qj hlt⟩;have c0:=x6 _ _ (aE ps j _ h8).1;have c1:=x6 _ _ (aE ps j _ h8).2;rw[<-Y7]at c1;have b7:(j:Int)<ps.length:=ox
  have hN:=HP.o _<|QB h8;have y6:=Qgh ps j _ h8;have q7:=Qki _ _ _ y6;simp only[Dr]at q7;have b9:t.size<=1000000:=ox
  have⟨x4,z7,x0,r4,HN⟩:=qe y6 h2 h1 h3 hN;go_wp2_with fail;have x7:(wr.alloc<|.cells #[t,N] 204).heap[wr.heap.size]?=some (.cells #[t,N] 204 (0,0)):=Xq _ _;have y3:Qb [] wr (wr.alloc<|.cells #[t,N] 204):=(Qc _ _).alloc _;generalize wr.alloc (.cells #[t,N] 204)=WA at x7 y3 ⊢;go_fit(Qd2 t N _ ox HN.o);rintro e w2⟨rfl,x9⟩;have p7:=y3.new x9 (by simp[Qu]);have p4:=x9.heap x7 sx;have⟨h4,z6⟩:=qb p7 p4;rcases J1 (UR t N)with hM|hM
  ·rw[hM];have y7:=Qdy _ _ hM;rw[Dr]at y7;obtain⟨n,rfl⟩:=Yu y7.1;have hn:n<=8*t.size:=ox;have HM:=Qa hM;have e0:w2.cell? wr=_:=ZD w2 wr 0 _ _ _ z6.o;simp at e0;go_wp2_with fail;go_fit(DW _ _ _ ox dx sx);rintro e w3⟨r,q,rfl,hr,y0,y8⟩;have hr:Rd w3 r q t 0:=hr;have e1:w3.cell? ⟨wr.heap.size,1,none⟩=_:=ZD w3 wr 1 _ _ _ (y0.heap z6.o sx);simp at e1;have x1:=h4.o.new y0 (by simp[Qu]);have q9:=z7.o.kept x1<|Zy _;have p1:Qq [r,q] (b::Qd o):=(Qq.fresh (fun x hx=>Av (z7.o.lt x hx) h4.o.size) y8).symm;have p5:=x0.o.new x1 (by simp[Qu]);have q4:Qu W0 [r,q]:=y8.mono<|QS x0.o.size h4.o.size;have⟨r9,b4⟩:=qb q4 x1;have a8:=Qco<|(YM ps).take j;have p3:=Qkj (YM ps) j;have b6:(YK<|(YM ps).take j).length<=8000000:=ox
   go_wp2
   go_loopg [26] n (fun k c wr=>qS W0 t (YK<|(YM ps).take j) r q b n k c wr)
   ·exact⟨0,o,ox,ox,rfl,hr,by simpa using q9,p1,p5,r4.o⟩
   obtain⟨x,o,hx,hk,rfl,q3,h2,hap,h1,h3⟩:=hrel;have a6:=Qa hk
   by_cases c4:x<n
   ·have z8:=Ss t x ox;have q8:=vE t x (by rw[Dr];omega);have⟨r7,a1⟩:=qb q8 z8;have p2:(YK ((YM ps).take j)++(Ql t).take x).length<=1000000000000:=(by rw[Qo,Zd];omega);have r3:=Qa p2;go_wp2_with fail;go_fit(Cs r q t x 1 _ q3 ox ox);rintro e w4 q0;rw[a1.o]at q0;obtain⟨rfl,h9,y1⟩:=q0;have h9:Rd w4 r q t (x+1):=h9;have r0:=h2.kept y1 (hap.sub sx).symm;have y5:=h1.new y1 fun y hy=>r9.o y (by simp at hy;simp[hy]);have p3:=Eo<|Yq t x;go_wp2_with fail;go_fit(RH b _ _ o _ _ dx dx ox zx r3.o r0);rintro e w5⟨rfl,o5,r1,y2,x8⟩;rw[low_bit,QR,<-r7.o]at r1;have b3:=h9.kept y2 hap;have a7:=hap.grow h9.lt x8;have b1:=h3.grow x8 y5.size;have b2:=y5.new y2 h3
    go_wp2
    go_roundg (n-(x+1))
    ·exact⟨x+1,o5,ox,rfl,by go_num,b3,r1,a7,b2,b1⟩
    have:=a6.o;omega
   obtain rfl:x=n:=ox
   go_wp2
   go_roundg (ps.length-(j+1))
   ·refine⟨j+1,o,by rw[h5.o];omega,by rw[h5.o],by go_num,?_,?_,h1,h3⟩
    ·rw[uL _ _ _ _ x4.o,x2.o];exact HM.o
    rwa[Qcq _ _ _ x4.o]
   have:=Hk.o;omega
  rw[hM];have p9:=Qcr _ _ _ x4.o hM;have r6:=Qa p9;have hh:=h4.o.heap (x0.o.heap z1.o sx) sx;have c0:w2.cell? w=_:=ZD w2 w 0 _ _ _ hh;have c1:w2.cell? ⟨w.heap.size,1,none⟩=_:=ZD w2 w 1 _ _ _ hh;have f0:=UN w2 w 0 _ _ hh;have f1:=UN w2 w 1 _ _ hh;simp at c0 c1;go_wp2_with fail;rw[r6.o];refine Zj (v:=Zk ([],0,2)) (by simp[results,results121,go_sem,c0,c1,Zk]) rfl ⟨rfl,?_⟩;exact((x3.o.new x0.o<|by simp[Qu]).new h4.o<|by simp[Qu]).setCell (.inr<|Qk _) _|>.setCell (.inr<|Qk _) _
 obtain rfl:j=ps:=ox
 have q6:(YM ps).take ps=YM ps:=Q5 (by rw[h5.o];omega);rw[q6]at h2 x2;have r2:Ch (YM ps)=(Qw<|YK<|YM ps,(((YK<|YM ps).length:Nat):Int),0):=by unfold Ch;rw[x2.o];rfl
 have HY:=Qa r2;have hh:=h1.heap z1.o sx;have c0:wr.cell? w=_:=ZD wr w 0 _ _ _ hh;have c1:wr.cell? ⟨w.heap.size,1,none⟩=_:=ZD wr w 1 _ _ _ hh;have f0:=UN wr w 0 _ _ hh;have f1:=UN wr w 1 _ _ hh;simp at c0 c1;have p8:=x3.o.new h1 (by simp[Qu]);have r5:=Qa p8;go_wp2_with fail;go_fit(Eg _ _ _ _ h2);rintro e w'⟨rfl,rfl⟩;go_wp2_with fail;go_fit(DT _ _ _ _ h2);rintro e w'⟨rfl,rfl⟩;go_wp2_with fail;rw[HY.o];refine Zj (v:=Zk (Qw<|YK<|YM ps,(((YK<|YM ps).length:Nat):Int),0)) (by simp[results,results121,go_sem,c0,c1,Zk]) rfl ⟨rfl,?_⟩;exact(r5.o.setCell (.inr<|Qk _) _).setCell (.inr<|Qk _) _
def pS(w0:WD)(xs:LI)(k:Nat)(c:VL)(w:WD):Prop:=
 ∃d,d<=xs.length/\k=xs.length-d/\c=.int .i64 (d:Nat)/\((xs.take d).all fun d=>decide (1<=d/\d<=20))=true/\Qb [] w0 w
def pT(w0:WD)(xs:LI)(b:Nat)(k:Nat)(s c:VL)(w:WD):Prop:=
 ∃d e g h,d<=xs.length/\k=xs.length-d/\c=.int .i64 (d:Nat)/\s=.int .i64 e/\(1<=e/\e<=20)/\Q7 xs=g++VG e (xs.drop d)/\Wr w b h g/\Qb [] w0 w/\Qu w0 (b::Qd h)
def SS(w0:WD)(T:LB)(x:Int)(g:LB)(b:Nat)(m:Int->Nat)(good:Int->Prop)(k:Nat)(s:VL)(w:WD):Prop:=
 ∃c d e,k=m c/\s=.int .i64 c/\(1<=c/\c<=20)/\good c/\T=d++(VV c x++g)/\Wr w b e d/\Qb [] w0 w/\Qu w0 (b::Qd e)
def yQ(a cap xs w)(h:Qp w 1 a xs.length (QO xs))(c:xs.length<=140737488351232)(m:JU xs=true):
 Calls prog 210 #[.slice a xs.length cap] w (RK (Zk<|Cq xs) w):=by
 have⟨u,j⟩:=qb h<|(Ve xs).1 m;clear h m;have y:=j.o.1;have g1:decide ((xs:Int)<2)=false:=zx
 have o:decide (258<(xs:Int))=false:=zx
 go_enter func210,TV;go_wp2_with fail;have c:(w.alloc<|.cells #["",(0:Int)] 204).heap[w.heap.size]?=some (.cells #["",(0:Int)] 204 (0,0)):=Xq _ _;have d:Qb [] w (w.alloc<|.cells #["",(0:Int)] 204):=(Qc _ _).alloc _;generalize w.alloc (.cells #["",(0:Int)] 204)=W0 at c d ⊢;have⟨L,x⟩:=qb c d;clear c d g1 o
 go_loopg [21] xs (fun k z wr=>pS W0 xs k z wr)
 ·exact⟨0,ox,ox,rfl,rfl,Qc _ _⟩
 obtain⟨g,hi,hk,rfl,c,d⟩:=hrel;have⟨H,i,s⟩:=qc hk c d;clear hk c
 by_cases hlt:g<xs
 ·obtain⟨b0,off,rfl,n⟩:=(u.o.kZ<|x.o.new d<|by simp[Qu]).at (by rw[Xx];omega);have⟨c,p⟩:=qy xs g hlt;have c0:=n _ _<|Fk xs g _ p;have G:(g:Int)<xs.length:=ox
  have l:xs.take (g+1)=xs.take g++[c]:=by rw[Zh,p];rfl
  have⟨q,t⟩:=qb l p;clear n p l d
  by_cases l:1<=c/\c<=20
  ·have g1:decide (c<1)=false:=zx;have o:decide (20<c)=false:=zx
   go_wp2
   go_roundg (xs.length-(g+1))
   ·exact⟨g+1,ox,rfl,by go_num,by rw[q.o,List.all_append,i.o];simp;exact l,s.o⟩
   have:=H.o;omega
  exact absurd (j.o.2 c<|QB t.o) l
 obtain rfl:g=xs:=ox
 have m:JU xs=true:=by have q:=i.o;rw[Q5<|Qk _]at q;unfold JU;rw[q];simp;exact y
 have t:=((Ve xs).1 m).2;obtain⟨i,o⟩:∃c,xs[0]?=some c:=⟨_,Qj ox⟩;have y:xs.headD 0=i:=by cases xs with
  |nil=>simp at o
  |cons j ys=>simpa using o
 have R:=t i<|QB o;have:=Hi xs m;have A:Cq xs=(Qw<|Q7 xs,(((Q7 xs).length:Nat):Int),0):=by unfold Cq;rw[m];rfl
 have l:Q7 xs=K.low i.toNat 5++VG i (xs.drop 0):=by unfold Q7;rw[y];rfl
 have⟨P,O,M,C⟩:=qd A l t o;clear A l m t y d;go_wp2_with fail;go_fit(DX _);rintro e m⟨b,rfl,I,A,o⟩;have m:=s.o.new A (by simp[Qu]);have o:Qu W0 (b::Qd ()):=o.mono s.o.size;obtain⟨b0,off,rfl,n⟩:=(u.o.kZ<|x.o.new m<|by simp[Qu]).at (by rw[Xx];omega);have c0:=n _ _<|Fk xs 0 _ C.o;rw[Jt]at c0;have G:(0:Int)<xs.length:=ox
 have:IntKind.u64.wrap i=i:=by rw[J3];omega
 clear n m;go_wp2_with fail;go_fit(RH b i 5 _ _ _ dx dx ox zx sx I);rintro e t⟨rfl,J,y,F,E⟩;have y:Wr t b J (K.low i.toNat 5):=y;have m:=s.o.new A (by simp[Qu]);have B:=m.new F o;have D:=o.grow E m.size;obtain⟨Q,S,t,n⟩:=(u.o.kZ<|x.o.new B<|by simp[Qu]).at (by rw[Xx];omega);have c0:=n _ _<|Fk xs 0 _ C.o;rw[Jt]at c0;injection t with t;injection t with q h2;subst q h2;clear n I A F E o m
 go_wp2
 go_loopg [7,45] xs (fun k C z wr=>pT W0 xs b k C z wr)
 ·exact⟨0,i,_,J,ox,ox,rfl,rfl,R,O.o,y,B,D⟩
 obtain⟨g,z,o,F,hi,hk,rfl,rfl,A,s,m,d,i⟩:=hrel;have⟨H,I⟩:=qb hk s;clear hk s y B D c0
 by_cases hlt:g<xs
 ·obtain⟨Q,S,t,n⟩:=(u.o.kZ<|x.o.new d<|by simp[Qu]).at (by rw[Xx];omega);have⟨c,p⟩:=qy xs g hlt;have c1:=n _ _<|Fk xs g _ p;injection t with t;injection t with q h2;subst q h2;have:=M.o c<|QB p;have t:xs.drop g=c::xs.drop (g+1):=by obtain⟨q,rfl⟩:=Qy.1 p;exact Xf q
  have u:=I.o;rw[t,Sd]at u;have q:=Qa u;have G:(g:Int)<xs.length:=ox
  clear n p t u;have⟨t,p,n⟩:=qc m d i;clear m d i
  go_wp2
  go_loopg [7] (c-z).toNat (fun k C wr=>SS W0 (Q7 xs) c (VG c<|xs.drop<|g+1) b (fun j=>(c-j).toNat) (fun _=>True) k C wr)
  ·exact⟨z,o,F,rfl,rfl,A,trivial,q.o,t.o,p.o,n.o⟩
  obtain⟨j,o,F,hk,rfl,Q,-,s,m,d,i⟩:=hrel;have⟨J,G⟩:=qb hk s;clear hk s c1
  by_cases n:j<c
  ·have l:=G.o;rw[mT j c n]at l;have z:o.length<=1000000000000:=(by have:=Qt List.length G.o;rw[Qo]at this;omega);have⟨y,E⟩:=qb l z;have R:IntKind.i64.wrap (j+1)=j+1:=Za _ ox;clear l z;go_wp2_with fail;go_fit(RH b 2 2 _ _ _ dx dx dx dx E.o m);rintro e D⟨rfl,t,n,q,p⟩;have n:Wr D b t (o++[true,false]):=n;have B:=d.new q i;have A:=i.grow p d.size;clear m d i q p
   go_wp2
   go_roundg (c-(j+1)).toNat
   ·exact⟨j+1,_,t,rfl,by go_num,ox,trivial,by rw[y.o];simp,n,B,A⟩
   have:=J.o;omega
  have⟨O,M,J⟩:=qc m d i;clear m d i
  go_wp2
  go_loopg [7] (j-c).toNat (fun k C wr=>SS W0 (Q7 xs) c (VG c<|xs.drop<|g+1) b (fun j=>(j-c).toNat) (fun j=>c<=j) k C wr)
  ·exact⟨j,o,F,rfl,rfl,Q,ox,G.o,O.o,M.o,J.o⟩
  obtain⟨j,o,F,hk,rfl,hz,C,s,m,d,i⟩:=hrel;have⟨F,C⟩:=qb hk s;have z:o.length<=1000000000000:=by have:=Qt List.length C.o;rw[Qo]at this;omega
  have E:=Qa z;clear hk s z
  by_cases s:c<j
  ·have l:=C.o;rw[mR j c s]at l;have y:=Qa l;have R:IntKind.i64.wrap (j-1)=j-1:=Za _ ox;clear l;go_wp2_with fail;go_fit(RH b 3 2 _ _ _ dx dx dx dx E.o m);rintro e D⟨rfl,t,n,q,p⟩;have n:Wr D b t (o++[true,true]):=n;have B:=d.new q i;have A:=i.grow p d.size;clear m d i q p
   go_wp2
   go_roundg (j-1-c).toNat
   ·exact⟨j-1,_,t,rfl,by go_num,ox,ox,by rw[y.o];simp,n,B,A⟩
   have:=F.o;omega
  obtain rfl:j=c:=ox
  have l:=C.o;rw[mS]at l;have y:=Qa l;clear l;go_wp2_with fail;go_fit(RH b 0 1 _ _ _ dx dx dx dx E.o m);rintro e D⟨rfl,t,n,q,p⟩;have n:Wr D b t (o++[false]):=n;have B:=d.new q i;have A:=i.grow p d.size;clear m d i q p
  go_wp2
  go_roundg (xs.length-(g+1))
  ·exact⟨g+1,j,_,t,ox,rfl,by go_num,rfl,hz,by rw[y.o];simp,n,B,A⟩
  have:=H.o;omega
 obtain rfl:g=xs:=ox
 have u:=I.o;rw[Ij]at u;have c:Q7 xs=o:=by rw[u];simp[VG]
 subst c;have hh:=d.heap L.o sx;have c:wr.cell? w=_:=ZD wr w 0 _ _ _ hh;have g:wr.cell? ⟨w.heap.size,1,none⟩=_:=ZD wr w 1 _ _ _ hh;have:=UN wr w 0 _ _ hh;have:=UN wr w 1 _ _ hh;simp at c g;have i:=Qa (x.o.new d<|by simp[Qu]);clear hh u d;go_wp2_with fail;go_fit(Eg _ _ _ _ m);rintro e w'⟨rfl,rfl⟩;go_wp2_with fail;go_fit(DT _ _ _ _ m);rintro e w'⟨rfl,rfl⟩;go_wp2_with fail;rw[P.o];refine Zj (v:=Zk (Qw<|Q7 xs,(((Q7 xs).length:Nat):Int),0)) (by simp[results,IW,go_sem,c,g,Zk]) rfl ⟨rfl,?_⟩;exact(i.o.setCell (.inr<|Qk _) _).setCell (.inr<|Qk _) _
