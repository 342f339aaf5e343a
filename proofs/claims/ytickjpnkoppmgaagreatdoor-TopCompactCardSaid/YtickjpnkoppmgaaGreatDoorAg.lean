import Derived.Test.YtickjpnkoppmgaaGreatDoorAf
set_option linter.all false
set_option maxHeartbeats 1000000
set_option maxRecDepth 100000
namespace Go.Proofs.YtickjpnkoppmgaaGreatDoor
open Go.Proofs.Tryz Go.RowKit K
namespace K
def QJ(bs:LB)(i:Nat)(n:Int):Nat × Nat:=if n<0∨64<n then(0,2)else if bs.length<i+n.toNat then(0,10)else(num (QW bs i n.toNat),0)
def DB(bs:LB)(i:Nat)(a:Int):Nat × Nat:=if a<0 then(0,2)else ZU a 0 (bs.drop i)
def kI(bs i n)(a:(QJ bs i n).2=0):0≤n∧n≤64∧i+n.toNat≤bs.length:=by
 unfold QJ at a
 split at a
 ·simp at a
 split at a
 ·simp at a
 omega
def kW(a):∀(l:LB)(n:Nat),(ZU a n l).2≤10∧(ZU a n l).1≤n+l.length∧((ZU a n l).2=0→(ZU a n l).1+1≤n+l.length)
 | [],n=>by simp[ZU]
 |false::t,n=>by simp[ZU]<;>omega
 |true::t,n=>by
  simp only[ZU]
  split
  ·simp
  have:=kW a t<|n+1;simp only[Q0];omega
end K
namespace K
def X2(list:LI)(n:Int):Bool:=decide (3≤n∧n≤258)&&decide (1≤list.length∧list.length≤1638350)&&list.all fun a=>decide (0≤a∧a<n)
def Yd(m:Int):Nat × Nat:=if m<1 then(0,2)else if m<200 then(2,0)else if m<600 then(3,0)else if m<1200 then(4,0)else if m<2400 then(5,0)else(6,0)
def CF(n:Nat)(t:LI):Bool:=decide (t.length=n)&&decide (3≤t.length)&&XA t
def Xm(T:List LI)(P:LI):Bool:=
 decide (2≤T.length∧T.length≤6)&&decide (1≤P.length∧P.length≤32767)&&(T.all (CF (T.getD 0 []).length))&&P.all fun a=>decide (0≤a∧a<(T.length:Int))
def ZH(m:Nat):Nat:=(m+49)/50
def Xt{α:Type}(l:List α)(k:Nat):List α:=(l.drop (50*k)).take 50
def JT:LN→LN→LB
 |_,[]=>[]
 |o,p::r=>List.replicate (o.idxOf p) true++false::JT (turned o (o.idxOf p)) r
def eI(P):∀a:LN,(∀p∈P,p∈a)→(JT a P).length≤P.length*a.length:=by
 induction P with
 |nil=>intro a _;simp[JT]
 |cons p r ih=>
  intro a b;have hp:=b p (by simp);have hi:a.idxOf p<a.length:=Ls.2 hp;have:=ih (turned a<|a.idxOf p) fun c d=>(Gy a _ hi c).2 (b c<|by simp[d])
  rw[DA a _ hi]at this;rw[JT,Qo,RV,Q0,Q0,V8,Nat.one_mul];omega
end K
namespace K
def TE(x):∀(l:LN)(j b:Nat),j<l.idxOf x→l[j]?=some b→b≠x
 | [],j,b,h,hy=>by simp at hy
 |a::l,j,b,h,hy=>by
  rw[List.idxOf_cons]at h
  by_cases c:a=x
  ·simp[c]at h
  have hb:(a==x)=false:=by simp[c]
  rw[hb]at h;cases j with
  |zero=>simp at hy;omega
  |succ j=>exact TE x l j b (by simpa using h) (by simpa using hy)
def Jf(T:List LI)(P:LI):LB:=low T.length 3++(low P.length 15++JT (List.range T.length) (QD P))
def Zr(T:List LI)(P:LI):LB:=Jf T P++T.flatMap Q2
def Bc(T:List LI)(P:LI):LU × Int × Nat:=if Xm T P then(Qv (Zr T P),((Zr T P).length:Nat),0)else([],0,110)
def RG{T P}(a:Xm T P=true):(2≤T.length∧T.length≤6)∧(1≤P.length∧P.length≤32767)∧(∀t∈T,t.length=(T.getD 0 []).length∧3≤t.length∧XA t=true)∧∀x∈P,0≤x∧x<(T.length:Int):=by unfold Xm at a;rw[Xh,Xh,Xh,Zv,Zv,XO,XO]at a;obtain⟨⟨⟨b,c⟩,d⟩,e⟩:=a;refine⟨b,c,fun t a=>?_,fun x b=>by have:=e x b;rwa[Zv]at this⟩;have:=d t a;unfold CF at this;rw[Xh,Xh,Zv,Zv,and_assoc]at this;exact this
def eN{T:List LI}{P}(a:∀x∈P,0≤x∧x<(T.length:Int)):∀p∈QD P,p∈List.range T.length:=by intro p hp;obtain⟨x,b,rfl⟩:=QB.1 hp;have:=a x b;rw[ZL];omega
def Ka{T P}(a:Xm T P=true):(Jf T P).length≤200000:=by obtain⟨b,c,-,d⟩:=RG a;have:=eI (QD P) (List.range T.length)<|eN d;rw[Vl,UQ]at this;unfold Jf;rw[Qo,Qo,X0,X0];have:P.length*T.length≤32767*6:=Fj c.2 b.2;omega
def Ao(T:List LI)(P:LI)(k:Nat):List (LU × Int):=(Qv (Jf T P),((Jf T P).length:Nat))::(T.take k).map fun a=>(Qv (Q2 a),((Q2 a).length:Nat))
def zX(l:List LI):Yo (l.map fun t=>(Qv<|Q2 t,((Q2 t).length:Nat)))=l.flatMap Q2:=by
 induction l with
 |nil=>rfl
 |cons t l ih=>
  have a:Yo ((t::l).map fun t=>(Qv<|Q2 t,(((Q2 t).length:Nat):Int)))=BK (Qv<|Q2 t,((Q2 t).length:Nat))++Yo (l.map fun t=>(Qv<|Q2 t,(((Q2 t).length:Nat):Int))):=by simp[Yo]
  rw[a,NX,ih,Jn]
def Qd0(T P):Yo (Ao T P T.length)=Zr T P:=by
 have b:Yo (Ao T P T.length)=BK (Qv<|Jf T P,((Jf T P).length:Nat))++Yo ((T.take T.length).map fun a=>(Qv<|Q2 a,(((Q2 a).length:Nat):Int))):=by simp[Yo,Ao]
 rw[b,NX,zX,VG];rfl
def Qhg(l:List LI)(a:∀t∈l,XA t=true):((l.map fun t=>(Qv<|Q2 t,(((Q2 t).length:Nat):Int))).map fun p=>p.1.length).sum≤l.length*2501:=by
 induction l with
 |nil=>simp
 |cons t l ih=>
  have:=ih fun c b=>a c (by simp[b])
  have:=Gn t (UL<|a t<|by simp);rw[QR,QR,Z9,Q0,Ub,V8];omega
def Qd2{T P}(a:Xm T P=true):Jl (Ao T P T.length)≤1000000:=by
 obtain⟨b,-,c,-⟩:=RG a;have:=Ka a;have:=Qhg T fun d a=>(c d a).2.2
 unfold Jl Ao;rw[VG,QR,Z9,Ub];have:T.length*2501≤6*2501:=AA _ b.2;omega
def Qd1{T P}(a:Xm T P=true):∀p∈Ao T P T.length,p.2≤9223372036854775807:=by
 obtain⟨-,-,c,-⟩:=RG a;intro p hp;simp only[Ao,QE,QB,VG]at hp;rcases hp with rfl|⟨b,d,rfl⟩
 ·have:=Ka a;simp only;omega
 have:=Gn b<|UL (c b d).2.2;simp only;omega
end K
namespace K
def Ai(T:List LI)(bs:LB)(b:Int):LI→LN→Nat→LN × Nat × Nat
 | [],out,p=>([],0,110)
 |k::r,out,p=>
  let a:=JP (T.getD k.toNat []) bs (p:Int) 50 b
  if a.2.2≠0 then([],0,a.2.2)else if((a.1.getD (a.1.length-1) 0:Nat):Int)=b then(out++a.1,a.2.1,0)else Ai T bs b r (out++a.1) a.2.1
def RD(T:List LI)(P:LI)(bs:LB)(at_:Int):LN × Nat × Nat:=
 if Xm T P then(if at_<0∨(bs.length:Int)<at_ then([],0,2)else Ai T bs ((((T.getD 0 []).length:Nat):Int)-1) P [] at_.toNat)else([],0,110)
def Tw(ls bs n e):∀f b p,(Yk ls bs n e f b p).2.2=0→(b.length:Int)≤n→b.length≤(Yk ls bs n e f b p).1.length∧((Yk ls bs n e f b p).1.length:Int)≤n∧
 ((b.length:Int)<n→b.length<(Yk ls bs n e f b p).1.length)
 |0,b,p,a,hn=>by simp[Yk]at a
 |f+1,b,p,a,hn=>by
  rw[Yk]at a ⊢
  by_cases c:(b.length:Int)<n
  ·rw[Qg c]at a ⊢
   by_cases b:(Z7 ls bs p).2.2≠0
   ·rw[Qg b]at a;exact absurd a b
   rw[Qf b]at a ⊢
   by_cases b:((Z7 ls bs p).1:Int)=e
   ·rw[Qg b];simp only[Qo,Q0,Yg];omega
   rw[Qf b]at a ⊢;have b:=Tw ls bs n e f _ _ a (by simp only[Qo,Q0,Yg];omega);simp only[Qo,Q0,Yg]at b;omega
  rw[Qf c];exact⟨Ql _,hn,fun a=>absurd a c⟩
def rA(l bs)(p:Nat)(e)(h:(JP l bs (p:Int) 50 e).2.2=0):1≤(JP l bs (p:Int) 50 e).1.length∧(JP l bs (p:Int) 50 e).1.length≤50:=by
 unfold JP at h ⊢
 split at h
 ·rename_i y;rw[Qg y]
  split at h
  ·simp at h
  rename_i hb;rw[Qf hb];rw[Zs]at h ⊢;obtain⟨-,h2,o⟩:=Tw (QD l) bs 50 e _ [] _ h (by simp);have q:=o (by simp);simp only[Yg]at q;omega
 simp at h
def Ms(ls bs n e):∀f a p,p≤bs.length→(Yk ls bs n e f a p).2.2=0→(Yk ls bs n e f a p).2.1≤bs.length
 |0,a,p,hp,h=>by simp[Yk]at h
 |f+1,a,p,hp,h=>by
  rw[Yk]at h ⊢
  by_cases b:(a.length:Int)<n
  ·rw[Qg b]at h ⊢
   by_cases a:(Z7 ls bs p).2.2≠0
   ·rw[Qg a]at h;exact absurd h a
   have c:=(NR ls bs p<|by omega).2;rw[Qf a]at h ⊢
   by_cases a:((Z7 ls bs p).1:Int)=e
   ·rwa[Qg a]
   rw[Qf a]at h ⊢;exact Ms ls bs n e f _ _ c h
  rwa[Qf b]
def rB(l bs)(p:Nat)(e)(h:(JP l bs (p:Int) 50 e).2.2=0):(JP l bs (p:Int) 50 e).2.1≤bs.length:=by
 unfold JP at h ⊢
 split at h
 ·rename_i o;rw[Qg o]
  split at h
  ·simp at h
  rename_i hb;rw[Qf hb];rw[Zs]at h ⊢;exact Ms (QD l) bs 50 e _ [] _ (by omega) h
 simp at h
end K
namespace K
def BL(T:List LI)(bs:LB)(b:Int)(P:LI):Nat→Nat→LN→Nat→LN × Nat × Nat
 |0,_,_,_=>([],0,110)
 |f+1,i,out,p=>
  let a:=Z7 (QD (T.getD (P.getD (i/50) 0).toNat [])) bs p
  if a.2.2≠0 then([],0,a.2.2)else if(a.1:Int)=b then(out++[a.1],a.2.1,0)else BL T bs b P f (i+1) (out++[a.1]) a.2.1
def FA(T:List LI)(bs:LB)(a:Int)(P:LI)(f i:Nat)(b:LN)(A:LN × Nat × Nat):LN × Nat × Nat:=
 if A.2.2≠0 then([],0,A.2.2)else if((A.1.getD (A.1.length-1) 0:Nat):Int)=a then(b++A.1,A.2.1,0)else BL T bs a P f i (b++A.1) A.2.1
def gQ(T bs a P k r ls)(d:QD (T.getD (P.getD k 0).toNat [])=ls)(c):
 ∀(f:Nat)(L:LN)(p:Nat),p≤bs.length→bs.length+1≤f+p→L.length≤50→(L≠[]→((L.getD (L.length-1) 0:Nat):Int)≠a)→(L.length=50→True)→
  (L=[]→0<50)→
  BL T bs a P (r+(50-L.length)) (50*k+L.length) (c++L) p=FA T bs a P r (50*(k+1)) c (Yk ls bs 50 a f L p)
 |0,L,p,hp,hf,hL,hn,_,_=>by omega
 |f+1,L,p,hp,hf,hL,hn,_,_=>by
  by_cases b:L.length=50
  ·rw[Tt _ _ _ _ _ _ _<|by omega];have hne:L≠[]:=(by intro e;rw[e]at b;simp at b);unfold FA;rw[Qf<|by simp,Qf<|hn hne,b];rfl
  obtain⟨hlt,b⟩:(L.length:Int)<50∧(50*k+L.length)/50=k:=by omega
  rw[show r+(50-L.length)=(r+(50-(L.length+1)))+1 by omega,BL,b,d]
  by_cases hz:(Z7 ls bs p).2.2=0
  ·obtain⟨b,g⟩:=NR ls bs p hz;rw[Qf (by rw[hz];simp)]
   by_cases b:((Z7 ls bs p).1:Int)=a
   ·rw[Qg b,Tu ls bs 50 a f L p (Z7 ls bs p).1 (Z7 ls bs p).2.1 hlt (by rw[←hz]) b];unfold FA;rw[Qf<|by simp,Qg<|by simpa using b,QQ]
   rw[Qf b,Tx ls bs 50 a f L p (Z7 ls bs p).1 (Z7 ls bs p).2.1 hlt (by rw[←hz]) b];have e:=gQ T bs a P k r ls d c f (L++[(Z7 ls bs p).1]) (Z7 ls bs p).2.1 g (by omega) (by simp only[Qo,Q0,Yg];omega) (by intro _;simpa using b) (fun _=>trivial) (fun _=>by omega);rw[Qo,Q0,Yg,←QQ]at e;rw[←e];rfl
  rw[Qg hz,Tv ls bs 50 a f L p (Z7 ls bs p).2.2 hlt (eQ ls bs p hz) hz];unfold FA;rw[Qg hz]
def gN(T bs a P)(d:∀x∈P,XA (T.getD x.toNat [])=true):
 ∀(m k:Nat)(b:LN)(p:Nat),m+k=P.length→p≤bs.length→BL T bs a P (50*m) (50*k) b p=Ai T bs a (P.drop k) b p
 |0,k,b,p,hk,hp=>by rw[JI<|by omega];rfl
 |m+1,k,b,p,hk,hp=>by
  have⟨x,c⟩:=qy P k (by omega);have e:P.getD k 0=x:=by rw[List.getD,c];rfl
  obtain⟨g,h⟩:=Qz.1 c;have f:=d x<|QA c;have c:=gQ T bs a P k (50*m) (QD<|T.getD x.toNat []) (by rw[e]) b (bs.length+1) [] p hp (by omega) (by simp) (fun e=>absurd rfl e) (fun _=>trivial) (fun _=>by omega);rw[Yg,XH]at c;rw[show 50*(m+1)=50*m+(50-0)by omega];have e:BL T bs a P (50*m+(50-0)) (50*k) b p=_:=c;rw[e,Z8 g,h,Ai];have b:JP (T.getD x.toNat []) bs (p:Int) 50 a=Yk (QD<|T.getD x.toNat []) bs 50 a (bs.length+1) [] p:=by unfold JP;rw[Qg f,Qf<|by omega,Zs]
  simp only[b];unfold FA
  by_cases h0:(Yk (QD<|T.getD x.toNat []) bs 50 a (bs.length+1) [] p).2.2≠0
  ·rw[Qg h0,Qg h0]
  rw[Qf h0,Qf h0]
  by_cases b:(((Yk (QD<|T.getD x.toNat []) bs 50 a (bs.length+1) [] p).1.getD ((Yk (QD<|T.getD x.toNat []) bs 50 a (bs.length+1) [] p).1.length-1) 0:Nat):Int)=a
  ·rw[Qg b,Qg b]
  rw[Qf b,Qf b];exact gN T bs a P d m (k+1) _ _ (by omega) (Ms (QD<|T.getD x.toNat []) bs 50 a _ [] _ hp<|by simpa using h0)
end K
namespace K
def Ji(bs:LB)(many:Nat):Nat→LN→LN→Nat→LN × Nat × Nat
 |0,_,out,p=>(out,p,0)
 |m+1,o,out,p=>
  let a:=ZU ((many:Int)-1) 0 (bs.drop p)
  if a.2=0 then Ji bs many m (turned o a.1) (out++[o.getD a.1 0]) (p+a.1+1)else([],0,if a.2=3 then 110 else a.2)
def VZ(bs:LB)(n:Int):Nat→List LI→Nat→List LI × Nat × Nat
 |0,out,p=>(out,p,0)
 |m+1,out,p=>
  let a:=Ju bs (p:Int) n
  if a.2.2≠0 then([],0,a.2.2)else if XA a.1 then VZ bs n m (out++[a.1]) a.2.1 else([],0,80)
def Uy(bs:LB)(at_ n:Int):List LI × LN × Nat × Nat:=
 if at_<0∨(bs.length:Int)<at_∨n<3∨258<n then([],[],0,2)else
 let a:=QJ bs at_.toNat 3
 if a.2≠0 then([],[],0,a.2)else if a.1<2∨6<a.1 then([],[],0,110)else
 let b:=QJ bs (at_.toNat+3) 15
 if b.2≠0 then([],[],0,b.2)else if b.1=0 then([],[],0,110)else
 let c:=Ji bs a.1 b.1 (List.range a.1) [] (at_.toNat+18)
 if c.2.2≠0 then([],[],0,c.2.2)else
 let b:=VZ bs n a.1 [] c.2.1
 if b.2.2≠0 then([],[],0,b.2.2)else(b.1,c.1,b.2.1,0)
def JA(T:List LI)(P:LI)(i:Nat):LN:=QD (T.getD (P.getD (i/50) 0).toNat [])
def XT(T:List LI)(P:LI)(n:Int):Nat→LI→Option LB
 |_,[]=>some []
 |i,s::r=>if s<0∨n≤s then none else(XT T P n (i+1) r).map (J0 (JA T P i) s.toNat++ ·)
def Jd(T:List LI)(P list:LI):LB × Nat:=
 if Xm T P&&decide (ZH list.length≤P.length)then match XT T P ((T.getD 0 []).length:Nat) 0 list with|none=>([],60)|some B=>(B,0)else([],110)
def VW(T:List LI)(P list:LI):LU × Int × Nat:=if(Jd T P list).2=0 then(Qv (Jd T P list).1,(((Jd T P list).1.length:Nat):Int),0)else([],0,(Jd T P list).2)
def US(T:List LI)(P list:LI):Nat × Nat:=if(Jd T P list).2=0 then((Zr T P).length+(Jd T P list).1.length,0)else(0,(Jd T P list).2)
def Wn(T P n):∀(l:LI)(i:Nat),(∃s∈l,s<0∨n≤s)→XT T P n i l=none
 | [],i,h=>by obtain⟨s,hs,-⟩:=h;cases hs
 |x::r,i,h=>by
  rw[XT]
  split
  ·rfl
  rename_i q;obtain⟨s,hs,o⟩:=h;rcases QE.1 hs with rfl|hs
  ·exact absurd o q
  rw[Wn T P n r (i+1) ⟨s,hs,o⟩];rfl
def Wp(T P n):∀(l:LI)(i:Nat),(∀s∈l,0≤s∧s<n)→∃a,XT T P n i l=some a
 | [],i,h=>⟨[],rfl⟩
 |x::r,i,h=>by
  have:=h x (by simp);obtain⟨a,a⟩:=Wp T P n r (i+1) fun s hs=>h s (by simp[hs])
  rw[XT,Qf<|by omega,a];exact⟨_,rfl⟩
def Wo(T P n x)(o:0≤x∧x<n):∀(l:LI)(i:Nat)(B:LB),XT T P n i l=some B→XT T P n i (l++[x])=some (B++J0 (JA T P<|i+l.length) x.toNat)
 | [],i,B,h=>by rw[XT]at h;injection h with h;subst h;rw[Yy,XT,Qf<|by omega,XT];simp
 |y::r,i,B,h=>by
  rw[XT]at h
  split at h
  ·cases h
  rename_i q;cases hr:XT T P n (i+1) r with
  |none=>rw[hr]at h;cases h
  |some C=>rw[hr]at h;injection h with h;have ih:=Wo T P n x o r (i+1) C hr;rw[Yf,XT,Qf q,ih,←h,Q0,show i+1+r.length=i+(r.length+1)by omega];simp
def Qho{T P}(a:Xm T P=true)(i s):(J0 (JA T P i) s).length≤20:=by
 obtain⟨-,-,b,-⟩:=RG a;rw[kB];unfold JA;cases hT:T[(P.getD (i/50) 0).toNat]? with
 |none=>
  have a:T.getD (P.getD (i/50) 0).toNat []=[]:=by rw[List.getD,hT];rfl
  rw[a];simp[QD]
 |some t=>
  have a:T.getD (P.getD (i/50) 0).toNat []=t:=by rw[List.getD,hT];rfl
  rw[a,List.getD];cases hs:(QD t)[s]? with
  |none=>simp
  |some v=>exact(Cl (b t<|QA hT).2.2 v (QA hs)).2
def Wm{T P}(c:Xm T P=true)(n):∀(l:LI)(i:Nat)(b:LB),XT T P n i l=some b→b.length≤20*l.length
 | [],i,b,a=>by rw[XT]at a;injection a with a;subst a;simp
 |y::r,i,b,a=>by
  rw[XT]at a
  split at a
  ·cases a
  cases hr:XT T P n (i+1) r with
  |none=>rw[hr]at a;cases a
  |some C=>rw[hr]at a;injection a with a;have:=Wm c n r (i+1) C hr;have:=Qho c i y.toNat;rw[←a,Qo,Q0];omega
end K
def Hj(m:Int)(w:WD)(e:Ending)(w':WD):Prop:=e=.returned (.tuple #[((Yd m).1:Nat),((Yd m).2:Nat)])∧w=w'
def EM(m a b)(c:Yd m=(a,b))(w):Hj m w (.returned<|.tuple #[(a:Int),(b:Int)]) w:=by unfold Hj;rw[c];exact⟨rfl,rfl⟩
def yI(m:Int)(w):Calls prog 250 #[m] w (Hj m w):=by
 have i0:∀w,(Instr.index 359 (.agg #[(200:Int),(600:Int),(1200:Int),(2400:Int)]) (0:Int)).run prog w=.ok (200:Int) w:=fun _=>by kernel_rfl
 have:∀w,(Instr.index 359 (.agg #[(200:Int),(600:Int),(1200:Int),(2400:Int)]) (1:Int)).run prog w=.ok (600:Int) w:=fun _=>by kernel_rfl
 have i2:∀w,(Instr.index 359 (.agg #[(200:Int),(600:Int),(1200:Int),(2400:Int)]) (2:Int)).run prog w=.ok (1200:Int) w:=fun _=>by kernel_rfl
 have i3:∀w,(Instr.index 359 (.agg #[(200:Int),(600:Int),(1200:Int),(2400:Int)]) (3:Int)).run prog w=.ok (2400:Int) w:=fun _=>by kernel_rfl
 by_cases h0:m<1
 ·have a:=Qa (by unfold Yd;rw[Qg h0]:Yd m=(0,2));go_enter func250,ntmps250
  go_wp2
  go_ret2;exact EM m 0 2 a.o _
 go_enter func250,ntmps250
 go_wp2
 go_loopg [9] 4 (fun c d wr=>∃b:Int,(b=0∨(b=1∧¬m<200)∨(b=2∧¬m<600)∨(b=3∧¬m<1200)∨(b=4∧¬m<2400))∧c=(4-b).toNat∧d=.int .i64 b∧w=wr)
 ·exact⟨0,.inl rfl,by omega,rfl,rfl⟩
 obtain⟨b,c,hk,rfl,rfl⟩:=hrel;have b:=Qa hk;rcases c with rfl|⟨rfl,hb⟩|⟨rfl,hb⟩|⟨rfl,hb⟩|⟨rfl,hb⟩
 ·by_cases c:m<200
  ·have a:=Qa (by unfold Yd;rw[Qf<|by omega,Qg<|by omega]:Yd m=(2,0))
   go_wp2
   go_ret2;exact EM m 2 0 a.o _
  go_wp2
  go_roundg 3
  ·exact⟨1,.inr<|.inl ⟨rfl,by omega⟩,by omega,rfl,rfl⟩
  have:=b.o;omega
 ·by_cases c:m<600
  ·have a:=Qa (by unfold Yd;rw[Qf<|by omega,Qf<|by omega,Qg<|by omega]:Yd m=(3,0))
   go_wp2
   go_ret2;exact EM m 3 0 a.o _
  go_wp2
  go_roundg 2
  ·exact⟨2,.inr<|.inr<|.inl ⟨rfl,by omega⟩,by omega,rfl,rfl⟩
  have:=b.o;omega
 ·by_cases c:m<1200
  ·have a:=Qa (by unfold Yd;rw[Qf<|by omega,Qf<|by omega,Qf<|by omega,Qg<|by omega]:Yd m=(4,0))
   go_wp2
   go_ret2;exact EM m 4 0 a.o _
  go_wp2
  go_roundg 1
  ·exact⟨3,.inr<|.inr<|.inr<|.inl ⟨rfl,by omega⟩,by omega,rfl,rfl⟩
  have:=b.o;omega
 ·by_cases c:m<2400
  ·have a:=Qa (by unfold Yd;rw[Qf<|by omega,Qf<|by omega,Qf<|by omega,Qf<|by omega,Qg<|by omega]:Yd m=(5,0))
   go_wp2
   go_ret2;exact EM m 5 0 a.o _
  go_wp2
  go_roundg 0
  ·exact⟨4,.inr<|.inr<|.inr<|.inr ⟨rfl,by omega⟩,by omega,rfl,rfl⟩
  have:=b.o;omega
 have a:=Qa (by unfold Yd;rw[Qf<|by omega,Qf<|by omega,Qf<|by omega,Qf<|by omega,Qf<|by omega]:Yd m=(6,0))
 go_wp2
 go_ret2;exact EM m 6 0 a.o _
def Nb(m:Nat)(w)(a:m≤17592186043904):Calls prog 211 #[m] w fun e w'=>e=.returned (ZH m:Nat)∧w=w':=by
 have a:=Qa (show((ZH m:Nat):Int)=((m:Int)+49)/50 by unfold ZH;omega);go_enter func211,ntmps211
 go_wp2
 go_ret;exact⟨gM (by rw[a.o];omega),rfl⟩
def mB(b:Bool)(w:WD)(e:Ending)(w':WD):Prop:=e=.returned (.bool b)∧w=w'
def Kk{xs n}(a:¬(3≤n∧n≤258)∨¬(1≤xs.length∧xs.length≤1638350)):X2 xs n=false:=by
 unfold X2;rcases a with a|a
 ·rw[Xz a];rfl
 rw[Xz a,Lg];rfl
def dQ{xs n x}{i:Nat}(a:xs[i]?=some x)(b:x<0∨n≤x):X2 xs n=false:=by rw[Bi];intro hh;unfold X2 at hh;rw[Xh,XO]at hh;have:=hh.2 x<|QA a;rw[Zv]at this;omega
def IU(a c xs)(n:Int)(w)(f:Qp w 1 a xs.length (QM xs))(b:xs.length≤17592186043904):
 Calls prog 249 #[.slice a xs.length c,n] w (mB (X2 xs n) w):=by
 have h:=Qa f
 by_cases b:n<3
 ·have d:=Qa (Kk (xs:=xs) (n:=n)<|.inl<|by omega);have g1:decide (n<3)=true:=Xs b;go_enter func249,Hy
  go_wp2
  go_ret;exact⟨by rw[d.o];rfl,rfl⟩
 have g1:decide (n<3)=false:=Xz b
 by_cases b:258<n
 ·have d:=Qa (Kk (xs:=xs) (n:=n)<|.inl<|by omega);have e:decide (258<n)=true:=Xs b;go_enter func249,Hy
  go_wp2
  go_ret;exact⟨by rw[d.o];rfl,rfl⟩
 have e:decide (258<n)=false:=Xz b
 by_cases b:xs.length<1
 ·have d:=Qa (Kk (xs:=xs) (n:=n)<|.inr<|by omega);have g3:decide ((xs.length:Int)<1)=true:=by simp;omega
  go_enter func249,Hy
  go_wp2
  go_ret;exact⟨by rw[d.o];rfl,rfl⟩
 have g3:decide ((xs.length:Int)<1)=false:=by simp;omega
 by_cases b:1638350<xs.length
 ·have d:=Qa (Kk (xs:=xs) (n:=n)<|.inr<|by omega);have g4:decide (1638350<(xs.length:Int))=true:=by simp;omega
  go_enter func249,Hy
  go_wp2
  go_ret;exact⟨by rw[d.o];rfl,rfl⟩
 have g4:decide (1638350<(xs.length:Int))=false:=by simp;omega
 obtain⟨b,off,rfl,-⟩:=h.o.at (by rw[Xk];omega);go_enter func249,Hy
 go_wp2
 go_loopg [25] xs.length (fun b g wr=>∃e:Nat,b=xs.length-e∧e≤xs.length∧g=.int .i64 (e:Nat)∧Hid (∀b∈xs.take e,0≤b∧b<n)∧w=wr)
 ·exact⟨0,by omega,by omega,rfl,Qa<|by simp,rfl⟩
 obtain⟨e,hk,hi,rfl,i,rfl⟩:=hrel;have j:=Qa hk
 by_cases hlt:e<xs.length
 ·have:(e:Int)<xs.length:=by omega
  have⟨b,g⟩:=qy xs e hlt;have c0:=h.o.int g;have h:=Qa g
  by_cases k1:b<0
  ·have k:decide (b<0)=true:=Xs k1;have d:=Qa (dQ (n:=n) h.o<|.inl k1)
   go_wp2
   go_ret;exact⟨by rw[d.o];rfl,rfl⟩
  have k:decide (b<0)=false:=Xz k1
  by_cases k2:n≤b
  ·have q2:decide (n≤b)=true:=Xs k2;have d:=Qa (dQ (n:=n) h.o<|.inr k2)
   go_wp2
   go_ret;exact⟨by rw[d.o];rfl,rfl⟩
  have q2:decide (n≤b)=false:=Xz k2
  go_wp2
  go_roundg (xs.length-(e+1))
  ·refine⟨e+1,rfl,by omega,by simp,Qa fun j d=>?_,rfl⟩;rw[Zt,h.o]at d;rcases Q6.1 d with f|f
   ·exact i.o j f
   simp at f;omega
  have:=j.o;omega
 obtain rfl:e=xs.length:=by omega
 have:¬(xs.length:Int)<xs.length:=by omega
 have d:=Qa (by have hb:=i.o;rw[Q8<|Ql _]at hb;unfold X2;rw[Xs<|show 3≤n∧n≤258 by omega,Xs<|show 1≤xs.length∧xs.length≤1638350 by omega,V1,V1,XO];intro b g;rw[Zv];exact hb b g:X2 xs n=true)
 go_wp2
 go_ret;exact⟨by rw[d.o];rfl,rfl⟩
def QZ(b:OA)(f d:Nat)(a:OA)(e c:Nat):VL:=.agg #[.slice b f d,.slice a e c]
def PM(b:Bool)(w:WD)(e:Ending)(w':WD):Prop:=e=.returned (.bool b)∧Qb [] w w'
def Kl{T P}(a:¬(2≤T.length∧T.length≤6)∨¬(1≤P.length∧P.length≤32767)):Xm T P=false:=by
 unfold Xm;rcases a with a|a
 ·rw[Xz a];rfl
 rw[Xz a,Lg];rfl
def NL{T P}{i:Nat}{t}(b:T[i]?=some t)(a:CF (T.getD 0 []).length t=false):Xm T P=false:=by rw[Bi];intro hh;unfold Xm at hh;rw[Xh,Xh,XO,XO]at hh;have:=hh.1.2 t<|QA b;rw[a]at this;cases this
def dR{T P}{i:Nat}{x}(a:P[i]?=some x)(b:x<0∨(T.length:Int)≤x):Xm T P=false:=by rw[Bi];intro hh;unfold Xm at hh;rw[Xh,XO]at hh;have:=hh.2 x<|QA a;rw[Zv]at this;omega
def dS{T P}(a:2≤T.length∧T.length≤6)(b:1≤P.length∧P.length≤32767)(c:∀t∈T,CF (T.getD 0 []).length t=true)(d:∀x∈P,0≤x∧x<(T.length:Int)):Xm T P=true:=by unfold Xm;rw[Xs a,Xs b,V1,V1,Xh,XO,XO];exact⟨c,fun x a=>by rw[Zv];exact d x a⟩
def Gw(n t):CF n t=true↔t.length=n∧3≤t.length∧XA t=true:=by unfold CF;rw[Xh,Xh,Zv,Zv,and_assoc]
def Xw.int{w a n}{T:List LI}(h:Xw w a n (T.map QM)){i t}(hi:T[i]?=some t):
 ∃b off d c,a=some ⟨b,off,none⟩∧w.cell? ⟨b,off+i,none⟩=some (.slice d t.length c)∧Qp w 1 d t.length (QM t)∧t.length≤c:=by
 obtain⟨b,off,d,c,j,e,f,g,-⟩:=h.at i (QM t) (by rw[ZD,hi];rfl);rw[Xk]at e f g;exact⟨b,off,d,c,j,e,f,g⟩
def FO(b a e d T P w)(h:Xw w b T.length (T.map QM))(g:Qp w 1 a P.length (QM P))(c:T.length≤17592186043904)(c:P.length≤17592186043904)(k:∀t∈T,t.length≤17592186043904):
 Calls prog 207 #[QZ b T.length e a P.length d] w (PM (Xm T P) w):=by
 have⟨c,f⟩:=qb ((Qc [] w).alloc<|.cells #[.slice b T.length e,.slice a P.length d] 255)<|Qy w [.slice b T.length e,.slice a P.length d] 255;have⟨j,i,l⟩:=qc (h.kZ c.o) (g.kZ c.o) k;have b0:(w.alloc<|.cells #[.slice b T.length e,.slice a P.length d] 255).cell? w=some (.slice b T.length e):=f.o.cell (i:=0) rfl;have m:(w.alloc<|.cells #[.slice b T.length e,.slice a P.length d] 255).cell? ⟨w.heap.size,1,none⟩=some (.slice a P.length d):=f.o.cell (i:=1) rfl;clear h g k;unfold QZ
 by_cases h:T.length<2
 ·have b:=Qa (Kl (T:=T) (P:=P)<|.inl<|by omega);have g1:decide ((T.length:Int)<2)=true:=by simp;omega
  go_enter func207,Hz
  go_wp2
  go_ret;exact⟨by rw[b.o];rfl,c.o⟩
 have g1:decide ((T.length:Int)<2)=false:=by simp;omega
 by_cases p:6<T.length
 ·have b:=Qa (Kl (T:=T) (P:=P)<|.inl<|by omega);have r:decide (6<(T.length:Int))=true:=by simp;omega
  go_enter func207,Hz
  go_wp2
  go_ret;exact⟨by rw[b.o];rfl,c.o⟩
 have r:decide (6<(T.length:Int))=false:=by simp;omega
 by_cases q:P.length<1
 ·have b:=Qa (Kl (T:=T) (P:=P)<|.inr<|by omega);have g3:decide ((P.length:Int)<1)=true:=by simp;omega
  go_enter func207,Hz
  go_wp2
  go_ret;exact⟨by rw[b.o];rfl,c.o⟩
 have g3:decide ((P.length:Int)<1)=false:=by simp;omega
 by_cases s:32767<P.length
 ·have b:=Qa (Kl (T:=T) (P:=P)<|.inr<|by omega);have g4:decide (32767<(P.length:Int))=true:=by simp;omega
  go_enter func207,Hz
  go_wp2
  go_ret;exact⟨by rw[b.o];rfl,c.o⟩
 have g4:decide (32767<(P.length:Int))=false:=by simp;omega
 obtain⟨t0,a⟩:∃t,T[0]?=some t:=⟨_,Qj<|by omega⟩;have o:=Qa (show(T.getD 0 []).length=t0.length by rw[List.getD,a];rfl);obtain⟨n,v,g,g,rfl,g,-,-⟩:=j.o.int a;rw[Jb]at g;obtain⟨k,u,rfl,-⟩:=i.o.at (by rw[Xk];omega);have:=l.o t0<|QA a;have:(0:Int)<T.length:=by omega
 clear a h p q s;go_enter func207,Hz;go_wp2_with fail;have⟨h,a⟩:=qx<|w.alloc<|.cells #[.slice (some ⟨n,v,none⟩) T.length e,.slice (some ⟨k,u,none⟩) P.length d] 255;rw[a]at b0 m g j i c ⊢;clear a f
 go_loopg [32] T.length (fun k m wr=>∃a:Nat,k=T.length-a∧a≤T.length∧m=.int .i64 (a:Nat)∧Hid (∀t∈T.take a,CF (T.getD 0 []).length t=true)∧h=wr)
 ·exact⟨0,by omega,by omega,rfl,Qa<|by simp,rfl⟩
 obtain⟨a,hk,hi,rfl,f,rfl⟩:=hrel;have g:=Qa hk;clear hk
 by_cases hlt:a<T.length
 ·have x:(a:Int)<T.length:=by omega
  have⟨t,e⟩:=qy T a hlt;obtain⟨d,d,p,q,d,u,s,-⟩:=j.o.int e;cases d;have:=l.o t<|QA e;have⟨d,n⟩:=qb e s;clear e s
  by_cases k1:t.length=t0.length
  ·have l:((t.length:Int) != (t0.length:Int))=false:=by simp;omega
   by_cases k2:t.length<3
   ·have q2:decide ((t.length:Int)<3)=true:=(by simp;omega);have b:=Qa<|NL (P:=P) d.o (by rw[Bi];intro hh;rw[Gw]at hh;omega);clear k1
    go_wp2
    go_ret;exact⟨by rw[b.o];rfl,c.o⟩
   have q2:decide ((t.length:Int)<3)=false:=(by simp;omega);have s:=Qa k1;clear k1;cases hg:XA t with
   |false=>
    have⟨b,e⟩:=qb (NL (P:=P) d.o (by rw[Bi];intro hh;rw[Gw,hg]at hh;exact absurd hh.2.2<|by simp)) (by unfold J7;rw[hg];rfl:J7 t=80);clear hg;go_wp2_with fail;refine(Ei p q t _ n.o<|by omega).mono ?_;rintro v y⟨rfl,rfl⟩;rw[e.o]
    go_wp2
    go_ret;exact⟨by rw[b.o];rfl,c.o⟩
   |true=>
    have⟨j,e⟩:=qb (by rw[Gw,o.o];exact⟨s.o,by omega,hg⟩:CF (T.getD 0 []).length t=true) (by unfold J7;rw[hg];rfl:J7 t=0);clear hg;go_wp2_with fail;refine(Ei p q t _ n.o<|by omega).mono ?_;rintro v y⟨rfl,rfl⟩;rw[e.o]
    go_wp2
    go_roundg (T.length-(a+1))
    ·refine⟨a+1,rfl,by omega,by simp,Qa fun n e=>?_,rfl⟩;rw[Zt,d.o]at e;rcases Q6.1 e with e|e
     ·exact f.o n e
     simp at e;rw[e];exact j.o
    have:=g.o;omega
  have l:((t.length:Int) != (t0.length:Int))=true:=by simp;omega
  have b:=Qa<|NL (P:=P) d.o (by rw[Bi];intro hh;rw[Gw,o.o]at hh;omega)
  go_wp2
  go_ret;exact⟨by rw[b.o];rfl,c.o⟩
 obtain rfl:a=T.length:=by omega
 have o:¬(T.length:Int)<T.length:=by omega
 have d:=f.o;rw[Q8<|Ql _]at d;have n:=Qa d;clear d f g
 go_wp2
 go_loopg [58] P.length (fun k m wr=>∃a:Nat,k=P.length-a∧a≤P.length∧m=.int .i64 (a:Nat)∧Hid (∀d∈P.take a,0≤d∧d<(T.length:Int))∧h=wr)
 ·exact⟨0,by omega,by omega,rfl,Qa<|by simp,rfl⟩
 obtain⟨a,hk,hi,rfl,f,rfl⟩:=hrel;have g:=Qa hk;clear hk
 by_cases hlt:a<P.length
 ·have x:(a:Int)<P.length:=by omega
  have⟨d,k⟩:=qy P a hlt;have u:=i.o.int k;have h:=Qa k;clear k
  by_cases k1:d<0
  ·have l:decide (d<0)=true:=Xs k1;have b:=Qa (dR (T:=T) h.o<|.inl k1)
   go_wp2
   go_ret;exact⟨by rw[b.o];rfl,c.o⟩
  have l:decide (d<0)=false:=Xz k1
  by_cases k2:(T.length:Int)≤d
  ·have q2:decide ((T.length:Int)≤d)=true:=Xs k2;have b:=Qa (dR (T:=T) h.o<|.inr k2)
   go_wp2
   go_ret;exact⟨by rw[b.o];rfl,c.o⟩
  have q2:decide ((T.length:Int)≤d)=false:=Xz k2
  go_wp2
  go_roundg (P.length-(a+1))
  ·refine⟨a+1,rfl,by omega,by simp,Qa fun d b=>?_,rfl⟩;rw[Zt,h.o]at b;rcases Q6.1 b with e|e
   ·exact f.o d e
   simp at e;omega
  have:=g.o;omega
 obtain rfl:a=P.length:=by omega
 have o:¬(P.length:Int)<P.length:=by omega
 have j:=Qa (show Xm T P=true by
  have hb:=f.o;rw[Q8<|Ql _]at hb;have a:2≤T.length∧T.length≤6:=by simp at g1 r;omega
  have a2:1≤P.length∧P.length≤32767:=by simp at g3 g4;omega
  exact dS a a2 n.o hb)
 go_wp2
 go_ret;exact⟨by rw[j.o];rfl,c.o⟩
def qH(w:WD):(prog.info? 3).map (·.size)=some 1:=by kernel_rfl
def AX{l}{i x:Nat}(a:l[i]?=some x):(Qi l)[i]?=some (.int .i64 (x:Int)):=by simp[Qi,a]
def oF(n:Nat)(w:WD)(e:Ending)(w':WD):Prop:=
 ∃a,e=.returned (.slice (some ⟨a,0,none⟩) n n)∧Qh w' 3 (.slice (some ⟨a,0,none⟩) n n) (Qi (List.range n))∧Qb [] w w'∧w.heap.size≤a
def aW(n:Nat)(w)(hn:n≤1000):Calls prog 208 #[n] w (oF n w):=by
 go_enter func208,ntmps208;go_wp2_with ((at_make;refine YZ rfl _ _ 51 rfl 3 (0:Int) 8 XC XJ rfl .i64 .i64 _ _ n n rfl rfl rfl rfl (Ql _) (by omega) (by simp only[maxLen];omega) ?_;intro w1 y h2));rw[show List.replicate n (Value.int .i64 0)=Qi (List.replicate n 0)by simp[Qi]]at y;have⟨g,hg⟩:=qx w.heap.size;have HG:=Qa (by omega:w.heap.size≤g);rw[hg]at y ⊢;have⟨o,q⟩:=qb y h2
 go_loopg [9] n (fun k v wr=>∃i:Nat,k=n-i∧i≤n∧v=.int .i64 (i:Nat)∧Hid (Qh wr 3 (.slice (some ⟨g,0,none⟩) n n)<|Qi<|List.range i++List.replicate (n-i) 0)∧Hid (Qb [] w wr))
 ·exact⟨0,by omega,by omega,rfl,o,q⟩
 obtain⟨i,hk,hi,rfl,o,q⟩:=hrel;have Hk:=Qa hk
 by_cases hlt:i<n
 ·have h3:(i:Int)<n:=by omega
  have hz:(List.range i++List.replicate (n-i) 0)[i]?=some 0:=by rw[Zx<|by simp,Vl,ZO,V4,Qg<|by omega]
  have c0:=o.o.aZ<|AX hz;have f0:=o.o.free i
  go_wp2
  go_roundg (n-(i+1))
  ·have h1:=o.o.put i (i:Int);have e:(Qi<|List.range i++List.replicate (n-i) 0).set i (i:Int)=Qi (List.range (i+1)++List.replicate (n-(i+1)) 0):=(by unfold Qi;rw[←Bp,VF _ _<|by simp,Vl,ZO,show n-i=(n-(i+1))+1 by omega,Y8,UY,JJ,QQ];rfl);rw[e]at h1;exact⟨i+1,by omega,by omega,by simp,Qa h1,Qa<|q.o.setCell (p:=⟨g,i,none⟩) (.inr HG.o) _⟩
  have:=Hk.o;omega
 obtain rfl:i=n:=by omega
 have h4:¬(i:Int)<i:=by omega
 go_wp2
 go_ret;have h:=o.o;rw[ZO,CP,XH]at h;exact⟨g,rfl,h,q.o,HG.o⟩
def eK(l):∀u∈Qi l,u.oneCell'=true:=by intro u a;obtain⟨b,-,rfl⟩:=QB.1 a;rfl
def aS(g c p:Nat)(l w)(hp:p<l.length)(a:l.length≤c)(a:2≤c)(a:l.length≤1000)(j:QK w g (Qi l)):
 Calls prog 209 #[.slice g l.length c,p] w fun e w'=>e=.returned (l.getD p 0:Nat)∧QK w' g (Qi<|K.turned l p)∧Qb [g] w w':=by
 have o:l[p]?=some (l.getD p 0):=by rw[List.getD,Qj hp];rfl
 have c0:=j.cell<|AX o;have:IntKind.i64.wrap ((p:Int)+1)=(p:Int)+1:=Q3 _ (by omega);obtain⟨h0,_,_,_,_,_⟩:(0:Int)≤p+1∧((p:Int)+1).toNat=p+1∧(p:Int)≤c∧(p:Int)+1≤(c:Int)∧(1:Int)≤p+1∧(p:Int)<l.length:=by omega
 have k:((Qi l).take p).length=p:=by rw[Zl,QF];omega
 have n:1+((Qi l).take p).length≤(Qi l).length:=by rw[k,QF];omega
 have r:∀b a,((Qi l).take p)[b]?=some a→w.cell? ⟨g,b,none⟩=some a:=fun b a d=>j.cell (by
  rw[Bm]at d
  split at d
  ·exact d
  cases d)
 have q:=jB (fun h:Nat=>Value.int .i64 (h:Int)) l p hp;have z:l.getD p default=l.getD p 0:=rfl;have⟨s,v,t,m,x,u⟩:=qf j (fun a (f:a∈(Qi l).take p)=>eK l a<|VE f) k n r q;obtain⟨_,_⟩:(1:Int)<c∧¬c=1:=by omega
 have⟨f,i⟩:=qx<|l.getD p 0;have y:=Qa i;rw[i]at c0 ⊢;go_enter func209,ntmps209;go_wp2_with fail;have k:0<((Qi l).take p).length→(some ⟨g,1,none⟩:OA)=some ⟨g,1,none⟩∧∃j:Addr,(some ⟨g,0,none⟩:OA)=some j∧∀b a,((Qi l).take p)[b]?=some a→w.cell? (j.add b)=some a:=
  fun _=>⟨rfl,_,rfl,fun b a d=>by rw[YM,ZE];exact x.o b a d⟩
 have a:=Qa k
 go_region_held3 (fun w'=>True) (exact trivial)
  (first
    |(refine KO rfl _ _ 51 51 rfl 3 XC (qH w) (some ⟨g,1,none⟩) g p (c-1) p c rfl rfl g 1 (Qi l) ((Qi l).take p) (s.o.kept (Qc [] w).drew<|by simp) (by rw[t.o];exact(Nat.min_self p).symm) a.o m.o v.o ?_;intro k b j))
 have d:(splice (Qi l) 1<|(Qi l).take p).length=l.length:=by rw[Nz _ _ _ m.o,QF]
 have:=b.cell<|Qj (by rw[d];omega:0<(splice (Qi l) 1<|(Qi l).take p).length);have:=b.free (by rw[d];omega:0<(splice (Qi l) 1<|(Qi l).take p).length);have a:=b.set 0 (.int .i64 (f:Int)) (by rw[d];omega);have a:QK (k.setCell ⟨g,0,none⟩<|.int .i64 (f:Int)) g (Qi<|K.turned l p):=by have e:=u.o;have d:splice (Qi l) 1 ((Qi l).take p)=splice (l.map fun h:Nat=>Value.int .i64 (h:Int)) 1 ((l.map fun h:Nat=>Value.int .i64 (h:Int)).take p):=rfl;rw[d]at a;have d:l.getD p default=f:=y.o;rw[d]at e;rwa[Qi,←e]
 have d:=Qa a
 go_wp2
 go_ret;exact⟨rfl,d.o,((Qc [g] w).drew.trans j fun f i=>.inl i).setCell (by simp) _⟩
structure Xv(w:WD)(aT aP:OA)(cT cP:Nat)(T:List LI)(P:LI):Prop where
 tabs:Xw w aT T.length (T.map QM)
 picks:Qp w 1 aP P.length (QM P)
 tl:T.length≤17592186043904
 pl:P.length≤17592186043904
 rl:∀t∈T,t.length≤17592186043904
def Xv.kept{w w' c b e d T P}(a:Xv w c b e d T P)(hk:Qb [] w w'):Xv w' c b e d T P:=
 ⟨a.tabs.kZ hk,a.picks.kZ hk,a.tl,a.pl,a.rl⟩
def Qe.alloc{w g t xs}(b:Qe w g t xs)(a):Qe (w.alloc a) g t xs:=b.kept ((Qc [] w).alloc a) (by simp)
def Qe.newAt(w:WD)(xs t g)(a:w.heap.size=g):Qe (w.alloc<|.cells xs.toArray t) g t xs:=a▸Qy w xs t
def CG(s:BA):s.data.toList.length=s.size:=by simp only[Rr];rfl
def XD(s:BA):(Qk s).length=8*s.size:=by rw[Yt,CG]
def pU(r a:Nat)(s:BA)(i:Nat)(n:Int)(w:WD)(p:Nat × Nat)(e:Ending)(w':WD):Prop:=
 e=.returned (.tuple #[.int .u64 p.1,p.2])∧Rd w' r a s (if p.2=0 then i+n.toNat else i)∧Qb [r] w w'
def BQ(r e s i)(n:Int)(w)(b:Rd w r e s i)(hs:s.size≤1125899906842624)(hi:i≤8*s.size):
 Calls prog 171 #[.pointer r,n] w (pU r e s i n w<|QJ (Qk s) i n):=by
 by_cases f:n<0∨64<n
 ·have c:QJ (Qk s) i n=(0,2):=by simp[QJ,f]
  rw[c];exact(Qhx r e s i n w b f).mono fun h j ⟨d,hw⟩=>⟨d,by rw[←hw];simpa using b,by rw[←hw];exact Qc _ _⟩
 obtain⟨a,rfl⟩:=X7 (by omega:0≤n)
 by_cases g:8*s.size<i+a
 ·have c:QJ (Qk s) i a=(0,10):=by unfold QJ;rw[Qf f,Qg (by rw[XD];simpa using g)]
  rw[c];exact(Qhz r e s i a w b hs hi (by omega) g).mono fun h j ⟨d,k,hw⟩=>⟨d,by rwa[hw],by rw[hw];exact(Qc _ _).drewN _⟩
 have c:QJ (Qk s) i a=(K.num<|QW (Qk s) i a,0):=by unfold QJ;rw[Qf f,Qf (by rw[XD];simpa using g)];rfl
 rw[c];exact(Qhy r e s i a w b hs (by omega)<|by omega).mono fun h j ⟨d,a,b⟩=>⟨d,by simpa using a,b⟩
def Qif(r a s i)(n:Int)(w)(b:Rd w r a s i)(hs:s.size≤1125899906842624)(hi:i≤8*s.size):
 Calls prog 223 #[.pointer r,n] w (Tn r a s i w<|DB (Qk s) i n):=by
 by_cases d:n<0
 ·have c:DB (Qk s) i n=(0,2):=by simp[DB,d]
  rw[c];exact(Qig r a s i n w b d).mono fun e e ⟨e,hw⟩=>⟨e,by rw[←hw];simpa using b,by rw[←hw];exact Qc _ _⟩
 have c:DB (Qk s) i n=ZU n 0 ((Qk s).drop i):=by simp[DB,d]
 rw[c];exact Qii r a s i n w b hs hi (by omega)
def sX(x r:Nat):(((x:Int)*2^r%256==0):Bool)=(x*2^r%256==0):=by
 have a:(x:Int)*2^r=((x*2^r:Nat):Int):=by push_cast;rfl
 rw[a];generalize x*2^r=y;have a:(y:Int)%256=((y%256:Nat):Int):=by omega
 rw[a];generalize y%256=z;rw[DE];simp
def Qbk(s:BA)(n:Int)(w)(hs:s.size≤140737488351232)(c:n≤9223372036854775807):
 Calls prog 169 #[.agg #[s,n]] w fun e w'=>e=.returned (.bool<|Ut s n)∧Qb [] w w':=by
 by_cases h0:n<0
 ·have a:Ut s n=false:=by unfold Ut;rw[Xz<|by omega];rfl
  rw[a];have g1:decide (n<0)=true:=by simpa using h0
  clear a c;go_enter func169,Md
  go_wp2
  go_ret;exact⟨rfl,(Qc _ _).alloc _⟩
 obtain⟨n,rfl⟩:=X7 (by omega:0≤n);have g1:decide ((n:Int)<0)=false:=by simp
 have b:=CG s;have:(n:Int)/8≤1152921504606846976:=by omega
 by_cases a:s.size=n/8+(n%8+7)/8
 ·by_cases f:n%8=0
  ·rw[Qbd _ _ (by rwa[b]) f];have g:((s.size:Int) != (n:Int)/8+((n:Int)%8+7)/8)=false:=(by simp;omega);have t2:((n:Int)%8==0)=true:=(by simp;omega);have d:=Qa a;clear a b c hs;go_enter func169,Md
   go_wp2
   have h:(n:Int).tmod 8=(n:Int)%8:=BU (by omega);go_quiet (fail)
   go_wp2
   go_ret;exact⟨rfl,((Qc _ _).alloc _).drewN _⟩
  rw[Qbf _ _ (by rwa[b]) f,b];have g:((s.size:Int) != (n:Int)/8+((n:Int)%8+7)/8)=false:=by simp;omega
  have t2:((n:Int)%8==0)=false:=by simp;omega
  have hlt:s.size-1<s.size:=by omega
  have:(1:Int)≤s.size:=by omega
  have t9:1≤s.size:=by omega
  have:0<s.size:=by omega
  obtain⟨t3,t4⟩:(0:Int)≤s.size-1∧(s.size:Int)-1<(s.size:Int):=by omega
  have t5:IntKind.i64.wrap ((s.size:Int)-1)=(s.size:Int)-1:=Q3 _ (by omega);have:((s.size:Int)-1).toNat=s.size-1:=by omega
  have⟨d,f⟩:=qb a b;clear a b c hs;go_enter func169,Md
  go_wp2
  have h:(n:Int).tmod 8=(n:Int)%8:=BU (by omega);go_quiet (fail)
  go_wp2
  go_ret;refine⟨?_,((Qc _ _).alloc _).drewN _⟩;have h:s.data.toList.getD (s.size-1) 0=s[s.size-1]'hlt:=by have:s.size-1<s.data.toList.length:=(by rw[f.o];exact hlt);rw[List.getD,Qj this];rfl
  rw[h];have f:=sX (s[s.size-1]'hlt).toNat<|n%8;rw[←f];rfl
 rw[Qbe _ _<|by rwa[b]];have g:((s.size:Int) != (n:Int)/8+((n:Int)%8+7)/8)=true:=by simp;omega
 have d:=Qa a;clear a b c hs;go_enter func169,Md
 go_wp2
 go_ret;exact⟨rfl,(Qc _ _).alloc _⟩
def Zg(p:LU × Int × Nat):VL:=.tuple #[.agg #[.string ⟨p.1.toArray⟩,p.2.1],p.2.2]
def Pa(s:BA)(p)(a:p<8*s.size):QJ (Qk s) p 1=((X4 s p).toNat,0):=by unfold QJ;rw[Qf<|by omega,Qf (by rw[XD];simp;omega),show(1:Int).toNat=1 from rfl,Qdq _ _<|by rwa[CG],Qcj]
def low_bit(b):K.low ((b.toNat:Nat):Int).toNat (1:Int).toNat=[b]:=by rw[Zs];exact Qa1 b
def Yl(a:List (BA × Int)):LV:=a.flatMap fun a=>[.string a.1,.int .i64 a.2]
def rX(a):(Yl a).length=a.length*2:=by
 induction a with
 |nil=>rfl
 |cons p a ih=>simp[Yl]at ih ⊢;omega
def TI(a i p)(b:a[i]?=some p):(Yl a)[i*2]?=some (.string p.1)∧(Yl a)[i*2+1]?=some (.int .i64 p.2):=by
 induction a generalizing i with
 |nil=>simp at b
 |cons q a ih=>
  cases i with
  |zero=>simp at b;subst b;simp[Yl]
  |succ i=>have:=ih i (by simpa using b);have b:Yl (q::a)=.string q.1:: .int .i64 q.2::Yl a:=(by simp[Yl]);rw[b,show(i+1)*2=i*2+1+1 by omega];simpa using this
def Yq(a:List (BA × Int)):List (LU × Int):=a.map fun a=>(a.1.data.toList,a.2)
def Qdz(a)(i:Nat)(p)(b:a[i]?=some p):(Yq a)[i]?=some (p.1.data.toList,p.2):=by simp[Yq,b]
def nF(w0:WD)(d:List (LU × Int))(b:Nat)(k:Nat)(c:VL)(w:WD):Prop:=
 ∃a e,a≤d.length∧k=d.length-a∧c=.int .i64 (a:Nat)∧((d.take a).all fun f=>Ut f.1 f.2)=true∧Wr w b e (Yo (d.take a))∧Qb [] w0 w∧Qs w0.heap.size (b::Qd e)
def nG(w0:WD)(s:BA)(bs:LB)(r e b n:Nat)(k:Nat)(c:VL)(w:WD):Prop:=
 ∃a d,a≤n∧k=n-a∧c=.int .i64 (a:Nat)∧Rd w r e s a∧Wr w b d (bs++(Qk s).take a)∧Qq [r,e] (b::Qd d)∧Qb [] w0 w∧Qs w0.heap.size (b::Qd d)
def bY(a cap ps w)(h:Qp w 2 a ps.length (Yl ps))(hT:Jl (Yq ps)≤1000000)(b8:ps.length≤140737488351232)(hp:∀p∈ps,p.2≤9223372036854775807):
 Calls prog 121 #[.slice a ps.length cap] w fun e w'=>e=.returned (Zg<|BE<|Yq ps)∧Qb [] w w':=by
 have q1:(Yq ps).length=ps.length:=by simp[Yq]
 have⟨h5,HP,HS⟩:=qc q1 hp h;go_enter func121,ntmps121;go_wp2_with fail;have x5:(w.alloc<|.cells #[.string ⟨#[]⟩,(0:Int)] 204).heap[w.heap.size]?=some (.cells #[.string ⟨#[]⟩,(0:Int)] 204 (0,0)):=Xf _ _;have y4:Qb [] w (w.alloc<|.cells #[.string ⟨#[]⟩,(0:Int)] 204):=(Qc _ _).alloc _;have y9:(w.alloc<|.cells #[.string ⟨#[]⟩,(0:Int)] 204).heap.size=w.heap.size+1:=by simp
 generalize w.alloc (.cells #[.string ⟨#[]⟩,(0:Int)] 204)=W0 at x5 y4 y9 ⊢;have⟨z1,x3,b5⟩:=qc x5 y4 y9;refine(Dq _).mono ?_;rintro e w1⟨b,rfl,hw,p6,hb⟩
 go_wp2
 go_loopg [13] ps.length (fun k c wr=>nF W0 (Yq ps) b k c wr)
 ·exact⟨0,_,by omega,by rw[h5.o];omega,rfl,rfl,hw,p6,hb⟩
 obtain⟨j,o,hj,hk,rfl,p0,h2,h1,h3⟩:=hrel;rw[h5.o]at hj hk;have⟨Hk,x2⟩:=qb hk p0
 by_cases hlt:j<ps.length
 ·have q5:=HS.o.kZ (x3.o.new h1<|by simp[Qs]);obtain⟨b0,off,rfl,x6⟩:=q5.at (by rw[rX];omega);obtain⟨⟨t,N⟩,h8⟩:∃p,ps[j]?=some p:=⟨_,Qj hlt⟩;have c0:=x6 _ _ (TI ps j _ h8).1;have c1:=x6 _ _ (TI ps j _ h8).2;rw[←Ja]at c1;have b7:(j:Int)<ps.length:=by omega
  have hN:=HP.o _<|QA h8;have y6:=Qdz ps j _ h8;have q7:=Qh4 _ _ _ y6;simp only[CG]at q7;have b9:t.size≤1000000:=by omega
  have⟨x4,z7,x0,r4,HN⟩:=qe y6 h2 h1 h3 hN;go_wp2_with fail;have x7:(wr.alloc<|.cells #[t,N] 204).heap[wr.heap.size]?=some (.cells #[t,N] 204 (0,0)):=Xf _ _;have y3:Qb [] wr (wr.alloc<|.cells #[t,N] 204):=(Qc _ _).alloc _;generalize wr.alloc (.cells #[t,N] 204)=WA at x7 y3 ⊢;refine(Qbk t N _ (by omega) HN.o).mono ?_;rintro e w2⟨rfl,x9⟩;have p7:=y3.new x9 (by simp[Qs]);have p4:=x9.heap x7 (by simp);have⟨h4,z6⟩:=qb p7 p4;rcases JD (Ut t N)with hM|hM
  ·rw[hM];have y7:=Qbg _ _ hM;rw[CG]at y7;obtain⟨n,rfl⟩:=X7 y7.1;have hn:n≤8*t.size:=(by omega);have HM:=Qa hM;have e0:w2.cell? wr=_:=Zu w2 wr.heap.size 0 _ _ _ z6.o;simp at e0;go_wp2_with fail;refine(BH _ _ _ (by omega) (by decide)<|by simp).mono ?_;rintro e w3⟨r,q,rfl,hr,y0,y8⟩;have hr:Rd w3 r q t 0:=hr;have e1:w3.cell? ⟨wr.heap.size,1,none⟩=_:=Zu w3 wr.heap.size 1 _ _ _ (y0.heap z6.o<|by simp);simp at e1;have x1:=h4.o.new y0 (by simp[Qs]);have q9:=z7.o.kept x1<|ZM _;have p1:Qq [r,q] (b::Qd o):=(Qq.fresh (fun x hx=>Az (z7.o.lt x hx) h4.o.size) y8).symm;have p5:=x0.o.new x1 (by simp[Qs]);have q4:Qs W0.heap.size [r,q]:=y8.mono<|QS x0.o.size h4.o.size;have⟨r9,b4⟩:=qb q4 x1;have a8:=zW<|(Yq ps).take j;have p3:=Qh5 (Yq ps) j;have b6:(Yo<|(Yq ps).take j).length≤8000000:=by omega
   go_wp2
   go_loopg [26] n (fun k c wr=>nG W0 t (Yo<|(Yq ps).take j) r q b n k c wr)
   ·exact⟨0,o,by omega,by omega,rfl,hr,by simpa using q9,p1,p5,r4.o⟩
   obtain⟨x,o,hx,hk,rfl,q3,h2,hap,h1,h3⟩:=hrel;have a6:=Qa hk
   by_cases c4:x<n
   ·have z8:=Pa t x (by omega);have q8:=rW t x (by rw[CG];omega);have⟨r7,a1⟩:=qb q8 z8;have p2:(Yo ((Yq ps).take j)++(Qk t).take x).length≤1000000000000:=(by rw[Qo,Zl];omega);have r3:=Qa p2;go_wp2_with fail;refine(BQ r q t x 1 _ q3 (by omega)<|by omega).mono ?_;rintro e w4 q0;rw[a1.o]at q0;obtain⟨rfl,h9,y1⟩:=q0;have h9:Rd w4 r q t (x+1):=h9;have r0:=h2.kept y1 (hap.sub<|by simp).symm;have y5:=h1.new y1 fun y hy=>r9.o y (by simp at hy;simp[hy]);have p3:=DF<|X4 t x;go_wp2_with fail;refine(Rk b _ _ o _ _ (by decide) (by decide) (by omega) (by simp;omega) r3.o r0).mono ?_;rintro e w5⟨rfl,o5,r1,y2,x8⟩;rw[low_bit,QQ,←r7.o]at r1;have b3:=h9.kept y2 hap;have a7:=hap.grow h9.lt x8;have b1:=h3.grow x8 y5.size;have b2:=y5.new y2 h3
    go_wp2
    go_roundg (n-(x+1))
    ·exact⟨x+1,o5,by omega,rfl,by go_num,b3,r1,a7,b2,b1⟩
    have:=a6.o;omega
   obtain rfl:x=n:=by omega
   go_wp2
   go_roundg (ps.length-(j+1))
   ·refine⟨j+1,o,by rw[h5.o];omega,by rw[h5.o],by go_num,?_,?_,h1,h3⟩
    ·rw[rD _ _ _ _ x4.o,x2.o];exact HM.o
    rwa[zY _ _ _ x4.o]
   have:=Hk.o;omega
  rw[hM];have p9:=zZ _ _ _ x4.o hM;have r6:=Qa p9;have hh:=h4.o.heap (x0.o.heap z1.o<|by simp) (by simp);have c0:w2.cell? w=_:=Zu w2 w.heap.size 0 _ _ _ hh;have c1:w2.cell? ⟨w.heap.size,1,none⟩=_:=Zu w2 w.heap.size 1 _ _ _ hh;have f0:=Ur w2 w.heap.size 0 _ _ hh;have f1:=Ur w2 w.heap.size 1 _ _ hh;simp at c0 c1;go_wp2_with fail;rw[r6.o];refine Q5 (v:=Zg ([],0,2)) (by simp[results,results121,go_sem,c0,c1,Zg]) rfl ⟨rfl,?_⟩;exact((x3.o.new x0.o<|by simp[Qs]).new h4.o<|by simp[Qs]).setCell (.inr<|Ql _) _|>.setCell (.inr<|Ql _) _
 obtain rfl:j=ps.length:=by omega
 have q6:(Yq ps).take ps.length=Yq ps:=Q8 (by rw[h5.o];omega);rw[q6]at h2 x2;have r2:BE (Yq ps)=(Qv<|Yo<|Yq ps,(((Yo<|Yq ps).length:Nat):Int),0):=by unfold BE;rw[x2.o];rfl
 have HY:=Qa r2;have hh:=h1.heap z1.o (by simp);have c0:wr.cell? w=_:=Zu wr w.heap.size 0 _ _ _ hh;have c1:wr.cell? ⟨w.heap.size,1,none⟩=_:=Zu wr w.heap.size 1 _ _ _ hh;have f0:=Ur wr w.heap.size 0 _ _ hh;have f1:=Ur wr w.heap.size 1 _ _ hh;simp at c0 c1;have p8:=x3.o.new h1 (by simp[Qs]);have r5:=Qa p8;go_wp2_with fail;refine(Dx _ _ _ _ h2).mono ?_;rintro e w'⟨rfl,rfl⟩;go_wp2_with fail;refine(Dj _ _ _ _ h2).mono ?_;rintro e w'⟨rfl,rfl⟩;go_wp2_with fail;rw[HY.o];refine Q5 (v:=Zg (Qv<|Yo<|Yq ps,(((Yo<|Yq ps).length:Nat):Int),0)) (by simp[results,results121,go_sem,c0,c1,Zg]) rfl ⟨rfl,?_⟩;exact(r5.o.setCell (.inr<|Ql _) _).setCell (.inr<|Ql _) _
def mI(w0:WD)(xs:LI)(k:Nat)(c:VL)(w:WD):Prop:=
 ∃a,a≤xs.length∧k=xs.length-a∧c=.int .i64 (a:Nat)∧((xs.take a).all fun a=>decide (1≤a∧a≤20))=true∧Qb [] w0 w
def mJ(w0:WD)(xs:LI)(b:Nat)(k:Nat)(s c:VL)(w:WD):Prop:=
 ∃a d e f,a≤xs.length∧k=xs.length-a∧c=.int .i64 (a:Nat)∧s=.int .i64 d∧(1≤d∧d≤20)∧Q2 xs=e++Vh d (xs.drop a)∧Wr w b f e∧Qb [] w0 w∧Qs w0.heap.size (b::Qd f)
def PG(w0:WD)(T:LB)(x:Int)(e:LB)(b:Nat)(m:Int→Nat)(good:Int→Prop)(k:Nat)(s:VL)(w:WD):Prop:=
 ∃a c d,k=m a∧s=.int .i64 a∧(1≤a∧a≤20)∧good a∧T=c++(Vx a x++e)∧Wr w b d c∧Qb [] w0 w∧Qs w0.heap.size (b::Qd d)
def vG(a cap xs w)(b:Qp w 1 a xs.length (QM xs))(c:xs.length≤140737488351232):
 Calls prog 210 #[.slice a xs.length cap] w fun e w'=>e=.returned (Zg<|BO xs)∧Qb [] w w':=by
 have q:=Qa b;clear b
 by_cases Q:2≤xs.length∧xs.length≤258
 ·have g1:decide ((xs.length:Int)<2)=false:=by simp;omega
  have I:decide (258<(xs.length:Int))=false:=by simp;omega
  go_enter func210,SF;go_wp2_with fail;have b:(w.alloc<|.cells #[.string ⟨#[]⟩,(0:Int)] 204).heap[w.heap.size]?=some (.cells #[.string ⟨#[]⟩,(0:Int)] 204 (0,0)):=Xf _ _;have c:Qb [] w (w.alloc<|.cells #[.string ⟨#[]⟩,(0:Int)] 204):=(Qc _ _).alloc _;generalize w.alloc (.cells #[.string ⟨#[]⟩,(0:Int)] 204)=W0 at b c ⊢;have⟨O,t⟩:=qb b c;clear b c g1 I
  go_loopg [21] xs.length (fun s z wr=>mI W0 xs s z wr)
  ·exact⟨0,by omega,by omega,rfl,rfl,Qc _ _⟩
  obtain⟨d,hi,hk,rfl,b,c⟩:=hrel;have⟨M,f,i⟩:=qc hk b c;clear hk b
  by_cases hlt:d<xs.length
  ·obtain⟨b0,off,rfl,k⟩:=(q.o.kZ<|t.o.new c<|by simp[Qs]).at (by rw[Xk];omega);have⟨b,n⟩:=qy xs d hlt;have c0:=k _ _<|Ex xs d _ n;have G:(d:Int)<xs.length:=(by omega);have g:xs.take (d+1)=xs.take d++[b]:=(by rw[Zt,n];rfl);have⟨h,j⟩:=qb g n;clear k n g c
   by_cases g:1≤b∧b≤20
   ·have g1:decide (b<1)=false:=(by simp;omega);have I:decide (20<b)=false:=by simp;omega
    go_wp2
    go_roundg (xs.length-(d+1))
    ·exact⟨d+1,by omega,rfl,by go_num,by rw[h.o,List.all_append,f.o];simp;exact g,i.o⟩
    have:=M.o;omega
   have D:BO xs=([],0,80):=(by unfold BO;rw[cH xs d b j.o<|by omega];rfl);have y:=Qa D;have hh:=i.o.heap O.o (by simp);have u:wr.cell? w=_:=Zu wr w.heap.size 0 _ _ _ hh;have x:wr.cell? ⟨w.heap.size,1,none⟩=_:=Zu wr w.heap.size 1 _ _ _ hh;have V:=Ur wr w.heap.size 0 _ _ hh;have W:=Ur wr w.heap.size 1 _ _ hh;simp at u x;have H:=Qa (t.o.new i.o<|by simp[Qs]);clear D hh
   by_cases m:b<1
   ·have g1:decide (b<1)=true:=(by simp;omega);go_wp2_with fail;rw[y.o];refine Q5 (v:=Zg ([],0,80)) (by simp[results,Ia,go_sem,u,x,Zg]) rfl ⟨rfl,?_⟩;exact(H.o.setCell (.inr<|Ql _) _).setCell (.inr<|Ql _) _
   have g1:decide (b<1)=false:=(by simp;omega);have I:decide (20<b)=true:=(by simp;omega);go_wp2_with fail;rw[y.o];refine Q5 (v:=Zg ([],0,80)) (by simp[results,Ia,go_sem,u,x,Zg]) rfl ⟨rfl,?_⟩;exact(H.o.setCell (.inr<|Ql _) _).setCell (.inr<|Ql _) _
  obtain rfl:d=xs.length:=by omega
  have j:Jt xs=true:=by have m:=f.o;rw[Q8<|Ql _]at m;unfold Jt;rw[m];simp;exact Q
  have o:=((UN xs).1 j).2;obtain⟨f,l⟩:∃b,xs[0]?=some b:=⟨_,Qj<|by omega⟩;have p:xs.headD 0=f:=by cases xs with
   |nil=>simp at l
   |cons g ys=>simpa using l
  have X:=o f<|QA l;have:=Gn xs j;have r:BO xs=(Qv<|Q2 xs,(((Q2 xs).length:Nat):Int),0):=by unfold BO;rw[j];rfl
  have h:Q2 xs=K.low f.toNat 5++Vh f (xs.drop 0):=by unfold Q2;rw[p];rfl
  have⟨U,S,R,C⟩:=qd r h o l;clear r h j o p c;go_wp2_with fail;refine(Dq _).mono ?_;rintro e j⟨j,rfl,L,A,o⟩;have l:=i.o.new A (by simp[Qs]);have o:Qs W0.heap.size (j::Qd (.slice none 0 0)):=o.mono i.o.size;obtain⟨b0,off,rfl,k⟩:=(q.o.kZ<|t.o.new l<|by simp[Qs]).at (by rw[Xk];omega);have c0:=k _ _<|Ex xs 0 _ C.o;rw[Jb]at c0;have G:(0:Int)<xs.length:=by omega
  have:IntKind.u64.wrap f=f:=by rw[JH];omega
  clear k l;go_wp2_with fail;refine(Rk j f 5 _ _ _ (by decide) (by decide) (by omega) (by simp;omega) (by simp) L).mono ?_;rintro e p⟨rfl,P,r,J,E⟩;have r:Wr p j P (K.low f.toNat 5):=r;have l:=i.o.new A (by simp[Qs]);have B:=l.new J o;have F:=o.grow E l.size;obtain⟨T,Y,p,k⟩:=(q.o.kZ<|t.o.new B<|by simp[Qs]).at (by rw[Xk];omega);have c0:=k _ _<|Ex xs 0 _ C.o;rw[Jb]at c0;injection p with p;injection p with m h2;subst m h2;clear k L A J E o l
  go_wp2
  go_loopg [7,45] xs.length (fun s E z wr=>mJ W0 xs j s E z wr)
  ·exact⟨0,f,_,P,by omega,by omega,rfl,rfl,X,S.o,r,B,F⟩
  obtain⟨d,z,l,J,hi,hk,rfl,rfl,A,o,i,c,f⟩:=hrel;have⟨M,P⟩:=qb hk o;clear hk o r B F c0
  by_cases hlt:d<xs.length
  ·obtain⟨T,Y,p,k⟩:=(q.o.kZ<|t.o.new c<|by simp[Qs]).at (by rw[Xk];omega);have⟨b,n⟩:=qy xs d hlt;have c1:=k _ _<|Ex xs d _ n;injection p with p;injection p with m h2;subst m h2;have:=R.o b<|QA n;have p:xs.drop d=b::xs.drop (d+1):=(by obtain⟨m,rfl⟩:=Qz.1 n;exact Z8 m);have r:=P.o;rw[p,OO]at r;have q:=Qa r;have G:(d:Int)<xs.length:=(by omega);clear k n p r;have⟨p,n,k⟩:=qc i c f;clear i c f
   go_wp2
   go_loopg [7] (b-z).toNat (fun s E wr=>PG W0 (Q2 xs) b (Vh b<|xs.drop<|d+1) j (fun g=>(b-g).toNat) (fun _=>True) s E wr)
   ·exact⟨z,l,J,rfl,rfl,A,trivial,q.o,p.o,n.o,k.o⟩
   obtain⟨g,l,J,hk,rfl,X,-,o,i,c,f⟩:=hrel;have⟨R,L⟩:=qb hk o;clear hk o c1
   by_cases k:g<b
   ·have h:=L.o;rw[jN g b k]at h;have A:l.length≤1000000000000:=(by have:=Qu List.length L.o;rw[Qo]at this;omega);have⟨z,G⟩:=qb h A;have Y:IntKind.i64.wrap (g+1)=g+1:=Q3 _ (by omega);clear h A;go_wp2_with fail;refine(Rk j 2 2 _ _ _ (by decide) (by decide) (by decide) (by decide) G.o i).mono ?_;rintro e F⟨rfl,q,k,p,n⟩;have k:Wr F j q (l++[true,false]):=k;have C:=c.new p f;have B:=f.grow n c.size;clear i c f p n
    go_wp2
    go_roundg (b-(g+1)).toNat
    ·exact⟨g+1,_,q,rfl,by go_num,by omega,trivial,by rw[z.o];simp,k,C,B⟩
    have:=R.o;omega
   have⟨T,S,R⟩:=qc i c f;clear i c f
   go_wp2
   go_loopg [7] (g-b).toNat (fun s E wr=>PG W0 (Q2 xs) b (Vh b<|xs.drop<|d+1) j (fun g=>(g-b).toNat) (fun g=>b≤g) s E wr)
   ·exact⟨g,l,J,rfl,rfl,X,by omega,L.o,T.o,S.o,R.o⟩
   obtain⟨g,l,J,hk,rfl,hz,s,o,i,c,f⟩:=hrel;have⟨E,s⟩:=qb hk o;have A:l.length≤1000000000000:=(by have:=Qu List.length s.o;rw[Qo]at this;omega);have G:=Qa A;clear hk o A
   by_cases o:b<g
   ·have h:=s.o;rw[jL g b o]at h;have z:=Qa h;have Y:IntKind.i64.wrap (g-1)=g-1:=Q3 _ (by omega);clear h;go_wp2_with fail;refine(Rk j 3 2 _ _ _ (by decide) (by decide) (by decide) (by decide) G.o i).mono ?_;rintro e F⟨rfl,q,k,p,n⟩;have k:Wr F j q (l++[true,true]):=k;have C:=c.new p f;have B:=f.grow n c.size;clear i c f p n
    go_wp2
    go_roundg (g-1-b).toNat
    ·exact⟨g-1,_,q,rfl,by go_num,by omega,by omega,by rw[z.o];simp,k,C,B⟩
    have:=E.o;omega
   obtain rfl:g=b:=(by omega);have h:=s.o;rw[jM]at h;have z:=Qa h;clear h;go_wp2_with fail;refine(Rk j 0 1 _ _ _ (by decide) (by decide) (by decide) (by decide) G.o i).mono ?_;rintro e F⟨rfl,q,k,p,n⟩;have k:Wr F j q (l++[false]):=k;have C:=c.new p f;have B:=f.grow n c.size;clear i c f p n
   go_wp2
   go_roundg (xs.length-(d+1))
   ·exact⟨d+1,g,_,q,by omega,rfl,by go_num,rfl,hz,by rw[z.o];simp,k,C,B⟩
   have:=M.o;omega
  obtain rfl:d=xs.length:=by omega
  have r:=P.o;rw[Lo]at r;have b:Q2 xs=l:=by rw[r];simp[Vh]
  subst b;have hh:=c.heap O.o (by simp);have u:wr.cell? w=_:=Zu wr w.heap.size 0 _ _ _ hh;have x:wr.cell? ⟨w.heap.size,1,none⟩=_:=Zu wr w.heap.size 1 _ _ _ hh;have V:=Ur wr w.heap.size 0 _ _ hh;have W:=Ur wr w.heap.size 1 _ _ hh;simp at u x;have H:=Qa (t.o.new c<|by simp[Qs]);clear hh r c;go_wp2_with fail;refine(Dx _ _ _ _ i).mono ?_;rintro e w'⟨rfl,rfl⟩;go_wp2_with fail;refine(Dj _ _ _ _ i).mono ?_;rintro e w'⟨rfl,rfl⟩;go_wp2_with fail;rw[U.o];refine Q5 (v:=Zg (Qv<|Q2 xs,(((Q2 xs).length:Nat):Int),0)) (by simp[results,Ia,go_sem,u,x,Zg]) rfl ⟨rfl,?_⟩;exact(H.o.setCell (.inr<|Ql _) _).setCell (.inr<|Ql _) _
 have D:BO xs=([],0,80):=by unfold BO;rw[NC xs Q];rfl
 have y:=Qa D;clear D
 by_cases m:xs.length<2
 ·have g1:decide ((xs.length:Int)<2)=true:=by simp;omega
  go_enter func210,SF;go_wp2_with fail;rw[y.o];refine Q5 (v:=Zg ([],0,80)) (by simp[results,Ia,go_sem,Zg]) rfl ⟨rfl,?_⟩
  first|exact(Qc [] w).alloc _|exact((Qc [] w).alloc _).setCell (by simp) _|exact(((Qc [] w).alloc _).setCell (by simp) _).setCell (by simp) _
 have g1:decide ((xs.length:Int)<2)=false:=by simp;omega
 have I:decide (258<(xs.length:Int))=true:=by simp;omega
 go_enter func210,SF;go_wp2_with fail;rw[y.o];refine Q5 (v:=Zg ([],0,80)) (by simp[results,Ia,go_sem,Zg]) rfl ⟨rfl,?_⟩
 first|exact(Qc [] w).alloc _|exact((Qc [] w).alloc _).setCell (by simp) _|exact(((Qc [] w).alloc _).setCell (by simp) _).setCell (by simp) _
