import Derived.Sort.WalkA
import Derived.Sort.LotA
import Derived.Sort.Lot0
import Derived.Test.YtickjpnkoppmgaaGreatDoorAk
import Derived.Test.YtickjpnkoppmgaaGreatDoorAj
set_option linter.all false
set_option maxHeartbeats 2000000
set_option maxRecDepth 100000
namespace Go.Proofs.YtickjpnkoppmgaaGreatDoor
open Go.Proofs.Tryz Go.RowKit K
structure YF(w:WD)(g:Nat)(a:OA)(cap:Nat)(xs:LI)(ls:LN)(M:Nat)(dv:VL):Prop where
 tab:QT w g a xs.length cap ls (M+1) dv
 sees:Qp w 1 a xs.length (QO xs)
 max:Uh xs=(M:Int)
 good:XM xs=true
 nats:QE xs=ls
 le:M<=20
def YF.mk0{w g a cap xs c}(h:QT w g a xs.length cap (QE xs) ((Uh xs).toNat+1) c)(hs:Qp w 1 a xs.length (QO xs))(d:XM xs=true):
 YF w g a cap xs (QE xs) (Uh xs).toNat c:=by
 have c:=((Ve xs).1 (Vc d)).2;have:=(Lg xs).1;have:=OW xs 20 dx fun i e=>(c i e).2;exact⟨h,hs,ox,d,rfl,ox⟩
def YF.kept{S w w' g a cap xs ls d c}(h:YF w g a cap xs ls d c)(hk:Qb S w w')(e:Qq (g::Qd c) S)(i:Qq (fZ a) S):
 YF w' g a cap xs ls d c:=⟨h.tab.kept hk e,h.sees.kept hk i,h.max,h.good,h.nats,h.le⟩
def YF.kZ{w w' g a cap xs ls c d}(h:YF w g a cap xs ls c d)(hk:Qb [] w w'):
 YF w' g a cap xs ls c d:=h.kept hk (Zy _)<|Zy _
def YF.len{w g a cap xs ls c d}(h:YF w g a cap xs ls c d):2<=xs.length/\xs.length<=258:=((Ve xs).1 (Vc h.good)).1
def YF.top{w g a cap xs ls c d}(h:YF w g a cap xs ls c d):∀x∈ls,1<=x/\x<=c:=by intro x c;rw[<-h.nats]at c;have:=(CU h.good x c).1;simp only[QE,QA]at c;obtain⟨e,d,rfl⟩:=c;have:=(Lg xs).2 e d;rw[h.max]at this;omega
def YF.none{w g a cap xs ls c d}(h:YF w g a cap xs ls c d)(m)(d:c<m):ls.count m=0:=by rw[List.count_eq_zero];intro c;have:=(h.top m c).2;omega
def YF.fits{w g a cap xs ls c d}(h:YF w g a cap xs ls c d)(n)(c:n<=20):Zw ls n+ls.count n<=1048576:=by have d:=K.fits ls (fun i e=>QS (h.top i e).2 h.le) (by rw[<-h.nats];exact GH h.good) n c;have e:2^n<=2^20:=Ju dx c;exact QS d e
def pI(w0:WD)(ls:LN)(d c n:Nat)(k:Nat)(v:VL)(w:WD):Prop:=
 ∃e,n<e/\e<=22/\(n<d->e<=d+1)/\k=23-e/\v=.int .i64 (e:Nat)/\(∀d,n<d->d<e->¬(0<ls.count d/\c*2^(d-n)<Zw ls d+ls.count d))/\Qb [] w0 w
def uY(g a cap xs ls M dv)(c n:Nat)(w)(h:YF w g a cap xs ls M dv)(hn:1<=n/\n<=20)(hc:c<2^n):
 Calls prog 287 #[.pointer g,c,n] w (RK (.bool<|RX ls c n) w):=by
 have⟨q,HC⟩:=qb h hc;have hM:=h.le;have hl:=h.len;go_enter func287,ntmps287
 go_wp2
 go_loopg [7] (23-(n+1)) (fun k v wr=>pI w ls M c n k v wr)
 ·exact⟨n+1,ox,ox,ox,rfl,by go_num,fun j o y=>ox,Qc _ _⟩
 obtain⟨m,y7,hm,x8,hk,rfl,y0,x0⟩:=hrel;have⟨Hk,h9,x3⟩:=qc hk y0 x0;have c0:=QT.of (q.o.kZ x0).tab.1;have z6:=Qa x8;go_wp2_with fail;go_fit(fT a cap xs _ (q.o.kZ x3.o).sees ox);rintro e w2⟨rfl,x7⟩;have h5:=Qa (x3.o.new x7<|by simp[Qu]);rw[q.o.max]
 by_cases hlt:m<=M
 ·obtain⟨y6,z8⟩:(m:Int)<=M/\(m:Int)<22:=ox
  have hA:=(q.o.kZ h5.o).tab.1;have cc:=QT.count hA (Ur _ _) (Ur _ _) m (ls.count m) (by unfold Aj;rw[RO _ _ _ ox,Qg ox]);have cf:=QT.first hA m (Zw ls m) (by unfold Ak;rw[RO _ _ _ ox,Qg ox]);have x5:=q.o.fits m ox;have⟨t,ht⟩:=qx<|m-n;have p0:IntKind.i64.wrap ((m:Int)-n)=(t:Int):=by rw[Za _ ox];omega
  have p1:t<=20:=ox
  have y8:(2:Int)^t=((2^t:Nat):Int):=by norm_cast
  have y9:c*2^t<=1048576:=by have o:c*2^t<=2^n*2^t:=Be _<|Iv HC.o;rw[<-EK]at o;have y:2^(n+t)<=2^20:=Ju dx ox;exact QS o y
  have y3:(c:Int)*((2^t:Nat):Int)=((c*2^t:Nat):Int):=by norm_cast
  have x6:RX ls c n=true↔∃j,j<=20/\n<j/\0<ls.count j/\c*2^(j-n)<Zw ls j+ls.count j:=Kn ls c n;have⟨y4,x4⟩:=qb x6 ht;generalize y2:c*2^t=z at y9 y3;have HZ:=Qa y2;generalize (2:Nat)^t=p at y8 y3;have⟨C,hC⟩:=qx<|ls.count m;have⟨F,hF⟩:=qx<|Zw ls m;have⟨h8,x2⟩:=qb hC hF;rw[hC]at cc x5;rw[hF]at cf x5;have p3:IntKind.i64.wrap (z:Int)=(z:Int):=Za _ ox;have p2:IntKind.i64.wrap ((F:Int)+C)=(F:Int)+C:=Za _ ox;rcases Rx C with h0|h0
  ·subst h0;go_wp2_with fail;go_quiet (fail)
   go_wp2
   go_roundg (23-(m+1))
   ·refine⟨m+1,ox,ox,fun _=>ox,rfl,by go_num,fun j o y=>?_,h5.o.drewN _⟩;rcases Xw j m with h|h
    ·exact h9.o j o h
    obtain rfl:j=m:=ox;rw[h8.o];omega
   have:=Hk.o;omega
  have z7:(0:Int)<C:=ox
  by_cases x1:z<F+C
  ·have z1:(z:Int)<F+(C:Int):=ox;have y1:RX ls c n=true:=y4.o.2 ⟨m,ox,y7,by rwa[h8.o],by rwa[x4.o,HZ.o,x2.o,h8.o]⟩;have HY:=Qa y1;go_wp2_with fail;go_quiet (fail)
   go_wp2
   go_ret;exact⟨by rw[HY.o];rfl,h5.o.drewN _⟩
  have z1:¬(z:Int)<F+(C:Int):=ox
  have y5:=Qa x1;go_wp2_with fail;go_quiet (fail)
  go_wp2
  go_roundg (23-(m+1))
  ·refine⟨m+1,ox,ox,fun _=>ox,rfl,by go_num,fun j o y=>?_,h5.o.drewN _⟩;rcases Xw j m with h|h
   ·exact h9.o j o h
   obtain rfl:j=m:=ox;rw[x4.o,HZ.o,x2.o,h8.o];exact fun h=>y5.o h.2
  have:=Hk.o;omega
 have y6:¬(m:Int)<=M:=ox
 have x9:RX ls c n=false:=by
  rcases J1 (RX ls c n)with h|h
  ·obtain⟨j,o,y,h3,h4⟩:=(Kn ls c n).1 h;rcases Xw j m with hj|hj
   ·exact absurd ⟨h3,h4⟩<|h9.o j y hj
   have:=q.o.none j ox;omega
  exact h
 have HB:=Qa x9
 go_wp2
 go_ret;exact⟨by rw[HB.o];rfl,h5.o⟩
def rH(R:Nat × Nat × Nat)(r c:Nat)(s:BA)(w:WD)(e:Ending)(w':WD):Prop:=
 e=.returned (.tuple #[(R.1:Nat),(R.2.2:Nat)])/\(R.2.2=0->Rd w' r c s R.2.1)/\Qb [r] w w'
def rG(w0:WD)(ls:LN)(r i:Nat)(s:BA)(R:Nat × Nat × Nat)(k:Nat)(g h:VL)(w:WD):Prop:=
 ∃c d e,1<=c/\c<=20/\k=21-c/\h=.int .i64 (c:Nat)/\g=.int .i64 (d:Nat)/\d<2^(c-1)/\e<=8*s.size/\R=JG ls (Ql s) (21-c) c d e/\Rd w r i s e/\Qb [r] w0 w
def Qj5(bs p)(h:p<bs.length):QL bs p 1=((bs.getD p false).toNat,0):=by unfold QL;rw[Qf ox,Qf zx];have:=Qe2 bs p 0 ox;rw[show(1:Int).toNat=0+1 from rfl,this,PC];simp[K.num]
def Qj6(bs p)(h:bs.length<=p):QL bs p 1=(0,10):=by unfold QL;rw[Qf ox,Qg zx]
def Qb4(c b:Nat)(d:c<4611686018427387904)(hb:b<=1):bits BinOp.or IntKind.i64 ((c:Int)*2) (b:Int)=((2*c+b:Nat):Int):=by
 have d:2*c|||b=2*c+b:=(MQ (i:=1) (b:=b) ox c).symm;have:2*c|||b<2^63:=by rw[d];omega
 rw[show(c:Int)*2=((2*c:Nat):Int)by omega];show IntKind.i64.wrap ((BitVec.ofInt 64 ((2*c:Nat):Int)|||BitVec.ofInt 64 (b:Int)).toNat:Int)=_;rw[BitVec.toNat_or,ofInt_u64 _ ox,ofInt_u64 b ox,Zq,d];omega
def Qes(g a cap xs ls l E r d p s w)(h:YF w g a cap xs ls l E)(e:Rd w r d s p)(hp:p<=8*s.size)(hs:s.size<=140737488351232)(ha:Qq (g::Qd E) [r])(c:Qq (fZ a) [r]):
 Calls prog 266 #[.pointer g,.pointer r] w (rH (Xj ls (Ql s) p) r d s w):=by
 have⟨L,j,x,y⟩:=qd h e ha c;have:=h.le;have Y:=h.len;have i:=Qa<|XQ s;have⟨o,c⟩:=qx<|Xj ls (Ql s) p;have e:=Qa c;rw[c];go_enter func266,ntmps266
 go_wp2
 go_loopg [6,7] 20 (fun k M c wr=>rG w ls r d s o k M c wr)
 ·exact⟨1,0,p,ox,ox,ox,rfl,rfl,dx,hp,e.o.symm,j.o,Qc _ _⟩
 obtain⟨c,e,j,G,h1,hk,rfl,rfl,m,C,q,v,t⟩:=hrel;have⟨T,n,B,A⟩:=qd hk q v t;have u:2^(c-1)<=2^19:=Ju dx ox;have:e<524288:=Av m u;have z:=Qa m;go_wp2_with fail;go_fit(Cs r d s j 1 _ B.o ox C);rintro O B⟨rfl,q,F⟩;have v:=Qa<|A.o.trans F fun m m=>.inl m
 by_cases m:8*s.size<=j
 ·have t:=Qj6 (Ql s) j (by rwa[i.o]);have m:o=(0,0,10):=by rw[n.o,(ox:21-c=(20-c)+1),JG,Qg (by rw[i.o];omega)]
  have u:=Qa m;rw[t]
  go_wp2
  go_ret2;rw[u.o];exact⟨rfl,(fun h=>by cases h),v.o⟩
 have t:=Qj5 (Ql s) j (by rw[i.o];omega);rw[t]at q ⊢;have q:Rd B r d s (j+1):=q;have XG:o=(if Zw ls c<=2*e+((Ql s).getD j false).toNat/\2*e+((Ql s).getD j false).toNat<Zw ls c+ls.count c then
  ((ZQ ls 21).getD ((ZQ ls c).length+(2*e+((Ql s).getD j false).toNat-Zw ls c)) 0,j+1,0)
  else if RX ls (2*e+((Ql s).getD j false).toNat) c then JG ls (Ql s) (20-c) (c+1) (2*e+((Ql s).getD j false).toNat) (j+1)else(0,0,90)):=by
  rw[n.o,(ox:21-c=(20-c)+1),JG,Qf (by rw[i.o];omega)]
 have⟨b,hb⟩:=qx<|((Ql s).getD j false).toNat;have d:b<=1:=by rw[<-hb];exact Eo _
 rw[hb]at XG ⊢;have i:=Qb4 e b ox d;have:IntKind.i64.wrap (b:Int)=(b:Int):=Za _ ox;have⟨d,Q⟩:=qx<|2*e+b;rw[Q]at XG i;have R:d<2^c:=by
  have:=z.o;have O:2^c=2*2^(c-1):=by rw[(ox:c=(c-1)+1),J9,U3];omega
  omega
 have:d<=1048576:=ox
 have H:=Qa R;have D:=Qa XG;have J:=Qa q;have m:=L.o.kept v.o x.o y.o;have x:=Qa m;have u:=m.fits c ox;have U:=m.fits (c-1) ox;have A:l<c->ls.count c=0:=m.none c;have S:=Qa A;have⟨e,y⟩:=qx<|ls.count c;have⟨n,z⟩:=qx<|Zw ls c;have cc:=QT.count m.tab.1 (Ur _ _) (Ur _ _) c e (by
  unfold Aj;rw[RO _ _ _ ox]
  by_cases B:c<l+1
  ·rw[Qg ⟨G,B⟩,y]
  rw[Qf ox];have:=A ox;simp;omega)
 obtain⟨i,P,C⟩:∃i,(Ak ls<|l+1)[c]?=some i/\(0<e->i=n)/\i<=1048576:=by
  unfold Ak;rw[RO _ _ _ ox];refine⟨_,rfl,fun h=>?_,?_⟩
  ·rw[Qg ⟨G,yx A⟩,z]
  split<;>omega
 have:=QT.first m.tab.1 c i P;rw[y,z]at XG u;have:(c:Int)<22:=ox
 have X:IntKind.i64.wrap ((d:Int)-i)=(d:Int)-i:=Za _ ox;have⟨u,I,C,D⟩:=qd C y z XG
 by_cases q:n<=d/\d<n+e
 ·have h0:0<e:=ox
  obtain rfl:i=n:=u.o.1 h0;obtain⟨m,hi,Z,W,t⟩:=xQ ls c d (by rw[C.o];exact q.1) (by rw[C.o,I.o];exact q.2);rw[C.o]at t;have B:c<l+1:=by
   rcases Xw c (l+1)with h|h
   ·exact h
   have:=S.o ox;have:=I.o;omega
  have z:=Lq ls c (l+1) _ m B t;have Q:=Lq ls c 21 _ m ox t;have P:o=(m,j+1,0):=by rw[D.o,Qg q,List.getD,Q,V9]
  have S:=Qa P;have C:=x.o.tab.2.1;obtain⟨m,M,m,-,-,-,-⟩:=C.sees;rw[QF]at m;subst m;have R:=C.sZ;have A:=(Qy.1 z).1;obtain⟨m,m,rfl,M⟩:=R.at (by rw[QF];omega);have c3:=M _ _<|Vh _ _ _ z;have c1:=QT.order x.o.tab.1;have U:=QT.begin x.o.tab.1 (Ur _ _) c (ZQ ls c).length (by unfold BK;rw[RO _ _ _ ox,Qg ox]);have V:(ZQ ls<|l+1).length<=6000:=by have y:=Lr ls<|l+1;have F:ls.length<=258:=(by rw[<-L.o.nats,Vi];exact Y.2);have:=Ga (ox:l+1<=21) F;omega
  have⟨m,I⟩:=qx<|d-i;have L:(d:Int)-i=(m:Int):=ox
  rw[I]at c3 A;rw[L]at X;obtain⟨_,_⟩:m<e/\(m:Int)<e:=ox
  generalize (ZQ ls c).length=Bn at c3 U A;generalize (ZQ ls<|l+1).length=On at c1 A V;have:IntKind.i64.wrap ((Bn:Int)+m)=(Bn:Int)+m:=Za _ ox;obtain⟨_,_,_,A⟩:(0:Int)<=Bn+(m:Int)/\(Bn:Int)+m<(On:Int)/\((Bn:Int)+m).toNat=Bn+m/\(0:Int)<e:=ox
  go_wp2_with fail;go_quiet (fail)
  go_wp2
  go_ret2;rw[S.o];exact⟨rfl,fun _=>J.o,v.o.drewN _⟩
 have t:o=if RX ls d c then JG ls (Ql s) (20-c) (c+1) d (j+1)else(0,0,90):=by rw[D.o,Qf q]
 have m:=Qa t;have o:e=0\/(0<e/\d<n)\/(0<e/\n+e<=d):=ox
 rcases o with h0|⟨h0,y⟩|⟨h0,y⟩
 case' inl=>subst h0;go_wp2_with fail
 case' inr.inl=>
  obtain rfl:i=n:=u.o.1 h0;obtain⟨A,o,_⟩:(0:Int)<e/\¬(0:Int)<=d-(i:Int)/\(d:Int)-i<0:=ox
  go_wp2_with fail
 case' inr.inr=>
  obtain rfl:i=n:=u.o.1 h0;obtain⟨A,o,_⟩:(0:Int)<e/\(0:Int)<=d-(i:Int)/\¬(d:Int)-i<(e:Int):=ox
  go_wp2_with fail
 all_goals
  go_fit(uY g a cap xs ls l E d c _ (by exact x.o) ⟨G,h1⟩ H.o);rintro O e⟨rfl,e⟩;have⟨l,n⟩:=qb (v.o.trans e sx)<|J.o.kept e<|Zy _;rcases J1 (RX ls d c)with hb|hb
  ·have e:=m.o;rw[hb,Qg rfl]at e;have i:=Qa e;have:c<20:=(by obtain⟨o,y,F,-⟩:=(Kn ls d c).1 hb;omega);rw[hb]
   go_wp2
   go_roundg (21-(c+1))
   ·exact⟨c+1,d,j+1,ox,ox,rfl,by go_num,rfl,by rw[U3];exact H.o,ox,by rw[i.o,(ox:21-(c+1)=20-c)],n.o,l.o⟩
   have:=T.o;omega
  have e:=m.o;rw[hb,Qf dx]at e;have i:=Qa e;rw[hb]
  go_wp2
  go_ret2;rw[i.o];exact⟨rfl,(fun h=>by cases h),l.o⟩
def Xg(R:LN × Nat × Nat)(w:WD)(e:Ending)(w':WD):Prop:=
 ∃a c,e=.returned (.tuple #[.slice a R.1.length c,(R.2.1:Nat),(R.2.2:Nat)])/\Qh w' 3 (.slice a R.1.length c) (Qi R.1)/\Qb [] w w'/\Qu w (fZ a)
def Xg.err{w w' e x}(c:e=.returned (.tuple #[.slice none 0 0,(0:Int),(x:Nat)]))(hk:Qb [] w w'):Xg ([],0,x) w e w':=
 ⟨none,0,c,Qh.nil _ _,hk,by simp[Qu,fZ]⟩
def Xg.ok{w w' e l p a c}(d:e=.returned (.tuple #[.slice a l.length c,(p:Nat),(0:Int)]))(g:Qh w' 3 (.slice a l.length c) (Qi l))(hk:Qb [] w w')(hf:Qu w.heap.size (Qd<|.slice a l.length c)):Xg (l,p,0) w e w':=
 ⟨a,c,d,g,hk,by rwa[<-X7 a l c]⟩
def Xg.ok2{w w' e l p n a c}(g:l.length=n)(d:e=.returned (.tuple #[.slice a n c,(p:Nat),(0:Int)]))(h:Qh w' 3 (.slice a l.length c) (Qi l))(hk:Qb [] w w')(hf:Qu w.heap.size (Qd<|.slice a l.length c)):Xg (l,p,0) w e w':=by
 subst g;exact Xg.ok d h hk hf
def pH(w0:WD)(g:Nat)(a:OA)(cap:Nat)(xs:LI)(ls:LN)(i:Nat)(h:VL)(r d:Nat)(s:BA)(n e:Int)(R:LN × Nat × Nat)(k:Nat)(v:VL)(w:WD):Prop:=
 ∃out c f,k=f/\8*s.size+1<=f+c/\c<=8*s.size/\out.length<=c/\R=YG ls (Ql s) n e f out c/\Qh w 3 v (Qi out)/\Rd w r d s c/\YF w g a cap xs ls i h/\
  Qq (g::Qd h) [r,d]/\Qq (g::Qd h) (Qd v)/\Qq (Qd v) [r,d]/\Qb [] w0 w/\Qu w0 (Qd v)/\Qu w0 [r,d]
def uM(a:OA)(cap:Nat)(xs:LI)(s:BA)(at_ n en:Int)(w:WD)(h:Qp w 1 a xs.length (QO xs))(b5:xs.length<=140737488351232)(hs:s.size<=140737488351232)(r6:s.size<=1000000000\/n<=1000000000):
 Calls prog 226 #[.slice a xs.length cap,s,at_,n,en] w (Xg (Ue xs (Ql s) at_ n en) w):=by
 have⟨HS,q0,y0⟩:=qc h r6<|XQ s;rcases J1 (XM xs)with h9|h9
 ·have⟨x6,p4⟩:=qb h9<|h.lt (by rw[Xx];have:=((Ve xs).1 (Vc h9)).1;omega);go_enter func226,ntmps226;go_wp2_with fail;go_fit(gD a cap xs _ HS.o x6.o);rintro e w1⟨g,dv,rfl,ht,z8,q8⟩;have⟨y5,b9,HT⟩:=qc z8 q8<|YF.mk0 ht (HS.o.kZ z8) x6.o;go_wp2_with fail
  by_cases z1:at_<0\/(8*s.size:Nat)<at_
  ·have hR:Ue xs (Ql s) at_ n en=([],0,2):=(by unfold Ue;rw[x6.o,Qg rfl,Qg (by rw[y0.o];omega)]);have HR:=Qa hR;go_fit(iP s at_ _ ox z1);rintro e w2⟨rfl,rfl⟩
   go_wp2
   go_ret3
   rw[HR.o];exact Xg.err (by rfl)<|y5.o.alloc _
  obtain⟨at_,rfl⟩:=Yu (ox:0<=at_);have b4:at_<=8*s.size:=ox
  go_fit(DW s at_ _ ox ox ox);rintro e w2⟨r,q,rfl,x4,p0,z6⟩;rw[ZH]at x4;have⟨p5,b2,y8,a6⟩:=qd (y5.o.new p0<|by simp[Qu]) x4 (HT.o.kZ p0)<|z6.mono y5.o.size;have hap:Qq (g::Qd dv) [r,q]:=fun x hx hm=>by have h1:=HT.o.tab.lt x hx;have h2:=z6 x hm;omega
  have a1:=Qa hap
  by_cases hn:n<0
  ·have hR:Ue xs (Ql s) (at_:Int) n en=([],0,2):=(by unfold Ue;rw[x6.o,Qg rfl,Qg<|.inr<|.inr hn]);have HR:=Qa hR;have g1:decide (n<0)=true:=XE hn
   go_wp2
   go_ret3
   rw[HR.o];exact Xg.err (by rfl) p5.o
  have g1:decide (n<0)=false:=X0 hn;have⟨R,y9⟩:=qx<|Ue xs (Ql s) (at_:Int) n en;have hR:R=YG (QE xs) (Ql s) n en (8*s.size+1) [] at_:=by rw[<-y9];unfold Ue;rw[x6.o,Qg rfl,Qf (by rw[y0.o];omega),y0.o,ZH]
  have⟨y6,HR⟩:=qb y9 hR;generalize QE xs=ls at HT y8 HR;generalize (Uh xs).toNat=M at HT y8
  go_wp2
  go_loopg [16] (8*s.size+1) (fun k v wr=>pH w g a cap xs ls M dv r q s n en R k v wr)
  ·exact⟨[],at_,_,rfl,ox,b4,sx,HR.o,Qh.nil _ _,b2.o,y8.o,a1.o,Zy _,by simp[Qq,Qd,qo],p5.o,by simp[Qu,Qd,qo],a6.o⟩
  obtain⟨out,p,f,r3,c4,hp,c6,q4,p2,x4,r7,q5,q6,q7,r2,q9,r0⟩:=hrel;have⟨y1,p9,p8,q1,y3,p3,x9,p6⟩:=qh q4 p2 x4 r7 q5 q6 q7 r2;have⟨x1,y4⟩:=qb q9 r0;obtain⟨f,rfl⟩:∃f',f=f'+1:=⟨f-1,ox⟩;have Hk:=Qa r3;obtain⟨av,cv,hv,-,-,-,-⟩:=p2.sees;rw[QF]at hv;subst hv
  by_cases hlt:(out:Int)<n
  ·have x7:Qq (fZ a) [r]:=fun x hx hm=>by have h1:=p4.o x hx;have h2:=y4.o x (by simp at hm;simp[hm]);omega
   go_wp2_with fail;go_fit(Qes g a cap xs ls M dv r q p s _ q1.o p8.o hp hs (y3.o.symm.sub sx).symm x7);rintro e w3⟨rfl,h4,x3⟩;have p1:Qb [] w w3:=p6.o.new x3 fun x hx=>y4.o x (by simp at hx;simp[hx]);have x5:=Qa p1
   by_cases hz:(Xj ls (Ql s) p).2.2=0
   ·obtain⟨x,tt,h3⟩:∃x tt,Xj ls (Ql s) p=(x,tt,0):=⟨_,_,by rw[<-hz]⟩;have x8:=Pd ls _ p hz;rw[y0.o]at x8;have h4:=h4 hz;rw[h3]at x8 h4 ⊢;have x8:p<tt/\tt<=8*s.size:=x8;have h4:Rd w3 r q s tt:=h4;have r5:=p9.o.kept x3 fun y hy h=>x9.o y hy (by simp at h;simp[h]);have r9:=q1.o.kept x3 (y3.o.symm.sub sx).symm x7;have L1:(Qi out).length+1<=maxLen:=(by rw[QF];simp only[maxLen];have:=q0.o;omega);have L2:((Qi out).length+1)*8<=140737488355328:=(by rw[QF];have:=q0.o;omega);have⟨p7,y7,q3,b8⟩:=qd h3 h4 r9 x7;have c9:=x3.size
    by_cases y2:(x:Int)=en
    ·have o:=y1.o;rw[WQ ls _ n en f out p x tt hlt p7.o y2]at o;have h5:=Qa o;subst y2;go_wp2_with ((at_builtin;refine Vn _ rfl _ _ 51 rfl 3 (0:Int) 8 XP XZ rfl _ _ [.int .i64 (x:Int)] 1 rfl rfl rfl rfl (by simp[Value.oneCell']) r5 L1 L2 ?_;intro a5 b3 w5 x0 h8 x2));go_fit(at_ok r q s tt _<|y7.o.kept h8 x9.o.symm);rintro e w'⟨rfl,rfl⟩;have r1:=x5.o.new h8 x1.o;have z7:=x1.o.grow x2 x5.o.size;have r4:(Qi out).length+1=(out++[x]).length:=(by rw[QF];simp);rw[r4]at x0 z7 ⊢;rw[show Qi out++[Value.int .i64 (x:Int)]=Qi (out++[x])by rw[DV];rfl]at x0;have⟨b1,a8,a7⟩:=qc x0 r1 z7
     go_wp2
     go_ret3
     rw[y6.o,h5.o];exact Xg.ok2 (n:=out.length+1) sx (by rfl) b1.o a8.o a7.o
    have c7:((x:Int)==en)=false:=(by rwa[Ze]);have o:=y1.o;rw[WT ls _ n en f out p x tt hlt p7.o y2]at o;have h5:=Qa o;go_wp2_with ((at_builtin;refine Vn _ rfl _ _ 51 rfl 3 (0:Int) 8 XP XZ rfl _ _ [.int .i64 (x:Int)] 1 rfl rfl rfl rfl (by simp[Value.oneCell']) r5 L1 L2 ?_;intro a5 b3 w5 x0 h8 x2))
    go_roundg f
    case measure=>have:=Hk.o;omega
    have b7:Qi out++[Value.int .i64 (x:Int)]=Qi (out++[x]):=(by rw[DV];rfl);rw[b7]at x0;refine⟨out++[x],tt,f,rfl,ox,x8.2,zx,h5.o,x0,y7.o.kept h8 x9.o.symm,q3.o.kept h8 p3.o ?_,y3.o,?_,(x9.o.symm.grow y7.o.lt x2).symm,x5.o.new h8 x1.o,x1.o.grow x2 x5.o.size,y4.o⟩
    ·intro y hy hm;have h1:=p4.o y hy;have h2:=x1.o y hm;omega
    intro y hy hm;rcases x2 y hm with h|h
    ·exact p3.o y hy h
    have:=q3.o.tab.lt y hy;omega
   have h3:=iS ls (Ql s) p hz;generalize (Xj ls (Ql s) p).2.2=er at hz h3;have o:=y1.o;rw[WR ls _ n en f out p er hlt h3 hz]at o;have h5:=Qa o;have b6:=Qep ls (Ql s) 20 1 0 p;have c8:((er:Int) != 0)=true:=Rf.2 ox;rw[h3]
   go_wp2
   go_ret3
   rw[y6.o,h5.o];exact Xg.err (by rfl) x5.o
  have o:=y1.o;rw[WO ls _ n en f out p hlt]at o;have h5:=Qa o;have c5:¬(out:Int)<n:=hlt;go_wp2_with fail;go_fit(at_ok r q s p _ p8.o);rintro e w'⟨rfl,rfl⟩
  go_wp2
  go_ret3
  rw[y6.o,h5.o];exact Xg.ok (by rfl) p9.o p6.o x1.o
 have hR:Ue xs (Ql s) at_ n en=([],0,80):=by unfold Ue;rw[h9];rfl
 have HR:=Qa hR;go_enter func226,ntmps226;go_wp2_with fail;go_fit(gC a cap xs _ HS.o b5 h9);rintro e w'⟨rfl,rfl⟩
 go_wp2
 go_ret3
 rw[HR.o];exact Xg.err (by rfl)<|Qc _ _
def qK(W:WD)(T:List LI)(P:LI)(bs:LB)(g:Int)(R:LN × Nat × Nat)(k:Nat)(h v2 v:VL)(wr:WD):Prop:=
 ∃(c d:Nat)(out:LN)(a:OA)(e:Nat),k=P.length-c/\c<=P/\v=.int .i64 (c:Nat)/\v2=.int .i64 (d:Nat)/\d<=bs/\h=.slice a out e/\out<=50*c/\Hid (R=AM T bs g (P.drop c) out d)/\
  Hid (Qh wr 3 (.slice a out e) (Qi out))/\Hid (Qb [] W wr)/\Hid (Qu W (fZ a))
def Qba(j g:OA)(e i:Nat)(T)(P:LI)(s:BA)(at_:Int)(w:WD)(h:XI w j g e i T P)(m:Xz T P=true)(hs:s.size<=140737488351232):
 Calls prog 182 #[ZL j T.length e g P.length i,s,at_] w (Xg (Ac T P (Ql s) at_) w):=by
 obtain⟨c,c,u,n⟩:=Af m;have⟨A,C,q⟩:=qc u n<|XQ s;have hk:Qb [] w (w.alloc<|.cells #[.slice j T e,.slice g P i] 255):=(Qc [] w).alloc _;have c:=h.kept hk;have l:=Qx w [.slice j T e,.slice g P i] 255;have d:=GG j g e i T P _ c.tabs c.picks c.tl c.pl c.rl;rw[m]at d;unfold ZL at d ⊢;have b0:=l.cq 0 (u:=.slice j T e);have B:=l.cq 1 (u:=.slice g P i);have⟨o,x,t,p⟩:=qd hk l c m;clear hk l c h m u n
 by_cases hb:at_<0\/(8*s.size:Nat)<at_
 ·have n:=Qa (show Ac T P (Ql s) at_=([],0,2)by
   unfold Ac;rw[p.o,Qg rfl,Qg (by rw[q.o];omega)])
  by_cases v:at_<0
  ·have g1:decide (at_<0)=true:=XE v;clear hb;go_enter func182,Nk;go_wp2_with fail;go_fit d;rintro u z⟨rfl,c⟩;have j:=Qa (o.o.trans c sx);clear c d
   go_wp2
   go_ret3
   rw[n.o];exact Xg.err (by rfl) j.o
  have g1:decide (at_<0)=false:=X0 v;have g:decide (8*(s.size:Int)<at_)=true:=zx
  clear hb;go_enter func182,Nk;go_wp2_with fail;go_fit d;rintro u z⟨rfl,c⟩;have j:=Qa (o.o.trans c sx);clear c d
  go_wp2
  go_ret3
  rw[n.o];exact Xg.err (by rfl) j.o
 obtain⟨m,rfl⟩:=Yu (ox:0<=at_);have D:m<=8*s.size:=ox
 have g1:decide ((m:Int)<0)=false:=sx
 have g:decide (8*(s.size:Int)<m)=false:=zx
 obtain⟨t0,l⟩:∃g,T[0]?=some g:=⟨_,Qj ox⟩;have y:=Qa (by rw[List.getD,l];rfl:T.getD 0 []=t0);have:=t.o.rl t0<|QB l;have:=(A.o t0<|QB l).2.1;have⟨n,A⟩:=qb (by unfold Ac;rw[p.o,Qg rfl,Qf (by rw[q.o];omega),y.o,ZH]:Ac T P (Ql s) (m:Int)=AM T (Ql s) ((t0:Int)-1) P [] m) l;have:(0:Int)<T.length:=ox
 clear l hb;go_enter func182,Nk;go_wp2_with fail;go_fit d;rintro u z⟨rfl,c⟩;have⟨j,y,p⟩:=qc (o.o.trans c sx) (x.o.kept c sx)<|t.o.kept c;clear c d b0 B x t o;obtain⟨B,F,ar,c,rfl,c,-,-⟩:=p.o.tabs.int A.o;rw[Jt]at c;obtain⟨l,o,rfl,-⟩:=p.o.picks.at (by rw[Xx];omega);have c0:=y.o.cq 0 (u:=.slice (some ⟨B,F,none⟩) T e);have c1:=y.o.cq 1 (u:=.slice (some ⟨l,o,none⟩) P i);go_wp2_with fail;clear c0 c1 c;have⟨l,c⟩:=qx<|AM T (Ql s) ((t0:Int)-1) P [] m;have⟨o,E⟩:=qb c.symm<|n.o.trans c;clear c n
 go_loopg [10,2,37] P (fun k i v2 c wr=>qK z T P (Ql s) ((t0:Int)-1) l k i v2 c wr)
 ·exact⟨0,m,[],none,0,ox,ox,rfl,rfl,by rw[q.o];exact D,rfl,sx,by simpa using o,Qa<|Qh.nil _ _,Qa<|Qc _ _,Qa<|by simp[Qu,fZ]⟩
 clear o;obtain⟨i,m,out,ao,t,hk,hi,rfl,rfl,c,rfl,c,o,A,n,H⟩:=hrel;have h3:=Qa hk;clear hk
 by_cases hlt:i<P
 ·have:(i:Int)<P.length:=ox
  have⟨c,x⟩:=qy P i hlt;obtain⟨D,q⟩:=C.o c<|QB x;obtain⟨c,rfl⟩:=Yu D;have⟨g,q⟩:=qy T c ox;have S:=(p.o.kept n.o).picks.int x;obtain⟨C,C,I,J,G,U,C,-⟩:=(p.o.kept n.o).tabs.int q;cases G;have V:=(y.o.kept n.o sx).cq 0 (u:=.slice (some ⟨B,F,none⟩) T e);have:=p.o.rl g<|QB q;have⟨G,F,y⟩:=qc x q C;clear x q C D;go_wp2_with fail;have⟨e,p⟩:=qx<|Ue g (Ql s) (m:Int) 50<|(t0:Int)-1;have d:=uM I J g s (m:Int) 50 ((t0:Int)-1) wr y.o ox hs (.inr ox);have y:=uJ g (Ql s) m<|(t0:Int)-1;have x:=uI g (Ql s) m<|(t0:Int)-1;have B:AM T (Ql s) ((t0:Int)-1) (P.drop i) out m=if e.2.2≠0 then([],0,e.2.2)else if((e.1.getD (e.1.length-1) 0:Nat):Int)=(t0:Int)-1 then(out++e.1,e.2.1,0)else AM T (Ql s) ((t0:Int)-1) (P.drop<|i+1) (out++e.1) e.2.1:=by obtain⟨m,q⟩:=Qy.1 G.o;rw[Xf m,q,AM,ZH,show T.getD c []=g by rw[List.getD,F.o];rfl];simp only[p]
  rw[p]at d y x;have q:=Qa B;clear B p;obtain⟨c,M,F⟩:=e;go_fit d;rintro u R⟨a5,Y,rfl,p,m,g⟩;simp only at p g y x;have C:=Qa<|o.o.trans q.o;have D:=Qa (n.o.trans m sx);have Q:=Qa (A.o.kept m sx);have:=Qa g;have J:=Qa p;have O:=Qa (show Qq (fZ a5) (Qd<|.slice ao out t)by
   intro B I e;have v:=g B I;have L:=A.o.lt B e;omega)
  clear p m g d q o A n S U V
  by_cases G:F=0
  ·subst G;have h4:=y rfl;obtain⟨d,d⟩:=x rfl;obtain⟨d,e⟩:∃d,c.length=d+1:=⟨c.length-1,ox⟩;have⟨q,hz⟩:=qy c d ox;have U:=Qa (by rw[e,U3,List.getD,hz];rfl:c.getD (c.length-1) 0=q);have m:∀g∈Qi c,g.oneCell'=true:=iL c;obtain⟨Z,h2,rfl,-⟩:=J.o.sZ.at (by rw[QF];omega);have p:=J.o.sZ;have g:(Qi out).length=out.length:=QF out;have S:=Qa m;have V:=Qa hz;have A:=Qa p;have h1:=Q.o;have W:(Qi out).length+c.length<=maxLen:=(by rw[g];simp only[maxLen];omega);have X:((Qi out).length+c.length)*8<=140737488355328:=(by rw[g];omega);have:=Qa e;obtain⟨_,_⟩:(c:Int)-1=(d:Int)/\d<c.length:=ox;clear hz m p y x e;have Q:=Qa (show ∀(d:OA)(e:Nat)(m:WD),Qh m 3 (.slice d ((Qi out).length+c.length) e) (Qi out++Qi c)->Qb (Qd<|.slice ao out t) R m->
    QQ R (Qd<|.slice ao out t) (Qd<|.slice d ((Qi out).length+c.length) e)->
    Qh m 3 (.slice d (out++c).length e) (Qi<|out++c)/\Qb [] z m/\Qu z (Qd<|.slice d ((Qi out).length+c.length) e)from by
    intro d e m v L z;have u:Qi out++Qi c=Qi (out++c):=(by simp[Qi]);have p:(Qi out).length+c.length=(out++c).length:=(by rw[g,Qo]);refine⟨by rwa[<-u,<-p],D.o.new L (by rw[X7];exact H.o),?_⟩;exact Qu.grow (by rw[X7];exact H.o) z D.o.size)
   have R:=Qa g;clear g
   by_cases p:(q:Int)=t0.length-1
   ·have h5:((q:Int)==(t0:Int)-1)=true:=(by simp[p]);have g:=Qa (by rw[C.o,Qf sx,Qg<|by rwa[U.o]]:l=(out++c,M,0));clear p;go_wp2_with ((at_builtin;refine Du rfl _ _ 51 rfl 3 (0:Int) 8 XP XZ rfl (.slice ao out t) (Qi out) (Qi c) (some ⟨Z,h2,none⟩) c Y rfl rfl S.o h1 A.o (fun h=>by cases h) W X ?_;intro d e m H u z;have k0:=(A.o.kept u O.o).natD V.o))
    go_ret3
    obtain⟨J,L,v⟩:=Q.o _ _ _ H u z;rw[E.o,g.o];exact Xg.ok2 (Qo ..) (by rw[<-R.o];rfl) J (j.o.trans L sx) (fun B I=>QS j.o.size<|v B<|by simpa[X7]using I)
   have h5:((q:Int)==(t0:Int)-1)=false:=(by simp[p]);have g:=Qa (by rw[C.o,Qf sx,Qf<|by rwa[U.o]]:l=AM T (Ql s) ((t0:Int)-1) (P.drop<|i+1) (out++c) M);clear p;go_wp2_with ((at_builtin;refine Du rfl _ _ 51 rfl 3 (0:Int) 8 XP XZ rfl (.slice ao out t) (Qi out) (Qi c) (some ⟨Z,h2,none⟩) c Y rfl rfl S.o h1 A.o (fun h=>by cases h) W X ?_;intro d e m H u z;have k0:=(A.o.kept u O.o).natD V.o))
   go_roundg (P.length-(i+1))
   ·obtain⟨J,L,v⟩:=Q.o _ _ _ H u z;exact⟨i+1,M,out++c,d,e,rfl,ox,sx,rfl,h4,by rw[Qo,R.o],by rw[Qo];omega,g,Qa J,Qa L,Qa<|by rwa[X7]at v⟩
   have:=h3.o;omega
  have g3:((F:Int) != 0)=true:=Rf.2 ox;have g:=Qa (by rw[C.o,Qg G]:l=([],0,F));clear y x G
  go_wp2
  go_ret3
  rw[E.o,g.o];exact Xg.err (by rfl) (j.o.trans D.o sx)
 obtain rfl:i=P:=ox
 have:¬(P:Int)<P.length:=ox
 have g:=Qa (by rw[o.o,Jq<|Qk _];rfl:l=([],0,110))
 go_wp2
 go_ret3
 rw[E.o,g.o];exact Xg.err (by rfl) (j.o.trans n.o sx)


namespace K
def N(f:Nat->Nat):Nat->Nat->Nat
 |0,_=>0
 |m+1,i=>N f m i*256+f (i+m)
def EH(f m i):∀k,N f (m+k) i=N f m i*256^k+N f k (i+m):=by
 intro k
 induction k with
 |zero=>simp[N]
 |succ k ih=>rw[(ox:m+(k+1)=(m+k)+1),N,ih,N,J9,V5,FZ,Y7 i m k];omega
def DD(f)(hf:∀i,f i<256)(m i):N f m i<256^m:=by
 induction m with
 |zero=>simp[N]
 |succ m ih=>rw[N,J9];have:=hf<|i+m;have:(N f m i+1)*256<=256^m*256:=Be _ ih;omega
def FY(f n)(hp:∀i,f (i%n)=f i)(m i):N f m (i%n)=N f m i:=by
 induction m with
 |zero=>rfl
 |succ m ih=>rw[N,N,ih,<-hp (i%n+m),Nat.mod_add_mod,hp]
def Iu(f i):N f 1 i=f i:=by simp[N]
def GO{A d C D c:Nat}(e:d<c)(e:D<c):A*c+d<C*c+D↔A<C\/(A=C/\d<D):=by
 rcases CF A C with d|d|d
 ·have e:(A+1)*c<=C*c:=Be _ d;rw[V5,Nat.one_mul]at e;constructor
  ·intro _;exact .inl d
  intro _;omega
 ·subst d;constructor
  ·intro _;exact .inr ⟨rfl,ox⟩
  intro _;omega
 have e:(C+1)*c<=A*c:=Be _ d;rw[V5,Nat.one_mul]at e;constructor
 ·intro _;omega
 intro _;omega
def Xy(c:LN)(i:Nat):Nat:=c.getD i 0
def Yk(n:Nat)(d:LN)(c i:Nat):Nat:=d.getD ((i+c)%n) 0
def CZ(n:Nat)(c:LN)(d i j:Nat):Prop:=Xy c i<Xy c j\/(Xy c i=Xy c j/\Yk n c d i<Yk n c d j)
def AG(n:Nat)(c:LN)(d i j:Nat):Int:=
 if Xy c i≠Xy c j then(Xy c i:Int)-(Xy c j:Int)
 else if Yk n c d i≠Yk n c d j then(Yk n c d i:Int)-(Yk n c d j:Int)
 else(i:Int)-(j:Int)
def bI(n d c i j):AG n d c i j<0↔CZ n d c i j\/(¬CZ n d c j i/\i<j):=by
 unfold AG CZ
 split
 ·omega
 split
 ·omega
 omega
def IE(n:Nat)(f:Nat->Nat)(e:LN)(m:Nat):Prop:=∀c d,c<n->d<n->(Xy e c<Xy e d↔N f m c<N f m d)
def Et(n:Nat)(f:Nat->Nat)(g:LN)(e m:Nat):Prop:=∀c d,c<n->d<n->(CZ n g e c d↔N f m c<N f m d)
def Qcx(n f)(hf:∀i,f i<256)(hp:∀i,f (i%n)=f i)(c m)(h:IE n f c m):Et n f c m (m+m):=by
 intro i d hi c;have g:0<n:=ox
 rw[EH,EH,GO (DD f hf m _)<|DD f hf m _];have e:=h i d hi c;have j:=h d i c hi;have c:=h ((i+m)%n) ((d+m)%n) (J8 _ g)<|J8 _ g;rw[FY f n hp,FY f n hp]at c;unfold CZ Yk;unfold Xy at e j c ⊢;constructor
 ·rintro(h|⟨h,d⟩)
  ·exact .inl<|e.1 h
  exact .inr ⟨ox,c.1 d⟩
 rintro(h|⟨h,d⟩)
 ·exact .inl<|e.2 h
 exact .inr ⟨ox,c.2 d⟩
def Qcw(n f c)(h:IE n f c 1):Et n f c 0 1:=by intro d e hi c;have:=h d e hi c;unfold CZ Yk;unfold Xy at this ⊢;rw[Jt,Jt,XH hi,XH c];omega
def VF(f:Nat->Nat)(m i j:Nat):Prop:=N f m i<N f m j\/(N f m i=N f m j/\i<j)
def wX(n f e c m)(h:Et n f e c m)(i j)(hi:i<n)(d:j<n):AG n e c i j<0↔VF f m i j:=by rw[bI,h i j hi d,h j i d hi];unfold VF;omega
structure Ordered(n:Nat)(f:Nat->Nat)(m:Nat)(L:LN):Prop where
 perm:L.Perm (List.range n)
 asc:L.Pairwise (VF f m)
def Ordered.one{n f m L c}(h:Ordered n f m L)(d:Ordered n f m c):L=c:=
 Ig (fun a b _ _ c e=>by unfold VF at c e;omega) h.asc d.asc (h.perm.trans d.perm.symm)
def Ordered.len{n f m L}(h:Ordered n f m L):L.length=n:=by rw[h.perm.length_eq,VK]
def Ordered.lt{n f m L}(h:Ordered n f m L):∀x∈L,x<n:=fun x c=>ZR.1<|h.perm.mem_iff.1 c
def Ordered.nodup{n f m L}(h:Ordered n f m L):L.Nodup:=h.perm.nodup_iff.2 Dy
def Tu(f n)(hf:∀i,f i<256)(hp:∀i,f (i%n)=f i)(h0:0<n)(m i j)(h:n<=m):N f m i<N f m j↔N f n i<N f n j:=by
 have same:∀k,N f k i=N f k j->∀c,c<k->f (i+c)=f (j+c):=by
  intro k
  induction k with
  |zero=>intro _ c e;omega
  |succ k ih=>
   intro d c e;rw[N,N]at d;have:=hf<|i+k;have:=hf<|j+k;rcases Xw c k with h|h
   ·exact ih ox c h
   obtain rfl:c=k:=ox;omega
 obtain⟨d,rfl⟩:∃d,m=n+d:=⟨m-n,ox⟩;rw[EH,EH,GO (DD f hf d _)<|DD f hf d _];constructor
 ·rintro(h|⟨h,l⟩)
  ·exact h
  exfalso;have hs:=same n h;have e:∀c,f (i+c)=f (j+c):=by intro c;have d:=hp<|i+c%n;have g:=hp<|j+c%n;have o:(i+c%n)%n=(i+c)%n:=(by rw[Nat.add_mod,Nat.mod_mod,<-Nat.add_mod]);have p:(j+c%n)%n=(j+c)%n:=(by rw[Nat.add_mod,Nat.mod_mod,<-Nat.add_mod]);have:=hs (c%n)<|J8 _ h0;rw[<-hp (i+c),<-o,d,this,<-g,p,hp]
  have c:∀k,N f k (i+n)=N f k (j+n):=by
   intro k
   induction k with
   |zero=>rfl
   |succ k ih=>rw[N,N,ih,Y7,Y7,e]
  rw[c]at l;omega
 intro h;exact .inl h
end K
namespace K
def Cc(n:Nat)(c:LN)(d i j:Nat):Prop:=Xy c i≠Xy c j\/Yk n c d i≠Yk n c d j
instance (n:Nat) (rank:LN) (by_ i j:Nat):Decidable (Cc n rank by_ i j):=by unfold Cc;infer_instance
instance (f:Nat->Nat) (m i j:Nat):Decidable (VF f m i j):=by unfold VF;infer_instance
def AV(n:Nat)(d:LN)(c i j:Nat):Nat:=if Cc n d c i j then 1 else 0
def Yj(n:Nat)(d:LN)(c:Nat)(L:LN):Nat->LN
 |0=>List.replicate n 0
 |k+1=>(Yj n d c L k).set (L.getD (k+1) 0) ((Yj n d c L k).getD (L.getD k 0) 0+AV n d c (L.getD k 0) (L.getD (k+1) 0))
def Nv(n d c L k):(Yj n d c L k).length=n:=by
 induction k with
 |zero=>simp[Yj]
 |succ k ih=>rw[Yj,JO,ih]
def WN(n e c L k):∀x∈Yj n e c L k,x<=k:=by
 induction k with
 |zero=>intro x d;simp[Yj]at d;omega
 |succ k ih=>
  intro x d;rw[Yj]at d;rcases EA d with d|d
  ·have:=ih x d;omega
  have:(Yj n e c L k).getD (L.getD k 0) 0<=k:=by
   rw[List.getD];cases hg:(Yj n e c L k)[L.getD k 0]? with
   |none=>simp
   |some y=>exact ih y<|QB hg
  have:AV n e c (L.getD k 0) (L.getD (k+1) 0)<=1:=by unfold AV;split<;>omega
  omega
def R3(n:Nat)(d:LN)(c:Nat)(L:LN):Nat->Nat
 |0=>0
 |k+1=>R3 n d c L k+AV n d c (L.getD k 0) (L.getD (k+1) 0)
def Qew{L:LN}(h:L.Nodup)(i j)(hi:i<L.length)(e:j<L.length)(d:L.getD i 0=L.getD j 0):i=j:=by
 rw[List.getD,List.getD,Qj hi,Qj e]at d;have d:L[i]=L[j]:=d;have hp:=JP.1<|show L.Pairwise (· ≠ ·)from h;rcases CF i j with c|c|c
 ·exact absurd d<|hp i j hi e c
 ·exact c
 exact absurd d.symm<|hp j i e hi c
def GF{L:LN}{n}(h:∀x∈L,x<n)(i)(hi:i<L.length):L.getD i 0<n:=by rw[List.getD,Qj hi];exact h _<|Yc hi
def WM(n q o L)(hL:L.length=n)(hlt:∀x∈L,x<n)(h1:L.Nodup)(k)(hk:k<n):∀j,j<=k->(Yj n q o L k).getD (L.getD j 0) 0=R3 n q o L j:=by
 induction k with
 |zero=>
  intro j hj;obtain rfl:j=0:=ox
  rw[Yj,R3,List.getD,V1]
  split<;>rfl
 |succ k ih=>
  intro j hj;rw[Yj,List.getD,Je];have hl:L.getD (k+1) 0<(Yj n q o L k).length:=by rw[Nv];exact GF hlt _ ox
  by_cases y:j=k+1
  ·subst y;rw[Qg rfl,Qg hl,R3,ih ox k<|Qk _];rfl
  rw[Qf fun h=>y (Qew h1 _ _ ox ox h).symm];exact ih ox j ox
def uD(n f e d m)(h:Et n f e d m)(L)(g:Ordered n f m L):IE n f (Yj n e d L<|n-1) m:=by
 have p:=g.len;have hlt:=g.lt;have s:=g.nodup;have XG:∀k,k+1<n->N f m (L.getD k 0)<=N f m (L.getD (k+1) 0)/\AV n e d (L.getD k 0) (L.getD (k+1) 0)=if N f m (L.getD k 0)<N f m (L.getD (k+1) 0)then 1 else 0:=by
  intro k hk;have i:VF f m (L.getD k 0) (L.getD (k+1) 0):=by have:=(JP.1 g.asc) k (k+1) ox ox ox;rw[List.getD,List.getD,Qj ox,Qj ox];exact this
  have c:=h (L.getD k 0) (L.getD (k+1) 0) (GF hlt _ ox) (GF hlt _ ox);have a2:=h (L.getD (k+1) 0) (L.getD k 0) (GF hlt _ ox) (GF hlt _ ox);unfold VF at i;unfold CZ at c a2;refine⟨ox,?_⟩;unfold AV
  by_cases c:Cc n e d (L.getD k 0) (L.getD (k+1) 0)
  ·rw[Qg c];unfold Cc at c;rw[Qg ox]
  rw[Qf c];unfold Cc at c;rw[Qf ox]
 have q:∀k,k<n->∀c,c<=k->R3 n e d L c<=R3 n e d L k/\N f m (L.getD c 0)<=N f m (L.getD k 0)/\(R3 n e d L c=R3 n e d L k↔N f m (L.getD c 0)=N f m (L.getD k 0)):=by
  intro k
  induction k with
  |zero=>intro _ c l;obtain rfl:c=0:=ox
         exact⟨Qk _,Qk _,sx⟩
  |succ k ih=>
   intro hk c l
   by_cases j:c=k+1
   ·subst j;exact⟨Qk _,Qk _,sx⟩
   have i:=ih ox c ox;have i:=XG k hk;rw[R3,i.2]
   split<;>omega
 intro i c hi l;have o:∀i,i<n->∃k,k<n/\L.getD k 0=i:=by intro i hi;obtain⟨k,hk,j⟩:=Tl.1<|g.perm.mem_iff.2<|ZR.2 hi;exact⟨k,ox,by rwa[List.getD,Qj hk]⟩
 obtain⟨k,hk,rfl⟩:=o i hi;obtain⟨g,i,rfl⟩:=o c l;unfold Xy;rw[WM n e d L p hlt s (n-1) ox k ox,WM n e d L p hlt s (n-1) ox g ox];rcases Nat.le_total k g with h|h
 ·have:=q g i k h;omega
 have:=q k hk g h;omega
def fS(s:LU)(i:Nat):Nat:=(s.getD (i%s.length) 0).toNat
def GB(s i):fS s i<256:=by unfold fS;exact Rc _
def KI(s i):fS s (i%s.length)=fS s i:=by unfold fS;rw[Nat.mod_mod]
def Yz(s:LU):LN:=s.map UInt8.toNat
def zY(s):IE s.length (fS s) (Yz s) 1:=by intro c c hi c;rw[Iu,Iu];unfold Xy Yz fS;rw[XH hi,XH c,List.getD,List.getD,List.getD,List.getD,Zz,Zz,Qj hi,Qj c];rfl
def Ordered.more{s m L}(h0:0<s.length)(c:s.length<=m)(h:Ordered s.length (fS s) m L):Ordered s.length (fS s) s.length L:=by refine⟨h.perm,h.asc.imp ?_⟩;intro a b d;have:=Tu (fS s) s.length (GB s) (KI s) h0 m a b c;have:=Tu (fS s) s.length (GB s) (KI s) h0 m b a c;unfold VF at d ⊢;omega
end K
def Qp.natC{w}{b off n i x:Nat}{xs}(h:Qp w 1 (some ⟨b,off,none⟩) n (Qi xs))(c:xs[i]?=some x):w.cell? ⟨b,off+i,none⟩=some (.int .i64 (x:Int)):=by rw[Dd]at h;exact h.int (by rw[Zz,c];rfl)
def JJ(a:OA)(n c d:Nat):VL:=.agg #[.slice a n c,(d:Int)]
def key_ok(j l n c d i g w)(h:Qp w 1 (some ⟨j,l,none⟩) n (Qi g))(m:g.length=n)(m:n<=1000000000)(hi:i<n)(m:d<=1000000000000):
 Calls prog 246 #[JJ (some ⟨j,l,none⟩) n c d,i] w (RK (.tuple #[(Xy g i:Nat),(Yk n g d i:Nat)]) w):=by
 have m:Qb [] w (w.alloc<|.cells #[.slice (some ⟨j,l,none⟩) n c,(d:Int)] 333):=(Qc _ _).alloc _;have o:=Xq w<|.cells #[.slice (some ⟨j,l,none⟩) n c,(d:Int)] 333;have b0:(w.alloc<|.cells #[.slice (some ⟨j,l,none⟩) n c,(d:Int)] 333).cell? w=_:=ZD _ w 0 _ _ _ o;have p:(w.alloc<|.cells #[.slice (some ⟨j,l,none⟩) n c,(d:Int)] 333).cell? ⟨w.heap.size,1,none⟩=_:=ZD _ w 1 _ _ _ o;simp at b0 p;have⟨j,l⟩:=qx<|(i+d)%n;have:j<n:=by rw[<-l];exact J8 _ ox
 have p:g[i]?=some (Xy g i):=by unfold Xy;rw[List.getD,Qj ox];rfl
 have q:g[j]?=some (Yk n g d i):=by unfold Yk;rw[l,List.getD,Qj ox];rfl
 have c1:=(h.kZ m).natC p;have c2:=(h.kZ m).natC q;generalize Xy g i=x1 at*
 generalize Yk n g d i=x2 at*
 have hw:IntKind.i64.wrap ((i:Int)+d)=(i:Int)+d:=Za _ ox;have:((i:Int)+d).tmod (n:Int)=j:=by rw[BQ ox,<-l];norm_cast
 obtain⟨_,_,_⟩: ¬(n:Int)=0/\(i:Int)<n/\(j:Int)<n:=ox
 unfold JJ;have d:=Qa m;go_enter func246,ntmps246;go_wp2_with fail;go_quiet (fail)
 go_wp2
 go_ret2;exact⟨rfl,d.o.drewN _⟩
def xY(l m n c g i j d w)(h:Qp w 1 (some ⟨l,m,none⟩) n (Qi d))(v:d.length=n)(B:∀x∈d,x<1000000000)(A:n<=1000000000)(hi:i<n)(G:j<n)(z:g<=1000000000000):
 Calls prog 248 #[JJ (some ⟨l,m,none⟩) n c g,i,j] w (RK (.int .i64<|AG n d g i j) w):=by
 have t:Qb [] w (w.alloc<|.cells #[.slice (some ⟨l,m,none⟩) n c,(g:Int)] 333):=(Qc _ _).alloc _;have o:=Xq w<|.cells #[.slice (some ⟨l,m,none⟩) n c,(g:Int)] 333;have⟨F,D,u⟩:=qc o t<|h.kZ t;have hb:∀k s,Xy d k<1000000000/\Yk n d s k<1000000000:=by
  have:∀k,d.getD k 0<1000000000:=by
   intro k;rw[List.getD];cases hg:d[k]? with
   |none=>simp
   |some y=>exact B y<|QB hg
  intro k s;exact⟨this _,this _⟩
 have:=hb i g;have:=hb j g;have b0:(w.alloc<|.cells #[.slice (some ⟨l,m,none⟩) n c,(g:Int)] 333).cell? w=_:=ZD _ w 0 _ _ _ o;have s:(w.alloc<|.cells #[.slice (some ⟨l,m,none⟩) n c,(g:Int)] 333).cell? ⟨w.heap.size,1,none⟩=_:=ZD _ w 1 _ _ _ o;simp at b0 s;unfold JJ;go_enter func248,ntmps248;go_wp2_with fail;have o:=key_ok l m n c g i d _ u.o v A hi z;unfold JJ at o;go_fit o;rintro e C⟨rfl,t⟩;have⟨E,D⟩:=qb (D.o.new t<|by simp[Qu])<|u.o.kZ t;have u:=t.heap F.o sx;have b0:C.cell? w=_:=ZD _ w 0 _ _ _ u;have s:C.cell? ⟨w.heap.size,1,none⟩=_:=ZD _ w 1 _ _ _ u;simp at b0 s;go_wp2_with fail;have o:=key_ok l m n c g j d _ D.o v A G z;unfold JJ at o;go_fit o;rintro e l⟨rfl,m⟩;have t:=Qa (E.o.new m<|by simp[Qu]);have⟨r,l⟩:=qx<|AG n d g i j;have u:=Qa l;unfold AG at l;generalize Xy d i=p at*
 generalize Xy d j=p' at*
 generalize Yk n d g i=q at*
 generalize Yk n d g j=q' at*
 have:IntKind.i64.wrap ((p:Int)-p')=(p:Int)-p':=Za _ ox;have v2:IntKind.i64.wrap ((q:Int)-q')=(q:Int)-q':=Za _ ox;have v3:IntKind.i64.wrap ((i:Int)-j)=(i:Int)-j:=Za _ ox
 by_cases d:p=p'
 ·have g1:((p:Int) != (p':Int))=false:=by simp[d]
  rw[Qf<|by simp[d]]at l
  by_cases m:q=q'
  ·have o:((q:Int) != (q':Int))=false:=(by simp[m]);rw[Qf<|by simp[m]]at l;have g:=Qa l
   go_wp2
   go_ret;exact⟨by rw[u.o,<-g.o];rfl,t.o⟩
  have o:((q:Int) != (q':Int))=true:=Rf.2 ox;rw[Qg m]at l;have g:=Qa l
  go_wp2
  go_ret;exact⟨by rw[u.o,<-g.o];rfl,t.o⟩
 have g1:((p:Int) != (p':Int))=true:=Rf.2 ox;rw[Qg d]at l;have g:=Qa l
 go_wp2
 go_ret;exact⟨by rw[u.o,<-g.o];rfl,t.o⟩
section
open Go.Sort
def XL(a:OA)(n c d:Nat):VL:=.func (.func 248) #[JJ a n c d] #[]
def Qv(n:Nat)(d:LN)(c:Nat)(i j:Nat):Bool:=decide (AG n d c i j<0)
def fV(n c d i j):Qv n c d i j=true↔Xy c i<Xy c j\/(Xy c i=Xy c j/\(Yk n c d i<Yk n c d j\/(Yk n c d i=Yk n c d j/\i<j))):=by unfold Qv;rw[decide_eq_true_iff,bI];unfold CZ;omega
def fW(n c d i j):Qv n c d i j=false↔¬(Xy c i<Xy c j\/(Xy c i=Xy c j/\(Yk n c d i<Yk n c d j\/(Yk n c d i=Yk n c d j/\i<j)))):=by rw[<-fV];simp
def FA(n d c):SWO (Qv n d c) where
 irrefl x:=by rw[fW];omega
 trans x y z h1 h2:=by rw[fV]at*;omega
 ntrans x y z h1 h2:=by rw[fW]at*;omega
structure Qz(w0:WD)(g c n:Nat)(d:Array Nat)(w:WD):Prop where
 row:Qh w 3 (.slice g n c) (Qi d.toList)
 size:d.size=n
 lt:∀i,i<n->d[i]!<n
 kept:Qb [g] w0 w
def uS(d:Array Nat)(i)(hi:i<d.size):d.toList[i]?=some d[i]!:=by rw[Array.getElem?_toList,Al hi,getElem!_pos d i hi]
def Qz.cell{w0 w g c n d}(h:Qz w0 g c n d w)(i)(hi:i<n):w.cell? ⟨g,i,none⟩=some (.int .i64 (d[i]!:Nat)):=
 h.row.aZ (Vh _ _ _<|uS d i<|by rwa[h.size])
def Qz.kZ{w0 w w' g c n d}(h:Qz w0 g c n d w)(hk:Qb [] w w'):Qz w0 g c n d w':=
 ⟨h.row.kept hk sx,h.size,h.lt,h.kept.trans hk sx⟩
def Qz.drew{w0 w g c n d}(h:Qz w0 g c n d w):Qz w0 g c n d w.drew:=⟨h.row.drew,h.size,h.lt,h.kept.drew⟩
def nD(d:Array Nat)(i j):(swp d i j).toList=(d.toList.set i d[j]!).set j d[i]!:=by simp[swp]
def nE{d n}(hs:d.size=n)(h:∀i,i<n->d[i]!<n)(i j)(hi:i<n)(c:j<n):∀k,k<n->(swp d i j)[k]!<n:=by
 intro k hk;rw[swp_get d ox ox]
 split
 ·exact h i hi
 split
 ·exact h j c
 exact h k hk
def Qz.swap{w0 w g c n d}(h:Qz w0 g c n d w)(i j)(hi:i<n)(e:j<n):
 Qz w0 g c n (swp d i j) ((w.setCell ⟨g,i,none⟩ (d[j]!:Nat)).setCell ⟨g,j,none⟩ (d[i]!:Nat)):=by
 refine⟨?_,by rw[swp_size];exact h.size,nE h.size h.lt i j hi e,(h.kept.setCell (p:=⟨g,i,none⟩) (.inl sx) _).setCell (p:=⟨g,j,none⟩) (.inl sx) _⟩;have:=(h.row.put i (d[j]!:Nat)).put j (d[i]!:Nat);rw[Rl,Rl]at this;rw[nD];exact this
def Qz.swap2{w0 w g c n d}(h:Qz w0 g c n d w)(i j)(e:i≠j)(hi:i<n)(l:j<n):
 Qz w0 g c n (swp d i j) ((w.setCell ⟨g,j,none⟩ (d[i]!:Nat)).setCell ⟨g,i,none⟩ (d[j]!:Nat)):=by
 refine⟨?_,by rw[swp_size];exact h.size,nE h.size h.lt i j hi l,(h.kept.setCell (p:=⟨g,j,none⟩) (.inl sx) _).setCell (p:=⟨g,i,none⟩) (.inl sx) _⟩;have:=(h.row.put j (d[i]!:Nat)).put i (d[j]!:Nat);rw[Rl,Rl]at this;rw[nD,List.set_comm _ _ e];exact this
structure JN(w0:WD)(g rb ro n by_:Nat)(rank:LN):Prop where
 sees:Qp w0 1 (some ⟨rb,ro,none⟩) n (Qi rank)
 len:rank.length=n
 small:∀x∈rank,x<1000000000
 n9:n<=1000000000
 by12:by_<=1000000000000
 ne:rb≠g
def JN.call{w0 w g c n o p l m d}(h:JN w0 g o p n l m)(s:Qz w0 g c n d w)(q i j)(hi:i<n)(t:j<n):
 Calls prog 248 #[JJ (some ⟨o,p,none⟩) n q l,i,j] w (RK (.int .i64<|AG n m l i j) w):=
 xY o p n q l i j m w (h.sees.kept s.kept (by intro l m l;simp[fZ]at m;simp at l;have:=h.ne;omega)) h.len h.small h.n9 hi t h.by12
def Qce(w0 g c n i j H p q d a b w)(h:JN w0 g i j n p q)(s:Qz w0 g c n d w)(l:a<=b)(hb:b<=n):
 Calls prog 294 #[.slice g n c,a,b,XL (some ⟨i,j,none⟩) n H p] w fun e w'=>e=.returned (.tuple #[])/\Qz w0 g c n (insertionSort (Qv n q p) d a b) w':=by
 have⟨I,o⟩:=qb h s;have:=h.n9;have⟨l,i⟩:=qx<|insOuter (Qv n q p) a b (a+1) d;have m:insertionSort (Qv n q p) d a b=l:=i;rw[m];have j:=Qa i;unfold XL;go_enter func294,ntmps294
 go_wp2
 go_loopg [8] (b-a) (fun k h wr=>∃(i:Nat)(m:Array Nat),h=.int .i64 i/\a<i/\i<=b+1/\k+i=b+1/\Hid (Qz w0 g c n m wr)/\Hid (insOuter (Qv n q p) a b i m=l))
 ·exact⟨a+1,d,by go_num,ox,ox,ox,o,j⟩
 obtain⟨i,m,rfl,h,h,hk,D,O⟩:=hrel;have S:=Qa hk
 by_cases hlt:i<b
 ·have:(i:Int)<b:=ox
  go_wp2
  go_loopg [9] i (fun k o s=>∃(h:Nat)(j:Array Nat),o=.int .i64 h/\a<=h/\h<=i/\k=h/\Hid (Qz w0 g c n j s)/\Hid (insInner (Qv n q p) a h j=insInner (Qv n q p) a i m))
  ·exact⟨i,m,rfl,ox,ox,rfl,D,Qa rfl⟩
  obtain⟨h,j,rfl,m,m,m,o,M⟩:=hrel;have out:(h<=a\/Qv n q p j[h]! j[h-1]! =false)->insOuter (Qv n q p) a b (i+1) j=l:=fun hs=>by rw[<-O.o,insOuter_go _ _ _ _ _ hlt,<-M.o,insInner_stop _ _ _ _ hs]
  have⟨x,W⟩:=qb out m
  by_cases X:a<h
  ·have Y:(a:Int)<h:=ox;obtain⟨m,E⟩:∃l,l+1=h:=⟨h-1,ox⟩;have y:h-1=m:=ox;rw[y]at x;have c0:=o.o.cell h ox;have c1:=o.o.cell m ox;have A:=o.o.lt h ox;have B:=o.o.lt m ox;have⟨u,l⟩:=qx<|j[h]! ;have⟨v,s⟩:=qx<|j[m]! ;have z:=o.o;rw[l]at c0 A;rw[s]at c1 B;rw[l,s]at x;have:IntKind.i64.wrap ((h:Int)-1)=(m:Int):=(by rw[Za _ ox];omega);obtain⟨_,_⟩:(h:Int)<n/\(m:Int)<n:=ox;have⟨r,C⟩:=qx<|AG n q p u v;have F:Qv n q p u v=decide (r<0):=(by unfold Qv;rw[C]);have⟨Q,R,P,L,t,J⟩:=qf l s C F E y
   by_cases T:r<0
   ·have E:decide (r<0)=true:=XE T;go_wp2_with fail
    go_region_held3 (fun w'=>Qz w0 g c n j w'/\w'.cell? ⟨g,h,none⟩=some (.int .i64 (u:Int))/\w'.cell? ⟨g,m,none⟩=some (.int .i64 (v:Int)))
     (first|exact⟨o.o,c0,c1⟩|exact⟨o.o.drew,c0,c1⟩|exact⟨s,l.cZ c0 sx,l.cZ c1 sx⟩)
     (first|(go_fit(I.o.call (Qz.drew o.o) H u v A B);rintro e C⟨y,l⟩;rw[P.o]at y;subst y;have l:Qb [] wr C:=(Qc [] wr).drew.trans l sx;have s:Qz w0 g c n j C:=o.o.kZ l))
    have:=l.cZ c0 sx;have:=l.cZ c1 sx;have:=s.row.free h;have:=s.row.free m;have F:¬h=m:=(yx t.o);have:¬m=h:=(yx t.o);have z:=s.swap h m (yx t.o) (yx t.o);have G:=s.swap2 h m F (yx t.o) (yx t.o);rw[Q.o,R.o]at z G;have⟨U,V⟩:=qb z G;have F:=insInner_go (Qv n q p) a h j X (by rw[J.o,Q.o,R.o,L.o];exact E);rw[J.o]at F;have p:=Qa F;go_wp2_with fail
    go_region
    all_goals
     go_wp2
     go_roundg m
     ·exact⟨m,_,by go_num,yx t.o,yx t.o,rfl,(by first|exact Qa (Qz.drew U.o)|exact Qa<|Qz.drew V.o),Qa<|p.o.symm.trans M.o⟩
     have:=W.o;have:=t.o;omega
   have E:decide (r<0)=false:=X0 T;go_wp2_with fail
   go_region_held3 (fun w'=>Qz w0 g c n j w'/\w'.cell? ⟨g,h,none⟩=some (.int .i64 (u:Int))/\w'.cell? ⟨g,m,none⟩=some (.int .i64 (v:Int)))
    (first|exact⟨o.o,c0,c1⟩|exact⟨o.o.drew,c0,c1⟩|exact⟨s,l.cZ c0 sx,l.cZ c1 sx⟩)
    (first|(go_fit(I.o.call (Qz.drew o.o) H u v A B);rintro e C⟨y,l⟩;rw[P.o]at y;subst y;have l:Qb [] wr C:=(Qc [] wr).drew.trans l sx;have s:Qz w0 g c n j C:=o.o.kZ l))
   have m:=x.o<|.inr (by rw[L.o];exact E);have⟨p,q⟩:=qb m s
   go_wp2
   go_roundg (b-i)
   ·exact⟨i+1,j,by go_num,ox,ox,ox,q,p⟩
   have:=S.o;omega
  have Y:¬(a:Int)<h:=ox
  have m:=x.o (.inl ox);have p:=Qa m;go_wp2_with fail;go_quiet (fail)
  go_wp2
  go_roundg (b-i)
  ·exact⟨i+1,j,by go_num,ox,ox,ox,Qa<|o.o.kZ<|(Qc _ _).drewN _,p⟩
  have:=S.o;omega
 have:¬(i:Int)<b:=ox
 have m:=O.o;rw[insOuter_stop _ _ _ _ _ hlt]at m;subst m
 go_wp2
 go_end0
 exact⟨rfl,D.o⟩
end
