import Derived.Sort.WalkA
import Derived.Sort.LotA
import Derived.Sort.Lot0
import Derived.Test.YtickjpnkoppmgaaGreatDoorAk
import Derived.Test.YtickjpnkoppmgaaGreatDoorAj
set_option linter.all false
set_option maxHeartbeats 2000000
set_option maxRecDepth 100000
namespace Go.Proofs.YtickjpnkoppmgaaGreatDoor
open Go.Proofs.Tryz Go.RowKit K
structure Yi(w:WD)(g:Nat)(a:OA)(cap:Nat)(xs:LI)(ls:LN)(M:Nat)(dv:VL):Prop where
 tab:QO w g a xs.length cap ls (M+1) dv
 sees:Qp w 1 a xs.length (QM xs)
 max:JR xs=(M:Int)
 good:XA xs=true
 nats:QD xs=ls
 le:M≤20
def Yi.mk0{w g a cap xs b}(d:QO w g a xs.length cap (QD xs) ((JR xs).toNat+1) b)(hs:Qp w 1 a xs.length (QM xs))(c:XA xs=true):
 Yi w g a cap xs (QD xs) (JR xs).toNat b:=by
 have b:=((UN xs).1 (UL c)).2;have:=(Kj xs).1;have:=NJ xs 20 (by decide) fun f e=>(b f e).2;exact⟨d,hs,by omega,c,rfl,by omega⟩
def Yi.kept{S w w' g a cap xs ls d c}(b:Yi w g a cap xs ls d c)(hk:Qb S w w')(e:Qq (g::Qd c) S)(f:Qq (fZ a) S):
 Yi w' g a cap xs ls d c:=⟨b.tab.kept hk e,b.sees.kept hk f,b.max,b.good,b.nats,b.le⟩
def Yi.kZ{w w' g a cap xs ls b c}(d:Yi w g a cap xs ls b c)(hk:Qb [] w w'):
 Yi w' g a cap xs ls b c:=d.kept hk (ZM _)<|ZM _
def Yi.len{w g a cap xs ls b c}(d:Yi w g a cap xs ls b c):2≤xs.length∧xs.length≤258:=((UN xs).1 (UL d.good)).1
def Yi.top{w g a cap xs ls b d}(c:Yi w g a cap xs ls b d):∀x∈ls,1≤x∧x≤b:=by intro x b;rw[←c.nats]at b;have:=(Cl c.good x b).1;simp only[QD,QB]at b;obtain⟨e,d,rfl⟩:=b;have:=(Kj xs).2 e d;rw[c.max]at this;omega
def Yi.none{w g a cap xs ls b c}(d:Yi w g a cap xs ls b c)(m)(c:b<m):ls.count m=0:=by rw[List.count_eq_zero];intro b;have:=(d.top m b).2;omega
def Yi.fits{w g a cap xs ls c d}(b:Yi w g a cap xs ls c d)(n)(c:n≤20):Zq ls n+ls.count n≤1048576:=by have d:=K.fits ls (fun f e=>QS (b.top f e).2 b.le) (by rw[←b.nats];exact FP b.good) n c;have b:2^n≤2^20:=Jc (by decide) c;exact QS d b
def lX(w0:WD)(ls:LN)(a c n:Nat)(k:Nat)(v:VL)(w:WD):Prop:=
 ∃b,n<b∧b≤22∧(n<a→b≤a+1)∧k=23-b∧v=.int .i64 (b:Nat)∧(∀a,n<a→a<b→¬(0<ls.count a∧c*2^(a-n)<Zq ls a+ls.count a))∧Qb [] w0 w
def rQ(g a cap xs ls M dv)(c n:Nat)(w)(h:Yi w g a cap xs ls M dv)(hn:1≤n∧n≤20)(hc:c<2^n):
 Calls prog 287 #[.pointer g,c,n] w fun e w'=>e=.returned (.bool<|Rw ls c n)∧Qb [] w w':=by
 have⟨q,HC⟩:=qb h hc;have hM:=h.le;have hl:=h.len;go_enter func287,ntmps287
 go_wp2
 go_loopg [7] (23-(n+1)) (fun k v wr=>lX w ls M c n k v wr)
 ·exact⟨n+1,by omega,by omega,by omega,rfl,by go_num,fun j o y=>by omega,Qc _ _⟩
 obtain⟨m,y7,hm,x8,hk,rfl,y0,x0⟩:=hrel;have⟨Hk,h9,x3⟩:=qc hk y0 x0;have c0:=QO.of (q.o.kZ x0).tab.1;have z6:=Qa x8;go_wp2_with fail;refine(cV a cap xs _ (q.o.kZ x3.o).sees<|by omega).mono ?_;rintro e w2⟨rfl,x7⟩;have h5:=Qa (x3.o.new x7<|by simp[Qs]);rw[q.o.max]
 by_cases hlt:m≤M
 ·obtain⟨y6,z8⟩:(m:Int)≤M∧(m:Int)<22:=by omega
  have hA:=(q.o.kZ h5.o).tab.1;have cc:=QO.count hA (J1 _ _) (J1 _ _) m (ls.count m) (by unfold RL;rw[Ro _ _ _<|by omega,Qg<|by omega]);have cf:=QO.first hA m (Zq ls m) (by unfold RN;rw[Ro _ _ _<|by omega,Qg<|by omega]);have x5:=q.o.fits m (by omega);have⟨t,ht⟩:=qx<|m-n;have p0:IntKind.i64.wrap ((m:Int)-n)=(t:Int):=by rw[Q3 _<|by omega];omega
  have p1:t≤20:=by omega
  have y8:(2:Int)^t=((2^t:Nat):Int):=by norm_cast
  have y9:c*2^t≤1048576:=by have o:c*2^t≤2^n*2^t:=AA _<|Nat.le_of_lt HC.o;rw[←DZ]at o;have y:2^(n+t)≤2^20:=Jc (by decide) (by omega);exact QS o y
  have y3:(c:Int)*((2^t:Nat):Int)=((c*2^t:Nat):Int):=by norm_cast
  have x6:Rw ls c n=true↔∃j,j≤20∧n<j∧0<ls.count j∧c*2^(j-n)<Zq ls j+ls.count j:=It ls c n;have⟨y4,x4⟩:=qb x6 ht;generalize y2:c*2^t=z at y9 y3;have HZ:=Qa y2;generalize (2:Nat)^t=p at y8 y3;have⟨C,hC⟩:=qx<|ls.count m;have⟨F,hF⟩:=qx<|Zq ls m;have⟨h8,x2⟩:=qb hC hF;rw[hC]at cc x5;rw[hF]at cf x5;have p3:IntKind.i64.wrap (z:Int)=(z:Int):=Q3 _ (by omega);have p2:IntKind.i64.wrap ((F:Int)+C)=(F:Int)+C:=Q3 _ (by omega);rcases V9 C with h0|h0
  ·subst h0;go_wp2_with fail;go_quiet (fail)
   go_wp2
   go_roundg (23-(m+1))
   ·refine⟨m+1,by omega,by omega,fun _=>by omega,rfl,by go_num,fun j o y=>?_,h5.o.drewN _⟩;rcases Xq j m with h|h
    ·exact h9.o j o h
    obtain rfl:j=m:=(by omega);rw[h8.o];omega
   have:=Hk.o;omega
  have z7:(0:Int)<C:=by omega
  by_cases x1:z<F+C
  ·have z1:(z:Int)<F+(C:Int):=(by omega);have y1:Rw ls c n=true:=y4.o.2 ⟨m,by omega,y7,by rwa[h8.o],by rwa[x4.o,HZ.o,x2.o,h8.o]⟩;have HY:=Qa y1;go_wp2_with fail;go_quiet (fail)
   go_wp2
   go_ret;exact⟨by rw[HY.o];rfl,h5.o.drewN _⟩
  have z1:¬(z:Int)<F+(C:Int):=by omega
  have y5:=Qa x1;go_wp2_with fail;go_quiet (fail)
  go_wp2
  go_roundg (23-(m+1))
  ·refine⟨m+1,by omega,by omega,fun _=>by omega,rfl,by go_num,fun j o y=>?_,h5.o.drewN _⟩;rcases Xq j m with h|h
   ·exact h9.o j o h
   obtain rfl:j=m:=(by omega);rw[x4.o,HZ.o,x2.o,h8.o];exact fun h=>y5.o h.2
  have:=Hk.o;omega
 have y6:¬(m:Int)≤M:=by omega
 have x9:Rw ls c n=false:=by
  rcases JD (Rw ls c n)with h|h
  ·obtain⟨j,o,y,h3,h4⟩:=(It ls c n).1 h;rcases Xq j m with hj|hj
   ·exact absurd ⟨h3,h4⟩<|h9.o j y hj
   have:=q.o.none j (by omega);omega
  exact h
 have HB:=Qa x9
 go_wp2
 go_ret;exact⟨by rw[HB.o];rfl,h5.o⟩
def nX(R:Nat × Nat × Nat)(r a:Nat)(s:BA)(w:WD)(e:Ending)(w':WD):Prop:=
 e=.returned (.tuple #[(R.1:Nat),(R.2.2:Nat)])∧(R.2.2=0→Rd w' r a s R.2.1)∧Qb [r] w w'
def nW(w0:WD)(ls:LN)(r f:Nat)(s:BA)(R:Nat × Nat × Nat)(k:Nat)(d e:VL)(w:WD):Prop:=
 ∃a b c,1≤a∧a≤20∧k=21-a∧e=.int .i64 (a:Nat)∧d=.int .i64 (b:Nat)∧b<2^(a-1)∧c≤8*s.size∧R=Jg ls (Qk s) (21-a) a b c∧Rd w r f s c∧Qb [r] w0 w
def Qhr(bs p)(a:p<bs.length):QJ bs p 1=((bs.getD p false).toNat,0):=by unfold QJ;rw[Qf<|by omega,Qf (by simp;omega)];have:=Qck bs p 0 (by omega);rw[show(1:Int).toNat=0+1 from rfl,this,Oi];simp[K.num]
def Qhs(bs p)(a:bs.length≤p):QJ bs p 1=(0,10):=by unfold QJ;rw[Qf<|by omega,Qg (by simp;omega)]
def zB(c b:Nat)(a:c<4611686018427387904)(hb:b≤1):bits BinOp.or IntKind.i64 ((c:Int)*2) (b:Int)=((2*c+b:Nat):Int):=by
 have a:2*c|||b=2*c+b:=(Sk (i:=1) (b:=b) (by omega) c).symm;have:2*c|||b<2^63:=by rw[a];omega
 rw[show(c:Int)*2=((2*c:Nat):Int)by omega];show IntKind.i64.wrap ((BitVec.ofInt 64 ((2*c:Nat):Int)|||BitVec.ofInt 64 (b:Int)).toNat:Int)=_;rw[BitVec.toNat_or,ofInt_u64 _<|by omega,ofInt_u64 b<|by omega,Zz,a];omega
def Qcb(g a cap xs ls h B r c p s w)(i:Yi w g a cap xs ls h B)(d:Rd w r c s p)(hp:p≤8*s.size)(hs:s.size≤140737488351232)(ha:Qq (g::Qd B) [r])(b:Qq (fZ a) [r]):
 Calls prog 266 #[.pointer g,.pointer r] w (nX (Z7 ls (Qk s) p) r c s w):=by
 have⟨H,f,t,u⟩:=qd i d ha b;have:=i.le;have V:=i.len;have e:=Qa<|XD s;have⟨l,b⟩:=qx<|Z7 ls (Qk s) p;have d:=Qa b;rw[b];go_enter func266,ntmps266
 go_wp2
 go_loopg [6,7] 20 (fun b I j wr=>nW w ls r c s l b I j wr)
 ·exact⟨1,0,p,by omega,by omega,by omega,rfl,rfl,by decide,hp,d.o.symm,f.o,Qc _ _⟩
 obtain⟨b,d,f,D,X,hk,rfl,rfl,j,z,m,q,n⟩:=hrel;have⟨Q,k,y,x⟩:=qd hk m q n;have o:2^(b-1)≤2^19:=Jc (by decide) (by omega);have:d<524288:=Az j o;have v:=Qa j;go_wp2_with fail;refine(BQ r c s f 1 _ y.o (by omega) z).mono ?_;rintro J y⟨rfl,m,C⟩;have q:=Qa<|x.o.trans C fun j j=>.inl j
 by_cases j:8*s.size≤f
 ·have n:=Qhs (Qk s) f (by rwa[e.o]);have j:l=(0,0,10):=by rw[k.o,show 21-b=(20-b)+1 by omega,Jg,Qg (by rw[e.o];omega)]
  have o:=Qa j;rw[n]
  go_wp2
  go_ret2;rw[o.o];exact⟨rfl,(fun i=>by cases i),q.o⟩
 have n:=Qhr (Qk s) f (by rw[e.o];omega);rw[n]at m ⊢;have m:Rd y r c s (f+1):=m;have Xu:l=(if Zq ls b≤2*d+((Qk s).getD f false).toNat∧2*d+((Qk s).getD f false).toNat<Zq ls b+ls.count b then
  ((ZJ ls 21).getD ((ZJ ls b).length+(2*d+((Qk s).getD f false).toNat-Zq ls b)) 0,f+1,0)
  else if Rw ls (2*d+((Qk s).getD f false).toNat) b then Jg ls (Qk s) (20-b) (b+1) (2*d+((Qk s).getD f false).toNat) (f+1)else(0,0,90)):=by
  rw[k.o,show 21-b=(20-b)+1 by omega,Jg,Qf (by rw[e.o];omega)]
 have⟨e,hb⟩:=qx<|((Qk s).getD f false).toNat;have c:e≤1:=by rw[←hb];exact DF _
 rw[hb]at Xu ⊢;have j:=zB d e (by omega) c;have:IntKind.i64.wrap (e:Int)=(e:Int):=Q3 _ (by omega);have⟨c,M⟩:=qx<|2*d+e;rw[M]at Xu j;have O:c<2^b:=by
  have:=v.o;have J:2^b=2*2^(b-1):=by rw[show b=(b-1)+1 by omega,J5,UE];omega
  omega
 have:c≤1048576:=by omega
 have E:=Qa O;have A:=Qa Xu;have G:=Qa m;have j:=H.o.kept q.o t.o u.o;have t:=Qa j;have o:=j.fits b (by omega);have R:=j.fits (b-1) (by omega);have x:h<b→ls.count b=0:=j.none b;have P:=Qa x;have⟨d,u⟩:=qx<|ls.count b;have⟨k,v⟩:=qx<|Zq ls b;have cc:=QO.count j.tab.1 (J1 _ _) (J1 _ _) b d (by
  unfold RL;rw[Ro _ _ _<|by omega]
  by_cases y:b<h+1
  ·rw[Qg ⟨D,y⟩,u]
  rw[Qf<|by omega];have:=x (by omega);simp;omega)
 obtain⟨e,L,z⟩:∃e,(RN ls<|h+1)[b]?=some e∧(0<d→e=k)∧e≤1048576:=by
  unfold RN;rw[Ro _ _ _<|by omega];refine⟨_,rfl,fun i=>?_,?_⟩
  ·rw[Qg ⟨D,by have:=x;omega⟩,v]
  split<;>omega
 have:=QO.first j.tab.1 b e L;rw[u,v]at Xu o;have:(b:Int)<22:=by omega
 have U:IntKind.i64.wrap ((c:Int)-e)=(c:Int)-e:=Q3 _ (by omega);have⟨o,F,z,A⟩:=qd z u v Xu
 by_cases m:k≤c∧c<k+d
 ·have h0:0<d:=by omega
  obtain rfl:e=k:=o.o.1 h0;obtain⟨j,hi,W,T,n⟩:=uH ls b c (by rw[z.o];exact m.1) (by rw[z.o,F.o];exact m.2);rw[z.o]at n;have y:b<h+1:=by
   rcases Xq b (h+1)with i|i
   ·exact i
   have:=P.o (by omega);have:=F.o;omega
  have v:=Ks ls b (h+1) _ j y n;have M:=Ks ls b 21 _ j (by omega) n;have L:l=(j,f+1,0):=by rw[A.o,Qg m,List.getD,M,VI]
  have P:=Qa L;have z:=t.o.tab.2.1;obtain⟨j,I,j,-,-,-,-⟩:=z.sees;rw[QF]at j;subst j;have O:=z.sZ;have x:=(Qz.1 v).1;obtain⟨j,j,rfl,I⟩:=O.at (by rw[QF];omega);have c3:=I _ _<|UP _ _ _ v;have c1:=QO.order t.o.tab.1;have R:=QO.begin t.o.tab.1 (J1 _ _) b (ZJ ls b).length (by unfold Bf;rw[Ro _ _ _<|by omega,Qg<|by omega]);have S:(ZJ ls<|h+1).length≤6000:=by have u:=Kt ls<|h+1;have C:ls.length≤258:=(by rw[←H.o.nats,UQ];exact V.2);have:=Fj (by omega:h+1≤21) C;omega
  have⟨j,F⟩:=qx<|c-e;have H:(c:Int)-e=(j:Int):=by omega
  rw[F]at c3 x;rw[H]at U;obtain⟨_,_⟩:j<d∧(j:Int)<d:=by omega
  generalize (ZJ ls b).length=Bn at c3 R x;generalize (ZJ ls<|h+1).length=On at c1 x S;have:IntKind.i64.wrap ((Bn:Int)+j)=(Bn:Int)+j:=Q3 _ (by omega);obtain⟨_,_,_,x⟩:(0:Int)≤Bn+(j:Int)∧(Bn:Int)+j<(On:Int)∧((Bn:Int)+j).toNat=Bn+j∧(0:Int)<d:=by omega
  go_wp2_with fail;go_quiet (fail)
  go_wp2
  go_ret2;rw[P.o];exact⟨rfl,fun _=>G.o,q.o.drewN _⟩
 have n:l=if Rw ls c b then Jg ls (Qk s) (20-b) (b+1) c (f+1)else(0,0,90):=by rw[A.o,Qf m]
 have j:=Qa n;have l:d=0∨(0<d∧c<k)∨(0<d∧k+d≤c):=by omega
 rcases l with h0|⟨h0,u⟩|⟨h0,u⟩
 case' inl=>subst h0;go_wp2_with fail
 case' inr.inl=>
  obtain rfl:e=k:=o.o.1 h0;obtain⟨x,l,_⟩:(0:Int)<d∧¬(0:Int)≤c-(e:Int)∧(c:Int)-e<0:=by omega
  go_wp2_with fail
 case' inr.inr=>
  obtain rfl:e=k:=o.o.1 h0;obtain⟨x,l,_⟩:(0:Int)<d∧(0:Int)≤c-(e:Int)∧¬(c:Int)-e<(d:Int):=by omega
  go_wp2_with fail
 all_goals
  refine(rQ g a cap xs ls h B c b _ (by exact t.o) ⟨D,X⟩ E.o).mono ?_;rintro J d⟨rfl,d⟩;have⟨h,k⟩:=qb (q.o.trans d<|by simp)<|G.o.kept d<|ZM _;rcases JD (Rw ls c b)with hb|hb
  ·have d:=j.o;rw[hb,Qg rfl]at d;have e:=Qa d;have:b<20:=(by obtain⟨l,u,C,-⟩:=(It ls c b).1 hb;omega);rw[hb]
   go_wp2
   go_roundg (21-(b+1))
   ·exact⟨b+1,c,f+1,by omega,by omega,rfl,by go_num,rfl,by rw[UE];exact E.o,by omega,by rw[e.o,show 21-(b+1)=20-b by omega],k.o,h.o⟩
   have:=Q.o;omega
  have d:=j.o;rw[hb,Qf<|by decide]at d;have e:=Qa d;rw[hb]
  go_wp2
  go_ret2;rw[e.o];exact⟨rfl,(fun i=>by cases i),h.o⟩
def Z0(R:LN × Nat × Nat)(w:WD)(e:Ending)(w':WD):Prop:=
 ∃a b,e=.returned (.tuple #[.slice a R.1.length b,(R.2.1:Nat),(R.2.2:Nat)])∧Qh w' 3 (.slice a R.1.length b) (Qi R.1)∧Qb [] w w'∧Qs w.heap.size (fZ a)
def Z0.err{w w' e x}(a:e=.returned (.tuple #[.slice none 0 0,(0:Int),(x:Nat)]))(hk:Qb [] w w'):Z0 ([],0,x) w e w':=
 ⟨none,0,a,Qh.nil _ _,hk,by simp[Qs,fZ]⟩
def Z0.ok{w w' e l p a c}(b:e=.returned (.tuple #[.slice a l.length c,(p:Nat),(0:Int)]))(d:Qh w' 3 (.slice a l.length c) (Qi l))(hk:Qb [] w w')(hf:Qs w.heap.size (Qd<|.slice a l.length c)):Z0 (l,p,0) w e w':=
 ⟨a,c,b,d,hk,by rwa[←XK a l.length c]⟩
def Z0.ok2{w w' e l p n a c}(d:l.length=n)(b:e=.returned (.tuple #[.slice a n c,(p:Nat),(0:Int)]))(f:Qh w' 3 (.slice a l.length c) (Qi l))(hk:Qb [] w w')(hf:Qs w.heap.size (Qd<|.slice a l.length c)):Z0 (l,p,0) w e w':=by
 subst d;exact Z0.ok b f hk hf
def lW(w0:WD)(g:Nat)(a:OA)(cap:Nat)(xs:LI)(ls:LN)(i:Nat)(d:VL)(r c:Nat)(s:BA)(n e:Int)(R:LN × Nat × Nat)(k:Nat)(v:VL)(w:WD):Prop:=
 ∃h b f,k=f∧8*s.size+1≤f+b∧b≤8*s.size∧h.length≤b∧R=Yk ls (Qk s) n e f h b∧Qh w 3 v (Qi h)∧Rd w r c s b∧Yi w g a cap xs ls i d∧
  Qq (g::Qd d) [r,c]∧Qq (g::Qd d) (Qd v)∧Qq (Qd v) [r,c]∧Qb [] w0 w∧Qs w0.heap.size (Qd v)∧Qs w0.heap.size [r,c]
def rE(a:OA)(cap:Nat)(xs:LI)(s:BA)(at_ n en:Int)(w:WD)(h:Qp w 1 a xs.length (QM xs))(b6:xs.length≤140737488351232)(hs:s.size≤140737488351232)(r7:s.size≤1000000000∨n≤1000000000):
 Calls prog 226 #[.slice a xs.length cap,s,at_,n,en] w (Z0 (JP xs (Qk s) at_ n en) w):=by
 have⟨HS,q1,y1⟩:=qc h r7<|XD s;rcases JD (XA xs)with x0|x0
 ·have⟨x7,p5⟩:=qb x0<|h.lt (by rw[Xk];have:=((UN xs).1 (UL x0)).1;omega);go_enter func226,ntmps226;go_wp2_with fail;refine(dD a cap xs _ HS.o x7.o).mono ?_;rintro e w1⟨g,dv,rfl,ht,p0,q9⟩;have⟨y6,c4,HT⟩:=qc p0 q9<|Yi.mk0 ht (HS.o.kZ p0) x7.o;go_wp2_with fail
  by_cases z6:at_<0∨(8*s.size:Nat)<at_
  ·have hR:JP xs (Qk s) at_ n en=([],0,2):=(by unfold JP;rw[x7.o,Qg rfl,Qg (by rw[y1.o];omega)]);have HR:=Qa hR;refine(Kn s at_ _ (by omega) z6).mono ?_;rintro e w2⟨rfl,rfl⟩
   go_wp2
   go_ret3
   rw[HR.o];exact Z0.err (by rfl)<|y6.o.alloc _
  obtain⟨at_,rfl⟩:=X7 (by omega:0≤at_);have b5:at_≤8*s.size:=by omega
  refine(BH s at_ _ (by omega) (by omega)<|by omega).mono ?_;rintro e w2⟨r,q,rfl,x5,p1,z7⟩;rw[Zs]at x5;have⟨p6,b3,y9,a7⟩:=qd (y6.o.new p1<|by simp[Qs]) x5 (HT.o.kZ p1)<|z7.mono y6.o.size;have hap:Qq (g::Qd dv) [r,q]:=fun x hx hm=>by have h1:=HT.o.tab.lt x hx;have h2:=z7 x hm;omega
  have a6:=Qa hap
  by_cases hn:n<0
  ·have hR:JP xs (Qk s) (at_:Int) n en=([],0,2):=(by unfold JP;rw[x7.o,Qg rfl,Qg<|.inr<|.inr hn]);have HR:=Qa hR;have g1:decide (n<0)=true:=Xs hn
   go_wp2
   go_ret3
   rw[HR.o];exact Z0.err (by rfl) p6.o
  have g1:decide (n<0)=false:=Xz hn;have⟨R,z1⟩:=qx<|JP xs (Qk s) (at_:Int) n en;have hR:R=Yk (QD xs) (Qk s) n en (8*s.size+1) [] at_:=by rw[←z1];unfold JP;rw[x7.o,Qg rfl,Qf (by rw[y1.o];omega),y1.o,Zs]
  have⟨y7,HR⟩:=qb z1 hR;generalize QD xs=ls at HT y9 HR;generalize (JR xs).toNat=M at HT y9
  go_wp2
  go_loopg [16] (8*s.size+1) (fun k v wr=>lW w g a cap xs ls M dv r q s n en R k v wr)
  ·exact⟨[],at_,_,rfl,by omega,b5,by simp,HR.o,Qh.nil _ _,b3.o,y9.o,a6.o,ZM _,by simp[Qq,Qd,qo],p6.o,by simp[Qs,Qd,qo],a7.o⟩
  obtain⟨o,p,f,r4,c5,hp,c7,q5,p3,x5,r9,q6,q7,q8,r3,r0,r1⟩:=hrel;have⟨y2,q0,p9,q3,y4,p4,y0,p7⟩:=qh q5 p3 x5 r9 q6 q7 q8 r3;have⟨x2,y5⟩:=qb r0 r1;obtain⟨f,rfl⟩:∃f',f=f'+1:=⟨f-1,by omega⟩;have Hk:=Qa r4;obtain⟨av,cv,hv,-,-,-,-⟩:=p3.sees;rw[QF]at hv;subst hv
  by_cases hlt:(o.length:Int)<n
  ·have x8:Qq (fZ a) [r]:=fun x hx hm=>by have h1:=p5.o x hx;have h2:=y5.o x (by simp at hm;simp[hm]);omega
   go_wp2_with fail;refine(Qcb g a cap xs ls M dv r q p s _ q3.o p9.o hp hs (y4.o.symm.sub<|by simp).symm x8).mono ?_;rintro e w3⟨rfl,h5,x4⟩;have p2:Qb [] w w3:=p7.o.new x4 fun x hx=>y5.o x (by simp at hx;simp[hx]);have x6:=Qa p2
   by_cases hz:(Z7 ls (Qk s) p).2.2=0
   ·obtain⟨x,tt,h4⟩:∃x tt,Z7 ls (Qk s) p=(x,tt,0):=⟨_,_,by rw[←hz]⟩;have x9:=NR ls _ p hz;rw[y1.o]at x9;have h5:=h5 hz;rw[h4]at x9 h5 ⊢;have x9:p<tt∧tt≤8*s.size:=x9;have h5:Rd w3 r q s tt:=h5;have r6:=q0.o.kept x4 fun y hy h=>y0.o y hy (by simp at h;simp[h]);have a1:=q3.o.kept x4 (y4.o.symm.sub<|by simp).symm x8;have L1:(Qi o).length+1≤maxLen:=(by rw[QF];simp only[maxLen];have:=q1.o;omega);have L2:((Qi o).length+1)*8≤140737488355328:=(by rw[QF];have:=q1.o;omega);have⟨p8,y8,q4,b9⟩:=qd h4 h5 a1 x8;have d0:=x4.size
    by_cases y3:(x:Int)=en
    ·have h3:=y2.o;rw[Tu ls _ n en f o p x tt hlt p8.o y3]at h3;have h8:=Qa h3;subst y3;go_wp2_with ((at_builtin;refine UW _ rfl _ _ 51 rfl 3 (0:Int) 8 XC XJ rfl _ _ [.int .i64 (x:Int)] 1 rfl rfl rfl rfl (by simp[Value.oneCell']) r6 L1 L2 ?_;intro a5 b4 w5 x1 h9 x3));refine(at_ok r q s tt _<|y8.o.kept h9 y0.o.symm).mono ?_;rintro e w'⟨rfl,rfl⟩;have r2:=x6.o.new h9 x2.o;have z8:=x2.o.grow x3 x6.o.size;have r5:(Qi o).length+1=(o++[x]).length:=(by rw[QF];simp);rw[r5]at x1 z8 ⊢;rw[show Qi o++[Value.int .i64 (x:Int)]=Qi (o++[x])by rw[Dp];rfl]at x1;have⟨b2,b1,a8⟩:=qc x1 r2 z8
     go_wp2
     go_ret3
     rw[y7.o,h8.o];exact Z0.ok2 (n:=o.length+1) (by simp) (by rfl) b2.o b1.o a8.o
    have c8:((x:Int)==en)=false:=(by rwa[Zb]);have h3:=y2.o;rw[Tx ls _ n en f o p x tt hlt p8.o y3]at h3;have h8:=Qa h3;go_wp2_with ((at_builtin;refine UW _ rfl _ _ 51 rfl 3 (0:Int) 8 XC XJ rfl _ _ [.int .i64 (x:Int)] 1 rfl rfl rfl rfl (by simp[Value.oneCell']) r6 L1 L2 ?_;intro a5 b4 w5 x1 h9 x3))
    go_roundg f
    case measure=>have:=Hk.o;omega
    have b8:Qi o++[Value.int .i64 (x:Int)]=Qi (o++[x]):=(by rw[Dp];rfl);rw[b8]at x1;refine⟨o++[x],tt,f,rfl,by omega,x9.2,by simp;omega,h8.o,x1,y8.o.kept h9 y0.o.symm,q4.o.kept h9 p4.o ?_,y4.o,?_,(y0.o.symm.grow y8.o.lt x3).symm,x6.o.new h9 x2.o,x2.o.grow x3 x6.o.size,y5.o⟩
    ·intro y hy hm;have h1:=p5.o y hy;have h2:=x2.o y hm;omega
    intro y hy hm;rcases x3 y hm with h|h
    ·exact p4.o y hy h
    have:=q4.o.tab.lt y hy;omega
   have h4:=eQ ls (Qk s) p hz;generalize (Z7 ls (Qk s) p).2.2=er at hz h4;have h3:=y2.o;rw[Tv ls _ n en f o p er hlt h4 hz]at h3;have h8:=Qa h3;have b7:=Qb8 ls (Qk s) 20 1 0 p;have c9:((er:Int) != 0)=true:=VO.2 (by omega);rw[h4]
   go_wp2
   go_ret3
   rw[y7.o,h8.o];exact Z0.err (by rfl) x6.o
  have h3:=y2.o;rw[Tt ls _ n en f o p hlt]at h3;have h8:=Qa h3;have c6:¬(o.length:Int)<n:=hlt;go_wp2_with fail;refine(at_ok r q s p _ p9.o).mono ?_;rintro e w'⟨rfl,rfl⟩
  go_wp2
  go_ret3
  rw[y7.o,h8.o];exact Z0.ok (by rfl) q0.o p7.o x2.o
 have hR:JP xs (Qk s) at_ n en=([],0,80):=by unfold JP;rw[x0];rfl
 have HR:=Qa hR;go_enter func226,ntmps226;go_wp2_with fail;refine(dC a cap xs _ HS.o b6 x0).mono ?_;rintro e w'⟨rfl,rfl⟩
 go_wp2
 go_ret3
 rw[HR.o];exact Z0.err (by rfl)<|Qc _ _
def xX(b a:OA)(d c:Nat)(T)(P:LI)(s:BA)(at_:Int)(w:WD)(j:Xv w b a d c T P)(h:Xm T P=false):
 Calls prog 182 #[QZ b T.length d a P.length c,s,at_] w (Z0 (RD T P (Qk s) at_) w):=by
 have k:=Qa (by unfold RD;rw[h];rfl:RD T P (Qk s) at_=([],0,110));have hk:Qb [] w (w.alloc<|.cells #[.slice b T.length d,.slice a P.length c] 255):=(Qc [] w).alloc _;have e:=j.kept hk;have g:=Qy w [.slice b T.length d,.slice a P.length c] 255;have f:=FO b a d c T P _ e.tabs e.picks e.tl e.pl e.rl;rw[h]at f;unfold QZ at f ⊢;have b0:=g.cell (i:=0) (u:=.slice b T.length d) rfl;have:=g.cell (i:=1) (u:=.slice a P.length c) rfl;have b:=Qa hk;go_enter func182,Mf;go_wp2_with fail;refine f.mono ?_;rintro a a⟨rfl,a⟩;have c:=Qa (b.o.trans a<|by simp)
 go_wp2
 go_ret3
 rw[k.o];exact Z0.err (by rfl) c.o
def mZ(W:WD)(T:List LI)(P:LI)(bs:LB)(f:Int)(R:LN × Nat × Nat)(k:Nat)(g v2 v:VL)(wr:WD):Prop:=
 ∃(a d:Nat)(b:LN)(c:OA)(e:Nat),k=P.length-a∧a≤P.length∧v=.int .i64 (a:Nat)∧v2=.int .i64 (d:Nat)∧d≤bs.length∧g=.slice c b.length e∧b.length≤50*a∧Hid (R=Ai T bs f (P.drop a) b d)∧
  Hid (Qh wr 3 (.slice c b.length e) (Qi b))∧Hid (Qb [] W wr)∧Hid (Qs W.heap.size (fZ c))
def xY(f e:OA)(d b:Nat)(T)(P:LI)(s:BA)(at_:Int)(w:WD)(l:Xv w f e d b T P)(h:Xm T P=true)(hs:s.size≤140737488351232):
 Calls prog 182 #[QZ f T.length d e P.length b,s,at_] w (Z0 (RD T P (Qk s) at_) w):=by
 obtain⟨a,a,m,j⟩:=RG h;have⟨u,x,n⟩:=qc m j<|XD s;have hk:Qb [] w (w.alloc<|.cells #[.slice f T.length d,.slice e P.length b] 255):=(Qc [] w).alloc _;have a:=l.kept hk;have g:=Qy w [.slice f T.length d,.slice e P.length b] 255;have c:=FO f e d b T P _ a.tabs a.picks a.tl a.pl a.rl;rw[h]at c;unfold QZ at c ⊢;have b0:=g.cell (i:=0) (u:=.slice f T.length d) rfl;have v:=g.cell (i:=1) (u:=.slice e P.length b) rfl;have⟨k,q,o,i⟩:=qd hk g a h;clear hk g a l h m j
 by_cases hb:at_<0∨(8*s.size:Nat)<at_
 ·have j:=Qa (show RD T P (Qk s) at_=([],0,2)by
   unfold RD;rw[i.o,Qg rfl,Qg (by rw[n.o];omega)])
  by_cases p:at_<0
  ·have g1:decide (at_<0)=true:=Xs p;clear hb;go_enter func182,Mf;go_wp2_with fail;refine c.mono ?_;rintro m t⟨rfl,a⟩;have g:=Qa (k.o.trans a<|by simp);clear a c
   go_wp2
   go_ret3
   rw[j.o];exact Z0.err (by rfl) g.o
  have g1:decide (at_<0)=false:=Xz p;have e:decide (8*(s.size:Int)<at_)=true:=by simp;omega
  clear hb;go_enter func182,Mf;go_wp2_with fail;refine c.mono ?_;rintro m t⟨rfl,a⟩;have g:=Qa (k.o.trans a<|by simp);clear a c
  go_wp2
  go_ret3
  rw[j.o];exact Z0.err (by rfl) g.o
 obtain⟨f,rfl⟩:=X7 (by omega:0≤at_);have y:f≤8*s.size:=by omega
 have g1:decide ((f:Int)<0)=false:=by simp
 have e:decide (8*(s.size:Int)<f)=false:=by simp;omega
 obtain⟨t0,h⟩:∃e,T[0]?=some e:=⟨_,Qj<|by omega⟩;have r:=Qa (by rw[List.getD,h];rfl:T.getD 0 []=t0);have:=o.o.rl t0<|QA h;have:=(u.o t0<|QA h).2.1;have⟨j,r⟩:=qb (by unfold RD;rw[i.o,Qg rfl,Qf (by rw[n.o];omega),r.o,Zs]:RD T P (Qk s) (f:Int)=Ai T (Qk s) ((t0.length:Int)-1) P [] f) h;have:(0:Int)<T.length:=by omega
 clear h hb;go_enter func182,Mf;go_wp2_with fail;refine c.mono ?_;rintro m t⟨rfl,a⟩;have⟨g,u,i⟩:=qc (k.o.trans a<|by simp) (q.o.kept a<|by simp)<|o.o.kept a;clear a c b0 v q o k;obtain⟨v,B,a,a,rfl,a,-,-⟩:=i.o.tabs.int r.o;rw[Jb]at a;obtain⟨h,k,rfl,-⟩:=i.o.picks.at (by rw[Xk];omega);have c0:=u.o.cell (i:=0) (u:=.slice (some ⟨v,B,none⟩) T.length d) rfl;have c1:=u.o.cell (i:=1) (u:=.slice (some ⟨h,k,none⟩) P.length b) rfl;go_wp2_with fail;clear c0 c1 a;have⟨h,a⟩:=qx<|Ai T (Qk s) ((t0.length:Int)-1) P [] f;have⟨k,z⟩:=qb a.symm<|j.o.trans a;clear a j
 go_loopg [10,2,37] P.length (fun a j v2 b wr=>mZ t T P (Qk s) ((t0.length:Int)-1) h a j v2 b wr)
 ·exact⟨0,f,[],none,0,by omega,by omega,rfl,rfl,by rwa[n.o],rfl,by simp,by simpa using k,Qa<|Qh.nil _ _,Qa<|Qc _ _,Qa<|by simp[Qs,fZ]⟩
 clear k;obtain⟨f,n,b,ao,o,hk,hi,rfl,rfl,a,rfl,a,k,A,j,C⟩:=hrel;have Y:=Qa hk;clear hk
 by_cases hlt:f<P.length
 ·have:(f:Int)<P.length:=by omega
  have⟨a,r⟩:=qy P f hlt;obtain⟨y,q⟩:=x.o a<|QA r;obtain⟨a,rfl⟩:=X7 y;have⟨e,q⟩:=qy T a (by omega);have G:=(i.o.kept j.o).picks.int r;obtain⟨x,x,E,F,D,M,x,-⟩:=(i.o.kept j.o).tabs.int q;cases D;have O:=(u.o.kept j.o<|by simp).cell (i:=0) (u:=.slice (some ⟨v,B,none⟩) T.length d) rfl;have:=i.o.rl e<|QA q;have⟨D,B,u⟩:=qc r q x;clear r q x y;go_wp2_with fail;have⟨d,i⟩:=qx<|JP e (Qk s) (n:Int) 50<|(t0.length:Int)-1;have c:=rE E F e s (n:Int) 50 ((t0.length:Int)-1) wr u.o (by omega) hs (.inr<|by omega);have r:=rB e (Qk s) n<|(t0.length:Int)-1;have q:=rA e (Qk s) n<|(t0.length:Int)-1;have v:Ai T (Qk s) ((t0.length:Int)-1) (P.drop f) b n=if d.2.2≠0 then([],0,d.2.2)else if((d.1.getD (d.1.length-1) 0:Nat):Int)=(t0.length:Int)-1 then(b++d.1,d.2.1,0)else Ai T (Qk s) ((t0.length:Int)-1) (P.drop<|f+1) (b++d.1) d.2.1:=by obtain⟨n,u⟩:=Qz.1 D.o;rw[Z8 n,u,Ai,Zs,show T.getD a []=e by rw[List.getD,B.o];rfl];simp only[i]
  rw[i]at c r q;have u:=Qa v;clear v i;obtain⟨a,H,B⟩:=d;refine c.mono ?_;rintro m L⟨a5,U,rfl,n,i,e⟩;simp only at n e r q;have x:=Qa<|k.o.trans u.o;have y:=Qa (j.o.trans i<|by simp);have J:=Qa (A.o.kept i<|by simp);have:=Qa e;have D:=Qa n;have I:=Qa (show Qq (fZ a5) (Qd<|.slice ao b.length o)by
   intro v E d;have p:=e v E;have F:=A.o.lt v d;omega)
  clear n i e c u k A j G M O
  by_cases A:B=0
  ·subst A;have Z:=r rfl;obtain⟨c,c⟩:=q rfl;obtain⟨c,d⟩:∃c,a.length=c+1:=⟨a.length-1,by omega⟩;have⟨n,hz⟩:=qy a c (by omega);have O:=Qa (by rw[d,UE,List.getD,hz];rfl:a.getD (a.length-1) 0=n);have i:∀e∈Qi a,e.oneCell'=true:=eK a;obtain⟨V,X,rfl,-⟩:=D.o.sZ.at (by rw[QF];omega);have G:=D.o.sZ;have e:(Qi b).length=b.length:=QF b;have M:=Qa i;have Q:=Qa hz;have u:=Qa G;have W:=J.o;have R:(Qi b).length+a.length≤maxLen:=(by rw[e];simp only[maxLen];omega);have S:((Qi b).length+a.length)*8≤140737488355328:=(by rw[e];omega);have:=Qa d;obtain⟨_,_⟩:(a.length:Int)-1=(c:Int)∧c<a.length:=(by omega);clear hz i G r q d;have J:=Qa (show ∀(c:OA)(d:Nat)(i:WD),Qh i 3 (.slice c ((Qi b).length+a.length) d) (Qi b++Qi a)→Qb (Qd<|.slice ao b.length o) L i→
    QP L.heap.size (Qd<|.slice ao b.length o) (Qd<|.slice c ((Qi b).length+a.length) d)→
    Qh i 3 (.slice c (b++a).length d) (Qi<|b++a)∧Qb [] t i∧Qs t.heap.size (Qd<|.slice c ((Qi b).length+a.length) d)from by
    intro c d i p F D;have m:Qi b++Qi a=Qi (b++a):=(by simp[Qi]);have t:(Qi b).length+a.length=(b++a).length:=(by rw[e,Qo]);refine⟨by rwa[←m,←t],y.o.new F (by rw[XK];exact C.o),?_⟩;exact Qs.grow (by rw[XK];exact C.o) D y.o.size)
   have L:=Qa e;clear e
   by_cases m:(n:Int)=t0.length-1
   ·have h1:((n:Int)==(t0.length:Int)-1)=true:=(by simp[m]);have e:=Qa (by rw[x.o,Qf<|by simp,Qg<|by rwa[O.o]]:h=(b++a,H,0));clear m;go_wp2_with ((at_builtin;refine CI rfl _ _ 51 rfl 3 (0:Int) 8 XC XJ rfl (.slice ao b.length o) (Qi b) (Qi a) (some ⟨V,X,none⟩) a.length U rfl rfl M.o W u.o (fun l=>by cases l) R S ?_;intro c d i D p C;have k0:=(u.o.kept p I.o).natD Q.o))
    go_ret3
    obtain⟨F,G,t⟩:=J.o _ _ _ D p C;rw[z.o,e.o];exact Z0.ok2 (Qo ..) (by rw[←L.o];rfl) F (g.o.trans G<|by simp) (fun v E=>QS g.o.size<|t v<|by simpa[XK]using E)
   have h1:((n:Int)==(t0.length:Int)-1)=false:=(by simp[m]);have e:=Qa (by rw[x.o,Qf<|by simp,Qf<|by rwa[O.o]]:h=Ai T (Qk s) ((t0.length:Int)-1) (P.drop<|f+1) (b++a) H);clear m;go_wp2_with ((at_builtin;refine CI rfl _ _ 51 rfl 3 (0:Int) 8 XC XJ rfl (.slice ao b.length o) (Qi b) (Qi a) (some ⟨V,X,none⟩) a.length U rfl rfl M.o W u.o (fun l=>by cases l) R S ?_;intro c d i D p C;have k0:=(u.o.kept p I.o).natD Q.o))
   go_roundg (P.length-(f+1))
   ·obtain⟨F,G,t⟩:=J.o _ _ _ D p C;exact⟨f+1,H,b++a,c,d,rfl,by omega,by simp,rfl,Z,by rw[Qo,L.o],by rw[Qo];omega,e,Qa F,Qa G,Qa<|by rwa[XK]at t⟩
   have:=Y.o;omega
  have g3:((B:Int) != 0)=true:=VO.2 (by omega);have e:=Qa (by rw[x.o,Qg A]:h=([],0,B));clear r q A
  go_wp2
  go_ret3
  rw[z.o,e.o];exact Z0.err (by rfl) (g.o.trans y.o<|by simp)
 obtain rfl:f=P.length:=by omega
 have:¬(P.length:Int)<P.length:=by omega
 have e:=Qa (by rw[k.o,JI<|Ql _];rfl:h=([],0,110))
 go_wp2
 go_ret3
 rw[z.o,e.o];exact Z0.err (by rfl) (g.o.trans j.o<|by simp)


namespace K
def N(f:Nat→Nat):Nat→Nat→Nat
 |0,_=>0
 |m+1,i=>N f m i*256+f (i+m)
def DU(f m i):∀k,N f (m+k) i=N f m i*256^k+N f k (i+m):=by
 intro k
 induction k with
 |zero=>simp[N]
 |succ k ih=>rw[show m+(k+1)=(m+k)+1 by omega,N,ih,N,J5,V8,GX,Ja i m k];omega
def CR(f)(hf:∀i,f i<256)(m i):N f m i<256^m:=by
 induction m with
 |zero=>simp[N]
 |succ m ih=>rw[N,J5];have:=hf<|i+m;have:(N f m i+1)*256≤256^m*256:=AA _ ih;omega
def Fi(f n)(hp:∀i,f (i%n)=f i)(m i):N f m (i%n)=N f m i:=by
 induction m with
 |zero=>rfl
 |succ m ih=>rw[N,N,ih,←hp (i%n+m),Nat.mod_add_mod,hp]
def GU(f i):N f 1 i=f i:=by simp[N]
def FW{A b C D a:Nat}(c:b<a)(c:D<a):A*a+b<C*a+D↔A<C∨(A=C∧b<D):=by
 rcases BZ A C with b|b|b
 ·have c:(A+1)*a≤C*a:=AA _ b;rw[V8,Nat.one_mul]at c;constructor
  ·intro _;exact .inl b
  intro _;omega
 ·subst b;constructor
  ·intro _;exact .inr ⟨rfl,by omega⟩
  intro _;omega
 have c:(C+1)*a≤A*a:=AA _ b;rw[V8,Nat.one_mul]at c;constructor
 ·intro _;omega
 intro _;omega
def Xl(a:LN)(i:Nat):Nat:=a.getD i 0
def XZ(n:Nat)(b:LN)(a i:Nat):Nat:=b.getD ((i+a)%n) 0
def Cq(n:Nat)(a:LN)(b i j:Nat):Prop:=Xl a i<Xl a j∨(Xl a i=Xl a j∧XZ n a b i<XZ n a b j)
def Ac(n:Nat)(a:LN)(b i j:Nat):Int:=
 if Xl a i≠Xl a j then(Xl a i:Int)-(Xl a j:Int)
 else if XZ n a b i≠XZ n a b j then(XZ n a b i:Int)-(XZ n a b j:Int)
 else(i:Int)-(j:Int)
def Wj(n b a i j):Ac n b a i j<0↔Cq n b a i j∨(¬Cq n b a j i∧i<j):=by
 unfold Ac Cq
 split
 ·omega
 split
 ·omega
 omega
def He(n:Nat)(f:Nat→Nat)(c:LN)(m:Nat):Prop:=∀a b,a<n→b<n→(Xl c a<Xl c b↔N f m a<N f m b)
def DI(n:Nat)(f:Nat→Nat)(d:LN)(c m:Nat):Prop:=∀a b,a<n→b<n→(Cq n d c a b↔N f m a<N f m b)
def Qaf(n f)(hf:∀i,f i<256)(hp:∀i,f (i%n)=f i)(b m)(a:He n f b m):DI n f b m (m+m):=by
 intro i c hi b;have e:0<n:=by omega
 rw[DU,DU,FW (CR f hf m _)<|CR f hf m _];have d:=a i c hi b;have g:=a c i b hi;have b:=a ((i+m)%n) ((c+m)%n) (JL _ e)<|JL _ e;rw[Fi f n hp,Fi f n hp]at b;unfold Cq XZ;unfold Xl at d g b ⊢;constructor
 ·rintro(a|⟨a,c⟩)
  ·exact .inl<|d.1 a
  exact .inr ⟨by omega,b.1 c⟩
 rintro(a|⟨a,c⟩)
 ·exact .inl<|d.2 a
 exact .inr ⟨by omega,b.2 c⟩
def Qae(n f a)(b:He n f a 1):DI n f a 0 1:=by intro c d hi a;have:=b c d hi a;unfold Cq XZ;unfold Xl at this ⊢;rw[Jb,Jb,XP hi,XP a];omega
def Vg(f:Nat→Nat)(m i j:Nat):Prop:=N f m i<N f m j∨(N f m i=N f m j∧i<j)
def tP(n f d a m)(b:DI n f d a m)(i j)(hi:i<n)(c:j<n):Ac n d a i j<0↔Vg f m i j:=by rw[Wj,b i j hi c,b j i c hi];unfold Vg;omega
structure Ordered(n:Nat)(f:Nat→Nat)(m:Nat)(L:LN):Prop where
 perm:L.Perm (List.range n)
 asc:L.Pairwise (Vg f m)
def Ordered.one{n f m L a}(b:Ordered n f m L)(c:Ordered n f m a):L=a:=
 GI (fun a a _ _ a d=>by unfold Vg at a d;omega) b.asc c.asc (b.perm.trans c.perm.symm)
def Ordered.len{n f m L}(a:Ordered n f m L):L.length=n:=by rw[a.perm.length_eq,Vl]
def Ordered.lt{n f m L}(a:Ordered n f m L):∀x∈L,x<n:=fun x b=>ZL.1<|a.perm.mem_iff.1 b
def Ordered.nodup{n f m L}(a:Ordered n f m L):L.Nodup:=a.perm.nodup_iff.2 CO
def Sg(f n)(hf:∀i,f i<256)(hp:∀i,f (i%n)=f i)(h0:0<n)(m i j)(c:n≤m):N f m i<N f m j↔N f n i<N f n j:=by
 have same:∀b,N f b i=N f b j→∀a,a<b→f (i+a)=f (j+a):=by
  intro b
  induction b with
  |zero=>intro _ a e;omega
  |succ b ih=>
   intro d a e;rw[N,N]at d;have:=hf<|i+b;have:=hf<|j+b;rcases Xq a b with c|c
   ·exact ih (by omega) a c
   obtain rfl:a=b:=(by omega);omega
 obtain⟨d,rfl⟩:∃d,m=n+d:=⟨m-n,by omega⟩;rw[DU,DU,FW (CR f hf d _)<|CR f hf d _];constructor
 ·rintro(c|⟨c,h⟩)
  ·exact c
  exfalso;have hs:=same n c;have e:∀a,f (i+a)=f (j+a):=by intro a;have d:=hp<|i+a%n;have g:=hp<|j+a%n;have k:(i+a%n)%n=(i+a)%n:=(by rw[Nat.add_mod,Nat.mod_mod,←Nat.add_mod]);have l:(j+a%n)%n=(j+a)%n:=(by rw[Nat.add_mod,Nat.mod_mod,←Nat.add_mod]);have:=hs (a%n)<|JL _ h0;rw[←hp (i+a),←k,d,this,←g,l,hp]
  have a:∀b,N f b (i+n)=N f b (j+n):=by
   intro b
   induction b with
   |zero=>rfl
   |succ b ih=>rw[N,N,ih,Ja,Ja,e]
  rw[a]at h;omega
 intro c;exact .inl c
end K
namespace K
def BB(n:Nat)(a:LN)(b i j:Nat):Prop:=Xl a i≠Xl a j∨XZ n a b i≠XZ n a b j
instance (n:Nat) (rank:LN) (by_ i j:Nat):Decidable (BB n rank by_ i j):=by unfold BB;infer_instance
instance (f:Nat→Nat) (m i j:Nat):Decidable (Vg f m i j):=by unfold Vg;infer_instance
def Aq(n:Nat)(b:LN)(a i j:Nat):Nat:=if BB n b a i j then 1 else 0
def XX(n:Nat)(b:LN)(a:Nat)(L:LN):Nat→LN
 |0=>List.replicate n 0
 |k+1=>(XX n b a L k).set (L.getD (k+1) 0) ((XX n b a L k).getD (L.getD k 0) 0+Aq n b a (L.getD k 0) (L.getD (k+1) 0))
def Mq(n b a L k):(XX n b a L k).length=n:=by
 induction k with
 |zero=>simp[XX]
 |succ k ih=>rw[XX,Jo,ih]
def Tq(n c a L k):∀x∈XX n c a L k,x≤k:=by
 induction k with
 |zero=>intro x b;simp[XX]at b;omega
 |succ k ih=>
  intro x b;rw[XX]at b;rcases DP b with b|b
  ·have:=ih x b;omega
  have:(XX n c a L k).getD (L.getD k 0) 0≤k:=by
   rw[List.getD];cases hg:(XX n c a L k)[L.getD k 0]? with
   |none=>simp
   |some y=>exact ih y<|QA hg
  have:Aq n c a (L.getD k 0) (L.getD (k+1) 0)≤1:=by unfold Aq;split<;>omega
  omega
def Rz(n:Nat)(b:LN)(a:Nat)(L:LN):Nat→Nat
 |0=>0
 |k+1=>Rz n b a L k+Aq n b a (L.getD k 0) (L.getD (k+1) 0)
def Qcf{L:LN}(a:L.Nodup)(i j)(hi:i<L.length)(c:j<L.length)(b:L.getD i 0=L.getD j 0):i=j:=by
 rw[List.getD,List.getD,Qj hi,Qj c]at b;have b:L[i]=L[j]:=b;have hp:=Jp.1<|show L.Pairwise (· ≠ ·)from a;rcases BZ i j with a|a|a
 ·exact absurd b<|hp i j hi c a
 ·exact a
 exact absurd b.symm<|hp j i c hi a
def FN{L:LN}{n}(a:∀x∈L,x<n)(i)(hi:i<L.length):L.getD i 0<n:=by rw[List.getD,Qj hi];exact a _<|XV hi
def Tp(n q o L)(hL:L.length=n)(hlt:∀x∈L,x<n)(h1:L.Nodup)(k)(hk:k<n):∀j,j≤k→(XX n q o L k).getD (L.getD j 0) 0=Rz n q o L j:=by
 induction k with
 |zero=>
  intro j hj;obtain rfl:j=0:=by omega
  rw[XX,Rz,List.getD,V4]
  split<;>rfl
 |succ k ih=>
  intro j hj;rw[XX,List.getD,YO];have hl:L.getD (k+1) 0<(XX n q o L k).length:=by rw[Mq];exact FN hlt _ (by omega)
  by_cases y:j=k+1
  ·subst y;rw[Qg rfl,Qg hl,Rz,ih (by omega) k<|Ql _];rfl
  rw[Qf fun h=>y (Qcf h1 _ _ (by omega) (by omega) h).symm];exact ih (by omega) j (by omega)
def qV(n f d c m)(e:DI n f d c m)(L)(g:Ordered n f m L):He n f (XX n d c L<|n-1) m:=by
 have l:=g.len;have hlt:=g.lt;have p:=g.nodup;have Xu:∀a,a+1<n→N f m (L.getD a 0)≤N f m (L.getD (a+1) 0)∧Aq n d c (L.getD a 0) (L.getD (a+1) 0)=if N f m (L.getD a 0)<N f m (L.getD (a+1) 0)then 1 else 0:=by
  intro a hk;have h:Vg f m (L.getD a 0) (L.getD (a+1) 0):=by have:=(Jp.1 g.asc) a (a+1) (by omega) (by omega) (by omega);rw[List.getD,List.getD,Qj<|by omega,Qj<|by omega];exact this
  have b:=e (L.getD a 0) (L.getD (a+1) 0) (FN hlt _<|by omega) (FN hlt _<|by omega);have a2:=e (L.getD (a+1) 0) (L.getD a 0) (FN hlt _<|by omega) (FN hlt _<|by omega);unfold Vg at h;unfold Cq at b a2;refine⟨by omega,?_⟩;unfold Aq
  by_cases b:BB n d c (L.getD a 0) (L.getD (a+1) 0)
  ·rw[Qg b];unfold BB at b;rw[Qg<|by omega]
  rw[Qf b];unfold BB at b;rw[Qf<|by omega]
 have o:∀a,a<n→∀b,b≤a→Rz n d c L b≤Rz n d c L a∧N f m (L.getD b 0)≤N f m (L.getD a 0)∧(Rz n d c L b=Rz n d c L a↔N f m (L.getD b 0)=N f m (L.getD a 0)):=by
  intro a
  induction a with
  |zero=>intro _ b j;obtain rfl:b=0:=by omega
         exact⟨Ql _,Ql _,by simp⟩
  |succ a ih=>
   intro hk b j
   by_cases i:b=a+1
   ·subst i;exact⟨Ql _,Ql _,by simp⟩
   have h:=ih (by omega) b (by omega);have h:=Xu a hk;rw[Rz,h.2]
   split<;>omega
 intro h b hi j;have k:∀h,h<n→∃a,a<n∧L.getD a 0=h:=by intro h hi;obtain⟨a,hk,i⟩:=PX.1<|g.perm.mem_iff.2<|ZL.2 hi;exact⟨a,by omega,by rwa[List.getD,Qj hk]⟩
 obtain⟨a,hk,rfl⟩:=k h hi;obtain⟨g,h,rfl⟩:=k b j;unfold Xl;rw[Tp n d c L l hlt p (n-1) (by omega) a<|by omega,Tp n d c L l hlt p (n-1) (by omega) g<|by omega];rcases Nat.le_total a g with e|e
 ·have:=o g h a e;omega
 have:=o a hk g e;omega
def fS(s:LU)(i:Nat):Nat:=(s.getD (i%s.length) 0).toNat
def FK(s i):fS s i<256:=by unfold fS;exact VM _
def IM(s i):fS s (i%s.length)=fS s i:=by unfold fS;rw[Nat.mod_mod]
def Ya(s:LU):LN:=s.map UInt8.toNat
def wL(s):He s.length (fS s) (Ya s) 1:=by intro a a hi a;rw[GU,GU];unfold Xl Ya fS;rw[XP hi,XP a,List.getD,List.getD,List.getD,List.getD,ZD,ZD,Qj hi,Qj a];rfl
def Ordered.more{s m L}(h0:0<s.length)(c:s.length≤m)(a:Ordered s.length (fS s) m L):Ordered s.length (fS s) s.length L:=by refine⟨a.perm,a.asc.imp ?_⟩;intro a b d;have:=Sg (fS s) s.length (FK s) (IM s) h0 m a b c;have:=Sg (fS s) s.length (FK s) (IM s) h0 m b a c;unfold Vg at d ⊢;omega
end K
def Qp.natC{w}{b off n i x:Nat}{xs}(a:Qp w 1 (some ⟨b,off,none⟩) n (Qi xs))(c:xs[i]?=some x):w.cell? ⟨b,off+i,none⟩=some (.int .i64 (x:Int)):=by rw[Cs]at a;exact a.int (by rw[ZD,c];rfl)
def Jj(a:OA)(n c b:Nat):VL:=.agg #[.slice a n c,(b:Int)]
def key_ok(d f n c a i b w)(h:Qp w 1 (some ⟨d,f,none⟩) n (Qi b))(g:b.length=n)(g:n≤1000000000)(hi:i<n)(g:a≤1000000000000):
 Calls prog 246 #[Jj (some ⟨d,f,none⟩) n c a,i] w fun e w'=>e=.returned (.tuple #[(Xl b i:Nat),(XZ n b a i:Nat)])∧Qb [] w w':=by
 have g:Qb [] w (w.alloc<|.cells #[.slice (some ⟨d,f,none⟩) n c,(a:Int)] 333):=(Qc _ _).alloc _;have j:=Xf w<|.cells #[.slice (some ⟨d,f,none⟩) n c,(a:Int)] 333;have b0:(w.alloc<|.cells #[.slice (some ⟨d,f,none⟩) n c,(a:Int)] 333).cell? w=_:=Zu _ w.heap.size 0 _ _ _ j;have k:(w.alloc<|.cells #[.slice (some ⟨d,f,none⟩) n c,(a:Int)] 333).cell? ⟨w.heap.size,1,none⟩=_:=Zu _ w.heap.size 1 _ _ _ j;simp at b0 k;have⟨d,f⟩:=qx<|(i+a)%n;have:d<n:=by rw[←f];exact JL _ (by omega)
 have k:b[i]?=some (Xl b i):=by unfold Xl;rw[List.getD,Qj<|by omega];rfl
 have l:b[d]?=some (XZ n b a i):=by unfold XZ;rw[f,List.getD,Qj<|by omega];rfl
 have c1:=(h.kZ g).natC k;have c2:=(h.kZ g).natC l;generalize Xl b i=x1 at*
 generalize XZ n b a i=x2 at*
 have hw:IntKind.i64.wrap ((i:Int)+a)=(i:Int)+a:=Q3 _ (by omega);have:((i:Int)+a).tmod (n:Int)=d:=by rw[BU<|by omega,←f];norm_cast
 obtain⟨_,_,_⟩: ¬(n:Int)=0∧(i:Int)<n∧(d:Int)<n:=by omega
 unfold Jj;have a:=Qa g;go_enter func246,ntmps246;go_wp2_with fail;go_quiet (fail)
 go_wp2
 go_ret2;exact⟨rfl,a.o.drewN _⟩
def uP(d f n c b i j a w)(r:Qp w 1 (some ⟨d,f,none⟩) n (Qi a))(m:a.length=n)(u:∀x∈a,x<1000000000)(t:n≤1000000000)(hi:i<n)(B:j<n)(s:b≤1000000000000):
 Calls prog 248 #[Jj (some ⟨d,f,none⟩) n c b,i,j] w fun e w'=>e=.returned (.int .i64<|Ac n a b i j)∧Qb [] w w':=by
 have l:Qb [] w (w.alloc<|.cells #[.slice (some ⟨d,f,none⟩) n c,(b:Int)] 333):=(Qc _ _).alloc _;have k:=Xf w<|.cells #[.slice (some ⟨d,f,none⟩) n c,(b:Int)] 333;have⟨A,v,o⟩:=qc k l<|r.kZ l;have hb:∀g h,Xl a g<1000000000∧XZ n a h g<1000000000:=by
  have:∀g,a.getD g 0<1000000000:=by
   intro g;rw[List.getD];cases hg:a[g]? with
   |none=>simp
   |some y=>exact u y<|QA hg
  intro g h;exact⟨this _,this _⟩
 have:=hb i b;have:=hb j b;have b0:(w.alloc<|.cells #[.slice (some ⟨d,f,none⟩) n c,(b:Int)] 333).cell? w=_:=Zu _ w.heap.size 0 _ _ _ k;have h:(w.alloc<|.cells #[.slice (some ⟨d,f,none⟩) n c,(b:Int)] 333).cell? ⟨w.heap.size,1,none⟩=_:=Zu _ w.heap.size 1 _ _ _ k;simp at b0 h;unfold Jj;go_enter func248,ntmps248;go_wp2_with fail;have g:=key_ok d f n c b i a _ o.o m t hi s;unfold Jj at g;refine g.mono ?_;rintro e r⟨rfl,k⟩;have⟨z,v⟩:=qb (v.o.new k<|by simp[Qs])<|o.o.kZ k;have l:=k.heap A.o (by simp);have b0:r.cell? w=_:=Zu _ w.heap.size 0 _ _ _ l;have h:r.cell? ⟨w.heap.size,1,none⟩=_:=Zu _ w.heap.size 1 _ _ _ l;simp at b0 h;go_wp2_with fail;have g:=key_ok d f n c b j a _ v.o m t B s;unfold Jj at g;refine g.mono ?_;rintro e d⟨rfl,f⟩;have k:=Qa (z.o.new f<|by simp[Qs]);have⟨l,d⟩:=qx<|Ac n a b i j;have l:=Qa d;unfold Ac at d;generalize Xl a i=p at*
 generalize Xl a j=p' at*
 generalize XZ n a b i=q at*
 generalize XZ n a b j=q' at*
 have:IntKind.i64.wrap ((p:Int)-p')=(p:Int)-p':=Q3 _ (by omega);have v2:IntKind.i64.wrap ((q:Int)-q')=(q:Int)-q':=Q3 _ (by omega);have v3:IntKind.i64.wrap ((i:Int)-j)=(i:Int)-j:=Q3 _ (by omega)
 by_cases a:p=p'
 ·have g1:((p:Int) != (p':Int))=false:=by simp[a]
  rw[Qf<|by simp[a]]at d
  by_cases f:q=q'
  ·have g:((q:Int) != (q':Int))=false:=(by simp[f]);rw[Qf<|by simp[f]]at d;have b:=Qa d
   go_wp2
   go_ret;exact⟨by rw[l.o,←b.o];rfl,k.o⟩
  have g:((q:Int) != (q':Int))=true:=VO.2 (by omega);rw[Qg f]at d;have b:=Qa d
  go_wp2
  go_ret;exact⟨by rw[l.o,←b.o];rfl,k.o⟩
 have g1:((p:Int) != (p':Int))=true:=VO.2 (by omega);rw[Qg a]at d;have b:=Qa d
 go_wp2
 go_ret;exact⟨by rw[l.o,←b.o];rfl,k.o⟩
section
open Go.Sort
def Xy(a:OA)(n c b:Nat):VL:=.func (.func 248) #[Jj a n c b] #[]
def Qt(n:Nat)(b:LN)(a:Nat)(i j:Nat):Bool:=decide (Ac n b a i j<0)
def cX(n a b i j):Qt n a b i j=true↔Xl a i<Xl a j∨(Xl a i=Xl a j∧(XZ n a b i<XZ n a b j∨(XZ n a b i=XZ n a b j∧i<j))):=by unfold Qt;rw[decide_eq_true_iff,Wj];unfold Cq;omega
def cY(n a b i j):Qt n a b i j=false↔¬(Xl a i<Xl a j∨(Xl a i=Xl a j∧(XZ n a b i<XZ n a b j∨(XZ n a b i=XZ n a b j∧i<j)))):=by rw[←cX];simp
def EK(n b a):SWO (Qt n b a) where
 irrefl x:=by rw[cY];omega
 trans x y z h1 h2:=by rw[cX]at*;omega
 ntrans x y z h1 h2:=by rw[cY]at*;omega
structure Qw(w0:WD)(g c n:Nat)(d:Array Nat)(w:WD):Prop where
 row:Qh w 3 (.slice g n c) (Qi d.toList)
 size:d.size=n
 lt:∀i,i<n→d[i]!<n
 kept:Qb [g] w0 w
def rK(d:Array Nat)(i)(hi:i<d.size):d.toList[i]?=some d[i]!:=by rw[Array.getElem?_toList,RP hi,getElem!_pos d i hi]
def Qw.cell{w0 w g c n d}(a:Qw w0 g c n d w)(i)(hi:i<n):w.cell? ⟨g,i,none⟩=some (.int .i64 (d[i]!:Nat)):=
 a.row.aZ (UP _ _ _<|rK d i<|by rwa[a.size])
def Qw.kZ{w0 w w' g c n d}(a:Qw w0 g c n d w)(hk:Qb [] w w'):Qw w0 g c n d w':=
 ⟨a.row.kept hk<|by simp,a.size,a.lt,a.kept.trans hk<|by simp⟩
def Qw.drew{w0 w g c n d}(a:Qw w0 g c n d w):Qw w0 g c n d w.drew:=⟨a.row.drew,a.size,a.lt,a.kept.drew⟩
def jY(d:Array Nat)(i j):(swp d i j).toList=(d.toList.set i d[j]!).set j d[i]!:=by simp[swp]
def jZ{d n}(hs:d.size=n)(a:∀i,i<n→d[i]!<n)(i j)(hi:i<n)(b:j<n):∀k,k<n→(swp d i j)[k]!<n:=by
 intro k hk;rw[swp_get d (by omega)<|by omega]
 split
 ·exact a i hi
 split
 ·exact a j b
 exact a k hk
def Qw.swap{w0 w g c n d}(a:Qw w0 g c n d w)(i j)(hi:i<n)(b:j<n):
 Qw w0 g c n (swp d i j) ((w.setCell ⟨g,i,none⟩ (d[j]!:Nat)).setCell ⟨g,j,none⟩ (d[i]!:Nat)):=by
 refine⟨?_,by rw[swp_size];exact a.size,jZ a.size a.lt i j hi b,(a.kept.setCell (p:=⟨g,i,none⟩) (.inl<|by simp) _).setCell (p:=⟨g,j,none⟩) (.inl<|by simp) _⟩;have:=(a.row.put i (d[j]!:Nat)).put j (d[i]!:Nat);rw[VU,VU]at this;rw[jY];exact this
def Qw.swap2{w0 w g c n d}(a:Qw w0 g c n d w)(i j)(b:i≠j)(hi:i<n)(e:j<n):
 Qw w0 g c n (swp d i j) ((w.setCell ⟨g,j,none⟩ (d[i]!:Nat)).setCell ⟨g,i,none⟩ (d[j]!:Nat)):=by
 refine⟨?_,by rw[swp_size];exact a.size,jZ a.size a.lt i j hi e,(a.kept.setCell (p:=⟨g,j,none⟩) (.inl<|by simp) _).setCell (p:=⟨g,i,none⟩) (.inl<|by simp) _⟩;have:=(a.row.put j (d[i]!:Nat)).put i (d[j]!:Nat);rw[VU,VU]at this;rw[jY,List.set_comm _ _ b];exact this
structure Jm(w0:WD)(g rb ro n by_:Nat)(rank:LN):Prop where
 sees:Qp w0 1 (some ⟨rb,ro,none⟩) n (Qi rank)
 len:rank.length=n
 small:∀x∈rank,x<1000000000
 n9:n≤1000000000
 by12:by_≤1000000000000
 ne:rb≠g
def Jm.call{w0 w g c n h k b f d}(a:Jm w0 g h k n b f)(m:Qw w0 g c n d w)(l i j)(hi:i<n)(o:j<n):
 Calls prog 248 #[Jj (some ⟨h,k,none⟩) n l b,i,j] w fun e w'=>e=.returned (.int .i64<|Ac n f b i j)∧Qb [] w w':=
 uP h k n l b i j f w (a.sees.kept m.kept (by intro b f b;simp[fZ]at f;simp at b;have:=a.ne;omega)) a.len a.small a.n9 hi o a.by12
def zM(w0 g c n h i F m o d a b w)(f:Jm w0 g h i n m o)(l:Qw w0 g c n d w)(j:a≤b)(hb:b≤n):
 Calls prog 294 #[.slice g n c,a,b,Xy (some ⟨h,i,none⟩) n F m] w fun e w'=>e=.returned (.tuple #[])∧Qw w0 g c n (insertionSort (Qt n o m) d a b) w':=by
 have⟨G,p⟩:=qb f l;have:=f.n9;have⟨j,h⟩:=qx<|insOuter (Qt n o m) a b (a+1) d;have k:insertionSort (Qt n o m) d a b=j:=h;rw[k];have i:=Qa h;unfold Xy;go_enter func294,ntmps294
 go_wp2
 go_loopg [8] (b-a) (fun l f wr=>∃(h:Nat)(k:Array Nat),f=.int .i64 h∧a<h∧h≤b+1∧l+h=b+1∧Hid (Qw w0 g c n k wr)∧Hid (insOuter (Qt n o m) a b h k=j))
 ·exact⟨a+1,d,by go_num,by omega,by omega,by omega,p,i⟩
 obtain⟨h,k,rfl,f,f,hk,B,L⟩:=hrel;have Q:=Qa hk
 by_cases hlt:h<b
 ·have:(h:Int)<b:=by omega
  go_wp2
  go_loopg [9] h (fun l p q=>∃(f:Nat)(i:Array Nat),p=.int .i64 f∧a≤f∧f≤h∧l=f∧Hid (Qw w0 g c n i q)∧Hid (insInner (Qt n o m) a f i=insInner (Qt n o m) a h k))
  ·exact⟨h,k,rfl,by omega,by omega,rfl,B,Qa rfl⟩
  obtain⟨f,i,rfl,k,k,k,l,J⟩:=hrel;have p:(f≤a∨Qt n o m i[f]! i[f-1]! =false)→insOuter (Qt n o m) a b (h+1) i=j:=fun hs=>by rw[←L.o,insOuter_go _ _ _ _ _ hlt,←J.o,insInner_stop _ _ _ _ hs]
  have⟨t,U⟩:=qb p k
  by_cases V:a<f
  ·have W:(a:Int)<f:=(by omega);obtain⟨k,C⟩:∃j,j+1=f:=⟨f-1,by omega⟩;have v:f-1=k:=(by omega);rw[v]at t;have c0:=l.o.cell f (by omega);have c1:=l.o.cell k (by omega);have y:=l.o.lt f (by omega);have z:=l.o.lt k (by omega);have⟨r,j⟩:=qx<|i[f]! ;have⟨s,p⟩:=qx<|i[k]! ;have x:=l.o;rw[j]at c0 y;rw[p]at c1 z;rw[j,p]at t;have:IntKind.i64.wrap ((f:Int)-1)=(k:Int):=(by rw[Q3 _<|by omega];omega);obtain⟨_,_⟩:(f:Int)<n∧(k:Int)<n:=(by omega);have⟨u,A⟩:=qx<|Ac n o m r s;have D:Qt n o m r s=decide (u<0):=(by unfold Qt;rw[A]);have⟨O,P,M,I,q,H⟩:=qf j p A D C v
   by_cases R:u<0
   ·have C:decide (u<0)=true:=Xs R;go_wp2_with fail
    go_region_held3 (fun w'=>Qw w0 g c n i w'∧w'.cell? ⟨g,f,none⟩=some (.int .i64 (r:Int))∧w'.cell? ⟨g,k,none⟩=some (.int .i64 (s:Int)))
     (first|exact⟨l.o,c0,c1⟩|exact⟨l.o.drew,c0,c1⟩|exact⟨p,j.cZ c0<|by simp,j.cZ c1<|by simp⟩)
     (first|(go_at_call 248;refine(G.o.call (Qw.drew l.o) F r s y z).mono ?_;rintro e A⟨v,j⟩;rw[M.o]at v;subst v;have j:Qb [] wr A:=(Qc [] wr).drew.trans j (by simp);have p:Qw w0 g c n i A:=l.o.kZ j))
    have:=j.cZ c0 (by simp);have:=j.cZ c1 (by simp);have:=p.row.free f;have:=p.row.free k;have D:¬f=k:=(by have:=q.o;omega);have:¬k=f:=(by have:=q.o;omega);have x:=p.swap f k (by have:=q.o;omega) (by have:=q.o;omega);have E:=p.swap2 f k D (by have:=q.o;omega) (by have:=q.o;omega);rw[O.o,P.o]at x E;have⟨S,T⟩:=qb x E;have D:=insInner_go (Qt n o m) a f i V (by rw[H.o,O.o,P.o,I.o];exact C);rw[H.o]at D;have m:=Qa D;go_wp2_with fail
    go_region
    all_goals
     go_wp2
     go_roundg k
     ·exact⟨k,_,by go_num,by have:=q.o;omega,by have:=q.o;omega,rfl,(by first|exact Qa (Qw.drew S.o)|exact Qa<|Qw.drew T.o),Qa<|m.o.symm.trans J.o⟩
     have:=U.o;have:=q.o;omega
   have C:decide (u<0)=false:=Xz R;go_wp2_with fail
   go_region_held3 (fun w'=>Qw w0 g c n i w'∧w'.cell? ⟨g,f,none⟩=some (.int .i64 (r:Int))∧w'.cell? ⟨g,k,none⟩=some (.int .i64 (s:Int)))
    (first|exact⟨l.o,c0,c1⟩|exact⟨l.o.drew,c0,c1⟩|exact⟨p,j.cZ c0<|by simp,j.cZ c1<|by simp⟩)
    (first|(go_at_call 248;refine(G.o.call (Qw.drew l.o) F r s y z).mono ?_;rintro e A⟨v,j⟩;rw[M.o]at v;subst v;have j:Qb [] wr A:=(Qc [] wr).drew.trans j (by simp);have p:Qw w0 g c n i A:=l.o.kZ j))
   have k:=t.o<|.inr (by rw[I.o];exact C);have⟨m,o⟩:=qb k p
   go_wp2
   go_roundg (b-h)
   ·exact⟨h+1,i,by go_num,by omega,by omega,by omega,o,m⟩
   have:=Q.o;omega
  have W:¬(a:Int)<f:=by omega
  have k:=t.o (.inl<|by omega);have m:=Qa k;go_wp2_with fail;go_quiet (fail)
  go_wp2
  go_roundg (b-h)
  ·exact⟨h+1,i,by go_num,by omega,by omega,by omega,Qa<|l.o.kZ<|(Qc _ _).drewN _,m⟩
  have:=Q.o;omega
 have:¬(h:Int)<b:=by omega
 have k:=L.o;rw[insOuter_stop _ _ _ _ _ hlt]at k;subst k
 go_wp2
 go_end0
 exact⟨rfl,B.o⟩
end
