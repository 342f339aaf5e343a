import Derived.Test.YtickjpnkoppmgaaGreatDoorAf
set_option linter.all false
set_option maxHeartbeats 1000000
set_option maxRecDepth 100000
namespace Go.Proofs.YtickjpnkoppmgaaGreatDoor
open Go.Proofs.Tryz Go.RowKit K
section
def JR(xs:LI):Int:=xs.foldl max 0
def NK(xs x):JR (xs++[x])=max (JR xs) x:=by simp[JR,DK]
def Kj(xs):0≤JR xs∧∀x∈xs,x≤JR xs:=by
 suffices a:∀b (xs:LI),xs.length=b→0≤JR xs∧∀x∈xs,x≤JR xs from a _ xs rfl
 intro b
 induction b with
 |zero=>intro xs a;rw[J3 a];simp[JR]
 |succ b ih=>
  intro xs a;have hne:xs≠[]:=by intro b;simp[b]at a
  have c:=GK hne;obtain⟨d,b⟩:=ih xs.dropLast (by simp[a]);rw[←c,NK];refine⟨by omega,fun x a=>?_⟩;rcases Q6.1 a with a|a
  ·have:=b x a;omega
  have:x=xs.getLast hne:=by simpa using a
  omega
def NJ(xs b)(hb:0≤b)(a:∀x∈xs,x≤b):JR xs≤b:=by
 suffices this:∀c (xs:LI),xs.length=c→(∀x∈xs,x≤b)→JR xs≤b from this _ xs rfl a
 intro c
 induction c with
 |zero=>intro xs a _;rw[J3 a];simpa[JR]using hb
 |succ c ih=>
  intro xs a d;have hne:xs≠[]:=by intro c;simp[c]at a
  have e:=GK hne;have:=ih xs.dropLast (by simp[a]) fun x a=>d x<|List.dropLast_subset _ a;have c:=d _<|List.getLast_mem hne;rw[←e,NK];omega
def nJ(w0:WD)(xs:LI)(k:Nat)(n c:VL)(w:WD):Prop:=
 ∃a,a≤xs.length∧k=xs.length-a∧c=.int .i64 (a:Nat)∧n=.int .i64 (JR (xs.take a))∧w0=w
def cV(a cap xs w)(h:Qp w 1 a xs.length (QM xs))(h1:xs.length≤140737488351232):
 Calls prog 285 #[.agg #[.slice a xs.length cap]] w fun e w'=>e=.returned (.int .i64<|JR xs)∧Qb [] w w':=by
 have HS:=Qa h;go_enter func285,ntmps285;go_wp2_with fail;have o:Qb [] w (w.alloc<|.cells #[.slice a xs.length cap] 368):=(Qc _ _).alloc _;generalize w.alloc (.cells #[.slice a xs.length cap] 368)=W0 at o ⊢;have HK:=Qa o
 go_loopg [3,9] xs.length (fun k n c wr=>nJ W0 xs k n c wr)
 ·exact⟨0,by omega,by omega,rfl,rfl,rfl⟩
 obtain⟨i,hi,hk,rfl,rfl,rfl⟩:=hrel;have Hk:=Qa hk
 by_cases hlt:i<xs.length
 ·have h2:(i:Int)<xs.length:=by omega
  have⟨x,y⟩:=qy xs i hlt;obtain⟨b0,off,rfl,-⟩:=HS.o.at (by rw[Xk];omega);have c0:=(HS.o.kZ HK.o).int y;have ex:xs.take (i+1)=xs.take i++[x]:=by rw[Zt,y];rfl
  have q:=NK (xs.take i) x;rw[←ex]at q;have HM:=Qa q;generalize JR (xs.take i)=M at HM ⊢;go_wp2_with fail
  all_goals
   go_roundg (xs.length-(i+1))
   ·exact⟨i+1,by omega,rfl,by go_num,by rw[HM.o];congr 1;omega,rfl⟩
   have:=Hk.o;omega
 obtain rfl:i=xs.length:=by omega
 have hR:=VG (l:=xs);have HR:=Qa hR
 go_wp2
 go_ret;exact⟨by rw[HR.o];rfl,HK.o⟩
def YE(c b:VL)(F a C:LN):LV:=c::b::(Qi F++(Qi a++Qi C))
def Px:LV:=.slice none 0 0::List.replicate 66 (.int .i64 0)
def qR(w):(zeroValue 371).run prog w=.ok (.agg (Value.slice none 0 0::Px).toArray) w:=
 (zero_of_info (P:=prog) (t:=371) (v:=.agg (Value.slice none 0 0::Px).toArray) (n:=68)<|by kernel_rfl).1 w
def z22:LN:=List.replicate 22 0
def Qhp(a):a::Px=YE a (.slice none 0 0) z22 z22 z22:=rfl
def UP(l)(i x:Nat)(a:l[i]?=some x):(Qi l)[i]?=some (.int .i64 (x:Int)):=by simp[Qi,a]
def VU(l)(i x:Nat):(Qi l).set i (x:Int)=Qi (l.set i x):=by simp[Qi,Bp]
section
variable {w:WD} {g:Nat} {t:TypeId} {ov dv:VL} {F B C:LN}
def QO.of(a:Qe w g t (YE ov dv F B C)):w.cell? g=some ov:=a.cell rfl
def QO.order(a:Qe w g t (YE ov dv F B C)):w.cell? ⟨g,1,none⟩=some dv:=a.cell rfl
def QO.first(a:Qe w g t (YE ov dv F B C))(i x:Nat)(hi:F[i]?=some x):w.cell? ⟨g,2+i,none⟩=some (.int .i64 (x:Int)):=by refine a.cell ?_;rw[show 2+i=i+1+1 by omega,YE,V3,V3,Xp (by rw[QF];exact(Qz.1 hi).1)];exact UP F i x hi
def QO.begin(a:Qe w g t (YE ov dv F B C))(b:F.length=22)(i x:Nat)(hi:B[i]?=some x):w.cell? ⟨g,24+i,none⟩=some (.int .i64 (x:Int)):=by
 refine a.cell ?_;rw[show 24+i=22+i+1+1 by omega,YE,V3,V3,Zx (by rw[QF];omega),QF,b,
  show 22+i-22=i by omega,Xp (by rw[QF];exact(Qz.1 hi).1)]
 exact UP B i x hi
def QO.count(a:Qe w g t (YE ov dv F B C))(c:F.length=22)(b:B.length=22)(i x:Nat)(hi:C[i]?=some x):w.cell? ⟨g,46+i,none⟩=some (.int .i64 (x:Int)):=by
 refine a.cell ?_;rw[show 46+i=44+i+1+1 by omega,YE,V3,V3,Zx (by rw[QF];omega),QF,c,
  Zx (by rw[QF];omega),QF,b,show 44+i-22-22=i by omega]
 exact UP C i x hi
def QO.setOrder(a:Qe w g t (YE ov dv F B C))(v):Qe (w.setCell ⟨g,1,none⟩ v) g t (YE ov v F B C):=a.set 1 v
def QO.setFirst(a:Qe w g t (YE ov dv F B C))(i x:Nat)(hi:i<F.length):Qe (w.setCell ⟨g,2+i,none⟩ (x:Int)) g t (YE ov dv (F.set i x) B C):=by have:=a.set (2+i) (x:Int);rw[show 2+i=i+1+1 by omega,YE,UD,UD,Lz _ _<|by rwa[QF],VU]at this;rw[show 2+i=i+1+1 by omega];exact this
def QO.setBegin(a:Qe w g t (YE ov dv F B C))(b:F.length=22)(i x:Nat)(hi:i<B.length):Qe (w.setCell ⟨g,24+i,none⟩ (x:Int)) g t (YE ov dv F (B.set i x) C):=by
 have:=a.set (24+i) (x:Int);rw[show 24+i=22+i+1+1 by omega,YE,UD,UD,VF _ _ (by rw[QF];omega),QF,b,
  show 22+i-22=i by omega,Lz _ _<|by rwa[QF],VU]at this
 rw[show 24+i=22+i+1+1 by omega];exact this
def QO.setCount(a:Qe w g t (YE ov dv F B C))(c:F.length=22)(b:B.length=22)(i x:Nat):Qe (w.setCell ⟨g,46+i,none⟩ (x:Int)) g t (YE ov dv F B<|C.set i x):=by
 have:=a.set (46+i) (x:Int);rw[show 46+i=44+i+1+1 by omega,YE,UD,UD,VF _ _ (by rw[QF];omega),QF,c,
  VF _ _ (by rw[QF];omega),QF,b,show 44+i-22-22=i by omega,VU]at this
 rw[show 46+i=44+i+1+1 by omega];exact this
end
end
def Bg(f:Nat→Nat)(n:Nat):LN:=(List.range 22).map fun a=>if 1≤a∧a<n then f a else 0
def J1(f n):(Bg f n).length=22:=by simp[Bg]
def Ro(f n j)(a:j<22):(Bg f n)[j]?=some (if 1≤j∧j<n then f j else 0):=by simp[Bg,Xa a]
def OW(f):Bg f 1=z22:=by
 apply Xo;intro b
 by_cases a:b<22
 ·rw[Ro f 1 b a,Qf<|by omega];unfold z22;rw[V4,Qg a]
 rw[QX (by rw[J1];omega),QX (by simp[z22];omega)]
def OX(f n)(a:1≤n)(c:n<22):(Bg f n).set n (f n)=Bg f (n+1):=by
 apply Xo;intro a;rw[YO]
 by_cases b:a<22
 ·rw[Ro f _ a b,Ro f _ a b,J1]
  by_cases b:n=a
  ·subst b;rw[Qg rfl,Qg c,Qg<|by omega]
  rw[Qf b]
  congr 1
  by_cases b:1≤a∧a<n
  ·rw[Qg b,Qg<|by omega]
  rw[Qf b,Qf<|by omega]
 rw[QX (by rw[J1];omega),QX (by rw[J1];omega),Qf<|by omega]
def RN(ls:LN)(n:Nat):LN:=Bg (Zq ls) n
def Bf(ls:LN)(n:Nat):LN:=Bg (fun a=>(ZJ ls a).length) n
def RL(ls:LN)(n:Nat):LN:=Bg (fun a=>ls.count a) n
def QO(w:WD)(g:Nat)(a:OA)(L cap:Nat)(ls:LN)(N:Nat)(b:VL):Prop:=
 Qe w g 371 (YE (.slice a L cap) b (RN ls N) (Bf ls N) (RL ls N))∧Qh w 3 b (Qi (ZJ ls N))∧g∉Qd b
def QO.kept{S w w' g a L cap ls N b}(c:QO w g a L cap ls N b)(hk:Qb S w w')(ha:Qq (g::Qd b) S):QO w' g a L cap ls N b:=
 ⟨c.1.kept hk<|ha g<|by simp,c.2.1.kept hk fun d b=>ha d<|by simp[b],c.2.2⟩
def QO.lt{w g a L cap ls N b}(c:QO w g a L cap ls N b):∀x∈g::Qd b,x<w.heap.size:=by
 intro x b;rcases QE.1 b with rfl|b
 ·exact c.1.lt
 exact c.2.1.lt x b
def nL(w0:WD)(g:Nat)(a:OA)(L cap:Nat)(ls:LN)(c:Nat)(k:Nat)(e f:VL)(w:WD):Prop:=
 ∃b d,1≤b∧b≤c+1∧k=c+1-b∧f=.int .i64 (b:Nat)∧e=.int .i64 (Zq ls (b-1)+ls.count (b-1):Nat)∧QO w g a L cap ls b d∧Qb [] w0 w∧Qs w0.heap.size (g::Qd d)
def nM(w0:WD)(g:Nat)(a:OA)(L cap:Nat)(ls:LN)(n:Nat)(k:Nat)(d e:VL)(w:WD):Prop:=
 ∃b c,b≤ls.length∧k=ls.length-b∧e=.int .i64 (b:Nat)∧d=.int .i64 (Zq ls n+(Yv ls n b).length:Nat)∧
  Qe w g 371 (YE (.slice a L cap) c (RN ls (n+1)) (Bf ls (n+1)) ((RL ls n).set n (Yv ls n b).length))∧
  Qh w 3 c (Qi (ZJ ls n++Yv ls n b))∧g∉Qd c∧Qb [] w0 w∧Qs w0.heap.size (g::Qd c)
def nN(a:OA)(L cap:Nat)(ls:LN)(d:Nat)(w:WD)(e:Ending)(w':WD):Prop:=
 ∃b c,e=.returned (.tuple #[.pointer (some ⟨b,0,none⟩),(0:Int)])∧QO w' b a L cap ls (d+1) c∧Qb [] w w'∧Qs w.heap.size (b::Qd c)
def Kt(ls N):(ZJ ls N).length≤N*ls.length:=by
 induction N with
 |zero=>simp[ZJ]
 |succ N ih=>rw[ZJ,Qo,No,CT];have:=GJ (a:=N) (l:=ls);omega
def dD(a cap xs w)(h:Qp w 1 a xs.length (QM xs))(h5:XA xs=true):
 Calls prog 255 #[.slice a xs.length cap] w (nN a xs.length cap (QD xs) (JR xs).toNat w):=by
 have y9:=((UN xs).1 (UL h5)).2;have hl:=((UN xs).1 (UL h5)).1;have q1:=(Kj xs).1;have hM:=NJ xs 20 (by decide) fun x q=>(y9 x q).2;obtain⟨M,q3⟩:=X7 q1;have hR:J7 xs=0:=by unfold J7;rw[h5];rfl
 obtain⟨b0,off,rfl,-⟩:=h.at (by rw[Xk];omega);have q6:=fun n hn=>K.fits (QD xs) (fun x q=>(Cl h5 x q).2) (FP h5) n hn
 have⟨HS,b2,y2,HM⟩:=qd h y9 q6 q3;have d5:M≤20:=by omega
 have hz:=qR;clear h y9 q1 q6 hM;go_enter func255,ntmps255;go_wp2_with fail;refine(Ei (some ⟨b0,off,none⟩) cap xs _ HS.o<|by omega).mono ?_;rintro e w'⟨rfl,rfl⟩;rw[hR];clear hR q3;go_wp2_with fail;rw[Qhp];have hA:=Qy w (YE (.slice (some ⟨b0,off,none⟩) xs.length cap) (.slice none 0 0) z22 z22 z22) 371;have z1:Qb [] w (w.alloc<|.cells (YE (.slice (some ⟨b0,off,none⟩) xs.length cap) (.slice none 0 0) z22 z22 z22).toArray 371):=(Qc _ _).alloc _;generalize w.alloc (.cells (YE (.slice (some ⟨b0,off,none⟩) xs.length cap) (.slice none 0 0) z22 z22 z22).toArray 371)=W0 at hA z1 ⊢;have q8:w.heap.size≤w.heap.size:=Ql _;generalize hg:w.heap.size=g at hA q8 ⊢;have⟨HG,HA,b3⟩:=qc hg hA z1;clear hz hg hA z1 q8;have⟨o,x4⟩:=qx<|QD xs;have r1:o.length=xs.length:=by rw[←x4,UQ]
 have a1:o.count 0=0:=by rw[List.count_eq_zero];intro h;rw[←x4]at h;have:=(Cl h5 0 h).1;omega
 have⟨p5,h3,p6⟩:=qc x4 r1 a1;rw[x4]at y2 ⊢;clear x4 r1 a1 h5
 go_loopg [6,7] M (fun k cv nv wr=>nL w g (some ⟨b0,off,none⟩) xs.length cap o M k cv nv wr)
 ·refine⟨1,.slice none 0 0,Ql _,by omega,by omega,rfl,by rw[show 1-1=0 from rfl,p6.o];rfl,⟨?_,?_,by simp[Qd,qo]⟩,b3.o,fun x q=>?_⟩
  ·unfold RN Bf RL;rw[OW,OW,OW];exact HA.o
  ·have:ZJ o 1=[]:=(by rw[ZJ,ZJ,Yy];exact J3 (by rw[No];exact p6.o));rw[this];exact Qh.nil _ _
  simp[Qd,qo]at q;rw[q,HG.o];exact Ql _
 obtain⟨n,dv,z7,hn,hk,rfl,rfl,p0,x3,x2⟩:=hrel;have⟨Hk,HT,p3,y3⟩:=qd hk p0 x3 x2;have c0:=QO.of p0.1;clear hk p0 x3 x2;go_wp2_with fail;refine(cV (some ⟨b0,off,none⟩) cap xs _ (HS.o.kZ p3.o)<|by omega).mono ?_;rintro e w2⟨rfl,z6⟩;have⟨y,p4⟩:=qb (HT.o.kept z6<|ZM _) (p3.o.new z6<|by simp[Qs]);rw[HM.o];clear z6 c0
 by_cases hlt:n≤M
 ·have c9:(n:Int)≤M:=by omega
  have q7:=y2.o (n-1) (by omega);have r5:2^(n-1)≤2^19:=Jc (by decide) (by omega);have x8:Zq o n=2*(Zq o (n-1)+o.count (n-1)):=by obtain⟨m,rfl⟩:∃m,n=m+1:=⟨n-1,by omega⟩;rw[UE,Zq]
  have c4:Zq o (n-1)+o.count (n-1)≤524288:=QS q7 r5;have⟨h1,q4⟩:=qx<|Zq o (n-1)+o.count (n-1);rw[q4]at x8 c4 ⊢;have a8:=Qa x8;have e4:IntKind.i64.wrap ((h1:Int)*2)=((2*h1:Nat):Int):=by rw[Q3 _<|by omega];omega
  obtain⟨av,cv,hv,-,-,-,-⟩:=y.o.2.1.sees;rw[QF]at hv;subst hv;have c1:=QO.order y.o.1;have cf:=QO.first y.o.1 n 0 (by unfold RN;rw[Ro _ _ _<|by omega,Qf<|by omega]);have cb:=QO.begin y.o.1 (J1 _ _) n 0 (by unfold Bf;rw[Ro _ _ _<|by omega,Qf<|by omega]);have ff:=y.o.1.free<|2+n;have fb:=y.o.1.free<|24+n;have e2:(n:Int)<22:=by omega
  have e3:=Kt o n;have q0:=QO.setFirst y.o.1 n (2*h1) (by unfold RN;rw[J1];omega);have y4:=QO.setBegin q0 (by rw[Jo];exact J1 _ _) n (ZJ o n).length (by unfold Bf;rw[J1];omega);have eF:(RN o n).set n (2*h1)=RN o (n+1):=by rw[←x8];exact OX _ n z7 (by omega)
  have eB:(Bf o n).set n (ZJ o n).length=Bf o (n+1):=OX (fun j=>(ZJ o j).length) n z7 (by omega);rw[eF,eB,show((2*h1:Nat):Int)=2*(h1:Int)by omega]at y4;have h4:Qb [g] w2 ((w2.setCell ⟨g,2+n,none⟩<|.int .i64<|2*(h1:Int)).setCell ⟨g,24+n,none⟩<|.int .i64 ((ZJ o n).length:Int)).drew:=
   (((Qc [g] w2).setCell (by simp) _).setCell (by simp) _).drew
  have⟨p1,p2⟩:=qb y4 h4;clear q7 r5 q4 x8 q0 y4 eF eB h4;go_wp2_with fail
  go_region
  have x6:Qe ((w2.setCell ⟨g,2+n,none⟩<|.int .i64<|2*(h1:Int)).setCell ⟨g,24+n,none⟩<|.int .i64 ((ZJ o n).length:Int)).drew g 371 (YE (.slice (some ⟨b0,off,none⟩) xs.length cap) (.slice av (ZJ o n).length cv) (RN o<|n+1) (Bf o<|n+1)<|RL o n):=p1.o;have h4:=p2.o;clear p1 p2 c1 cf cb ff fb;generalize ((w2.setCell ⟨g,2+n,none⟩<|.int .i64<|2*(h1:Int)).setCell ⟨g,24+n,none⟩<|.int .i64 ((ZJ o n).length:Int)).drew=W3 at x6 h4 ⊢;have⟨a6,b7,b5,b4⟩:=qd x6 (y.o.2.1.kept h4 fun x q hm=>y.o.2.2<|by rwa[Za.1 hm]at q) y.o.2.2<|p4.o.new h4 (fun x q=>by rw[Za.1 q];exact y3.o g<|by simp);have c0:=QO.of x6;clear x6 h4
  go_wp2
  go_loopg [6,52] o.length (fun k cv iv wr=>nM w g (some ⟨b0,off,none⟩) xs.length cap o n k cv iv wr)
  ·refine⟨0,_,by omega,by omega,rfl,?_,?_,?_,b5.o,b4.o,y3.o⟩
   ·rw[Nn,a8.o];go_num
   ·rw[Nn];have e:(RL o n).set n 0=RL o n:=by
     apply Xo;intro j;rw[YO]
     split
     ·rename_i hj;subst hj;unfold RL;rw[Ro _ _ _<|by omega,J1,Qg<|by omega,Qf<|by omega]
     rfl
    rw[show(([]:LN)).length=0 from rfl,e];exact a6.o
   rw[Nn,XH];exact b7.o
  obtain⟨i,dv,hi,hk,rfl,rfl,hA,z8,r2,x3,x2⟩:=hrel;have p7:=Qa hk;have⟨O,hO⟩:=qx<|ZJ o n++Yv o n i;rw[hO]at z8;have⟨HO,HA,x5,h2,x1,h8⟩:=qf hO hA z8 r2 x3 x2;have x9:=Nk o n i hi;have y6:(o.take i).count n≤258:=QS (GJ ..) (by rw[Zl];have:=h3.o;omega);clear hk hA z8 r2 x3 x2 c0 hO;obtain⟨p8,p9,hv,-,-,-,-⟩:=x5.o.sees;rw[QF]at hv;subst hv
  by_cases c7:i<xs.length
  ·have d9:(i:Int)<xs.length:=(by omega);have⟨x,q⟩:=qy xs i c7;have d4:=b2.o x<|QA q;have c3:=(HS.o.kZ x1.o).int q;obtain⟨m,rfl⟩:=X7 (by omega:0≤x);have y0:o.getD i 0=m:=(by rw[←p5.o];unfold QD;rw[List.getD,ZD,q];rfl);clear q d4
   by_cases y1:m=n
   ·have c8:(m:Int)=n:=(by omega);have c1:=QO.order HA.o;have f1:=HA.o.free 1;have cc:=QO.count HA.o (J1 _ _) (J1 _ _) n (Yv o n i).length (by rw[YO,Qg rfl,Qg (by unfold RL;rw[J1];omega)]);have fc:=HA.o.free<|46+n;have r9:=Nm o n i<|y0.trans y1;have d2:=x5.o;have d0:=Kt o n;have e5:O.length≤6000:=(by rw[←HO.o,Qo];have:=h3.o;have:=Fj (by omega:n≤20) (by omega:o.length≤258);omega);have L1:(Qi O).length+1≤maxLen:=(by rw[QF];simp only[maxLen];omega);have L2:((Qi O).length+1)*8≤140737488355328:=(by rw[QF];omega);have HY:=Qa r9;have d8:(Yv o n i).length≤258:=(by omega);have c5:=y2.o n (by omega);have d6:Zq o n≤1048576:=(by have:2^n≤2^20:=Jc (by decide) (by omega);have e:(2:Nat)^20=1048576:=rfl;omega);subst y1;clear r9 d0 y0 x9 y6 c5;go_wp2_with ((at_builtin;refine UW _ rfl _ _ 51 rfl 3 (0:Int) 8 XC XJ rfl _ _ [(i:Int)] 1 rfl rfl rfl rfl (by simp[Value.oneCell']) d2 L1 L2 ?_;intro a5 h9 w5 d3 x0 q9;have d1:=x0.cZ c1 h2.o;have e1:=(x0.oZ c1 h2.o).trans f1;have dc:=x0.cZ cc h2.o;have ec:=(x0.oZ cc h2.o).trans fc))
    go_region
    go_wp2
    go_roundg (o.length-(i+1))
    case measure=>have:=p7.o;have:=h3.o;omega
    have d7:g<wr.heap.size:=HA.o.lt;have b8:=HA.o.kept x0 h2.o;have b9:=QO.setOrder b8<|.slice a5 ((Qi O).length+1) h9;have y5:=QO.setCount b9 (J1 _ _) (J1 _ _) m<|(Yv o m i).length+1;have r3:g∉Qd (.slice a5 ((Qi O).length+1) h9):=by
     intro hm;rcases q9 g hm with h|h
     ·exact h2.o h
     omega
    have r6:Qh ((w5.setCell ⟨g,1,none⟩<|.slice a5 ((Qi O).length+1) h9).setCell ⟨g,46+m,none⟩<|.int .i64 ((((Yv o m i).length+1:Nat)):Int)).drew 3 (.slice a5 ((Qi O).length+1) h9) (Qi O++[.int .i64 (i:Int)]):=
     d3.kept ((((Qc [g] w5).setCell (by simp) _).setCell (by simp) _).drew) (fun x q hm=>r3<|by rwa[Za.1 hm]at q)
    have q5:Qs w.heap.size (Qd<|.slice p8 O.length p9):=fun x q=>h8.o x (by simp[q])
    have r0:Qb [] w ((w5.setCell ⟨g,1,none⟩<|.slice a5 ((Qi O).length+1) h9).setCell ⟨g,46+m,none⟩<|.int .i64 ((((Yv o m i).length+1:Nat)):Int)).drew:=
     (((x1.o.new x0 q5).setCell (.inr<|h8.o g<|by simp) _).setCell (.inr<|h8.o g<|by simp) _).drew
    have c6:Qs w.heap.size (g::Qd (.slice a5 ((Qi O).length+1) h9)):=by
     intro x q;rcases QE.1 q with rfl|q
     ·exact h8.o _ (by simp)
     exact(q5.grow q9 x1.o.size) x q
    have e1:(((Yv o m i).length+1:Nat):Int)=((Yv o m i).length:Int)+1:=(by omega);rw[e1]at y5 r6 r0;refine⟨i+1,_,by have:=h3.o;omega,rfl,by go_num,?_,?_,?_,r3,r0,c6⟩
    ·rw[HY.o,Qo];go_num
    ·rw[HY.o,Qo,show[i].length=1 from rfl];rwa[List.set_set]at y5
    rwa[HY.o,←QQ,HO.o,Dp]
   have c8:((m:Int)==(n:Int))=false:=(by simp;omega);have e0:¬(m:Int)=n:=(by omega);have r4:=Nl o n i (by rwa[y0]);have HN:=Qa r4;clear r4 y0 y1 x9 y6
   go_wp2
   go_roundg (o.length-(i+1))
   ·refine⟨i+1,_,by have:=h3.o;omega,rfl,by go_num,by rw[HN.o],?_,?_,h2.o,x1.o,h8.o⟩
    ·rw[HN.o];exact HA.o
    rw[HN.o,HO.o];exact x5.o
   have:=p7.o;have:=h3.o;omega
  have y8:i=o.length:=by have:=h3.o;omega
  have y7:(Yv o n i).length=o.count n:=by rw[x9,y8,VG]
  have x7:=HA.o;rw[y7]at x7;have e8:(RL o n).set n (o.count n)=RL o (n+1):=OX (fun j=>o.count j) n z7 (by omega);rw[e8]at x7;have e9:ZJ o (n+1)=O:=by rw[←HO.o,y8,ZJ];rfl
  have r7:Qh wr 3 (.slice p8 O.length p9) (Qi<|ZJ o<|n+1):=by rw[e9];exact x5.o
  have⟨a7,b6,b1⟩:=qc x7 r7 y7;clear x9 y6 y8 y7 x7 r7 e8 e9
  go_wp2
  go_roundg (M+1-(n+1))
  ·exact⟨n+1,_,by omega,by omega,rfl,by go_num,by rw[UE,b1.o],⟨a7.o,b6.o,h2.o⟩,x1.o,h8.o⟩
  have:=Hk.o;omega
 obtain rfl:n=M+1:=by omega
 have c9:¬((M+1:Nat):Int)≤M:=by omega
 go_wp2
 go_ret2;exact⟨g,dv,rfl,by rw[HM.o,p5.o,Zs];exact y.o,p4.o,y3.o⟩
def dC(a cap xs w)(b:Qp w 1 a xs.length (QM xs))(g:xs.length≤140737488351232)(d:XA xs=false):
 Calls prog 255 #[.slice a xs.length cap] w fun e w'=>e=.returned (.tuple #[.pointer none,(80:Int)])∧w=w':=by
 have c:J7 xs=80:=by unfold J7;rw[d];rfl
 have f:=Qa b;go_enter func255,ntmps255;go_wp2_with fail;refine(Ei a cap xs _ f.o g).mono ?_;rintro e w'⟨rfl,rfl⟩;rw[c]
 go_wp2
 go_ret2;exact⟨rfl,rfl⟩
def filled(ls:LN)(b:LN):LN:=(List.range ls.length).map fun a=>if a∈b then Yu ls a else 0
def FL(ls a):(filled ls a).length=ls.length:=by simp[filled]
def wD(ls):List.replicate ls.length (Value.int .i64 0)=Qi (filled ls []):=by
 apply Xo;intro a
 by_cases hi:a<ls.length
 ·rw[V4,Qg hi];simp[Qi,filled,Xa hi]
 rw[QX (by simp;omega),QX (by rw[QF,FL];omega)]
def wE(ls a i)(hi:i<ls.length):(filled ls a).set i (Yu ls i)=filled ls (a++[i]):=by
 apply Xo;intro b;rw[YO]
 by_cases d:b<ls.length
 ·have c:∀a:LN,(filled ls a)[b]?=some (if b∈a then Yu ls b else 0):=fun a=>by simp[filled,Xa d]
  rw[c,c,FL]
  by_cases c:i=b
  ·subst c;rw[Qg rfl,Qg hi,Qg<|by simp]
  rw[Qf c]
  congr 1
  have:b∈a++[i]↔b∈a:=by simp;omega
  simp only[this]
 rw[QX (by rw[FL];omega),QX (by rw[FL];omega),Qf<|by omega]
def wC(ls N)(a:∀x∈ls,x<N):filled ls (ZJ ls N)=Um ls:=by
 unfold filled Um;refine Yx fun b hi=>?_
 have hi:=ZL.1 hi;obtain⟨c,hk⟩:=Qcs ls N a b hi;rw[Qg<|QA hk]
def mH(w0:WD)(g d:Nat)(ls b:LN)(k:Nat)(c:VL)(w:WD):Prop:=
 ∃a,a≤b.length∧k=b.length-a∧c=.int .i64 (a:Nat)∧Qh w 3 (.slice d ls.length ls.length) (Qi (filled ls (b.take a)))∧Qb [d] w0 w
def uJ(g a cap xs dv w)(h:Qp w 1 a xs.length (QM xs))(h8:XA xs=true)(hT:QO w g a xs.length cap (QD xs) ((JR xs).toNat+1) dv):
 Calls prog 256 #[.pointer g] w fun e w'=>∃h,e=.returned (.slice (some ⟨h,0,none⟩) xs.length xs.length)∧
  Qh w' 3 (.slice (some ⟨h,0,none⟩) xs.length xs.length) (Qi<|Um<|QD xs)∧Qb [] w w'∧w.heap.size≤h:=by
 have y0:=((UN xs).1 (UL h8)).2;have hl:=((UN xs).1 (UL h8)).1;have x8:=(Kj xs);have hM:=NJ xs 20 (by decide) fun x q=>(y0 x q).2;obtain⟨M,y8⟩:=X7 x8.1;obtain⟨b0,off,rfl,-⟩:=h.at (by rw[Xk];omega);rw[y8,Zs]at hT;have r0:M≤20:=by omega
 have x0:=fun n hn=>K.fits (QD xs) (fun x q=>(Cl h8 x q).2) (FP h8) n hn
 have x5:∀x∈QD xs,x<M+1:=by intro x q;simp only[QD,QB]at q;obtain⟨y,hy,rfl⟩:=q;have:=x8.2 y hy;omega
 have⟨o,x1⟩:=qx<|QD xs;have z8:o.length=xs.length:=by rw[←x1,UQ]
 have z6:∀i x,xs[i]?=some x→x=((o.getD i 0:Nat):Int):=by intro i x q;have:=y0 x<|QA q;rw[←x1];unfold QD;rw[List.getD,ZD,q];simp;omega
 rw[x1]at x0 x5 hT ⊢;have p1:∀x∈o,1≤x:=fun x q=>by rw[←x1]at q;exact(Cl h8 x q).1
 have q3:=Qa p1;clear p1;have⟨O,hO⟩:=qx<|ZJ o<|M+1;have y9:=Kt o<|M+1;have y1:=Qct o<|M+1;have x9:=wC o (M+1) x5;rw[hO]at y9 y1 x9;obtain⟨hA,h5,q7⟩:=hT;rw[hO]at h5;obtain⟨av,cv,hv,-,-,-,-⟩:=h5.sees;rw[QF]at hv;subst hv;have c0:=QO.of hA;have c1:=QO.order hA;have r1:O.length≤6000:=by have:=Fj (by omega:M+1≤21) (by omega:o.length≤258);omega
 have⟨HS,p8,x2,p9,q0,p7,HA,y6⟩:=qh h x0 z8 z6 y1 x9 hA h5.sZ;have q9:=Qa x5;have b2:0<xs.length:=by omega
 have a6:xs.length≤258:=hl.2;clear h y0 x8 hM y8 x0 x5 x1 z8 z6 hO y9 y1 x9 hA h5 q7 hl h8;go_enter func256,ntmps256;go_wp2_with ((at_make;refine YZ rfl _ _ 51 rfl 3 (0:Int) 8 XC XJ rfl .i64 .i64 _ _ xs.length xs.length rfl rfl rfl rfl (Ql _) (by omega) (by simp only[maxLen];omega) ?_;intro w1 p2 h4;have c0:=h4.cZ c0 (by simp);have c1:=h4.cZ c1<|by simp));have y3:Qh w1 3 (.slice w.heap.size o.length o.length) (Qi<|filled o<|O.take 0):=by rwa[LC,←wD,x2.o]
 have⟨y5,q1,x7,y7,q4⟩:=qe y3 h4 (HA.o.kept h4<|by simp) (y6.o.kZ h4)<|HS.o.kZ h4;have q6:g<w.heap.size:=HA.o.lt;generalize hh:w.heap.size=h at q6 y3 y5 ⊢;have HH:=Qa hh;clear hh p2 h4 y3 c0 c1;have c0:=QO.of x7.o;have c1:=QO.order x7.o
 go_wp2
 go_loopg [19] O.length (fun k c wr=>mH w1 g h o O k c wr)
 ·exact⟨0,by omega,by omega,rfl,y5.o,Qc _ _⟩
 obtain⟨k,a1,hk,rfl,h5,z7⟩:=hrel;have⟨Hk,x3,h9⟩:=qc hk h5 z7;clear hk h5 z7 c0 c1
 by_cases hlt:k<O.length
 ·have a7:(k:Int)<O.length:=by omega
  have⟨i,hi⟩:=qy O k hlt;obtain⟨h1,h2,h3⟩:=q0.o k i hi;have x6:∀x,x≠h→x∉[h]:=fun x q hm=>q<|Za.1 hm
  obtain⟨bo,oo,rfl,-⟩:=y7.o.at (by rw[QF];omega);have b3:bo<h:=by rw[←HH.o];exact y6.o.lt (by rw[QF];omega) bo (by simp[fZ])
  have r2:b0<h:=by rw[←HH.o];exact HS.o.lt (by rw[Xk];omega) b0 (by simp[fZ])
  have p4:=(y7.o.kept h9.o fun x q=>x6 x (by simp[fZ]at q;omega));have p3:=(q4.o.kept h9.o fun x q=>x6 x (by simp[fZ]at q;omega));have x4:=x7.o.kept h9.o (x6 g<|by omega);have⟨x,q⟩:=qy xs i (by rwa[←x2.o]);have p6:=p9.o i x q;have⟨n,hn⟩:=qx<|o.getD i 0;rw[hn]at p6 h2 h3;subst p6;have c0:=QO.of x4;have c2:=p3.int q;have c3:wr.cell? ⟨bo,oo+k,none⟩=some (.int .i64 (i:Int)):=by obtain⟨b',o',he,hc⟩:=p4.2 k _<|UP O k i hi;injection he with he;injection he with e1 e2;subst e1 e2;exact hc
  have a8:1≤n:=by have hm:o.getD i 0∈o:=(by rw[List.getD,Qj h1];exact XV h1);have:=q3.o _ hm;omega
  have cf:=QO.first x4 n (Zq o n) (by unfold RN;rw[Ro _ _ _<|by omega,Qg<|by omega]);have cb:=QO.begin x4 (J1 _ _) n (ZJ o n).length (by unfold Bf;rw[Ro _ _ _<|by omega,Qg<|by omega]);have r7:i<xs.length:=by rwa[←x2.o]
  have r9:(i:Int)<xs.length:=by omega
  obtain⟨old,p0⟩:∃old,(filled o<|O.take k)[i]?=some old:=⟨_,Qj<|by rwa[FL]⟩;have co:=x3.o.aZ<|UP _ i _ p0;have fo:=x3.o.free i;have b1:(n:Int)<22:=by omega
  have x0:=p8.o n (by omega);have q8:2^n≤2^20:=Jc (by decide) (by omega);have r5:Zq o n≤1048576:=by have e:(2:Nat)^20=1048576:=rfl;omega
  have b4:IntKind.i64.wrap ((Zq o n:Int)+k)=(Zq o n:Int)+k:=Q3 _ (by omega);have z1:Yu o i=Zq o n+k-(ZJ o n).length:=by unfold Yu;rw[hn];omega
  have q5:IntKind.i64.wrap ((Zq o n:Int)+k-((ZJ o n).length:Int))=((Yu o i:Nat):Int):=by rw[Q3 _<|by omega,z1];omega
  have p5:O.take (k+1)=O.take k++[i]:=by rw[Zt,hi];rfl
  have y2:=x3.o.put i<|.int .i64 ((Yu o i:Nat):Int);rw[VU,wE o _ i h1,←p5]at y2;have y4:=Qa y2;obtain⟨r6,r3,r4⟩: ¬g=h∧¬bo=h∧¬b0=h:=by omega
  clear p0 q hn x6 p4 p3 x4 hi x0 q8 z1 p5 y2 h1 h3;generalize Yu o i=cd at q5 y4;go_wp2_with fail
  go_region
  go_wp2
  go_roundg (O.length-(k+1))
  ·exact⟨k+1,by omega,rfl,by go_num,y4.o,(h9.o.setCell (by simp) _).drew⟩
  have:=Hk.o;omega
 obtain rfl:k=O.length:=by omega
 have hr:=x3.o;rw[VG,p7.o,x2.o]at hr;have HR:=Qa hr;clear hr
 go_wp2
 go_ret;exact⟨h,rfl,HR.o,q1.o.trans h9.o fun x q=>.inr (by rw[Za.1 q,HH.o];exact Ql _),by rw[HH.o];exact Ql _⟩
