import Derived.Test.YtickjpnkoppmgaaGreatDoorAg
set_option linter.all false
set_option maxHeartbeats 1000000
set_option maxRecDepth 100000
namespace Go.Proofs.YtickjpnkoppmgaaGreatDoor
open Go.Proofs.Tryz Go.RowKit K
section
def JK(xs:List Int):Int:=xs.foldl max 0
def Nj(xs x):JK (xs++[x])=max (JK xs) x:=by simp[JK,Fi]
def IQ(xs):0≤JK xs∧∀x∈xs,x≤JK xs:=by
 suffices a:∀b (xs:List Int),xs.length=b→0≤JK xs∧∀x∈xs,x≤JK xs from a _ xs rfl
 intro b
 induction b with
 |zero=>intro xs a;rw[JW a];simp[JK]
 |succ b ih=>
  intro xs a;have hne:xs≠[]:=by intro b;simp[b]at a
  have c:=GM hne;obtain⟨d,b⟩:=ih xs.dropLast (by simp[a]);rw[←c,Nj];refine⟨by omega,fun x a=>?_⟩;rcases Q5.1 a with a|a
  ·have:=b x a;omega
  have:x=xs.getLast hne:=by simpa using a
  omega
def Ni(xs b)(hb:0≤b)(a:∀x∈xs,x≤b):JK xs≤b:=by
 suffices this:∀c (xs:List Int),xs.length=c→(∀x∈xs,x≤b)→JK xs≤b from this _ xs rfl a
 intro c
 induction c with
 |zero=>intro xs a _;rw[JW a];simpa[JK]using hb
 |succ c ih=>
  intro xs a d;have hne:xs≠[]:=by intro c;simp[c]at a
  have e:=GM hne;have:=ih xs.dropLast (by simp[a]) fun x a=>d x<|List.dropLast_subset _ a;have c:=d _<|List.getLast_mem hne;rw[←e,Nj];omega
def mY(w0:World)(xs:List Int)(k:Nat)(n c:Value)(w:World):Prop:=
 ∃a,a≤xs.length∧k=xs.length-a∧c=.int .i64 (a:Nat)∧n=.int .i64 (JK (xs.take a))∧w0=w
def cF(a cap xs w)(h:Qn w 1 a xs.length (QK xs))(h1:xs.length≤140737488351232):
 Calls prog 285 #[.agg #[.slice a xs.length cap]] w fun e w'=>e=.returned (.int .i64<|JK xs)∧Qb [] w w':=by
 have HS:=Qa h;go_enter func285,ntmps285;go_wp2_with fail;have o:Qb [] w (w.alloc<|.cells #[.slice a xs.length cap] 368):=(Qc _ _).alloc _;generalize w.alloc (.cells #[.slice a xs.length cap] 368)=W0 at o ⊢;have HK:=Qa o
 go_loopg [3,9] xs.length (fun k n c wr=>mY W0 xs k n c wr)
 ·exact⟨0,by omega,by omega,rfl,rfl,rfl⟩
 obtain⟨i,hi,hk,rfl,rfl,rfl⟩:=hrel;have Hk:=Qa hk
 by_cases hlt:i<xs.length
 ·have h2:(i:Int)<xs.length:=by omega
  have⟨x,y⟩:=qy xs i hlt;obtain⟨b0,h3,rfl,-⟩:=HS.o.at (by rw[Xk];omega);have c0:=(HS.o.kZ HK.o).int y;have ex:xs.take (i+1)=xs.take i++[x]:=by rw[ZE,y];rfl
  have q:=Nj (xs.take i) x;rw[←ex]at q;have HM:=Qa q;generalize JK (xs.take i)=M at HM ⊢;go_wp2_with fail
  all_goals
   go_roundg (xs.length-(i+1))
   ·exact⟨i+1,by omega,rfl,by go_num,by rw[HM.o];congr 1;omega,rfl⟩
   have:=Hk.o;omega
 obtain rfl:i=xs.length:=by omega
 have hR:=Vp (l:=xs);have HR:=Qa hR
 go_wp2
 go_ret;exact⟨by rw[HR.o];rfl,HK.o⟩
def YB(c b:Value)(F a C:List Nat):List Value:=c::b::(Qi F++(Qi a++Qi C))
def OW:List Value:=.slice none 0 0::List.replicate 66 (.int .i64 0)
def qF(w):(zeroValue 371).run prog w=.ok (.agg (Value.slice none 0 0::OW).toArray) w:=
 (zero_of_info (P:=prog) (t:=371) (v:=.agg (Value.slice none 0 0::OW).toArray) (n:=68)<|by kernel_rfl).1 w
def z22:List Nat:=List.replicate 22 0
def Qgy(a):a::OW=YB a (.slice none 0 0) z22 z22 z22:=rfl
def UE(l)(i x:Nat)(a:l[i]?=some x):(Qi l)[i]?=some (.int .i64 (x:Int)):=by simp[Qi,a]
def VD(l)(i x:Nat):(Qi l).set i (x:Int)=Qi (l.set i x):=by simp[Qi,Bj]
section
variable {w:World} {g:Nat} {t:TypeId} {ov dv:Value} {F B C:List Nat}
def QM.of(a:Qf w g t (YB ov dv F B C)):w.cell? ⟨g,0,none⟩=some ov:=a.cell rfl
def QM.order(a:Qf w g t (YB ov dv F B C)):w.cell? ⟨g,1,none⟩=some dv:=a.cell rfl
def QM.first(a:Qf w g t (YB ov dv F B C))(i x:Nat)(hi:F[i]?=some x):w.cell? ⟨g,2+i,none⟩=some (.int .i64 (x:Int)):=by refine a.cell ?_;rw[show 2+i=i+1+1 by omega,YB,VL,VL,Xo (by rw[QD];exact(Qz.1 hi).1)];exact UE F i x hi
def QM.begin(a:Qf w g t (YB ov dv F B C))(b:F.length=22)(i x:Nat)(hi:B[i]?=some x):w.cell? ⟨g,24+i,none⟩=some (.int .i64 (x:Int)):=by
 refine a.cell ?_;rw[show 24+i=22+i+1+1 by omega,YB,VL,VL,Zy (by rw[QD];omega),QD,b,
  show 22+i-22=i by omega,Xo (by rw[QD];exact(Qz.1 hi).1)]
 exact UE B i x hi
def QM.count(a:Qf w g t (YB ov dv F B C))(c:F.length=22)(b:B.length=22)(i x:Nat)(hi:C[i]?=some x):w.cell? ⟨g,46+i,none⟩=some (.int .i64 (x:Int)):=by
 refine a.cell ?_;rw[show 46+i=44+i+1+1 by omega,YB,VL,VL,Zy (by rw[QD];omega),QD,c,
  Zy (by rw[QD];omega),QD,b,show 44+i-22-22=i by omega]
 exact UE C i x hi
def QM.setOrder(a:Qf w g t (YB ov dv F B C))(v):Qf (w.setCell ⟨g,1,none⟩ v) g t (YB ov v F B C):=a.set 1 v
def QM.setFirst(a:Qf w g t (YB ov dv F B C))(i x:Nat)(hi:i<F.length):Qf (w.setCell ⟨g,2+i,none⟩ (x:Int)) g t (YB ov dv (F.set i x) B C):=by have:=a.set (2+i) (x:Int);rw[show 2+i=i+1+1 by omega,YB,Ur,Ur,Lh _ _<|by rwa[QD],VD]at this;rw[show 2+i=i+1+1 by omega];exact this
def QM.setBegin(a:Qf w g t (YB ov dv F B C))(b:F.length=22)(i x:Nat)(hi:i<B.length):Qf (w.setCell ⟨g,24+i,none⟩ (x:Int)) g t (YB ov dv F (B.set i x) C):=by
 have:=a.set (24+i) (x:Int);rw[show 24+i=22+i+1+1 by omega,YB,Ur,Ur,Vo _ _ (by rw[QD];omega),QD,b,
  show 22+i-22=i by omega,Lh _ _<|by rwa[QD],VD]at this
 rw[show 24+i=22+i+1+1 by omega];exact this
def QM.setCount(a:Qf w g t (YB ov dv F B C))(c:F.length=22)(b:B.length=22)(i x:Nat):Qf (w.setCell ⟨g,46+i,none⟩ (x:Int)) g t (YB ov dv F B<|C.set i x):=by
 have:=a.set (46+i) (x:Int);rw[show 46+i=44+i+1+1 by omega,YB,Ur,Ur,Vo _ _ (by rw[QD];omega),QD,c,
  Vo _ _ (by rw[QD];omega),QD,b,show 44+i-22-22=i by omega,VD]at this
 rw[show 46+i=44+i+1+1 by omega];exact this
end
end
def AY(f:Nat→Nat)(n:Nat):List Nat:=(List.range 22).map fun a=>if 1≤a∧a<n then f a else 0
def JU(f n):(AY f n).length=22:=by simp[AY]
def Rb(f n j)(a:j<22):(AY f n)[j]?=some (if 1≤j∧j<n then f j else 0):=by simp[AY,Xb a]
def Ox(f):AY f 1=z22:=by
 apply Xu;intro b
 by_cases a:b<22
 ·rw[Rb f 1 b a,Qe<|by omega];unfold z22;rw[VM,Qg a]
 rw[QW (by rw[JU];omega),QW (by simp[z22];omega)]
def Oy(f n)(a:1≤n)(c:n<22):(AY f n).set n (f n)=AY f (n+1):=by
 apply Xu;intro a;rw[YV]
 by_cases b:a<22
 ·rw[Rb f _ a b,Rb f _ a b,JU]
  by_cases b:n=a
  ·subst b;rw[Qg rfl,Qg c,Qg<|by omega]
  rw[Qe b]
  congr 1
  by_cases b:1≤a∧a<n
  ·rw[Qg b,Qg<|by omega]
  rw[Qe b,Qe<|by omega]
 rw[QW (by rw[JU];omega),QW (by rw[JU];omega),Qe<|by omega]
def RH(ls:List Nat)(n:Nat):List Nat:=AY (Zr ls) n
def AX(ls:List Nat)(n:Nat):List Nat:=AY (fun a=>(ZH ls a).length) n
def RG(ls:List Nat)(n:Nat):List Nat:=AY (fun a=>ls.count a) n
def QM(w:World)(g:Nat)(a:Option Addr)(L cap:Nat)(ls:List Nat)(N:Nat)(b:Value):Prop:=
 Qf w g 371 (YB (.slice a L cap) b (RH ls N) (AX ls N) (RG ls N))∧Qh w 3 b (Qi (ZH ls N))∧g∉Qd b
def QM.kept{S w w' g a L cap ls N b}(c:QM w g a L cap ls N b)(hk:Qb S w w')(ha:Qr (g::Qd b) S):QM w' g a L cap ls N b:=
 ⟨c.1.kept hk<|ha g<|by simp,c.2.1.kept hk fun d b=>ha d<|by simp[b],c.2.2⟩
def QM.lt{w g a L cap ls N b}(c:QM w g a L cap ls N b):∀x∈g::Qd b,x<w.heap.size:=by
 intro x b;rcases QB.1 b with rfl|b
 ·exact c.1.lt
 exact c.2.1.lt x b
def nA(w0:World)(g:Nat)(a:Option Addr)(L cap:Nat)(ls:List Nat)(c:Nat)(k:Nat)(e f:Value)(w:World):Prop:=
 ∃b d,1≤b∧b≤c+1∧k=c+1-b∧f=.int .i64 (b:Nat)∧e=.int .i64 (Zr ls (b-1)+ls.count (b-1):Nat)∧QM w g a L cap ls b d∧Qb [] w0 w∧Qs w0.heap.size (g::Qd d)
def nB(w0:World)(g:Nat)(a:Option Addr)(L cap:Nat)(ls:List Nat)(n:Nat)(k:Nat)(d e:Value)(w:World):Prop:=
 ∃b c,b≤ls.length∧k=ls.length-b∧e=.int .i64 (b:Nat)∧d=.int .i64 (Zr ls n+(Ys ls n b).length:Nat)∧
  Qf w g 371 (YB (.slice a L cap) c (RH ls (n+1)) (AX ls (n+1)) ((RG ls n).set n (Ys ls n b).length))∧
  Qh w 3 c (Qi (ZH ls n++Ys ls n b))∧g∉Qd c∧Qb [] w0 w∧Qs w0.heap.size (g::Qd c)
def nC(a:Option Addr)(L cap:Nat)(ls:List Nat)(d:Nat)(w:World)(e:Ending)(w':World):Prop:=
 ∃b c,e=.returned (.tuple #[.pointer (some ⟨b,0,none⟩),(0:Int)])∧QM w' b a L cap ls (d+1) c∧Qb [] w w'∧Qs w.heap.size (b::Qd c)
def Ka(ls N):(ZH ls N).length≤N*ls.length:=by
 induction N with
 |zero=>simp[ZH]
 |succ N ih=>rw[ZH,Qo,MN,CU];have:=GL (a:=N) (l:=ls);omega
def cN(a cap xs w)(h:Qn w 1 a xs.length (QK xs))(h8:XA xs=true):
 Calls prog 255 #[.slice a xs.length cap] w (nC a xs.length cap (QA xs) (JK xs).toNat w):=by
 have z1:=((UC xs).1 (UA h8)).2;have hl:=((UC xs).1 (UA h8)).1;have q3:=(IQ xs).1;have hM:=Ni xs 20 (by decide) fun x q=>(z1 x q).2;obtain⟨M,q4⟩:=X5 q3;have hR:JZ xs=0:=by unfold JZ;rw[h8];rfl
 obtain⟨b0,h3,rfl,-⟩:=h.at (by rw[Xk];omega);have q7:=fun n hn=>K.fits (QA xs) (fun x q=>(Cl h8 x q).2) (FT h8) n hn
 have⟨HS,b3,y3,HM⟩:=qd h z1 q7 q4;have d6:M≤20:=by omega
 have hz:=qF;clear h z1 q3 q7 hM;go_enter func255,ntmps255;go_wp2_with fail;refine(Em (some ⟨b0,h3,none⟩) cap xs _ HS.o<|by omega).mono ?_;rintro e w'⟨rfl,rfl⟩;rw[hR];clear hR q4;go_wp2_with fail;rw[Qgy];have hA:=Qx w (YB (.slice (some ⟨b0,h3,none⟩) xs.length cap) (.slice none 0 0) z22 z22 z22) 371;have z6:Qb [] w (w.alloc<|.cells (YB (.slice (some ⟨b0,h3,none⟩) xs.length cap) (.slice none 0 0) z22 z22 z22).toArray 371):=(Qc _ _).alloc _;generalize w.alloc (.cells (YB (.slice (some ⟨b0,h3,none⟩) xs.length cap) (.slice none 0 0) z22 z22 z22).toArray 371)=W0 at hA z6 ⊢;have q9:w.heap.size≤w.heap.size:=Ql _;generalize hg:w.heap.size=g at hA q9 ⊢;have⟨HG,HA,b4⟩:=qc hg hA z6;clear hz hg hA z6 q9;have⟨o,x5⟩:=qx<|QA xs;have r2:o.length=xs.length:=by rw[←x5,UF]
 have a6:o.count 0=0:=by rw[List.count_eq_zero];intro h;rw[←x5]at h;have:=(Cl h8 0 h).1;omega
 have⟨p6,h4,p7⟩:=qc x5 r2 a6;rw[x5]at y3 ⊢;clear x5 r2 a6 h8
 go_loopg [6,7] M (fun k cv nv wr=>nA w g (some ⟨b0,h3,none⟩) xs.length cap o M k cv nv wr)
 ·refine⟨1,.slice none 0 0,Ql _,by omega,by omega,rfl,by rw[show 1-1=0 from rfl,p7.o];rfl,⟨?_,?_,by simp[Qd,qo]⟩,b4.o,fun x q=>?_⟩
  ·unfold RH AX RG;rw[Ox,Ox,Ox];exact HA.o
  ·have:ZH o 1=[]:=(by rw[ZH,ZH,Yv];exact JW (by rw[MN];exact p7.o));rw[this];exact Qh.nil _ _
  simp[Qd,qo]at q;rw[q,HG.o];exact Ql _
 obtain⟨n,dv,z8,hn,hk,rfl,rfl,p1,x4,x3⟩:=hrel;have⟨Hk,HT,p4,y4⟩:=qd hk p1 x4 x3;have c0:=QM.of p1.1;clear hk p1 x4 x3;go_wp2_with fail;refine(cF (some ⟨b0,h3,none⟩) cap xs _ (HS.o.kZ p4.o)<|by omega).mono ?_;rintro e w2⟨rfl,z7⟩;have⟨y,p5⟩:=qb (HT.o.kept z7<|Z9 _) (p4.o.new z7<|by simp[Qs]);rw[HM.o];clear z7 c0
 by_cases hlt:n≤M
 ·have d0:(n:Int)≤M:=by omega
  have q8:=y3.o (n-1) (by omega);have r6:2^(n-1)≤2^19:=Y7 (by decide) (by omega);have x9:Zr o n=2*(Zr o (n-1)+o.count (n-1)):=by obtain⟨m,rfl⟩:∃m,n=m+1:=⟨n-1,by omega⟩;rw[Us,Zr]
  have c5:Zr o (n-1)+o.count (n-1)≤524288:=QU q8 r6;have⟨h1,q5⟩:=qx<|Zr o (n-1)+o.count (n-1);rw[q5]at x9 c5 ⊢;have b1:=Qa x9;have e5:IntKind.i64.wrap ((h1:Int)*2)=((2*h1:Nat):Int):=by rw[Q2 _<|by omega];omega
  obtain⟨av,cv,hv,-,-,-,-⟩:=y.o.2.1.sees;rw[QD]at hv;subst hv;have c1:=QM.order y.o.1;have cf:=QM.first y.o.1 n 0 (by unfold RH;rw[Rb _ _ _<|by omega,Qe<|by omega]);have cb:=QM.begin y.o.1 (JU _ _) n 0 (by unfold AX;rw[Rb _ _ _<|by omega,Qe<|by omega]);have ff:=y.o.1.free<|2+n;have fb:=y.o.1.free<|24+n;have e3:(n:Int)<22:=by omega
  have e4:=Ka o n;have q1:=QM.setFirst y.o.1 n (2*h1) (by unfold RH;rw[JU];omega);have y5:=QM.setBegin q1 (by rw[JC];exact JU _ _) n (ZH o n).length (by unfold AX;rw[JU];omega);have eF:(RH o n).set n (2*h1)=RH o (n+1):=by rw[←x9];exact Oy _ n z8 (by omega)
  have eB:(AX o n).set n (ZH o n).length=AX o (n+1):=Oy (fun j=>(ZH o j).length) n z8 (by omega);rw[eF,eB,show((2*h1:Nat):Int)=2*(h1:Int)by omega]at y5;have h5:Qb [g] w2 ((w2.setCell ⟨g,2+n,none⟩<|.int .i64<|2*(h1:Int)).setCell ⟨g,24+n,none⟩<|.int .i64 ((ZH o n).length:Int)).drew:=
   (((Qc [g] w2).setCell (by simp) _).setCell (by simp) _).drew
  have⟨p2,p3⟩:=qb y5 h5;clear q8 r6 q5 x9 q1 y5 eF eB h5;go_wp2_with fail
  go_region
  have x7:Qf ((w2.setCell ⟨g,2+n,none⟩<|.int .i64<|2*(h1:Int)).setCell ⟨g,24+n,none⟩<|.int .i64 ((ZH o n).length:Int)).drew g 371 (YB (.slice (some ⟨b0,h3,none⟩) xs.length cap) (.slice av (ZH o n).length cv) (RH o<|n+1) (AX o<|n+1)<|RG o n):=p2.o;have h5:=p3.o;clear p2 p3 c1 cf cb ff fb;generalize ((w2.setCell ⟨g,2+n,none⟩<|.int .i64<|2*(h1:Int)).setCell ⟨g,24+n,none⟩<|.int .i64 ((ZH o n).length:Int)).drew=W3 at x7 h5 ⊢;have⟨a7,b8,b6,b5⟩:=qd x7 (y.o.2.1.kept h5 fun x q hm=>y.o.2.2<|by rwa[Q8.1 hm]at q) y.o.2.2<|p5.o.new h5 (fun x q=>by rw[Q8.1 q];exact y4.o g<|by simp);have c0:=QM.of x7;clear x7 h5
  go_wp2
  go_loopg [6,52] o.length (fun k cv iv wr=>nB w g (some ⟨b0,h3,none⟩) xs.length cap o n k cv iv wr)
  ·refine⟨0,_,by omega,by omega,rfl,?_,?_,?_,b6.o,b5.o,y4.o⟩
   ·rw[MM,b1.o];go_num
   ·rw[MM];have e:(RG o n).set n 0=RG o n:=by
     apply Xu;intro j;rw[YV]
     split
     ·rename_i hj;subst hj;unfold RG;rw[Rb _ _ _<|by omega,JU,Qg<|by omega,Qe<|by omega]
     rfl
    rw[show(([]:List Nat)).length=0 from rfl,e];exact a7.o
   rw[MM,XP];exact b8.o
  obtain⟨i,dv,hi,hk,rfl,rfl,hA,p0,r3,x4,x3⟩:=hrel;have p8:=Qa hk;have⟨O,hO⟩:=qx<|ZH o n++Ys o n i;rw[hO]at p0;have⟨HO,HA,x6,h2,x2,h9⟩:=qf hO hA p0 r3 x4 x3;have y0:=MJ o n i hi;have y7:(o.take i).count n≤258:=QU (GL ..) (by rw[Zn];have:=h4.o;omega);clear hk hA p0 r3 x4 x3 c0 hO;obtain⟨p9,q0,hv,-,-,-,-⟩:=x6.o.sees;rw[QD]at hv;subst hv
  by_cases c8:i<xs.length
  ·have e0:(i:Int)<xs.length:=(by omega);have⟨x,q⟩:=qy xs i c8;have d5:=b3.o x<|QC q;have c3:=(HS.o.kZ x2.o).int q;obtain⟨m,rfl⟩:=X5 (by omega:0≤x);have y1:o.getD i 0=m:=(by rw[←p6.o];unfold QA;rw[List.getD,ZJ,q];rfl);clear q d5
   by_cases y2:m=n
   ·have c9:(m:Int)=n:=(by omega);have c1:=QM.order HA.o;have f1:=HA.o.free 1;have cc:=QM.count HA.o (JU _ _) (JU _ _) n (Ys o n i).length (by rw[YV,Qg rfl,Qg (by unfold RG;rw[JU];omega)]);have fc:=HA.o.free<|46+n;have a1:=ML o n i<|y1.trans y2;have d3:=x6.o;have d2:=Ka o n;have e6:O.length≤6000:=(by rw[←HO.o,Qo];have:=h4.o;have:=Fq (by omega:n≤20) (by omega:o.length≤258);omega);have L1:(Qi O).length+1≤maxLen:=(by rw[QD];simp only[maxLen];omega);have L2:((Qi O).length+1)*8≤140737488355328:=(by rw[QD];omega);have HY:=Qa a1;have d9:(Ys o n i).length≤258:=(by omega);have c6:=y3.o n (by omega);have d7:Zr o n≤1048576:=(by have:2^n≤2^20:=Y7 (by decide) (by omega);have e:(2:Nat)^20=1048576:=rfl;omega);subst y2;clear a1 d2 y1 y0 y7 c6;go_wp2_with ((at_builtin;refine UL _ rfl _ _ 51 rfl 3 (0:Int) 8 XH XR rfl _ _ [(i:Int)] 1 rfl rfl rfl rfl (by simp[Value.oneCell']) d3 L1 L2 ?_;intro a5 x0 w5 d4 x1 r0;have d1:=x1.cZ c1 h2.o;have e1:=(x1.oZ c1 h2.o).trans f1;have dc:=x1.cZ cc h2.o;have ec:=(x1.oZ cc h2.o).trans fc))
    go_region
    go_wp2
    go_roundg (o.length-(i+1))
    case measure=>have:=p8.o;have:=h4.o;omega
    have d8:g<wr.heap.size:=HA.o.lt;have b9:=HA.o.kept x1 h2.o;have c4:=QM.setOrder b9<|.slice a5 ((Qi O).length+1) x0;have y6:=QM.setCount c4 (JU _ _) (JU _ _) m<|(Ys o m i).length+1;have r4:g∉Qd (.slice a5 ((Qi O).length+1) x0):=by
     intro hm;rcases r0 g hm with h|h
     ·exact h2.o h
     omega
    have r7:Qh ((w5.setCell ⟨g,1,none⟩<|.slice a5 ((Qi O).length+1) x0).setCell ⟨g,46+m,none⟩<|.int .i64 ((((Ys o m i).length+1:Nat)):Int)).drew 3 (.slice a5 ((Qi O).length+1) x0) (Qi O++[.int .i64 (i:Int)]):=
     d4.kept ((((Qc [g] w5).setCell (by simp) _).setCell (by simp) _).drew) (fun x q hm=>r4<|by rwa[Q8.1 hm]at q)
    have q6:Qs w.heap.size (Qd<|.slice p9 O.length q0):=fun x q=>h9.o x (by simp[q])
    have r1:Qb [] w ((w5.setCell ⟨g,1,none⟩<|.slice a5 ((Qi O).length+1) x0).setCell ⟨g,46+m,none⟩<|.int .i64 ((((Ys o m i).length+1:Nat)):Int)).drew:=
     (((x2.o.new x1 q6).setCell (.inr<|h9.o g<|by simp) _).setCell (.inr<|h9.o g<|by simp) _).drew
    have c7:Qs w.heap.size (g::Qd (.slice a5 ((Qi O).length+1) x0)):=by
     intro x q;rcases QB.1 q with rfl|q
     ·exact h9.o _ (by simp)
     exact(q6.grow r0 x2.o.size) x q
    have e1:(((Ys o m i).length+1:Nat):Int)=((Ys o m i).length:Int)+1:=(by omega);rw[e1]at y6 r7 r1;refine⟨i+1,_,by have:=h4.o;omega,rfl,by go_num,?_,?_,?_,r4,r1,c7⟩
    ·rw[HY.o,Qo];go_num
    ·rw[HY.o,Qo,show[i].length=1 from rfl];rwa[List.set_set]at y6
    rwa[HY.o,←QN,HO.o,Dt]
   have c9:((m:Int)==(n:Int))=false:=(by simp;omega);have e2:¬(m:Int)=n:=(by omega);have r5:=MK o n i (by rwa[y1]);have HN:=Qa r5;clear r5 y1 y2 y0 y7
   go_wp2
   go_roundg (o.length-(i+1))
   ·refine⟨i+1,_,by have:=h4.o;omega,rfl,by go_num,by rw[HN.o],?_,?_,h2.o,x2.o,h9.o⟩
    ·rw[HN.o];exact HA.o
    rw[HN.o,HO.o];exact x6.o
   have:=p8.o;have:=h4.o;omega
  have y9:i=o.length:=by have:=h4.o;omega
  have y8:(Ys o n i).length=o.count n:=by rw[y0,y9,Vp]
  have x8:=HA.o;rw[y8]at x8;have e8:(RG o n).set n (o.count n)=RG o (n+1):=Oy (fun j=>o.count j) n z8 (by omega);rw[e8]at x8;have e9:ZH o (n+1)=O:=by rw[←HO.o,y9,ZH];rfl
  have r9:Qh wr 3 (.slice p9 O.length q0) (Qi<|ZH o<|n+1):=by rw[e9];exact x6.o
  have⟨a8,b7,b2⟩:=qc x8 r9 y8;clear y0 y7 y9 y8 x8 r9 e8 e9
  go_wp2
  go_roundg (M+1-(n+1))
  ·exact⟨n+1,_,by omega,by omega,rfl,by go_num,by rw[Us,b2.o],⟨a8.o,b7.o,h2.o⟩,x2.o,h9.o⟩
  have:=Hk.o;omega
 obtain rfl:n=M+1:=by omega
 have d0:¬((M+1:Nat):Int)≤M:=by omega
 go_wp2
 go_ret2;exact⟨g,dv,rfl,by rw[HM.o,p6.o,Zw];exact y.o,p5.o,y4.o⟩
def cM(a cap xs w)(b:Qn w 1 a xs.length (QK xs))(g:xs.length≤140737488351232)(d:XA xs=false):
 Calls prog 255 #[.slice a xs.length cap] w fun e w'=>e=.returned (.tuple #[.pointer none,(80:Int)])∧w=w':=by
 have c:JZ xs=80:=by unfold JZ;rw[d];rfl
 have f:=Qa b;go_enter func255,ntmps255;go_wp2_with fail;refine(Em a cap xs _ f.o g).mono ?_;rintro e w'⟨rfl,rfl⟩;rw[c]
 go_wp2
 go_ret2;exact⟨rfl,rfl⟩
def filled(ls:List Nat)(b:List Nat):List Nat:=(List.range ls.length).map fun a=>if a∈b then Yr ls a else 0
def FO(ls a):(filled ls a).length=ls.length:=by simp[filled]
def vQ(ls):List.replicate ls.length (Value.int .i64 0)=Qi (filled ls []):=by
 apply Xu;intro a
 by_cases hi:a<ls.length
 ·rw[VM,Qg hi];simp[Qi,filled,Xb hi]
 rw[QW (by simp;omega),QW (by rw[QD,FO];omega)]
def vR(ls a i)(hi:i<ls.length):(filled ls a).set i (Yr ls i)=filled ls (a++[i]):=by
 apply Xu;intro b;rw[YV]
 by_cases d:b<ls.length
 ·have c:∀a:List Nat,(filled ls a)[b]?=some (if b∈a then Yr ls b else 0):=fun a=>by simp[filled,Xb d]
  rw[c,c,FO]
  by_cases c:i=b
  ·subst c;rw[Qg rfl,Qg hi,Qg<|by simp]
  rw[Qe c]
  congr 1
  have:b∈a++[i]↔b∈a:=by simp;omega
  simp only[this]
 rw[QW (by rw[FO];omega),QW (by rw[FO];omega),Qe<|by omega]
def vP(ls N)(a:∀x∈ls,x<N):filled ls (ZH ls N)=J9 ls:=by
 unfold filled J9;refine Yu fun b hi=>?_
 have hi:=ZL.1 hi;obtain⟨c,hk⟩:=Qb7 ls N a b hi;rw[Qg<|QC hk]
def lW(w0:World)(g d:Nat)(ls b:List Nat)(k:Nat)(c:Value)(w:World):Prop:=
 ∃a,a≤b.length∧k=b.length-a∧c=.int .i64 (a:Nat)∧Qh w 3 (.slice d ls.length ls.length) (Qi (filled ls (b.take a)))∧Qb [d] w0 w
def tW(g a cap xs dv w)(h:Qn w 1 a xs.length (QK xs))(h8:XA xs=true)(hT:QM w g a xs.length cap (QA xs) ((JK xs).toNat+1) dv):
 Calls prog 256 #[.pointer g] w fun e w'=>∃h,e=.returned (.slice (some ⟨h,0,none⟩) xs.length xs.length)∧
  Qh w' 3 (.slice (some ⟨h,0,none⟩) xs.length xs.length) (Qi<|J9<|QA xs)∧Qb [] w w'∧w.heap.size≤h:=by
 have y0:=((UC xs).1 (UA h8)).2;have hl:=((UC xs).1 (UA h8)).1;have x8:=(IQ xs);have hM:=Ni xs 20 (by decide) fun x q=>(y0 x q).2;obtain⟨M,y8⟩:=X5 x8.1;obtain⟨b0,b5,rfl,-⟩:=h.at (by rw[Xk];omega);rw[y8,Zw]at hT;have r0:M≤20:=by omega
 have x0:=fun n hn=>K.fits (QA xs) (fun x q=>(Cl h8 x q).2) (FT h8) n hn
 have x5:∀x∈QA xs,x<M+1:=by intro x q;simp only[QA,Qy]at q;obtain⟨y,hy,rfl⟩:=q;have:=x8.2 y hy;omega
 have⟨o,x1⟩:=qx<|QA xs;have z8:o.length=xs.length:=by rw[←x1,UF]
 have z6:∀i x,xs[i]?=some x→x=((o.getD i 0:Nat):Int):=by intro i x q;have:=y0 x<|QC q;rw[←x1];unfold QA;rw[List.getD,ZJ,q];simp;omega
 rw[x1]at x0 x5 hT ⊢;have p1:∀x∈o,1≤x:=fun x q=>by rw[←x1]at q;exact(Cl h8 x q).1
 have q3:=Qa p1;clear p1;have⟨O,hO⟩:=qx<|ZH o<|M+1;have y9:=Ka o<|M+1;have y1:=Qb8 o<|M+1;have x9:=vP o (M+1) x5;rw[hO]at y9 y1 x9;obtain⟨hA,h5,q7⟩:=hT;rw[hO]at h5;obtain⟨av,cv,hv,-,-,-,-⟩:=h5.sees;rw[QD]at hv;subst hv;have c0:=QM.of hA;have c1:=QM.order hA;have r1:O.length≤6000:=by have:=Fq (by omega:M+1≤21) (by omega:o.length≤258);omega
 have⟨HS,p8,x2,p9,q0,p7,HA,y6⟩:=qh h x0 z8 z6 y1 x9 hA h5.sZ;have q9:=Qa x5;have b2:0<xs.length:=by omega
 have a6:xs.length≤258:=hl.2;clear h y0 x8 hM y8 x0 x5 x1 z8 z6 hO y9 y1 x9 hA h5 q7 hl h8;go_enter func256,ntmps256;go_wp2_with ((at_make;refine Y0 rfl _ _ 51 rfl 3 (0:Int) 8 XH XR rfl .i64 .i64 _ _ xs.length xs.length rfl rfl rfl rfl (Ql _) (by omega) (by simp only[maxLen];omega) ?_;intro w1 p2 h4;have c0:=h4.cZ c0 (by simp);have c1:=h4.cZ c1<|by simp));have y3:Qh w1 3 (.slice w.heap.size o.length o.length) (Qi<|filled o<|O.take 0):=by rwa[Lj,←vQ,x2.o]
 have⟨y5,q1,x7,y7,q4⟩:=qe y3 h4 (HA.o.kept h4<|by simp) (y6.o.kZ h4)<|HS.o.kZ h4;have q6:g<w.heap.size:=HA.o.lt;generalize hh:w.heap.size=h at q6 y3 y5 ⊢;have HH:=Qa hh;clear hh p2 h4 y3 c0 c1;have c0:=QM.of x7.o;have c1:=QM.order x7.o
 go_wp2
 go_loopg [19] O.length (fun k c wr=>lW w1 g h o O k c wr)
 ·exact⟨0,by omega,by omega,rfl,y5.o,Qc _ _⟩
 obtain⟨k,a1,hk,rfl,h5,z7⟩:=hrel;have⟨Hk,x3,h9⟩:=qc hk h5 z7;clear hk h5 z7 c0 c1
 by_cases hlt:k<O.length
 ·have a7:(k:Int)<O.length:=by omega
  have⟨i,hi⟩:=qy O k hlt;obtain⟨h1,h2,h3⟩:=q0.o k i hi;have x6:∀x,x≠h→x∉[h]:=fun x q hm=>q<|Q8.1 hm
  obtain⟨bo,oo,rfl,-⟩:=y7.o.at (by rw[QD];omega);have b3:bo<h:=by rw[←HH.o];exact y6.o.lt (by rw[QD];omega) bo (by simp[fZ])
  have r2:b0<h:=by rw[←HH.o];exact HS.o.lt (by rw[Xk];omega) b0 (by simp[fZ])
  have p4:=(y7.o.kept h9.o fun x q=>x6 x (by simp[fZ]at q;omega));have p3:=(q4.o.kept h9.o fun x q=>x6 x (by simp[fZ]at q;omega));have x4:=x7.o.kept h9.o (x6 g<|by omega);have⟨x,q⟩:=qy xs i (by rwa[←x2.o]);have p6:=p9.o i x q;have⟨n,hn⟩:=qx<|o.getD i 0;rw[hn]at p6 h2 h3;subst p6;have c0:=QM.of x4;have c2:=p3.int q;have c3:wr.cell? ⟨bo,oo+k,none⟩=some (.int .i64 (i:Int)):=by obtain⟨b',o',he,hc⟩:=p4.2 k _<|UE O k i hi;injection he with he;injection he with e1 e2;subst e1 e2;exact hc
  have a8:1≤n:=by have hm:o.getD i 0∈o:=(by rw[List.getD,Qj h1];exact XW h1);have:=q3.o _ hm;omega
  have cf:=QM.first x4 n (Zr o n) (by unfold RH;rw[Rb _ _ _<|by omega,Qg<|by omega]);have cb:=QM.begin x4 (JU _ _) n (ZH o n).length (by unfold AX;rw[Rb _ _ _<|by omega,Qg<|by omega]);have r7:i<xs.length:=by rwa[←x2.o]
  have r9:(i:Int)<xs.length:=by omega
  obtain⟨old,p0⟩:∃old,(filled o<|O.take k)[i]?=some old:=⟨_,Qj<|by rwa[FO]⟩;have co:=x3.o.aZ<|UE _ i _ p0;have fo:=x3.o.free i;have b1:(n:Int)<22:=by omega
  have x0:=p8.o n (by omega);have q8:2^n≤2^20:=Y7 (by decide) (by omega);have r5:Zr o n≤1048576:=by have e:(2:Nat)^20=1048576:=rfl;omega
  have b4:IntKind.i64.wrap ((Zr o n:Int)+k)=(Zr o n:Int)+k:=Q2 _ (by omega);have z1:Yr o i=Zr o n+k-(ZH o n).length:=by unfold Yr;rw[hn];omega
  have q5:IntKind.i64.wrap ((Zr o n:Int)+k-((ZH o n).length:Int))=((Yr o i:Nat):Int):=by rw[Q2 _<|by omega,z1];omega
  have p5:O.take (k+1)=O.take k++[i]:=by rw[ZE,hi];rfl
  have y2:=x3.o.put i<|.int .i64 ((Yr o i:Nat):Int);rw[VD,vR o _ i h1,←p5]at y2;have y4:=Qa y2;obtain⟨r6,r3,r4⟩: ¬g=h∧¬bo=h∧¬b0=h:=by omega
  clear p0 q hn x6 p4 p3 x4 hi x0 q8 z1 p5 y2 h1 h3;generalize Yr o i=cd at q5 y4;go_wp2_with fail
  go_region
  go_wp2
  go_roundg (O.length-(k+1))
  ·exact⟨k+1,by omega,rfl,by go_num,y4.o,(h9.o.setCell (by simp) _).drew⟩
  have:=Hk.o;omega
 obtain rfl:k=O.length:=by omega
 have hr:=x3.o;rw[Vp,p7.o,x2.o]at hr;have HR:=Qa hr;clear hr
 go_wp2
 go_ret;exact⟨h,rfl,HR.o,q1.o.trans h9.o fun x q=>.inr (by rw[Q8.1 q,HH.o];exact Ql _),by rw[HH.o];exact Ql _⟩
