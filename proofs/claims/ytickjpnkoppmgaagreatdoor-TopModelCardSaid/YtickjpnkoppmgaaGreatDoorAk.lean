import Derived.Test.YtickjpnkoppmgaaGreatDoorAf
set_option linter.all false
set_option maxHeartbeats 1000000
set_option maxRecDepth 100000
namespace Go.Proofs.YtickjpnkoppmgaaGreatDoor
open Go.Proofs.Tryz Go.RowKit K
section
def Uh(xs:LI):Int:=xs.foldl max 0
def OX(xs x):Uh (xs++[x])=max (Uh xs) x:=by simp[Uh,BS]
def Lg(xs):0<=Uh xs/\∀x∈xs,x<=Uh xs:=by
 suffices c:∀d (xs:LI),xs.length=d->0<=Uh xs/\∀x∈xs,x<=Uh xs from c _ xs rfl
 intro d
 induction d with
 |zero=>intro xs c;rw[J4 c];simp[Uh]
 |succ d ih=>
  intro xs c;have hne:xs≠[]:=by intro d;simp[d]at c
  have e:=Ii hne;obtain⟨g,d⟩:=ih xs.dropLast (by simp[c]);rw[<-e,OX];refine⟨ox,fun x c=>?_⟩;rcases Q4.1 c with c|c
  ·have:=d x c;omega
  have:x=xs.getLast hne:=by simpa using c
  omega
def OW(xs b)(hb:0<=b)(h:∀x∈xs,x<=b):Uh xs<=b:=by
 suffices this:∀c (xs:LI),xs.length=c->(∀x∈xs,x<=b)->Uh xs<=b from this _ xs rfl h
 intro c
 induction c with
 |zero=>intro xs h _;rw[J4 h];simpa[Uh]using hb
 |succ c ih=>
  intro xs h d;have hne:xs≠[]:=by intro c;simp[c]at h
  have e:=Ii hne;have:=ih xs.dropLast (by simp[h]) fun x g=>d x<|List.dropLast_subset _ g;have c:=d _<|List.getLast_mem hne;rw[<-e,OX];omega
def qV(w0:WD)(xs:LI)(k:Nat)(n c:VL)(w:WD):Prop:=
 ∃d,d<=xs.length/\k=xs.length-d/\c=.int .i64 (d:Nat)/\n=.int .i64 (Uh (xs.take d))/\w0=w
def fT(a cap xs w)(h:Qp w 1 a xs.length (QO xs))(h1:xs.length<=140737488351232):
 Calls prog 285 #[.agg #[.slice a xs.length cap]] w (RK (.int .i64<|Uh xs) w):=by
 have HS:=Qa h;go_enter func285,ntmps285;go_wp2_with fail;have o:Qb [] w (w.alloc<|.cells #[.slice a xs cap] 368):=(Qc _ _).alloc _;generalize w.alloc (.cells #[.slice a xs cap] 368)=W0 at o ⊢;have HK:=Qa o
 go_loopg [3,9] xs (fun k n c wr=>qV W0 xs k n c wr)
 ·exact⟨0,ox,ox,rfl,rfl,rfl⟩
 obtain⟨i,hi,hk,rfl,rfl,rfl⟩:=hrel;have Hk:=Qa hk
 by_cases hlt:i<xs
 ·have h2:(i:Int)<xs.length:=ox
  have⟨x,y⟩:=qy xs i hlt;obtain⟨b0,off,rfl,-⟩:=HS.o.at (by rw[Xx];omega);have c0:=(HS.o.kZ HK.o).int y;have ex:xs.take (i+1)=xs.take i++[x]:=by rw[Zh,y];rfl
  have q:=OX (xs.take i) x;rw[<-ex]at q;have HM:=Qa q;generalize Uh (xs.take i)=M at HM ⊢;go_wp2_with fail
  all_goals
   go_roundg (xs.length-(i+1))
   ·exact⟨i+1,ox,rfl,by go_num,by rw[HM.o];congr 1;omega,rfl⟩
   have:=Hk.o;omega
 obtain rfl:i=xs:=ox
 have hR:=VM (l:=xs);have HR:=Qa hR
 go_wp2
 go_ret;exact⟨by rw[HR.o];rfl,HK.o⟩
def Y1(e d:VL)(F c C:LN):LV:=e::d::(Qi F++(Qi c++Qi C))
def SM:LV:=.slice none 0 0::List.replicate 66 (.int .i64 0)
def tZ(w):(zeroValue 371).run prog w=.ok (.agg (Value.slice none 0 0::SM).toArray) w:=
 (zero_of_info (P:=prog) (t:=371) (v:=.agg (Value.slice none 0 0::SM).toArray) (n:=68) kx).1 w
def z22:LN:=List.replicate 22 0
def Qj3(c):c::SM=Y1 c (.slice none 0 0) z22 z22 z22:=rfl
def Vh(l)(i x:Nat)(h:l[i]?=some x):(Qi l)[i]?=some (.int .i64 (x:Int)):=by simp[Qi,h]
def Rl(l)(i x:Nat):(Qi l).set i (x:Int)=Qi (l.set i x):=by simp[Qi,BU]
section
variable {w:WD} {g:Nat} {t:TypeId} {ov dv:VL} {F B C:LN}
def QT.of(h:Qe w g t (Y1 ov dv F B C)):w.cell? g=some ov:=h.cell rfl
def QT.order(h:Qe w g t (Y1 ov dv F B C)):w.cell? ⟨g,1,none⟩=some dv:=h.cell rfl
def QT.first(h:Qe w g t (Y1 ov dv F B C))(i x:Nat)(hi:F[i]?=some x):w.cell? ⟨g,2+i,none⟩=some (.int .i64 (x:Int)):=by refine h.cell ?_;rw[(ox:2+i=i+1+1),Y1,Ru,Ru,Xc (by rw[QF];exact(Qy.1 hi).1)];exact Vh F i x hi
def QT.begin(h:Qe w g t (Y1 ov dv F B C))(c:F.length=22)(i x:Nat)(hi:B[i]?=some x):w.cell? ⟨g,24+i,none⟩=some (.int .i64 (x:Int)):=by
 refine h.cell ?_;rw[(ox:24+i=22+i+1+1),Y1,Ru,Ru,Zm (by rw[QF];omega),QF,c,
  (ox:22+i-22=i),Xc (by rw[QF];exact(Qy.1 hi).1)]
 exact Vh B i x hi
def QT.count(h:Qe w g t (Y1 ov dv F B C))(d:F.length=22)(c:B.length=22)(i x:Nat)(hi:C[i]?=some x):w.cell? ⟨g,46+i,none⟩=some (.int .i64 (x:Int)):=by
 refine h.cell ?_;rw[(ox:46+i=44+i+1+1),Y1,Ru,Ru,Zm (by rw[QF];omega),QF,d,
  Zm (by rw[QF];omega),QF,c,(ox:44+i-22-22=i)]
 exact Vh C i x hi
def QT.setOrder(h:Qe w g t (Y1 ov dv F B C))(v):Qe (w.setCell ⟨g,1,none⟩ v) g t (Y1 ov v F B C):=h.set 1 v
def QT.setFirst(h:Qe w g t (Y1 ov dv F B C))(i x:Nat)(hi:i<F.length):Qe (w.setCell ⟨g,2+i,none⟩ (x:Int)) g t (Y1 ov dv (F.set i x) B C):=by have:=h.set (2+i) (x:Int);rw[(ox:2+i=i+1+1),Y1,U2,U2,MI _ _<|by rwa[QF],Rl]at this;rw[(ox:2+i=i+1+1)];exact this
def QT.setBegin(h:Qe w g t (Y1 ov dv F B C))(c:F.length=22)(i x:Nat)(hi:i<B.length):Qe (w.setCell ⟨g,24+i,none⟩ (x:Int)) g t (Y1 ov dv F (B.set i x) C):=by
 have:=h.set (24+i) (x:Int);rw[(ox:24+i=22+i+1+1),Y1,U2,U2,V2 _ _ (by rw[QF];omega),QF,c,
  (ox:22+i-22=i),MI _ _<|by rwa[QF],Rl]at this
 rw[(ox:24+i=22+i+1+1)];exact this
def QT.setCount(h:Qe w g t (Y1 ov dv F B C))(d:F.length=22)(c:B.length=22)(i x:Nat):Qe (w.setCell ⟨g,46+i,none⟩ (x:Int)) g t (Y1 ov dv F B<|C.set i x):=by
 have:=h.set (46+i) (x:Int);rw[(ox:46+i=44+i+1+1),Y1,U2,U2,V2 _ _ (by rw[QF];omega),QF,d,
  V2 _ _ (by rw[QF];omega),QF,c,(ox:44+i-22-22=i),Rl]at this
 rw[(ox:46+i=44+i+1+1)];exact this
end
end
def BL(f:Nat->Nat)(n:Nat):LN:=(List.range 22).map fun c=>if 1<=c/\c<n then f c else 0
def Ur(f n):(BL f n).length=22:=by simp[BL]
def RO(f n j)(c:j<22):(BL f n)[j]?=some (if 1<=j/\j<n then f j else 0):=by simp[BL,Xl c]
def Sn(f):BL f 1=z22:=by
 apply XB;intro d
 by_cases c:d<22
 ·rw[RO f 1 d c,Qf ox];unfold z22;rw[V1,Qg c]
 rw[QU (by rw[Ur];omega),QU (by simp[z22];omega)]
def So(f n)(c:1<=n)(e:n<22):(BL f n).set n (f n)=BL f (n+1):=by
 apply XB;intro c;rw[Je]
 by_cases d:c<22
 ·rw[RO f _ c d,RO f _ c d,Ur]
  by_cases d:n=c
  ·subst d;rw[Qg rfl,Qg e,Qg ox]
  rw[Qf d]
  congr 1
  by_cases d:1<=c/\c<n
  ·rw[Qg d,Qg ox]
  rw[Qf d,Qf ox]
 rw[QU (by rw[Ur];omega),QU (by rw[Ur];omega),Qf ox]
def Ak(ls:LN)(n:Nat):LN:=BL (Zw ls) n
def BK(ls:LN)(n:Nat):LN:=BL (fun c=>(ZQ ls c).length) n
def Aj(ls:LN)(n:Nat):LN:=BL (fun c=>ls.count c) n
def QT(w:WD)(g:Nat)(a:OA)(L cap:Nat)(ls:LN)(N:Nat)(c:VL):Prop:=
 Qe w g 371 (Y1 (.slice a L cap) c (Ak ls N) (BK ls N) (Aj ls N))/\Qh w 3 c (Qi (ZQ ls N))/\g∉Qd c
def QT.kept{S w w' g a L cap ls N c}(h:QT w g a L cap ls N c)(hk:Qb S w w')(ha:Qq (g::Qd c) S):QT w' g a L cap ls N c:=
 ⟨h.1.kept hk<|ha g sx,h.2.1.kept hk fun d c=>ha d<|by simp[c],h.2.2⟩
def QT.lt{w g a L cap ls N c}(h:QT w g a L cap ls N c):∀x∈g::Qd c,x<w.heap.size:=by
 intro x c;rcases QD.1 c with rfl|c
 ·exact h.1.lt
 exact h.2.1.lt x c
def qX(w0:WD)(g:Nat)(a:OA)(L cap:Nat)(ls:LN)(d:Nat)(k:Nat)(h i:VL)(w:WD):Prop:=
 ∃c e,1<=c/\c<=d+1/\k=d+1-c/\i=.int .i64 (c:Nat)/\h=.int .i64 (Zw ls (c-1)+ls.count (c-1):Nat)/\QT w g a L cap ls c e/\Qb [] w0 w/\Qu w0 (g::Qd e)
def qY(w0:WD)(g:Nat)(a:OA)(L cap:Nat)(ls:LN)(n:Nat)(k:Nat)(e h:VL)(w:WD):Prop:=
 ∃c d,c<=ls.length/\k=ls.length-c/\h=.int .i64 (c:Nat)/\e=.int .i64 (Zw ls n+(YS ls n c).length:Nat)/\
  Qe w g 371 (Y1 (.slice a L cap) d (Ak ls (n+1)) (BK ls (n+1)) ((Aj ls n).set n (YS ls n c).length))/\
  Qh w 3 d (Qi (ZQ ls n++YS ls n c))/\g∉Qd d/\Qb [] w0 w/\Qu w0 (g::Qd d)
def qZ(a:OA)(L cap:Nat)(ls:LN)(g:Nat)(w:WD)(e:Ending)(w':WD):Prop:=
 ∃c d,e=.returned (.tuple #[.pointer (some ⟨c,0,none⟩),(0:Int)])/\QT w' c a L cap ls (g+1) d/\Qb [] w w'/\Qu w (c::Qd d)
def Lr(ls N):(ZQ ls N).length<=N*ls.length:=by
 induction N with
 |zero=>simp[ZQ]
 |succ N ih=>rw[ZQ,Qo,Ox,DG];have:=Ih (a:=N) (l:=ls);omega
def gD(a cap xs w)(h:Qp w 1 a xs.length (QO xs))(h5:XM xs=true):
 Calls prog 255 #[.slice a xs.length cap] w (qZ a xs.length cap (QE xs) (Uh xs).toNat w):=by
 have y9:=((Ve xs).1 (Vc h5)).2;have hl:=((Ve xs).1 (Vc h5)).1;have q1:=(Lg xs).1;have hM:=OW xs 20 dx fun x q=>(y9 x q).2;obtain⟨M,q3⟩:=Yu q1;have hR:Uy xs=0:=by unfold Uy;rw[h5];rfl
 obtain⟨b0,off,rfl,-⟩:=h.at (by rw[Xx];omega);have q6:=fun n hn=>K.fits (QE xs) (fun x q=>(CU h5 x q).2) (GH h5) n hn
 have⟨HS,b2,y2,HM⟩:=qd h y9 q6 q3;have d5:M<=20:=ox
 have hz:=tZ;clear h y9 q1 q6 hM;go_enter func255,ntmps255;go_wp2_with fail;go_fit(Gv (some ⟨b0,off,none⟩) cap xs _ HS.o ox);rintro e w'⟨rfl,rfl⟩;rw[hR];clear hR q3;go_wp2_with fail;rw[Qj3];have hA:=Qx w (Y1 (.slice (some ⟨b0,off,none⟩) xs.length cap) () z22 z22 z22) 371;have z1:Qb [] w (w.alloc<|.cells (Y1 (.slice (some ⟨b0,off,none⟩) xs.length cap) () z22 z22 z22).toArray 371):=(Qc _ _).alloc _;generalize w.alloc (.cells (Y1 (.slice (some ⟨b0,off,none⟩) xs.length cap) () z22 z22 z22).toArray 371)=W0 at hA z1 ⊢;have q8:w.heap.size<=w.heap.size:=Qk _;generalize hg:w.heap.size=g at hA q8 ⊢;have⟨HG,HA,b3⟩:=qc hg hA z1;clear hz hg hA z1 q8;have⟨o,x4⟩:=qx<|QE xs;have r1:o.length=xs.length:=by rw[<-x4,Vi]
 have a1:o.count 0=0:=by rw[List.count_eq_zero];intro h;rw[<-x4]at h;have:=(CU h5 0 h).1;omega
 have⟨p5,h3,p6⟩:=qc x4 r1 a1;rw[x4]at y2 ⊢;clear x4 r1 a1 h5
 go_loopg [6,7] M (fun k cv nv wr=>qX w g (some ⟨b0,off,none⟩) xs.length cap o M k cv nv wr)
 ·refine⟨1,(),Qk _,ox,ox,rfl,by rw[show 1-1=0 from rfl,p6.o];rfl,⟨?_,?_,by simp[Qd,qo]⟩,b3.o,fun x q=>?_⟩
  ·unfold Ak BK Aj;rw[Sn,Sn,Sn];exact HA.o
  ·have:ZQ o 1=[]:=(by rw[ZQ,ZQ,YU];exact J4 (by rw[Ox];exact p6.o));rw[this];exact Qh.nil _ _
  simp[Qd,qo]at q;rw[q,HG.o];exact Qk _
 obtain⟨n,dv,z7,hn,hk,rfl,rfl,p0,x3,x2⟩:=hrel;have⟨Hk,HT,p3,y3⟩:=qd hk p0 x3 x2;have c0:=QT.of p0.1;clear hk p0 x3 x2;go_wp2_with fail;go_fit(fT (some ⟨b0,off,none⟩) cap xs _ (HS.o.kZ p3.o) ox);rintro e w2⟨rfl,z6⟩;have⟨y,p4⟩:=qb (HT.o.kept z6<|Zy _) (p3.o.new z6<|by simp[Qu]);rw[HM.o];clear z6 c0
 by_cases hlt:n<=M
 ·have c9:(n:Int)<=M:=ox
  have q7:=y2.o (n-1) ox;have r5:2^(n-1)<=2^19:=Ju dx ox;have x8:Zw o n=2*(Zw o (n-1)+o.count (n-1)):=by obtain⟨m,rfl⟩:∃m,n=m+1:=⟨n-1,ox⟩;rw[U3,Zw]
  have c4:Zw o (n-1)+o.count (n-1)<=524288:=QS q7 r5;have⟨h1,q4⟩:=qx<|Zw o (n-1)+o.count (n-1);rw[q4]at x8 c4 ⊢;have a8:=Qa x8;have e4:IntKind.i64.wrap ((h1:Int)*2)=((2*h1:Nat):Int):=by rw[Za _ ox];omega
  obtain⟨av,cv,hv,-,-,-,-⟩:=y.o.2.1.sees;rw[QF]at hv;subst hv;have c1:=QT.order y.o.1;have cf:=QT.first y.o.1 n 0 (by unfold Ak;rw[RO _ _ _ ox,Qf ox]);have cb:=QT.begin y.o.1 (Ur _ _) n 0 (by unfold BK;rw[RO _ _ _ ox,Qf ox]);have ff:=y.o.1.free<|2+n;have fb:=y.o.1.free<|24+n;have e2:(n:Int)<22:=ox
  have e3:=Lr o n;have q0:=QT.setFirst y.o.1 n (2*h1) (by unfold Ak;rw[Ur];omega);have y4:=QT.setBegin q0 (by rw[JO];exact Ur _ _) n (ZQ o n).length (by unfold BK;rw[Ur];omega);have eF:(Ak o n).set n (2*h1)=Ak o (n+1):=by rw[<-x8];exact So _ n z7 ox
  have eB:(BK o n).set n (ZQ o n).length=BK o (n+1):=So (fun j=>(ZQ o j).length) n z7 ox;rw[eF,eB,show((2*h1:Nat):Int)=2*(h1:Int)by omega]at y4;have h4:Qb [g] w2 ((w2.setCell ⟨g,2+n,none⟩<|.int .i64<|2*(h1:Int)).setCell ⟨g,24+n,none⟩<|.int .i64 ((ZQ o n).length:Int)).drew:=
   (((Qc [g] w2).setCell sx _).setCell sx _).drew
  have⟨p1,p2⟩:=qb y4 h4;clear q7 r5 q4 x8 q0 y4 eF eB h4;go_wp2_with fail
  go_region
  have x6:Qe ((w2.setCell ⟨g,2+n,none⟩<|.int .i64<|2*(h1:Int)).setCell ⟨g,24+n,none⟩<|.int .i64 ((ZQ o n).length:Int)).drew g 371 (Y1 (.slice (some ⟨b0,off,none⟩) xs.length cap) (.slice av (ZQ o n).length cv) (Ak o<|n+1) (BK o<|n+1)<|Aj o n):=p1.o;have h4:=p2.o;clear p1 p2 c1 cf cb ff fb;generalize ((w2.setCell ⟨g,2+n,none⟩<|.int .i64<|2*(h1:Int)).setCell ⟨g,24+n,none⟩<|.int .i64 ((ZQ o n).length:Int)).drew=W3 at x6 h4 ⊢;have⟨a6,b7,b5,b4⟩:=qd x6 (y.o.2.1.kept h4 fun x q hm=>y.o.2.2<|by rwa[Zb.1 hm]at q) y.o.2.2<|p4.o.new h4 (fun x q=>by rw[Zb.1 q];exact y3.o g sx);have c0:=QT.of x6;clear x6 h4
  go_wp2
  go_loopg [6,52] o.length (fun k cv iv wr=>qY w g (some ⟨b0,off,none⟩) xs.length cap o n k cv iv wr)
  ·refine⟨0,_,ox,ox,rfl,?_,?_,?_,b5.o,b4.o,y3.o⟩
   ·rw[Ow,a8.o];go_num
   ·rw[Ow];have e:(Aj o n).set n 0=Aj o n:=by
     apply XB;intro j;rw[Je]
     split
     ·rename_i hj;subst hj;unfold Aj;rw[RO _ _ _ ox,Ur,Qg ox,Qf ox]
     rfl
    rw[show(([]:LN)).length=0 from rfl,e];exact a6.o
   rw[Ow,XX];exact b7.o
  obtain⟨i,dv,hi,hk,rfl,rfl,hA,z8,r2,x3,x2⟩:=hrel;have p7:=Qa hk;have⟨O,hO⟩:=qx<|ZQ o n++YS o n i;rw[hO]at z8;have⟨HO,HA,x5,h2,x1,h8⟩:=qf hO hA z8 r2 x3 x2;have x9:=Ot o n i hi;have y6:(o.take i).count n<=258:=QS (Ih ..) (by rw[Zd];have:=h3.o;omega);clear hk hA z8 r2 x3 x2 c0 hO;obtain⟨p8,p9,hv,-,-,-,-⟩:=x5.o.sees;rw[QF]at hv;subst hv
  by_cases c7:i<xs.length
  ·have d9:(i:Int)<xs.length:=ox;have⟨x,q⟩:=qy xs i c7;have d4:=b2.o x<|QB q;have c3:=(HS.o.kZ x1.o).int q;obtain⟨m,rfl⟩:=Yu (ox:0<=x);have y0:o.getD i 0=m:=(by rw[<-p5.o];unfold QE;rw[List.getD,Zz,q];rfl);clear q d4
   by_cases y1:m=n
   ·have c8:(m:Int)=n:=ox;have c1:=QT.order HA.o;have f1:=HA.o.free 1;have cc:=QT.count HA.o (Ur _ _) (Ur _ _) n (YS o n i).length (by rw[Je,Qg rfl,Qg (by unfold Aj;rw[Ur];omega)]);have fc:=HA.o.free<|46+n;have r9:=Ov o n i<|y0.trans y1;have d2:=x5.o;have d0:=Lr o n;have e5:O.length<=6000:=(by rw[<-HO.o,Qo];have:=h3.o;have:=Ga (ox:n<=20) (ox:o.length<=258);omega);have L1:(Qi O).length+1<=maxLen:=(by rw[QF];simp only[maxLen];omega);have L2:((Qi O).length+1)*8<=140737488355328:=(by rw[QF];omega);have HY:=Qa r9;have d8:(YS o n i).length<=258:=ox;have c5:=y2.o n ox;have d6:Zw o n<=1048576:=(by have:2^n<=2^20:=Ju dx ox;have e:(2:Nat)^20=1048576:=rfl;omega);subst y1;clear r9 d0 y0 x9 y6 c5;go_wp2_with ((at_builtin;refine Vn _ rfl _ _ 51 rfl 3 (0:Int) 8 XP XZ rfl _ _ [(i:Int)] 1 rfl rfl rfl rfl (by simp[Value.oneCell']) d2 L1 L2 ?_;intro a5 h9 w5 d3 x0 q9;have d1:=x0.cZ c1 h2.o;have e1:=(x0.oZ c1 h2.o).trans f1;have dc:=x0.cZ cc h2.o;have ec:=(x0.oZ cc h2.o).trans fc))
    go_region
    go_wp2
    go_roundg (o.length-(i+1))
    case measure=>have:=p7.o;have:=h3.o;omega
    have d7:g<wr.heap.size:=HA.o.lt;have b8:=HA.o.kept x0 h2.o;have b9:=QT.setOrder b8<|.slice a5 ((Qi O).length+1) h9;have y5:=QT.setCount b9 (Ur _ _) (Ur _ _) m<|(YS o m i).length+1;have r3:g∉Qd (.slice a5 ((Qi O).length+1) h9):=by
     intro hm;rcases q9 g hm with h|h
     ·exact h2.o h
     omega
    have r6:Qh ((w5.setCell ⟨g,1,none⟩<|.slice a5 ((Qi O).length+1) h9).setCell ⟨g,46+m,none⟩<|.int .i64 ((((YS o m i).length+1:Nat)):Int)).drew 3 (.slice a5 ((Qi O).length+1) h9) (Qi O++[.int .i64 (i:Int)]):=
     d3.kept ((((Qc [g] w5).setCell sx _).setCell sx _).drew) (fun x q hm=>r3<|by rwa[Zb.1 hm]at q)
    have q5:Qu w.heap.size (Qd<|.slice p8 O.length p9):=fun x q=>h8.o x (by simp[q])
    have r0:Qb [] w ((w5.setCell ⟨g,1,none⟩<|.slice a5 ((Qi O).length+1) h9).setCell ⟨g,46+m,none⟩<|.int .i64 ((((YS o m i).length+1:Nat)):Int)).drew:=
     (((x1.o.new x0 q5).setCell (.inr<|h8.o g sx) _).setCell (.inr<|h8.o g sx) _).drew
    have c6:Qu w.heap.size (g::Qd (.slice a5 ((Qi O).length+1) h9)):=by
     intro x q;rcases QD.1 q with rfl|q
     ·exact h8.o _ sx
     exact(q5.grow q9 x1.o.size) x q
    have e1:(((YS o m i).length+1:Nat):Int)=((YS o m i).length:Int)+1:=ox;rw[e1]at y5 r6 r0;refine⟨i+1,_,yx h3.o,rfl,by go_num,?_,?_,?_,r3,r0,c6⟩
    ·rw[HY.o,Qo];go_num
    ·rw[HY.o,Qo,show[i].length=1 from rfl];rwa[List.set_set]at y5
    rwa[HY.o,<-QR,HO.o,DV]
   have c8:((m:Int)==(n:Int))=false:=zx;have e0:¬(m:Int)=n:=ox;have r4:=Ou o n i (by rwa[y0]);have HN:=Qa r4;clear r4 y0 y1 x9 y6
   go_wp2
   go_roundg (o.length-(i+1))
   ·refine⟨i+1,_,yx h3.o,rfl,by go_num,by rw[HN.o],?_,?_,h2.o,x1.o,h8.o⟩
    ·rw[HN.o];exact HA.o
    rw[HN.o,HO.o];exact x5.o
   have:=p7.o;have:=h3.o;omega
  have y8:i=o.length:=yx h3.o
  have y7:(YS o n i).length=o.count n:=by rw[x9,y8,VM]
  have x7:=HA.o;rw[y7]at x7;have e8:(Aj o n).set n (o.count n)=Aj o (n+1):=So (fun j=>o.count j) n z7 ox;rw[e8]at x7;have e9:ZQ o (n+1)=O:=by rw[<-HO.o,y8,ZQ];rfl
  have r7:Qh wr 3 (.slice p8 O.length p9) (Qi<|ZQ o<|n+1):=by rw[e9];exact x5.o
  have⟨a7,b6,b1⟩:=qc x7 r7 y7;clear x9 y6 y8 y7 x7 r7 e8 e9
  go_wp2
  go_roundg (M+1-(n+1))
  ·exact⟨n+1,_,ox,ox,rfl,by go_num,by rw[U3,b1.o],⟨a7.o,b6.o,h2.o⟩,x1.o,h8.o⟩
  have:=Hk.o;omega
 obtain rfl:n=M+1:=ox
 have c9:¬((M+1:Nat):Int)<=M:=ox
 go_wp2
 go_ret2;exact⟨g,dv,rfl,by rw[HM.o,p5.o,ZH];exact y.o,p4.o,y3.o⟩
def gC(a cap xs w)(h:Qp w 1 a xs.length (QO xs))(i:xs.length<=140737488351232)(d:XM xs=false):
 Calls prog 255 #[.slice a xs.length cap] w fun e w'=>e=.returned (.tuple #[.pointer none,(80:Int)])/\w=w':=by
 have c:Uy xs=80:=by unfold Uy;rw[d];rfl
 have g:=Qa h;go_enter func255,ntmps255;go_wp2_with fail;go_fit(Gv a cap xs _ g.o i);rintro e w'⟨rfl,rfl⟩;rw[c]
 go_wp2
 go_ret2;exact⟨rfl,rfl⟩
def filled(ls:LN)(d:LN):LN:=(List.range ls.length).map fun c=>if c∈d then YQ ls c else 0
def GC(ls c):(filled ls c).length=ls.length:=by simp[filled]
def zQ(ls):List.replicate ls.length (Value.int .i64 0)=Qi (filled ls []):=by
 apply XB;intro c
 by_cases hi:c<ls
 ·rw[V1,Qg hi];simp[Qi,filled,Xl hi]
 rw[QU zx,QU (by rw[QF,GC];omega)]
def zR(ls c i)(hi:i<ls.length):(filled ls c).set i (YQ ls i)=filled ls (c++[i]):=by
 apply XB;intro d;rw[Je]
 by_cases g:d<ls
 ·have e:∀c:LN,(filled ls c)[d]?=some (if d∈c then YQ ls d else 0):=fun c=>by simp[filled,Xl g]
  rw[e,e,GC]
  by_cases e:i=d
  ·subst e;rw[Qg rfl,Qg hi,Qg sx]
  rw[Qf e]
  congr 1
  have:d∈c++[i]↔d∈c:=zx
  simp only[this]
 rw[QU (by rw[GC];omega),QU (by rw[GC];omega),Qf ox]
def zP(ls N)(h:∀x∈ls,x<N):filled ls (ZQ ls N)=UM ls:=by
 unfold filled UM;refine YT fun c hi=>?_
 have hi:=ZR.1 hi;obtain⟨k,hk⟩:=Qfb ls N h c hi;rw[Qg<|QB hk]
def pR(w0:WD)(g h:Nat)(ls e:LN)(k:Nat)(c:VL)(w:WD):Prop:=
 ∃d,d<=e.length/\k=e.length-d/\c=.int .i64 (d:Nat)/\Qh w 3 (.slice h ls ls) (Qi (filled ls (e.take d)))/\Qb [h] w0 w
def xS(g a cap xs dv w)(h:Qp w 1 a xs.length (QO xs))(h8:XM xs=true)(hT:QT w g a xs.length cap (QE xs) ((Uh xs).toNat+1) dv):
 Calls prog 256 #[.pointer g] w fun e w'=>∃h,e=.returned (.slice (some ⟨h,0,none⟩) xs.length xs.length)/\
  Qh w' 3 (.slice (some ⟨h,0,none⟩) xs.length xs.length) (Qi<|UM<|QE xs)/\Qb [] w w'/\w.heap.size<=h:=by
 have y0:=((Ve xs).1 (Vc h8)).2;have hl:=((Ve xs).1 (Vc h8)).1;have x8:=(Lg xs);have hM:=OW xs 20 dx fun x q=>(y0 x q).2;obtain⟨M,y8⟩:=Yu x8.1;obtain⟨b0,off,rfl,-⟩:=h.at (by rw[Xx];omega);rw[y8,ZH]at hT;have r0:M<=20:=ox
 have x0:=fun n hn=>K.fits (QE xs) (fun x q=>(CU h8 x q).2) (GH h8) n hn
 have x5:∀x∈QE xs,x<M+1:=by intro x q;simp only[QE,QA]at q;obtain⟨y,hy,rfl⟩:=q;have:=x8.2 y hy;omega
 have⟨o,x1⟩:=qx<|QE xs;have z8:o.length=xs.length:=by rw[<-x1,Vi]
 have z6:∀i x,xs[i]?=some x->x=((o.getD i 0:Nat):Int):=by intro i x q;have:=y0 x<|QB q;rw[<-x1];unfold QE;rw[List.getD,Zz,q];simp;omega
 rw[x1]at x0 x5 hT ⊢;have p1:∀x∈o,1<=x:=fun x q=>by rw[<-x1]at q;exact(CU h8 x q).1
 have q3:=Qa p1;clear p1;have⟨O,hO⟩:=qx<|ZQ o<|M+1;have y9:=Lr o<|M+1;have y1:=Qfc o<|M+1;have x9:=zP o (M+1) x5;rw[hO]at y9 y1 x9;obtain⟨hA,h5,q7⟩:=hT;rw[hO]at h5;obtain⟨av,cv,hv,-,-,-,-⟩:=h5.sees;rw[QF]at hv;subst hv;have c0:=QT.of hA;have c1:=QT.order hA;have r1:O.length<=6000:=yx (Ga (ox:M+1<=21) (ox:o.length<=258))
 have⟨HS,p8,x2,p9,q0,p7,HA,y6⟩:=qh h x0 z8 z6 y1 x9 hA h5.sZ;have q9:=Qa x5;have b2:0<xs.length:=ox
 have a6:xs.length<=258:=hl.2;clear h y0 x8 hM y8 x0 x5 x1 z8 z6 hO y9 y1 x9 hA h5 q7 hl h8;go_enter func256,ntmps256;go_wp2_with ((at_make;refine Jp rfl _ _ 51 rfl 3 (0:Int) 8 XP XZ rfl .i64 .i64 _ _ xs.length xs.length rfl rfl rfl rfl (Qk _) ox (by simp only[maxLen];omega) ?_;intro w1 p2 h4;have c0:=h4.cZ c0 sx;have c1:=h4.cZ c1 sx));have y3:Qh w1 3 (.slice w.heap.size o.length o.length) (Qi<|filled o<|O.take 0):=by rwa[DB,<-zQ,x2.o]
 have⟨y5,q1,x7,y7,q4⟩:=qe y3 h4 (HA.o.kept h4 sx) (y6.o.kZ h4)<|HS.o.kZ h4;have q6:g<w.heap.size:=HA.o.lt;generalize hh:w.heap.size=h at q6 y3 y5 ⊢;have HH:=Qa hh;clear hh p2 h4 y3 c0 c1;have c0:=QT.of x7.o;have c1:=QT.order x7.o
 go_wp2
 go_loopg [19] O.length (fun k c wr=>pR w1 g h o O k c wr)
 ·exact⟨0,ox,ox,rfl,y5.o,Qc _ _⟩
 obtain⟨k,a1,hk,rfl,h5,z7⟩:=hrel;have⟨Hk,x3,h9⟩:=qc hk h5 z7;clear hk h5 z7 c0 c1
 by_cases hlt:k<O.length
 ·have a7:(k:Int)<O.length:=ox
  have⟨i,hi⟩:=qy O k hlt;obtain⟨h1,h2,h3⟩:=q0.o k i hi;have x6:∀x,x≠h->x∉[h]:=fun x q hm=>q<|Zb.1 hm
  obtain⟨bo,oo,rfl,-⟩:=y7.o.at (by rw[QF];omega);have b3:bo<h:=by rw[<-HH.o];exact y6.o.lt (by rw[QF];omega) bo (by simp[fZ])
  have r2:b0<h:=by rw[<-HH.o];exact HS.o.lt (by rw[Xx];omega) b0 (by simp[fZ])
  have p4:=(y7.o.kept h9.o fun x q=>x6 x (by simp[fZ]at q;omega));have p3:=(q4.o.kept h9.o fun x q=>x6 x (by simp[fZ]at q;omega));have x4:=x7.o.kept h9.o (x6 g ox);have⟨x,q⟩:=qy xs i (by rwa[<-x2.o]);have p6:=p9.o i x q;have⟨n,hn⟩:=qx<|o.getD i 0;rw[hn]at p6 h2 h3;subst p6;have c0:=QT.of x4;have c2:=p3.int q;have c3:wr.cell? ⟨bo,oo+k,none⟩=some (.int .i64 (i:Int)):=by obtain⟨b',o',he,hc⟩:=p4.2 k _<|Vh O k i hi;injection he with he;injection he with e1 e2;subst e1 e2;exact hc
  have a8:1<=n:=by have hm:o.getD i 0∈o:=(by rw[List.getD,Qj h1];exact Yc h1);have:=q3.o _ hm;omega
  have cf:=QT.first x4 n (Zw o n) (by unfold Ak;rw[RO _ _ _ ox,Qg ox]);have cb:=QT.begin x4 (Ur _ _) n (ZQ o n).length (by unfold BK;rw[RO _ _ _ ox,Qg ox]);have r7:i<xs.length:=by rwa[<-x2.o]
  have r9:(i:Int)<xs.length:=ox
  obtain⟨old,p0⟩:∃old,(filled o<|O.take k)[i]?=some old:=⟨_,Qj<|by rwa[GC]⟩;have co:=x3.o.aZ<|Vh _ i _ p0;have fo:=x3.o.free i;have b1:(n:Int)<22:=ox
  have x0:=p8.o n ox;have q8:2^n<=2^20:=Ju dx ox;have r5:Zw o n<=1048576:=by have e:(2:Nat)^20=1048576:=rfl;omega
  have b4:IntKind.i64.wrap ((Zw o n:Int)+k)=(Zw o n:Int)+k:=Za _ ox;have z1:YQ o i=Zw o n+k-(ZQ o n).length:=by unfold YQ;rw[hn];omega
  have q5:IntKind.i64.wrap ((Zw o n:Int)+k-((ZQ o n).length:Int))=((YQ o i:Nat):Int):=by rw[Za _ ox,z1];omega
  have p5:O.take (k+1)=O.take k++[i]:=by rw[Zh,hi];rfl
  have y2:=x3.o.put i<|.int .i64 ((YQ o i:Nat):Int);rw[Rl,zR o _ i h1,<-p5]at y2;have y4:=Qa y2;obtain⟨r6,r3,r4⟩: ¬g=h/\¬bo=h/\¬b0=h:=ox
  clear p0 q hn x6 p4 p3 x4 hi x0 q8 z1 p5 y2 h1 h3;generalize YQ o i=cd at q5 y4;go_wp2_with fail
  go_region
  go_wp2
  go_roundg (O.length-(k+1))
  ·exact⟨k+1,ox,rfl,by go_num,y4.o,(h9.o.setCell sx _).drew⟩
  have:=Hk.o;omega
 obtain rfl:k=O.length:=ox
 have hr:=x3.o;rw[VM,p7.o,x2.o]at hr;have HR:=Qa hr;clear hr
 go_wp2
 go_ret;exact⟨h,rfl,HR.o,q1.o.trans h9.o fun x q=>.inr (by rw[Zb.1 q,HH.o];exact Qk _),by rw[HH.o];exact Qk _⟩
