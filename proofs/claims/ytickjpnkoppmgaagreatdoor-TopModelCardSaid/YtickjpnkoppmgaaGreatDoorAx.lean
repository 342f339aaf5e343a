import Derived.Test.YtickjpnkoppmgaaGreatDoorAw
set_option linter.all false
namespace Go.Proofs.YtickjpnkoppmgaaGreatDoor
open Go.Proofs.Tryz Go.RowKit K
def aO(xs)(h:∀s∈xs,0<=s):Q0 (QE xs)=xs:=by
 unfold Q0 QE;rw[Xv]
 conv=>rhs;rw[<-Ex xs]
 apply YT;intro s hs;have:=h s hs;simp;omega
noncomputable def XD(xs:LI)(n:Int):List LI × LI × Nat:=
 if Ym xs n then((AW (QE xs) n.toNat (YC (xs:Int)).1 4).map Q0,Q0 (RG (QE xs) n.toNat (YC (xs:Int)).1 4),0)else([],[],2)
def Qay(a c xs)(n:Int)(w)(h:Qp w 1 a xs.length (QO xs))(y:xs.length<=c)(h2:c<=maxLen)(hl:xs.length<=20000)(o:Ym xs n=true):
 Calls prog 204 #[.slice a xs.length c,n] w (CH (XD xs n).1 (XD xs n).2.1 (XD xs n).2.2 w):=by
 obtain⟨-,h3,h4,-,-,h1⟩:=BZ o;have e:=aO xs fun s hs=>(h1 s hs).1;obtain⟨n,rfl⟩:=Yu (ox:0<=n);have⟨L,q⟩:=qx<|QE xs;rw[q]at e;subst e;have e2:XD (Q0 L) (n:Int)=((AW L n (YC (L:Int)).1 4).map Q0,Q0<|RG L n (YC (L:Int)).1 4,0):=by unfold XD;rw[o,Qg rfl,q,XS,ZH]
 rw[e2];rw[XS]at h y hl ⊢;rw[Bl]at h;exact Qa0 a c n L w h y h2 o hl

def bR(T P L):(JD T P L).1.length<=20*L.length/\((JD T P L).2=0->Xz T P=true)/\((JD T P L).2≠0->(JD T P L).1=[])/\(JD T P L).2<=110:=by
 unfold JD;cases h1:Xz T P with
 |false=>simp
 |true=>
  cases h2:decide (ZP L.length<=P.length)with
  |false=>simp
  |true=>
   cases h3:Yg T P ((T.getD 0 []).length:Nat) 0 L with
   |none=>simp
   |some B=>have:=bM h1 _ L 0 B h3;simpa using this
def rI(R:Nat × Nat)(w:WD)(e:Ending)(w':WD):Prop:=e=.returned (.tuple #[(R.1:Nat),(R.2:Nat)])/\Qb [] w w'
set_option maxHeartbeats 1000000 in
def eC(e d c j g m T P L w)(h:XI w e d j g T P)(x:Qp w 1 c L.length (QO L))(o:L.length<=17592186043904):
 Calls prog 206 #[ZL e T.length j d P.length g,.slice c L.length m] w (rI (Vk T P L) w):=by
 have hk:Qb [] w (w.alloc<|.cells #[.slice e T j,.slice d P g] 255):=(Qc [] w).alloc _;have n:=Qx w [.slice e T j,.slice d P g] 255;have l:=dY e d c j g m T P L _ (h.kept hk) (x.kZ hk) o;unfold ZL at l ⊢;have b0:=n.cq 0 (u:=.slice e T j);have D:=n.cq 1 (u:=.slice d P g);have⟨B,z,I⟩:=qc hk n<|h.kept hk;obtain⟨s,t,p,q⟩:=bR T P L;obtain⟨⟨c,m⟩,o⟩:∃v,JD T P L=v:=⟨_,rfl⟩;have v:=Qa (by unfold Rn;rw[o]:Rn T P L=if m=0 then(Qw c,((c:Nat):Int),0)else([],0,m));rw[o]at s t p q;rw[v.o]at l;have s:c.length<=20*L.length:=s;have q:m<=110:=q;have C:=Qa o
 by_cases hz:m=0
 ·subst hz;have n:Xz T P=true:=t rfl;have⟨o,A,J⟩:=qc (by unfold Vk;rw[C.o];rfl:Vk T P L=((Zx T P).length+c.length,0)) (by unfold BG;rw[n];rfl:BG T P=(Qw<|Zx T P,(((Zx T P).length:Nat):Int),0)) n;have x:=PF n;have⟨q,v⟩:=qx<|Zx T P;rw[v]at o A x;rw[Qg rfl]at l;go_enter func206,ntmps206;go_wp2_with fail;go_fit l;rintro E v⟨rfl,n⟩;unfold Zk;have G:Qb [] w (v.alloc<|.cells #[.string ⟨(Qw c).toArray⟩,(c:Nat)] 204):=(B.o.trans n sx).alloc _;have q:Qb [] (w.alloc<|.cells #[.slice e T j,.slice d P g] 255) (v.alloc<|.cells #[.string ⟨(Qw c).toArray⟩,(c:Nat)] 204):=n.alloc _;have F:=Qx v [.string ⟨(Qw c).toArray⟩,(c:Nat)] 204;have⟨y,H,x⟩:=qc G F<|eA e d j g T P _ (I.o.kept q) J.o;rw[A.o]at x;have c0:=(z.o.kept q sx).cq 0 (u:=.slice e T j);have c1:=(z.o.kept q sx).cq 1 (u:=.slice d P g);unfold ZL at x;go_wp2_with fail;go_fit x.o;rintro E d⟨rfl,e⟩;unfold Zk;have g:=Qa (y.o.trans e sx);have d:=H.o.kept e sx;have hlt:=d.lt;have:=d.cq 1 (u:=.int .i64 (c:Nat))
  go_wp2
  go_ret2;rw[o.o];exact⟨sx,g.o.alloc _⟩
 have d:c=[]:=p hz;subst d;have o:=Qa (by unfold Vk;rw[C.o,Qf hz]:Vk T P L=(0,m));have g1:((m:Int) != 0)=true:=Rf.2 ox;rw[Qf hz]at l;go_enter func206,ntmps206;go_wp2_with fail;go_fit l;rintro E v⟨rfl,n⟩;unfold Zk;have y:=Qa<|(B.o.trans n sx).alloc<|.cells #["",(0:Int)] 204
 go_wp2
 go_ret2;rw[o.o];exact⟨rfl,y.o⟩
def YZ(xs:LI)(n:Int):List LI × LI × Nat:=if Ym xs n then([RC xs n.toNat,RC xs n.toNat],AI xs,0)else([],[],2)
def Qa5(a c xs)(n:Int)(w)(h:Qp w 1 a xs.length (QO xs))(d:Ym xs n=true):
 Calls prog 205 #[.slice a xs.length c,n] w (CH (YZ xs n).1 (YZ xs n).2.1 (YZ xs n).2.2 w):=by
 unfold YZ;obtain⟨-,e,e,-,-,e⟩:=BZ d;obtain⟨n,rfl⟩:=Yu (ox:0<=n);rw[d,ZH];exact Qa7 a c xs n w h d
noncomputable def U8(xs:LI)(n:Int):List LI × LI × Nat:=
 if(XD xs n).2.2=0 then(if(Vk (YZ xs n).1 (YZ xs n).2.1 xs).1<(Vk (XD xs n).1 (XD xs n).2.1 xs).1 then((YZ xs n).1,(YZ xs n).2.1,0)else((XD xs n).1,(XD xs n).2.1,0))else([],[],(XD xs n).2.2)
def Qp.offPlan{w g m a xs}(hA:Qe w g 255 [.slice none 0 0,.slice none 0 0])(hs:Qp w 1 a m xs)(hx:∀u∈xs,u≠.slice none 0 0):0<xs.length->Qq (fZ a) [g]:=by
 intro h0 y hy hm;obtain⟨b,off,rfl,hc⟩:=hs.at h0;have h3:y=b:=by simpa[fZ]using hy
 have h4:y=g:=by simpa using hm
 subst h3;subst h4;have c0:=hc 0 xs[0] (Qj h0);have o:w.cell? ⟨y,off+0,none⟩=_:=ZD w y (off+0) _ _ _ hA;rw[c0]at o;have q:=hx _<|Yc h0;rw[List.getElem?_toArray]at o
 match off+0,o with
 |0,o=>simp at o;exact q o
 |1,o=>simp at o;exact q o
 |k+2,o=>simp at o
def XI.keptR{w w' g aT aP cT cP T P}(y:Qe w g 255 [.slice none 0 0,.slice none 0 0])(h:XI w aT aP cT cP T P)(hne:∀t∈T,0<t.length)(hk:Qb [g] w w'):XI w' aT aP cT cP T P:=by
 have x0:∀l:LI,∀u∈QO l,u≠.slice none 0 0:=by intro l u hu;obtain⟨x,-,rfl⟩:=QA.1 hu;intro h;cases h
 refine⟨?_,h.picks.keptB hk<|Qp.offPlan y h.picks<|x0 P,h.tl,h.pl,h.rl⟩;obtain⟨vs,h1,h2,h3⟩:=h.tabs;have x1:∀u∈vs,u≠.slice none 0 0:=by intro u hu;obtain⟨i,hi⟩:=FT hu;have h9:=(Qy.1 hi).1;rw[h2,QH]at h9;have⟨t,q⟩:=qy T i h9;obtain⟨b,c,rfl,-,-,-⟩:=h3 i u (QO t) hi (by rw[Zz,q];rfl);have:=hne t<|QB q;rw[Xx];intro h;injection h with e1 e2 e3;omega
 refine⟨vs,h1.keptB hk<|Qp.offPlan y h1 x1,h2,fun i u r h4 o=>?_⟩;obtain⟨b,c,rfl,h6,h7,h8⟩:=h3 i u r h4 o;rw[Zz]at o;cases q:T[i]? with
 |none=>rw[q]at o;cases o
 |some t=>rw[q]at o;injection o with o;subst o;exact⟨b,c,rfl,h6.keptB hk<|Qp.offPlan y h6<|x0 t,h7,h8⟩
def wJ(xs n)(h:(XD xs n).2.2=0):Ym xs n=true/\(∀t∈(XD xs n).1,(t.length:Int)=n)/\(XD xs n).1.length=(YC (xs.length:Int)).1:=by
 unfold XD at h ⊢;cases hm:Ym xs n with
 |false=>rw[hm]at h;simp at h
 |true=>
  obtain⟨-,c,c,c,c,c⟩:=BZ hm;have c:=Sq (QE xs) n.toNat (YC (xs:Int)).1 ox (by rw[Vi];omega) 4;refine⟨rfl,fun t d=>?_,?_⟩
  ·rw[Qg rfl]at d;obtain⟨g,e,rfl⟩:=QA.1 d;rw[XS,(c.2 g e).1];omega
  rw[Qg rfl,QH];exact c.1
def wI(xs n)(h:(XD xs n).2.2≠0):(XD xs n).2.2=2/\Ym xs n=false:=by
 unfold XD at h ⊢;cases hm:Ym xs n with
 |false=>simp
 |true=>rw[hm]at h;simp at h
def Qaa(xs n)(h:Ym xs n=true):(YZ xs n).2.2=0/\∀t∈(YZ xs n).1,(t.length:Int)=n:=by
 obtain⟨c,c,c,c,c,c⟩:=BZ h;unfold YZ;rw[h,Qg rfl];refine⟨rfl,fun t c=>?_⟩;have:(RC xs n.toNat).length=n.toNat:=by unfold RC;rw[QH,GE,JH];simp[UL,BY]
 simp at c;subst c;omega
set_option maxHeartbeats 2000000 in
def Qax(a c xs)(n:Int)(w)(h:Qp w 1 a xs.length (QO xs))(d:xs.length<=c)(e:c<=maxLen)(g:xs.length<=20000)(s:Ym xs n=true):
 Calls prog 164 #[.slice a xs.length c,n] w (CH (U8 xs n).1 (U8 xs n).2.1 (U8 xs n).2.2 w):=by
 have hk:Qb [] w (w.alloc<|.cells #[(),()] 255):=(Qc _ _).alloc _;have A:=Qx w [(),()] 255;have x:=wJ xs n;have m:=wI xs n;have o:=Qaa xs n;have⟨q,t,M⟩:=qc (show U8 xs n=if(XD xs n).2.2=0 then(if(Vk (YZ xs n).1 (YZ xs n).2.1 xs).1<(Vk (XD xs n).1 (XD xs n).2.1 xs).1 then((YZ xs n).1,(YZ xs n).2.1,0)else((XD xs n).1,(XD xs n).2.1,0))else([],[],(XD xs n).2.2)from rfl) (fun(z:WD)(B:Qb [] w z)=>Qay a c xs n z (h.kZ B) d e g s) fun(z:WD)(B:Qb [] w z)=>Qa5 a c xs n z (h.kZ B) s;obtain⟨⟨d,g,V⟩,D⟩:∃l,XD xs n=l:=⟨_,rfl⟩;obtain⟨⟨e,j,y⟩,E⟩:∃l,YZ xs n=l:=⟨_,rfl⟩;rw[D]at x m q t;rw[E]at o q M;have⟨Z,P,U,L,X,y,C⟩:=qg s x m o h hk A;clear x m o h hk A D E;go_enter func164,ntmps164;go_wp2_with fail;go_fit(t.o _ y.o);rintro Q m⟨o,x,l,s,rfl,F,A,h5,h3⟩;have⟨G,D,I⟩:=qc (y.o.trans A sx) (C.o.kept A sx) F;clear F A t y C;unfold ZL;have A:Qb [] m (m.alloc<|.cells #[.slice o d x,.slice l g s] 255):=(Qc _ _).alloc _;have E:=Qx m [.slice o d x,.slice l g s] 255;have⟨H,J,O,G⟩:=qd (G.o.trans A sx) (D.o.kept A sx) (I.o.kept A) E;have⟨y,t⟩:=qx<|m.alloc<|.cells #[.slice o d x,.slice l g s] 255;rw[t]at H J O G;have⟨T,C⟩:=qb t<|show w.heap.size<m.heap.size from D.o.lt;have⟨R,y⟩:=qx m.heap.size;rw[y]at G C;have S:=Qa y;clear A E t y I
 by_cases hz:V=0
 ·subst hz;obtain⟨t,C,-⟩:=P.o rfl;obtain⟨m,-⟩:3<=n/\n<=258:=by obtain⟨-,m,y,-⟩:=BZ t;exact⟨m,y⟩
  obtain⟨-,D⟩:=L.o t;have⟨h1,h2,I⟩:=qc (by intro m y;have h:=C m y;omega: ∀m∈d,0<m.length) (by intro m y;have h:=D m y;omega: ∀m∈e,0<m.length) (by rw[q.o,Qg rfl]:U8 xs n=(if(Vk e j xs).1<(Vk d g xs).1 then(e,j,0)else(d,g,0)));clear q;clear t C D P L U;go_wp2_with fail;rw[T.o,S.o];go_fit(M.o _ H.o);rintro Q C⟨q,y,m,t,rfl,F,D,h8,h4⟩;have⟨P,S,V,L,W⟩:=qe (H.o.trans D sx) (J.o.kept D sx) (O.o.kept D) (G.o.kept D sx) F;clear F D M H J O G T;unfold ZL;have A:Qb [] C (C.alloc<|.cells #[.slice q e y,.slice m j t] 255):=(Qc _ _).alloc _;have E:=Qx C [.slice q e y,.slice m j t] 255;have⟨J,T,M,O,G,D⟩:=qf (P.o.trans A sx) (S.o.kept A sx) (V.o.kept A) (W.o.kept A) (L.o.kept A sx) E;have:=L.o.lt;have⟨F,H⟩:=qx<|C.alloc<|.cells #[.slice q e y,.slice m j t] 255;rw[H]at J T M O G D;have⟨P,Y⟩:=qb H<|show R<C/\w.heap.size<C.heap.size from⟨L.o.lt,S.o.lt⟩;have⟨R,L⟩:=qx C.heap.size;rw[L]at D Y;have S:=Qa L;clear A E L W V H;have⟨C,L⟩:=qb (fun(z:WD)(B:Qb [] F z)=>eC o l a x s c d g xs z (M.o.kept B) (X.o.kZ<|J.o.trans B sx) ox) (fun(z:WD)(B:Qb [] F z)=>eC q m a y t c e j xs z (O.o.kept B) (X.o.kZ<|J.o.trans B sx) ox);obtain⟨⟨H,z⟩,A⟩:∃z,Vk d g xs=z:=⟨_,rfl⟩;obtain⟨⟨R,z⟩,z⟩:∃B,Vk e j xs=B:=⟨_,rfl⟩;simp only[A]at C I;simp only[z]at L I;have b0:=G.o.cq 0 (u:=.slice o d x);have B:=G.o.cq 1 (u:=.slice l g s);rw[<-P.o]at b0 B;have E:=C.o F<|Qc _ _;unfold ZL at E;clear A z;go_wp2_with fail;rw[P.o];go_fit E;rintro Q W⟨rfl,z⟩;have V:=Qa z;have c0:=(D.o.kept z sx).cq 0 (u:=.slice q e y);have c1:=(D.o.kept z sx).cq 1 (u:=.slice m j t);have E:=L.o W z;unfold ZL at E;rw[S.o];clear z C P b0 B;go_wp2_with fail;go_fit E;rintro Q B⟨rfl,Q⟩;have z:=Qa<|show Qb [] F B from V.o.trans Q sx;have P:=Qa (J.o.trans z.o sx);have F:=T.o.kept z.o sx;have:=F.cq 0 (u:=.slice none 0 0);have:=F.cq 1 (u:=.slice none 0 0);have:=F.free 0;have:=F.free 1;have C:=Qa F;clear Q E L c0 c1 F
  by_cases hlt:R<H
  ·have L:(R:Int)<H:=ox;have E:=Qa (by rw[I.o,Qg hlt]:U8 xs n=(e,j,0));have F:=(D.o.kept z.o sx).cq 0 (u:=.slice q e y);have J:=(D.o.kept z.o sx).cq 1 (u:=.slice m j t);have s0:=((C.o.set 0<|.slice q e y).set 1<|.slice m j t).cq 0 (u:=.slice q e y);have s1:=((C.o.set 0<|.slice q e y).set 1<|.slice m j t).cq 1 (u:=.slice m j t);clear hlt;go_wp2_with fail;refine Zj (v:=.tuple #[ZL q e y m j t,(0:Int)]) (by simp[results,Wc,go_sem,ZL,s0,s1]) rfl ?_;rw[E.o];have D:Qb [w.heap.size] B ((B.setCell ⟨w.heap.size,0,none⟩<|.slice q e y).setCell ⟨w.heap.size,1,none⟩<|.slice m j t):=((Qc [w.heap.size] B).setCell (p:=w) sx _).setCell (p:=⟨w.heap.size,1,none⟩) sx _;exact⟨q,y,m,t,rfl,(O.o.kept z.o).keptR C.o h2.o D,P.o.trans D (by intro H A;simp at A;subst A;exact .inr<|Qk _),h8,h4⟩
  have L:¬(R:Int)<H:=ox
  have E:=Qa (by rw[I.o,Qf hlt]:U8 xs n=(d,g,0));have F:=(G.o.kept z.o sx).cq 0 (u:=.slice o d x);have J:=(G.o.kept z.o sx).cq 1 (u:=.slice l g s);have s0:=((C.o.set 0<|.slice o d x).set 1<|.slice l g s).cq 0 (u:=.slice o d x);have s1:=((C.o.set 0<|.slice o d x).set 1<|.slice l g s).cq 1 (u:=.slice l g s);clear hlt;go_wp2_with fail;refine Zj (v:=.tuple #[ZL o d x l g s,(0:Int)]) (by simp[results,Wc,go_sem,ZL,s0,s1]) rfl ?_;rw[E.o];have D:Qb [w.heap.size] B ((B.setCell ⟨w.heap.size,0,none⟩<|.slice o d x).setCell ⟨w.heap.size,1,none⟩<|.slice l g s):=((Qc [w.heap.size] B).setCell (p:=w) sx _).setCell (p:=⟨w.heap.size,1,none⟩) sx _;exact⟨o,x,l,s,rfl,(M.o.kept z.o).keptR C.o h1.o D,P.o.trans D (by intro H A;simp at A;subst A;exact .inr<|Qk _),h5,h3⟩
 have h:=(U.o hz).2;rw[Z.o]at h;cases h
def iN(ls):QE (ls.map fun n:Nat=>(n:Int))=ls:=by
 simp only[QE,Xv]
 conv=>rhs;rw[<-Ex ls]
 apply YT;intro c _;simp
def Qas{ls}(h:Br (ls.map fun n:Nat=>(n:Int))=true):XM (ls.map fun n:Nat=>(n:Int))=true/\K.room (QE (ls.map fun n:Nat=>(n:Int)))=1048576/\QE (ls.map fun n:Nat=>(n:Int))=ls:=by
 unfold Br at h;rw[ZE]at h;unfold Vm at h
 split at h
 ·rename_i o;exact⟨by unfold XM;rw[o,h];decide,h,iN ls⟩
 simp at h
def Qag{xs}(h:YA xs=true):Br (Q0<|Y9<|Z0 xs)=true:=by
 obtain⟨c,c,-⟩:=Fm h;have:(Y9<|Z0 xs).length=xs.length:=by rw[GE,JH]
 have k4:=Qaf (Z0 xs) (by rw[JH];omega) (by rw[JH];omega);have k5:=gE ox k4;have k8:Nat.log2 (Z0 xs).length<=8:=jW (fP (by rw[JH];omega)).1 (by rw[JH];omega);unfold Br Vm Q0;have e:=iN<|Y9<|Z0 xs;have g:JU ((Y9<|Z0 xs).map fun c:Nat=>(c:Int))=true:=by unfold JU;rw[Xt,Yb,QH];refine⟨zx,fun c i=>?_⟩;obtain⟨c,d,rfl⟩:=QA.1 i;have a:=k5 c d;have b:=(Qab d).2;rw[ZE];omega
 rw[g,Qg rfl,e,ZE];have d:K.room (Y9<|Z0 xs)=((Y9<|Z0 xs).map fun c=>2^(20-c)).sum:=rfl;rw[d,k4]
structure Ap(T:List LI)(P:LI)(xs:LI)(n:Int):Prop where
 may:Xz T P=true
 many:ZP xs.length<=P.length
 len:∀t∈T,(t.length:Int)=n
 full:∀t∈T,Br t=true
 two:2<=T.length
def dI{T:List LN}{P xs n m}(c:T.length=m)(c:2<=m/\m<=6)(c:P.length=ZP xs.length)(c:1<=xs.length/\xs.length<=1638350)(hp:∀x∈P,x<m)(j:3<=n)(g:∀t∈T,t.length=n/\Br (Q0 t)=true):
 Ap (T.map Q0) (Q0 P) xs (n:Int):=by
 have:1<=ZP xs.length/\ZP xs.length<=32767:=by unfold ZP;omega
 have h:∀t∈T.map Q0,t.length=n:=by intro t c;obtain⟨e,d,rfl⟩:=QA.1 c;rw[XS];exact(g e d).1
 have i:∀t∈T.map Q0,Br t=true:=by intro t c;obtain⟨e,d,rfl⟩:=QA.1 c;exact(g e d).2
 refine⟨gX (by rw[QH];omega) (by rw[XS];omega) (fun t c=>?_) fun x c=>?_,by rw[XS];omega,fun t c=>by have:=h t c;omega,i,by rw[QH];omega⟩
 ·have h0:((T.map Q0).getD 0 []).length=n:=by obtain⟨t0,h0⟩:∃t,(T.map Q0)[0]?=some t:=⟨_,Qj (by rw[QH];omega)⟩;rw[List.getD,h0];exact h t0 (QB h0)
  rw[h0,Hp];obtain⟨e,d,rfl⟩:=QA.1 c;exact⟨h _ c,by rwa[XS,(g e d).1],(Qas (g e d).2).1⟩
 obtain⟨e,d,rfl⟩:=QA.1 c;have:=hp e d;rw[QH];omega
def bB(xs n)(h:Ym xs n=true):Ap (XD xs n).1 (XD xs n).2.1 xs n/\(XD xs n).2.2=0:=by
 obtain⟨-,h3,h1,q,y,h2⟩:=BZ h;obtain⟨-,t2,t3⟩:=nI xs q;have⟨m,hm⟩:=qx<|(YC (xs:Int)).1;rw[hm]at t2 t3;have o:(QE xs).length=xs.length:=Vi xs;unfold XD;rw[h,Qg rfl,hm];refine⟨?_,rfl⟩;obtain⟨n,rfl⟩:=Yu (ox:0<=n);rw[ZH];have hg:=Sq (QE xs) n m ⟨ox,ox⟩ (by rwa[o]) 4;refine dI hg.1 ⟨t2,t3⟩ (by rw[Pz,o]) ⟨q,y⟩ (Qf4 _ _ _ ox) ox fun t ht=>⟨(hg.2 t ht).1,?_⟩
 obtain⟨k,-,rfl⟩:=QA.1<|show t∈(List.range m).map _ from ht;exact(OS _ (by rw[R9];omega) (by rw[R9];omega) (fun c hc=>by have:=Ku _ _ _ _ _ c hc;rw[o]at this;omega)).2.2
def Qae(xs n)(h:Ym xs n=true):Ap (YZ xs n).1 (YZ xs n).2.1 xs n/\(YZ xs n).2.2=0:=by
 obtain⟨o,h3,h2,h4,h5,h8⟩:=BZ h;unfold YZ;rw[h,Qg rfl];refine⟨?_,rfl⟩;obtain⟨n,rfl⟩:=Yu (ox:0<=n);rw[ZH]at o ⊢;have y:RC xs n=Q0 (Y9<|Z0<|UL xs n):=rfl;have e2:AI xs=Q0 (List.replicate (ZP xs.length) 0):=by unfold AI Q0;simp
 have h1:(Y9<|Z0<|UL xs n).length=n:=by rw[GE,JH];simp[UL,BY]
 have:=dI (T:=[Y9<|Z0<|UL xs n,Y9<|Z0<|UL xs n]) (P:=List.replicate (ZP xs.length) 0) (xs:=xs) (n:=n) (m:=2) rfl ⟨by omega,by omega⟩ sx ⟨h4,h5⟩ (fun x hx=>by rw[BR hx];omega) (by omega) (fun t q=>by simp at q;subst q;exact⟨h1,Qag o⟩);rw[y,e2];exact this
def Ap.head{T P xs n}(h:Ap T P xs n):((T.getD 0 []).length:Int)=n:=by obtain⟨t0,h0⟩:∃c,T[0]?=some c:=⟨_,Qj (yx h.two)⟩;rw[List.getD,h0];exact h.len t0<|QB h0
def Ap.codes{T P xs n}(h:Ap T P xs n)(e:∀s∈xs,0<=s/\s<n):∃c,Yg T P n 0 xs=some c/\JD T P xs=(c,0):=by obtain⟨c,d⟩:=bQ T P n xs 0 e;refine⟨c,d,?_⟩;unfold JD;rw[h.may,XE h.many,h.head,d];rfl
def vA(xs n)(h:Ym xs n=true):Ap (U8 xs n).1 (U8 xs n).2.1 xs n/\(U8 xs n).2.2=0/\(Vk (U8 xs n).1 (U8 xs n).2.1 xs).1<=(Vk (YZ xs n).1 (YZ xs n).2.1 xs).1:=by
 obtain⟨c1,c2⟩:=bB xs n h;obtain⟨c,d⟩:=Qae xs n h;unfold U8;rw[Qg c2]
 by_cases hlt:(Vk (YZ xs n).1 (YZ xs n).2.1 xs).1<(Vk (XD xs n).1 (XD xs n).2.1 xs).1
 ·rw[Qg hlt];exact⟨c,rfl,Qk _⟩
 rw[Qf hlt];exact⟨c1,rfl,Nat.le_of_not_lt hlt⟩
namespace K
def oG(d):∀(k n:Nat)(c:LB),((n+k:Nat):Int)<=d->Xa d n (List.replicate k true++false::c)=(n+k,0)
 |0,n,c,h=>by simp[Xa]
 |k+1,n,c,h=>by rw[JB,XY,Xa,Qf ox,oG d k (n+1) c ox,show n+1+k=n+(k+1)by omega]
def jR(many d):∀(P c out:LN)(A:LB),c.length=many->(∀p∈P,p∈c)->
 JI (A++(Ui c P++d)) many P.length c out A.length=(out++P,A.length+(Ui c P).length,0)
 | [],c,out,A,h,hp=>by simp[JI,Ui]
 |p::r,c,out,A,h,hp=>by
  have e:=hp p sx;have hi:c.idxOf p<c.length:=MA.2 e;have e:Ui c (p::r)=List.replicate (c.idxOf p) true++false::Ui (turned c<|c.idxOf p) r:=rfl;have j:(A++(Ui c (p::r)++d)).drop A.length=List.replicate (c.idxOf p) true++false::(Ui (turned c<|c.idxOf p) r++d):=by rw[FQ,e,QR,XY]
  have n:=oG ((many:Int)-1) (c.idxOf p) 0 (Ui (turned c<|c.idxOf p) r++d) ox;have l:c.getD (c.idxOf p) 0=p:=eP c p hi;have g:=jR many d r (turned c<|c.idxOf p) (out++[p]) (A++(List.replicate (c.idxOf p) true++[false])) (by rwa[Ej c _ hi]) fun i m=>(Hs c _ hi i).2 (hp i<|by simp[m])
  have i:A++(List.replicate (c.idxOf p) true++[false])++(Ui (turned c<|c.idxOf p) r++d)=A++(Ui c (p::r)++d):=by rw[e];simp
  have d:(A++(List.replicate (c.idxOf p) true++[false])).length=A.length+(c.idxOf p+1):=sx
  rw[i,d]at g;rw[QW,JI,j,n];simp only[Zu,Cg];rw[l,Y7,g,e];simp[Y7,CD,Nat.add_left_comm]
def Qc6(A c t)(h:JU t=true):
 Jw (A++(Q7 t++c)) (A.length:Nat) (t.length:Nat)=(t,A.length+(Q7 t).length,0):=by
 obtain⟨⟨e,g⟩,d⟩:=(Ve t).1 h;have i:=d _ (Om t ox);have c:Q7 t=low (t.headD 0).toNat 5++VG (t.headD 0) t:=rfl;have h:(Q7 t).length=5+(VG (t.headD 0) t).length:=by rw[c,Qo,Yl]
 rw[h,c,QR,Qc5 _ _ _ _ ox ⟨e,g⟩];rw[show(((t.headD 0).toNat:Nat):Int)=t.headD 0 by omega,Qc7 t t [] _ _ _ sx i d,YU,Y7]
def nJ(n c):∀(T out:List LI)(A:LB),(∀t∈T,t.length=n/\XM t=true)->
 Rq (A++(T.flatMap Q7++c)) (n:Int) T.length out A.length=(out++T,A.length+(T.flatMap Q7).length,0)
 | [],out,A,h=>by simp[Rq]
 |t::r,out,A,h=>by
  obtain⟨j,d⟩:=h t sx;have e:=Qc6 A (r.flatMap Q7++c) t<|Vc d;have i:A++((t::r).flatMap Q7++c)=A++(Q7 t++(r.flatMap Q7++c)):=by rw[Jd,QR]
  have g:=nJ n c r (out++[t]) (A++Q7 t) fun l c=>h l (by simp[c])
  rw[QR,Qo]at g;rw[j]at e;rw[i,QW,Rq];simp only[e];rw[Qf sx,d];simp only[Cg];rw[g,Jd,Qo,QR,Y7];rfl
def Qj4(T P A d n)(h:Xz T P=true)(g:n=(T.getD 0 []).length):
 Us (A++(Zx T P++d)) (A.length:Nat) (n:Nat)=(T,QE P,A.length+(Zx T P).length,0):=by
 obtain⟨c,c,e,o⟩:=Af h;have l:∀c∈T,c.length=n/\XM c=true:=fun c l=>by rw[g];exact⟨(e c l).1,(e c l).2.2⟩
 obtain⟨t0,h0⟩:∃c,T[0]?=some c:=⟨_,Qj ox⟩;have c:=QB h0;have i:=(e t0 c).2.1;have g:=((Ve t0).1 (Vc (e t0 c).2.2)).1;rw[(l t0 c).1]at i g;have e:Zx T P=low T 3++(low P 15++(Ui (List.range T) (QE P)++T.flatMap Q7)):=by unfold Zx JF;simp
 have⟨c,j⟩:=qx<|Ui (List.range T)<|QE P;obtain⟨g,i⟩:∃c,T.flatMap Q7=c:=⟨_,rfl⟩;have m:=Yl T 3;have p:=Yl P 15;have s:QL (A++(Zx T P++d)) A 3=(T.length,0):=by unfold QL;rw[Qf ox,Qf (by rw[e];simp only[Qo];omega)];have:=Fs A (low T 3)<|low P 15++(c++g)++d;rw[m]at this;rw[e,j,i];simp only[QR]at this ⊢;rw[show(3:Int).toNat=3 from rfl,this,Lm,XH ox]
 have q2:QL (A++(Zx T P++d)) (A.length+3) 15=(P.length,0):=by unfold QL;rw[Qf ox,Qf (by rw[e];simp only[Qo];omega)];have:=Fs (A++low T 3) (low P 15)<|c++g++d;rw[p,Qo,m]at this;rw[e,j,i];simp only[QR]at this ⊢;rw[show(15:Int).toNat=15 from rfl,this,Lm,XH ox]
 have m:=jR T (g++d) (QE P) (List.range T) [] (A++(low T 3++low P 15)) sx fun p hp=>by obtain⟨q,p,rfl⟩:=QA.1 hp;have:=o q p;rw[ZR];omega
 have o:=nJ n d T [] (A++(low T 3++(low P 15++c))) l;rw[j]at m;rw[i]at o;have l:A++(low T 3++low P 15)++(c++(g++d))=A++(Zx T P++d):=by rw[e,j,i];simp
 have p:A++(low T 3++(low P 15++c))++(g++d)=A++(Zx T P++d):=by rw[e,j,i];simp
 have d:(A++(low T 3++low P 15)).length=A.length+18:=by simp only[Qo];omega
 have q:(A++(low T 3++(low P 15++c))).length=A.length+18+c.length:=by simp only[Qo];omega
 rw[l,d,Vi,YU]at m;rw[p,q,YU]at o;have d:A.length+(Zx T P).length=A.length+18+c.length+g.length:=by rw[e,j,i];simp only[Qo];omega
 unfold Us;rw[Qf (by simp only[Qo];omega),ZH,s];simp only;rw[Qf sx,Qf ox,q2];simp only;rw[Qf sx,Qf ox,m];simp only;rw[Qf sx,o];simp only;rw[Qf sx,d]
def Qhe(T P)(n:Nat)(g)(j:∀x∈P,XM (T.getD x.toNat [])=true/\(T.getD x.toNat []).length=n):
 ∀(pre:LI)(d A:LB)(out:LN)(f i:Nat),(∀s∈pre,0<=s/\s<(n:Int)-1)->1<=n->Yg T P n i (pre++[(n:Int)-1])=some d->pre.length<f->i+pre.length<50*P.length->
  Cn T (A++(d++g)) ((n:Int)-1) P f i out A.length=(out++QE (pre++[(n:Int)-1]),A.length+d.length,0):=by
 have key:∀(s:Int)(e d A:LB)(i:Nat),(0<=s/\s<(n:Int))->i<50*P.length->Uq (JY T P i) s.toNat++e=d->Xj (JY T P i) (A++(d++g)) A.length=(s.toNat,A.length+(Uq (JY T P i) s.toNat).length,0):=by
  intro s e d A i hs hi c;have h:i/50<P.length:=ox
  have m:P.getD (i/50) 0∈P:=by rw[List.getD,Qj h];exact Yc h
  obtain⟨g1,h⟩:=j _ m;have:(JY T P i).length=n:=by unfold JY;rwa[Vi]
  have h:=nF (JY T P i) s.toNat;subst c;have hp:=Fs A (Uq (JY T P i) s.toNat)<|e++g;rw[show A++Uq (JY T P i) s.toNat++(e++g)=A++(Uq (JY T P i) s.toNat++e++g)by simp,h]at hp;rw[h];exact Qev (JY T P i) (CU g1) (GH g1) _ A s.toNat ox (by simp only[Qo,h];omega) hp
 intro pre
 induction pre with
 |nil=>
  intro d A out f i l o c hf hi;obtain⟨f,rfl⟩:∃j,f=j+1:=⟨f-1,by simp at hf;omega⟩;rw[YU,Yg,Qf ox]at c;have c:Uq (JY T P i) ((n:Int)-1).toNat++[]=d:=by simpa[Yg]using c
  have hk:=key ((n:Int)-1) [] d A i ox (by simpa using hi) c;rw[XX]at c;rw[c]at hk;rw[Cn];have hk:Xj (QE<|T.getD (P.getD (i/50) 0).toNat []) (A++(d++g)) A.length=_:=hk;simp only[hk];rw[Qf sx,Qg ox];rfl
 |cons s r h=>
  intro d A out f i l o c hf hi;obtain⟨f,rfl⟩:∃j,f=j+1:=⟨f-1,by simp at hf;omega⟩;have hs:=l s sx;rw[XY,Yg,Qf ox]at c;cases he:Yg T P n (i+1) (r++[(n:Int)-1])with
  |none=>rw[he]at c;cases c
  |some e=>rw[he]at c;have c:Uq (JY T P i) s.toNat++e=d:=(by simpa using c);have hk:=key s e d A i ox (by simp at hi;omega) c;have h:=h e (A++Uq (JY T P i) s.toNat) (out++[s.toNat]) f (i+1) (fun x m=>l x<|by simp[m]) o he (by simp at hf;omega) (by simp at hi;omega);rw[show A++Uq (JY T P i) s.toNat++(e++g)=A++(d++g)by rw[<-c];simp,Qo]at h;rw[Cn];have hk:Xj (QE<|T.getD (P.getD (i/50) 0).toNat []) (A++(d++g)) A.length=_:=hk;simp only[hk];rw[Qf sx,Qf ox,h,<-c];simp[QE,Y7]
def Qa4(T P pre A e i n)(h:Xz T P=true)(j:n=(T.getD 0 []).length)(t:∀s∈pre,0<=s/\s<(n:Int)-1)(o:Yg T P n 0 (pre++[(n:Int)-1])=some e)(p:ZP (pre.length+1)<=P.length):
 Ac T P (A++(e++i)) (A.length:Nat)=(QE<|pre++[(n:Int)-1],A.length+e.length,0):=by
 obtain⟨c,c,g,m⟩:=Af h;have l:∀c∈P,T.getD c.toNat []∈T:=by
  intro c d;have:=m c d;have m:c.toNat<T:=ox
  rw[List.getD,Qj m];exact Yc m
 have m:∀c∈P,XM (T.getD c.toNat [])=true/\(T.getD c.toNat []).length=n:=fun c d=>⟨(g _<|l c d).2.2,by rw[j];exact(g _<|l c d).1⟩
 obtain⟨t0,h0⟩:∃l,T[0]?=some l:=⟨_,Qj ox⟩;have l:=QB h0;have q:=(g t0 l).2.1;rw[(g t0 l).1,<-j]at q;unfold ZP at p;have g:=kV T (A++(e++i)) ((n:Int)-1) P (fun c d=>(m c d).1) P 0 [] A ox (by simp only[Qo];omega);have r:=Qhe T P n i m pre e A [] (50*P.length) 0 t ox o ox ox;rw[Nat.mul_zero]at g;rw[r,VJ,YU]at g;unfold Ac;rw[h,Qg rfl,Qf (by simp only[Qo];omega),ZH,<-j,<-g]
end K
