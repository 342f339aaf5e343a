import Derived.Test.YtickjpnkoppmgaaGreatDoorAx
set_option linter.all false
namespace Go.Proofs.YtickjpnkoppmgaaGreatDoor
open Go.Proofs.Tryz Go.RowKit K
def TL(xs)(a:∀s∈xs,0≤s):QV (QA xs)=xs:=by
 unfold QV QA;rw[XG]
 conv=>rhs;rw[←DP xs]
 apply Yu;intro s hs;have:=a s hs;simp;omega
noncomputable def Xq(xs:List Int)(n:Int):List (List Int) × List Int × Nat:=
 if X1 xs n then((Am (QA xs) n.toNat (Yd (xs.length:Int)).1 4).map QV,QV (V6 (QA xs) n.toNat (Yd (xs.length:Int)).1 4),0)else([],[],2)
def xA(a c xs)(n:Int)(w)(h:Qn w 1 a xs.length (QK xs))(q:xs.length≤c)(h2:c≤maxLen)(y:xs.length≤20000):
 Calls prog 204 #[.slice a xs.length c,n] w (BW (Xq xs n).1 (Xq xs n).2.1 (Xq xs n).2.2 w):=by
 cases hm:X1 xs n with
 |false=>
  have e:Xq xs n=([],[],2):=by unfold Xq;rw[hm];rfl
  rw[e];exact xB a c xs n w h (by omega) hm
 |true=>
  obtain⟨-,h3,h4,-,-,h1⟩:=Bu hm;have e:=TL xs fun s hs=>(h1 s hs).1;obtain⟨n,rfl⟩:=X5 (by omega:0≤n);have⟨L,o⟩:=qx<|QA xs;rw[o]at e;subst e;have e2:Xq (QV L) (n:Int)=((Am L n (Yd (L.length:Int)).1 4).map QV,QV<|V6 L n (Yd (L.length:Int)).1 4,0):=by unfold Xq;rw[hm,Qg rfl,o,XE,Zw]
  rw[e2];rw[XE]at h q y ⊢;rw[AC]at h;exact xC a c n L w h q h2 hm y

def Wk(T P L):(Y8 T P L).1.length≤20*L.length∧((Y8 T P L).2=0→Xm T P=true)∧((Y8 T P L).2≠0→(Y8 T P L).1=[])∧(Y8 T P L).2≤110:=by
 unfold Y8;cases h1:Xm T P with
 |false=>simp
 |true=>
  cases h2:decide (ZG L.length≤P.length)with
  |false=>simp
  |true=>
   cases h3:XU T P ((T.getD 0 []).length:Nat) 0 L with
   |none=>simp
   |some B=>have:=Wg h1 _ L 0 B h3;simpa using this
def nL(R:Nat × Nat)(w:World)(e:Ending)(w':World):Prop:=e=.returned (.tuple #[(R.1:Nat),(R.2:Nat)])∧Qb [] w w'
set_option maxHeartbeats 1000000 in
def aO(c b a e d g T P L w)(l:Xv w c b e d T P)(q:Qn w 1 a L.length (QK L))(j:L.length≤17592186043904):
 Calls prog 206 #[QX c T.length e b P.length d,.slice a L.length g] w (nL (UH T P L) w):=by
 have hk:Qb [] w (w.alloc<|.cells #[.slice c T.length e,.slice b P.length d] 255):=(Qc [] w).alloc _;have h:=Qx w [.slice c T.length e,.slice b P.length d] 255;have f:=aK c b a e d g T P L _ (l.kept hk) (q.kZ hk) j;unfold QX at f ⊢;have b0:=h.cell (i:=0) (u:=.slice c T.length e) rfl;have x:=h.cell (i:=1) (u:=.slice b P.length d) rfl;have⟨t,r,C⟩:=qc hk h<|l.kept hk;obtain⟨m,n,k,o⟩:=Wk T P L;obtain⟨⟨a,g⟩,j⟩:∃p,Y8 T P L=p:=⟨_,rfl⟩;have p:=Qa (by unfold VF;rw[j]:VF T P L=if g=0 then(Qu a,((a.length:Nat):Int),0)else([],0,g));rw[j]at m n k o;rw[p.o]at f;have m:a.length≤20*L.length:=m;have o:g≤110:=o;have v:=Qa j
 by_cases hz:g=0
 ·subst hz;have h:Xm T P=true:=n rfl;have⟨j,s,D⟩:=qc (by unfold UH;rw[v.o];rfl:UH T P L=((Zs T P).length+a.length,0)) (by unfold AU;rw[h];rfl:AU T P=(Qu<|Zs T P,(((Zs T P).length:Nat):Int),0)) h;have p:=NI h;have⟨l,o⟩:=qx<|Zs T P;rw[o]at j s p;rw[Qg rfl]at f;go_enter func206,ntmps206;go_wp2_with fail;refine f.mono ?_;rintro y o⟨rfl,h⟩;unfold Zf;have A:Qb [] w (o.alloc<|.cells #[.string ⟨(Qu a).toArray⟩,(a.length:Nat)] 204):=(t.o.trans h<|by simp).alloc _;have l:Qb [] (w.alloc<|.cells #[.slice c T.length e,.slice b P.length d] 255) (o.alloc<|.cells #[.string ⟨(Qu a).toArray⟩,(a.length:Nat)] 204):=h.alloc _;have z:=Qx o [.string ⟨(Qu a).toArray⟩,(a.length:Nat)] 204;have⟨q,B,p⟩:=qc A z<|aN c b e d T P _ (C.o.kept l) D.o;rw[s.o]at p;have c0:=(r.o.kept l<|by simp).cell (i:=0) (u:=.slice c T.length e) rfl;have c1:=(r.o.kept l<|by simp).cell (i:=1) (u:=.slice b P.length d) rfl;unfold QX at p;go_wp2_with fail;refine p.o.mono ?_;rintro y b⟨rfl,c⟩;unfold Zf;have d:=Qa (q.o.trans c<|by simp);have b:=B.o.kept c (by simp);have hlt:=b.lt;have:=b.cell (i:=1) (u:=.int .i64 (a.length:Nat)) rfl
  go_wp2
  go_ret2;rw[j.o];exact⟨by simp,d.o.alloc _⟩
 have b:a=[]:=k hz;subst b;have j:=Qa (by unfold UH;rw[v.o,Qe hz]:UH T P L=(0,g));have g1:((g:Int) != 0)=true:=Vy.2 (by omega);rw[Qe hz]at f;go_enter func206,ntmps206;go_wp2_with fail;refine f.mono ?_;rintro y o⟨rfl,h⟩;unfold Zf;have q:=Qa<|(t.o.trans h<|by simp).alloc<|.cells #[.string ⟨#[]⟩,(0:Int)] 204
 go_wp2
 go_ret2;rw[j.o];exact⟨rfl,q.o⟩
def Yy(xs:List Int)(n:Int):List (List Int) × List Int × Nat:=if X1 xs n then([V2 xs n.toNat,V2 xs n.toNat],R9 xs,0)else([],[],2)
def xH(a c xs)(n:Int)(w)(b:Qn w 1 a xs.length (QK xs))(d:xs.length≤20000):
 Calls prog 205 #[.slice a xs.length c,n] w (BW (Yy xs n).1 (Yy xs n).2.1 (Yy xs n).2.2 w):=by
 unfold Yy;cases hm:X1 xs n with
 |false=>exact xI a c xs n w b (by omega) hm
 |true=>obtain⟨-,d,d,-,-,d⟩:=Bu hm;obtain⟨n,rfl⟩:=X5 (by omega:0≤n);rw[Zw];exact xJ a c xs n w b hm
noncomputable def Uw(xs:List Int)(n:Int):List (List Int) × List Int × Nat:=
 if(Xq xs n).2.2=0 then(if(UH (Yy xs n).1 (Yy xs n).2.1 xs).1<(UH (Xq xs n).1 (Xq xs n).2.1 xs).1 then((Yy xs n).1,(Yy xs n).2.1,0)else((Xq xs n).1,(Xq xs n).2.1,0))else([],[],(Xq xs n).2.2)
def Qn.offPlan{w g m a xs}(e:Qf w g 255 [.slice none 0 0,.slice none 0 0])(hs:Qn w 1 a m xs)(i:∀u∈xs,u≠.slice none 0 0):0<xs.length→Qr (fZ a) [g]:=by
 intro h0 c j h;obtain⟨b,d,rfl,f⟩:=hs.at h0;have l:c=b:=by simpa[fZ]using j
 have b:c=g:=by simpa using h
 subst l;subst b;have c0:=f 0 xs[0] (Qj h0);have b:w.cell? ⟨c,d+0,none⟩=_:=Zt w c (d+0) _ _ _ e;rw[c0]at b;have c:=i _<|XW h0;rw[List.getElem?_toArray]at b
 match d+0,b with
 |0,b=>simp at b;exact c b
 |1,b=>simp at b;exact c b
 |k+2,b=>simp at b
def Xv.keptR{w w' g aT aP cT cP T P}(y:Qf w g 255 [.slice none 0 0,.slice none 0 0])(h:Xv w aT aP cT cP T P)(hne:∀t∈T,0<t.length)(hk:Qb [g] w w'):Xv w' aT aP cT cP T P:=by
 have x0:∀l:List Int,∀u∈QK l,u≠.slice none 0 0:=by intro l u hu;obtain⟨x,-,rfl⟩:=Qy.1 hu;intro h;cases h
 refine⟨?_,h.picks.keptB hk<|Qn.offPlan y h.picks<|x0 P,h.tl,h.pl,h.rl⟩;obtain⟨vs,h1,h2,h3⟩:=h.tabs;have x1:∀u∈vs,u≠.slice none 0 0:=by intro u hu;obtain⟨i,hi⟩:=GQ hu;have h9:=(Qz.1 hi).1;rw[h2,QG]at h9;have⟨t,q⟩:=qy T i h9;obtain⟨b,c,rfl,-,-,-⟩:=h3 i u (QK t) hi (by rw[ZJ,q];rfl);have:=hne t<|QC q;rw[Xk];intro h;injection h with e1 e2 e3;omega
 refine⟨vs,h1.keptB hk<|Qn.offPlan y h1 x1,h2,fun i u r h4 o=>?_⟩;obtain⟨b,c,rfl,h6,h7,h8⟩:=h3 i u r h4 o;rw[ZJ]at o;cases q:T[i]? with
 |none=>rw[q]at o;cases o
 |some t=>rw[q]at o;injection o with o;subst o;exact⟨b,c,rfl,h6.keptB hk<|Qn.offPlan y h6<|x0 t,h7,h8⟩
def sO(xs n)(a:(Xq xs n).2.2=0):X1 xs n=true∧(∀t∈(Xq xs n).1,(t.length:Int)=n)∧(Xq xs n).1.length=(Yd (xs.length:Int)).1:=by
 unfold Xq at a ⊢;cases hm:X1 xs n with
 |false=>rw[hm]at a;simp at a
 |true=>
  obtain⟨-,a,a,a,a,a⟩:=Bu hm;have a:=Oz (QA xs) n.toNat (Yd (xs.length:Int)).1 (by omega) (by rw[UF];omega) 4;refine⟨rfl,fun t b=>?_,?_⟩
  ·rw[Qg rfl]at b;obtain⟨d,c,rfl⟩:=Qy.1 b;rw[XE,(a.2 d c).1];omega
  rw[Qg rfl,QG];exact a.1
def sN(xs n)(a:(Xq xs n).2.2≠0):(Xq xs n).2.2=2∧X1 xs n=false:=by
 unfold Xq at a ⊢;cases hm:X1 xs n with
 |false=>simp
 |true=>rw[hm]at a;simp at a
def wB(xs n)(a:X1 xs n=true):(Yy xs n).2.2=0∧∀t∈(Yy xs n).1,(t.length:Int)=n:=by
 obtain⟨b,b,b,b,b,b⟩:=Bu a;unfold Yy;rw[a,Qg rfl];refine⟨rfl,fun t a=>?_⟩;have:(V2 xs n.toNat).length=n.toNat:=by unfold V2;rw[QG,FP,Jc];simp[J8,Bt]
 simp at a;subst a;omega
set_option maxHeartbeats 2000000 in
def wZ(a c xs)(n:Int)(w)(m:Qn w 1 a xs.length (QK xs))(d:xs.length≤c)(e:c≤maxLen)(b:xs.length≤20000):
 Calls prog 164 #[.slice a xs.length c,n] w (BW (Uw xs n).1 (Uw xs n).2.1 (Uw xs n).2.2 w):=by
 have hk:Qb [] w (w.alloc<|.cells #[.slice none 0 0,.slice none 0 0] 255):=(Qc _ _).alloc _;have q:=Qx w [.slice none 0 0,.slice none 0 0] 255;have j:=sO xs n;have g:=sN xs n;have h:=wB xs n;have⟨A,l,I⟩:=qc (show Uw xs n=if(Xq xs n).2.2=0 then(if(UH (Yy xs n).1 (Yy xs n).2.1 xs).1<(UH (Xq xs n).1 (Xq xs n).2.1 xs).1 then((Yy xs n).1,(Yy xs n).2.1,0)else((Xq xs n).1,(Xq xs n).2.1,0))else([],[],(Xq xs n).2.2)from rfl) (fun(r:World)(x:Qb [] w r)=>xA a c xs n r (m.kZ x) d e b) fun(r:World)(x:Qb [] w r)=>xH a c xs n r (m.kZ x) b;obtain⟨⟨b,d,Z⟩,t⟩:∃f,Xq xs n=f:=⟨_,rfl⟩;obtain⟨⟨e,k,o⟩,y⟩:∃f,Yy xs n=f:=⟨_,rfl⟩;rw[t]at j g A l;rw[y]at h A I;have⟨B,T,z,Y,o,s⟩:=qf j g h m hk q;clear j g h m hk q t y;go_enter func164,ntmps164;go_wp2_with fail;refine(l.o _ o.o).mono ?_;rintro P y⟨g,j,f,h,rfl,D,q,h8,h4⟩;have⟨V,t,H⟩:=qc (o.o.trans q<|by simp) (s.o.kept q<|by simp) D;clear D q l o s;unfold QX;have s:Qb [] y (y.alloc<|.cells #[.slice g b.length j,.slice f d.length h] 255):=(Qc _ _).alloc _;have C:=Qx y [.slice g b.length j,.slice f d.length h] 255;have⟨F,G,L,E⟩:=qd (V.o.trans s<|by simp) (t.o.kept s<|by simp) (H.o.kept s) C;have⟨o,l⟩:=qx<|y.alloc<|.cells #[.slice g b.length j,.slice f d.length h] 255;rw[l]at F G L E;have⟨M,q⟩:=qb l<|show w.heap.size<y.heap.size from t.o.lt;have⟨Q,o⟩:=qx y.heap.size;rw[o]at E q;have U:=Qa o;clear s C l o H
 by_cases hz:Z=0
 ·subst hz;obtain⟨o,J,-⟩:=B.o rfl;obtain⟨l,-⟩:3≤n∧n≤258:=by obtain⟨-,l,q,-⟩:=Bu o;exact⟨l,q⟩
  obtain⟨-,O⟩:=z.o o;have⟨h2,h3,H⟩:=qc (by intro l q;have m:=J l q;omega: ∀l∈b,0<l.length) (by intro l q;have m:=O l q;omega: ∀l∈e,0<l.length) (by rw[A.o,Qg rfl]:Uw xs n=(if(UH e k xs).1<(UH b d xs).1 then(e,k,0)else(b,d,0)));clear A;clear o J O B z T;go_wp2_with fail;rw[M.o,U.o];refine(I.o _ F.o).mono ?_;rintro P z⟨m,q,l,o,rfl,D,B,h9,h5⟩;have⟨O,R,W,J,X⟩:=qe (F.o.trans B<|by simp) (G.o.kept B<|by simp) (L.o.kept B) (E.o.kept B<|by simp) D;clear D B I F G L E M;unfold QX;have s:Qb [] z (z.alloc<|.cells #[.slice m e.length q,.slice l k.length o] 255):=(Qc _ _).alloc _;have C:=Qx z [.slice m e.length q,.slice l k.length o] 255;have⟨I,S,L,M,F,B⟩:=qf (O.o.trans s<|by simp) (R.o.kept s<|by simp) (W.o.kept s) (X.o.kept s) (J.o.kept s<|by simp) C;have:=J.o.lt;have⟨D,G⟩:=qx<|z.alloc<|.cells #[.slice m e.length q,.slice l k.length o] 255;rw[G]at I S L M F B;have⟨O,h1⟩:=qb G<|show Q<z.heap.size∧w.heap.size<z.heap.size from⟨J.o.lt,R.o.lt⟩;have⟨Q,J⟩:=qx z.heap.size;rw[J]at B h1;have R:=Qa J;clear s C J X W G;have⟨z,J⟩:=qb (fun(r:World)(x:Qb [] D r)=>aO g f a j h c b d xs r (L.o.kept x) (Y.o.kZ<|I.o.trans x<|by simp)<|by omega) (fun(r:World)(x:Qb [] D r)=>aO m l a q o c e k xs r (M.o.kept x) (Y.o.kZ<|I.o.trans x<|by simp)<|by omega);obtain⟨⟨G,r⟩,s⟩:∃r,UH b d xs=r:=⟨_,rfl⟩;obtain⟨⟨Q,r⟩,r⟩:∃x,UH e k xs=x:=⟨_,rfl⟩;simp only[s]at z H;simp only[r]at J H;have b0:=F.o.cell (i:=0) (u:=.slice g b.length j) rfl;have x:=F.o.cell (i:=1) (u:=.slice f d.length h) rfl;rw[←O.o]at b0 x;have C:=z.o D<|Qc _ _;unfold QX at C;clear s r;go_wp2_with fail;rw[O.o];refine C.mono ?_;rintro P X⟨rfl,r⟩;have W:=Qa r;have c0:=(B.o.kept r<|by simp).cell (i:=0) (u:=.slice m e.length q) rfl;have c1:=(B.o.kept r<|by simp).cell (i:=1) (u:=.slice l k.length o) rfl;have C:=J.o X r;unfold QX at C;rw[R.o];clear r z O b0 x;go_wp2_with fail;refine C.mono ?_;rintro P x⟨rfl,P⟩;have r:=Qa<|show Qb [] D x from W.o.trans P (by simp);have O:=Qa (I.o.trans r.o<|by simp);have D:=S.o.kept r.o (by simp);have:=D.cell (i:=0) (u:=.slice none 0 0) rfl;have:=D.cell (i:=1) (u:=.slice none 0 0) rfl;have:=D.free 0;have:=D.free 1;have z:=Qa D;clear P C J c0 c1 D
  by_cases hlt:Q<G
  ·have R:(Q:Int)<G:=(by omega);have C:=Qa (by rw[H.o,Qg hlt]:Uw xs n=(e,k,0));have J:=(B.o.kept r.o<|by simp).cell (i:=0) (u:=.slice m e.length q) rfl;have P:=(B.o.kept r.o<|by simp).cell (i:=1) (u:=.slice l k.length o) rfl;have D:=((z.o.set 0<|.slice m e.length q).set 1<|.slice l k.length o).cell (i:=0) (u:=.slice m e.length q) rfl;have I:=((z.o.set 0<|.slice m e.length q).set 1<|.slice l k.length o).cell (i:=1) (u:=.slice l k.length o) rfl;clear hlt;go_wp2_with fail;refine Q9 (v:=.tuple #[QX m e.length q l k.length o,(0:Int)]) (by simp[results,Sr,go_sem,QX,D,I]) rfl ?_;rw[C.o];have B:Qb [w.heap.size] x ((x.setCell ⟨w.heap.size,0,none⟩<|.slice m e.length q).setCell ⟨w.heap.size,1,none⟩<|.slice l k.length o):=((Qc [w.heap.size] x).setCell (p:=⟨w.heap.size,0,none⟩) (by simp) _).setCell (p:=⟨w.heap.size,1,none⟩) (by simp) _;exact⟨m,q,l,o,rfl,(M.o.kept r.o).keptR z.o h3.o B,O.o.trans B (by intro G s;simp at s;subst s;exact .inr<|Ql _),h9,h5⟩
  have R:¬(Q:Int)<G:=by omega
  have C:=Qa (by rw[H.o,Qe hlt]:Uw xs n=(b,d,0));have J:=(F.o.kept r.o<|by simp).cell (i:=0) (u:=.slice g b.length j) rfl;have P:=(F.o.kept r.o<|by simp).cell (i:=1) (u:=.slice f d.length h) rfl;have D:=((z.o.set 0<|.slice g b.length j).set 1<|.slice f d.length h).cell (i:=0) (u:=.slice g b.length j) rfl;have I:=((z.o.set 0<|.slice g b.length j).set 1<|.slice f d.length h).cell (i:=1) (u:=.slice f d.length h) rfl;clear hlt;go_wp2_with fail;refine Q9 (v:=.tuple #[QX g b.length j f d.length h,(0:Int)]) (by simp[results,Sr,go_sem,QX,D,I]) rfl ?_;rw[C.o];have B:Qb [w.heap.size] x ((x.setCell ⟨w.heap.size,0,none⟩<|.slice g b.length j).setCell ⟨w.heap.size,1,none⟩<|.slice f d.length h):=((Qc [w.heap.size] x).setCell (p:=⟨w.heap.size,0,none⟩) (by simp) _).setCell (p:=⟨w.heap.size,1,none⟩) (by simp) _;exact⟨g,j,f,h,rfl,(L.o.kept r.o).keptR z.o h2.o B,O.o.trans B (by intro G s;simp at s;subst s;exact .inr<|Ql _),h8,h4⟩
 have e:Z=2:=(T.o hz).1;subst e;rw[←U.o]at E;have o:=Qa (by rw[A.o,Qe<|by decide]:Uw xs n=([],[],2));have hlt:=t.o.lt;have t0:=t.o.cell (i:=0) (u:=.slice none 0 0) rfl;have:=t.o.cell (i:=1) (u:=.slice none 0 0) rfl;have t2:=t.o.free 0;have t3:=t.o.free 1;have e:=((Qc [] _).alloc<|.cells #[.slice g b.length j,.slice f d.length h] 255).cZ (((t.o.set 0<|.slice none 0 0).set 1<|.slice none 0 0).cell (i:=0) (u:=.slice none 0 0) rfl) (by simp);have k:=((Qc [] _).alloc<|.cells #[.slice g b.length j,.slice f d.length h] 255).cZ (((t.o.set 0<|.slice none 0 0).set 1<|.slice none 0 0).cell (i:=1) (u:=.slice none 0 0) rfl) (by simp);have⟨l,m⟩:=qb e k;clear e k A;go_wp2_with fail;have e:=l.o;have k:=m.o;have m:=((V.o.setCell (p:=⟨w.heap.size,0,none⟩) (.inr<|by simp)<|.slice none 0 0).setCell (p:=⟨w.heap.size,1,none⟩) (.inr<|by simp)<|.slice none 0 0).alloc<|.cells #[.slice g b.length j,.slice f d.length h] 255;have⟨l,q⟩:=qx<|((y.setCell ⟨w.heap.size,0,none⟩<|.slice none 0 0).setCell ⟨w.heap.size,1,none⟩<|.slice none 0 0).alloc<|.cells #[.slice g b.length j,.slice f d.length h] 255;rw[q]at e k m ⊢;refine Q9 (v:=.tuple #[QX none 0 0 none 0 0,(2:Int)]) (by simp[results,Sr,go_sem,QX,e,k]) rfl ?_;rw[o.o];exact⟨none,0,none,0,rfl,Xv.nil _,m,by simp,by simp⟩
def eC(ls):QA (ls.map fun n:Nat=>(n:Int))=ls:=by
 simp only[QA,XG]
 conv=>rhs;rw[←DP ls]
 apply Yu;intro a _;simp
def wT{ls}(h:AI (ls.map fun n:Nat=>(n:Int))=true):XA (ls.map fun n:Nat=>(n:Int))=true∧K.room (QA (ls.map fun n:Nat=>(n:Int)))=1048576∧QA (ls.map fun n:Nat=>(n:Int))=ls:=by
 unfold AI at h;rw[Zu]at h;unfold UK at h
 split at h
 ·rename_i o;exact⟨by unfold XA;rw[o,h];decide,h,eC ls⟩
 simp at h
def wH{xs}(a:Yc xs=true):AI (QV<|YH<|ZO xs)=true:=by
 obtain⟨b,b,-⟩:=EF a;have:(YH<|ZO xs).length=xs.length:=by rw[FP,Jc]
 have k4:=wG (ZO xs) (by rw[Jc];omega) (by rw[Jc];omega);have k5:=cR (by omega) k4;have k8:Nat.log2 (ZO xs).length≤8:=fK (cE (by rw[Jc];omega)).1 (by rw[Jc];omega);unfold AI UK QV;have c:=eC<|YH<|ZO xs;have d:Jn ((YH<|ZO xs).map fun a:Nat=>(a:Int))=true:=by unfold Jn;rw[Xg,XO,QG];refine⟨by simp;omega,fun a e=>?_⟩;obtain⟨a,b,rfl⟩:=Qy.1 e;have:=k5 a b;have:=(wC b).2;rw[Zu];omega
 rw[d,Qg rfl,c,Zu];have b:K.room (YH<|ZO xs)=((YH<|ZO xs).map fun a=>2^(20-a)).sum:=rfl;rw[b,k4]
structure RO(T:List (List Int))(P:List Int)(xs:List Int)(n:Int):Prop where
 may:Xm T P=true
 many:ZG xs.length≤P.length
 len:∀t∈T,(t.length:Int)=n
 full:∀t∈T,AI t=true
 two:2≤T.length
def WT{T:List (List Nat)}{P xs n m}(a:T.length=m)(a:2≤m∧m≤6)(a:P.length=ZG xs.length)(a:1≤xs.length∧xs.length≤1638350)(hp:∀x∈P,x<m)(g:3≤n)(d:∀t∈T,t.length=n∧AI (QV t)=true):
 RO (T.map QV) (QV P) xs (n:Int):=by
 have:1≤ZG xs.length∧ZG xs.length≤32767:=by unfold ZG;omega
 have e:∀t∈T.map QV,t.length=n:=by intro t a;obtain⟨c,b,rfl⟩:=Qy.1 a;rw[XE];exact(d c b).1
 have f:∀t∈T.map QV,AI t=true:=by intro t a;obtain⟨c,b,rfl⟩:=Qy.1 a;exact(d c b).2
 refine⟨dJ (by rw[QG];omega) (by rw[XE];omega) (fun t a=>?_) fun x a=>?_,by rw[XE];omega,fun t a=>by have:=e t a;omega,f,by rw[QG];omega⟩
 ·have h0:((T.map QV).getD 0 []).length=n:=by obtain⟨t0,h0⟩:∃t,(T.map QV)[0]?=some t:=⟨_,Qj (by rw[QG];omega)⟩;rw[List.getD,h0];exact e t0 (QC h0)
  rw[h0,Gy];obtain⟨c,b,rfl⟩:=Qy.1 a;exact⟨e _ a,by rwa[XE,(d c b).1],(wT (d c b).2).1⟩
 obtain⟨c,b,rfl⟩:=Qy.1 a;have:=hp c b;rw[QG];omega
def TU(xs n)(h:X1 xs n=true):RO (Xq xs n).1 (Xq xs n).2.1 xs n∧(Xq xs n).2.2=0:=by
 obtain⟨-,h3,h1,q,y,h2⟩:=Bu h;obtain⟨-,t2,t3⟩:=jU xs.length q;have⟨m,hm⟩:=qx<|(Yd (xs.length:Int)).1;rw[hm]at t2 t3;have o:(QA xs).length=xs.length:=UF xs;unfold Xq;rw[h,Qg rfl,hm];refine⟨?_,rfl⟩;obtain⟨n,rfl⟩:=X5 (by omega:0≤n);rw[Zw];have hg:=Oz (QA xs) n m ⟨by omega,by omega⟩ (by rwa[o]) 4;refine WT hg.1 ⟨t2,t3⟩ (by rw[NE,o]) ⟨q,y⟩ (Qc0 _ _ _<|by omega) (by omega) fun t ht=>⟨(hg.2 t ht).1,?_⟩
 obtain⟨k,-,rfl⟩:=Qy.1<|show t∈(List.range m).map _ from ht;exact(Nf _ (by rw[Rt];omega) (by rw[Rt];omega) (fun c hc=>by have:=Ii _ _ _ _ _ c hc;rw[o]at this;omega)).2.2
def wF(xs n)(a:X1 xs n=true):RO (Yy xs n).1 (Yy xs n).2.1 xs n∧(Yy xs n).2.2=0:=by
 obtain⟨b,c,c,e,f,c⟩:=Bu a;unfold Yy;rw[a,Qg rfl];refine⟨?_,rfl⟩;obtain⟨n,rfl⟩:=X5 (by omega:0≤n);rw[Zw]at b ⊢;have c:V2 xs n=QV (YH<|ZO<|J8 xs n):=rfl;have d:R9 xs=QV (List.replicate (ZG xs.length) 0):=by unfold R9 QV;simp
 have g:(YH<|ZO<|J8 xs n).length=n:=by rw[FP,Jc];simp[J8,Bt]
 have:=WT (T:=[YH<|ZO<|J8 xs n,YH<|ZO<|J8 xs n]) (P:=List.replicate (ZG xs.length) 0) (xs:=xs) (n:=n) (m:=2) rfl ⟨by omega,by omega⟩ (by simp) ⟨e,f⟩ (fun a a=>by rw[BQ a];omega) (by omega) (fun a a=>by simp at a;subst a;exact⟨g,wH b⟩);rw[c,d];exact this
def RO.head{T P xs n}(a:RO T P xs n):((T.getD 0 []).length:Int)=n:=by obtain⟨t0,h0⟩:∃b,T[0]?=some b:=⟨_,Qj (by have:=a.two;omega)⟩;rw[List.getD,h0];exact a.len t0<|QC h0
def RO.codes{T P xs n}(b:RO T P xs n)(d:∀s∈xs,0≤s∧s<n):∃a,XU T P n 0 xs=some a∧Y8 T P xs=(a,0):=by obtain⟨a,c⟩:=Wj T P n xs 0 d;refine⟨a,c,?_⟩;unfold Y8;rw[b.may,Xr b.many,b.head,c];rfl
def rH(xs n)(a:X1 xs n=true):RO (Uw xs n).1 (Uw xs n).2.1 xs n∧(Uw xs n).2.2=0∧(UH (Uw xs n).1 (Uw xs n).2.1 xs).1≤(UH (Yy xs n).1 (Yy xs n).2.1 xs).1:=by
 obtain⟨c1,c2⟩:=TU xs n a;obtain⟨b,c⟩:=wF xs n a;unfold Uw;rw[Qg c2]
 by_cases hlt:(UH (Yy xs n).1 (Yy xs n).2.1 xs).1<(UH (Xq xs n).1 (Xq xs n).2.1 xs).1
 ·rw[Qg hlt];exact⟨b,rfl,Ql _⟩
 rw[Qe hlt];exact⟨c1,rfl,Nat.le_of_not_lt hlt⟩
namespace K
def kP(b):∀(k n:Nat)(a:List Bool),((n+k:Nat):Int)≤b→ZR b n (List.replicate k true++false::a)=(n+k,0)
 |0,n,a,h=>by simp[ZR]
 |k+1,n,a,h=>by rw[Y4,Yf,ZR,Qe<|by omega,kP b k (n+1) a<|by omega,show n+1+k=n+(k+1)by omega]
def fF(many b):∀(P a c:List Nat)(A:List Bool),a.length=many→(∀p∈P,p∈a)→
 Jd (A++(JM a P++b)) many P.length a c A.length=(c++P,A.length+(JM a P).length,0)
 | [],a,c,A,h,hp=>by simp[Jd,JM]
 |p::r,a,c,A,h,hp=>by
  have d:=hp p (by simp);have hi:a.idxOf p<a.length:=La.2 d;have d:JM a (p::r)=List.replicate (a.idxOf p) true++false::JM (turned a<|a.idxOf p) r:=rfl;have f:(A++(JM a (p::r)++b)).drop A.length=List.replicate (a.idxOf p) true++false::(JM (turned a<|a.idxOf p) r++b):=by rw[Fg,d,QN,Yf]
  have j:=kP ((many:Int)-1) (a.idxOf p) 0 (JM (turned a<|a.idxOf p) r++b) (by omega);have g:a.getD (a.idxOf p) 0=p:=bD a p hi;have e:=fF many b r (turned a<|a.idxOf p) (c++[p]) (A++(List.replicate (a.idxOf p) true++[false])) (by rwa[DF a _ hi]) fun c i=>(GA a _ hi c).2 (hp c<|by simp[i])
  have c:A++(List.replicate (a.idxOf p) true++[false])++(JM (turned a<|a.idxOf p) r++b)=A++(JM a (p::r)++b):=by rw[d];simp
  have b:(A++(List.replicate (a.idxOf p) true++[false])).length=A.length+(a.idxOf p+1):=by simp
  rw[c,b]at e;rw[QZ,Jd,f,j];simp only[Zz,Co];rw[g,Jj,e,d];simp[Jj,BT,Nat.add_left_comm]
def zX(A a t)(e:Jn t=true):
 Jo (A++(Q0 t++a)) (A.length:Nat) (t.length:Nat)=(t,A.length+(Q0 t).length,0):=by
 obtain⟨⟨c,d⟩,b⟩:=(UC t).1 e;have f:=b _ (MG t<|by omega);have a:Q0 t=low (t.headD 0).toNat 5++U3 (t.headD 0) t:=rfl;have e:(Q0 t).length=5+(U3 (t.headD 0) t).length:=by rw[a,Qo,XZ]
 rw[e,a,QN,zW _ _ _ _ (by omega) ⟨c,d⟩];rw[show(((t.headD 0).toNat:Nat):Int)=t.headD 0 by omega,zY t.length t [] _ _ _ (by simp) f b,Yv,Jj]
def jV(n a):∀(T b:List (List Int))(A:List Bool),(∀t∈T,t.length=n∧XA t=true)→
 VI (A++(T.flatMap Q0++a)) (n:Int) T.length b A.length=(b++T,A.length+(T.flatMap Q0).length,0)
 | [],b,A,h=>by simp[VI]
 |t::r,b,A,h=>by
  obtain⟨g,c⟩:=h t (by simp);have d:=zX A (r.flatMap Q0++a) t<|UA c;have f:A++((t::r).flatMap Q0++a)=A++(Q0 t++(r.flatMap Q0++a)):=by rw[Ji,QN]
  have e:=jV n a r (b++[t]) (A++Q0 t) fun b a=>h b (by simp[a])
  rw[QN,Qo]at e;rw[g]at d;rw[f,QZ,VI];simp only[d];rw[Qe<|by simp,c];simp only[Co];rw[e,Ji,Qo,QN,Jj];rfl
def Qgz(T P A b n)(a:Xm T P=true)(d:n=(T.getD 0 []).length):
 Uk (A++(Zs T P++b)) (A.length:Nat) (n:Nat)=(T,QA P,A.length+(Zs T P).length,0):=by
 obtain⟨c,c,c,i⟩:=RB a;have g:∀a∈T,a.length=n∧XA a=true:=fun a g=>by rw[d];exact⟨(c a g).1,(c a g).2.2⟩
 obtain⟨t0,h0⟩:∃a,T[0]?=some a:=⟨_,Qj<|by omega⟩;have a:=QC h0;have e:=(c t0 a).2.1;have d:=((UC t0).1 (UA (c t0 a).2.2)).1;rw[(g t0 a).1]at e d;have c:Zs T P=low T.length 3++(low P.length 15++(JM (List.range T.length) (QA P)++T.flatMap Q0)):=by unfold Zs Ja;simp
 have⟨a,f⟩:=qx<|JM (List.range T.length)<|QA P;obtain⟨d,e⟩:∃a,T.flatMap Q0=a:=⟨_,rfl⟩;have h:=XZ T.length 3;have j:=XZ P.length 15;have l:QH (A++(Zs T P++b)) A.length 3=(T.length,0):=by unfold QH;rw[Qe<|by omega,Qe (by rw[c];simp only[Qo];omega)];have:=EK A (low T.length 3)<|low P.length 15++(a++d)++b;rw[h]at this;rw[c,f,e];simp only[QN]at this ⊢;rw[show(3:Int).toNat=3 from rfl,this,IW,XQ<|by omega]
 have q2:QH (A++(Zs T P++b)) (A.length+3) 15=(P.length,0):=by unfold QH;rw[Qe<|by omega,Qe (by rw[c];simp only[Qo];omega)];have:=EK (A++low T.length 3) (low P.length 15)<|a++d++b;rw[j,Qo,h]at this;rw[c,f,e];simp only[QN]at this ⊢;rw[show(15:Int).toNat=15 from rfl,this,IW,XQ<|by omega]
 have h:=fF T.length (d++b) (QA P) (List.range T.length) [] (A++(low T.length 3++low P.length 15)) (by simp) fun j hp=>by obtain⟨k,j,rfl⟩:=Qy.1 hp;have:=i k j;rw[ZL];omega
 have i:=jV n b T [] (A++(low T.length 3++(low P.length 15++a))) g;rw[f]at h;rw[e]at i;have g:A++(low T.length 3++low P.length 15)++(a++(d++b))=A++(Zs T P++b):=by rw[c,f,e];simp
 have j:A++(low T.length 3++(low P.length 15++a))++(d++b)=A++(Zs T P++b):=by rw[c,f,e];simp
 have b:(A++(low T.length 3++low P.length 15)).length=A.length+18:=by simp only[Qo];omega
 have k:(A++(low T.length 3++(low P.length 15++a))).length=A.length+18+a.length:=by simp only[Qo];omega
 rw[g,b,UF,Yv]at h;rw[j,k,Yv]at i;have b:A.length+(Zs T P).length=A.length+18+a.length+d.length:=by rw[c,f,e];simp only[Qo];omega
 unfold Uk;rw[Qe (by simp only[Qo];omega),Zw,l];simp only;rw[Qe<|by simp,Qe<|by omega,q2];simp only;rw[Qe<|by simp,Qe<|by omega,h];simp only;rw[Qe<|by simp,i];simp only;rw[Qe<|by simp,b]
def Qeb(T P)(n:Nat)(d)(h:∀x∈P,XA (T.getD x.toNat [])=true∧(T.getD x.toNat []).length=n):
 ∀(pre:List Int)(b A:List Bool)(e:List Nat)(f i:Nat),(∀s∈pre,0≤s∧s<(n:Int)-1)→1≤n→XU T P n i (pre++[(n:Int)-1])=some b→pre.length<f→i+pre.length<50*P.length→
  BH T (A++(b++d)) ((n:Int)-1) P f i e A.length=(e++QA (pre++[(n:Int)-1]),A.length+b.length,0):=by
 have key:∀(s:Int)(c b A:List Bool)(i:Nat),(0≤s∧s<(n:Int))→i<50*P.length→JT (Js T P i) s.toNat++c=b→Z7 (Js T P i) (A++(b++d)) A.length=(s.toNat,A.length+(JT (Js T P i) s.toNat).length,0):=by
  intro s c b A i hs hi a;have g:i/50<P.length:=by omega
  have k:P.getD (i/50) 0∈P:=by rw[List.getD,Qj g];exact XW g
  obtain⟨g1,g⟩:=h _ k;have:(Js T P i).length=n:=by unfold Js;rwa[UF]
  have g:=jR (Js T P i) s.toNat;subst a;have hp:=EK A (JT (Js T P i) s.toNat)<|c++d;rw[show A++JT (Js T P i) s.toNat++(c++d)=A++(JT (Js T P i) s.toNat++c++d)by simp,g]at hp;rw[g];exact Qbt (Js T P i) (Cl g1) (FT g1) _ A.length s.toNat (by omega) (by simp only[Qo,g];omega) hp
 intro pre
 induction pre with
 |nil=>
  intro b A e f i j l a hf hi;obtain⟨f,rfl⟩:∃h,f=h+1:=⟨f-1,by simp at hf;omega⟩;rw[Yv,XU,Qe<|by omega]at a;have a:JT (Js T P i) ((n:Int)-1).toNat++[]=b:=by simpa[XU]using a
  have hk:=key ((n:Int)-1) [] b A i (by omega) (by simpa using hi) a;rw[XP]at a;rw[a]at hk;rw[BH];have hk:Z7 (QA<|T.getD (P.getD (i/50) 0).toNat []) (A++(b++d)) A.length=_:=hk;simp only[hk];rw[Qe<|by simp,Qg<|by omega];rfl
 |cons s r g=>
  intro b A e f i j l a hf hi;obtain⟨f,rfl⟩:∃h,f=h+1:=⟨f-1,by simp at hf;omega⟩;have hs:=j s (by simp);rw[Yf,XU,Qe<|by omega]at a;cases he:XU T P n (i+1) (r++[(n:Int)-1])with
  |none=>rw[he]at a;cases a
  |some c=>rw[he]at a;have a:JT (Js T P i) s.toNat++c=b:=(by simpa using a);have hk:=key s c b A i (by omega) (by simp at hi;omega) a;have g:=g c (A++JT (Js T P i) s.toNat) (e++[s.toNat]) f (i+1) (fun x k=>j x<|by simp[k]) l he (by simp at hf;omega) (by simp at hi;omega);rw[show A++JT (Js T P i) s.toNat++(c++d)=A++(b++d)by rw[←a];simp,Qo]at g;rw[BH];have hk:Z7 (QA<|T.getD (P.getD (i/50) 0).toNat []) (A++(b++d)) A.length=_:=hk;simp only[hk];rw[Qe<|by simp,Qe<|by omega,g,←a];simp[QA,Jj]
def xG(T P pre A c e n)(g:Xm T P=true)(f:n=(T.getD 0 []).length)(m:∀s∈pre,0≤s∧s<(n:Int)-1)(j:XU T P n 0 (pre++[(n:Int)-1])=some c)(k:ZG (pre.length+1)≤P.length):
 Rx T P (A++(c++e)) (A.length:Nat)=(QA<|pre++[(n:Int)-1],A.length+c.length,0):=by
 obtain⟨a,a,d,i⟩:=RB g;have h:∀a∈P,T.getD a.toNat []∈T:=by
  intro a b;have:=i a b;have i:a.toNat<T.length:=by omega
  rw[List.getD,Qj i];exact XW i
 have i:∀a∈P,XA (T.getD a.toNat [])=true∧(T.getD a.toNat []).length=n:=fun a b=>⟨(d _<|h a b).2.2,by rw[f];exact(d _<|h a b).1⟩
 obtain⟨t0,h0⟩:∃h,T[0]?=some h:=⟨_,Qj<|by omega⟩;have h:=QC h0;have l:=(d t0 h).2.1;rw[(d t0 h).1,←f]at l;unfold ZG at k;have d:=gC T (A++(c++e)) ((n:Int)-1) P (fun a b=>(i a b).1) P.length 0 [] A.length (by omega) (by simp only[Qo];omega);have a:=Qeb T P n e i pre c A [] (50*P.length) 0 m (by omega) j (by omega) (by omega);rw[Nat.mul_zero]at d;rw[a,VK,Yv]at d;unfold Rx;rw[g,Qg rfl,Qe (by simp only[Qo];omega),Zw,←f,←d]
end K
