import Derived.Test.YtickjpnkoppmgaaGreatDoorAw
set_option linter.all false
namespace Go.Proofs.YtickjpnkoppmgaaGreatDoor
open Go.Proofs.Tryz Go.RowKit K
def TS(xs)(a:∀s∈xs,0≤s):QY (QD xs)=xs:=by
 unfold QY QD;rw[XI]
 conv=>rhs;rw[←DM xs]
 apply Yx;intro s hs;have:=a s hs;simp;omega
noncomputable def Xr(xs:LI)(n:Int):List LI × LI × Nat:=
 if X2 xs n then((Ar (QD xs) n.toNat (Yd (xs.length:Int)).1 4).map QY,QY (Rj (QD xs) n.toNat (Yd (xs.length:Int)).1 4),0)else([],[],2)
def xM(a c xs)(n:Int)(w)(h:Qp w 1 a xs.length (QM xs))(q:xs.length≤c)(h2:c≤maxLen)(y:xs.length≤20000):
 Calls prog 204 #[.slice a xs.length c,n] w (Cb (Xr xs n).1 (Xr xs n).2.1 (Xr xs n).2.2 w):=by
 cases hm:X2 xs n with
 |false=>
  have e:Xr xs n=([],[],2):=by unfold Xr;rw[hm];rfl
  rw[e];exact xN a c xs n w h (by omega) hm
 |true=>
  obtain⟨-,h3,h4,-,-,h1⟩:=Bx hm;have e:=TS xs fun s hs=>(h1 s hs).1;obtain⟨n,rfl⟩:=X7 (by omega:0≤n);have⟨L,o⟩:=qx<|QD xs;rw[o]at e;subst e;have e2:Xr (QY L) (n:Int)=((Ar L n (Yd (L.length:Int)).1 4).map QY,QY<|Rj L n (Yd (L.length:Int)).1 4,0):=by unfold Xr;rw[hm,Qg rfl,o,XF,Zs]
  rw[e2];rw[XF]at h q y ⊢;rw[AI]at h;exact xO a c n L w h q h2 hm y

def Wq(T P L):(Jd T P L).1.length≤20*L.length∧((Jd T P L).2=0→Xm T P=true)∧((Jd T P L).2≠0→(Jd T P L).1=[])∧(Jd T P L).2≤110:=by
 unfold Jd;cases h1:Xm T P with
 |false=>simp
 |true=>
  cases h2:decide (ZH L.length≤P.length)with
  |false=>simp
  |true=>
   cases h3:XT T P ((T.getD 0 []).length:Nat) 0 L with
   |none=>simp
   |some B=>have:=Wm h1 _ L 0 B h3;simpa using this
def nY(R:Nat × Nat)(w:WD)(e:Ending)(w':WD):Prop:=e=.returned (.tuple #[(R.1:Nat),(R.2:Nat)])∧Qb [] w w'
set_option maxHeartbeats 1000000 in
def bB(c b a e d g T P L w)(l:Xv w c b e d T P)(q:Qp w 1 a L.length (QM L))(j:L.length≤17592186043904):
 Calls prog 206 #[QZ c T.length e b P.length d,.slice a L.length g] w (nY (US T P L) w):=by
 have hk:Qb [] w (w.alloc<|.cells #[.slice c T.length e,.slice b P.length d] 255):=(Qc [] w).alloc _;have h:=Qy w [.slice c T.length e,.slice b P.length d] 255;have f:=aX c b a e d g T P L _ (l.kept hk) (q.kZ hk) j;unfold QZ at f ⊢;have b0:=h.cell (i:=0) (u:=.slice c T.length e) rfl;have x:=h.cell (i:=1) (u:=.slice b P.length d) rfl;have⟨t,r,C⟩:=qc hk h<|l.kept hk;obtain⟨m,n,k,o⟩:=Wq T P L;obtain⟨⟨a,g⟩,j⟩:∃p,Jd T P L=p:=⟨_,rfl⟩;have p:=Qa (by unfold VW;rw[j]:VW T P L=if g=0 then(Qv a,((a.length:Nat):Int),0)else([],0,g));rw[j]at m n k o;rw[p.o]at f;have m:a.length≤20*L.length:=m;have o:g≤110:=o;have v:=Qa j
 by_cases hz:g=0
 ·subst hz;have h:Xm T P=true:=n rfl;have⟨j,s,D⟩:=qc (by unfold US;rw[v.o];rfl:US T P L=((Zr T P).length+a.length,0)) (by unfold Bc;rw[h];rfl:Bc T P=(Qv<|Zr T P,(((Zr T P).length:Nat):Int),0)) h;have p:=Om h;have⟨l,o⟩:=qx<|Zr T P;rw[o]at j s p;rw[Qg rfl]at f;go_enter func206,ntmps206;go_wp2_with fail;refine f.mono ?_;rintro y o⟨rfl,h⟩;unfold Zg;have A:Qb [] w (o.alloc<|.cells #[.string ⟨(Qv a).toArray⟩,(a.length:Nat)] 204):=(t.o.trans h<|by simp).alloc _;have l:Qb [] (w.alloc<|.cells #[.slice c T.length e,.slice b P.length d] 255) (o.alloc<|.cells #[.string ⟨(Qv a).toArray⟩,(a.length:Nat)] 204):=h.alloc _;have z:=Qy o [.string ⟨(Qv a).toArray⟩,(a.length:Nat)] 204;have⟨q,B,p⟩:=qc A z<|bA c b e d T P _ (C.o.kept l) D.o;rw[s.o]at p;have c0:=(r.o.kept l<|by simp).cell (i:=0) (u:=.slice c T.length e) rfl;have c1:=(r.o.kept l<|by simp).cell (i:=1) (u:=.slice b P.length d) rfl;unfold QZ at p;go_wp2_with fail;refine p.o.mono ?_;rintro y b⟨rfl,c⟩;unfold Zg;have d:=Qa (q.o.trans c<|by simp);have b:=B.o.kept c (by simp);have hlt:=b.lt;have:=b.cell (i:=1) (u:=.int .i64 (a.length:Nat)) rfl
  go_wp2
  go_ret2;rw[j.o];exact⟨by simp,d.o.alloc _⟩
 have b:a=[]:=k hz;subst b;have j:=Qa (by unfold US;rw[v.o,Qf hz]:US T P L=(0,g));have g1:((g:Int) != 0)=true:=VO.2 (by omega);rw[Qf hz]at f;go_enter func206,ntmps206;go_wp2_with fail;refine f.mono ?_;rintro y o⟨rfl,h⟩;unfold Zg;have q:=Qa<|(t.o.trans h<|by simp).alloc<|.cells #[.string ⟨#[]⟩,(0:Int)] 204
 go_wp2
 go_ret2;rw[j.o];exact⟨rfl,q.o⟩
def YB(xs:LI)(n:Int):List LI × LI × Nat:=if X2 xs n then([Re xs n.toNat,Re xs n.toNat],Ae xs,0)else([],[],2)
def xT(a c xs)(n:Int)(w)(b:Qp w 1 a xs.length (QM xs))(d:xs.length≤20000):
 Calls prog 205 #[.slice a xs.length c,n] w (Cb (YB xs n).1 (YB xs n).2.1 (YB xs n).2.2 w):=by
 unfold YB;cases hm:X2 xs n with
 |false=>exact xU a c xs n w b (by omega) hm
 |true=>obtain⟨-,d,d,-,-,d⟩:=Bx hm;obtain⟨n,rfl⟩:=X7 (by omega:0≤n);rw[Zs];exact xV a c xs n w b hm
noncomputable def UH(xs:LI)(n:Int):List LI × LI × Nat:=
 if(Xr xs n).2.2=0 then(if(US (YB xs n).1 (YB xs n).2.1 xs).1<(US (Xr xs n).1 (Xr xs n).2.1 xs).1 then((YB xs n).1,(YB xs n).2.1,0)else((Xr xs n).1,(Xr xs n).2.1,0))else([],[],(Xr xs n).2.2)
def Qp.offPlan{w g m a xs}(d:Qe w g 255 [.slice none 0 0,.slice none 0 0])(hs:Qp w 1 a m xs)(h:∀u∈xs,u≠.slice none 0 0):0<xs.length→Qq (fZ a) [g]:=by
 intro h0 c i f;obtain⟨b,off,rfl,e⟩:=hs.at h0;have j:c=b:=by simpa[fZ]using i
 have b:c=g:=by simpa using f
 subst j;subst b;have c0:=e 0 xs[0] (Qj h0);have b:w.cell? ⟨c,off+0,none⟩=_:=Zu w c (off+0) _ _ _ d;rw[c0]at b;have c:=h _<|XV h0;rw[List.getElem?_toArray]at b
 match off+0,b with
 |0,b=>simp at b;exact c b
 |1,b=>simp at b;exact c b
 |k+2,b=>simp at b
def Xv.keptR{w w' g aT aP cT cP T P}(y:Qe w g 255 [.slice none 0 0,.slice none 0 0])(h:Xv w aT aP cT cP T P)(hne:∀t∈T,0<t.length)(hk:Qb [g] w w'):Xv w' aT aP cT cP T P:=by
 have x0:∀l:LI,∀u∈QM l,u≠.slice none 0 0:=by intro l u hu;obtain⟨x,-,rfl⟩:=QB.1 hu;intro h;cases h
 refine⟨?_,h.picks.keptB hk<|Qp.offPlan y h.picks<|x0 P,h.tl,h.pl,h.rl⟩;obtain⟨vs,h1,h2,h3⟩:=h.tabs;have x1:∀u∈vs,u≠.slice none 0 0:=by intro u hu;obtain⟨i,hi⟩:=Fc hu;have h9:=(Qz.1 hi).1;rw[h2,QH]at h9;have⟨t,q⟩:=qy T i h9;obtain⟨b,c,rfl,-,-,-⟩:=h3 i u (QM t) hi (by rw[ZD,q];rfl);have:=hne t<|QA q;rw[Xk];intro h;injection h with e1 e2 e3;omega
 refine⟨vs,h1.keptB hk<|Qp.offPlan y h1 x1,h2,fun i u r h4 o=>?_⟩;obtain⟨b,c,rfl,h6,h7,h8⟩:=h3 i u r h4 o;rw[ZD]at o;cases q:T[i]? with
 |none=>rw[q]at o;cases o
 |some t=>rw[q]at o;injection o with o;subst o;exact⟨b,c,rfl,h6.keptB hk<|Qp.offPlan y h6<|x0 t,h7,h8⟩
def tC(xs n)(a:(Xr xs n).2.2=0):X2 xs n=true∧(∀t∈(Xr xs n).1,(t.length:Int)=n)∧(Xr xs n).1.length=(Yd (xs.length:Int)).1:=by
 unfold Xr at a ⊢;cases hm:X2 xs n with
 |false=>rw[hm]at a;simp at a
 |true=>
  obtain⟨-,a,a,a,a,a⟩:=Bx hm;have a:=OY (QD xs) n.toNat (Yd (xs.length:Int)).1 (by omega) (by rw[UQ];omega) 4;refine⟨rfl,fun t b=>?_,?_⟩
  ·rw[Qg rfl]at b;obtain⟨d,c,rfl⟩:=QB.1 b;rw[XF,(a.2 d c).1];omega
  rw[Qg rfl,QH];exact a.1
def tB(xs n)(a:(Xr xs n).2.2≠0):(Xr xs n).2.2=2∧X2 xs n=false:=by
 unfold Xr at a ⊢;cases hm:X2 xs n with
 |false=>simp
 |true=>rw[hm]at a;simp at a
def wN(xs n)(a:X2 xs n=true):(YB xs n).2.2=0∧∀t∈(YB xs n).1,(t.length:Int)=n:=by
 obtain⟨b,b,b,b,b,b⟩:=Bx a;unfold YB;rw[a,Qg rfl];refine⟨rfl,fun t a=>?_⟩;have:(Re xs n.toNat).length=n.toNat:=by unfold Re;rw[QH,FM,Jh];simp[Ul,Bw]
 simp at a;subst a;omega
set_option maxHeartbeats 2000000 in
def xL(a c xs)(n:Int)(w)(m:Qp w 1 a xs.length (QM xs))(d:xs.length≤c)(e:c≤maxLen)(b:xs.length≤20000):
 Calls prog 164 #[.slice a xs.length c,n] w (Cb (UH xs n).1 (UH xs n).2.1 (UH xs n).2.2 w):=by
 have hk:Qb [] w (w.alloc<|.cells #[.slice none 0 0,.slice none 0 0] 255):=(Qc _ _).alloc _;have q:=Qy w [.slice none 0 0,.slice none 0 0] 255;have j:=tC xs n;have g:=tB xs n;have h:=wN xs n;have⟨A,l,I⟩:=qc (show UH xs n=if(Xr xs n).2.2=0 then(if(US (YB xs n).1 (YB xs n).2.1 xs).1<(US (Xr xs n).1 (Xr xs n).2.1 xs).1 then((YB xs n).1,(YB xs n).2.1,0)else((Xr xs n).1,(Xr xs n).2.1,0))else([],[],(Xr xs n).2.2)from rfl) (fun(r:WD)(x:Qb [] w r)=>xM a c xs n r (m.kZ x) d e b) fun(r:WD)(x:Qb [] w r)=>xT a c xs n r (m.kZ x) b;obtain⟨⟨b,d,Z⟩,t⟩:∃f,Xr xs n=f:=⟨_,rfl⟩;obtain⟨⟨e,k,o⟩,y⟩:∃f,YB xs n=f:=⟨_,rfl⟩;rw[t]at j g A l;rw[y]at h A I;have⟨B,T,z,Y,o,s⟩:=qf j g h m hk q;clear j g h m hk q t y;go_enter func164,ntmps164;go_wp2_with fail;refine(l.o _ o.o).mono ?_;rintro P y⟨g,j,f,h,rfl,D,q,h8,h4⟩;have⟨V,t,H⟩:=qc (o.o.trans q<|by simp) (s.o.kept q<|by simp) D;clear D q l o s;unfold QZ;have s:Qb [] y (y.alloc<|.cells #[.slice g b.length j,.slice f d.length h] 255):=(Qc _ _).alloc _;have C:=Qy y [.slice g b.length j,.slice f d.length h] 255;have⟨F,G,L,E⟩:=qd (V.o.trans s<|by simp) (t.o.kept s<|by simp) (H.o.kept s) C;have⟨o,l⟩:=qx<|y.alloc<|.cells #[.slice g b.length j,.slice f d.length h] 255;rw[l]at F G L E;have⟨M,q⟩:=qb l<|show w.heap.size<y.heap.size from t.o.lt;have⟨Q,o⟩:=qx y.heap.size;rw[o]at E q;have U:=Qa o;clear s C l o H
 by_cases hz:Z=0
 ·subst hz;obtain⟨o,J,-⟩:=B.o rfl;obtain⟨l,-⟩:3≤n∧n≤258:=by obtain⟨-,l,q,-⟩:=Bx o;exact⟨l,q⟩
  obtain⟨-,O⟩:=z.o o;have⟨h2,h3,H⟩:=qc (by intro l q;have m:=J l q;omega: ∀l∈b,0<l.length) (by intro l q;have m:=O l q;omega: ∀l∈e,0<l.length) (by rw[A.o,Qg rfl]:UH xs n=(if(US e k xs).1<(US b d xs).1 then(e,k,0)else(b,d,0)));clear A;clear o J O B z T;go_wp2_with fail;rw[M.o,U.o];refine(I.o _ F.o).mono ?_;rintro P z⟨m,q,l,o,rfl,D,B,h9,h5⟩;have⟨O,R,W,J,X⟩:=qe (F.o.trans B<|by simp) (G.o.kept B<|by simp) (L.o.kept B) (E.o.kept B<|by simp) D;clear D B I F G L E M;unfold QZ;have s:Qb [] z (z.alloc<|.cells #[.slice m e.length q,.slice l k.length o] 255):=(Qc _ _).alloc _;have C:=Qy z [.slice m e.length q,.slice l k.length o] 255;have⟨I,S,L,M,F,B⟩:=qf (O.o.trans s<|by simp) (R.o.kept s<|by simp) (W.o.kept s) (X.o.kept s) (J.o.kept s<|by simp) C;have:=J.o.lt;have⟨D,G⟩:=qx<|z.alloc<|.cells #[.slice m e.length q,.slice l k.length o] 255;rw[G]at I S L M F B;have⟨O,h1⟩:=qb G<|show Q<z.heap.size∧w.heap.size<z.heap.size from⟨J.o.lt,R.o.lt⟩;have⟨Q,J⟩:=qx z.heap.size;rw[J]at B h1;have R:=Qa J;clear s C J X W G;have⟨z,J⟩:=qb (fun(r:WD)(x:Qb [] D r)=>bB g f a j h c b d xs r (L.o.kept x) (Y.o.kZ<|I.o.trans x<|by simp)<|by omega) (fun(r:WD)(x:Qb [] D r)=>bB m l a q o c e k xs r (M.o.kept x) (Y.o.kZ<|I.o.trans x<|by simp)<|by omega);obtain⟨⟨G,r⟩,s⟩:∃r,US b d xs=r:=⟨_,rfl⟩;obtain⟨⟨Q,r⟩,r⟩:∃x,US e k xs=x:=⟨_,rfl⟩;simp only[s]at z H;simp only[r]at J H;have b0:=F.o.cell (i:=0) (u:=.slice g b.length j) rfl;have x:=F.o.cell (i:=1) (u:=.slice f d.length h) rfl;rw[←O.o]at b0 x;have C:=z.o D<|Qc _ _;unfold QZ at C;clear s r;go_wp2_with fail;rw[O.o];refine C.mono ?_;rintro P X⟨rfl,r⟩;have W:=Qa r;have c0:=(B.o.kept r<|by simp).cell (i:=0) (u:=.slice m e.length q) rfl;have c1:=(B.o.kept r<|by simp).cell (i:=1) (u:=.slice l k.length o) rfl;have C:=J.o X r;unfold QZ at C;rw[R.o];clear r z O b0 x;go_wp2_with fail;refine C.mono ?_;rintro P x⟨rfl,P⟩;have r:=Qa<|show Qb [] D x from W.o.trans P (by simp);have O:=Qa (I.o.trans r.o<|by simp);have D:=S.o.kept r.o (by simp);have:=D.cell (i:=0) (u:=.slice none 0 0) rfl;have:=D.cell (i:=1) (u:=.slice none 0 0) rfl;have:=D.free 0;have:=D.free 1;have z:=Qa D;clear P C J c0 c1 D
  by_cases hlt:Q<G
  ·have R:(Q:Int)<G:=(by omega);have C:=Qa (by rw[H.o,Qg hlt]:UH xs n=(e,k,0));have J:=(B.o.kept r.o<|by simp).cell (i:=0) (u:=.slice m e.length q) rfl;have P:=(B.o.kept r.o<|by simp).cell (i:=1) (u:=.slice l k.length o) rfl;have D:=((z.o.set 0<|.slice m e.length q).set 1<|.slice l k.length o).cell (i:=0) (u:=.slice m e.length q) rfl;have I:=((z.o.set 0<|.slice m e.length q).set 1<|.slice l k.length o).cell (i:=1) (u:=.slice l k.length o) rfl;clear hlt;go_wp2_with fail;refine Q5 (v:=.tuple #[QZ m e.length q l k.length o,(0:Int)]) (by simp[results,SL,go_sem,QZ,D,I]) rfl ?_;rw[C.o];have B:Qb [w.heap.size] x ((x.setCell ⟨w.heap.size,0,none⟩<|.slice m e.length q).setCell ⟨w.heap.size,1,none⟩<|.slice l k.length o):=((Qc [w.heap.size] x).setCell (p:=w) (by simp) _).setCell (p:=⟨w.heap.size,1,none⟩) (by simp) _;exact⟨m,q,l,o,rfl,(M.o.kept r.o).keptR z.o h3.o B,O.o.trans B (by intro G s;simp at s;subst s;exact .inr<|Ql _),h9,h5⟩
  have R:¬(Q:Int)<G:=by omega
  have C:=Qa (by rw[H.o,Qf hlt]:UH xs n=(b,d,0));have J:=(F.o.kept r.o<|by simp).cell (i:=0) (u:=.slice g b.length j) rfl;have P:=(F.o.kept r.o<|by simp).cell (i:=1) (u:=.slice f d.length h) rfl;have D:=((z.o.set 0<|.slice g b.length j).set 1<|.slice f d.length h).cell (i:=0) (u:=.slice g b.length j) rfl;have I:=((z.o.set 0<|.slice g b.length j).set 1<|.slice f d.length h).cell (i:=1) (u:=.slice f d.length h) rfl;clear hlt;go_wp2_with fail;refine Q5 (v:=.tuple #[QZ g b.length j f d.length h,(0:Int)]) (by simp[results,SL,go_sem,QZ,D,I]) rfl ?_;rw[C.o];have B:Qb [w.heap.size] x ((x.setCell ⟨w.heap.size,0,none⟩<|.slice g b.length j).setCell ⟨w.heap.size,1,none⟩<|.slice f d.length h):=((Qc [w.heap.size] x).setCell (p:=w) (by simp) _).setCell (p:=⟨w.heap.size,1,none⟩) (by simp) _;exact⟨g,j,f,h,rfl,(L.o.kept r.o).keptR z.o h2.o B,O.o.trans B (by intro G s;simp at s;subst s;exact .inr<|Ql _),h8,h4⟩
 have e:Z=2:=(T.o hz).1;subst e;rw[←U.o]at E;have o:=Qa (by rw[A.o,Qf<|by decide]:UH xs n=([],[],2));have hlt:=t.o.lt;have t0:=t.o.cell (i:=0) (u:=.slice none 0 0) rfl;have:=t.o.cell (i:=1) (u:=.slice none 0 0) rfl;have t2:=t.o.free 0;have t3:=t.o.free 1;have e:=((Qc [] _).alloc<|.cells #[.slice g b.length j,.slice f d.length h] 255).cZ (((t.o.set 0<|.slice none 0 0).set 1<|.slice none 0 0).cell (i:=0) (u:=.slice none 0 0) rfl) (by simp);have k:=((Qc [] _).alloc<|.cells #[.slice g b.length j,.slice f d.length h] 255).cZ (((t.o.set 0<|.slice none 0 0).set 1<|.slice none 0 0).cell (i:=1) (u:=.slice none 0 0) rfl) (by simp);have⟨l,m⟩:=qb e k;clear e k A;go_wp2_with fail;have e:=l.o;have k:=m.o;have m:=((V.o.setCell (p:=w) (.inr<|by simp)<|.slice none 0 0).setCell (p:=⟨w.heap.size,1,none⟩) (.inr<|by simp)<|.slice none 0 0).alloc<|.cells #[.slice g b.length j,.slice f d.length h] 255;have⟨l,q⟩:=qx<|((y.setCell ⟨w.heap.size,0,none⟩<|.slice none 0 0).setCell ⟨w.heap.size,1,none⟩<|.slice none 0 0).alloc<|.cells #[.slice g b.length j,.slice f d.length h] 255;rw[q]at e k m ⊢;refine Q5 (v:=.tuple #[QZ none 0 0 none 0 0,(2:Int)]) (by simp[results,SL,go_sem,QZ,e,k]) rfl ?_;rw[o.o];exact⟨none,0,none,0,rfl,Xv.nil _,m,by simp,by simp⟩
def eM(ls):QD (ls.map fun n:Nat=>(n:Int))=ls:=by
 simp only[QD,XI]
 conv=>rhs;rw[←DM ls]
 apply Yx;intro a _;simp
def xF{ls}(h:AO (ls.map fun n:Nat=>(n:Int))=true):XA (ls.map fun n:Nat=>(n:Int))=true∧K.room (QD (ls.map fun n:Nat=>(n:Int)))=1048576∧QD (ls.map fun n:Nat=>(n:Int))=ls:=by
 unfold AO at h;rw[Zv]at h;unfold UV at h
 split at h
 ·rename_i o;exact⟨by unfold XA;rw[o,h];decide,h,eM ls⟩
 simp at h
def wT{xs}(a:Yc xs=true):AO (QY<|YJ<|ZP xs)=true:=by
 obtain⟨b,b,-⟩:=EA a;have:(YJ<|ZP xs).length=xs.length:=by rw[FM,Jh]
 have k4:=wS (ZP xs) (by rw[Jh];omega) (by rw[Jh];omega);have k5:=dE (by omega) k4;have k8:Nat.log2 (ZP xs).length≤8:=fU (cR (by rw[Jh];omega)).1 (by rw[Jh];omega);unfold AO UV QY;have c:=eM<|YJ<|ZP xs;have d:Jt ((YJ<|ZP xs).map fun a:Nat=>(a:Int))=true:=by unfold Jt;rw[Xh,XO,QH];refine⟨by simp;omega,fun a e=>?_⟩;obtain⟨a,b,rfl⟩:=QB.1 e;have:=k5 a b;have:=(wO b).2;rw[Zv];omega
 rw[d,Qg rfl,c,Zv];have b:K.room (YJ<|ZP xs)=((YJ<|ZP xs).map fun a=>2^(20-a)).sum:=rfl;rw[b,k4]
structure RT(T:List LI)(P:LI)(xs:LI)(n:Int):Prop where
 may:Xm T P=true
 many:ZH xs.length≤P.length
 len:∀t∈T,(t.length:Int)=n
 full:∀t∈T,AO t=true
 two:2≤T.length
def aD{T:List LN}{P xs n m}(a:T.length=m)(a:2≤m∧m≤6)(a:P.length=ZH xs.length)(a:1≤xs.length∧xs.length≤1638350)(hp:∀x∈P,x<m)(g:3≤n)(d:∀t∈T,t.length=n∧AO (QY t)=true):
 RT (T.map QY) (QY P) xs (n:Int):=by
 have:1≤ZH xs.length∧ZH xs.length≤32767:=by unfold ZH;omega
 have e:∀t∈T.map QY,t.length=n:=by intro t a;obtain⟨c,b,rfl⟩:=QB.1 a;rw[XF];exact(d c b).1
 have f:∀t∈T.map QY,AO t=true:=by intro t a;obtain⟨c,b,rfl⟩:=QB.1 a;exact(d c b).2
 refine⟨dS (by rw[QH];omega) (by rw[XF];omega) (fun t a=>?_) fun x a=>?_,by rw[XF];omega,fun t a=>by have:=e t a;omega,f,by rw[QH];omega⟩
 ·have h0:((T.map QY).getD 0 []).length=n:=by obtain⟨t0,h0⟩:∃t,(T.map QY)[0]?=some t:=⟨_,Qj (by rw[QH];omega)⟩;rw[List.getD,h0];exact e t0 (QA h0)
  rw[h0,Gw];obtain⟨c,b,rfl⟩:=QB.1 a;exact⟨e _ a,by rwa[XF,(d c b).1],(xF (d c b).2).1⟩
 obtain⟨c,b,rfl⟩:=QB.1 a;have:=hp c b;rw[QH];omega
def Wc(xs n)(h:X2 xs n=true):RT (Xr xs n).1 (Xr xs n).2.1 xs n∧(Xr xs n).2.2=0:=by
 obtain⟨-,h3,h1,q,y,h2⟩:=Bx h;obtain⟨-,t2,t3⟩:=kE xs.length q;have⟨m,hm⟩:=qx<|(Yd (xs.length:Int)).1;rw[hm]at t2 t3;have o:(QD xs).length=xs.length:=UQ xs;unfold Xr;rw[h,Qg rfl,hm];refine⟨?_,rfl⟩;obtain⟨n,rfl⟩:=X7 (by omega:0≤n);rw[Zs];have hg:=OY (QD xs) n m ⟨by omega,by omega⟩ (by rwa[o]) 4;refine aD hg.1 ⟨t2,t3⟩ (by rw[Oh,o]) ⟨q,y⟩ (Qdm _ _ _<|by omega) (by omega) fun t ht=>⟨(hg.2 t ht).1,?_⟩
 obtain⟨k,-,rfl⟩:=QB.1<|show t∈(List.range m).map _ from ht;exact(NG _ (by rw[RA];omega) (by rw[RA];omega) (fun c hc=>by have:=IA _ _ _ _ _ c hc;rw[o]at this;omega)).2.2
def wR(xs n)(a:X2 xs n=true):RT (YB xs n).1 (YB xs n).2.1 xs n∧(YB xs n).2.2=0:=by
 obtain⟨b,c,c,e,f,c⟩:=Bx a;unfold YB;rw[a,Qg rfl];refine⟨?_,rfl⟩;obtain⟨n,rfl⟩:=X7 (by omega:0≤n);rw[Zs]at b ⊢;have c:Re xs n=QY (YJ<|ZP<|Ul xs n):=rfl;have d:Ae xs=QY (List.replicate (ZH xs.length) 0):=by unfold Ae QY;simp
 have g:(YJ<|ZP<|Ul xs n).length=n:=by rw[FM,Jh];simp[Ul,Bw]
 have:=aD (T:=[YJ<|ZP<|Ul xs n,YJ<|ZP<|Ul xs n]) (P:=List.replicate (ZH xs.length) 0) (xs:=xs) (n:=n) (m:=2) rfl ⟨by omega,by omega⟩ (by simp) ⟨e,f⟩ (fun a a=>by rw[Bl a];omega) (by omega) (fun a a=>by simp at a;subst a;exact⟨g,wT b⟩);rw[c,d];exact this
def RT.head{T P xs n}(a:RT T P xs n):((T.getD 0 []).length:Int)=n:=by obtain⟨t0,h0⟩:∃b,T[0]?=some b:=⟨_,Qj (by have:=a.two;omega)⟩;rw[List.getD,h0];exact a.len t0<|QA h0
def RT.codes{T P xs n}(b:RT T P xs n)(d:∀s∈xs,0≤s∧s<n):∃a,XT T P n 0 xs=some a∧Jd T P xs=(a,0):=by obtain⟨a,c⟩:=Wp T P n xs 0 d;refine⟨a,c,?_⟩;unfold Jd;rw[b.may,Xs b.many,b.head,c];rfl
def rS(xs n)(a:X2 xs n=true):RT (UH xs n).1 (UH xs n).2.1 xs n∧(UH xs n).2.2=0∧(US (UH xs n).1 (UH xs n).2.1 xs).1≤(US (YB xs n).1 (YB xs n).2.1 xs).1:=by
 obtain⟨c1,c2⟩:=Wc xs n a;obtain⟨b,c⟩:=wR xs n a;unfold UH;rw[Qg c2]
 by_cases hlt:(US (YB xs n).1 (YB xs n).2.1 xs).1<(US (Xr xs n).1 (Xr xs n).2.1 xs).1
 ·rw[Qg hlt];exact⟨b,rfl,Ql _⟩
 rw[Qf hlt];exact⟨c1,rfl,Nat.le_of_not_lt hlt⟩
namespace K
def kY(b):∀(k n:Nat)(a:LB),((n+k:Nat):Int)≤b→ZU b n (List.replicate k true++false::a)=(n+k,0)
 |0,n,a,h=>by simp[ZU]
 |k+1,n,a,h=>by rw[Y8,Yf,ZU,Qf<|by omega,kY b k (n+1) a<|by omega,show n+1+k=n+(k+1)by omega]
def fO(many b):∀(P a c:LN)(A:LB),a.length=many→(∀p∈P,p∈a)→
 Ji (A++(JT a P++b)) many P.length a c A.length=(c++P,A.length+(JT a P).length,0)
 | [],a,c,A,h,hp=>by simp[Ji,JT]
 |p::r,a,c,A,h,hp=>by
  have d:=hp p (by simp);have hi:a.idxOf p<a.length:=Ls.2 d;have d:JT a (p::r)=List.replicate (a.idxOf p) true++false::JT (turned a<|a.idxOf p) r:=rfl;have f:(A++(JT a (p::r)++b)).drop A.length=List.replicate (a.idxOf p) true++false::(JT (turned a<|a.idxOf p) r++b):=by rw[Fa,d,QQ,Yf]
  have j:=kY ((many:Int)-1) (a.idxOf p) 0 (JT (turned a<|a.idxOf p) r++b) (by omega);have g:a.getD (a.idxOf p) 0=p:=bM a p hi;have e:=fO many b r (turned a<|a.idxOf p) (c++[p]) (A++(List.replicate (a.idxOf p) true++[false])) (by rwa[DA a _ hi]) fun c i=>(Gy a _ hi c).2 (hp c<|by simp[i])
  have c:A++(List.replicate (a.idxOf p) true++[false])++(JT (turned a<|a.idxOf p) r++b)=A++(JT a (p::r)++b):=by rw[d];simp
  have b:(A++(List.replicate (a.idxOf p) true++[false])).length=A.length+(a.idxOf p+1):=by simp
  rw[c,b]at e;rw[Q0,Ji,f,j];simp only[ZE,Co];rw[g,Ja,e,d];simp[Ja,BY,Nat.add_left_comm]
def Qao(A a t)(e:Jt t=true):
 Ju (A++(Q2 t++a)) (A.length:Nat) (t.length:Nat)=(t,A.length+(Q2 t).length,0):=by
 obtain⟨⟨c,d⟩,b⟩:=(UN t).1 e;have f:=b _ (Nh t<|by omega);have a:Q2 t=low (t.headD 0).toNat 5++Vh (t.headD 0) t:=rfl;have e:(Q2 t).length=5+(Vh (t.headD 0) t).length:=by rw[a,Qo,X0]
 rw[e,a,QQ,Qan _ _ _ _ (by omega) ⟨c,d⟩];rw[show(((t.headD 0).toNat:Nat):Int)=t.headD 0 by omega,Qap t.length t [] _ _ _ (by simp) f b,Yy,Ja]
def kF(n a):∀(T b:List LI)(A:LB),(∀t∈T,t.length=n∧XA t=true)→
 VZ (A++(T.flatMap Q2++a)) (n:Int) T.length b A.length=(b++T,A.length+(T.flatMap Q2).length,0)
 | [],b,A,h=>by simp[VZ]
 |t::r,b,A,h=>by
  obtain⟨g,c⟩:=h t (by simp);have d:=Qao A (r.flatMap Q2++a) t<|UL c;have f:A++((t::r).flatMap Q2++a)=A++(Q2 t++(r.flatMap Q2++a)):=by rw[Jn,QQ]
  have e:=kF n a r (b++[t]) (A++Q2 t) fun b a=>h b (by simp[a])
  rw[QQ,Qo]at e;rw[g]at d;rw[f,Q0,VZ];simp only[d];rw[Qf<|by simp,c];simp only[Co];rw[e,Jn,Qo,QQ,Ja];rfl
def Qhq(T P A b n)(a:Xm T P=true)(d:n=(T.getD 0 []).length):
 Uy (A++(Zr T P++b)) (A.length:Nat) (n:Nat)=(T,QD P,A.length+(Zr T P).length,0):=by
 obtain⟨c,c,c,i⟩:=RG a;have g:∀a∈T,a.length=n∧XA a=true:=fun a g=>by rw[d];exact⟨(c a g).1,(c a g).2.2⟩
 obtain⟨t0,h0⟩:∃a,T[0]?=some a:=⟨_,Qj<|by omega⟩;have a:=QA h0;have e:=(c t0 a).2.1;have d:=((UN t0).1 (UL (c t0 a).2.2)).1;rw[(g t0 a).1]at e d;have c:Zr T P=low T.length 3++(low P.length 15++(JT (List.range T.length) (QD P)++T.flatMap Q2)):=by unfold Zr Jf;simp
 have⟨a,f⟩:=qx<|JT (List.range T.length)<|QD P;obtain⟨d,e⟩:∃a,T.flatMap Q2=a:=⟨_,rfl⟩;have h:=X0 T.length 3;have j:=X0 P.length 15;have l:QJ (A++(Zr T P++b)) A.length 3=(T.length,0):=by unfold QJ;rw[Qf<|by omega,Qf (by rw[c];simp only[Qo];omega)];have:=EE A (low T.length 3)<|low P.length 15++(a++d)++b;rw[h]at this;rw[c,f,e];simp only[QQ]at this ⊢;rw[show(3:Int).toNat=3 from rfl,this,Kp,XP<|by omega]
 have q2:QJ (A++(Zr T P++b)) (A.length+3) 15=(P.length,0):=by unfold QJ;rw[Qf<|by omega,Qf (by rw[c];simp only[Qo];omega)];have:=EE (A++low T.length 3) (low P.length 15)<|a++d++b;rw[j,Qo,h]at this;rw[c,f,e];simp only[QQ]at this ⊢;rw[show(15:Int).toNat=15 from rfl,this,Kp,XP<|by omega]
 have h:=fO T.length (d++b) (QD P) (List.range T.length) [] (A++(low T.length 3++low P.length 15)) (by simp) fun j hp=>by obtain⟨k,j,rfl⟩:=QB.1 hp;have:=i k j;rw[ZL];omega
 have i:=kF n b T [] (A++(low T.length 3++(low P.length 15++a))) g;rw[f]at h;rw[e]at i;have g:A++(low T.length 3++low P.length 15)++(a++(d++b))=A++(Zr T P++b):=by rw[c,f,e];simp
 have j:A++(low T.length 3++(low P.length 15++a))++(d++b)=A++(Zr T P++b):=by rw[c,f,e];simp
 have b:(A++(low T.length 3++low P.length 15)).length=A.length+18:=by simp only[Qo];omega
 have k:(A++(low T.length 3++(low P.length 15++a))).length=A.length+18+a.length:=by simp only[Qo];omega
 rw[g,b,UQ,Yy]at h;rw[j,k,Yy]at i;have b:A.length+(Zr T P).length=A.length+18+a.length+d.length:=by rw[c,f,e];simp only[Qo];omega
 unfold Uy;rw[Qf (by simp only[Qo];omega),Zs,l];simp only;rw[Qf<|by simp,Qf<|by omega,q2];simp only;rw[Qf<|by simp,Qf<|by omega,h];simp only;rw[Qf<|by simp,i];simp only;rw[Qf<|by simp,b]
def Qex(T P)(n:Nat)(d)(h:∀x∈P,XA (T.getD x.toNat [])=true∧(T.getD x.toNat []).length=n):
 ∀(pre:LI)(b A:LB)(e:LN)(f i:Nat),(∀s∈pre,0≤s∧s<(n:Int)-1)→1≤n→XT T P n i (pre++[(n:Int)-1])=some b→pre.length<f→i+pre.length<50*P.length→
  BL T (A++(b++d)) ((n:Int)-1) P f i e A.length=(e++QD (pre++[(n:Int)-1]),A.length+b.length,0):=by
 have key:∀(s:Int)(c b A:LB)(i:Nat),(0≤s∧s<(n:Int))→i<50*P.length→J0 (JA T P i) s.toNat++c=b→Z7 (JA T P i) (A++(b++d)) A.length=(s.toNat,A.length+(J0 (JA T P i) s.toNat).length,0):=by
  intro s c b A i hs hi a;have g:i/50<P.length:=by omega
  have k:P.getD (i/50) 0∈P:=by rw[List.getD,Qj g];exact XV g
  obtain⟨g1,g⟩:=h _ k;have:(JA T P i).length=n:=by unfold JA;rwa[UQ]
  have g:=kB (JA T P i) s.toNat;subst a;have hp:=EE A (J0 (JA T P i) s.toNat)<|c++d;rw[show A++J0 (JA T P i) s.toNat++(c++d)=A++(J0 (JA T P i) s.toNat++c++d)by simp,g]at hp;rw[g];exact Qce (JA T P i) (Cl g1) (FP g1) _ A.length s.toNat (by omega) (by simp only[Qo,g];omega) hp
 intro pre
 induction pre with
 |nil=>
  intro b A e f i j l a hf hi;obtain⟨f,rfl⟩:∃h,f=h+1:=⟨f-1,by simp at hf;omega⟩;rw[Yy,XT,Qf<|by omega]at a;have a:J0 (JA T P i) ((n:Int)-1).toNat++[]=b:=by simpa[XT]using a
  have hk:=key ((n:Int)-1) [] b A i (by omega) (by simpa using hi) a;rw[XH]at a;rw[a]at hk;rw[BL];have hk:Z7 (QD<|T.getD (P.getD (i/50) 0).toNat []) (A++(b++d)) A.length=_:=hk;simp only[hk];rw[Qf<|by simp,Qg<|by omega];rfl
 |cons s r g=>
  intro b A e f i j l a hf hi;obtain⟨f,rfl⟩:∃h,f=h+1:=⟨f-1,by simp at hf;omega⟩;have hs:=j s (by simp);rw[Yf,XT,Qf<|by omega]at a;cases he:XT T P n (i+1) (r++[(n:Int)-1])with
  |none=>rw[he]at a;cases a
  |some c=>rw[he]at a;have a:J0 (JA T P i) s.toNat++c=b:=(by simpa using a);have hk:=key s c b A i (by omega) (by simp at hi;omega) a;have g:=g c (A++J0 (JA T P i) s.toNat) (e++[s.toNat]) f (i+1) (fun x k=>j x<|by simp[k]) l he (by simp at hf;omega) (by simp at hi;omega);rw[show A++J0 (JA T P i) s.toNat++(c++d)=A++(b++d)by rw[←a];simp,Qo]at g;rw[BL];have hk:Z7 (QD<|T.getD (P.getD (i/50) 0).toNat []) (A++(b++d)) A.length=_:=hk;simp only[hk];rw[Qf<|by simp,Qf<|by omega,g,←a];simp[QD,Ja]
def xS(T P pre A c e n)(g:Xm T P=true)(f:n=(T.getD 0 []).length)(m:∀s∈pre,0≤s∧s<(n:Int)-1)(j:XT T P n 0 (pre++[(n:Int)-1])=some c)(k:ZH (pre.length+1)≤P.length):
 RD T P (A++(c++e)) (A.length:Nat)=(QD<|pre++[(n:Int)-1],A.length+c.length,0):=by
 obtain⟨a,a,d,i⟩:=RG g;have h:∀a∈P,T.getD a.toNat []∈T:=by
  intro a b;have:=i a b;have i:a.toNat<T.length:=by omega
  rw[List.getD,Qj i];exact XV i
 have i:∀a∈P,XA (T.getD a.toNat [])=true∧(T.getD a.toNat []).length=n:=fun a b=>⟨(d _<|h a b).2.2,by rw[f];exact(d _<|h a b).1⟩
 obtain⟨t0,h0⟩:∃h,T[0]?=some h:=⟨_,Qj<|by omega⟩;have h:=QA h0;have l:=(d t0 h).2.1;rw[(d t0 h).1,←f]at l;unfold ZH at k;have d:=gN T (A++(c++e)) ((n:Int)-1) P (fun a b=>(i a b).1) P.length 0 [] A.length (by omega) (by simp only[Qo];omega);have a:=Qex T P n e i pre c A [] (50*P.length) 0 m (by omega) j (by omega) (by omega);rw[Nat.mul_zero]at d;rw[a,VD,Yy]at d;unfold RD;rw[g,Qg rfl,Qf (by simp only[Qo];omega),Zs,←f,←d]
end K
