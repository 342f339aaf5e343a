import Derived.Shelf.SlSortCmp.WholeK
import Derived.Ground.SlsfProg
import Derived.Test.YtickjpnkoppmgaaGreatDoorAh
set_option linter.all false
set_option maxHeartbeats 2000000
namespace Go.Proofs.YtickjpnkoppmgaaGreatDoor
open Go.Proofs.Tryz Go.RowKit K
def KJ(w:WD)(p u):(w.setCell p u).heap.size=w.heap.size:=by simp[World.setCell]
def qY(w:WD)(a):(w.alloc a).heap.size=w.heap.size+1:=by simp
def Ma:(prog.info? 364).map (fun i=>(i.zero,i.size,i.bytes))=some (some<|.agg #[(0:Int),(0:Int)],2,16):=by kernel_rfl
def AY(b:LN)(i:Nat):List (Nat × Nat):=(List.range i).map fun a=>(b.getD a 0,a)
def Qda(a i x)(b:a[i]?=some x):ZW ((AY a<|i+1).map Zk)=ZW ((AY a i).map Zk)++[.int .i64 (x:Int),.int .i64 (i:Int)]:=by
 have c:a.getD i 0=x:=by rw[List.getD,b];rfl
 unfold AY;rw[JJ,Xi,Xi,kP]
 congr 1
 simp only[QR,YG,c];rfl
def fI(a i):(AY a i).length=i:=by simp[AY]
def pW(w0:WD)(c:LN)(e:Nat)(g:Nat)(f:VL)(wr:WD):Prop:=
 ∃(a:Nat)(b:OA)(d:Nat),g=c.length-a∧a≤c.length∧f=.int .i64 (a:Nat)∧Hid (Qe wr e 362 [.slice b a d])∧Hid (Qn wr 364 2 (.slice b a d) a (ZW ((AY c a).map Zk)))∧
  Hid (Qb [] w0 wr)∧Hid (Qs w0.heap.size (fZ b))∧Hid (e∉fZ b)
def nA(w0:WD)(c:LN)(k j d:Nat)(g:Nat)(l:VL)(wr:WD):Prop:=
 ∃(a b f gt i:Nat)(h:List (Nat × Nat))(e:LN),a=g∧b+a+1=c.length∧f=c.length+b∧l=.int .i64 (f:Nat)∧Hid (Qe wr k 362 [.slice gt (a+1) i])∧
  Hid (Qn wr 364 2 (.slice gt (a+1) i) (a+1) (ZW (h.map Zk)))∧Hid (h.Perm (K.roots (QU c b).1 (QU c b).2 f)∧h.length=a+1)∧
  Hid (Qh wr 3 (.slice j d d) (Qi e))∧Hid (e.length=d∧∀a,e.getD a 0=(QU c b).2.getD a 0)∧Hid (Qb [] w0 wr)∧Hid (gt≠k∧gt≠j∧w0.heap.size≤gt)
def mL(w0:WD)(c ls:LN)(n b m i f e r:Nat)(d:Nat)(g:VL)(wr:WD):Prop:=
 ∃a,a<m∧Hid (K.Up c a d r)∧Hid (d≤ls.getD i 0)∧g=.int .i64 (a:Nat)∧Hid (Qh wr 3 (.slice f n n) (Qi (Am ls n i (ls.getD i 0-d))))∧
  Hid (Qh wr 3 (.slice e b b) (Qi c))∧Hid (Qb [] w0 wr)
def yF(a c b ls w)(e:Qp w 1 a b.length (Qi b))(h0:1≤b.length)(d:b.length≤258)(hw:∀x∈b,1≤x)(hs:b.sum≤1000000000000)(f:Cd b ls):
 Calls prog 281 #[.slice a b.length c] w (nH ls w):=by
 have⟨h,h5,L⟩:=qc e hw f;obtain⟨d,off,rfl,-⟩:=e.at (by rw[QF];omega);have:d<w.heap.size:=e.lt (by rw[QF];omega) d (by simp[fZ]);clear e hw f;go_enter func281,ntmps281;go_wp2_with fail;have⟨d,q⟩:=qb (Qy w [.slice none 0 0] 362)<|(Qc [] w).alloc<|.cells #[.slice none 0 0] 362
 go_loopg [16] b.length (fun u z wr=>pW w b w.heap.size u z wr)
 ·exact⟨0,none,0,by omega,by omega,rfl,d,Qa<|Qn.nil _ _ _,q,Qa<|by simp[Qs,fZ],Qa<|by simp[fZ]⟩
 clear d q;obtain⟨d,at_,t,g,hi,rfl,y,B,q,m,o⟩:=hrel;have O:=Qa g;clear g
 by_cases hlt:d<b.length
 ·have h3:(d:Int)<b.length:=by omega
  have⟨x,l⟩:=qy b d hlt;have c0:=(h.o.kZ q.o).natD l;have c1:wr.cell? w=some (.slice at_ d t):=y.o.cell (i:=0) rfl;have:w.heap.size<wr.heap.size:=y.o.lt;have n:=Qa l;clear l;go_wp2_with ((at_builtin;refine RO wr rfl _ _ 362 rfl 364 (.agg #[(0:Int),(0:Int)]) 2 16 Mk Ma rfl (by decide) (.slice at_ d t) d _ [.int .i64 (x:Int),.int .i64 (d:Int)] rfl rfl rfl rfl (by simp[Value.oneCell']) B.o (by simp only[maxLen];omega) (by omega) ?_;intro f p k r i h;have E:=y.o.kept i (by rw[XK];exact o.o);have:k.cell? w=some (.slice at_ d t):=E.cell (i:=0) rfl;have:=E.free 0))
  go_roundg (b.length-(d+1))
  case measure=>have:=O.o;omega
  have j:f≠w.heap.size:=by
   rcases h with e|e
   ·rw[XK]at e;intro W;rw[W]at e;exact o.o e
   omega
  have s:w.heap.size≤f:=by
   rcases h with e|e
   ·rw[XK]at e;exact m.o f e
   omega
  refine⟨d+1,some ⟨f,0,none⟩,p,by omega,by omega,by simp,Qa<|E.set 0 _,Qa ?_,Qa<|(q.o.trans i fun x l=>.inr<|m.o x<|by rwa[XK]at l).setCell (p:=w) (.inr<|Ql _) _,Qa (by simp[Qs,fZ];exact s),Qa (by simp[fZ];exact fun e=>j e.symm)⟩;rw[Qda b d x n.o];exact Qn.kept r ((Qc [w.heap.size] k).setCell (p:=w) (by simp) _) (by intro i C n;simp[Qd,qo]at C n;subst C;exact j n)
 obtain rfl:d=b.length:=by omega
 have x1:¬(b.length:Int)<b.length:=by omega
 have⟨j,h⟩:=qx<|2*b.length;obtain⟨gt,rfl,h1⟩:∃gt,at_=some ⟨gt,0,none⟩∧gt<wr.heap.size:=by
  obtain⟨f,f,f,-,-,k,hf⟩:=Qn.sees B.o;cases f;obtain⟨p,p,p,-⟩:=k.at (by rw[Dz,QH,fI];omega);rcases B.o.2 with⟨p,S⟩|⟨u,cap,M,f,hb,g,k⟩
  ·omega
  cases f;exact⟨u,rfl,BF g⟩
 have Z:=Qa h;have R:(2:Int)*b.length=(j:Int):=by omega
 have:j≤1000:=by omega
 clear h;go_wp2_with ((at_make;refine YZ rfl _ _ 51 rfl 3 (0:Int) 8 XC XJ rfl .i64 .i64 _ _ j j rfl rfl rfl rfl (Ql _) (by omega) (by simp only[maxLen];omega) ?_;intro Y v s));have⟨g,U⟩:=qx wr.heap.size;have I:=Qa<|show w.heap.size≤g∧gt≠g∧w.heap.size≠g from⟨by have:=q.o.size;omega,by omega,by have:=y.o.lt;omega⟩;rw[U]at v ⊢;rw[show List.replicate j (Value.int .i64 0)=Qi (List.replicate j 0)by simp[Qi]]at v;obtain⟨f,h⟩:∃f,b.length=f+1:=⟨b.length-1,by omega⟩;have T:=y.o.kept s (by simp);have P:=Qn.kept B.o s (by simp[Qq]);have⟨F,G⟩:=qb (q.o.trans s<|by simp) v;have X:w.heap.size≤gt:=m.o gt (by simp[fZ]);have V:gt≠w.heap.size:=fun e=>o.o (by simp[fZ,e])
 have A:=Qa<|show gt≠w.heap.size∧gt≠g∧w.heap.size≤gt from⟨V,I.o.2.1,X⟩;have Q:=Qa (show(AY b b.length).Perm (K.roots (QU b 0).1 (QU b 0).2 b.length)∧(AY b b.length).length=f+1 from⟨by
  show(AY b b.length).Perm (K.roots b (List.replicate b.length 0) b.length);rw[Qfd];exact List.Perm.refl _,by rw[fI,h]⟩)
 have⟨r,J,H,Y⟩:=qd (show(List.replicate j 0).length=j∧∀D,(List.replicate j 0).getD D 0=(QU b 0).2.getD D 0 from⟨by simp,fun D=>by rw[KA];exact(KA b.length D).symm⟩) (show Qe Y w.heap.size 362 [.slice (some ⟨gt,0,none⟩) (f+1) t]from by rw[←h];exact T) (show Qn Y 364 2 (.slice (some ⟨gt,0,none⟩) (f+1) t) (f+1) (ZW<|(AY b b.length).map Zk)from by rw[←h];exact P) h;clear T P v s X V h y B q m o h1 O U R
 go_loopg [7] f (fun u z wr=>nA w b w.heap.size g j u z wr)
 ·exact⟨f,0,b.length,gt,t,_,_,rfl,by have:=Y.o;omega,by omega,rfl,J,H,Q,G,r,F,A⟩
 clear J H Q G r F A;obtain⟨k,m,f,gt,t,z,s,rfl,o,n,rfl,y,B,G,O,r,q,A⟩:=hrel;have v:=Qa n;have:f≤1000:=by omega
 have:f<j:=by have:=Z.o;omega
 clear n;have c0:wr.cell? w=some (.slice (some ⟨gt,0,none⟩) (k+1) t):=y.o.cell (i:=0) rfl;have J:=Qa o;clear o;rcases V9 k with o|o
 ·subst o;obtain⟨P,H,-,-,-⟩:=L.o;have h8:=Qa<|Qf8 L.o hs;have L:b.length-1=m:=by have:=J.o;omega
  rw[L]at H;have T:∀d,d<b.length→∃k,K.Up s d (ls.getD d 0) k∧s.getD k 0=0:=fun d hi=>by obtain⟨k,F,o⟩:=H d hi;exact⟨k,F.congr fun D _=>r.o.2 D,by rwa[r.o.2]⟩
  have o:∀d,s.getD d 0<f:=fun d=>by rw[r.o.2];exact xQ (fun x l=>by have:=bJ b h0 m x l;rw[v.o];exact this) (by have:=v.o;omega) d
  have⟨Z,F,h9,X⟩:=qd T P o r.o.1;have:b.length≤f:=by have:=v.o;omega
  clear H T P o L y B G r;go_wp2_with ((at_make;refine YZ rfl _ _ 51 rfl 3 (0:Int) 8 XC XJ rfl .i64 .i64 _ _ b.length b.length rfl rfl rfl rfl (Ql _) (by omega) (by simp only[maxLen];omega) ?_;intro o H L));rw[show List.replicate b.length (Value.int .i64 0)=Qi (List.replicate b.length 0)by simp[Qi]]at H;have⟨o,P⟩:=qx wr.heap.size;have U:=Qa<|show g≠o∧w.heap.size≤o from⟨by have:=O.o.lt g (by simp[Qd,qo]);omega,by have:=q.o.size;omega⟩;rw[P]at H ⊢;have⟨V,T,Y⟩:=qc (O.o.kept L<|by simp) (q.o.trans L<|by simp) H;clear H L O q P c0
  go_loopg [69] b.length (fun u H wr=>∃d:Nat,u=b.length-d∧d≤b.length∧H=.int .i64 (d:Nat)∧Hid (Qh wr 3 (.slice (some ⟨o,0,none⟩) b.length b.length)<|Qi<|ls.take d++List.replicate (b.length-d) 0)∧
   Hid (Qh wr 3 (.slice (some ⟨g,0,none⟩) j j)<|Qi s)∧Hid (Qb [] w wr))
  ·exact⟨0,by omega,by omega,rfl,Y,V,T⟩
  obtain⟨d,u,hi,rfl,V,H,h2⟩:=hrel;have x0:=Qa u;clear u
  by_cases hlt:d<b.length
  ·have h3:(d:Int)<b.length:=(by omega);obtain⟨P,u,h⟩:=Z.o d hlt;have⟨h3,L⟩:=qb h u;clear u h;obtain⟨h,rfl⟩:∃h:WD,h=wr:=⟨_,rfl⟩;rw[Qc2 ls b.length d hlt]at V
   go_wp2
   go_loopg [13] (ls.getD d 0) (fun h u wr=>mL w s ls b.length j f d o g P h u wr)
   ·exact⟨d,by omega,L,Qa<|Ql _,rfl,by rw[ZO];exact V,H,h2⟩
   obtain⟨M,h,h4,Z,rfl,L,P,h1⟩:=hrel;have⟨h,u⟩:=qx<|s.getD M 0;have:(M:Int)<j:=(by omega);have T:s[M]?=some h:=(by rw[←u,RU,Qj (by have:=X.o;omega)];rfl);have c2:=P.o.aZ<|BG T
   by_cases X:h=0
   ·have H:=h4.o.root h3.o (by rw[u];exact X);subst X;have Y:=Qa H;clear H u T
    go_wp2
    go_roundg (b.length-(d+1))
    ·have e:=L.o;rw[Y.o,Br,Qcz ls _ d hlt F.o]at e;exact⟨d+1,by omega,by omega,by simp,Qa e,P,h1⟩
    have:=x0.o;omega
   obtain⟨H,W,Y⟩:=h4.o.next h3.o (by rw[u];exact X);subst W;rw[u]at Y;have h4:=Qa Y;have x0:h<f:=(by rw[←u];exact h9.o _);have:((h:Int)==0)=false:=(by simp;omega);have g1:((h:Int) != 0)=true:=(by simp;omega);have⟨i,C⟩:=qx<|ls.getD d 0-(H+1);have:i≤1000:=(by have:=h8.o d;omega);have W:=Qa (by have:=Z.o;omega:ls.getD d 0-H=i+1);have c1:=L.o.aZ<|BG<|Qc0 ls b.length d _ hlt F.o;rw[C]at c1 L;have h3:=L.o.free d;have X:=Qa U.o.1;have c3:(wr.setCell ⟨o,d,none⟩<|.int .i64<|(i:Int)+1).cell? ⟨g,M,none⟩=some (.int .i64 (h:Int)):=(P.o.setCell (p:=⟨o,d,none⟩) (by simp[Qd,qo];exact fun e=>X.o e.symm)<|.int .i64<|(i:Int)+1).aZ<|BG T;clear Y C u T
   go_wp2
   go_roundg H
   ·have p:=L.o.put d<|.int .i64 ((i+1:Nat):Int);rw[←AV,Qc1 ls _ d _ _ hlt F.o,←W.o]at p;have S:=P.o.setCell (p:=⟨o,d,none⟩) (by simp[Qd,qo];exact fun e=>X.o e.symm)<|.int .i64 ((i+1:Nat):Int);have L:=h1.o.setCell (p:=⟨o,d,none⟩) (.inr U.o.2)<|.int .i64 ((i+1:Nat):Int);rw[W.o]at p;have P:Hid (Qh (wr.setCell ⟨o,d,none⟩<|.int .i64<|(i:Int)+1) 3 (.slice (some ⟨o,0,none⟩) b.length b.length)<|Qi<|Am ls b.length d<|ls.getD d 0-H):=Qa (by rwa[W.o]);exact⟨h,x0,h4,Qa (by have:=Z.o;omega),by first|rfl|simp,P,Qa S,Qa L⟩
   omega
  obtain rfl:d=b.length:=by omega
  have x1:¬(b.length:Int)<b.length:=by omega
  go_wp2
  go_ret;have e:=V.o;rw[ZO,CP,XH,Q8 (by rw[F.o];exact Ql _),←F.o]at e;exact⟨some ⟨o,0,none⟩,ls.length,by rw[F.o];rfl,e,h2.o,by intro x l;simp[fZ]at l;subst l;exact U.o.2⟩
 obtain⟨k,rfl⟩:∃d,k=d+1:=⟨k-1,by omega⟩;have:k≤1000:=by have:=J.o;omega
 have M:(QU b m).1.length=f:=by rw[v.o];exact Ev b m
 have F:(QU b m).2.length=f:=by rw[v.o];exact Kc b m
 have o:∀h∈z,h.1≤1000000000000∧h.2≤1000000000000:=fun h u=>by
  obtain⟨p,S,L⟩:=OF.1<|G.o.1.mem_iff.1 u;have P:=bH b h5.o m (by have:=J.o;omega) h.1 (by rw[L,List.getD,Qj<|by omega];exact XV _);omega
 have U:=Qa o;have L:=aA w.heap.size gt t (k+1) z wr y.o B.o G.o.2 (by omega) o fun e=>A.o.1 e.symm;have B:=Qa L;clear L M F o;go_wp2_with fail;refine B.o.mono ?_;rintro H V⟨L,y,rfl,o,Y,T,P,X⟩;have W:∀h∈YV z y,h.1≤1000000000000∧h.2≤1000000000000:=fun h u=>U.o h<|(Ob z y L o).mem_iff.2<|XW _ u
 have u:(YV z y).length=k+1:=by rw[Oa,G.o.2];rfl
 have h:=aA w.heap.size gt t k (YV z y) V T P u (by omega) W fun e=>A.o.1 e.symm;have⟨U,L,V⟩:=qc h (Qr o Y) X;clear h W u o Y T P X B c0;go_wp2_with fail;refine U.o.mono ?_;rintro H o⟨t2,i2,rfl,Y,h1,X,W,Z⟩;obtain⟨h,d,hp,h4,H,P,u,x6⟩:=bI b h5.o m (by have:=J.o;omega);rw[←v.o]at hp h4 H P u;obtain⟨B,R,T,h2⟩:=Qib G.o.1 (by rw[v.o];exact Kc b m) (by omega) H P L.o.1 L.o.2 Y h1;have h5:(QU b m).1.getD h 0+(QU b m).1.getD d 0≤1000000000000:=by omega
 have⟨x,l⟩:=qx<|(QU b m).1.getD h 0;have⟨i,C⟩:=qx<|(QU b m).1.getD d 0;rw[l]at B h5 u;rw[C]at R h5 u;subst B;subst R;have R:(YV (YV z y) i2).length=k:=by rw[Oa,Oa,G.o.2];omega
 have⟨h9,x1,Q,h5⟩:=qd R u h2 (show g∉[w.heap.size,gt]by simp;exact⟨fun e=>I.o.2.2 e.symm,fun e=>A.o.2.1 e.symm⟩);have G:Qb [w.heap.size,gt] wr o:=V.o.trans Z fun x l=>.inl l;have⟨B,h8,x2,x0⟩:=qd (O.o.kept G (by intro x l;simp[Qd,qo]at l;subst l;exact h5.o)) (q.o.trans G (by intro x l;simp at l;rcases l with e|e;exact .inr (by omega);exact .inr (by rw[e];exact A.o.2.2))) X W;obtain⟨s,O⟩:∃q,q=s:=⟨_,rfl⟩;subst O;have⟨q,O⟩:=qy s h (by have:=r.o.1;omega);obtain⟨h5,h5⟩:∃q,s[d]?=some q:=⟨_,Qj (by have:=r.o.1;omega)⟩;have x3:=B.o.aZ<|BG O;have x4:=B.o.aZ<|BG h5;have x5:=B.o.free h;have h3:=B.o.free d;have:(h:Int)<j:=by omega
 have:(d:Int)<j:=by omega
 have:¬d=h:=fun e=>T e.symm
 have:¬h=d:=T;have:g<o.heap.size:=B.o.lt g (by simp[Qd,qo]);clear H P u x6 h2 R Z Y h1 X W L V U l C O h5 G T;rw[show UA (Zk (x,h))=.agg #[.int .i64 (x:Int),(h:Int)]from rfl,show UA (Zk (i,d))=.agg #[.int .i64 (i:Int),.int .i64 (d:Int)]from rfl];go_wp2_with fail
 go_region
 have C:Qb [g] o ((((o.setCell ⟨g,h,none⟩ (f:Int)).setCell ⟨g,d,none⟩ (f:Int)).alloc<|.cells #[.int .i64 (x:Int),(h:Int)] 364).alloc<|.cells #[.int .i64 (i:Int),.int .i64 (d:Int)] 364).drew:=
  (((((Qc [g] o).setCell (p:=⟨g,h,none⟩) (by simp) _).setCell (p:=⟨g,d,none⟩) (by simp) _).alloc _).alloc _).drew
 have G:Qe ((((o.setCell ⟨g,h,none⟩ (f:Int)).setCell ⟨g,d,none⟩ (f:Int)).alloc<|.cells #[.int .i64 (x:Int),(h:Int)] 364).alloc<|.cells #[.int .i64 (i:Int),.int .i64 (d:Int)] 364).drew o.heap.size 364 [.int .i64 (x:Int),(h:Int)]:=by have p:=Qy ((o.setCell ⟨g,h,none⟩ (f:Int)).setCell ⟨g,d,none⟩ (f:Int)) [.int .i64 (x:Int),(h:Int)] 364;rw[KJ,KJ]at p;exact p.kept (((Qc [] _).alloc _).drew) (by simp)
 have H:Qe ((((o.setCell ⟨g,h,none⟩ (f:Int)).setCell ⟨g,d,none⟩ (f:Int)).alloc<|.cells #[.int .i64 (x:Int),(h:Int)] 364).alloc<|.cells #[.int .i64 (i:Int),.int .i64 (d:Int)] 364).drew (o.heap.size+1) 364 [.int .i64 (i:Int),.int .i64 (d:Int)]:=by have p:=Qy (((o.setCell ⟨g,h,none⟩ (f:Int)).setCell ⟨g,d,none⟩ (f:Int)).alloc<|.cells #[.int .i64 (x:Int),(h:Int)] 364) [.int .i64 (i:Int),.int .i64 (d:Int)] 364;rwa[qY,KJ,KJ]at p
 have L:Qh ((((o.setCell ⟨g,h,none⟩ (f:Int)).setCell ⟨g,d,none⟩ (f:Int)).alloc<|.cells #[.int .i64 (x:Int),(h:Int)] 364).alloc<|.cells #[.int .i64 (i:Int),.int .i64 (d:Int)] 364).drew 3 (.slice (some ⟨g,0,none⟩) j j) (Qi<|(s.set h f).set d f):=by rw[AV,AV];exact(((B.o.put h (f:Int)).put d (f:Int)).alloc _).alloc _
 have⟨l,R⟩:=qx<|((((o.setCell ⟨g,h,none⟩ (f:Int)).setCell ⟨g,d,none⟩ (f:Int)).alloc<|.cells #[.int .i64 (x:Int),(h:Int)] 364).alloc<|.cells #[.int .i64 (i:Int),.int .i64 (d:Int)] 364).drew;rw[R]at C G H L ⊢;have E:=x2.o.kept C (by simp;exact I.o.2.2);have B:=Qn.kept x0.o C (by intro q hz n;simp[Qd,qo]at hz n;subst hz;exact A.o.2.1 n);have⟨T,P,U,O⟩:=qd (h8.o.trans C (by intro q hz;simp at hz;subst hz;exact .inr I.o.1)) E B L;have k0:l.cell? w=some (.slice (some ⟨gt,0,none⟩) k t):=E.cell (i:=0) rfl;have k1:l.cell? o=some (.int .i64 (x:Int)):=G.cell (i:=0) rfl;have k2:l.cell? ⟨o.heap.size+1,0,none⟩=some (.int .i64 (i:Int)):=H.cell (i:=0) rfl;clear E B L G H C R x3 x4 x5 h3;go_wp2_with ((at_builtin;refine RO l rfl _ _ 362 rfl 364 (.agg #[(0:Int),(0:Int)]) 2 16 Mk Ma rfl (by decide) (.slice (some ⟨gt,0,none⟩) k t) k _ [.int .i64<|(x:Int)+i,(f:Int)] rfl rfl rfl rfl (by simp[Value.oneCell']) U.o (by simp only[maxLen];omega) (by omega) ?_;intro o G B L E H;have C:=P.o.kept E (by simp[Qd,qo];exact fun e=>A.o.1 e.symm);have:B.cell? w=some (.slice (some ⟨gt,0,none⟩) k t):=C.cell (i:=0) rfl;have f6:=C.free 0))
 go_roundg k
 case measure=>omega
 have l:o≠w.heap.size∧o≠g∧w.heap.size≤o:=by
  rcases H with e|e
  ·simp[Qd,qo]at e;subst e;exact A.o
  have p:=O.o.lt g (by simp[Qd,qo]);have S:=P.o.lt;omega
 have e:Qb [w.heap.size] B (B.setCell ⟨w.heap.size,0,none⟩<|.slice o (k+1) G):=(Qc [w.heap.size] B).setCell (p:=w) (by simp) _;have F:(QU b m).2.length=f:=by rw[v.o];exact Kc b m
 have M:(QU b m).1.length=f:=by rw[v.o];exact Ev b m
 have u:=x1.o;have hrs:=Qfc (W:=(QU b m).1) (over:=((QU b m).2.set h f).set d f) (k:=f) (x:=x+i) M (by rw[Jo,Jo];exact F);refine⟨k,m+1,f+1,o,G,YV (YV z y) i2++[(x+i,f)],(s.set h f).set d f,rfl,by have:=J.o;omega,by have:=v.o;omega,by simp,Qa<|C.set 0 _,Qa ?_,Qa ⟨?_,?_⟩,Qa ?_,Qa ⟨?_,?_⟩,Qa ?_,Qa l⟩
 ·have p:ZW ((YV (YV z y) i2++[(x+i,f)]).map Zk)=ZW ((YV (YV z y) i2).map Zk)++[.int .i64<|(x:Int)+i,.int .i64 (f:Int)]:=by
   rw[Xi,kP]
   congr 1
  rw[p];exact Qn.kept L e (by intro q hz n;simp[Qd,qo]at hz n;subst hz;exact l.1 n)
 ·rw[u,hrs];exact Q.o.append_right _
 ·rw[Qo,h9.o];rfl
 ·exact(O.o.kept E (by intro q hz n;simp[Qd,qo]at hz n;subst hz;exact A.o.2.1 n.symm)).kept e (by intro q hz n;simp[Qd,qo]at hz n;subst hz;exact I.o.2.2 n.symm)
 ·rw[Jo,Jo];exact r.o.1
 ·intro D;rw[u];simp only[];rw[IT,Ah,Ah,Ah,Ah,r.o.2 D,Jo,Jo,r.o.1,F];obtain⟨b,e⟩:h<j∧d<j:=by omega
  simp only[hp,h4,b,e,and_true]
 exact(T.o.trans E (by intro q hz;simp[Qd,qo]at hz;subst hz;exact .inr A.o.2.2)).setCell (p:=w) (.inr<|Ql _) _
def mF(xs:LI)(w:WD)(e:Ending)(w':WD):Prop:=
 ∃a b,e=.returned (.slice (some ⟨a,0,none⟩) xs.length b)∧Qh w' 3 (.slice (some ⟨a,0,none⟩) xs.length b) (QM xs)∧Qb [] w w'∧w.heap.size≤a
def tK(a c xs w)(b:Qp w 1 a xs.length (QM xs))(h0:1≤xs.length)(d:xs.length≤1000000):
 Calls prog 280 #[.slice a xs.length c] w (mF xs w):=by
 have f:=Qa b;have e:∀d∈QM xs,d.oneCell'=true:=by intro d d;obtain⟨c,-,rfl⟩:=QB.1 d;rfl
 have i:=Qa e;obtain⟨d,off,rfl,-⟩:=b.at (by rw[Xk];omega);have:=fun e:WD=>EY (P:=prog) e 51 3 (some ⟨d,off,none⟩) xs.length c 0 0 XC
 go_enter func280,ntmps280;have h:Qp (w.alloc<|.cells #[] 3) 1 (some ⟨d,off,none⟩) xs.length (QM xs):=f.o.kZ<|(Qc [] w).alloc _;go_wp2_with ((at_builtin;refine CI rfl _ _ 51 rfl 3 (0:Int) 8 XC XJ rfl (.slice w.heap.size 0 0) [] (QM xs) (some ⟨d,off,none⟩) xs.length c rfl rfl i.o (Qh.empty w _) h (fun b=>by cases b) (by simp[maxLen];omega) (by simp;omega) ?_;intro a4 k j g f e));simp only[Yy,Yg,ZE]at g e;have k:(QM xs).length=xs.length:=Xk xs;have f:Qb [] w j:=((Qc [] w).alloc _).new f (by intro d d;simp[Qd,qo]at d;omega);obtain⟨d,i,j,i,-,-⟩:=g.open (by omega);injection j with j hv2 hv3;subst j;subst hv3;have j:w.heap.size≤d:=by
  rcases e d (by simp[Qd,qo])with b|b
  ·simp[Qd,qo]at b;omega
  simp at b;omega
 go_ret;exact⟨d,_,rfl,g,f,j⟩
def Qi3(a c xs d w)(e:Qp w 1 a xs.length (QM xs))(g:xs.length≤17592186043904)(b:(Yc xs&&AU d)=false):
 Calls prog 253 #[.slice a xs.length c,d] w (YI ([],2) w):=by
 have f:=KV a c xs w e g;go_enter func253,ntmps253;go_wp2_with fail;refine f.mono ?_;rintro e e⟨rfl,rfl⟩;cases hm:Yc xs with
 |false=>
  go_wp2
  go_ret2;exact .err rfl<|Qc _ _
 |true=>
  rw[hm]at b
  by_cases e:d<12
  ·have g1:decide (d<12)=true:=by simp;omega
   go_wp2
   go_ret2;exact .err rfl<|Qc _ _
  have g1:decide (d<12)=false:=by simp;omega
  have:decide (20<d)=true:=by unfold AU at b;simp at b ⊢;omega
  go_wp2
  go_ret2;exact .err rfl<|Qc _ _
def nK(w0:WD)(e N:Nat)(ls:LN)(d c:Nat)(g:Nat)(wr:WD):Prop:=
 ∃(b:Nat)(a:LN),b=g∧Hid (DS e b a ls)∧Hid (a.length=N)∧Hid (∀b∈a,1≤b∧b≤1073741824)∧Hid (Qh wr 3 (.slice d N c) (Qi a))∧Hid (Qb [] w0 wr)
def Qi4(a c xs j n ls w)(d:Qp w 1 a xs.length (QM xs))(t:Yc xs=true)(b:12≤j)(b:j≤20)(f:DS j n (ZP xs) ls):
 Calls prog 253 #[.slice a xs.length c,(j:Int)] w (YI (ls,0) w):=by
 obtain⟨b,b,g⟩:=EA t;have b:=KV a c xs w d (by omega);have e:=tK a c xs w d (by omega) (by omega);rw[t]at b;have⟨k,q⟩:=qb t f;have g1:decide ((j:Int)<12)=false:=by simp;omega
 have:decide (20<(j:Int))=false:=by simp;omega
 go_enter func253,ntmps253;go_wp2_with fail;refine b.mono ?_;rintro A d⟨rfl,rfl⟩;go_wp2_with fail;refine e.mono ?_;rintro A b⟨s,z,rfl,d,b,f⟩;have⟨B,h⟩:=qb d b
 go_wp2
 go_loopg [27] xs.length (fun u H wr=>mD w xs s z u H wr)
 ·exact⟨0,by omega,by omega,rfl,by simpa using B,h⟩
 obtain⟨d,v,hi,rfl,i,g⟩:=hrel;have y:=Qa v
 by_cases hlt:d<xs.length
 ·have T:(d:Int)<xs.length:=by omega
  have⟨b,e⟩:=qy xs d hlt;have c0:=i.o.aZ<|Ex _ _ _<|tD xs d b e;have S:=i.o.free d;have D:=Qa e
  by_cases m:1≤b
  all_goals
   go_wp2
   go_roundg (xs.length-(d+1))
   ·have hs:=i.o.put d<|.int .i64<|Ym b;rw[←zO,tE xs d b D.o]at hs;have hk:=g.o.setCell (p:=⟨s,d,none⟩) (.inr f) (.int .i64<|Ym b)
    first
     |(rw[show Ym b=b from Qg m]at hs hk;exact⟨d+1,by omega,by omega,by simp,Qa hs,Qa hk⟩)
     |(rw[show Ym b=1 from Qf (by omega)]at hs hk;exact⟨d+1,by omega,by omega,by simp,Qa hs,Qa hk⟩)
     |(rw[show Ym b=max b 1 by unfold Ym;split<;>omega]at hs hk;exact⟨d+1,by omega,by omega,by simp,Qa hs,Qa hk⟩)
   have:=y.o;omega
 obtain rfl:d=xs.length:=by omega
 have U:¬(xs.length:Int)<xs.length:=by omega
 have o:=i.o;rw[Q8<|Ql _,JI<|Ql _,XH,Qc3]at o;have⟨r,l,x,Q⟩:=qd o (Oe k.o) (Jh xs) f
 go_wp2
 go_loopg [] n (fun u wr=>nK w j xs.length ls s z u wr)
 ·exact⟨n,_,rfl,q,x,l,r,g⟩
 obtain⟨G,f,rfl,q,E,l,r,g⟩:=hrel;have x:=E.o;obtain⟨C,B⟩:=Ni f (fun b e=>(l.o b e).1) (by omega);have k:=yF s z f C wr (by rw[x];exact r.o.sZ) (by omega) (by omega) (fun b e=>(l.o b e).1) (Qc5 (by omega) l.o) B;have J:=Qa<|show Cd f C from B;have F:C.length=xs.length:=by rw[B.len,x]
 rw[x]at k;have h:=Qa<|Qr x F;obtain⟨x,rfl⟩:∃x:WD,x=wr:=⟨_,rfl⟩;go_wp2_with fail;refine k.mono ?_;rintro A F⟨a5,M,rfl,B,x,E⟩;rw[h.o.2]at B ⊢;have⟨L,P,I,R⟩:=qd B (Qs.mono E g.o.size) (g.o.trans x<|by simp) (r.o.kept x<|by simp);have k:=dN a5 M (C.map fun n:Nat=>(n:Int)) F (by rw[QH,h.o.2,←Cs];exact L.o.sZ) (by rw[QH,h.o.2];omega) (by rw[QH,h.o.2];omega);rw[QH,h.o.2]at k;rcases V9 G with r|r
 ·subst r;obtain⟨x,t2⟩:=q.o;have F:=kO x J.o;subst F;have E:=Qa t2;go_wp2_with fail;refine k.mono ?_;rintro A W⟨B,rfl,m,r,rfl⟩;have V:=(dP m r).2 E.o;have g3:decide (B≤(j:Int))=true:=by simp;omega
  go_wp2
  go_ret2;have O:=L.o;have C:=h.o.2;rw[←C]at O;exact⟨a5,M,by rw[C];rfl,O,I.o,P.o⟩
 obtain⟨C,rfl⟩:∃C,G=C+1:=⟨G-1,by omega⟩;obtain⟨G,x,t2,t3⟩:=q.o;have F:=kO x J.o;subst F;have⟨E,F⟩:=qb t2 t3;go_wp2_with fail;refine k.mono ?_;rintro A W⟨B,rfl,m,r,rfl⟩;have V:¬(B≤(j:Int)):=fun t=>by obtain⟨b,e,hlt⟩:=E.o;have:=(dP m r).1 t b e;omega
 have g3:decide (B≤(j:Int))=false:=by simp;omega
 go_wp2
 go_loopg [47] xs.length (fun u H wr=>nB w xs.length f s z u H wr)
 ·exact⟨0,by omega,by omega,rfl,by simpa[Ua]using R,I⟩
 obtain⟨d,v,hi,rfl,i,g⟩:=hrel;have y:=Qa v
 by_cases hlt:d<xs.length
 ·have T:(d:Int)<xs.length:=by omega
  have⟨b,e⟩:=qy f d (by have:=h.o.1;omega);have:b≤1073741824:=(l.o b<|QA e).2;have c0:=i.o.aZ<|BG<|yL f d b e;have S:=i.o.free d;have D:=Qa e
  go_wp2
  go_roundg (xs.length-(d+1))
  ·have hs:=i.o.put d<|.int .i64 ((b/2+1:Nat):Int);rw[←AV,yN f d b D.o]at hs;have hk:=g.o.setCell (p:=⟨s,d,none⟩) (.inr Q.o)<|.int .i64 ((b/2+1:Nat):Int);exact⟨d+1,by omega,by omega,by simp,Qa hs,Qa hk⟩
  have:=y.o;omega
 obtain rfl:d=xs.length:=by omega
 have U:¬(xs.length:Int)<xs.length:=by omega
 have o:=i.o;rw[Q8 (by rw[h.o.1];exact Ql _),JI (by rw[h.o.1];exact Ql _),XH]at o;have⟨j,i,d⟩:=qc o (show(Ua f).length=xs.length by rw[IX,h.o.1]) (show ∀b∈Ua f,1≤b∧b≤1073741824 from fun b e=>⟨bD f b e,yM (fun k h=>(l.o k h).2) b e⟩)
 go_wp2
 go_roundg C
 ·exact⟨C,Ua f,rfl,F,i,d,j,g⟩
 omega
end Go.Proofs.YtickjpnkoppmgaaGreatDoor
namespace Go.Proofs
section
open Go.Shelf Go.Lib
def qO:Go.Shelf.Ren:=⟨fun|6=>283|15=>104|14=>306|28=>145|29=>146|20=>314|21=>315|22=>316|23=>317|24=>318|25=>319|26=>320|27=>321|46=>325|47=>185|48=>186|49=>326|50=>327|57=>328|n=>n,fun|22=>362|24=>364|25=>366|3=>3|39=>179|0=>0|53=>67|55=>214|4=>4|46=>235|45=>234|50=>239|5=>5|9=>9|66=>279|70=>283|76=>322|77=>323|n=>n,fun|n=>n⟩
def qN:Go.Proofs.SlLaysF0.n6 Tryz.prog qO:={
 mixed:=by kernel_rfl
 f6:=⟨Tryz.f283.name,by decide,Tryz.func283.trans<|congrArg some<|by kernel_rfl⟩
 f14:=⟨Tryz.f306.name,by decide,Tryz.func306.trans<|congrArg some<|by kernel_rfl⟩
 f15:=Tryz.func104.trans (congrArg some<|by kernel_rfl)
 f20:=⟨Tryz.f314.name,by decide,Tryz.func314.trans<|congrArg some<|by kernel_rfl⟩
 f21:=⟨Tryz.f315.name,by decide,Tryz.func315.trans<|congrArg some<|by kernel_rfl⟩
 f22:=⟨Tryz.f316.name,by decide,Tryz.func316.trans<|congrArg some<|by kernel_rfl⟩
 f23:=⟨Tryz.f317.name,by decide,Tryz.func317.trans<|congrArg some<|by kernel_rfl⟩
 f24:=⟨Tryz.f318.name,by decide,Tryz.func318.trans<|congrArg some<|by kernel_rfl⟩
 f25:=⟨Tryz.f319.name,by decide,Tryz.func319.trans<|congrArg some<|by kernel_rfl⟩
 f26:=⟨Tryz.f320.name,by decide,Tryz.func320.trans<|congrArg some<|by kernel_rfl⟩
 f27:=⟨Tryz.f321.name,by decide,Tryz.func321.trans<|congrArg some<|by kernel_rfl⟩
 f28:=Tryz.func145.trans (congrArg some<|by kernel_rfl)
 f29:=Tryz.func146.trans (congrArg some<|by kernel_rfl)
 f46:=⟨Tryz.f325.name,by decide,Tryz.func325.trans<|congrArg some<|by kernel_rfl⟩
 f47:=Tryz.func185.trans (congrArg some<|by kernel_rfl)
 f48:=Tryz.func186.trans (congrArg some<|by kernel_rfl)
 f49:=⟨Tryz.f326.name,by decide,Tryz.func326.trans<|congrArg some<|by kernel_rfl⟩
 f50:=⟨Tryz.f327.name,by decide,Tryz.func327.trans<|congrArg some<|by kernel_rfl⟩
 f57:=⟨Tryz.f328.name,by decide,Tryz.func328.trans<|congrArg some<|by kernel_rfl⟩
 t0:=Tryz.underlying0
 a0:=Tryz.isAgg0
 z0:=Tryz.sizeOf0
 v0:=Tryz.zeroValue0
 t3:=Tryz.underlying3
 a3:=Tryz.isAgg3
 z3:=Tryz.sizeOf3
 v3:=Tryz.zeroValue3
 t4:=Tryz.underlying4
 a4:=Tryz.isAgg4
 z4:=Tryz.sizeOf4
 v4:=Tryz.zeroValue4
 t5:=Tryz.underlying5
 a5:=Tryz.isAgg5
 z5:=Tryz.sizeOf5
 v5:=Tryz.zeroValue5
 t9:=Tryz.underlying9
 a9:=Tryz.isAgg9
 z9:=Tryz.sizeOf9
 v9:=Tryz.zeroValue9
 t22:=Tryz.underlying362
 a22:=Tryz.isAgg362
 z22:=Tryz.sizeOf362
 v22:=Tryz.zeroValue362
 t25:=Tryz.underlying366
 a25:=Tryz.isAgg366
 z25:=Tryz.sizeOf366
 v25:=Tryz.zeroValue366
 t39:=Tryz.underlying179
 a39:=Tryz.isAgg179
 z39:=Tryz.sizeOf179
 v39:=Tryz.zeroValue179
 t45:=Tryz.underlying234
 a45:=Tryz.isAgg234
 z45:=Tryz.sizeOf234
 v45:=Tryz.zeroValue234
 t46:=Tryz.underlying235
 a46:=Tryz.isAgg235
 z46:=Tryz.sizeOf235
 v46:=Tryz.zeroValue235
 t50:=Tryz.underlying239
 a50:=Tryz.isAgg239
 z50:=Tryz.sizeOf239
 v50:=Tryz.zeroValue239
 t53:=Tryz.underlying67
 a53:=Tryz.isAgg67
 z53:=Tryz.sizeOf67
 v53:=Tryz.zeroValue67
 t55:=Tryz.underlying214
 a55:=Tryz.isAgg214
 z55:=Tryz.sizeOf214
 v55:=Tryz.zeroValue214
 t66:=Tryz.underlying279
 a66:=Tryz.isAgg279
 z66:=Tryz.sizeOf279
 v66:=Tryz.zeroValue279
 t70:=Tryz.underlying283
 a70:=Tryz.isAgg283
 z70:=Tryz.sizeOf283
 v70:=Tryz.zeroValue283
 t76:=Tryz.underlying322
 a76:=Tryz.isAgg322
 z76:=Tryz.sizeOf322
 v76:=Tryz.zeroValue322
 t77:=Tryz.underlying323
 a77:=Tryz.isAgg323
 z77:=Tryz.sizeOf323
 v77:=Tryz.zeroValue323}
end
end Go.Proofs
namespace Go.Proofs.YtickjpnkoppmgaaGreatDoor
open Go.Proofs.Tryz Go.RowKit K
section
open Go.Sort Go.Shelf
def qX(x d w)(g:VK x)(j:VK d):Calls prog 284 #[UA x,UA d] w fun e w'=>e=.returned (.int .i64<|JO x d)∧∃i h,w'=grow (w.drewN i) h:=by
 obtain⟨a,b⟩:=x;obtain⟨c,f⟩:=d;obtain⟨⟨d,k⟩,l,m⟩:=g;obtain⟨⟨g,n⟩,o,p⟩:=j;simp only at d k l m g n o p;unfold UA;have j:=fun d=>MW a b c f d
 have k:∀d g:Obj,∃i h,(w.alloc d).alloc g=grow (w.drewN i) h:=fun d g=>⟨0,#[d]++#[g],by rw[alloc_eq_grow,alloc_eq_grow,grow_grow];rfl⟩
 have i:=Qa k
 by_cases d:a=c
 ·by_cases k:b=f
  ·subst d;subst k;have h:(a==a&&b==b)=true:=(by simp);rw[h]at j;have g:=Qa (by unfold JO;simp:JO (a,b) (a,b)=0);go_enter func284,Fo
   go_wp2
   go_ret;exact⟨by rw[g.o];rfl,i.o _ _⟩
  have h:(a==c&&b==f)=false:=by simp[k]
  rw[h]at j;have g:=Qa (by unfold JO;simp[d]:JO (a,b) (c,f)=b-f);have g1:(a==c)=true:=by simp[d]
  have k:(a != c)=false:=by simp[d]
  have:=Qa d;go_enter func284,Fo
  go_wp2
  go_ret;exact⟨by rw[g.o];rfl,i.o _ _⟩
 have h:(a==c&&b==f)=false:=by simp[d]
 rw[h]at j;have g:=Qa (by unfold JO;simp[d]:JO (a,b) (c,f)=a-c);have g1:(a==c)=false:=by simp[d]
 have k:(a != c)=true:=by simp[d]
 go_enter func284,Fo
 go_wp2
 go_ret;exact⟨by rw[g.o];rfl,i.o _ _⟩
abbrev Ec:Type:={x:Int × Int//VK x}
instance:Inhabited Ec:=⟨⟨(0,0),by unfold VK;omega⟩⟩
def Df(x:Ec):LV:=Dy x.1
def FD(x a:Ec):Int:=JO x.1 a.1
def Kg(x a:Ec):ltOf FD x a=decide (x.1.1<a.1.1∨(x.1.1=a.1.1∧x.1.2<a.1.2)):=by unfold ltOf FD;exact decide_eq_decide.2<|Mr _ _
def Qhk:SWO (ltOf FD) where
 irrefl x:=by rw[Kg];simp
 trans x y z h1 h2:=by rw[Kg]at*;simp only[Zv]at*;omega
 ntrans x y z h1 h2:=by rw[Kg]at*;simp only[Bz]at*;omega
def tQ(blk off size w):CmpLays prog 284 #[] Df 2 FD blk off size w:=
 fun _ _ _ _ a b=>qX a.1 b.1 _ a.2 b.2
def AG(l:List (Int × Int))(hb:∀x∈l,VK x):Array Ec:=(l.attach.map fun x=>⟨x.1,hb x.1 x.2⟩).toArray
def rJ(l)(hb:∀x∈l,VK x):(AG l hb).size=l.length:=by simp[AG]
def TC(l)(hb:∀x∈l,VK x):(AG l hb).toList.map Subtype.val=l:=by simp[AG];exact List.attach_map_subtype_val l
def aF(d t)(b:t<d.size*2):(ZW<|d.toList.map Subtype.val)[t]?=some ((flatK Df 2 d)[t]!):=by
 have a:t/2<d.size:=by omega
 have f:(d.toList.map Subtype.val)[t/2]?=some (d[t/2]!).1:=by rw[ZD,getElem!_pos d _ a];simp[a]
 obtain⟨c,e⟩:=CH f;rw[get_flatK _ _ _ _ b];rcases Nat.mod_two_eq_zero_or_one t with a|a
 ·rw[a,show t=t/2*2 by omega,c,show t/2*2/2=t/2 by omega];rfl
 rw[a,show t=t/2*2+1 by omega,e,show(t/2*2+1)/2=t/2 by omega];rfl
def pP(g n:Nat)(l:List (Int × Int))(w:WD)(e:Ending)(w':WD):Prop:=
 e=.returned (.tuple #[])∧∃c,c.Perm l∧(c.Pairwise fun a b=>¬(b.1<a.1∨(b.1=a.1∧b.2<a.2)))∧Qp w' 2 g n (ZW c)∧Qb [g] w w'
def Qgk(g c n:Nat)(l w)(a:Qn w 364 2 (.slice g n c) n (ZW l))(h:l.length=n)(b:n≤1000000)(hb:∀x∈l,VK x):
 Calls prog 283 #[.slice g n c,.func (.func 284) #[] #[]] w (pP g n l w):=by
 have m:∀b w,(callFunc 284 b).run prog w=.ok (.enter 284 b) w:=enters_of func284 (by kernel_rfl) rfl;have f:=rJ l hb;have k:g<w.heap.size:=a.lt g (by simp[Qd,qo]);have i:HoldsK Df 2 w g 0 (AG l hb):=by intro b d;rw[size_flatK]at d;have e:=aF (AG l hb) b d;rw[TC]at e;exact⟨by rw[ZE];exact a.aZ e,a.free _⟩
 have a:=AnyQ.slices_SortFunc qN 2 isAgg364 sizeOf364 Df (fun _=>rfl) (fun x j j=>by simp[Df,Dy]at j;rcases j with rfl|rfl<;>rfl) FD Qhk 284 #[] g 0 c (AG l hb) w m (tQ g 0 _ w) i k (by rw[f];omega);rw[f,h]at a;refine Calls.mono a ?_;rintro a a⟨rfl,a,p,os,⟨m,j,o⟩,hs,rfl⟩;have j:a.size=n:=by rw[m,f,h]
 refine⟨rfl,a.toList.map Subtype.val,?_,?_,⟨by rw[Dz,QH,Rr,j],fun b q d=>⟨g,0,rfl,?_⟩⟩,?_⟩
 ·have e:a.extract 0 n=a:=by rw[←j];simp
  have j:(AG l hb).extract 0 n=AG l hb:=by rw[←h,←f];simp
  rw[e,j]at o;have:=o.map Subtype.val;rwa[TC]at this
 ·rw[V5,Jp];intro e b hi d j;have h:e<a.size:=by simpa using hi
  have o:b<a.size:=by simpa using d
  have f:=hs e b (ZF _) j (by omega);rw[getElem!_pos a e h,getElem!_pos a b o,Kg,Bz]at f;simpa using f
 ·have e:b<a.size*2:=by have:=(Qz.1 d).1;rwa[Dz,QH,Rr]at this
  rw[aF a b e]at d;cases d;unfold sortWorldK;rw[cell?_grow _ _ _ (by simp[putRowK];exact k)];exact cell?_putRow id (Go.Sort.ahead w p) g 0 (flatK Df 2<|AG l hb) (flatK Df 2 a) i (by rw[size_flatK,size_flatK,m]) b (by rwa[size_flatK])
 unfold sortWorldK;refine⟨?_,?_,?_,?_,?_⟩
 ·rfl
 ·rfl
 ·rfl
 ·simp[putRowK]
 intro a hk a;rw[heap_grow_old _ _ (by simp[putRowK];exact hk)];simp only[putRowK,putRow,mapBlock];rw[La,Qf (by simp at a;omega)];rfl
end
def Qh7(n):ZW (List.replicate n (0,0))=List.replicate (n*2) (.int .i64 0):=by
 induction n with
 |zero=>rfl
 |succ n ih=>rw[Y8,show(n+1)*2=n*2+1+1 by omega,Y8,Y8,←ih];rfl
def Qa4(n):(madeCells #[(0:Int),(0:Int)] (n*2)).toList=ZW (List.replicate n (0,0)):=by
 rw[Qh7];apply Xo;intro b
 by_cases c:b<n*2
 ·have a:b%2=0∨b%2=1:=by omega
  simp only[madeCells,Array.toList_map,ZD,Array.toList_range,Xa c,V4,c,Co,AC];rcases a with a|a<;>simp[a]
 rw[QX (by simp[madeCells];omega),QX (by simp;omega)]
def Qi5{w h j b a d}(o:b.guard=none)(l c:Operand)(t)(q:b.op=Op.makeSlice t l c)(e)(r:prog.underlying t=some (.slice e))(T:(prog.info? e).map (fun i=>(i.zero,i.size,i.bytes))=some (some<|.agg #[(0:Int),(0:Int)],2,16))(g f:IntKind)(n)(p:a.eval l=.int g n)(m:a.eval c=.int f n)(k:n≤1000000)(k:∀w',Qn w' e 2 (.slice w.heap.size n n) n (ZW<|List.replicate n (0,0))→Qb [] w w'→wpList prog h d j (a.put b.dst<|.slice w.heap.size n n) w'):
 wpList prog h d (b::j) a w:=by
 obtain⟨i,hi,h0,b,d⟩:=Vr T;have h:(i.bytes:Int)*n≤281474976710656:=by rw[d];omega
 have j:=run_make (P:=prog) w t e i _ r hi h0 g f n n (by omega) (by omega) h (by omega);refine DC o fun d d=>?_
 unfold Oper.wp;simp[execOp,q,p,m,j,Result.andThen];refine d _ _<|k _ ⟨by rw[Dz];simp,.inr ⟨w.heap.size,n,_,by simp,ZF _,Xf w _,Ql _,by simp only[maxLen];omega,by rw[b];simp[size_madeCells],?_⟩⟩<|(Qc _ _).alloc _;rw[b,show(Value.agg #[(0:Int),(0:Int)]).cells=#[.int .i64 0,.int .i64 0]from by rfl,Qa4,Q8 (by rw[Dz];simp)]
def Ri(xs:LI)(i:Nat):List (Int × Int):=(List.range i).map fun a=>(-(((ZP xs).getD a 0:Nat):Int),(a:Int))
def ED(xs i):(Ri xs i).length=i:=by simp[Ri]
def Qc9(xs i x)(b:xs[i]?=some x)(n)(hi:i<n):(Ri xs i++List.replicate (n-i) (0,0)).set i (-Ym x,(i:Int))=Ri xs (i+1)++List.replicate (n-(i+1)) (0,0):=by have a:=fG b;rw[VF _ _ (by rw[ED];exact Ql _),ED,ZO,show n-i=(n-(i+1))+1 by omega,Y8,UY];unfold Ri;rw[JJ,Xi,QQ];simp only[QR,YG,a];rfl
def Vf(a:LN)(i:Nat):LN:=(List.range a.length).map fun b=>if Vq a b<i then Rc a.length (Vq a b)else 0
def Ku(a i):(Vf a i).length=a.length:=by simp[Vf]
def Qcy(a):Vf a 0=List.replicate a.length 0:=by
 unfold Vf;apply Xo;intro c
 by_cases b:c<a.length
 ·simp[Xa b,b]
 rw[QX (by simp;omega),QX (by simp;omega)]
def Qcw(a):Vf a a.length=YJ a:=by unfold Vf YJ;apply Yx;intro c b;rw[ZL]at b;have hp:=(aJ a).mem_iff.1<|QB.2 ⟨c,ZL.2 b,rfl⟩;rw[ZL]at hp;rw[Qg hp]
structure Sv(ws:LN)(l:List (Int × Int)):Prop where
 len:l.length=ws.length
 at_:∀(p:Nat)(t:Int × Int),l[p]?=some t→∃q:Nat,t.2=(q:Int)∧q<ws.length∧Vq ws q=p
 all:∀q,q<ws.length→∃(p:Nat)(t:Int × Int),l[p]?=some t∧t.2=(q:Int)
def Qgp{xs l}(hp:l.Perm (Ri xs xs.length))(hs:l.Pairwise fun a b=>¬(b.1<a.1∨(b.1=a.1∧b.2<a.2))):Sv (ZP xs) l:=by
 have o:l.length=xs.length:=by rw[hp.length_eq,ED]
 have h:∀c∈l,∃d:Nat,d<xs.length∧c=(-(((ZP xs).getD d 0:Nat):Int),(d:Int)):=by intro c e;obtain⟨d,f,rfl⟩:=QB.1<|hp.mem_iff.1 e;exact⟨d,ZL.1 f,rfl⟩
 have j:(l.map fun c=>c.2.toNat).Perm (List.range (ZP xs).length):=by
  have g:=hp.map fun c=>c.2.toNat
  have k:(Ri xs xs.length).map (fun c=>c.2.toNat)=List.range (ZP xs).length:=by
   rw[Jh];unfold Ri;rw[XI]
   conv=>rhs;rw[←DM (List.range xs.length)]
   apply Yx;intro i _;simp
  rwa[k]at g
 have p:(l.map fun c=>c.2.toNat).Pairwise fun a b=>Uk (ZP xs) a b=false:=by rw[V5,Jp];rw[Jp]at hs;intro k i hi n m;have g:=hs k i hi n m;obtain⟨a,ha,m⟩:=h l[k] (XV _);obtain⟨b,hb,k⟩:=h l[i] (XV _);rw[m,k]at g ⊢;unfold Uk;rw[Bz];simp only[Zs]at g ⊢;omega
 refine⟨by rw[o,Jh],fun g c e=>?_,fun d f=>?_⟩
 ·obtain⟨d,f,rfl⟩:=h c<|QA e;refine⟨d,rfl,by rwa[Jh],?_⟩;exact aI j p g d (by rw[ZD,e];simp)
 have i:d∈l.map fun c=>c.2.toNat:=j.mem_iff.2<|ZL.2 f
 obtain⟨c,e,d⟩:=QB.1 i;obtain⟨g,j,i⟩:=PX.1 e;obtain⟨q2,-,f⟩:=h c e;refine⟨g,c,by rw[←i];exact Qj j,?_⟩;rw[f]at d ⊢;simp at d ⊢;omega
def Qcx{o l}(h:Sv o l){p q:Nat}{t}(ht:l[p]?=some t)(hq:t.2=(q:Int)):(Vf o p).set q (Rc o.length p)=Vf o (p+1):=by
 obtain⟨q',e1,hlt,hf⟩:=h.at_ p t ht;have:q'=q:=by omega
 subst this;apply Xo;intro j;rw[YO]
 by_cases hj:j<o.length
 ·have g:∀i,(Vf o i)[j]?=some (if Vq o j<i then Rc o.length (Vq o j)else 0):=fun i=>by simp[Vf,Xa hj]
  rw[g,g]
  by_cases he:q'=j
  ·subst he;rw[Qg rfl,Qg (by rw[Ku];exact hlt),hf,Qg<|by omega]
  rw[Qf he];have hne:Vq o j≠p:=by intro h8;obtain⟨p2,t2,y,h3⟩:=h.all j hj;obtain⟨q2,e2,-,f2⟩:=h.at_ p2 t2 y;have h5:q2=j:=(by omega);subst h5;have h4:p2=p:=(by omega);subst h4;rw[ht]at y;cases y;omega
  by_cases h1:Vq o j<p
  ·rw[Qg h1,Qg<|by omega]
  rw[Qf h1,Qf<|by omega]
 rw[Qf<|by omega,QX (by rw[Ku];omega),QX (by rw[Ku];omega)]
def Qiy(a c xs w)(d:Qp w 1 a xs.length (QM xs))(f:xs.length≤17592186043904)(e:Yc xs=false):
 Calls prog 254 #[.slice a xs.length c] w (YI ([],2) w):=by
 have b:=KV a c xs w d f;rw[e]at b;go_enter func254,ntmps254;go_wp2_with fail;refine b.mono ?_;rintro b b⟨rfl,rfl⟩
 go_wp2
 go_ret2;exact .err rfl<|Qc _ _
def oE(w0:WD)(xs:LI)(g:Nat)(m:Nat)(v:VL)(wr:WD):Prop:=
 ∃a:Nat,m=xs.length-a∧a≤xs.length∧v=.int .i64 (a:Nat)∧Hid (Qn wr 364 2 (.slice g xs.length xs.length) xs.length (ZW (Ri xs a++List.replicate (xs.length-a) (0,0))))∧Hid (Qb [] w0 wr)
def oG(w0:WD)(xs:LI)(g b:Nat)(l:List (Int × Int))(m:Nat)(v:VL)(wr:WD):Prop:=
 ∃a:Nat,m=xs.length-a∧a≤xs.length∧v=.int .i64 (a:Nat)∧Hid (Qp wr 2 g xs.length (ZW l))∧Hid (Qh wr 3 (.slice b xs.length xs.length) (Qi (Vf (ZP xs) a)))∧Hid (Qb [] w0 wr)
def Qiz(a c xs w)(t:Qp w 1 a xs.length (QM xs))(o:Yc xs=true):
 Calls prog 254 #[.slice a xs.length c] w (YI (YJ<|ZP xs,0) w):=by
 obtain⟨e,g,d⟩:=EA o;have b:=KV a c xs w t (by omega);rw[o]at b;have⟨z,H⟩:=qb t d;obtain⟨f,off,rfl,-⟩:=t.at (by rw[Xk];omega);go_enter func254,ntmps254;go_wp2_with fail;refine b.mono ?_;rintro J d⟨rfl,rfl⟩
 go_wp2
 go_loopg [5] 8 (fun k m wr=>∃h:Nat,k=9-h∧1≤h∧h≤8∧Hid (2^h≤xs.length)∧m=.int .i64 (h:Nat)∧w=wr)
 ·exact⟨1,by omega,by omega,by omega,Qa e,rfl,rfl⟩
 obtain⟨h,s,b,b,d,rfl,rfl⟩:=hrel;have r:=Qa s;have⟨f,x⟩:=qx<|h+1;have:(h:Int)+1=(f:Int):=by omega
 have v:(2:Int)^f=((2^f:Nat):Int):=by norm_cast
 have b:2^f≤512:=by have:=Jc (n:=2) (by omega) (by omega:f≤9);omega
 have B:=Qa x;have⟨p,hp⟩:=qx<|2^f;have A:=Qa hp;rw[hp]at v b;have:f≤9:=by omega
 have:(0:Int)≤f:=by omega
 by_cases b:p≤xs.length
 ·have e:(p:Int)≤xs.length:=by omega
  go_wp2
  go_roundg (9-f)
  ·exact⟨f,rfl,by omega,by rw[←A.o]at b;exact fU b g,Qa<|by rwa[A.o],by first|rfl|simp,rfl⟩
  have:=r.o;have:=B.o;omega
 have e:¬(p:Int)≤xs.length:=by omega
 have Q:=Qa<|show Nat.log2 xs.length=h from Qaw (by omega) d.o (by rw[B.o,A.o];omega);have:0<xs.length:=by omega
 go_wp2_with ((at_make;refine Qi5 rfl _ _ 362 rfl 364 Mk Ma .i64 .i64 xs.length rfl rfl (by omega) ?_;intro d b g));have⟨k,e⟩:=qx w.heap.size;have C:=Qa (by omega:w.heap.size≤k);rw[e]at b ⊢;have⟨y,d⟩:=qb b g
 go_loopg [28] xs.length (fun I m wr=>oE w xs k I m wr)
 ·exact⟨0,by omega,by omega,rfl,by simpa[Ri]using y,d⟩
 obtain⟨b,s,hi,rfl,i,q⟩:=hrel;have r:=Qa s
 by_cases hlt:b<xs.length
 ·have U:(b:Int)<xs.length:=by omega
  have⟨l,e⟩:=qy xs b hlt;have c0:=(z.o.kZ q.o).int e;obtain⟨d,d⟩:=H.o l<|QA e;have hz:(Ri xs b++List.replicate (xs.length-b) (0,0))[b]?=some (0,0):=by rw[Zx (by rw[ED];exact Ql _),ED,ZO,V4,Qg<|by omega]
  have F:wr.cell? ⟨k,b*2,none⟩=some (.int .i64 0):=i.o.aZ (CH hz).1;have G:wr.cell? ⟨k,b*2+1,none⟩=some (.int .i64 0):=i.o.aZ (CH hz).2;have R:=i.o.free<|b*2;have S:=i.o.free<|b*2+1;have⟨z,d⟩:=qb (Qc9 xs b l e xs.length hlt) (by unfold Ym;rw[Int.max_def];split<;>split<;>omega:Ym l=max l 1)
  go_wp2
  go_roundg (xs.length-(b+1))
  ·have g:=(i.o.put (b*2)<|.int .i64 (-Ym l)).put (b*2+1) (b:Int);rw[kQ _ b (-Ym l,(b:Int)),z.o]at g;have D:=(q.o.setCell (p:=⟨k,b*2,none⟩) (.inr C.o)<|.int .i64 (-Ym l)).setCell (p:=⟨k,b*2+1,none⟩) (.inr C.o) (b:Int);rw[d.o]at g D;exact⟨b+1,by omega,by omega,by simp,Qa g,Qa D⟩
  have:=r.o;omega
 obtain rfl:b=xs.length:=by omega
 have V:¬(xs.length:Int)<xs.length:=by omega
 have E:=i.o;rw[ZO,CP,XH]at E;have L:∀f∈Ri xs xs.length,VK f:=by
  intro f x;obtain⟨d,z,rfl⟩:=QB.1 x;rw[ZL]at z;have J:=fG<|Qj z;have g:=H.o xs[d] (XV _);have D:Ym xs[d]≤1073741824:=by unfold Ym;split<;>omega
  unfold VK;simp only;omega
 have x:=Qa<|Qgk k xs.length xs.length (Ri xs xs.length) wr E (ED _ _) (by omega) L;go_wp2_with fail;refine x.o.mono ?_;rintro J P⟨rfl,O,J,v,g,H⟩;have⟨E,L,D⟩:=qc (Qgp J v) g<|q.o.trans H (by intro l e;simp at e;subst e;exact .inr C.o);have T:k<P.heap.size:=g.lt (by have:=g.1;omega) k (by simp[fZ]);go_wp2_with ((at_make;refine YZ rfl _ _ 51 rfl 3 (0:Int) 8 XC XJ rfl .i64 .i64 _ _ xs.length xs.length rfl rfl rfl rfl (Ql _) (by omega) (by simp only[maxLen];omega) ?_;intro g C H));rw[show List.replicate xs.length (Value.int .i64 0)=Qi (Vf (ZP xs) 0)by rw[Qcy,Jh];simp[Qi]]at C;have⟨g,M⟩:=qx P.heap.size;have x:=Qa<|show w.heap.size≤g∧k≠g from⟨by have:=D.o.size;omega,by omega⟩;rw[M]at C ⊢;have⟨y,v,J⟩:=qc C (L.o.kZ H) (D.o.trans H<|by simp)
 go_loopg [48] xs.length (fun I m wr=>oG w xs k g O I m wr)
 ·exact⟨0,by omega,by omega,rfl,v,y,J⟩
 obtain⟨b,s,hi,rfl,v,i,q⟩:=hrel;have r:=Qa s
 by_cases hlt:b<xs.length
 ·have U:(b:Int)<xs.length:=by omega
  obtain⟨y,k⟩:∃f,O[b]?=some f:=⟨_,Qj (by rw[E.o.len,Jh];exact hlt)⟩;obtain⟨d,s,z,H⟩:=E.o.at_ b y k;rw[Jh]at z;obtain⟨F,G⟩:=v.o.tree k;rw[ZE]at F G;rw[s]at G;obtain⟨wt,D⟩:∃m,y.1=m:=⟨_,rfl⟩;rw[D]at F;have:(d:Int)<xs.length:=by omega
  have y:=Qa (fun m (C:Rc xs.length b=m)=>show(Vf (ZP xs) b).set d m=Vf (ZP xs) (b+1)by
   have:=Qcx E.o k s;rw[Jh,C]at this;exact this)
  have C:Rc xs.length b=h+if p-xs.length≤b then 1 else 0:=by unfold Rc;rw[Q.o,B.o,A.o]
  have m:=Qa C;obtain⟨A,hz⟩:∃A,(Vf (ZP xs) b)[d]?=some A:=⟨_,Qj<|by rwa[Ku,Jh]⟩;have c0:=i.o.aZ<|BG hz;have R:=i.o.free d;have:g<wr.heap.size:=i.o.lt g (by simp[Qd,qo]);have z:=Qa (Qz.1 hz).1;have c1:=(i.o.put d (h:Int)).aZ (j:=d) (u:=.int .i64 (h:Int)) (by rw[Fe (by rw[QF];exact z.o)]);have S:=(i.o.put d (h:Int)).free d
  by_cases s:p-xs.length≤b
  ·have z:(p:Int)-xs.length≤(b:Int):=by omega
   go_wp2
   go_roundg (xs.length-(b+1))
   ·have hk:Qb [g] wr (((wr.setCell ⟨g,d,none⟩ (h:Int)).setCell ⟨g,d,none⟩<|.int .i64 (f:Int)).alloc<|.cells #[wt,(d:Int)] 364):=
     (((Qc [g] wr).setCell (p:=⟨g,d,none⟩) (by simp) _).setCell (p:=⟨g,d,none⟩) (by simp) _).alloc _
    have k:=((i.o.put d (h:Int)).put d<|.int .i64 (f:Int)).alloc<|.cells #[wt,(d:Int)] 364;rw[List.set_set,←AV,y.o f (by rw[m.o,Qg s];exact B.o)]at k;exact⟨b+1,by omega,by omega,by simp,Qa<|v.o.kept hk (by intro l e o;simp[fZ]at e o;subst e;exact x.o.2 o),Qa k,Qa<|q.o.trans hk (by intro l e;simp at e;subst e;exact .inr x.o.1)⟩
   have:=r.o;omega
  have z:¬(p:Int)-xs.length≤(b:Int):=by omega
  go_wp2
  go_roundg (xs.length-(b+1))
  ·have hk:Qb [g] wr ((wr.setCell ⟨g,d,none⟩ (h:Int)).alloc<|.cells #[wt,(d:Int)] 364):=
    ((Qc [g] wr).setCell (p:=⟨g,d,none⟩) (by simp) _).alloc _
   have k:=(i.o.put d (h:Int)).alloc<|.cells #[wt,(d:Int)] 364;rw[←AV,y.o h (by rw[m.o,Qf s];rfl)]at k;exact⟨b+1,by omega,by omega,by simp,Qa<|v.o.kept hk (by intro l e o;simp[fZ]at e o;subst e;exact x.o.2 o),Qa k,Qa<|q.o.trans hk (by intro l e;simp at e;subst e;exact .inr x.o.1)⟩
  have:=r.o;omega
 obtain rfl:b=xs.length:=by omega
 have V:¬(xs.length:Int)<xs.length:=by omega
 have b:=Qa (show(YJ<|ZP xs).length=xs.length by rw[FM,Jh]);have d:=Qa (show Vf (ZP xs) xs.length=YJ (ZP xs)by
  have:=Qcw<|ZP xs;rwa[Jh]at this)
 go_wp2
 go_ret2;have t:=i.o;rw[d.o,←b.o]at t;exact⟨some ⟨g,0,none⟩,_,by rw[b.o];rfl,t,q.o,by intro l e;simp[fZ]at e;subst e;exact x.o.1⟩
def DT(xs:LI)(a:Int)(p:LN × Nat):Prop:=
 ((Yc xs&&AU a)=false∧p=([],2))∨((Yc xs&&AU a)=true∧p.2=0∧∃b,b≤39∧DS a.toNat b (ZP xs) p.1)
def FY(xs b):∃p,DT xs b p:=by
 cases h:(Yc xs&&AU b)with
 |false=>exact⟨_,.inl ⟨h,rfl⟩⟩
 |true=>
  rw[Xh]at h;obtain⟨a,c⟩:=h;unfold AU at c;rw[Zv]at c;obtain⟨c,c,c⟩:=EA a;obtain⟨f,e,c,d⟩:=dB b.toNat (by omega) 30 (ZP xs) (fun c b=>(Oe a c b).1) (by rw[Jh];omega) (by rw[Jh];omega) (fun c b=>by have:=(Oe a c b).2;omega);exact⟨(e,0),.inr ⟨by rw[a];unfold AU;simp;omega,rfl,f,by omega,d⟩⟩
def Qi2(a c xs b p w)(e:Qp w 1 a xs.length (QM xs))(h:xs.length≤17592186043904)(hp:DT xs b p):
 Calls prog 253 #[.slice a xs.length c,b] w (YI p w):=by
 rcases hp with⟨d,rfl⟩|⟨d,f,i,g,g⟩
 ·exact Qi3 a c xs b w e h d
 obtain⟨h,j⟩:=p;simp only at f g;subst f;rw[Xh]at d;obtain⟨f,h6⟩:=d;unfold AU at h6;rw[Zv]at h6;have:=Qi4 a c xs b.toNat i h w e f (by omega) (by omega) g;rwa[show((b.toNat:Nat):Int)=b by omega]at this
def DT.ok{xs a p}(b:DT xs a p)(h0:p.2=0):Yc xs=true∧p.1.length=xs.length∧(∀x∈p.1,1≤x∧(x:Int)≤a∧x≤20)∧AO (p.1.map fun n:Nat=>(n:Int))=true:=by
 rcases b with⟨a,rfl⟩|⟨a,b,n,b,c⟩
 ·simp at h0
 rw[Xh]at a;obtain⟨b,h6⟩:=a;unfold AU at h6;rw[Zv]at h6;obtain⟨k1,k2,k3⟩:=dA c;rw[Jh]at k1;obtain⟨a,a,a⟩:=EA b;have k4:=k3 20 (by omega);have k5:=dE (by omega) k4;refine⟨b,k1,fun x a=>⟨k5 x a,by have:=k2 x a;omega,by have:=k2 x a;omega⟩,?_⟩;unfold AO UV;have b:QD (p.1.map fun n:Nat=>(n:Int))=p.1:=by
  simp only[QD,XI]
  conv=>rhs;rw[←DM p.1]
  apply Yx;intro x _;simp
 have c:Jt (p.1.map fun n:Nat=>(n:Int))=true:=by unfold Jt;rw[Xh,XO,QH];refine⟨by simp;omega,fun d d=>?_⟩;obtain⟨x,a,rfl⟩:=QB.1 d;have:=k5 x a;have:=k2 x a;rw[Zv];omega
 rw[c,Qg rfl,b,Zv];have a:K.room p.1=(p.1.map fun x=>2^(20-x)).sum:=rfl;rw[a,k4]
def IR(xs:LI):LN × Nat:=if Yc xs then(YJ (ZP xs),0)else([],2)
def lJ(a c xs w)(b:Qp w 1 a xs.length (QM xs))(d:xs.length≤17592186043904):
 Calls prog 254 #[.slice a xs.length c] w (YI (IR xs) w):=by
 unfold IR;cases hm:Yc xs with
 |false=>exact Qiy a c xs w b d hm
 |true=>exact Qiz a c xs w b hm
namespace K
end K
