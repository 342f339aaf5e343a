import Derived.Shelf.SlSortCmp.WholeK
import Derived.Ground.SlsfProg
import Derived.Test.YtickjpnkoppmgaaGreatDoorAh
set_option linter.all false
set_option maxHeartbeats 2000000
namespace Go.Proofs.YtickjpnkoppmgaaGreatDoor
open Go.Proofs.Tryz Go.RowKit K
def LP(w:WD)(p u):(w.setCell p u).heap.size=w.heap.size:=by simp[World.setCell]
def uG(w:WD)(c):(w.alloc c).heap.size=w.heap.size+1:=by simp
def Ng:(prog.info? 364).map (fun i=>(i.zero,i.size,i.bytes))=some (some<|.agg #[(0:Int),(0:Int)],2,16):=by kernel_rfl
def BC(d:LN)(i:Nat):List (Nat × Nat):=(List.range i).map fun c=>(d.getD c 0,c)
def Qfs(c i x)(h:c[i]?=some x):Xb ((BC c<|i+1).map Zo)=Xb ((BC c i).map Zo)++[.int .i64 (x:Int),.int .i64 (i:Int)]:=by
 have d:c.getD i 0=x:=by rw[List.getD,h];rfl
 unfold BC;rw[J5,XC,XC,nV]
 congr 1
 simp only[QV,Y6,d];rfl
def jL(c i):(BC c i).length=i:=by simp[BC]
def tF(w0:WD)(d:LN)(h:Nat)(g:Nat)(i:VL)(wr:WD):Prop:=
 ∃(c:Nat)(a:OA)(e:Nat),g=d.length-c/\c<=d/\i=.int .i64 (c:Nat)/\Hid (Qe wr h 362 [.slice a c e])/\Hid (Qm wr 364 2 (.slice a c e) c (Xb ((BC d c).map Zo)))/\
  Hid (Qb [] w0 wr)/\Hid (Qu w0 (fZ a))/\Hid (h∉fZ a)
def qL(w0:WD)(c:LN)(m l d:Nat)(g:Nat)(n:VL)(wr:WD):Prop:=
 ∃(r k h gt j:Nat)(i:List (Nat × Nat))(e:LN),r=g/\k+r+1=c/\h=c.length+k/\n=.int .i64 (h:Nat)/\Hid (Qe wr m 362 [.slice gt (r+1) j])/\
  Hid (Qm wr 364 2 (.slice gt (r+1) j) (r+1) (Xb (i.map Zo)))/\Hid (i.Perm (K.roots (QX c k).1 (QX c k).2 h)/\i=r+1)/\
  Hid (Qh wr 3 (.slice l d d) (Qi e))/\Hid (e.length=d/\∀d,e.getD d 0=(QX c k).2.getD d 0)/\Hid (Qb [] w0 wr)/\Hid (gt≠m/\gt≠l/\w0<=gt)
def pV(w0:WD)(g ls:LN)(n e m i j h r:Nat)(d:Nat)(l:VL)(wr:WD):Prop:=
 ∃c,c<m/\Hid (K.Up g c d r)/\Hid (d<=ls.getD i 0)/\l=.int .i64 (c:Nat)/\Hid (Qh wr 3 (.slice j n n) (Qi (AR ls n i (ls.getD i 0-d))))/\
  Hid (Qh wr 3 (.slice h e e) (Qi g))/\Hid (Qb [] w0 wr)
def Qbh(a c d ls w)(h:Qp w 1 a d.length (Qi d))(h0:1<=d.length)(e:d.length<=258)(hw:∀x∈d,1<=x)(hs:d.sum<=1000000000000)(e:CJ d ls):
 Calls prog 281 #[.slice a d.length c] w (qT ls w):=by
 have⟨g,h9,O⟩:=qc h hw e;obtain⟨b,off,rfl,-⟩:=h.at (by rw[QF];omega);have:b<w:=h.lt (by rw[QF];omega) b (by simp[fZ]);clear h hw e;go_enter func281,ntmps281;go_wp2_with fail;have⟨e,s⟩:=qb (Qx w [()] 362)<|(Qc [] w).alloc<|.cells #[()] 362
 go_loopg [16] d (fun y C wr=>tF w d w y C wr)
 ·exact⟨0,none,0,ox,ox,rfl,e,Qa<|Qm.nil _ _ _,s,Qa<|by simp[Qu,fZ],Qa<|by simp[fZ]⟩
 clear e s;obtain⟨e,at_,v,i,hi,rfl,A,D,s,p,u⟩:=hrel;have R:=Qa i;clear i
 by_cases hlt:e<d
 ·have h5:(e:Int)<d.length:=ox
  have⟨x,n⟩:=qy d e hlt;have c0:=(g.o.kZ s.o).natD n;have c1:wr.cell? w=some (.slice at_ e v):=A.o.cq 0;have:w.heap.size<wr.heap.size:=A.o.lt;have q:=Qa n;clear n;go_wp2_with ((at_builtin;refine Rr wr rfl _ _ 362 rfl 364 (.agg #[(0:Int),(0:Int)]) 2 16 Np Ng rfl dx (.slice at_ e v) e _ [.int .i64 (x:Int),.int .i64 (e:Int)] rfl rfl rfl rfl (by simp[Value.oneCell']) D.o (by simp only[maxLen];omega) ox ?_;intro g t o z l j;have G:=A.o.kept l (by rw[X7];exact u.o);have:o.cell? w=some (.slice at_ e v):=G.cq 0;have:=G.free 0))
  go_roundg (d.length-(e+1))
  case measure=>have:=R.o;omega
  have m:g≠w:=by
   rcases j with h|h
   ·rw[X7]at h;intro Y;rw[Y]at h;exact u.o h
   omega
  have B:w<=g:=by
   rcases j with h|h
   ·rw[X7]at h;exact p.o g h
   omega
  refine⟨e+1,some ⟨g,0,none⟩,t,ox,ox,sx,Qa<|G.set 0 _,Qa ?_,Qa<|(s.o.trans l fun x n=>.inr<|p.o x<|by rwa[X7]at n).setCell (p:=w) (.inr<|Qk _) _,Qa (by simp[Qu,fZ];exact B),Qa (by simp[fZ];exact fun h=>m h.symm)⟩;rw[Qfs d e x q.o];exact Qm.kept z ((Qc [w.heap.size] o).setCell (p:=w) sx _) (by intro l E o;simp[Qd,qo]at E o;subst E;exact m o)
 obtain rfl:e=d:=ox
 have x3:¬(d:Int)<d.length:=ox
 have⟨m,j⟩:=qx<|2*d.length;obtain⟨gt,rfl,h4⟩:∃gt,at_=some ⟨gt,0,none⟩/\gt<wr.heap.size:=by
  obtain⟨g,g,g,-,-,q,hf⟩:=Qm.sees D.o;cases g;obtain⟨t,t,t,-⟩:=q.at (by rw[Ei,QH,jL];omega);rcases D.o.2 with⟨q,U⟩|⟨y,cap,P,g,hb,i,r⟩
  ·omega
  cases g;exact⟨y,rfl,Ci i⟩
 have h3:=Qa j;have T:(2:Int)*d.length=(m:Int):=ox
 have:m<=1000:=ox
 clear j;go_wp2_with ((at_make;refine Jp rfl _ _ 51 rfl 3 (0:Int) 8 XP XZ rfl .i64 .i64 _ _ m m rfl rfl rfl rfl (Qk _) ox (by simp only[maxLen];omega) ?_;intro h2 B z));have⟨i,X⟩:=qx wr.heap.size;have L:=Qa<|show w<=i/\gt≠i/\w≠i from⟨yx s.o.size,ox,yx A.o.lt⟩;rw[X]at B ⊢;rw[show List.replicate m (Value.int .i64 0)=Qi (List.replicate m 0)by simp[Qi]]at B;obtain⟨g,j⟩:∃g,d.length=g+1:=⟨d.length-1,ox⟩;have W:=A.o.kept z sx;have V:=Qm.kept D.o z (by simp[Qq]);have⟨I,J⟩:=qb (s.o.trans z sx) B;have h1:w<=gt:=p.o gt (by simp[fZ]);have Z:gt≠w:=fun h=>u.o (by simp[fZ,h])
 have H:=Qa<|show gt≠w/\gt≠i/\w<=gt from⟨Z,L.o.2.1,h1⟩;have S:=Qa (show(BC d d).Perm (K.roots (QX d 0).1 (QX d 0).2 d)/\(BC d d).length=g+1 from⟨by
  show(BC d d).Perm (K.roots d (List.replicate d 0) d);rw[Qht];exact List.Perm.refl _,by rw[jL,j]⟩)
 have t:=Qa (show(List.replicate m 0).length=m/\∀F,(List.replicate m 0).getD F 0=(QX d 0).2.getD F 0 from⟨sx,fun F=>by rw[LC];exact(LC d F).symm⟩);have⟨Q,M,h2⟩:=qc (show Qe h2 w 362 [.slice (some ⟨gt,0,none⟩) (g+1) v]from by rw[<-j];exact W) (show Qm h2 364 2 (.slice (some ⟨gt,0,none⟩) (g+1) v) (g+1) (Xb<|(BC d d).map Zo)from by rw[<-j];exact V) j;clear W V B z h1 Z j A D s p u h4 R X T
 go_loopg [7] g (fun y C wr=>qL w d w i m y C wr)
 ·exact⟨g,0,d.length,gt,v,_,_,rfl,yx h2.o,ox,rfl,Q,M,S,J,t,I,H⟩
 clear Q M S J t I H;obtain⟨r,k,g,gt,v,B,u,rfl,p,o,rfl,A,D,I,Q,t,s,C⟩:=hrel;have z:=Qa o;have:g<=1000:=ox
 have:g<m:=yx h3.o
 clear o;have c0:wr.cell? w=some (.slice (some ⟨gt,0,none⟩) (r+1) v):=A.o.cq 0;have M:=Qa p;clear p;rcases Rx r with p|p
 ·subst p;obtain⟨R,J,-,-,-⟩:=O.o;have x0:=Qa<|Qio O.o hs;have O:d.length-1=k:=yx M.o
  rw[O]at J;have V:∀e,e<d.length->∃r,K.Up u e (ls.getD e 0) r/\u.getD r 0=0:=fun e hi=>by obtain⟨r,H,p⟩:=J e hi;exact⟨r,H.congr fun F _=>t.o.2 F,by rwa[t.o.2]⟩
  have p:∀e,u.getD e 0<g:=fun e=>by rw[t.o.2];exact Qa2 (fun x n=>by have:=eN d h0 k x n;rw[z.o];exact this) (yx z.o) e
  have⟨h2,H,x1,Z⟩:=qd V R p t.o.1;have:d<=g:=yx z.o
  clear J V R p O A D I t;go_wp2_with ((at_make;refine Jp rfl _ _ 51 rfl 3 (0:Int) 8 XP XZ rfl .i64 .i64 _ _ d d rfl rfl rfl rfl (Qk _) ox (by simp only[maxLen];omega) ?_;intro p J O));rw[show List.replicate d (Value.int .i64 0)=Qi (List.replicate d 0)by simp[Qi]]at J;have⟨p,R⟩:=qx wr.heap.size;have W:=Qa<|show i≠p/\w<=p from⟨yx (Q.o.lt i (by simp[Qd,qo])),yx s.o.size⟩;rw[R]at J ⊢;have⟨X,V,h1⟩:=qc (Q.o.kept O sx) (s.o.trans O sx) J;clear J O Q s R c0
  go_loopg [69] d (fun y J wr=>∃e:Nat,y=d.length-e/\e<=d/\J=.int .i64 (e:Nat)/\Hid (Qh wr 3 (.slice (some ⟨p,0,none⟩) d d)<|Qi<|ls.take e++List.replicate (d.length-e) 0)/\
   Hid (Qh wr 3 (.slice (some ⟨i,0,none⟩) m m)<|Qi u)/\Hid (Qb [] w wr))
  ·exact⟨0,ox,ox,rfl,h1,X,V⟩
  obtain⟨e,y,hi,rfl,X,J,h4⟩:=hrel;have x2:=Qa y;clear y
  by_cases hlt:e<d
  ·have h5:(e:Int)<d.length:=ox;obtain⟨R,y,j⟩:=h2.o e hlt;have⟨h5,O⟩:=qb j y;clear y j;obtain⟨j,rfl⟩:∃j:WD,j=wr:=⟨_,rfl⟩;rw[Qfl ls d e hlt]at X
   go_wp2
   go_loopg [13] (ls.getD e 0) (fun j y wr=>pV w u ls d m g e p i R j y wr)
   ·exact⟨e,ox,O,Qa<|Qk _,rfl,by rw[ZM];exact X,J,h4⟩
   obtain⟨P,j,h8,h2,rfl,O,R,h3⟩:=hrel;have⟨j,y⟩:=qx<|u.getD P 0;have:(P:Int)<m:=ox;have V:u[P]?=some j:=(by rw[<-y,Ar,Qj (yx Z.o)];rfl);have c2:=R.o.aZ<|Cj V
   by_cases Z:j=0
   ·have J:=h8.o.root h5.o (by rw[y];exact Z);subst Z;have h1:=Qa J;clear J y V
    go_wp2
    go_roundg (d.length-(e+1))
    ·have h:=O.o;rw[h1.o,Aw,Qfi ls _ e hlt H.o]at h;exact⟨e+1,ox,ox,sx,Qa h,R,h3⟩
    have:=x2.o;omega
   obtain⟨J,Y,h1⟩:=h8.o.next h5.o (by rw[y];exact Z);subst Y;rw[y]at h1;have h8:=Qa h1;have x2:j<g:=(by rw[<-y];exact x1.o _);have:((j:Int)==0)=false:=zx;have g1:((j:Int) != 0)=true:=zx;have⟨l,E⟩:=qx<|ls.getD e 0-(J+1);have:l<=1000:=(yx (x0.o e));have Y:=Qa (by have:=h2.o;omega:ls.getD e 0-J=l+1);have c1:=O.o.aZ<|Cj<|Qfj ls d e _ hlt H.o;rw[E]at c1 O;have h5:=O.o.free e;have Z:=Qa W.o.1;have c3:(wr.setCell ⟨p,e,none⟩<|.int .i64<|(l:Int)+1).cell? ⟨i,P,none⟩=some (.int .i64 (j:Int)):=(R.o.setCell (p:=⟨p,e,none⟩) (by simp[Qd,qo];exact fun h=>Z.o h.symm)<|.int .i64<|(l:Int)+1).aZ<|Cj V;clear h1 E y V
   go_wp2
   go_roundg J
   ·have q:=O.o.put e<|.int .i64 ((l+1:Nat):Int);rw[<-Bz,Qfk ls _ e _ _ hlt H.o,<-Y.o]at q;have U:=R.o.setCell (p:=⟨p,e,none⟩) (by simp[Qd,qo];exact fun h=>Z.o h.symm)<|.int .i64 ((l+1:Nat):Int);have O:=h3.o.setCell (p:=⟨p,e,none⟩) (.inr W.o.2)<|.int .i64 ((l+1:Nat):Int);rw[Y.o]at q;have R:Hid (Qh (wr.setCell ⟨p,e,none⟩<|.int .i64<|(l:Int)+1) 3 (.slice (some ⟨p,0,none⟩) d d)<|Qi<|AR ls d e<|ls.getD e 0-J):=Qa (by rwa[Y.o]);exact⟨j,x2,h8,Qa (yx h2.o),by first|rfl|simp,R,Qa U,Qa O⟩
   omega
  obtain rfl:e=d:=ox
  have x3:¬(d:Int)<d.length:=ox
  go_wp2
  go_ret;have h:=X.o;rw[ZM,Dz,XX,Q5 (by rw[H.o];exact Qk _),<-H.o]at h;exact⟨some ⟨p,0,none⟩,ls.length,by rw[H.o];rfl,h,h4.o,by intro x n;simp[fZ]at n;subst n;exact W.o.2⟩
 obtain⟨r,rfl⟩:∃e,r=e+1:=⟨r-1,ox⟩;have:r<=1000:=yx M.o
 have P:(QX d k).1.length=g:=by rw[z.o];exact Fj d k
 have H:(QX d k).2.length=g:=by rw[z.o];exact KY d k
 have p:∀j∈B,j.1<=1000000000000/\j.2<=1000000000000:=fun j y=>by
  obtain⟨q,U,O⟩:=PU.1<|I.o.1.mem_iff.1 y;have R:=eL d h9.o k (yx M.o) j.1 (by rw[O,List.getD,Qj ox];exact Yc _);omega
 have W:=Qa p;have O:=dG w gt v (r+1) B wr A.o D.o I.o.2 ox p fun h=>C.o.1 h.symm;have D:=Qa O;clear O P H p;go_wp2_with fail;go_fit D.o;rintro J X⟨O,A,rfl,p,h1,V,R,Z⟩;have Y:∀j∈Jl B A,j.1<=1000000000000/\j.2<=1000000000000:=fun j y=>W.o j<|(Pu B A O p).mem_iff.2<|XO _ y
 have y:(Jl B A).length=r+1:=by rw[Pt,I.o.2];rfl
 have j:=dG w gt v r (Jl B A) X V R y ox Y fun h=>C.o.1 h.symm;have⟨W,O,X⟩:=qc j (Qr p h1) Z;clear j Y y p h1 V R Z D c0;go_wp2_with fail;go_fit W.o;rintro J p⟨t2,i2,rfl,h1,h3,Z,Y,h2⟩;obtain⟨j,e,hp,h8,J,R,y,x8⟩:=eM d h9.o k (yx M.o);rw[<-z.o]at hp h8 J R y;obtain⟨D,T,V,h4⟩:=Qkp I.o.1 (by rw[z.o];exact KY d k) ox J R O.o.1 O.o.2 h1 h3;have h9:(QX d k).1.getD j 0+(QX d k).1.getD e 0<=1000000000000:=ox
 have⟨x,n⟩:=qx<|(QX d k).1.getD j 0;have⟨l,E⟩:=qx<|(QX d k).1.getD e 0;rw[n]at D h9 y;rw[E]at T h9 y;subst D;subst T;have T:(Jl (Jl B A) i2).length=r:=by rw[Pt,Pt,I.o.2];omega
 have⟨x1,x3,S,h9⟩:=qd T y h4 (show i∉[w.heap.size,gt]by simp;exact⟨fun h=>L.o.2.2 h.symm,fun h=>C.o.2.1 h.symm⟩);have I:Qb [w.heap.size,gt] wr p:=X.o.trans h2 fun x n=>.inl n;have⟨D,x0,x4,x2⟩:=qd (Q.o.kept I (by intro x n;simp[Qd,qo]at n;subst n;exact h9.o)) (s.o.trans I (by intro x n;simp at n;rcases n with h|h;exact .inr ox;exact .inr (by rw[h];exact C.o.2.2))) Z Y;obtain⟨u,Q⟩:∃s,s=u:=⟨_,rfl⟩;subst Q;have⟨s,Q⟩:=qy u j (yx t.o.1);obtain⟨h9,h9⟩:∃s,u[e]?=some s:=⟨_,Qj (yx t.o.1)⟩;have x5:=D.o.aZ<|Cj Q;have x6:=D.o.aZ<|Cj h9;have x7:=D.o.free j;have h5:=D.o.free e;have:(j:Int)<m:=ox
 have:(e:Int)<m:=ox
 have:¬e=j:=fun h=>V h.symm
 have:¬j=e:=V;have:i<p:=D.o.lt i (by simp[Qd,qo]);clear J R y x8 h4 T h2 h1 h3 Z Y O X W n E Q h9 I V;rw[show UX (Zo (x,j))=.agg #[.int .i64 (x:Int),(j:Int)]from rfl,show UX (Zo (l,e))=.agg #[.int .i64 (l:Int),.int .i64 (e:Int)]from rfl];go_wp2_with fail
 go_region
 have E:Qb [i] p ((((p.setCell ⟨i,j,none⟩ (g:Int)).setCell ⟨i,e,none⟩ (g:Int)).alloc<|.cells #[.int .i64 (x:Int),(j:Int)] 364).alloc<|.cells #[.int .i64 (l:Int),.int .i64 (e:Int)] 364).drew:=
  (((((Qc [i] p).setCell (p:=⟨i,j,none⟩) sx _).setCell (p:=⟨i,e,none⟩) sx _).alloc _).alloc _).drew
 have I:Qe ((((p.setCell ⟨i,j,none⟩ (g:Int)).setCell ⟨i,e,none⟩ (g:Int)).alloc<|.cells #[.int .i64 (x:Int),(j:Int)] 364).alloc<|.cells #[.int .i64 (l:Int),.int .i64 (e:Int)] 364).drew p 364 [.int .i64 (x:Int),(j:Int)]:=by have q:=Qx ((p.setCell ⟨i,j,none⟩ (g:Int)).setCell ⟨i,e,none⟩ (g:Int)) [.int .i64 (x:Int),(j:Int)] 364;rw[LP,LP]at q;exact q.kept (((Qc [] _).alloc _).drew) sx
 have J:Qe ((((p.setCell ⟨i,j,none⟩ (g:Int)).setCell ⟨i,e,none⟩ (g:Int)).alloc<|.cells #[.int .i64 (x:Int),(j:Int)] 364).alloc<|.cells #[.int .i64 (l:Int),.int .i64 (e:Int)] 364).drew (p.heap.size+1) 364 [.int .i64 (l:Int),.int .i64 (e:Int)]:=by have q:=Qx (((p.setCell ⟨i,j,none⟩ (g:Int)).setCell ⟨i,e,none⟩ (g:Int)).alloc<|.cells #[.int .i64 (x:Int),(j:Int)] 364) [.int .i64 (l:Int),.int .i64 (e:Int)] 364;rwa[uG,LP,LP]at q
 have O:Qh ((((p.setCell ⟨i,j,none⟩ (g:Int)).setCell ⟨i,e,none⟩ (g:Int)).alloc<|.cells #[.int .i64 (x:Int),(j:Int)] 364).alloc<|.cells #[.int .i64 (l:Int),.int .i64 (e:Int)] 364).drew 3 (.slice (some ⟨i,0,none⟩) m m) (Qi<|(u.set j g).set e g):=by rw[Bz,Bz];exact(((D.o.put j (g:Int)).put e (g:Int)).alloc _).alloc _
 have⟨n,T⟩:=qx<|((((p.setCell ⟨i,j,none⟩ (g:Int)).setCell ⟨i,e,none⟩ (g:Int)).alloc<|.cells #[.int .i64 (x:Int),(j:Int)] 364).alloc<|.cells #[.int .i64 (l:Int),.int .i64 (e:Int)] 364).drew;rw[T]at E I J O ⊢;have G:=x4.o.kept E (by simp;exact L.o.2.2);have D:=Qm.kept x2.o E (by intro s hz o;simp[Qd,qo]at hz o;subst hz;exact C.o.2.1 o);have⟨V,R,W,Q⟩:=qd (x0.o.trans E (by intro s hz;simp at hz;subst hz;exact .inr L.o.1)) G D O;have k0:n.cell? w=some (.slice (some ⟨gt,0,none⟩) r v):=G.cq 0;have k1:n.cell? p=some (.int .i64 (x:Int)):=I.cq 0;have k2:n.cell? ⟨p.heap.size+1,0,none⟩=some (.int .i64 (l:Int)):=J.cq 0;clear G D O I J E T x5 x6 x7 h5;go_wp2_with ((at_builtin;refine Rr n rfl _ _ 362 rfl 364 (.agg #[(0:Int),(0:Int)]) 2 16 Np Ng rfl dx (.slice (some ⟨gt,0,none⟩) r v) r _ [.int .i64<|(x:Int)+l,(g:Int)] rfl rfl rfl rfl (by simp[Value.oneCell']) W.o (by simp only[maxLen];omega) ox ?_;intro p I D O G J;have E:=R.o.kept G (by simp[Qd,qo];exact fun h=>C.o.1 h.symm);have:D.cell? w=some (.slice (some ⟨gt,0,none⟩) r v):=E.cq 0;have f6:=E.free 0))
 go_roundg r
 case measure=>omega
 have n:p≠w/\p≠i/\w<=p:=by
  rcases J with h|h
  ·simp[Qd,qo]at h;subst h;exact C.o
  have q:=Q.o.lt i (by simp[Qd,qo]);have U:=R.o.lt;omega
 have i:Qb [w.heap.size] D (D.setCell ⟨w.heap.size,0,none⟩<|.slice p (r+1) I):=(Qc [w.heap.size] D).setCell (p:=w) sx _;have H:(QX d k).2.length=g:=by rw[z.o];exact KY d k
 have P:(QX d k).1.length=g:=by rw[z.o];exact Fj d k
 have y:=x3.o;have hrs:=Qhs (W:=(QX d k).1) (over:=((QX d k).2.set j g).set e g) (k:=g) (x:=x+l) P (by rw[JO,JO];exact H);refine⟨r,k+1,g+1,p,I,Jl (Jl B A) i2++[(x+l,g)],(u.set j g).set e g,rfl,yx M.o,yx z.o,sx,Qa<|E.set 0 _,Qa ?_,Qa ⟨?_,?_⟩,Qa ?_,Qa ⟨?_,?_⟩,Qa ?_,Qa n⟩
 ·have q:Xb ((Jl (Jl B A) i2++[(x+l,g)]).map Zo)=Xb ((Jl (Jl B A) i2).map Zo)++[.int .i64<|(x:Int)+l,.int .i64 (g:Int)]:=by
   rw[XC,nV]
   congr 1
  rw[q];exact Qm.kept O i (by intro s hz o;simp[Qd,qo]at hz o;subst hz;exact n.1 o)
 ·rw[y,hrs];exact S.o.append_right _
 ·rw[Qo,x1.o];rfl
 ·exact(Q.o.kept G (by intro s hz o;simp[Qd,qo]at hz o;subst hz;exact C.o.2.1 o.symm)).kept i (by intro s hz o;simp[Qd,qo]at hz o;subst hz;exact L.o.2.2 o.symm)
 ·rw[JO,JO];exact t.o.1
 ·intro F;rw[y];simp only[];rw[KN,AL,AL,AL,AL,t.o.2 F,JO,JO,t.o.1,H];obtain⟨d,g⟩:j<m/\e<m:=ox
  simp only[hp,h8,d,g,and_true]
 exact(V.o.trans G (by intro s hz;simp[Qd,qo]at hz;subst hz;exact .inr C.o.2.2)).setCell (p:=w) (.inr<|Qk _) _
def pP(xs:LI)(w:WD)(e:Ending)(w':WD):Prop:=
 ∃c d,e=.returned (.slice (some ⟨c,0,none⟩) xs d)/\Qh w' 3 (.slice (some ⟨c,0,none⟩) xs d) (QO xs)/\Qb [] w w'/\w.heap.size<=c
def wS(a c xs w)(h:Qp w 1 a xs.length (QO xs))(h0:1<=xs.length)(d:xs.length<=1000000):
 Calls prog 280 #[.slice a xs.length c] w (pP xs w):=by
 have g:=Qa h;have d:∀e∈QO xs,e.oneCell'=true:=by intro e e;obtain⟨c,-,rfl⟩:=QA.1 e;rfl
 have l:=Qa d;obtain⟨b,off,rfl,-⟩:=h.at (by rw[Xx];omega);have:=fun d:WD=>FO (P:=prog) d 51 3 (some ⟨b,off,none⟩) xs c 0 0 XP
 go_enter func280,ntmps280;have j:Qp (w.alloc<|.cells #[] 3) 1 (some ⟨b,off,none⟩) xs (QO xs):=g.o.kZ<|(Qc [] w).alloc _;go_wp2_with ((at_builtin;refine Du rfl _ _ 51 rfl 3 (0:Int) 8 XP XZ rfl (.slice w 0 0) [] (QO xs) (some ⟨b,off,none⟩) xs c rfl rfl l.o (Qh.empty w _) j (fun h=>by cases h) (by simp[maxLen];omega) zx ?_;intro a4 m d i g e));simp only[YU,YE,Zu]at i e;have n:(QO xs).length=xs.length:=Xx xs;have g:Qb [] w d:=((Qc [] w).alloc _).new g (by intro d d;simp[Qd,qo]at d;omega);obtain⟨d,l,m,l,-,-⟩:=i.open ox;injection m with m hv2 hv3;subst m;subst hv3;have m:w<=d:=by
  rcases e d (by simp[Qd,qo])with h|h
  ·simp[Qd,qo]at h;omega
  simp at h;omega
 go_ret;exact⟨d,_,rfl,i,g,m⟩
def Qli(a c xs e w)(h:Qp w 1 a xs.length (QO xs))(i:xs.length<=17592186043904)(d:(YA xs&&By e)=false):
 Calls prog 253 #[.slice a xs.length c,e] w (Y8 ([],2) w):=by
 have g:=Mg a c xs w h i;go_enter func253,ntmps253;go_wp2_with fail;go_fit g;rintro g g⟨rfl,rfl⟩;cases hm:YA xs with
 |false=>
  go_wp2
  go_ret2;exact .err rfl<|Qc _ _
 |true=>
  rw[hm]at d
  by_cases g:e<12
  ·have g1:decide (e<12)=true:=zx
   go_wp2
   go_ret2;exact .err rfl<|Qc _ _
  have g1:decide (e<12)=false:=zx
  have:decide (20<e)=true:=by unfold By at d;simp at d ⊢;omega
  go_wp2
  go_ret2;exact .err rfl<|Qc _ _
def qW(w0:WD)(d N:Nat)(ls:LN)(h e:Nat)(g:Nat)(wr:WD):Prop:=
 ∃(k:Nat)(c:LN),k=g/\Hid (EF d k c ls)/\Hid (c=N)/\Hid (∀d∈c,1<=d/\d<=1073741824)/\Hid (Qh wr 3 (.slice h N e) (Qi c))/\Hid (Qb [] w0 wr)
def Qlj(a c xs h4 n ls w)(h:Qp w 1 a xs.length (QO xs))(hm:YA xs=true)(p6:12<=h4)(p7:h4<=20)(y8:EF h4 n (Z0 xs) ls):
 Calls prog 253 #[.slice a xs.length c,(h4:Int)] w (Y8 (ls,0) w):=by
 obtain⟨p8,p9,p2⟩:=Fm hm;have M:=Mg a c xs w h ox;have M2:=wS a c xs w h ox ox;rw[hm]at M;have⟨HM,h9⟩:=qb hm y8;have g1:decide ((h4:Int)<12)=false:=zx
 have g2:decide (20<(h4:Int))=false:=zx
 go_enter func253,ntmps253;go_wp2_with fail;go_fit M;rintro e w'⟨rfl,rfl⟩;go_wp2_with fail;go_fit M2;rintro e w4⟨go,x2,rfl,y9,y6,x4⟩;have⟨y3,x7⟩:=qb y9 y6
 go_wp2
 go_loopg [27] xs.length (fun g v wr=>pN w xs go x2 g v wr)
 ·exact⟨0,ox,ox,rfl,by simpa using y3,x7⟩
 obtain⟨i,hg,hi,rfl,HR,HK⟩:=hrel;have Hg:=Qa hg
 by_cases hlt:i<xs.length
 ·have p3:(i:Int)<xs.length:=ox
  have⟨x,o⟩:=qy xs i hlt;have c0:=HR.o.aZ<|Fk _ _ _<|wK xs i x o;have f0:=HR.o.free i;have HX:=Qa o
  by_cases h1:1<=x
  all_goals
   go_wp2
   go_roundg (xs.length-(i+1))
   ·have hs:=HR.o.put i<|.int .i64<|YI x;rw[<-Qcg,wL xs i x HX.o]at hs;have hk:=HK.o.setCell (p:=⟨go,i,none⟩) (.inr x4) (.int .i64<|YI x)
    first
     |(rw[show YI x=x from Qg h1]at hs hk;exact⟨i+1,ox,ox,sx,Qa hs,Qa hk⟩)
     |(rw[show YI x=1 from Qf ox]at hs hk;exact⟨i+1,ox,ox,sx,Qa hs,Qa hk⟩)
     |(rw[show YI x=max x 1 by unfold YI;split<;>omega]at hs hk;exact⟨i+1,ox,ox,sx,Qa hs,Qa hk⟩)
   have:=Hg.o;omega
 obtain rfl:i=xs.length:=ox
 have p4:¬(xs.length:Int)<xs.length:=ox
 have h8:=HR.o;rw[Q5<|Qk _,Jq<|Qk _,XX,Qfm]at h8;have⟨x0,h5,y1,z7⟩:=qd h8 (Px HM.o) (JH xs) x4
 go_wp2
 go_loopg [] n (fun g wr=>qW w h4 xs.length ls go x2 g wr)
 ·exact⟨n,_,rfl,h9,y1,h5,x0,HK⟩
 obtain⟨k,q,rfl,h9,y0,h5,x0,HK⟩:=hrel;have x1:=y0.o;obtain⟨lc,x3⟩:=Oo q (fun x o=>(h5.o x o).1) ox;have G:=Qbh go x2 q lc wr (by rw[x1];exact x0.o.sZ) ox ox (fun x o=>(h5.o x o).1) (Qfo ox h5.o) x3;have x9:=Qa<|show CJ q lc from x3;have y7:lc.length=xs.length:=by rw[x3.len,x1]
 rw[x1]at G;have h3:=Qa<|Qr x1 y7;obtain⟨wo,rfl⟩:∃wo:WD,wo=wr:=⟨_,rfl⟩;go_wp2_with fail;go_fit G;rintro e w5⟨a5,c5,rfl,x6,x5,y4⟩;rw[h3.o.2]at x6 ⊢;have⟨y2,z6,x8,p1⟩:=qd x6 (Qu.mono y4 HK.o.size) (HK.o.trans x5 sx) (x0.o.kept x5 sx);have G:=gQ a5 c5 (lc.map fun n:Nat=>(n:Int)) w5 (by rw[QH,h3.o.2,<-Dd];exact y2.o.sZ) (by rw[QH,h3.o.2];omega) (by rw[QH,h3.o.2];omega);rw[QH,h3.o.2]at G;rcases Rx k with y5|y5
 ·subst y5;obtain⟨t1,t2⟩:=h9.o;have e1:=nU t1 x9.o;subst e1;have T2:=Qa t2;go_wp2_with fail;go_fit G;rintro e w6⟨m,rfl,h1,h2,rfl⟩;have p5:=(gS h1 h2).2 T2.o;have g3:decide (m<=(h4:Int))=true:=zx
  go_wp2
  go_ret2;have hr:=y2.o;have hl:=h3.o.2;rw[<-hl]at hr;exact⟨a5,c5,by rw[hl];rfl,hr,x8.o,z6.o⟩
 obtain⟨r,rfl⟩:∃r,k=r+1:=⟨k-1,ox⟩;obtain⟨l0,t1,t2,t3⟩:=h9.o;have e1:=nU t1 x9.o;subst e1;have⟨T2,T3⟩:=qb t2 t3;go_wp2_with fail;go_fit G;rintro e w6⟨m,rfl,h1,h2,rfl⟩;have p5:¬(m<=(h4:Int)):=fun hm=>by obtain⟨x,o,hlt⟩:=T2.o;have:=(gS h1 h2).1 hm x o;omega
 have g3:decide (m<=(h4:Int))=false:=zx
 go_wp2
 go_loopg [47] xs.length (fun g v wr=>qM w xs.length q go x2 g v wr)
 ·exact⟨0,ox,ox,rfl,by simpa[UB]using p1,x8⟩
 obtain⟨i,hg,hi,rfl,HR,HK⟩:=hrel;have Hg:=Qa hg
 by_cases hlt:i<xs.length
 ·have p3:(i:Int)<xs.length:=ox
  have⟨x,o⟩:=qy q i (yx h3.o.1);have q0:x<=1073741824:=(h5.o x<|QB o).2;have c0:=HR.o.aZ<|Cj<|Qbn q i x o;have f0:=HR.o.free i;have HX:=Qa o
  go_wp2
  go_roundg (xs.length-(i+1))
  ·have hs:=HR.o.put i<|.int .i64 ((x/2+1:Nat):Int);rw[<-Bz,Qbp q i x HX.o]at hs;have hk:=HK.o.setCell (p:=⟨go,i,none⟩) (.inr z7.o)<|.int .i64 ((x/2+1:Nat):Int);exact⟨i+1,ox,ox,sx,Qa hs,Qa hk⟩
  have:=Hg.o;omega
 obtain rfl:i=xs.length:=ox
 have p4:¬(xs.length:Int)<xs.length:=ox
 have h8:=HR.o;rw[Q5 (by rw[h3.o.1];exact Qk _),Jq (by rw[h3.o.1];exact Qk _),XX]at h8;have⟨p0,z8,z1⟩:=qc h8 (show(UB q).length=xs.length by rw[KT,h3.o.1]) (show ∀x∈UB q,1<=x/\x<=1073741824 from fun x o=>⟨eE q x o,Qbo (fun y hy=>(h5.o y hy).2) x o⟩)
 go_wp2
 go_roundg r
 ·exact⟨r,UB q,rfl,T3,z8,z1,p0,HK⟩
 omega
end Go.Proofs.YtickjpnkoppmgaaGreatDoor
namespace Go.Proofs
section
open Go.Shelf Go.Lib
def tW:Go.Shelf.Ren:=⟨fun|6=>283|15=>104|14=>306|28=>145|29=>146|20=>314|21=>315|22=>316|23=>317|24=>318|25=>319|26=>320|27=>321|46=>325|47=>185|48=>186|49=>326|50=>327|57=>328|n=>n,fun|22=>362|24=>364|25=>366|3=>3|39=>179|0=>0|53=>67|55=>214|4=>4|46=>235|45=>234|50=>239|5=>5|9=>9|66=>279|70=>283|76=>322|77=>323|n=>n,fun|n=>n⟩
def tV:Go.Proofs.SlLaysF0.n6 Tryz.prog tW:={
 mixed:=kx
 f6:=⟨Tryz.f283.name,dx,Tryz.func283.trans<|congrArg some kx⟩
 f14:=⟨Tryz.f306.name,dx,Tryz.func306.trans<|congrArg some kx⟩
 f15:=Tryz.func104.trans (congrArg some kx)
 f20:=⟨Tryz.f314.name,dx,Tryz.func314.trans<|congrArg some kx⟩
 f21:=⟨Tryz.f315.name,dx,Tryz.func315.trans<|congrArg some kx⟩
 f22:=⟨Tryz.f316.name,dx,Tryz.func316.trans<|congrArg some kx⟩
 f23:=⟨Tryz.f317.name,dx,Tryz.func317.trans<|congrArg some kx⟩
 f24:=⟨Tryz.f318.name,dx,Tryz.func318.trans<|congrArg some kx⟩
 f25:=⟨Tryz.f319.name,dx,Tryz.func319.trans<|congrArg some kx⟩
 f26:=⟨Tryz.f320.name,dx,Tryz.func320.trans<|congrArg some kx⟩
 f27:=⟨Tryz.f321.name,dx,Tryz.func321.trans<|congrArg some kx⟩
 f28:=Tryz.func145.trans (congrArg some kx)
 f29:=Tryz.func146.trans (congrArg some kx)
 f46:=⟨Tryz.f325.name,dx,Tryz.func325.trans<|congrArg some kx⟩
 f47:=Tryz.func185.trans (congrArg some kx)
 f48:=Tryz.func186.trans (congrArg some kx)
 f49:=⟨Tryz.f326.name,dx,Tryz.func326.trans<|congrArg some kx⟩
 f50:=⟨Tryz.f327.name,dx,Tryz.func327.trans<|congrArg some kx⟩
 f57:=⟨Tryz.f328.name,dx,Tryz.func328.trans<|congrArg some kx⟩
 t0:=Tryz.underlying0
 a0:=Tryz.isAgg0
 z0:=Tryz.sizeOf0
 v0:=Tryz.zeroValue0
 t3:=Tryz.underlying3
 a3:=Tryz.isAgg3
 z3:=Tryz.sizeOf3
 v3:=Tryz.zeroValue3
 t4:=Tryz.underlying4
 a4:=Tryz.isAgg4
 z4:=Tryz.sizeOf4
 v4:=Tryz.zeroValue4
 t5:=Tryz.underlying5
 a5:=Tryz.isAgg5
 z5:=Tryz.sizeOf5
 v5:=Tryz.zeroValue5
 t9:=Tryz.underlying9
 a9:=Tryz.isAgg9
 z9:=Tryz.sizeOf9
 v9:=Tryz.zeroValue9
 t22:=Tryz.underlying362
 a22:=Tryz.isAgg362
 z22:=Tryz.sizeOf362
 v22:=Tryz.zeroValue362
 t25:=Tryz.underlying366
 a25:=Tryz.isAgg366
 z25:=Tryz.sizeOf366
 v25:=Tryz.zeroValue366
 t39:=Tryz.underlying179
 a39:=Tryz.isAgg179
 z39:=Tryz.sizeOf179
 v39:=Tryz.zeroValue179
 t45:=Tryz.underlying234
 a45:=Tryz.isAgg234
 z45:=Tryz.sizeOf234
 v45:=Tryz.zeroValue234
 t46:=Tryz.underlying235
 a46:=Tryz.isAgg235
 z46:=Tryz.sizeOf235
 v46:=Tryz.zeroValue235
 t50:=Tryz.underlying239
 a50:=Tryz.isAgg239
 z50:=Tryz.sizeOf239
 v50:=Tryz.zeroValue239
 t53:=Tryz.underlying67
 a53:=Tryz.isAgg67
 z53:=Tryz.sizeOf67
 v53:=Tryz.zeroValue67
 t55:=Tryz.underlying214
 a55:=Tryz.isAgg214
 z55:=Tryz.sizeOf214
 v55:=Tryz.zeroValue214
 t66:=Tryz.underlying279
 a66:=Tryz.isAgg279
 z66:=Tryz.sizeOf279
 v66:=Tryz.zeroValue279
 t70:=Tryz.underlying283
 a70:=Tryz.isAgg283
 z70:=Tryz.sizeOf283
 v70:=Tryz.zeroValue283
 t76:=Tryz.underlying322
 a76:=Tryz.isAgg322
 z76:=Tryz.sizeOf322
 v76:=Tryz.zeroValue322
 t77:=Tryz.underlying323
 a77:=Tryz.isAgg323
 z77:=Tryz.sizeOf323
 v77:=Tryz.zeroValue323}
end
end Go.Proofs
namespace Go.Proofs.YtickjpnkoppmgaaGreatDoor
open Go.Proofs.Tryz Go.RowKit K
section
open Go.Sort Go.Shelf
def uF(x d w)(h:Rb x)(l:Rb d):Calls prog 284 #[UX x,UX d] w fun e w'=>e=.returned (.int .i64<|Ud x d)/\∃j i,w'=grow (w.drewN j) i:=by
 obtain⟨a,b⟩:=x;obtain⟨c,g⟩:=d;obtain⟨⟨d,m⟩,n,o⟩:=h;obtain⟨⟨h,p⟩,q,s⟩:=l;simp only at d m n o h p q s;unfold UX;have l:=fun d=>Oa a b c g d
 have m:∀d h:Obj,∃j i,(w.alloc d).alloc h=grow (w.drewN j) i:=fun d h=>⟨0,#[d]++#[h],by rw[alloc_eq_grow,alloc_eq_grow,grow_grow];rfl⟩
 have j:=Qa m
 by_cases d:a=c
 ·by_cases m:b=g
  ·subst d;subst m;have i:(a==a&&b==b)=true:=sx;rw[i]at l;have h:=Qa (by unfold Ud;simp:Ud (a,b) (a,b)=0);go_enter func284,Gd
   go_wp2
   go_ret;exact⟨by rw[h.o];rfl,j.o _ _⟩
  have i:(a==c&&b==g)=false:=by simp[m]
  rw[i]at l;have h:=Qa (by unfold Ud;simp[d]:Ud (a,b) (c,g)=b-g);have g1:(a==c)=true:=by simp[d]
  have m:(a != c)=false:=by simp[d]
  have:=Qa d;go_enter func284,Gd
  go_wp2
  go_ret;exact⟨by rw[h.o];rfl,j.o _ _⟩
 have i:(a==c&&b==g)=false:=by simp[d]
 rw[i]at l;have h:=Qa (by unfold Ud;simp[d]:Ud (a,b) (c,g)=a-c);have g1:(a==c)=false:=by simp[d]
 have m:(a != c)=true:=by simp[d]
 go_enter func284,Gd
 go_wp2
 go_ret;exact⟨by rw[h.o];rfl,j.o _ _⟩
abbrev EO:Type:={x:Int × Int//Rb x}
instance:Inhabited EO:=⟨⟨(0,0),by unfold Rb;omega⟩⟩
def DP(x:EO):LV:=Eh x.1
def Gu(x c:EO):Int:=Ud x.1 c.1
def Ld(x c:EO):ltOf Gu x c=decide (x.1.1<c.1.1\/(x.1.1=c.1.1/\x.1.2<c.1.2)):=by unfold ltOf Gu;exact decide_eq_decide.2<|Nw _ _
def Qjy:SWO (ltOf Gu) where
 irrefl x:=by rw[Ld];simp
 trans x y z h1 h2:=by rw[Ld]at*;simp only[ZE]at*;omega
 ntrans x y z h1 h2:=by rw[Ld]at*;simp only[Cb]at*;omega
def wY(blk off size w):CmpLays prog 284 #[] DP 2 Gu blk off size w:=
 fun _ _ _ _ c d=>uF c.1 d.1 _ c.2 d.2
def Bj(l:List (Int × Int))(hb:∀x∈l,Rb x):Array EO:=(l.attach.map fun x=>⟨x.1,hb x.1 x.2⟩).toArray
def uR(l)(hb:∀x∈l,Rb x):(Bj l hb).size=l.length:=by simp[Bj]
def WW(l)(hb:∀x∈l,Rb x):(Bj l hb).toList.map Subtype.val=l:=by simp[Bj];exact List.attach_map_subtype_val l
def dK(d t)(h:t<d.size*2):(Xb<|d.toList.map Subtype.val)[t]?=some ((flatK DP 2 d)[t]!):=by
 have c:t/2<d.size:=ox
 have i:(d.toList.map Subtype.val)[t/2]?=some (d[t/2]!).1:=by rw[Zz,getElem!_pos d _ c];simp[c]
 obtain⟨e,g⟩:=Ds i;rw[get_flatK _ _ _ _ h];rcases Nat.mod_two_eq_zero_or_one t with c|c
 ·rw[c,(ox:t=t/2*2),e,(ox:t/2*2/2=t/2)];rfl
 rw[c,(ox:t=t/2*2+1),g,show(t/2*2+1)/2=t/2 by omega];rfl
def sX(g n:Nat)(l:List (Int × Int))(w:WD)(e:Ending)(w':WD):Prop:=
 e=.returned (.tuple #[])/\∃c,c.Perm l/\(c.Pairwise fun a b=>¬(b.1<a.1\/(b.1=a.1/\b.2<a.2)))/\Qp w' 2 g n (Xb c)/\Qb [g] w w'
def Qi0(g c n:Nat)(l w)(d:Qm w 364 2 (.slice g n c) n (Xb l))(m:l.length=n)(e:n<=1000000)(hb:∀x∈l,Rb x):
 Calls prog 283 #[.slice g n c,.func (.func 284) #[] #[]] w (sX g n l w):=by
 have s:∀e w,(callFunc 284 e).run prog w=.ok (.enter 284 e) w:=enters_of func284 kx rfl;have j:=uR l hb;have q:g<w:=d.lt g (by simp[Qd,qo]);have o:HoldsK DP 2 w g 0 (Bj l hb):=by intro e h;rw[size_flatK]at h;have i:=dK (Bj l hb) e h;rw[WW]at i;exact⟨by rw[Zu];exact d.aZ i,d.free _⟩
 have d:=AnyQ.slices_SortFunc tV 2 isAgg364 sizeOf364 DP (fun _=>rfl) (fun x p p=>by simp[DP,Eh]at p;rcases p with rfl|rfl<;>rfl) Gu Qjy 284 #[] g 0 c (Bj l hb) w s (wY g 0 _ w) o q (by rw[j];omega);rw[j,m]at d;refine Calls.mono d ?_;rintro d d⟨rfl,d,u,os,⟨s,p,t⟩,hs,rfl⟩;have p:d.size=n:=by rw[s,j,m]
 refine⟨rfl,d.toList.map Subtype.val,?_,?_,⟨by rw[Ei,QH,RS,p],fun e v h=>⟨g,0,rfl,?_⟩⟩,?_⟩
 ·have i:d.extract 0 n=d:=by rw[<-p];simp
  have p:(Bj l hb).extract 0 n=Bj l hb:=by rw[<-m,<-j];simp
  rw[i,p]at t;have:=t.map Subtype.val;rwa[WW]at this
 ·rw[Rw,JP];intro i e hi h p;have m:i<d.size:=by simpa using hi
  have t:e<d.size:=by simpa using h
  have j:=hs i e (Zv _) p ox;rw[getElem!_pos d i m,getElem!_pos d e t,Ld,Cb]at j;simpa using j
 ·have i:e<d.size*2:=by have:=(Qy.1 h).1;rwa[Ei,QH,RS]at this
  rw[dK d e i]at h;cases h;unfold sortWorldK;rw[cell?_grow _ _ _ (by simp[putRowK];exact q)];exact cell?_putRow id (Go.Sort.ahead w u) g 0 (flatK DP 2<|Bj l hb) (flatK DP 2 d) o (by rw[size_flatK,size_flatK,s]) e (by rwa[size_flatK])
 unfold sortWorldK;refine⟨?_,?_,?_,?_,?_⟩
 ·rfl
 ·rfl
 ·rfl
 ·simp[putRowK]
 intro k hk d;rw[heap_grow_old _ _ (by simp[putRowK];exact hk)];simp only[putRowK,putRow,mapBlock];rw[Mj,Qf (by simp at d;omega)];rfl
end
def Qkl(n):Xb (List.replicate n (0,0))=List.replicate (n*2) (.int .i64 0):=by
 induction n with
 |zero=>rfl
 |succ n ih=>rw[JB,show(n+1)*2=n*2+1+1 by omega,JB,JB,<-ih];rfl
def Qdm(n):(madeCells #[(0:Int),(0:Int)] (n*2)).toList=Xb (List.replicate n (0,0)):=by
 rw[Qkl];apply XB;intro d
 by_cases e:d<n*2
 ·have c:d%2=0\/d%2=1:=ox
  simp only[madeCells,Array.toList_map,Zz,Array.toList_range,Xl e,V1,e,Cg,Bg];rcases c with c|c<;>simp[c]
 rw[QU (by simp[madeCells];omega),QU zx]
def Qlk{w m o d a g}(s:d.guard=none)(l c:Operand)(t)(v:d.op=Op.makeSlice t l c)(e)(hu:prog.underlying t=some (.slice e))(T:(prog.info? e).map (fun i=>(i.zero,i.size,i.bytes))=some (some<|.agg #[(0:Int),(0:Int)],2,16))(j h:IntKind)(n)(u:a.eval l=.int j n)(q:a.eval c=.int h n)(p:n<=1000000)(p:∀w',Qm w' e 2 (.slice w.heap.size n n) n (Xb<|List.replicate n (0,0))->Qb [] w w'->wpList prog m g o (a.put d.dst<|.slice w.heap.size n n) w'):
 wpList prog m g (d::o) a w:=by
 obtain⟨i,hi,h0,d,g⟩:=VR T;have m:(i.bytes:Int)*n<=281474976710656:=by rw[g];omega
 have o:=run_make (P:=prog) w t e i _ hu hi h0 j h n n ox ox m ox;refine El s fun g g=>?_
 unfold Oper.wp;simp[execOp,v,u,q,o,Result.andThen];refine g _ _<|p _ ⟨by rw[Ei];simp,.inr ⟨w.heap.size,n,_,sx,Zv _,Xq w _,Qk _,by simp only[maxLen];omega,by rw[d];simp[size_madeCells],?_⟩⟩<|(Qc _ _).alloc _;rw[d,show(Value.agg #[(0:Int),(0:Int)]).cells=#[.int .i64 0,.int .i64 0]from by rfl,Qdm,Q5 (by rw[Ei];simp)]
def RF(xs:LI)(i:Nat):List (Int × Int):=(List.range i).map fun c=>(-(((Z0 xs).getD c 0:Nat):Int),(c:Int))
def Fr(xs i):(RF xs i).length=i:=by simp[RF]
def Qfr(xs i x)(h:xs[i]?=some x)(n)(hi:i<n):(RF xs i++List.replicate (n-i) (0,0)).set i (-YI x,(i:Int))=RF xs (i+1)++List.replicate (n-(i+1)) (0,0):=by have c:=jH h;rw[V2 _ _ (by rw[Fr];exact Qk _),Fr,ZM,(ox:n-i=(n-(i+1))+1),JB,Vp];unfold RF;rw[J5,XC,QR];simp only[QV,Y6,c];rfl
def VE(c:LN)(i:Nat):LN:=(List.range c.length).map fun d=>if VQ c d<i then RB c.length (VQ c d)else 0
def Ls(c i):(VE c i).length=c.length:=by simp[VE]
def Qfh(c):VE c 0=List.replicate c.length 0:=by
 unfold VE;apply XB;intro e
 by_cases d:e<c
 ·simp[Xl d,d]
 rw[QU zx,QU zx]
def Qff(c):VE c c.length=Y9 c:=by unfold VE Y9;apply YT;intro e d;rw[ZR]at d;have hp:=(dO c).mem_iff.1<|QA.2 ⟨e,ZR.2 d,rfl⟩;rw[ZR]at hp;rw[Qg hp]
structure TK(ws:LN)(l:List (Int × Int)):Prop where
 len:l.length=ws.length
 at_:∀(p:Nat)(t:Int × Int),l[p]?=some t->∃q:Nat,t.2=(q:Int)/\q<ws.length/\VQ ws q=p
 all:∀q,q<ws.length->∃(p:Nat)(t:Int × Int),l[p]?=some t/\t.2=(q:Int)
def Qi5{xs l}(hp:l.Perm (RF xs xs.length))(hs:l.Pairwise fun a b=>¬(b.1<a.1\/(b.1=a.1/\b.2<a.2))):TK (Z0 xs) l:=by
 have q:l.length=xs.length:=by rw[hp.length_eq,Fr]
 have i:∀c∈l,∃d:Nat,d<xs/\c=(-(((Z0 xs).getD d 0:Nat):Int),(d:Int)):=by intro c e;obtain⟨d,g,rfl⟩:=QA.1<|hp.mem_iff.1 e;exact⟨d,ZR.1 g,rfl⟩
 have m:(l.map fun c=>c.2.toNat).Perm (List.range (Z0 xs).length):=by
  have h:=hp.map fun c=>c.2.toNat
  have n:(RF xs xs).map (fun c=>c.2.toNat)=List.range (Z0 xs).length:=by
   rw[JH];unfold RF;rw[Xv]
   conv=>rhs;rw[<-Ex (List.range xs)]
   apply YT;intro j _;simp
  rwa[n]at h
 have s:(l.map fun c=>c.2.toNat).Pairwise fun a b=>UK (Z0 xs) a b=false:=by rw[Rw,JP];rw[JP]at hs;intro n j hi p o;have h:=hs n j hi p o;obtain⟨a,ha,o⟩:=i l[n] (Yc _);obtain⟨b,hb,n⟩:=i l[j] (Yc _);rw[o,n]at h ⊢;unfold UK;rw[Cb];simp only[ZH]at h ⊢;omega
 refine⟨by rw[q,JH],fun h c e=>?_,fun d g=>?_⟩
 ·obtain⟨d,g,rfl⟩:=i c<|QB e;refine⟨d,rfl,by rwa[JH],?_⟩;exact dN m s h d (by rw[Zz,e];simp)
 have j:d∈l.map fun c=>c.2.toNat:=m.mem_iff.2<|ZR.2 g
 obtain⟨c,e,d⟩:=QA.1 j;obtain⟨h,m,j⟩:=Tl.1 e;obtain⟨q2,-,g⟩:=i c e;refine⟨h,c,by rw[<-j];exact Qj m,?_⟩;rw[g]at d ⊢;simp at d ⊢;omega
def Qfg{o l}(h:TK o l){p q:Nat}{t}(ht:l[p]?=some t)(hq:t.2=(q:Int)):(VE o p).set q (RB o.length p)=VE o (p+1):=by
 obtain⟨q',e1,hlt,hf⟩:=h.at_ p t ht;have:q'=q:=ox
 subst this;apply XB;intro j;rw[Je]
 by_cases hj:j<o
 ·have g:∀i,(VE o i)[j]?=some (if VQ o j<i then RB o (VQ o j)else 0):=fun i=>by simp[VE,Xl hj]
  rw[g,g]
  by_cases he:q'=j
  ·subst he;rw[Qg rfl,Qg (by rw[Ls];exact hlt),hf,Qg ox]
  rw[Qf he];have hne:VQ o j≠p:=by intro h8;obtain⟨p2,t2,y,h3⟩:=h.all j hj;obtain⟨q2,e2,-,f2⟩:=h.at_ p2 t2 y;have h5:q2=j:=ox;subst h5;have h4:p2=p:=ox;subst h4;rw[ht]at y;cases y;omega
  by_cases h1:VQ o j<p
  ·rw[Qg h1,Qg ox]
  rw[Qf h1,Qf ox]
 rw[Qf ox,QU (by rw[Ls];omega),QU (by rw[Ls];omega)]
def Qld(a c xs w)(h:Qp w 1 a xs.length (QO xs))(g:xs.length<=17592186043904)(e:YA xs=false):
 Calls prog 254 #[.slice a xs.length c] w (Y8 ([],2) w):=by
 have d:=Mg a c xs w h g;rw[e]at d;go_enter func254,ntmps254;go_wp2_with fail;go_fit d;rintro d d⟨rfl,rfl⟩
 go_wp2
 go_ret2;exact .err rfl<|Qc _ _
def rM(w0:WD)(xs:LI)(g:Nat)(m:Nat)(v:VL)(wr:WD):Prop:=
 ∃c:Nat,m=xs.length-c/\c<=xs/\v=.int .i64 (c:Nat)/\Hid (Qm wr 364 2 (.slice g xs xs) xs (Xb (RF xs c++List.replicate (xs.length-c) (0,0))))/\Hid (Qb [] w0 wr)
def rO(w0:WD)(xs:LI)(g d:Nat)(l:List (Int × Int))(m:Nat)(v:VL)(wr:WD):Prop:=
 ∃c:Nat,m=xs.length-c/\c<=xs/\v=.int .i64 (c:Nat)/\Hid (Qp wr 2 g xs (Xb l))/\Hid (Qh wr 3 (.slice d xs xs) (Qi (VE (Z0 xs) c)))/\Hid (Qb [] w0 wr)
def Qle(a c xs w)(h:Qp w 1 a xs.length (QO xs))(s:YA xs=true):
 Calls prog 254 #[.slice a xs.length c] w (Y8 (Y9<|Z0 xs,0) w):=by
 obtain⟨g,l,e⟩:=Fm s;have d:=Mg a c xs w h ox;rw[s]at d;have⟨C,L⟩:=qb h e;obtain⟨b,off,rfl,-⟩:=h.at (by rw[Xx];omega);go_enter func254,ntmps254;go_wp2_with fail;go_fit d;rintro O e⟨rfl,rfl⟩
 go_wp2
 go_loopg [5] 8 (fun o q wr=>∃k:Nat,o=9-k/\1<=k/\k<=8/\Hid (2^k<=xs.length)/\q=.int .i64 (k:Nat)/\w=wr)
 ·exact⟨1,ox,ox,ox,Qa g,rfl,rfl⟩
 obtain⟨k,y,d,d,e,rfl,rfl⟩:=hrel;have x:=Qa y;have⟨i,A⟩:=qx<|k+1;have:(k:Int)+1=(i:Int):=ox
 have z:(2:Int)^i=((2^i:Nat):Int):=by norm_cast
 have d:2^i<=512:=yx (Ju (n:=2) ox (ox:i<=9))
 have E:=Qa A;have⟨t,hp⟩:=qx<|2^i;have D:=Qa hp;rw[hp]at z d;have:i<=9:=ox
 have:(0:Int)<=i:=ox
 by_cases d:t<=xs.length
 ·have g:(t:Int)<=xs.length:=ox
  go_wp2
  go_roundg (9-i)
  ·exact⟨i,rfl,ox,by rw[<-D.o]at d;exact jW d l,Qa<|by rwa[D.o],by first|rfl|simp,rfl⟩
  have:=x.o;have:=E.o;omega
 have g:¬(t:Int)<=xs.length:=ox
 have T:=Qa<|show Nat.log2 xs.length=k from Qde ox e.o (by rw[E.o,D.o];omega);have:0<xs.length:=ox
 go_wp2_with ((at_make;refine Qlk rfl _ _ 362 rfl 364 Np Ng .i64 .i64 xs.length rfl rfl ox ?_;intro e d l));have⟨o,g⟩:=qx w.heap.size;have F:=Qa (ox:w.heap.size<=o);rw[g]at d ⊢;have⟨B,e⟩:=qb d l
 go_loopg [28] xs.length (fun M q wr=>rM w xs o M q wr)
 ·exact⟨0,ox,ox,rfl,by simpa[RF]using B,e⟩
 obtain⟨d,y,hi,rfl,m,v⟩:=hrel;have x:=Qa y
 by_cases hlt:d<xs.length
 ·have X:(d:Int)<xs.length:=ox
  have⟨p,g⟩:=qy xs d hlt;have c0:=(C.o.kZ v.o).int g;obtain⟨e,e⟩:=L.o p<|QB g;have hz:(RF xs d++List.replicate (xs.length-d) (0,0))[d]?=some (0,0):=by rw[Zm (by rw[Fr];exact Qk _),Fr,ZM,V1,Qg ox]
  have I:wr.cell? ⟨o,d*2,none⟩=some (.int .i64 0):=m.o.aZ (Ds hz).1;have J:wr.cell? ⟨o,d*2+1,none⟩=some (.int .i64 0):=m.o.aZ (Ds hz).2;have U:=m.o.free<|d*2;have V:=m.o.free<|d*2+1;have⟨C,e⟩:=qb (Qfr xs d p g xs.length hlt) (by unfold YI;rw[Int.max_def];split<;>split<;>omega:YI p=max p 1)
  go_wp2
  go_roundg (xs.length-(d+1))
  ·have l:=(m.o.put (d*2)<|.int .i64 (-YI p)).put (d*2+1) (d:Int);rw[nW _ d (-YI p,(d:Int)),C.o]at l;have G:=(v.o.setCell (p:=⟨o,d*2,none⟩) (.inr F.o)<|.int .i64 (-YI p)).setCell (p:=⟨o,d*2+1,none⟩) (.inr F.o) (d:Int);rw[e.o]at l G;exact⟨d+1,ox,ox,sx,Qa l,Qa G⟩
  have:=x.o;omega
 obtain rfl:d=xs.length:=ox
 have Y:¬(xs.length:Int)<xs.length:=ox
 have H:=m.o;rw[ZM,Dz,XX]at H;have P:∀i∈RF xs xs.length,Rb i:=by
  intro i A;obtain⟨e,C,rfl⟩:=QA.1 A;rw[ZR]at C;have O:=jH<|Qj C;have l:=L.o xs[e] (Yc _);have G:YI xs[e]<=1073741824:=by unfold YI;split<;>omega
  unfold Rb;simp only;omega
 have A:=Qa<|Qi0 o xs.length xs.length (RF xs xs.length) wr H (Fr _ _) ox P;go_wp2_with fail;go_fit A.o;rintro O S⟨rfl,R,O,z,l,L⟩;have⟨H,P,G⟩:=qc (Qi5 O z) l<|v.o.trans L (by intro p g;simp at g;subst g;exact .inr F.o);have W:o<S.heap.size:=l.lt (yx l.1) o (by simp[fZ]);go_wp2_with ((at_make;refine Jp rfl _ _ 51 rfl 3 (0:Int) 8 XP XZ rfl .i64 .i64 _ _ xs.length xs.length rfl rfl rfl rfl (Qk _) ox (by simp only[maxLen];omega) ?_;intro l F L));rw[show List.replicate xs.length (Value.int .i64 0)=Qi (VE (Z0 xs) 0)by rw[Qfh,JH];simp[Qi]]at F;have⟨l,Q⟩:=qx S.heap.size;have A:=Qa<|show w.heap.size<=l/\o≠l from⟨yx G.o.size,ox⟩;rw[Q]at F ⊢;have⟨B,z,O⟩:=qc F (P.o.kZ L) (G.o.trans L sx)
 go_loopg [48] xs.length (fun M q wr=>rO w xs o l R M q wr)
 ·exact⟨0,ox,ox,rfl,z,B,O⟩
 obtain⟨d,y,hi,rfl,z,m,v⟩:=hrel;have x:=Qa y
 by_cases hlt:d<xs.length
 ·have X:(d:Int)<xs.length:=ox
  obtain⟨B,o⟩:∃i,R[d]?=some i:=⟨_,Qj (by rw[H.o.len,JH];exact hlt)⟩;obtain⟨e,y,C,L⟩:=H.o.at_ d B o;rw[JH]at C;obtain⟨I,J⟩:=z.o.tree o;rw[Zu]at I J;rw[y]at J;obtain⟨wt,G⟩:∃q,B.1=q:=⟨_,rfl⟩;rw[G]at I;have:(e:Int)<xs.length:=ox
  have B:=Qa (fun q (F:RB xs.length d=q)=>show(VE (Z0 xs) d).set e q=VE (Z0 xs) (d+1)by
   have:=Qfg H.o o y;rw[JH,F]at this;exact this)
  have F:RB xs.length d=k+if t-xs.length<=d then 1 else 0:=by unfold RB;rw[T.o,E.o,D.o]
  have q:=Qa F;obtain⟨D,hz⟩:∃D,(VE (Z0 xs) d)[e]?=some D:=⟨_,Qj (by rw[Ls,JH];exact C)⟩;have c0:=m.o.aZ<|Cj hz;have U:=m.o.free e;have:l<wr.heap.size:=m.o.lt l (by simp[Qd,qo]);have C:=Qa (Qy.1 hz).1;have c1:=(m.o.put e (k:Int)).aZ (j:=e) (u:=.int .i64 (k:Int)) (by rw[FU (by rw[QF];exact C.o)]);have V:=(m.o.put e (k:Int)).free e
  by_cases y:t-xs.length<=d
  ·have C:(t:Int)-xs.length<=(d:Int):=ox
   go_wp2
   go_roundg (xs.length-(d+1))
   ·have hk:Qb [l] wr (((wr.setCell ⟨l,e,none⟩ (k:Int)).setCell ⟨l,e,none⟩<|.int .i64 (i:Int)).alloc<|.cells #[wt,(e:Int)] 364):=
     (((Qc [l] wr).setCell (p:=⟨l,e,none⟩) sx _).setCell (p:=⟨l,e,none⟩) sx _).alloc _
    have o:=((m.o.put e (k:Int)).put e<|.int .i64 (i:Int)).alloc<|.cells #[wt,(e:Int)] 364;rw[List.set_set,<-Bz,B.o i (by rw[q.o,Qg y];exact E.o)]at o;exact⟨d+1,ox,ox,sx,Qa<|z.o.kept hk (by intro p g s;simp[fZ]at g s;subst g;exact A.o.2 s),Qa o,Qa<|v.o.trans hk (by intro p g;simp at g;subst g;exact .inr A.o.1)⟩
   have:=x.o;omega
  have C:¬(t:Int)-xs.length<=(d:Int):=ox
  go_wp2
  go_roundg (xs.length-(d+1))
  ·have hk:Qb [l] wr ((wr.setCell ⟨l,e,none⟩ (k:Int)).alloc<|.cells #[wt,(e:Int)] 364):=
    ((Qc [l] wr).setCell (p:=⟨l,e,none⟩) sx _).alloc _
   have o:=(m.o.put e (k:Int)).alloc<|.cells #[wt,(e:Int)] 364;rw[<-Bz,B.o k (by rw[q.o,Qf y];rfl)]at o;exact⟨d+1,ox,ox,sx,Qa<|z.o.kept hk (by intro p g s;simp[fZ]at g s;subst g;exact A.o.2 s),Qa o,Qa<|v.o.trans hk (by intro p g;simp at g;subst g;exact .inr A.o.1)⟩
  have:=x.o;omega
 obtain rfl:d=xs.length:=ox
 have Y:¬(xs.length:Int)<xs.length:=ox
 have d:=Qa (show(Y9<|Z0 xs).length=xs.length by rw[GE,JH]);have e:=Qa (show VE (Z0 xs) xs.length=Y9 (Z0 xs)by
  have:=Qff<|Z0 xs;rwa[JH]at this)
 go_wp2
 go_ret2;have h:=m.o;rw[e.o,<-d.o]at h;exact⟨some ⟨l,0,none⟩,_,by rw[d.o];rfl,h,v.o,by intro p g;simp[fZ]at g;subst g;exact A.o.1⟩
def EG(xs:LI)(c:Int)(p:LN × Nat):Prop:=
 ((YA xs&&By c)=false/\p=([],2))\/((YA xs&&By c)=true/\p.2=0/\∃d,d<=39/\EF c.toNat d (Z0 xs) p.1)
def GQ(xs d):∃p,EG xs d p:=by
 cases h:(YA xs&&By d)with
 |false=>exact⟨_,.inl ⟨h,rfl⟩⟩
 |true=>
  rw[Xt]at h;obtain⟨c,e⟩:=h;unfold By at e;rw[ZE]at e;obtain⟨e,e,e⟩:=Fm c;obtain⟨j,i,e,g⟩:=fY d.toNat ox 30 (Z0 xs) (fun e d=>(Px c e d).1) (by rw[JH];omega) (by rw[JH];omega) (fun e d=>by have:=(Px c e d).2;omega);exact⟨(i,0),.inr ⟨by rw[c];unfold By;simp;omega,rfl,j,ox,g⟩⟩
def Qlh(a c xs d p w)(h:Qp w 1 a xs.length (QO xs))(j:xs.length<=17592186043904)(hp:EG xs d p):
 Calls prog 253 #[.slice a xs.length c,d] w (Y8 p w):=by
 rcases hp with⟨e,rfl⟩|⟨e,g,l,i,i⟩
 ·exact Qli a c xs d w h j e
 obtain⟨j,m⟩:=p;simp only at g i;subst g;rw[Xt]at e;obtain⟨g,h6⟩:=e;unfold By at h6;rw[ZE]at h6;have:=Qlj a c xs d.toNat l j w h g ox ox i;rwa[show((d.toNat:Nat):Int)=d by omega]at this
def EG.ok{xs c p}(h:EG xs c p)(h0:p.2=0):YA xs=true/\p.1.length=xs.length/\(∀x∈p.1,1<=x/\(x:Int)<=c/\x<=20)/\Br (p.1.map fun n:Nat=>(n:Int))=true:=by
 rcases h with⟨c,rfl⟩|⟨c,d,n,d,e⟩
 ·simp at h0
 rw[Xt]at c;obtain⟨d,h6⟩:=c;unfold By at h6;rw[ZE]at h6;obtain⟨k1,k2,k3⟩:=fX e;rw[JH]at k1;obtain⟨c,c,c⟩:=Fm d;have k4:=k3 20 ox;have k5:=gE ox k4;refine⟨d,k1,fun x c=>⟨k5 x c,yx (k2 x c),yx (k2 x c)⟩,?_⟩;unfold Br Vm;have d:QE (p.1.map fun n:Nat=>(n:Int))=p.1:=by
  simp only[QE,Xv]
  conv=>rhs;rw[<-Ex p.1]
  apply YT;intro x _;simp
 have e:JU (p.1.map fun n:Nat=>(n:Int))=true:=by unfold JU;rw[Xt,Yb,QH];refine⟨zx,fun g g=>?_⟩;obtain⟨x,c,rfl⟩:=QA.1 g;have a:=k5 x c;have b:=k2 x c;rw[ZE];omega
 rw[e,Qg rfl,d,ZE];have c:K.room p.1=(p.1.map fun x=>2^(20-x)).sum:=rfl;rw[c,k4]
def KL(xs:LI):LN × Nat:=if YA xs then(Y9 (Z0 xs),0)else([],2)
def oR(a c xs w)(h:Qp w 1 a xs.length (QO xs))(d:xs.length<=17592186043904):
 Calls prog 254 #[.slice a xs.length c] w (Y8 (KL xs) w):=by
 unfold KL;cases hm:YA xs with
 |false=>exact Qld a c xs w h d hm
 |true=>exact Qle a c xs w h hm
namespace K
end K
