import Derived.Test.YtickjpnkoppmgaaGreatDoorAg
set_option linter.all false
namespace Go.Proofs.YtickjpnkoppmgaaGreatDoor
open Go.Proofs.Tryz Go.RowKit K
def Nd:(prog.info? 204).map (fun i=>(i.zero,i.size,i.bytes))=some (some<|.agg #[.string ⟨#[]⟩,(0:Int)],2,24):=by kernel_rfl
def AS(T:List LI)(P:LI)(k:Nat):List (BA × Int):=(⟨(Qw (JF T P)).toArray⟩,((JF T P).length:Nat))::(T.take k).map fun c=>(⟨(Qw (Q7 c)).toArray⟩,((Q7 c).length:Nat))
def PE(T P k):YM (AS T P k)=AT T P k:=by simp[YM,AS,AT,FL]
def Mo(p:LU × Int × Nat)(w:WD)(e:Ending)(w':WD):Prop:=e=.returned (Zk p)/\Qb [] w w'
def sR(w0 W:WD)(T:List LI)(P:LI)(b g c:Nat)(k:Nat)(v:VL)(wr:WD):Prop:=
 ∃(c:Nat)(e:LB)(h:VL)(d:LN),k=P.length-c/\c<=P/\v=.int .i64 (c:Nat)/\e<=100+7*c/\Hid (Wr wr b h e)/\Hid (QJ wr g (Qi d))/\Hid (d.length=T.length/\∀i,i∈d↔i<T.length)/\
  Hid (JF T P=e++Ui d ((QE P).drop c))/\Hid (Qq (b::Qd h) [g])/\Hid (Qb [] W wr)/\Hid (Qu W (b::Qd h))/\Hid (W<=g)
def sS(W:WD)(i:LN)(h:LB)(b e g:Nat)(k:Nat)(v:VL)(wr:WD):Prop:=
 ∃(c:Nat)(d:VL),k=g-c/\c<=g/\v=.int .i64 (c:Nat)/\Hid (Wr wr b d (h++List.replicate c true))/\Hid (QJ wr e (Qi i))/\Hid (Qq (b::Qd d) [e])/\Hid (Qb [] W wr)/\Hid (Qu W (b::Qd d))
def sU(W:WD)(T:List LI)(P:LI)(m:Nat)(v9 v:VL)(wr:WD):Prop:=
 ∃(k:Nat)(a:OA)(c:Nat),m=T.length-k/\k<=T/\v9=.slice a (k+1) c/\v=.int .i64 (k:Nat)/\Hid (Qm wr 204 2 (.slice a (k+1) c) (k+1) (YH (AS T P k)))/\Hid (Qb [] W wr)/\Hid (Qu W (fZ a))
def Qm.two(w:WD)(u v e):Qm (w.alloc<|.cells #[u,v] e) e 2 (.slice w.heap.size 1 1) 1 [u,v]:=
 ⟨rfl,.inr ⟨w.heap.size,1,#[u,v],rfl,Zv _,Xq w _,Qk _,by simp[maxLen],rfl,rfl⟩⟩
set_option maxRecDepth 100000 in
set_option maxHeartbeats 2000000 in
def eA(i d j e T P w)(h:XI w i d j e T P)(l:Xz T P=true):
 Calls prog 166 #[ZL i T.length j d P.length e] w (Mo (BG T P) w):=by
 have h9:=Qa (by unfold BG;rw[l];rfl:BG T P=(Qw<|Zx T P,(((Zx T P).length:Nat):Int),0));obtain⟨c,c,v,p⟩:=Af l;have⟨X,Q,h4,Y⟩:=qd v p (KW l)<|Qr (Qgk l)<|Qgj l;have hk:Qb [] w ((w.alloc<|.cells #[.slice i T j,.slice d P e] 255).alloc<|.cells #["",(0:Int)] 204):=((Qc [] w).alloc _).alloc _;have m:Qe ((w.alloc<|.cells #[.slice i T j,.slice d P e] 255).alloc<|.cells #["",(0:Int)] 204) w 255 [.slice i T j,.slice d P e]:=
  (Qx w [.slice i T j,.slice d P e] 255).kept ((Qc [] _).alloc _) sx
 have o:Qe ((w.alloc<|.cells #[.slice i T j,.slice d P e] 255).alloc<|.cells #["",(0:Int)] 204) (w.heap.size+1) 204 ["",(0:Int)]:=by have h:=Qx (w.alloc<|.cells #[.slice i T j,.slice d P e] 255) ["",(0:Int)] 204;rwa[show(w.alloc<|.cells #[.slice i T j,.slice d P e] 255).heap.size=w.heap.size+1 by simp]at h
 have c:=h.kept hk;unfold ZL;generalize g:(w.alloc<|.cells #[.slice i T j,.slice d P e] 255).alloc (.cells #["",(0:Int)] 204)=W at hk m o c;have n:=GG i d j e T P W c.tabs c.picks c.tl c.pl c.rl;rw[l]at n;unfold ZL at n;subst g;have b0:=m.cq 0 (u:=.slice i T j);have x:=m.cq 1 (u:=.slice d P e);have q:=Qa m;have g:=Qa hk;have s:=Qa o;have t:=Qa c;clear hk m o c h l v p;go_enter func166,ntmps166;go_wp2_with fail;go_fit n;rintro p J⟨rfl,c⟩;have h8:=Qa (g.o.trans c sx);have E:=Qa (q.o.kept c sx);have h2:=Qa (s.o.kept c sx);have M:=Qa<|t.o.kept c;clear c n b0 x q s g t;go_wp2_with fail;go_fit(DX _);rintro p n⟨b,rfl,m,c,l⟩;have v:=Qa c;have s:=Qa l;have c0:=(E.o.kept c sx).cq 0 (u:=.slice i T j);have z:=RH b (T:Int) 3 () [] n ox ox ox zx sx m;have C:=Qa z;clear c l m z;go_wp2_with fail;go_fit C.o;rintro p x⟨rfl,c,q,o,m⟩;have n:=Qa<|v.o.new o s.o;have t:=Qa<|s.o.grow m v.o.size;have c1:=(E.o.kept n.o sx).cq 1 (u:=.slice d P e);have l:=RH b (P:Int) 15 c _ x ox ox ox zx (by simp[Yl]) q;have c:=Qa l;clear o m q l C c0;go_wp2_with fail;go_fit c.o;rintro p x⟨rfl,L,o,m,l⟩;have q:=Qa<|n.o.new m t.o;have H:=Qa<|t.o.grow l n.o.size;have y:=Qa o;have c0:=(E.o.kept q.o sx).cq 0 (u:=.slice i T j);clear m l o c c1;go_wp2_with fail;go_fit(dX T x ox);rintro p c⟨A,rfl,I,D,O⟩;have x:=Qa (q.o.trans D sx);have B:=Qa (y.o.kept D<|by simp[Qq]);have F:=Qa I.blk;have o:=Qa (show Qq (b::Qd L) [A]by
  intro c l m;simp only[Zb]at m;have:=y.o.lt c l;omega)
 have G:=Qa (by have:=q.o.size;omega:J<=A);have c1:=(E.o.kept x.o sx).cq 1 (u:=.slice d P e);clear D I O y q n v s t c0;go_wp2_with fail;rw[show([]:LB)++K.low (Int.toNat (T:Int)) (Int.toNat 3)++K.low (Int.toNat (P:Int)) (Int.toNat 15)=K.low T 3++K.low P 15 from rfl]at B
 go_loopg [38] P (fun k I wr=>sR w J T P b A T k I wr)
 ·exact⟨0,_,L,List.range T,ox,ox,rfl,by simp[Yl],B,F,Qa ⟨sx,fun c=>sx⟩,Qa (by unfold JF;rw[VJ,QR]),o,x,H,G⟩
 clear B F o x H G c1;obtain⟨y,V,H,q,hk,hi,rfl,d,D,x,L,S,o,g,B,G⟩:=hrel;have O:=Qa hk;clear hk
 by_cases hlt:y<P
 ·have x2:(y:Int)<P.length:=ox
  have⟨c,l⟩:=qy P y hlt;obtain⟨d,e⟩:=Q.o c<|QB l;obtain⟨c,rfl⟩:=Yu d;obtain⟨d,d,rfl,-⟩:=(M.o.kept g.o).picks.at (by rw[Xx];omega);have c0:=(M.o.kept g.o).picks.int l;have x1:=Qa l;clear l;obtain⟨d,rfl⟩:∃d:WD,d=wr:=⟨_,rfl⟩;go_wp2_with fail;have F:c∈q:=(L.o.2 c).2 ox;have⟨v,n⟩:=qx<|q.idxOf c;have U:v<q:=by rw[<-n];exact MA.2 F
  have Q:q[v]?=some c:=by rw[<-n,Qj<|MA.2 F,Im]
  have R:∀l,l<v->∀d,q[l]?=some d->d≠c:=by intro l t d e s;rw[<-n]at t;exact WZ c q l d t e s
  have⟨h5,Z,h3⟩:=qc n Q R;have h1:q.length=T.length:=L.o.1;clear F n Q R c0
  go_loopg [8] v (fun k I wr=>sS J q V b A v k I wr)
  ·exact⟨0,H,ox,ox,rfl,by simpa using D,x,o,g,B⟩
  clear D x o g B;obtain⟨l,H,hk,t,rfl,D,x,o,g,B⟩:=hrel;have x0:=Qa hk;clear hk;have⟨d,e⟩:=qy q l ox;have c0:=x.o.cell<|BB e;have:(l:Int)<T.length:=ox
  by_cases n:l<v
  ·have g1:((d:Int) != (c:Int))=true:=(by have:=h3.o l n d e;simp;omega);have z:=RH b 1 1 H _ wr ox ox ox dx zx D.o;have C:=Qa z;clear e z;go_wp2_with fail;go_fit C.o;rintro p n⟨rfl,R,Q,t,F⟩
   go_wp2
   go_roundg (v-(l+1))
   case measure=>have:=x0.o;omega
   refine⟨l+1,R,rfl,ox,sx,Qa ?_,Qa<|x.o.kept t fun m=>o.o A m sx,Qa ?_,Qa<|g.o.new t B.o,Qa<|B.o.grow F g.o.size⟩
   ·rw[FV,<-QR];exact Q
   intro d e m;simp only[Zb]at m;rcases F d e with h|h
   ·exact o.o d h (by simp[m])
   have:=x.o.lt;omega
  obtain rfl:l=v:=ox
  have v:d=c:=by have:=Z.o;rw[e]at this;injection this
  have g1:((d:Int) != (c:Int))=false:=by rw[v];simp
  have:=Qa v;have z:=RH b 0 1 H _ wr ox ox ox dx zx D.o;have C:=Qa z;clear e v z;go_wp2_with fail;go_fit C.o;rintro p n⟨rfl,R,Q,t,F⟩;have Z:=x.o.kept t (fun m=>o.o A m sx);have v:=Qa<|g.o.new t B.o;have h3:=Qa<|B.o.grow F g.o.size;have B:=Qa (show Qq (b::Qd R) [A]by
   intro d e m;simp only[Zb]at m;rcases F d e with h|h
   ·exact o.o d h (by simp[m])
   have:=x.o.lt;omega)
  have x0:=Qa Q;have z:=dV A T l q n U ox ox ox Z;rw[h1]at z;have A:=Qa z;clear t F Q Z z C;go_wp2_with fail;go_fit A.o;rintro p z⟨rfl,A,z⟩
  go_wp2
  go_roundg (P.length-(y+1))
  case measure=>have:=O.o;omega
  have F:(QE P)[y]?=some c:=by rw[QE,Zz,x1.o];rfl
  have C:(QE P).drop y=c::(QE P).drop (y+1):=by obtain⟨c,Q⟩:=Qy.1 F;rw[Xf c,Q]
  have s:=S.o;rw[C,Ui,h5.o]at s;refine⟨y+1,(V++List.replicate l true)++[false],R,K.turned q l,ox,ox,sx,zx,Qa<|x0.o.kept z B.o,Qa A,Qa ⟨by rwa[Ej _ _ U],fun c=>by rw[Hs _ _ U];exact L.o.2 c⟩,Qa ?_,B,Qa<|v.o.trans z (by intro c hz;simp at hz;subst hz;exact .inr G.o),h3,G⟩;rw[s];simp
 obtain rfl:y=P:=ox
 have F:¬(P:Int)<P.length:=ox
 have s:=S.o;rw[Jq (by rw[Vi];exact Qk _),Ui,XX]at s;have c:=Qa (by rw[s];exact D.o:Wr wr b H (JF T P));have:=h4.o;clear s S D x L o O;go_wp2_with fail;go_fit(Eg _ _ _ _ c.o);rintro p l⟨rfl,rfl⟩;go_wp2_with fail;go_fit(DT _ _ _ _ c.o);rintro p l⟨rfl,rfl⟩;have c0:=((E.o.kept g.o sx).kept ((Qc [] wr).alloc<|.cells #[.string ⟨(Qw<|JF T P).toArray⟩,((JF T P).length:Nat)] 204) sx).cq 0 (u:=.slice i T j);have:w.heap.size<wr.heap.size:=yx ((E.o.kept g.o sx).lt)
 go_wp2_with fail;have o:=Qm.two wr (.string ⟨(Qw<|JF T P).toArray⟩) ((JF T P).length:Nat) 204;have⟨j,i,l⟩:=qc (g.o.alloc<|.cells #[.string ⟨(Qw<|JF T P).toArray⟩,((JF T P).length:Nat)] 204) (by intro d e;simp[fZ]at e;have:=g.o.size;omega:Qu J (fZ<|some ⟨wr.heap.size,0,none⟩))<|show Qm (wr.alloc<|.cells #[.string ⟨(Qw<|JF T P).toArray⟩,((JF T P).length:Nat)] 204) 204 2 (.slice (some ⟨wr.heap.size,0,none⟩) (0+1) 1) (0+1) (YH<|AS T P 0)from o;clear o c0 c g
 go_loopg [9,67] T (fun k v9 I wr=>sU J T P k v9 I wr)
 ·exact⟨0,some ⟨wr.heap.size,0,none⟩,1,ox,ox,rfl,rfl,l,j,i⟩
 clear l j i;obtain⟨k,a9,z,hk,c,rfl,rfl,x,i,q⟩:=hrel;have O:=Qa hk;clear hk
 by_cases hlt:k<T
 ·have x2:(k:Int)<T.length:=ox
  have⟨c,g⟩:=qy T k hlt;obtain⟨j,j,ar,C,rfl,j,l,-⟩:=(M.o.kept i.o).tabs.int g;have j:=(X.o c<|QB g).2.2;have:=M.o.rl c<|QB g;have⟨A,y,B,o⟩:=qd (by unfold Cq;rw[Vc j];rfl:Cq c=(Qw<|Q7 c,(((Q7 c).length:Nat):Int),0)) g l<|Vc j;clear g l j;go_wp2_with fail;go_fit(yQ ar C c _ B.o ox o.o);rintro p n⟨rfl,t⟩;rw[A.o];unfold Zk;have v:=Qa (i.o.trans t sx);have g:Qb [] n (n.alloc<|.cells #[.string ⟨(Qw<|Q7 c).toArray⟩,.int .i64 ((Q7 c).length:Nat)] 204):=(Qc _ _).alloc _;have A:=Qm.kept (Qm.kept x.o t<|by simp[Qq]) g (by simp[Qq]);have j:=Qa (v.o.trans g sx);have:=Hi c<|Vc<|(X.o c<|QB y.o).2.2;clear t g
  go_upto_region 22 with(fail)
  have B:(n.alloc<|.cells #[.string ⟨(Qw<|Q7 c).toArray⟩,.int .i64 ((Q7 c).length:Nat)] 204).heap.size=n.heap.size+1:=sx
  have t:=Qx n [.string ⟨(Qw<|Q7 c).toArray⟩,.int .i64 ((Q7 c).length:Nat)] 204;have v:n.heap.size<(n.alloc<|.cells #[.string ⟨(Qw<|Q7 c).toArray⟩,.int .i64 ((Q7 c).length:Nat)] 204).heap.size:=sx
  have⟨g,o⟩:=qx<|n.alloc<|.cells #[.string ⟨(Qw<|Q7 c).toArray⟩,.int .i64 ((Q7 c).length:Nat)] 204;have l:Qe g n 204 [.string ⟨(Qw<|Q7 c).toArray⟩,.int .i64 ((Q7 c).length:Nat)]:=by rwa[<-o]
  rw[o]at A j v ⊢;have:=l.cq 0 (u:=.string ⟨(Qw<|Q7 c).toArray⟩);have:=l.cq 1 (u:=.int .i64 ((Q7 c).length:Nat));clear t l o B;go_wp2_with ((at_builtin;refine Rr g rfl _ _ 205 rfl 204 (.agg #["",(0:Int)]) 2 24 Wv Nd rfl dx (.slice a9 (k+1) z) (k+1) _ [.string ⟨(Qw<|Q7 c).toArray⟩,.int .i64 ((Q7 c).length:Nat)] rfl rfl rfl rfl (by simp[Value.oneCell']) A (by simp only[maxLen];omega) ox ?_;intro n l B v t o))
  go_roundg (T.length-(k+1))
  case measure=>have:=O.o;omega
  have s:YH (AS T P<|k+1)=YH (AS T P k)++[.string ⟨(Qw<|Q7 c).toArray⟩,.int .i64 ((Q7 c).length:Nat)]:=by simp[AS,YH,Zh,y.o]
  refine⟨k+1,some ⟨n,0,none⟩,l,ox,ox,rfl,sx,Qa ?_,Qa<|j.o.new t fun d e=>q.o d<|by rwa[X7]at e,Qa ?_⟩
  ·rwa[s]
  intro d e;simp[fZ]at e;subst e;rcases o with h|h
  ·rw[X7]at h;exact q.o _ h
  have:=j.o.size;omega
 obtain rfl:k=T:=ox
 have F:¬(T:Int)<T.length:=ox
 have d:(AS T P T).length=T.length+1:=by simp[AS]
 have e:=fD a9 z (AS T P T) wr (by rw[d];exact(Qm.sZ x.o).1) (by rw[PE];exact Y.o.1) (by rw[d];omega) (fun g j=>by have m:(g.1.data.toList,g.2)∈YM (AS T P T):=QA.2 ⟨g,j,rfl⟩;rw[PE]at m;exact Y.o.2 _ m);rw[d,PE]at e;have⟨j,g⟩:=qb e (h2.o.kept i.o sx);clear e d;have d:Ch (AT T P T)=(Qw<|Zx T P,(((Zx T P).length:Nat):Int),0):=by
  unfold Ch;rw[Qgi,Qg];rw[Yb];intro e hp;simp only[AT,QD,QA]at hp;rcases hp with rfl|⟨c,-,rfl⟩
  ·exact OZ _
  exact OZ _
 have l:=Qa d;have e:=g.o.cq 0 (u:=.string ⟨#[]⟩);clear d e;go_wp2_with fail;go_fit j.o;rintro p c⟨rfl,c⟩;rw[l.o];unfold Zk;have d:=g.o.kept c sx;obtain⟨e,e,e,e,s0,s1⟩:=d.six (.string ⟨(Qw<|Zx T P).toArray⟩) ((Zx T P).length:Nat);have e:=Qa ((h8.o.trans i.o sx).trans c sx);clear d c;go_wp2_with fail;refine Zj (v:=Zk (Qw<|Zx T P,(((Zx T P).length:Nat):Int),0)) (by simp[results,results166,go_sem,Zk,s0,s1]) rfl ?_;exact⟨by rw[h9.o],e.o.set2<|.inr sx⟩
def Qp.natD{w}{b off n i x:Nat}{xs}(h:Qp w 1 (some ⟨b,off,none⟩) n (Qi xs))(c:xs[i]?=some x):w.cell? ⟨b,off+i,none⟩=some (.int .i64 (x:Int)):=by rw[Dd]at h;exact h.int (by rw[Zz,c];rfl)
def qT(l:LN)(w:WD)(e:Ending)(w':WD):Prop:=
 ∃a c,e=.returned (.slice a l c)/\Qh w' 3 (.slice a l c) (Qi l)/\Qb [] w w'/\Qu w (fZ a)
def Cj{l}{i x:Nat}(h:l[i]?=some x):(Qi l)[i]?=some (.int .i64 (x:Int)):=by simp[Qi,h]
def Bz(l)(i x:Nat):Qi (l.set i x)=(Qi l).set i (x:Int):=by simp[Qi,BU]
def YI(x:Int):Int:=if 1<=x then x else 1
def Z0(xs:LI):LN:=xs.map fun c=>(YI c).toNat
def bG(x):1<=YI x:=by unfold YI;split<;>omega
def Qfm(xs):QO (xs.map YI)=Qi (Z0 xs):=by
 rw[Dd]
 congr 1
 simp only[Z0,Xv];apply YT;intro c _;have:=bG c;simp only[Function.comp];omega
def JH(xs):(Z0 xs).length=xs.length:=by simp[Z0]
def Px{xs}(h:YA xs=true):∀x∈Z0 xs,1<=x/\x<=1073741824:=by
 intro x c;obtain⟨e,d,rfl⟩:=QA.1 c;have:=(Fm h).2.2 e d;unfold YI
 split<;>omega
def Qfo{w:LN}(c:w.length<=258)(h:∀x∈w,1<=x/\x<=1073741824):w.sum<=1000000000000:=by have:=mY w 1073741824 fun x d=>(h x d).2;have:w.length*1073741824<=258*1073741824:=Be _ c;omega
def wL(xs:LI)(i x)(h:xs[i]?=some x):((xs.take i).map YI++xs.drop i).set i (YI x)=(xs.take<|i+1).map YI++xs.drop (i+1):=by
 obtain⟨hi,d⟩:=Qy.1 h;have c:((xs.take i).map YI).length=i:=zx
 rw[V2 _ _ ox,c,ZM,Xf hi,Vp,Bd hi,d];simp
def wK(xs:LI)(i x)(h:xs[i]?=some x):((xs.take i).map YI++xs.drop i)[i]?=some x:=by
 obtain⟨hi,c⟩:=Qy.1 h;have c:((xs.take i).map YI).length=i:=zx
 rw[Zm ox,c,ZM,Ut];simpa using h
def Qcg(l i)(x:Int):QO (l.set i x)=(QO l).set i x:=by simp[QO,BU]
def gS{ls:LN}{m}{c:Nat}(e:m∈ls.map fun n:Nat=>(n:Int))(g:∀x∈ls.map fun n:Nat=>(n:Int),x<=m):(m<=(c:Int))↔∀x∈ls,x<=c:=by
 constructor
 ·intro d x c;have:=g (x:Int)<|QA.2 ⟨x,c,rfl⟩;omega
 intro d;obtain⟨x,c,rfl⟩:=QA.1 e;have:=d x c;omega
def By(c:Int):Bool:=decide (12<=c/\c<=20)
def pN(w0:WD)(xs:LI)(e d:Nat)(g:Nat)(v:VL)(wr:WD):Prop:=
 ∃c:Nat,g=xs.length-c/\c<=xs/\v=.int .i64 (c:Nat)/\Hid (Qh wr 3 (.slice e xs d) (QO ((xs.take c).map YI++xs.drop c)))/\Hid (Qb [] w0 wr)
def qM(w0:WD)(N:Nat)(d:LN)(h e:Nat)(g:Nat)(v:VL)(wr:WD):Prop:=
 ∃c:Nat,g=N-c/\c<=N/\v=.int .i64 (c:Nat)/\Hid (Qh wr 3 (.slice h N e) (Qi (UB (d.take c)++d.drop c)))/\Hid (Qb [] w0 wr)
def jW{k n}(h:2^k<=n)(c:n<=258):k<=8:=by
 rcases Xw k 9 with c|c
 ·omega
 have:=Ju (n:=2) ox c;omega
def jH{xs i x}(h:xs[i]?=some x):(((Z0 xs).getD i 0:Nat):Int)=YI x:=by
 have c:(Z0 xs)[i]?=some (YI x).toNat:=by simp[Z0,h]
 have:=bG x;rw[List.getD,c,V9];omega
