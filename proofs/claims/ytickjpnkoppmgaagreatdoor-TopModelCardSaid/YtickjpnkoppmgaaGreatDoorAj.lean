import Derived.Test.YtickjpnkoppmgaaGreatDoorAi
set_option linter.all false
namespace Go.Proofs.YtickjpnkoppmgaaGreatDoor
open Go.Proofs.Tryz Go.RowKit K
def CH(T:List LI)(P:LI)(i:Nat)(w:WD)(e:Ending)(w':WD):Prop:=
 ∃h d g c,e=.returned (.tuple #[ZL h T d g P c,(i:Nat)])/\XI w' h g d c T P/\Qb [] w w'/\T.length<=d/\P.length<=c
def XJ.nil(w):XJ w none 0 []:=⟨[],⟨rfl,fun c d c=>by simp at c⟩,⟨rfl,fun c d r c=>by simp at c⟩⟩
def XI.nil(w):XI w none none 0 0 [] []:=⟨XJ.nil w,⟨rfl,fun c c c=>by simp[QO]at c⟩,sx,sx,sx⟩
def Ri(xs:LI)(n i:Nat):LN:=(List.range n).map fun c:Nat=>(xs.take i).count (c:Int)
def BY(xs n i):(Ri xs n i).length=n:=by simp[Ri]
def xJ(xs n):Ri xs n 0=List.replicate n 0:=by
 unfold Ri;apply XB;intro d
 by_cases c:d<n
 ·simp[Xl c,c]
 rw[QU zx,QU zx]
def NL(xs n i s)(h:s<n):(Ri xs n i)[s]?=some ((xs.take i).count (s:Int)):=by simp[Ri,Xl h]
def xH(xs n i):∀c∈Ri xs n i,c<=i:=by intro c d;obtain⟨e,-,rfl⟩:=QA.1 d;have:=Ih (a:=(e:Int)) (l:=xs.take i);have:=Tj i xs;omega
def xI(xs)(n i x:Nat)(c:xs[i]?=some (x:Int)):(Ri xs n i).set x ((xs.take i).count (x:Int)+1)=Ri xs n (i+1):=by
 apply XB;intro d;rw[Je]
 by_cases hs:d<n
 ·rw[NL _ _ _ _ hs,NL _ _ _ _ hs,Zh,c,List.count_append]
  by_cases c:x=d
  ·subst c;rw[Qg rfl,Qg<|by rwa[BY]];simp
  rw[Qf c];have:¬((x:Int)=d):=ox
  simp[this]
 by_cases c:x=d
 ·subst c;rw[Qg rfl,Qf (by rw[BY];omega),QU (by rw[BY];omega)]
 rw[Qf c,QU (by rw[BY];omega),QU (by rw[BY];omega)]
def UL(xs:LI)(n:Nat):LI:=(Ri xs n xs.length).map fun c:Nat=>(c:Int)
def RC(xs:LI)(n:Nat):LI:=(Y9 (Z0 (UL xs n))).map fun c:Nat=>(c:Int)
def AI(xs:LI):LI:=(List.replicate (ZP xs.length) 0)
def BZ{xs n}(h:Ym xs n=true):YA (UL xs n.toNat)=true/\3<=n/\n<=258/\1<=xs.length/\xs.length<=1638350/\∀s∈xs,0<=s/\s<n:=by
 unfold Ym at h;rw[Xt,Xt,ZE,ZE,Yb]at h;obtain⟨⟨⟨c,d⟩,e,g⟩,i⟩:=h;refine⟨?_,c,d,e,g,fun s hs=>by have:=i s hs;rwa[ZE]at this⟩;have c:(UL xs n.toNat).length=n.toNat:=by simp[UL,BY]
 unfold YA;rw[c,XE (ox:2<=n.toNat),XE (ox:n.toNat<=258),Rt,Rt,Yb];intro c e;obtain⟨c,d,rfl⟩:=QA.1 e;have:=xH _ _ _ c d;rw[ZE];omega
def pQ(w0:WD)(xs:LI)(n g d:Nat)(k:Nat)(v:VL)(wr:WD):Prop:=
 ∃c:Nat,k=xs.length-c/\c<=xs/\v=.int .i64 (c:Nat)/\Hid (Qh wr 3 (.slice g n n) (Qi (Ri xs n c)))/\Hid (Qe wr d 255 [(),()])/\Hid (Qb [] w0 wr)
set_option maxHeartbeats 1000000 in
def Qa7(a c xs)(n:Nat)(w)(h:Qp w 1 a xs.length (QO xs))(m:Ym xs (n:Int)=true):
 Calls prog 205 #[.slice a xs.length c,(n:Int)] w (CH [RC xs n,RC xs n] (AI xs) 0 w):=by
 obtain⟨g,d,d,d,d,j⟩:=BZ m;rw[ZH]at g;have hk:Qb [] w (w.alloc<|.cells #[(),()] 255):=(Qc _ _).alloc _;have i:=Qx w [(),()] 255;have d:=KO a c xs (n:Int) _ (h.kZ hk) ox;rw[m]at d;have z:=Qa<|h.kZ hk;obtain⟨b,off,rfl,-⟩:=h.at (by rw[Xx];omega);have⟨o,e,D,F⟩:=qd hk i j g;go_enter func205,ntmps205;go_wp2_with fail;go_fit d;rintro v g⟨rfl,rfl⟩;have⟨j,d⟩:=qx<|w.alloc<|.cells #[(),()] 255;rw[d]at z o e ⊢;go_wp2_with ((at_make;refine Jp rfl _ _ 51 rfl 3 (0:Int) 8 XP XZ rfl .i64 .i64 _ _ n n rfl rfl rfl rfl (Qk _) ox (by simp only[maxLen];omega) ?_;intro d i g));rw[show List.replicate n (Value.int .i64 0)=Qi (Ri xs n 0)by rw[xJ];simp[Qi]]at i;have⟨d,y⟩:=qx j.heap.size;have x:=Qa<|show w<=d/\w≠d from⟨yx o.o.size,yx e.o.lt⟩;rw[y]at i ⊢;have⟨u,t,s,q,E⟩:=qe i (o.o.trans g sx) (e.o.kept g sx) (g.mono (T:=[d]) sx) (by intro e o;simp at o;omega:Qu j [d])
 go_loopg [22] xs (fun k g wr=>Hid (Qb [d] j wr)/\pQ w xs n d w k g wr)
 ·exact⟨q,0,ox,ox,rfl,u,s,t⟩
 obtain⟨q,g,hk,hi,rfl,t,y,A⟩:=hrel;have B:=Qa hk
 by_cases hlt:g<xs
 ·have:(g:Int)<xs.length:=ox
  have⟨e,o⟩:=qy xs g hlt;obtain⟨C,i⟩:=D.o e<|QB o;obtain⟨e,rfl⟩:=Yu C;have i:e<n:=ox
  have c0:=(z.o.keptF q.o E.o).int o;have c1:=t.o.aZ<|BB<|NL xs n g e i;have O:=t.o.free e;have⟨i,u⟩:=qx<|(xs.take g).count (e:Int);have:i<=1638350:=by have s:=Ih (a:=(e:Int)) (l:=xs.take g);have z:=Tj g xs;omega
  rw[u]at c1;have⟨E,D⟩:=qb (xI xs n g e o) u
  go_wp2
  go_roundg (xs.length-(g+1))
  case measure=>have:=B.o;omega
  have s:=t.o.put e<|.int .i64 ((i+1:Nat):Int);have o:=E.o;rw[D.o]at o;have v:(Qi<|Ri xs n g).set e (.int .i64 ((i+1:Nat):Int))=Qi (Ri xs n<|g+1):=by rw[<-o];simp[Qi,BU]
  rw[v]at s;have o:Qb [d] wr (wr.setCell ⟨d,e,none⟩<|.int .i64 ((i+1:Nat):Int)):=(Qc [d] wr).setCell (p:=⟨d,e,none⟩) sx _;exact⟨Qa<|q.o.trans o fun u i=>.inl i,g+1,ox,ox,sx,Qa s,Qa<|y.o.kept o (by simp;exact x.o.2),Qa<|A.o.trans o (by intro u i;simp at i;subst i;exact .inr x.o.1)⟩
 obtain rfl:g=xs:=ox
 have:¬(xs:Int)<xs.length:=ox
 have g:(UL xs n).length=n:=by simp[UL,BY]
 have e:Qp wr 1 (some ⟨d,0,none⟩) (UL xs n).length (QO<|UL xs n):=by rw[g];have:=t.o.sZ;rwa[Dd]at this
 have o:=oR (some ⟨d,0,none⟩) n (UL xs n) wr e ox;unfold KL at o;rw[F.o,Qg rfl,g]at o;have H:=Qa e;have C:=Qa g;have D:=Qa (show(Y9<|Z0<|UL xs n).length=n by rw[GE,JH,g]);go_wp2_with fail;go_fit o;rintro v L⟨a3,c3,rfl,B,q,I⟩;simp only at B;have J:=Qa (show Qq (fZ a3) [w.heap.size]by
  intro u i x;simp at x;have s:=I u i;have z:=y.o.lt;omega)
 have G:=Qa B;have E:=Qa (A.o.trans q sx);have t:=Qa (y.o.kept q sx);have e:=H.o.kZ q;have g:=oR (some ⟨d,0,none⟩) n (UL xs n) L e (by rw[C.o];omega);unfold KL at g;rw[F.o,Qg rfl,C.o]at g;go_wp2_with fail;go_fit g;rintro v e⟨a4,o,rfl,q,d,y⟩;simp only at q;have L:=Qa (show Qq (fZ a4) [w.heap.size]by
  intro u i x;simp at x;have s:=y u i;have z:=t.o.lt;omega)
 have⟨H,F,M,C⟩:=qd q (G.o.kept d sx) (E.o.trans d sx) (t.o.kept d sx);rw[D.o]at H F ⊢;have g:=fun j=>Og xs j ox
 have q:ZP xs.length<=32767:=by unfold ZP;omega
 have j:=Qa<|show ZP xs=ZP xs from rfl;have⟨d,m⟩:=qx<|ZP xs;have t:=Qa m;rw[m]at g q;go_wp2_with fail;go_fit(g _);rintro v j⟨rfl,rfl⟩;have m:Qb [] e (e.alloc<|.cells #[.slice a3 n c3,.slice a4 n o] 51):=(Qc _ _).alloc _;have j:=Qx e [.slice a3 n c3,.slice a4 n o] 51;have⟨q,v⟩:=qx<|e.alloc<|.cells #[.slice a3 n c3,.slice a4 n o] 51;rw[v]at m j ⊢;have⟨y,I⟩:=qb m j;go_wp2_with ((at_make;refine Jp rfl _ _ 51 rfl 3 (0:Int) 8 XP XZ rfl .i64 .i64 _ _ d d rfl rfl rfl rfl (Qk _) ox (by simp only[maxLen];omega) ?_;intro m B A;have g:=Qa ((C.o.kept y.o sx).kept A sx);have:m.cell? w=some ():=g.o.cq 0;have:m.cell? ⟨w.heap.size,1,none⟩=some ():=g.o.cq 1;have:=g.o.free 0;have O:=g.o.free 1));have⟨j,v⟩:=qx q.heap.size;rw[v]at B ⊢;rw[show List.replicate d (Value.int .i64 0)=QO (AI xs)by unfold AI;rw[t.o];simp[QO]]at B;have v:(AI xs).length=d:=by unfold AI;rw[t.o];simp
 have s0:=((g.o.set 0<|.slice e 2 2).set 1<|.slice (some ⟨j,0,none⟩) d d).cq 0 (u:=.slice e 2 2);have s1:=((g.o.set 0<|.slice e 2 2).set 1<|.slice (some ⟨j,0,none⟩) d d).cq 1 (u:=.slice (some ⟨j,0,none⟩) d d);refine Zj (v:=.tuple #[ZL e 2 2 (some ⟨j,0,none⟩) d d,(0:Int)]) (by simp[results,results205,go_sem,ZL,s0,s1]) rfl ?_;have t:Qb [w.heap.size] m ((m.setCell ⟨w.heap.size,0,none⟩<|.slice e 2 2).setCell ⟨w.heap.size,1,none⟩<|.slice (some ⟨j,0,none⟩) d d):=((Qc [w.heap.size] m).setCell (p:=w) sx _).setCell (p:=⟨w.heap.size,1,none⟩) sx _;have G:Qb [] e m:=y.o.trans A sx;have E:(RC xs n).length=n:=by unfold RC;rw[QH];exact D.o
 have D:∀q g,Qh e 3 (.slice q n g) (Qi<|Y9<|Z0<|UL xs n)->n<=g/\g<=maxLen/\Qp m 1 q n (QO<|RC xs n):=by intro q g g;have q:=g.len;obtain⟨a2,c2,O,s,z,s,-⟩:=g.sees;injection O with s e2 e3;subst e3;refine⟨ox,z,?_⟩;have s:=g.sZ.kZ G;rwa[Dd]at s
 have hne:w.heap.size<e.heap.size:=C.o.lt;obtain⟨O,q2,C⟩:=D a3 c3 F.o;obtain⟨F,P,Q⟩:=D a4 o H.o;have⟨s,z⟩:=qx<|(m.setCell ⟨w.heap.size,0,none⟩<|.slice e 2 2).setCell ⟨w.heap.size,1,none⟩<|.slice (some ⟨j,0,none⟩) d d;rw[z]at t ⊢;have z:=C.kept t J.o;have f6:=Q.kept t L.o;have C:Qe s e 51 [.slice a3 n c3,.slice a4 n o]:=(I.o.kept A sx).kept t zx;have A:Qp s 1 (some ⟨j,0,none⟩) d (QO<|AI xs):=by refine B.sZ.kept t ?_;intro u i x;simp[fZ]at i x;have:=y.o.size;omega
 have u:Qb [] w s:=(M.o.trans G sx).trans t sx;have t:XJ s e 2 ([RC xs n,RC xs n].map QO):=by
  refine⟨[.slice a3 n c3,.slice a4 n o],⟨rfl,fun m s i=>⟨_,_,rfl,?_⟩⟩,rfl,fun m s r i g=>?_⟩
  ·rw[Zu];exact C.cell i
  have q:(QO<|RC xs n).length=n:=by rw[Xx];exact E
  match m,i,g with
  |0,i,g=>simp at i g;subst i;subst g;exact⟨a3,c3,by rw[q],by rwa[q],by rw[q];exact O,q2⟩
  |1,i,g=>simp at i g;subst i;subst g;exact⟨a4,o,by rw[q],by rwa[q],by rw[q];exact F,P⟩
  |m+2,i,g=>simp at i
 refine⟨some ⟨e.heap.size,0,none⟩,2,some ⟨j,0,none⟩,d,by rw[v];rfl,⟨t,by rw[v];exact A,sx,by rw[v];omega,?_⟩,u,sx,by rw[v];exact Qk _⟩;intro d d;simp at d;rw[d,E];omega
