import Derived.Test.YtickjpnkoppmgaaGreatDoorAi
set_option linter.all false
namespace Go.Proofs.YtickjpnkoppmgaaGreatDoor
open Go.Proofs.Tryz Go.RowKit K
def Cb(T:List LI)(P:LI)(f:Nat)(w:WD)(e:Ending)(w':WD):Prop:=
 ∃d b c a,e=.returned (.tuple #[QZ d T.length b c P.length a,(f:Nat)])∧Xv w' d c b a T P∧Qb [] w w'∧T.length≤b∧P.length≤a
def Xw.nil(w):Xw w none 0 []:=⟨[],⟨rfl,fun a b a=>by simp at a⟩,⟨rfl,fun a b a a=>by simp at a⟩⟩
def Xv.nil(w):Xv w none none 0 0 [] []:=⟨Xw.nil w,⟨rfl,fun a a a=>by simp[QM]at a⟩,by simp,by simp,by simp⟩
def VQ(xs:LI)(n i:Nat):LN:=(List.range n).map fun a:Nat=>(xs.take i).count (a:Int)
def Bw(xs n i):(VQ xs n i).length=n:=by simp[VQ]
def uA(xs n):VQ xs n 0=List.replicate n 0:=by
 unfold VQ;apply Xo;intro b
 by_cases a:b<n
 ·simp[Xa a,a]
 rw[QX (by simp;omega),QX (by simp;omega)]
def MF(xs n i s)(a:s<n):(VQ xs n i)[s]?=some ((xs.take i).count (s:Int)):=by simp[VQ,Xa a]
def tY(xs n i):∀c∈VQ xs n i,c≤i:=by intro c b;obtain⟨d,-,rfl⟩:=QB.1 b;have:=GJ (a:=(d:Int)) (l:=xs.take i);have:=PV i xs;omega
def tZ(xs)(n i x:Nat)(a:xs[i]?=some (x:Int)):(VQ xs n i).set x ((xs.take i).count (x:Int)+1)=VQ xs n (i+1):=by
 apply Xo;intro b;rw[YO]
 by_cases hs:b<n
 ·rw[MF _ _ _ _ hs,MF _ _ _ _ hs,Zt,a,List.count_append]
  by_cases a:x=b
  ·subst a;rw[Qg rfl,Qg<|by rwa[Bw]];simp
  rw[Qf a];have:¬((x:Int)=b):=by omega
  simp[this]
 by_cases a:x=b
 ·subst a;rw[Qg rfl,Qf (by rw[Bw];omega),QX (by rw[Bw];omega)]
 rw[Qf a,QX (by rw[Bw];omega),QX (by rw[Bw];omega)]
def Ul(xs:LI)(n:Nat):LI:=(VQ xs n xs.length).map fun a:Nat=>(a:Int)
def Re(xs:LI)(n:Nat):LI:=(YJ (ZP (Ul xs n))).map fun a:Nat=>(a:Int)
def Ae(xs:LI):LI:=(List.replicate (ZH xs.length) 0)
def Bx{xs n}(a:X2 xs n=true):Yc (Ul xs n.toNat)=true∧3≤n∧n≤258∧1≤xs.length∧xs.length≤1638350∧∀s∈xs,0≤s∧s<n:=by
 unfold X2 at a;rw[Xh,Xh,Zv,Zv,XO]at a;obtain⟨⟨⟨b,c⟩,d,e⟩,f⟩:=a;refine⟨?_,b,c,d,e,fun s hs=>by have:=f s hs;rwa[Zv]at this⟩;have a:(Ul xs n.toNat).length=n.toNat:=by simp[Ul,Bw]
 unfold Yc;rw[a,Xs (by omega:2≤n.toNat),Xs (by omega:n.toNat≤258),V1,V1,XO];intro a c;obtain⟨a,b,rfl⟩:=QB.1 c;have:=tY _ _ _ a b;rw[Zv];omega
def xU(a c xs n w)(e:Qp w 1 a xs.length (QM xs))(g:xs.length≤17592186043904)(f:X2 xs n=false):
 Calls prog 205 #[.slice a xs.length c,n] w (Cb [] [] 2 w):=by
 have hk:Qb [] w (w.alloc<|.cells #[.slice none 0 0,.slice none 0 0] 255):=(Qc _ _).alloc _;have b:=Qy w [.slice none 0 0,.slice none 0 0] 255;have d:=IU a c xs n _ (e.kZ hk) g;rw[f]at d;have h:(w.alloc<|.cells #[.slice none 0 0,.slice none 0 0] 255).cell? w=some (.slice none 0 0):=b.cell (i:=0) rfl;have j:(w.alloc<|.cells #[.slice none 0 0,.slice none 0 0] 255).cell? ⟨w.heap.size,1,none⟩=some (.slice none 0 0):=b.cell (i:=1) rfl;have g:=Qa hk;go_enter func205,ntmps205;go_wp2_with fail;refine d.mono ?_;rintro b b⟨rfl,rfl⟩;go_wp2_with fail;refine Q5 (v:=.tuple #[QZ none 0 0 none 0 0,(2:Int)]) (by simp[results,results205,go_sem,QZ,h,j]) rfl ?_;exact⟨none,0,none,0,rfl,Xv.nil _,g.o,by simp,by simp⟩
def mG(w0:WD)(xs:LI)(n g b:Nat)(k:Nat)(v:VL)(wr:WD):Prop:=
 ∃a:Nat,k=xs.length-a∧a≤xs.length∧v=.int .i64 (a:Nat)∧Hid (Qh wr 3 (.slice g n n) (Qi (VQ xs n a)))∧Hid (Qe wr b 255 [.slice none 0 0,.slice none 0 0])∧Hid (Qb [] w0 wr)
set_option maxHeartbeats 1000000 in
def xV(a c xs)(n:Nat)(w)(b:Qp w 1 a xs.length (QM xs))(h:X2 xs (n:Int)=true):
 Calls prog 205 #[.slice a xs.length c,(n:Int)] w (Cb [Re xs n,Re xs n] (Ae xs) 0 w):=by
 obtain⟨f,d,d,d,d,j⟩:=Bx h;rw[Zs]at f;have hk:Qb [] w (w.alloc<|.cells #[.slice none 0 0,.slice none 0 0] 255):=(Qc _ _).alloc _;have g:=Qy w [.slice none 0 0,.slice none 0 0] 255;have e:=IU a c xs (n:Int) _ (b.kZ hk) (by omega);rw[h]at e;have t:=Qa<|b.kZ hk;obtain⟨d,off,rfl,-⟩:=b.at (by rw[Xk];omega);have⟨i,d,y,A⟩:=qd hk g j f;go_enter func205,ntmps205;go_wp2_with fail;refine e.mono ?_;rintro q b⟨rfl,rfl⟩;have⟨g,b⟩:=qx<|w.alloc<|.cells #[.slice none 0 0,.slice none 0 0] 255;rw[b]at t i d ⊢;go_wp2_with ((at_make;refine YZ rfl _ _ 51 rfl 3 (0:Int) 8 XC XJ rfl .i64 .i64 _ _ n n rfl rfl rfl rfl (Ql _) (by omega) (by simp only[maxLen];omega) ?_;intro b f e));rw[show List.replicate n (Value.int .i64 0)=Qi (VQ xs n 0)by rw[uA];simp[Qi]]at f;have⟨b,s⟩:=qx g.heap.size;have r:=Qa<|show w.heap.size≤b∧w.heap.size≠b from⟨by have:=i.o.size;omega,by have:=d.o.lt;omega⟩;rw[s]at f ⊢;have⟨o,m,k,j,z⟩:=qe f (i.o.trans e<|by simp) (d.o.kept e<|by simp) (e.mono (T:=[b])<|by simp) (by intro d i;simp at i;omega:Qs g.heap.size [b])
 go_loopg [22] xs.length (fun e f wr=>Hid (Qb [b] g wr)∧mG w xs n b w.heap.size e f wr)
 ·exact⟨j,0,by omega,by omega,rfl,o,k,m⟩
 obtain⟨j,e,hk,hi,rfl,m,s,u⟩:=hrel;have v:=Qa hk
 by_cases hlt:e<xs.length
 ·have:(e:Int)<xs.length:=by omega
  have⟨d,i⟩:=qy xs e hlt;obtain⟨x,f⟩:=y.o d<|QA i;obtain⟨d,rfl⟩:=X7 x;have f:d<n:=by omega
  have c0:=(t.o.keptF j.o z.o).int i;have c1:=m.o.aZ<|AX<|MF xs n e d f;have H:=m.o.free d;have⟨f,o⟩:=qx<|(xs.take e).count (d:Int);have:f≤1638350:=by have k:=GJ (a:=(d:Int)) (l:=xs.take e);have t:=PV e xs;omega
  rw[o]at c1;have⟨z,y⟩:=qb (tZ xs n e d i) o
  go_wp2
  go_roundg (xs.length-(e+1))
  case measure=>have:=v.o;omega
  have k:=m.o.put d<|.int .i64 ((f+1:Nat):Int);have i:=z.o;rw[y.o]at i;have q:(Qi<|VQ xs n e).set d (.int .i64 ((f+1:Nat):Int))=Qi (VQ xs n<|e+1):=by rw[←i];simp[Qi,Bp]
  rw[q]at k;have i:Qb [b] wr (wr.setCell ⟨b,d,none⟩<|.int .i64 ((f+1:Nat):Int)):=(Qc [b] wr).setCell (p:=⟨b,d,none⟩) (by simp) _;exact⟨Qa<|j.o.trans i fun o f=>.inl f,e+1,by omega,by omega,by simp,Qa k,Qa<|s.o.kept i (by simp;exact r.o.2),Qa<|u.o.trans i (by intro o f;simp at f;subst f;exact .inr r.o.1)⟩
 obtain rfl:e=xs.length:=by omega
 have:¬(xs.length:Int)<xs.length:=by omega
 have e:(Ul xs n).length=n:=by simp[Ul,Bw]
 have d:Qp wr 1 (some ⟨b,0,none⟩) (Ul xs n).length (QM<|Ul xs n):=by rw[e];have:=m.o.sZ;rwa[Cs]at this
 have i:=lJ (some ⟨b,0,none⟩) n (Ul xs n) wr d (by omega);unfold IR at i;rw[A.o,Qg rfl,e]at i;have C:=Qa d;have x:=Qa e;have y:=Qa (show(YJ<|ZP<|Ul xs n).length=n by rw[FM,Jh,e]);go_wp2_with fail;refine i.mono ?_;rintro q F⟨a3,c3,rfl,v,j,D⟩;simp only at v;have E:=Qa (show Qq (fZ a3) [w.heap.size]by
  intro o f r;simp at r;have k:=D o f;have t:=s.o.lt;omega)
 have B:=Qa v;have z:=Qa (u.o.trans j<|by simp);have m:=Qa (s.o.kept j<|by simp);have d:=C.o.kZ j;have e:=lJ (some ⟨b,0,none⟩) n (Ul xs n) F d (by rw[x.o];omega);unfold IR at e;rw[A.o,Qg rfl,x.o]at e;go_wp2_with fail;refine e.mono ?_;rintro q d⟨a4,i,rfl,j,b,s⟩;simp only at j;have F:=Qa (show Qq (fZ a4) [w.heap.size]by
  intro o f r;simp at r;have k:=s o f;have t:=m.o.lt;omega)
 have⟨C,A,G,x⟩:=qd j (B.o.kept b<|by simp) (z.o.trans b<|by simp) (m.o.kept b<|by simp);rw[y.o]at C A ⊢;have e:=fun g=>Nb xs.length g (by omega)
 have j:ZH xs.length≤32767:=by unfold ZH;omega
 have g:=Qa<|show ZH xs.length=ZH xs.length from rfl;have⟨b,h⟩:=qx<|ZH xs.length;have m:=Qa h;rw[h]at e j;go_wp2_with fail;refine(e _).mono ?_;rintro q g⟨rfl,rfl⟩;have h:Qb [] d (d.alloc<|.cells #[.slice a3 n c3,.slice a4 n i] 51):=(Qc _ _).alloc _;have g:=Qy d [.slice a3 n c3,.slice a4 n i] 51;have⟨j,q⟩:=qx<|d.alloc<|.cells #[.slice a3 n c3,.slice a4 n i] 51;rw[q]at h g ⊢;have⟨s,D⟩:=qb h g;go_wp2_with ((at_make;refine YZ rfl _ _ 51 rfl 3 (0:Int) 8 XC XJ rfl .i64 .i64 _ _ b b rfl rfl rfl rfl (Ql _) (by omega) (by simp only[maxLen];omega) ?_;intro h v u;have e:=Qa ((x.o.kept s.o<|by simp).kept u<|by simp);have:h.cell? w=some (.slice none 0 0):=e.o.cell (i:=0) rfl;have:h.cell? ⟨w.heap.size,1,none⟩=some (.slice none 0 0):=e.o.cell (i:=1) rfl;have:=e.o.free 0;have H:=e.o.free 1));have⟨g,q⟩:=qx j.heap.size;rw[q]at v ⊢;rw[show List.replicate b (Value.int .i64 0)=QM (Ae xs)by unfold Ae;rw[m.o];simp[QM]]at v;have q:(Ae xs).length=b:=by unfold Ae;rw[m.o];simp
 have j:=((e.o.set 0<|.slice d.heap.size 2 2).set 1<|.slice (some ⟨g,0,none⟩) b b).cell (i:=0) (u:=.slice d.heap.size 2 2) rfl;have m:=((e.o.set 0<|.slice d.heap.size 2 2).set 1<|.slice (some ⟨g,0,none⟩) b b).cell (i:=1) (u:=.slice (some ⟨g,0,none⟩) b b) rfl;refine Q5 (v:=.tuple #[QZ d.heap.size 2 2 (some ⟨g,0,none⟩) b b,(0:Int)]) (by simp[results,results205,go_sem,QZ,j,m]) rfl ?_;have m:Qb [w.heap.size] h ((h.setCell ⟨w.heap.size,0,none⟩<|.slice d.heap.size 2 2).setCell ⟨w.heap.size,1,none⟩<|.slice (some ⟨g,0,none⟩) b b):=((Qc [w.heap.size] h).setCell (p:=w) (by simp) _).setCell (p:=⟨w.heap.size,1,none⟩) (by simp) _;have B:Qb [] d h:=s.o.trans u (by simp);have z:(Re xs n).length=n:=by unfold Re;rw[QH];exact y.o
 have y:∀j e,Qh d 3 (.slice j n e) (Qi<|YJ<|ZP<|Ul xs n)→n≤e∧e≤maxLen∧Qp h 1 j n (QM<|Re xs n):=by intro j e e;have j:=e.len;obtain⟨a2,c2,H,k,t,k,-⟩:=e.sees;injection H with k e2 e3;subst e3;refine⟨by omega,t,?_⟩;have k:=e.sZ.kZ B;rwa[Cs]at k
 have hne:w.heap.size<d.heap.size:=x.o.lt;obtain⟨H,q2,x⟩:=y a3 c3 A.o;obtain⟨A,I,J⟩:=y a4 i C.o;have⟨k,t⟩:=qx<|(h.setCell ⟨w.heap.size,0,none⟩<|.slice d.heap.size 2 2).setCell ⟨w.heap.size,1,none⟩<|.slice (some ⟨g,0,none⟩) b b;rw[t]at m ⊢;have t:=x.kept m E.o;have f6:=J.kept m F.o;have x:Qe k d.heap.size 51 [.slice a3 n c3,.slice a4 n i]:=(D.o.kept u<|by simp).kept m (by simp;omega);have u:Qp k 1 (some ⟨g,0,none⟩) b (QM<|Ae xs):=by refine v.sZ.kept m ?_;intro o f r;simp[fZ]at f r;have:=s.o.size;omega
 have o:Qb [] w k:=(G.o.trans B<|by simp).trans m (by simp);have m:Xw k d.heap.size 2 ([Re xs n,Re xs n].map QM):=by
  refine⟨[.slice a3 n c3,.slice a4 n i],⟨rfl,fun h k f=>⟨_,_,rfl,?_⟩⟩,rfl,fun h k k f e=>?_⟩
  ·rw[ZE];exact x.cell f
  have j:(QM<|Re xs n).length=n:=by rwa[Xk]
  match h,f,e with
  |0,f,e=>simp at f e;subst f;subst e;exact⟨a3,c3,by rw[j],by rwa[j],by rw[j];exact H,q2⟩
  |1,f,e=>simp at f e;subst f;subst e;exact⟨a4,i,by rw[j],by rwa[j],by rw[j];exact A,I⟩
  |h+2,f,e=>simp at f
 refine⟨some ⟨d.heap.size,0,none⟩,2,some ⟨g,0,none⟩,b,by rw[q];rfl,⟨m,by rwa[q],by simp,by rw[q];omega,?_⟩,o,by simp,by rw[q];exact Ql _⟩;intro b b;simp at b;rw[b,z];omega
