import Derived.Deep.CutRange
import Derived.Test.YtickjpnkoppmgaaGreatDoorAl
import Derived.Test.YtickjpnkoppmgaaGreatDoorAm
set_option linter.all false
set_option maxHeartbeats 4000000
set_option maxRecDepth 100000
namespace Go.Proofs.YtickjpnkoppmgaaGreatDoor
open Go.Proofs.Tryz Go.RowKit K
section
open Go.Sort
def LX(n:Nat):Prop:=∀(b d e h i c:Nat)(g:LN)(f:Array Nat)(a:WD),Jm a b e h n c g→Qw a b d n f a→
 Calls prog 247 #[.slice b n d,Xy (some ⟨e,h,none⟩) n i c] a fun e h=>e=.returned (.tuple #[])∧∃e,Qw a b d n e h∧PermIn 0 n f e∧SortedIn (Qt n g c) 0 n e
def fF(n f g e m d a)(hs:d.size=n)(i:d.toList.Perm (List.range n))(hp:PermIn 0 n d a)(l:SortedIn (Qt n g e) 0 n a)(hk:DI n f g e m):K.Ordered n f m a.toList:=by
 have c:a.size=n:=by rw[hp.1,hs]
 have b:(a.extract 0 n).toList=a.toList:=by rw[←c];simp
 have c:(d.extract 0 n).toList=d.toList:=by rw[←hs];simp
 have h:a.toList.Perm (List.range n):=by have:=hp.2.2;rw[b,c]at this;exact this.trans i
 refine⟨h,?_⟩;rw[Jp];intro b c hi i j;have o:b<a.size:=by simpa using hi
 have p:c<a.size:=by simpa using i
 have k:a.toList.Nodup:=h.nodup_iff.2 CO;have hne:a.toList[b]≠a.toList[c]:=Jp.1 (show a.toList.Pairwise (· ≠ ·)from k) b c hi i j;have hlt:∀k∈a.toList,k<n:=fun k k=>ZL.1<|h.mem_iff.1 k
 have h:=l b c (ZF _) j (by omega);rw[getElem!_pos a b o,getElem!_pos a c p]at h;have j:a[b]=a.toList[b]:=by simp
 have a2:a[c]=a.toList[c]:=by simp
 rw[j,a2]at h;have j:=tP n f g e m hk a.toList[c] a.toList[b] (hlt _<|XV i)<|hlt _<|XV hi;have i:¬Ac n g e a.toList[c] a.toList[b]<0:=NW h;rw[j]at i;unfold Vg at i ⊢;omega
end
section
open Go.Sort
def Qa6(n)(a:n≤1000000000):∃a:Array VL,a.toList=List.replicate n (.int .i64 0)∧∀W:WD,(Instr.makeSlice 51 n n).run prog W=.ok (.slice (some ⟨W.heap.size,0,none⟩) n n) (W.alloc<|.cells a 3):=by
 obtain⟨a,hi,h0,b,c⟩:=Vr XJ;refine⟨madeCells (Value.int .i64 0).cells<|n*a.size,?_,fun W=>?_⟩
 ·rw[b,show(Value.int .i64 0).cells=#[Value.int .i64 0]from rfl,RY,Pd]
 have:=run_make (P:=prog) W 51 3 a (0:Int) XC hi h0 .i64 .i64 n n (by omega) (by omega) (by rw[c];omega) (by omega);simpa using this
def lU(n:Nat)(l:LN)(w:WD)(e:Ending)(w':WD):Prop:=
 ∃a,e=.returned (.slice (some ⟨a,0,none⟩) n n)∧Qh w' 3 (.slice (some ⟨a,0,none⟩) n n) (Qi l)∧Qb [] w w'∧w.heap.size≤a
def Pz(w0:WD)(b n:Nat)(d:LN)(c:Nat)(L:LN)(k:Nat)(v:VL)(w:WD):Prop:=
 ∃a,1≤a∧a≤n∧k=n-a∧v=.int .i64 (a:Nat)∧Qh w 3 (.slice b n n) (Qi (XX n d c L (a-1)))∧Qb [b] w0 w
def qU(f z g c m p t n b:Nat)(d L w)(a:w.cell? f=some (.int .i64 (n:Int)))(B:w.cell? z=some (.slice g n c))(o:Qp w 1 g n (Qi L))(e:L.length=n)(r:∀x∈L,x<n)(s:Qp w 1 (some ⟨m,p,none⟩) n (Qi d))(G:d.length=n)(e:1≤n)(E:n≤1000000000)(D:b≤1000000000000):
 Calls prog 245 #[Jj (some ⟨m,p,none⟩) n t b,.pointer f,.pointer z] w (lU n (XX n d b L<|n-1) w):=by
 have e:Qb [] w (w.alloc<|.cells #[.slice (some ⟨m,p,none⟩) n t,(b:Int)] 333):=(Qc _ _).alloc _;have A:=Xf w<|.cells #[.slice (some ⟨m,p,none⟩) n t,(b:Int)] 333;have C:(w.alloc<|.cells #[.slice (some ⟨m,p,none⟩) n t,(b:Int)] 333).heap.size=w.heap.size+1:=by simp
 have v:(w.alloc<|.cells #[.slice (some ⟨m,p,none⟩) n t,(b:Int)] 333).cell? f=some (.int .i64 (n:Int)):=e.cZ a (by simp);have⟨l,i,k,q,u,j,y⟩:=qg A e a B o s r;unfold Jj;go_enter func245,ntmps245;go_wp2_with ((at_make;refine YZ rfl _ _ 51 rfl 3 (0:Int) 8 XC XJ rfl .i64 .i64 _ _ n n rfl rfl rfl rfl (Ql _) (by omega) (by simp only[maxLen];omega) ?_;intro T e f));generalize w.alloc (.cells #[.slice (some ⟨m,p,none⟩) n t,(b:Int)] 333)=W0 at l i C v e f ⊢;rw[C]at e;generalize A:w.heap.size+1=h at e ⊢;have:w.heap.size<h:=by omega
 have B:Qh T 3 (.slice h n n) (Qi<|XX n d b L 0):=by rw[show Qi (XX n d b L 0)=List.replicate n (.int .i64 0)by simp[XX,Qi]];exact e
 have:¬w.heap.size=h:=by omega
 have r:=f.heap l.o (by simp);have l:=i.o.new f (by simp[Qs]);have a:=JN w _ k.o;have i:=JN w _ q.o;have:g<w.heap.size:=u.o.lt (by rw[QF];omega) g (by simp[fZ]);have:m<w.heap.size:=j.o.lt (by rw[QF];omega) m (by simp[fZ]);simp only at a i;have i:∀(a:WD)(x:Nat),x<n→Qb [h] w a→Calls prog 246 #[.agg #[.slice (some ⟨m,p,none⟩) n t,(b:Int)],.int .i64 x] a fun F o=>F=.returned (.tuple #[.int .i64 (Xl d x:Nat),.int .i64 (XZ n d b x:Nat)])∧Qb [] a o:=by intro a x S hk;have:=key_ok m p n t b x d a (j.o.kept hk (by intro H s j;simp[fZ]at s;simp at j;omega)) G E S D;unfold Jj at this;exact this
 have⟨W,X,C,a⟩:=qd i l r B;have:=Qa A
 go_wp2
 go_loopg [6] (n-1) (fun e A wr=>Pz T h n d b L e A wr)
 ·exact⟨1,by omega,by omega,rfl,rfl,a.o,Qc _ _⟩
 obtain⟨i,a,hi,hk,rfl,B,a⟩:=hrel;have e:Qb [h] w wr:=(X.o.mono<|by simp).trans a (by simp);have v:=e.cZ k.o (by simp;omega);have l:=e.cZ q.o (by simp;omega);have f:=a.heap C.o (by simp;omega);have q:wr.cell? w=_:=Zu wr w.heap.size 0 _ _ _ f;have r:wr.cell? ⟨w.heap.size,1,none⟩=_:=Zu wr w.heap.size 1 _ _ _ f;simp at q r;have⟨E,Z,V,C⟩:=qd hk B a e
 by_cases hlt:i<n
 ·have:(i:Int)<n:=by omega
  obtain⟨k,B⟩:∃k,k+1=i:=⟨i-1,by omega⟩;have O:i-1=k:=by omega
  have:IntKind.i64.wrap ((i:Int)-1)=(k:Int):=by rw[Q3 _<|by omega];omega
  have:(k:Int)<n:=by omega
  have M:=u.o.kept C.o (by intro H s j;simp[fZ]at s;simp at j;omega);have⟨e,hp⟩:=qx<|L.getD k 0;have⟨a,Q⟩:=qx<|L.getD i 0;have G:L[k]?=some e:=by rw[←hp,List.getD,Qj<|by omega];rfl
  have H:L[i]?=some a:=by rw[←Q,List.getD,Qj<|by omega];rfl
  have h5:e<n:=y.o e<|QA G;have h8:a<n:=y.o a<|QA H;have u:=M.natC G;have s:=M.natC H;rw[ZE]at u s;have j:XX n d b L (k+1)=(XX n d b L k).set a ((XX n d b L k).getD e 0+Aq n d b e a):=by rw[XX,hp,B,Q]
  rw[B]at j;have y:=Z.o;rw[O]at y;have h1:=Mq n d b L k;have I:=Tq n d b L k;generalize XX n d b L k=P at j y h1 I;have⟨f,R⟩:=qx<|P.getD e 0;have⟨A,h3⟩:=qx<|P.getD a 0;have J:P[e]?=some f:=by rw[←R,List.getD,Qj<|by omega];rfl
  have h2:P[a]?=some A:=by rw[←h3,List.getD,Qj<|by omega];rfl
  have:f≤k:=I f<|QA J;rw[R]at j;have⟨U,D,h4,Y⟩:=qd j y J h2;have:=Qa O;have:=Qa B;have:(e:Int)<n:=by omega
  have:(a:Int)<n:=by omega
  have:IntKind.i64.wrap ((f:Int)+1)=(f:Int)+1:=Q3 _ (by omega);go_wp2_with fail
  go_region_held3 (fun o=>Qb [] wr o∧o.cell? w=some (.slice (some ⟨m,p,none⟩) n t)∧o.cell? ⟨w.heap.size,1,none⟩=some (.int .i64 (b:Int))∧o.cell? z=some (.slice g n c)∧o.cell? ⟨g,k,none⟩=some (.int .i64 (e:Int)))
   (first|exact⟨Qc _ _,q,r,l,u⟩|exact⟨(Qc [] wr).drew,q,r,l,u⟩|exact⟨j,j.cZ q<|by simp,j.cZ r<|by simp,j.cZ l<|by simp,j.cZ u<|by simp⟩)
   (first|(go_at_call 246;refine(W.o _ e h5<|C.o.drew).mono ?_;rintro F A⟨rfl,j⟩;have j:Qb [] wr A:=(Qc [] wr).drew.trans j<|by simp))
  have q:=j.cZ q (by simp);have r:=j.cZ r (by simp);have l:=j.cZ l (by simp);have u:=j.cZ u (by simp);have s:=j.cZ s (by simp);have v:=j.cZ v (by simp);have B:=Qa j;go_wp2_with fail
  go_region_held3 (fun o=>Qb [] A o∧o.cell? w=some (.slice (some ⟨m,p,none⟩) n t)∧o.cell? ⟨w.heap.size,1,none⟩=some (.int .i64 (b:Int))∧o.cell? z=some (.slice g n c)∧o.cell? ⟨g,i,none⟩=some (.int .i64 (a:Int)))
   (first|exact⟨Qc _ _,q,r,l,s⟩|exact⟨(Qc [] A).drew,q,r,l,s⟩|exact⟨j,j.cZ q<|by simp,j.cZ r<|by simp,j.cZ l<|by simp,j.cZ s<|by simp⟩)
   (first|(go_at_call 246;refine(W.o _ a h8<|(C.o.trans B.o<|by simp).drew).mono ?_;rintro F k⟨rfl,j⟩;have j:Qb [] A k:=(Qc [] A).drew.trans j<|by simp))
  have l:=j.cZ l (by simp);have u:=j.cZ u (by simp);have s:=j.cZ s (by simp);have v:=j.cZ v (by simp);have p:Qb [] wr k:=B.o.trans j (by simp);have o:=D.o.kept p (by simp);have F:=o.aZ<|UP _ _ _ h4.o;have v0:=o.aZ<|UP _ _ _ Y.o;have C:=o.free a;have m:=o.put a<|.int .i64 (f:Int);have:¬g=h:=by omega
  have:¬z=h:=by omega
  have:=Qa o;have⟨z,A⟩:=qb (V.o.trans p<|by simp) m;go_wp2_with fail
  go_region
  have t:(P.set a f)[a]?=some f:=by rw[YO,Qg rfl,Qg (Qz.1 Y.o).1]
  have m:=A.o;rw[VU]at m;have o:Qb [h] k (k.setCell ⟨h,a,none⟩<|.int .i64 (f:Int)).drew:=((Qc [h] k).setCell (p:=⟨h,a,none⟩) (.inl<|by simp) _).drew;have j:Qh (k.setCell ⟨h,a,none⟩<|.int .i64 (f:Int)).drew 3 (.slice h n n) (Qi<|P.set a f):=m.drew;generalize (k.setCell ⟨h,a,none⟩<|.int .i64 (f:Int)).drew=w7 at o j ⊢;have:=o.cZ l (by simp;omega);have:=o.cZ s (by simp;omega);have:=j.aZ<|UP _ _ _ t;have:=j.free a;have k:=j.put a<|.int .i64 ((f+1:Nat):Int);rw[VU,List.set_set]at k;have⟨A,B,p⟩:=qc k j (z.o.trans o<|by simp)
  by_cases j:BB n d b e a
  ·have k:Aq n d b e a=1:=(by unfold Aq;rw[Qg j]);have m:=Qa k;have o:((f+1:Nat):Int)=f+1:=(by omega);have s:=Qa o;unfold BB at j;generalize Xl d e=p1 at j ⊢;generalize Xl d a=q1 at j ⊢;generalize XZ n d b e=p2 at j ⊢;generalize XZ n d b a=q2 at j ⊢;have fin:Pz T h n d b L (n-(i+1)) (.int .i64<|(i:Int)+1) (w7.setCell ⟨h,a,none⟩<|.int .i64<|(f:Int)+1):=(by refine⟨i+1,by omega,by omega,rfl,by go_num,?_,p.o.setCell (p:=⟨h,a,none⟩) (.inl<|by simp) _⟩;rw[UE,U.o,m.o,←s.o];exact A.o);have o:=Qa fin
   by_cases f:p1=q1
   ·have k1:((p1:Int) != (q1:Int))=false:=(by simp[f]);have s:(p1 != q1)=false:=(by simp[f]);have k2:((p2:Int) != (q2:Int))=true:=VO.2 (by omega);have t:(p2 != q2)=true:=VO.2 (by omega)
    go_wp2
    go_roundg (n-(i+1))
    ·exact o.o
    have:=E.o;omega
   have k1:((p1:Int) != (q1:Int))=true:=VO.2 (by omega);have s:(p1 != q1)=true:=VO.2 (by omega)
   go_wp2
   go_roundg (n-(i+1))
   ·exact o.o
   have:=E.o;omega
  have k:Aq n d b e a=0:=by unfold Aq;rw[Qf j]
  have m:=Qa k;unfold BB at j;generalize Xl d e=p1 at j ⊢;generalize Xl d a=q1 at j ⊢;generalize XZ n d b e=p2 at j ⊢;generalize XZ n d b a=q2 at j ⊢;obtain⟨f,a⟩:p1=q1∧p2=q2:=by omega
  have k1:((p1:Int) != (q1:Int))=false:=by simp[f]
  have s:(p1 != q1)=false:=by simp[f]
  have k2:((p2:Int) != (q2:Int))=false:=by simp[a]
  have t:(p2 != q2)=false:=by simp[a]
  go_wp2
  go_roundg (n-(i+1))
  ·refine⟨i+1,by omega,by omega,rfl,by go_num,?_,p.o⟩;rw[UE,U.o,m.o,Jb];exact B.o
  have:=E.o;omega
 obtain rfl:i=n:=by omega
 have y:=Z.o;have D:=Qa y
 go_wp2
 go_ret;exact⟨h,rfl,D.o,X.o.new V.o (by intro x S;simp at S;omega),by omega⟩
end
section
open Go.Sort
def So(W:WD)(n:Nat)(A d:LN)(g a b:Nat)(c:WD):Prop:=
 c.cell? b=some (.slice g n n)∧Qh c 3 (.slice g n n) (Qi A)∧Qh c 3 (.slice a n n) (Qi d)∧
  Qb [] W c∧W.heap.size≤g∧W.heap.size≤a∧W.heap.size≤b∧g≠a∧g≠b∧a≠b
def Sn(W:WD)(n:Nat)(d e:VL)(f:WD):Prop:=
 ∃c a b,d=.pointer (some ⟨b,0,none⟩)∧e=.slice (some ⟨a,0,none⟩) n n∧So W n (List.replicate n 0) (List.replicate n 0) c a b f
def Qh.at_heap(W)(b n:Nat)(a)(c:a.toList=List.replicate n (.int .i64 0))(d:n≤1000000000)(hb:W.heap[b]?=some (.cells a 3 (0,0))):Qh W 3 (.slice b n n) (Qi<|List.replicate n 0):=by
 have hs:a.size=n:=by rw[←Rr,c];simp
 rw[show Qi (List.replicate n 0)=List.replicate n (.int .i64 0)by simp[Qi]];refine⟨by simp,.inr ⟨b,n,_,by simp,ZF _,hb,by simp,by simp only[maxLen];omega,by simp[hs],?_⟩⟩;rw[c];simp
def YY(W x b z p a r m)(c:W.heap.size=m):
 (((W.alloc<|.cells x p).alloc<|.cells b a).alloc<|.cells z r).heap[m]?=some (.cells x p (0,0))∧(((W.alloc<|.cells x p).alloc<|.cells b a).alloc<|.cells z r).heap[m+1]?=some (.cells b a (0,0))∧
 (((W.alloc<|.cells x p).alloc<|.cells b a).alloc<|.cells z r).heap[m+1+1]?=some (.cells z r (0,0))∧Qb [] W (((W.alloc<|.cells x p).alloc<|.cells b a).alloc<|.cells z r):=by
 subst c;have g:=Xf W<|.cells x p;have c:=Xf (W.alloc<|.cells x p)<|.cells b a;have d:=Xf ((W.alloc<|.cells x p).alloc<|.cells b a)<|.cells z r;have k1:Qb [] (W.alloc<|.cells x p) ((W.alloc<|.cells x p).alloc<|.cells b a):=(Qc _ _).alloc _;have k2:Qb [] ((W.alloc<|.cells x p).alloc<|.cells b a) (((W.alloc<|.cells x p).alloc<|.cells b a).alloc<|.cells z r):=(Qc _ _).alloc _;have e:(W.alloc<|.cells x p).heap.size=W.heap.size+1:=by simp
 have f:((W.alloc<|.cells x p).alloc<|.cells b a).heap.size=W.heap.size+1+1:=by simp
 rw[e]at c;rw[f]at d;exact⟨(k1.trans k2<|by simp).heap g<|by simp,k2.heap c<|by simp,d,(((Qc _ _).alloc _).alloc _).alloc _⟩
def EC(W b n e g c d)(f:e.toList=List.replicate n (.int .i64 0))(h:n≤1000000000)(hk:Qb [] W b)(i:b.heap[g]?=some (.cells e 3 (0,0)))(hh:b.heap[c]?=some (.cells e 3 (0,0)))(j:b.heap[d]?=some (.cells #[.slice g n n] 51 (0,0)))(a:W.heap.size≤g∧W.heap.size≤c∧W.heap.size≤d∧g≠c∧g≠d∧c≠d):
 Sn W n (.pointer d) (.slice c n n) b.drew:=by
 refine⟨g,c,d,rfl,rfl,?_,(Qh.at_heap b g n e f h i).drew,(Qh.at_heap b c n e f h hh).drew,hk.drew,a.1,a.2.1,a.2.2.1,a.2.2.2.1,a.2.2.2.2.1,a.2.2.2.2.2⟩;have:=Zu b d 0 _ _ _ j;simpa using this
structure LL(w1:WD)(n:Nat)(f:Nat→Nat)(g rr rb kby m:Nat)(rank L:LN)(w:WD):Prop where
 lo:1≤m
 hi:m≤2*n
 cells:Qe w rr 333 [.slice rb n n,(kby:Nat)]
 sees:Qp w 1 rb n (Qi rank)
 len:rank.length=n
 small:∀x∈rank,x<1000000000
 by12:kby≤2*n
 row:Qh w 3 (.slice g n n) (Qi L)
 perm:L.Perm (List.range n)
 key:DI n f rank kby m
 ne1:rb≠g
 ne2:rb≠rr
 kept:Qb [g,rr] w1 w
def Qdk{L:LN}{n}(a:L.Perm (List.range n)):∀i,i<n→L.toArray[i]!<n:=by
 intro i hi;have b:L.length=n:=by rw[a.length_eq,Vl]
 rw[getElem!_pos L.toArray i<|by simpa[b]using hi];exact ZL.1 (a.mem_iff.1<|by simp)
def iP(A d x):(A++List.replicate (d+1) 0).set A.length x=A++[x]++List.replicate d 0:=by rw[Y8,QQ,VF _ _<|Ql _,ZO];rfl
def Qcv(s:BA)(w)(hs:s.size≤1000000)(r2:LX s.size):Calls prog 200 #[s] w fun e w'=>
 ∃g L,e=.returned (.slice (some ⟨g,0,none⟩) s.size s.size)∧K.Ordered s.size (K.fS s) s.size L∧Qh w' 3 (.slice (some ⟨g,0,none⟩) s.size s.size) (Qi L)∧Qb [] w w'∧w.heap.size≤g:=by
 obtain⟨Z,hZ,d9⟩:=Qa6 s.size (by omega);have y6:(w.alloc<|.cells #[(s.size:Int)] 3).cell? w=some (.int .i64 (s.size:Int)):=by simp
 have⟨r0,HZ⟩:=qb r2 hZ;go_enter func200,ntmps200
 go_upto_region 2 with(fail)
 have p6:Qb [] w (w.alloc<|.cells #[(s.size:Int)] 3):=(Qc _ _).alloc _;generalize hW:w.alloc (.cells #[(s.size:Int)] 3)=W at y6 p6 ⊢;have q:W.heap.size=w.heap.size+1:=by rw[←hW];simp
 have⟨HW,q6⟩:=qb hW p6
 go_cut [4,5] (fun s4 s5 wc=>Sn W s.size s4 s5 wc)
 ·go_region_held3 (fun w'=>w'.cell? w=some (.int .i64 (s.size:Int))) (first|(refine Qb.cZ (w:=W) (S:=[]) ?_ y6 (by simp);repeat (first|exact Qc _ _|refine Qb.drew ?_|refine Qb.alloc ?_ _|refine Qb.setCell ?_ (.inr (by simp;try omega)) _))) (fail)
  all_goals
   go_wp2
   go_meet
   first
    |exact EC W _ _ Z _ _ _ HZ.o (by omega) (YY W _ _ _ _ _ _ (w.heap.size+1) q).2.2.2 (YY W _ _ _ _ _ _ (w.heap.size+1) q).1 (YY W _ _ _ _ _ _ (w.heap.size+1) q).2.1 (YY W _ _ _ _ _ _ (w.heap.size+1) q).2.2.1 (by omega)
    |exact EC W _ _ Z _ _ _ HZ.o (by omega) (YY W _ _ _ _ _ _ (w.heap.size+1) q).2.2.2 (YY W _ _ _ _ _ _ (w.heap.size+1) q).1 (YY W _ _ _ _ _ _ (w.heap.size+1) q).2.2.1 (YY W _ _ _ _ _ _ (w.heap.size+1) q).2.1 (by omega)
    |exact EC W _ _ Z _ _ _ HZ.o (by omega) (YY W _ _ _ _ _ _ (w.heap.size+1) q).2.2.2 (YY W _ _ _ _ _ _ (w.heap.size+1) q).2.1 (YY W _ _ _ _ _ _ (w.heap.size+1) q).1 (YY W _ _ _ _ _ _ (w.heap.size+1) q).2.2.1 (by omega)
    |exact EC W _ _ Z _ _ _ HZ.o (by omega) (YY W _ _ _ _ _ _ (w.heap.size+1) q).2.2.2 (YY W _ _ _ _ _ _ (w.heap.size+1) q).2.1 (YY W _ _ _ _ _ _ (w.heap.size+1) q).2.2.1 (YY W _ _ _ _ _ _ (w.heap.size+1) q).1 (by omega)
    |exact EC W _ _ Z _ _ _ HZ.o (by omega) (YY W _ _ _ _ _ _ (w.heap.size+1) q).2.2.2 (YY W _ _ _ _ _ _ (w.heap.size+1) q).2.2.1 (YY W _ _ _ _ _ _ (w.heap.size+1) q).1 (YY W _ _ _ _ _ _ (w.heap.size+1) q).2.1 (by omega)
    |exact EC W _ _ Z _ _ _ HZ.o (by omega) (YY W _ _ _ _ _ _ (w.heap.size+1) q).2.2.2 (YY W _ _ _ _ _ _ (w.heap.size+1) q).2.2.1 (YY W _ _ _ _ _ _ (w.heap.size+1) q).2.1 (YY W _ _ _ _ _ _ (w.heap.size+1) q).1 (by omega)
 obtain⟨g,h,ob,rfl,rfl,ho,hg,hh,hk,p4,p5,a8,r6,r7,r9⟩:=hcut;have n0:=hk.cZ y6 (by simp);have h9:s.data.toList.length=s.size:=Zo s;have⟨HO,HG,HH,HK,HN⟩:=qe ho hg hh hk n0
 go_wp2
 go_loopg [17] s.size (fun k v wr=>∃i,i≤s.size∧k=s.size-i∧v=.int .i64 (i:Nat)∧Hid (So W s.size (List.range i++List.replicate (s.size-i) 0) ((Ya s).take i++List.replicate (s.size-i) 0) g h ob wr)∧Hid (Qb [g,h] wc wr))
 ·exact⟨0,by omega,by omega,rfl,Qa ⟨HO.o,HG.o,HH.o,HK.o,p4,p5,a8,r6,r7,r9⟩,Qa<|Qc _ _⟩
 obtain⟨i,hi,hk,rfl,HS,z7⟩:=hrel;have Hk:=Qa hk
 by_cases hlt:i<s.size
 ·have f5:(i:Int)<s.size:=by omega
  obtain⟨ho,h8,h1,hk,-,-,-,-,-,-⟩:=HS.o;obtain⟨d,hd⟩:∃d,s.size-i=d+1:=⟨s.size-i-1,by omega⟩;have r3:s.size-(i+1)=d:=by omega
  have p3:((Ya s).take i).length=i:=by rw[Zl,Ya,QH,h9];omega
  have q0:(List.range i).length=i:=Vl;have r5:(Ya s)[i]?=some (s[i].toNat):=by rw[Ya,ZD,Qj<|by omega];have:=Ce s i hlt;rw[List.getD,Qj<|by omega]at this;simp only[VI]at this;rw[this];rfl
  have b5:(Ya s).take (i+1)=(Ya s).take i++[s[i].toNat]:=by rw[Zt,r5];rfl
  have p8:=h8.put i<|.int .i64 (i:Nat);have p9:=(Qh.setCell h1 (p:=⟨g,i,none⟩) (by simp[Qd,qo];omega)<|.int .i64 (i:Nat)).put i<|.int .i64 (s[i].toNat:Nat);have s1:=iP (List.range i) d i;rw[q0]at s1;have s2:=iP ((Ya s).take i) d s[i].toNat;rw[p3]at s2;rw[VU,hd,s1,←JJ]at p8;rw[VU,hd,s2,←b5]at p9;have og:=h8.aZ (j:=i) (u:=.int .i64 (0:Nat))<|UP _ _ _ (by rw[hd,Zx<|by omega,q0,ZO];rfl);have oh:=h1.aZ (j:=i) (u:=.int .i64 (0:Nat))<|UP _ _ _ (by rw[hd,Zx<|by omega,p3,ZO];rfl);have fg:=h8.free i;have fh:=h1.free i;have n1:=z7.o.cZ HN.o (by simp;omega);have⟨d1,q7,y0,y1,b8⟩:=qe p8 p9 hk ho r3;have⟨b,hb⟩:=qx<|s[i].toNat;have e7:b<256:=by rw[←hb];exact VM _
  have g8:IntKind.i64.wrap (b:Int)=(b:Int):=Q3 _ (by omega);have g9:wrap64 (b:Int)=(b:Int):=by unfold wrap64;omega
  rw[hb]at q7;go_wp2_with fail
  go_region
  all_goals
   go_wp2
   go_roundg (s.size-(i+1))
   ·refine⟨i+1,by omega,rfl,by go_num,?_,Qa ?_⟩
    ·rw[b8.o];refine Qa ⟨?_,?_,?_,?_,p4,p5,a8,r6,r7,r9⟩
     ·exact((((Qc [g,h] wr).setCell (p:=⟨g,i,none⟩) (.inl<|by simp) _).setCell (p:=⟨h,i,none⟩) (.inl<|by simp) _).drew).cZ y1.o (by simp;omega)
     ·exact(Qh.setCell d1.o (p:=⟨h,i,none⟩) (by simp[Qd,qo];omega) _).drew
     ·exact q7.o.drew
     exact((y0.o.setCell (p:=⟨g,i,none⟩) (.inr<|by simpa using p4) _).setCell (p:=⟨h,i,none⟩) (.inr<|by simpa using p5) _).drew
    exact(((z7.o.setCell (p:=⟨g,i,none⟩) (.inl<|by simp) _).setCell (p:=⟨h,i,none⟩) (.inl<|by simp) _).drew)
   have:=Hk.o;omega
 obtain rfl:i=s.size:=by omega
 obtain⟨ho,h8,h1,hk,-,-,-,-,-,-⟩:=HS.o;rw[ZO,CP,XH]at h8 h1;rw[Q8 (by rw[Ya,QH,h9];exact Ql _)]at h1;have n1:=z7.o.cZ HN.o (by simp;omega);have⟨y0,z8,q8,y1⟩:=qd hk h8 h1 ho
 by_cases hz:s.size=0
 ·have q1:(s.size:Int)=0:=by omega
  have e4:((s.size:Int)==0)=true:=beq_iff_eq.2 q1
  go_wp2
  go_ret;refine⟨g,List.range s.size,by rw[hz];rfl,⟨List.Perm.refl _,?_⟩,z8.o,q6.o.new y0.o<|by simp[Qs],by omega⟩;rw[hz];exact List.Pairwise.nil
 have q1:¬(s.size:Int)=0:=by omega
 have e4:((s.size:Int)==0)=false:=Zb.2 q1;go_wp2_with fail;have b6:(wr.alloc<|.cells #[.slice h s.size s.size,(0:Int)] 333).heap.size=wr.heap.size+1:=by simp
 have x0:Qb [] wr (wr.alloc<|.cells #[.slice h s.size s.size,(0:Int)] 333):=(Qc _ _).alloc _;have hra:=Xf wr<|.cells #[.slice h s.size s.size,(0:Int)] 333;generalize wr.alloc (.cells #[.slice h s.size s.size,(0:Int)] 333)=w1 at b6 x0 hra ⊢;generalize x5:wr.heap.size=rr at b6 hra ⊢;have f2:g<rr:=by rw[←x5];exact z8.o.lt g (by simp[Qd,qo])
 have f4:h<rr:=by rw[←x5];exact q8.o.lt h (by simp[Qd,qo])
 have g6:ob<rr:=by rw[←x5];exact JN wr _ y1.o
 have g0:w.heap.size<rr:=by rw[←x5];exact JN wr _ n1
 have b1:(List.range s.size).Perm (List.range s.size):=List.Perm.refl _;have a1:=Qae s.size (K.fS s) (Ya s) (by have:=wL s;rwa[h9]at this);have b3:∀x∈Ya s,x<1000000000:=by intro x hx;simp only[Ya,QB]at hx;obtain⟨b,-,rfl⟩:=hx;have:=VM b;omega
 have b4:LL w1 s.size (K.fS s) g rr h 0 1 (Ya s) (List.range s.size) w1:=
  ⟨Ql _,by omega,hra,(q8.o.kept x0<|by simp).sZ,by rw[Ya,QH,h9],b3,by omega,z8.o.kept x0<|by simp,b1,a1,by omega,by omega,Qc _ _⟩
 have⟨d4,c8,d0,c6,e5⟩:=qe b4 (x0.cZ n1<|by simp) (x0.cZ y1.o<|by simp) (q6.o.new (y0.o.new x0<|by simp[Qs])<|by simp[Qs]) x5
 go_loopg [9] (2*s.size-1) (fun k v wx=>∃rb h2 m h4 L,k+m=2*s.size∧v=.int .i64 (m:Nat)∧Hid (LL w1 s.size (K.fS s) g rr rb h2 m h4 L wx))
 ·exact⟨h,0,1,_,_,by omega,rfl,d4⟩
 obtain⟨rb,h2,m,h4,L,hk,rfl,o⟩:=hrel;have Hk:=Qa hk;have f7:=o.o.lo;have f8:=o.o.hi;have e6:=o.o.by12;have e0:=o.o.cells.cell (i:=0) rfl;have e1:=o.o.cells.cell (i:=1) rfl;have n1:=o.o.kept.cZ c8.o (by simp;omega);have o1:=o.o.kept.cZ d0.o (by simp;omega);have x2:=r0.o g s.size rb 0 s.size h2 h4 L.toArray wr ⟨o.o.sees,o.o.len,o.o.small,by omega,by omega,o.o.ne1⟩ ⟨o.o.row,by have:=o.o.perm.length_eq;simpa using this,Qdk o.o.perm,Qc _ _⟩;unfold Xy Jj at x2;have y2:=Qa x2;go_wp2_with fail;refine y2.o.mono ?_;rintro e w2⟨rfl,d',h5,x7,x8⟩;have d6:L.length=s.size:=by rw[o.o.perm.length_eq,Vl]
 have x1:=fF s.size (K.fS s) h4 h2 m L.toArray d' (by simpa using d6) (by simpa using o.o.perm) x7 x8 o.o.key;have y3:=o.o.cells.kept h5.kept (by simp;omega);have e0:=y3.cell (i:=0) rfl;have e1:=y3.cell (i:=1) rfl;have n1:=h5.kept.cZ n1 (by simp;omega);have o1:=h5.kept.cZ o1 (by simp;omega);have g2:=o.o.ne1;have g5:=o.o.ne2;have r1:=o.o.sees.kept h5.kept (by intro y hy hm;simp[fZ]at hy;simp at hm;omega);have p2:=qU w.heap.size ob g s.size rb 0 s.size s.size h2 h4 d'.toList w2 n1 o1 h5.row.sZ x1.len x1.lt r1 o.o.len (by omega) (by omega) (by omega);unfold Jj at p2;have⟨q4,x6,q3,q9,b9⟩:=qe p2 x1 y3 h5.row h5.kept;go_wp2_with fail;refine q4.o.mono ?_;rintro e w3⟨h3,rfl,b2,x9,e9⟩;have x3:=q3.o.kept x9 (by simp);have e0:=x3.cell (i:=0) rfl;have e1:=x3.cell (i:=1) rfl;have f0:=x3.free 0;have f1:=x3.free 1;have n1:=x9.cZ n1 (by simp);have o1:=x9.cZ o1 (by simp);have⟨d3,q5,b7⟩:=qc b2 x9 x3;have p0:=(b7.o.set 0<|.slice h3 s.size s.size).set 1<|.int .i64 (m:Nat);have x4:Qb [rr] w3 ((w3.setCell ⟨rr,0,none⟩<|.slice h3 s.size s.size).setCell ⟨rr,1,none⟩<|.int .i64 (m:Nat)):=((Qc [rr] w3).setCell (p:=rr) (.inl<|by simp) _).setCell (p:=⟨rr,1,none⟩) (.inl<|by simp) _;have g7:rr<w2.heap.size:=q3.o.lt;have z1:=(d3.o.kept x4 (by simp[Qd,qo];omega)).sZ;have y5:=(q9.o.kept q5.o<|by simp).kept x4 (by simp[Qd,qo];omega);have y7:Qb [g,rr] w1 ((w3.setCell ⟨rr,0,none⟩<|.slice h3 s.size s.size).setCell ⟨rr,1,none⟩<|.int .i64 (m:Nat)):=
  ((o.o.kept.trans b9.o<|by simp).trans q5.o<|by simp).trans x4 (by simp)
 have y8:=Qaf s.size (K.fS s) (FK _) (fun i=>by have:=IM s i;rwa[h9]at this) _ m<|qV s.size (K.fS s) h4 h2 m o.o.key d'.toList x6.o;have z6:∀x∈XX s.size h4 h2 d'.toList (s.size-1),x<1000000000:=fun x hx=>by have:=Tq _ _ _ _ _ x hx;omega
 have y9:=Mq s.size h4 h2 d'.toList<|s.size-1;have f3:g<w2.heap.size:=q9.o.lt g (by simp[Qd,qo]);obtain⟨a7,e2⟩:h3≠g∧h3≠rr:=by omega
 generalize XX s.size h4 h2 d'.toList (s.size-1)=rank4 at*
 have p1:Qe ((w3.setCell ⟨rr,0,none⟩<|.slice h3 s.size s.size).setCell ⟨rr,1,none⟩<|.int .i64 (m:Nat)) rr 333 [.slice h3 s.size s.size,.int .i64 (m:Nat)]:=p0;have o4:=x4.cZ o1 (by simp;omega)
 by_cases e8:s.size≤m
 ·have d8:(s.size:Int)≤m:=by omega
  have d7:decide (s.size≤m)=true:=by simp;omega
  have r4:d'.size=s.size:=by have:=x6.o.len;simpa using this
  have x2:=r0.o g s.size h3 0 s.size m rank4 d' _ ⟨z1,y9,z6,by omega,by omega,a7⟩ ⟨y5,r4,fun i hi=>by rw[getElem!_pos d' i<|by omega];exact x6.o.lt _<|by simp,Qc _ _⟩;unfold Xy Jj at x2;have⟨y2,c7,c4⟩:=qc x2 y8 y7;go_wp2_with fail;refine y2.o.mono ?_;rintro e w5⟨rfl,d5,y4,x7,x8⟩;have x1:=fF s.size (K.fS s) rank4 m (m+m) d' d5 r4 x6.o.perm x7 x8 c7.o;have p7:=K.Ordered.more (s:=s.data.toList) (m:=m+m) (L:=d5.toList) (by omega) (by omega) (by rwa[h9]);rw[h9]at p7;have o5:=y4.kept.cZ o4 (by simp;omega);have⟨d2,c5,HM⟩:=qc y4.row y4.kept p7
  go_wp2
  go_ret;refine⟨g,d5.toList,rfl,HM.o,d2.o,c6.o.trans (c4.o.trans c5.o<|by simp) ?_,by omega⟩;intro x hx;have e3:w.heap.size≤g:=by omega
  simp at hx;rcases hx with rfl|rfl
  ·exact .inr e3
  exact .inr (by omega)
 have d8:¬(s.size:Int)≤m:=by omega
 have d7:decide (s.size≤m)=false:=by simp;omega
 have f9:IntKind.i64.wrap ((m:Int)*2)=((m+m:Nat):Int):=by rw[Q3 _<|by omega];omega
 have a6:LL w1 s.size (K.fS s) g rr h3 m (m+m) rank4 d'.toList ((w3.setCell ⟨rr,0,none⟩<|.slice h3 s.size s.size).setCell ⟨rr,1,none⟩<|.int .i64 (m:Nat)):=
  ⟨by omega,by omega,p1,z1,y9,z6,by omega,y5,x6.o.perm,y8,a7,e2,y7⟩
 have c9:=Qa a6
 go_wp2
 go_roundg (2*s.size-(m+m))
 ·exact⟨h3,m,m+m,rank4,d'.toList,by omega,by go_num,c9⟩
 have:=Hk.o;omega
end
section
open Go.Sort

end

section
open Go.Sort

end
namespace K
def XR(l:LN)(b:Nat):Nat:=l.countP (· <b)
def Xx(l:LN)(k b:Nat):Nat:=(l.take k).count b
def Uu(l:LN)(i:Nat):Nat:=XR l (l.getD i 0)+Xx l i (l.getD i 0)
def VV(l:LN)(b k:Nat):LN:=(List.range k).filter fun a=>l.getD a 0==b
def XG(l:LN)(b:Nat):LN:=(List.range b).flatMap fun a=>VV l a l.length
def TQ(l):XR l 0=0:=by simp[XR]
def Eg(l b):XR l (b+1)=XR l b+l.count b:=by
 unfold XR
 induction l with
 |nil=>rfl
 |cons x l ih=>
  rw[Ln,Ln,List.count_cons,ih]
  by_cases d:x<b
  ·have a:x<b+1:=(by omega);have c:(x==b)=false:=(by simp;omega);simp[d,a,c];omega
  by_cases a:x=b
  ·subst a;simp;omega
  have c:(x==b)=false:=by simpa using a
  have a:¬x<b+1:=by omega
  simp[d,c,a]
def MA(l b):XR l b≤l.length:=List.countP_le_length
def TO(l b):Xx l 0 b=0:=by simp[Xx]
def Cf(l k b x)(a:l[k]?=some x):Xx l (k+1) b=Xx l k b+if x=b then 1 else 0:=by
 unfold Xx;rw[Zt,a,List.count_append]
 by_cases a:x=b
 ·subst a;simp
 simp[a]
def Mx(l b):Xx l l.length b=l.count b:=by simp[Xx]
def Mz(l b){i k}(a:i≤k):Xx l i b≤Xx l k b:=by
 unfold Xx;have:l.take i=(l.take k).take i:=by rw[List.take_take,GW a]
 rw[this];exact(LA i<|l.take k).count_le _
def My(l i x)(a:l[i]?=some x):Xx l i x<l.count x:=by have b:=Cf l i x x a;have c:=Mz l x (i:=i+1) (k:=l.length) (by have:=(Qz.1 a).1;omega);rw[Mx]at c;simp at b;omega
def TP(l){a b}(c:a≤b):XR l a≤XR l b:=by
 induction b with
 |zero=>obtain rfl:a=0:=by omega
        exact Ql _
 |succ b ih=>
  by_cases c:a=b+1
  ·subst c;exact Ql _
  have:=ih (by omega);rw[Eg];omega
def Oo(l i)(a:i<l.length):Uu l i<l.length:=by
 unfold Uu;have b:l[i]?=some (l.getD i 0):=by rw[List.getD,Qj a];rfl
 generalize l.getD i 0=x at*
 have:=My l i x b;have:=Eg l x;have:=MA l<|x+1;omega
def Qd5(l i j)(hi:i<l.length)(f:j<l.length)(c:Uu l i=Uu l j):i=j:=by
 have d:l[i]?=some (l.getD i 0):=by rw[List.getD,Qj hi];rfl
 have e:l[j]?=some (l.getD j 0):=by rw[List.getD,Qj f];rfl
 unfold Uu at c;generalize l.getD i 0=x at*
 generalize l.getD j 0=y at*
 have:=My l i x d;have:=My l j y e;have:=Eg l x;have:=Eg l y;have f:x=y:=by
  rcases BZ x y with c|c|c
  ·have:=TP l (a:=x+1) (b:=y) (by omega);omega
  ·exact c
  have:=TP l (a:=y+1) (b:=x) (by omega);omega
 subst f;have c:=Cf l i x x d;have h6:=Cf l j x x e;rw[Qg rfl]at c h6;rcases BZ i j with h7|h7|h7
 ·have:=Mz l x (i:=i+1) (k:=j) (by omega);omega
 ·exact h7
 have:=Mz l x (i:=j+1) (k:=i) (by omega);omega
def NV(l b k x)(a:l[k]?=some x):VV l b (k+1)=VV l b k++if x=b then [k]else []:=by
 unfold VV;have:l.getD k 0=x:=by rw[List.getD,a];rfl
 rw[JJ,Aw]
 by_cases a:x=b
 ·subst a;simp[this,-List.getD_eq_getElem?_getD]
 simp[this,a,-List.getD_eq_getElem?_getD]
def NU(l b):∀k,k≤l.length→(VV l b k).length=Xx l k b
 |0,_=>by simp[VV,Xx]
 |k+1,h=>by
  have a:l[k]?=some l[k]:=Qj (by omega);rw[NV l b k _ a,Cf l k b _ a,Qo,NU l b k<|by omega]
  split<;>rfl
def Gr(l b):XG l (b+1)=XG l b++VV l b l.length:=by unfold XG;rw[JJ,Lq];simp
def KN(l):∀b,(XG l b).length=XR l b
 |0=>by simp[XG,TQ]
 |b+1=>by rw[Gr,Qo,KN l b,NU l b _<|Ql _,Mx,Eg]
def Km(l b k i):i∈VV l b k↔i<k∧l.getD i 0=b:=by simp[VV,-List.getD_eq_getElem?_getD]
def Ga(l b i):i∈XG l b↔i<l.length∧l.getD i 0<b:=by
 unfold XG;simp only[List.mem_flatMap,ZL,Km];constructor
 ·rintro⟨a,c,a,d⟩;exact⟨a,by omega⟩
 rintro⟨c,a⟩;exact⟨_,a,c,rfl⟩
def Qcm(l b k):(VV l b k).Nodup:=List.Nodup.sublist (PS) CO
def OU(l):∀b,(XG l b).Nodup
 |0=>by simp[XG]
 |b+1=>by rw[Gr,BX];refine⟨OU l b,Qcm _ _ _,fun a a c c=>?_⟩;rw[Ga]at a;rw[Km]at c;rintro rfl;omega
def jI(l a):∀b,a≤b→∃r,XG l b=XG l a++r
 |0,h=>by obtain rfl:a=0:=by omega
          exact⟨[],by simp⟩
 |b+1,h=>by
  by_cases c:a=b+1
  ·subst c;exact⟨[],by simp⟩
  obtain⟨r,c⟩:=jI l a b (by omega);exact⟨r++VV l b l.length,by rw[Gr,c,QQ]⟩
def eV(l b i):∀k,i≤k→k≤l.length→∃r,VV l b k=VV l b i++r
 |0,h,_=>by obtain rfl:i=0:=by omega
            exact⟨[],by simp⟩
 |k+1,h,hk=>by
  by_cases a:i=k+1
  ·subst a;exact⟨[],by simp⟩
  obtain⟨r,a⟩:=eV l b i k (by omega) (by omega);exact⟨_,by rw[NV l b k _<|Qj<|by omega,a,QQ]⟩
def Qgu(l a i)(b:i<l.length)(c:l.getD i 0<a):(XG l a)[Uu l i]?=some i:=by
 have c:l[i]?=some (l.getD i 0):=by rw[List.getD,Qj b];rfl
 unfold Uu;generalize l.getD i 0=x at*
 obtain⟨b,b⟩:=jI l (x+1) a (by omega);obtain⟨a,a⟩:=eV l x (i+1) l.length (by omega)<|Ql _;rw[b,Gr,a,NV l x i x c,Qg rfl];have a:=KN l x;have b:=NU l x i (by omega);rw[QQ,QQ,QQ,Zx<|by omega,a,Zx<|by omega,b];simp
def Qdy(l P)(hb:∀x∈l,x<256)(a:P.length=l.length)(e:∀j,j<l.length→P[Uu l j]?=some j):P=XG l 256:=by
 have:∀a,a<l.length→l.getD a 0<256:=by intro a hi;rw[List.getD,Qj hi];exact hb _<|XV hi
 have:(XG l 256).length=l.length:=by rw[KN];unfold XR;rw[PQ];intro x a;simpa using hb x a
 apply Xo;intro a
 by_cases hp:a<l.length
 ·have c:=Qj (l:=XG l 256) (i:=a) (by omega);generalize (XG l 256)[a]'(by omega)=j at c;have b:j∈XG l 256:=QA c;rw[Ga]at b;have f:=Qgu l 256 j b.1 b.2;have g:Uu l j=a:=by
   have:=Oo l j b.1;have h:=OU l 256;have d:=(Qz.1 f).2;have a2:=(Qz.1 c).2;have hne:=Jp.1<|show(XG l 256).Pairwise (· ≠ ·)from h;rcases BZ (Uu l j) a with a|a|a
   ·exact absurd (d.trans a2.symm)<|hne _ _ _ _ a
   ·exact a
   exact absurd (a2.trans d.symm)<|hne _ _ _ _ a
  rw[c,←g];exact e j b.1
 rw[QX<|by omega,QX<|by omega]
def Vu(l P:LN):Nat→Nat→LN
 |0,_=>[]
 |k+1,p=>l.getD (P.getD p 0) 0::Vu l P k (P.getD p 0)
def Vk(P:LN):Nat→Nat→Nat
 |0,p=>p
 |k+1,p=>P.getD (Vk P k p) 0
def lG(P):∀k p,Vk P (k+1) p=Vk P k (P.getD p 0)
 |0,p=>rfl
 |k+1,p=>by rw[Vk,lG P k p];rfl
def Ky(l P):∀k p,Vu l P k p=(List.range k).map fun t=>l.getD (Vk P (t+1) p) 0
 |0,p=>rfl
 |k+1,p=>by
  rw[Vu,Ky l P k,List.range_succ_eq_map,QR,XI]
  congr 1
  refine Yx fun t _=>?_
  simp only[Function.comp];rw[Nat.succ_eq_add_one,lG P (t+1) p]
def Qen(l P k p):Vu l P (k+1) p=Vu l P k p++[l.getD (Vk P (k+1) p) 0]:=by rw[Ky,Ky,JJ,Xi];rfl
end K
namespace K
def jG(l):∀c,(XG l c).Pairwise fun a b=>l.getD a 0<l.getD b 0∨(l.getD a 0=l.getD b 0∧a<b)
 |0=>by simp[XG]
 |c+1=>by
  rw[Gr,DR];refine⟨jG l c,?_,fun d e d f=>?_⟩
  ·have d:(VV l c l.length).Pairwise (· < ·):=List.Pairwise.sublist PS List.pairwise_lt_range;refine PP (fun {a b} ha hb hlt=>?_) d;rw[Km]at ha hb;exact .inr ⟨by omega,hlt⟩
  rw[Ga]at e;rw[Km]at f;exact .inl (by omega)
def jH(l)(hb:∀x∈l,x<256):(XG l 256).Perm (List.range l.length):=by
 refine(Sa (OU l 256) CO).2 fun a=>?_
 rw[Ga,ZL];refine⟨fun a=>a.1,fun a=>⟨a,?_⟩⟩;rw[List.getD,Qj a];exact hb _<|XV a
def ZR(n:Nat)(f:Nat→Nat)(L:LN):LN:=L.map fun a=>f (a+n-1)
structure Per(n:Nat)(f:Nat→Nat):Prop where
 hf:∀i,f i<256
 hp:∀i,f (i%n)=f i
 h0:0<n
def Og{n f}(a:Per n f)(i):f (i+n)=f i:=by rw[←a.hp (i+n),CS,a.hp]
def Sf{n f}(a:Per n f)(m i):N f m (i+n)=N f m i:=by rw[←Fi f n a.hp m (i+n),CS,Fi f n a.hp]
def LS{n f}(b:Per n f)(i):N f n i=f i*256^(n-1)+N f (n-1) (i+1):=by have a:=DU f 1 i<|n-1;rw[GU,show 1+(n-1)=n by have:=b.h0;omega]at a;exact a
def Hd{n f}(a:Per n f)(i):N f n i=N f (n-1) i*256+f (i+n-1):=by have b:=DU f (n-1) i 1;rw[GU,show n-1+1=n by have:=a.h0;omega,Nat.pow_one,show i+(n-1)=i+n-1 by have:=a.h0;omega]at b;exact b
def Ss{n f}(a:Per n f)(i):N f n i%256=f (i+n-1):=by have:=a.hf<|i+n-1;rw[Hd a i];omega
def Su{n f}(a:Per n f)(i):N f n (i+n-1)=f (i+n-1)*256^(n-1)+N f n i/256:=by
 have b:=LS a<|i+n-1;rw[show i+n-1+1=i+n by have:=a.h0;omega,Sf a]at b;have:=Hd a i;have:=a.hf<|i+n-1;have a:N f n i/256=N f (n-1) i:=by omega
 rwa[a]
def St{n f}(c:Per n f)(a b)(g:N f n a=N f n b):N f n (a+1)=N f n (b+1):=by
 have ha:=LS c a;have hb:=LS c b;have h:=CR f c.hf (n-1)<|a+1;have i:=CR f c.hf (n-1)<|b+1;have a2:=Hd c<|a+1;have d:=Hd c<|b+1;rw[show a+1+n-1=a+n by have:=c.h0;omega,Og c]at a2;rw[show b+1+n-1=b+n by have:=c.h0;omega,Og c]at d;rw[ha,hb]at g;generalize 256^(n-1)=M at*
 have e:f a=f b:=by
  rcases BZ (f a) (f b)with c|c|c
  ·have:=(FW (A:=f a) (C:=f b) h i).2 (.inl c);omega
  ·exact c
  have:=(FW (A:=f b) (C:=f a) i h).2 (.inl c);omega
 rw[e]at g;have c:N f (n-1) (a+1)=N f (n-1) (b+1):=by omega
 rw[a2,d,e,c]
def Qh9{n}(h0:0<n):((List.range n).map fun i=>(i+n-1)%n).Perm (List.range n):=by
 refine(Sa ?_ CO).2 fun a=>?_
 ·rw[List.Nodup,V5];refine PP (fun {a b} ha hb hlt=>?_) List.pairwise_lt_range;rw[ZL]at ha hb;intro d;rcases V9 a with c|c
  ·subst c;rw[XP<|by omega]at d;rw[show b+n-1=b-1+n by omega,CS,XP<|by omega]at d;omega
  rw[show a+n-1=a-1+n by omega,show b+n-1=b-1+n by omega,CS,CS,XP<|by omega,XP<|by omega]at d;omega
 simp only[QB,ZL];constructor
 ·rintro⟨i,c,rfl⟩;exact JL _ h0
 intro d
 by_cases c:a+1=n
 ·exact⟨0,h0,by rw[XP<|by omega];omega⟩
 exact⟨a+1,by omega,by rw[show a+1+n-1=a+n by omega,CS,XP d]⟩
def Qa8(L:LN)(g:Nat→Nat):(List.range L.length).map (fun k=>g<|L.getD k 0)=L.map g:=by
 apply Xo;intro b
 by_cases a:b<L.length
 ·simp[Xa a,Qj a]
 rw[QX (by simp;omega),QX (by simp;omega)]
def jA{n f L}(c:Ordered n f n L):(L.map<|N f n).Pairwise (· ≤ ·):=by
 rw[V5];refine c.asc.imp fun {a b} h=>?_
 unfold Vg at h;omega
def Qdx{n f}(d:Per n f){L}(h:Ordered n f n L)(p)(a:p<n):N f n (L.getD ((XG (ZR n f L) 256).getD p 0) 0)=N f n (L.getD p 0+1):=by
 have k:=h.len;have h0:=d.h0;have e:(ZR n f L).length=n:=by simp[ZR,k]
 have hb:∀a∈ZR n f L,a<256:=by intro a b;simp only[ZR,QB]at b;obtain⟨a,-,rfl⟩:=b;exact d.hf _
 have i:=jH (ZR n f L) hb;have l:=jG (ZR n f L) 256;rw[e]at i;have:(XG (ZR n f L) 256).length=n:=by rw[i.length_eq,Vl]
 have j:∀b,b<n→(ZR n f L).getD b 0=f (L.getD b 0+n-1):=by intro b ha;simp only[ZR,List.getD,ZD];rw[Qj<|by omega];rfl
 generalize XG (ZR n f L) 256=P at*
 have r:P.map (fun e=>N f n<|L.getD e 0+n-1)=L.map (N f n):=by
  have t:(P.map fun e=>N f n<|L.getD e 0+n-1).Pairwise (· ≤ ·):=by
   rw[V5];refine PP (fun {b g} ha hb hlt=>?_) l;have o:b<n:=ZL.1<|i.mem_iff.1 ha;have q:g<n:=ZL.1<|i.mem_iff.1 hb;rw[j b o,j g q]at hlt;rw[Su d,Su d];have m:∀a,N f n a/256<256^(n-1):=(by intro a;have j:=CR f d.hf n a;have l:256^n=256^(n-1)*256:=(by rw[←J5,Nat.succ_eq_add_one,show n-1+1=n by have:=d.h0;omega]);rw[l]at j;exact Nat.div_lt_of_lt_mul<|by rwa[RX]);rcases hlt with hlt|⟨s,hlt⟩
   ·exact Nat.le_of_lt<|(FW (m _)<|m _).2 (.inl hlt)
   rw[s];have hs:=Jp.1 (jA h) b g (by simp[k,o]) (by simp[k,q]) hlt;simp only[List.getElem_map]at hs;have m:L.getD b 0=L[b]'(by omega):=(by rw[List.getD,Qj<|by omega];rfl);have o:L.getD g 0=L[g]'(by omega):=(by rw[List.getD,Qj<|by omega];rfl);rw[m,o];have:=Nat.div_le_div_right (c:=256) hs;omega
  refine GI (fun b g _ _ j l=>Nat.le_antisymm j l) t (jA h) ?_;have b:(P.map fun e=>N f n<|L.getD e 0+n-1).Perm ((List.range n).map fun e=>N f n<|L.getD e 0+n-1):=i.map _;have g:(List.range n).map (fun e=>N f n<|L.getD e 0+n-1)=L.map (fun a=>N f n<|a+n-1):=by have:=Qa8 L fun a=>N f n<|a+n-1;rwa[k]at this
  have e:(L.map fun a=>N f n<|a+n-1).Perm ((List.range n).map fun a=>N f n<|a+n-1):=h.perm.map _;have i:(List.range n).map (fun a=>N f n<|a+n-1)=((List.range n).map fun a=>(a+n-1)%n).map (N f n):=by
   rw[XI];refine Yx fun a _=>?_
   simp only[Function.comp];rw[Fi f n d.hp]
  have a:=(Qh9 d.h0).map<|N f n;rw[g]at b;rw[i]at e;exact((b.trans e).trans a).trans (h.perm.map _).symm
 have hk:=Qu (fun a=>a[p]?) r;simp only[ZD]at hk;rw[Qj<|by omega,Qj<|by omega]at hk;simp only[AC,Option.some.injEq]at hk;have g1:P.getD p 0=P[p]'(by omega):=by rw[List.getD,Qj<|by omega];rfl
 have a:L.getD p 0=L[p]'(by omega):=by rw[List.getD,Qj<|by omega];rfl
 rw[g1,a];have:=St d _ _ hk;rw[show L.getD (P[p]'(by omega)) 0+n-1+1=L.getD (P[p]'(by omega)) 0+n by omega,Sf d]at this;exact this
def Qeo{n f}(H:Per n f){L}(q:Ordered n f n L)(row)(h5:row<n):Vu (ZR n f L) (XG (ZR n f L) 256) n row=(List.range n).map fun t=>f (L.getD row 0+t):=by
 have h4:=q.len;have h0:=H.h0;have h3:(ZR n f L).length=n:=by simp[ZR,h4]
 have hb:∀x∈ZR n f L,x<256:=by intro x hx;simp only[ZR,QB]at hx;obtain⟨i,-,rfl⟩:=hx;exact H.hf _
 have o:=jH (ZR n f L) hb;rw[h3]at o;have h9:(XG (ZR n f L) 256).length=n:=by rw[o.length_eq,Vl]
 have h1:∀p,p<n→(XG (ZR n f L) 256).getD p 0<n:=by intro p y;rw[List.getD,Qj<|by omega];exact ZL.1<|o.mem_iff.1<|XV _
 have h8:=fun p y=>Qdx H q p y
 have h2:∀a,a<n→(ZR n f L).getD a 0=f (L.getD a 0+n-1):=by intro a ha;simp only[ZR,List.getD,ZD];rw[Qj<|by omega];rfl
 rw[Ky];generalize XG (ZR n f L) 256=P at*
 have hw:∀t,Vk P t row<n∧N f n (L.getD (Vk P t row) 0)=N f n (L.getD row 0+t):=by
  intro t
  induction t with
  |zero=>exact⟨h5,rfl⟩
  |succ t ih=>refine⟨h1 _ ih.1,?_⟩;show N f n (L.getD (P.getD (Vk P t row) 0) 0)=_;rw[h8 _ ih.1];have:=St H _ _ ih.2;rwa[Ja]at this
 refine Yx fun t _=>?_
 have h:=hw<|t+1;rw[h2 _ h.1,←Ss H,h.2,Ss H,show L.getD row 0+(t+1)+n-1=L.getD row 0+t+n by omega,Og H]
end K
namespace K
def Ad(l:LN)(k:Nat):LN:=(List.range 256).map fun a=>Xx l k a
def Be(l:LN)(b:Nat):LN:=(List.range 256).map fun a=>if a<b then XR l a else l.count a
def Gc(l:LN)(k:Nat):LN:=(List.range 256).map fun a=>XR l a+Xx l k a
def Dt(f:Nat→Nat)(n b)(a:b<n):((List.range n).map f)[b]?=some (f b):=by simp[Xa a]
def Ot(f g)(n b x:Nat)(a:b<n)(hb:g b=x)(h:∀c,c≠b→g c=f c):((List.range n).map f).set b x=(List.range n).map g:=by
 apply Xo;intro d;rw[YO];simp only[QH,Vl]
 by_cases hi:b=d
 ·subst hi;rw[Qg rfl,Qg a,Dt _ _ _ a,hb]
 rw[Qf hi]
 by_cases e:d<n
 ·rw[Dt _ _ _ e,Dt _ _ _ e,h d fun a=>hi a.symm]
 rw[QX (by simp;omega),QX (by simp;omega)]
def jR(l k):(Be l k).length=256:=by simp[Be]
def tU(l):Ad l 0=List.replicate 256 0:=by unfold Ad;rw[show(fun a=>Xx l 0 a)=fun _=>0 from funext fun a=>TO l a,List.map_const',Vl]
def tS(l):Ad l l.length=Be l 0:=by
 unfold Ad Be;refine Yx fun a _=>?_
 rw[Mx,Qf<|by omega]
def tT(l k x)(a:l[k]?=some x)(b:x<256):(Ad l k).set x (Xx l k x+1)=Ad l (k+1):=by
 refine Ot _ _ _ _ _ b ?_ fun b c=>?_
 ·show Xx l (k+1) x=_;rw[Cf l k x x a,Qg rfl]
 show Xx l (k+1) b=Xx l k b;rw[Cf l k b x a,Qf fun a=>c a.symm];rfl
def Qhb(l b)(hb:b<256):(Be l b).set b (XR l b)=Be l (b+1):=by
 refine Ot _ _ _ _ _ hb ?_ fun a c=>?_
 ·show(if b<b+1 then XR l b else _)=_;rw[Qg<|by omega]
 show(if a<b+1 then XR l a else _)=if a<b then XR l a else _
 by_cases c:a<b
 ·rw[Qg c,Qg<|by omega]
 rw[Qf c,Qf<|by omega]
def Qha(l):Be l 256=Gc l 0:=by
 unfold Be Gc;refine Yx fun a hb=>?_
 rw[ZL]at hb;rw[TO,Qg hb];rfl
def Qb6(l k x)(b:l[k]?=some x)(a:x<256):(Gc l k).set x (XR l x+Xx l k x+1)=Gc l (k+1):=by
 refine Ot _ _ _ _ _ a ?_ fun a c=>?_
 ·show XR l x+Xx l (k+1) x=_;rw[Cf l k x x b,Qg rfl];omega
 show XR l a+Xx l (k+1) a=XR l a+Xx l k a;rw[Cf l k a x b,Qf fun b=>c b.symm];rfl
def CV(l:LN)(i:Nat)(P:LN):Prop:=P.length=l.length∧∀a,a<i→P[Uu l a]?=some a
def CV.step{l:LN}{i:Nat}{P:LN}(a:CV l i P)(hi:i<l.length):CV l (i+1) (P.set (Uu l i) i):=by
 refine⟨by rw[Jo,a.1],fun b c=>?_⟩;rw[YO]
 by_cases c:Uu l i=Uu l b
 ·have:=Qd5 l i b hi (by omega) c;subst this;rw[Qg rfl,Qg (by rw[a.1];exact Oo l i hi)]
 rw[Qf c];have:b≠i:=fun a=>c (by rw[a])
 exact a.2 b (by omega)
def CV.done{l P:LN}(hb:∀x∈l,x<256)(a:CV l l.length P):P=XG l 256:=Qdy l P hb a.1 a.2
end K
