import Derived.Deep.CutRange
import Derived.Test.YtickjpnkoppmgaaGreatDoorAl
import Derived.Test.YtickjpnkoppmgaaGreatDoorAm
set_option linter.all false
set_option maxHeartbeats 4000000
set_option maxRecDepth 100000
namespace Go.Proofs.YtickjpnkoppmgaaGreatDoor
open Go.Proofs.Tryz Go.RowKit K
section
open Go.Sort
def Nc(n:Nat):Prop:=∀(d g h l m e:Nat)(j:LN)(i:Array Nat)(c:WD),JN c d h l n e j->Qz c d g n i c->
 Calls prog 247 #[.slice d n g,XL (some ⟨h,l,none⟩) n m e] c fun h l=>h=.returned (.tuple #[])/\∃h,Qz c d g n h l/\PermIn 0 n i h/\SortedIn (Qv n j e) 0 n h
def jG(n f i h m d c)(hs:d.size=n)(l:d.toList.Perm (List.range n))(hp:PermIn 0 n d c)(q:SortedIn (Qv n i h) 0 n c)(hk:Et n f i h m):K.Ordered n f m c.toList:=by
 have g:c.size=n:=by rw[hp.1,hs]
 have e:(c.extract 0 n).toList=c.toList:=by rw[<-g];simp
 have g:(d.extract 0 n).toList=d.toList:=by rw[<-hs];simp
 have j:c.toList.Perm (List.range n):=by have:=hp.2.2;rw[e,g]at this;exact this.trans l
 refine⟨j,?_⟩;rw[JP];intro e g hi l o;have s:e<c.size:=by simpa using hi
 have t:g<c.size:=by simpa using l
 have p:c.toList.Nodup:=j.nodup_iff.2 Dy;have hne:c.toList[e]≠c.toList[g]:=JP.1 (show c.toList.Pairwise (· ≠ ·)from p) e g hi l o;have hlt:∀p∈c.toList,p<n:=fun p p=>ZR.1<|j.mem_iff.1 p
 have j:=q e g (Zv _) o ox;rw[getElem!_pos c e s,getElem!_pos c g t]at j;have o:c[e]=c.toList[e]:=sx
 have a2:c[g]=c.toList[g]:=sx
 rw[o,a2]at j;have o:=wX n f i h m hk c.toList[g] c.toList[e] (hlt _<|Yc l)<|hlt _<|Yc hi;have l:¬AG n i h c.toList[g] c.toList[e]<0:=Po j;rw[o]at l;unfold VF at l ⊢;omega
end
section
open Go.Sort
def Qdo(n)(c:n<=1000000000):∃c:Array VL,c.toList=List.replicate n (.int .i64 0)/\∀W:WD,(Instr.makeSlice 51 n n).run prog W=.ok (.slice (some ⟨W.heap.size,0,none⟩) n n) (W.alloc<|.cells c 3):=by
 obtain⟨c,hi,h0,d,e⟩:=VR XZ;refine⟨madeCells (Value.int .i64 0).cells<|n*c.size,?_,fun W=>?_⟩
 ·rw[d,show(Value.int .i64 0).cells=#[Value.int .i64 0]from rfl,RW,Sv]
 have:=run_make (P:=prog) W 51 3 c (0:Int) XP hi h0 .i64 .i64 n n ox ox (by rw[e];omega) ox;simpa using this
def pF(n:Nat)(l:LN)(w:WD)(e:Ending)(w':WD):Prop:=
 ∃c,e=.returned (.slice (some ⟨c,0,none⟩) n n)/\Qh w' 3 (.slice (some ⟨c,0,none⟩) n n) (Qi l)/\Qb [] w w'/\w.heap.size<=c
def SO(w0:WD)(h n:Nat)(e:LN)(d:Nat)(L:LN)(k:Nat)(v:VL)(w:WD):Prop:=
 ∃c,1<=c/\c<=n/\k=n-c/\v=.int .i64 (c:Nat)/\Qh w 3 (.slice h n n) (Qi (Yj n e d L (c-1)))/\Qb [h] w0 w
def uC(nb D g c s u z n e:Nat)(i L w)(d:w.cell? nb=some (.int .i64 (n:Int)))(E:w.cell? D=some (.slice g n c))(l:Qp w 1 g n (Qi L))(j:L.length=n)(t:∀x∈L,x<n)(y:Qp w 1 (some ⟨s,u,none⟩) n (Qi i))(M:i.length=n)(j:1<=n)(I:n<=1000000000)(G:e<=1000000000000):
 Calls prog 245 #[JJ (some ⟨s,u,none⟩) n z e,.pointer nb,.pointer D] w (pF n (Yj n i e L<|n-1) w):=by
 have j:Qb [] w (w.alloc<|.cells #[.slice (some ⟨s,u,none⟩) n z,(e:Int)] 333):=(Qc _ _).alloc _;have A:=Xq w<|.cells #[.slice (some ⟨s,u,none⟩) n z,(e:Int)] 333;have F:(w.alloc<|.cells #[.slice (some ⟨s,u,none⟩) n z,(e:Int)] 333).heap.size=w.heap.size+1:=sx
 have B:(w.alloc<|.cells #[.slice (some ⟨s,u,none⟩) n z,(e:Int)] 333).cell? nb=some (.int .i64 (n:Int)):=j.cZ d sx;have⟨q,m,p,v,C,o,H⟩:=qg A j d E l y t;unfold JJ;go_enter func245,ntmps245;go_wp2_with ((at_make;refine Jp rfl _ _ 51 rfl 3 (0:Int) 8 XP XZ rfl .i64 .i64 _ _ n n rfl rfl rfl rfl (Qk _) ox (by simp only[maxLen];omega) ?_;intro X j l));generalize w.alloc (.cells #[.slice (some ⟨s,u,none⟩) n z,(e:Int)] 333)=W0 at q m F B j l ⊢;rw[F]at j;generalize E:w.heap.size+1=h at j ⊢;have:w<h:=ox
 have F:Qh X 3 (.slice h n n) (Qi<|Yj n i e L 0):=by rw[show Qi (Yj n i e L 0)=List.replicate n (.int .i64 0)by simp[Yj,Qi]];exact j
 have:¬w=h:=ox
 have y:=l.heap q.o sx;have q:=m.o.new l (by simp[Qu]);have d:=Uc w _ p.o;have m:=Uc w _ v.o;have:g<w:=C.o.lt (by rw[QF];omega) g (by simp[fZ]);have:s<w:=o.o.lt (by rw[QF];omega) s (by simp[fZ]);simp only at d m;have m:∀(d:WD)(x:Nat),x<n->Qb [h] w d->Calls prog 246 #[.agg #[.slice (some ⟨s,u,none⟩) n z,(e:Int)],.int .i64 x] d fun J t=>J=.returned (.tuple #[.int .i64 (Xy i x:Nat),.int .i64 (Yk n i e x:Nat)])/\Qb [] d t:=by intro d x W hk;have:=key_ok s u n z e x i d (o.o.kept hk (by intro O A o;simp[fZ]at A;simp at o;omega)) M I W G;unfold JJ at this;exact this
 have⟨h1,h2,G,d⟩:=qd m q y F;have:=Qa E
 go_wp2
 go_loopg [6] (n-1) (fun k E wr=>SO X h n i e L k E wr)
 ·exact⟨1,ox,ox,rfl,rfl,d.o,Qc _ _⟩
 obtain⟨m,d,hi,hk,rfl,F,d⟩:=hrel;have j:Qb [h] w wr:=(h2.o.mono sx).trans d sx;have B:=j.cZ p.o zx;have q:=j.cZ v.o zx;have l:=d.heap G.o zx;have v:wr.cell? w=_:=ZD wr w 0 _ _ _ l;have y:wr.cell? ⟨w.heap.size,1,none⟩=_:=ZD wr w 1 _ _ _ l;simp at v y;have⟨I,h4,Z,G⟩:=qd hk F d j
 by_cases hlt:m<n
 ·have:(m:Int)<n:=ox
  obtain⟨p,F⟩:∃p,p+1=m:=⟨m-1,ox⟩;have T:m-1=p:=ox
  have:IntKind.i64.wrap ((m:Int)-1)=(p:Int):=by rw[Za _ ox];omega
  have:(p:Int)<n:=ox
  have S:=C.o.kept G.o (by intro O A o;simp[fZ]at A;simp at o;omega);have⟨j,hp⟩:=qx<|L.getD p 0;have⟨d,U⟩:=qx<|L.getD m 0;have M:L[p]?=some j:=by rw[<-hp,List.getD,Qj ox];rfl
  have O:L[m]?=some d:=by rw[<-U,List.getD,Qj ox];rfl
  have x1:j<n:=H.o j<|QB M;have x2:d<n:=H.o d<|QB O;have A:=S.natC M;have cq:=S.natC O;rw[Zu]at A cq;have o:Yj n i e L (p+1)=(Yj n i e L p).set d ((Yj n i e L p).getD j 0+AV n i e j d):=by rw[Yj,hp,F,U]
  rw[F]at o;have C:=h4.o;rw[T]at C;have h5:=Nv n i e L p;have Q:=WN n i e L p;generalize Yj n i e L p=P at o C h5 Q;have⟨l,V⟩:=qx<|P.getD j 0;have⟨E,h9⟩:=qx<|P.getD d 0;have R:P[j]?=some l:=by rw[<-V,List.getD,Qj ox];rfl
  have h8:P[d]?=some E:=by rw[<-h9,List.getD,Qj ox];rfl
  have:l<=p:=Q l<|QB R;rw[V]at o;have⟨Y,H,x0,h3⟩:=qd o C R h8;have:=Qa T;have:=Qa F;have:(j:Int)<n:=ox
  have:(d:Int)<n:=ox
  have:IntKind.i64.wrap ((l:Int)+1)=(l:Int)+1:=Za _ ox;go_wp2_with fail
  go_region_held3 (fun t=>Qb [] wr t/\t.cell? w=some (.slice (some ⟨s,u,none⟩) n z)/\t.cell? ⟨w.heap.size,1,none⟩=some (.int .i64 (e:Int))/\t.cell? D=some (.slice g n c)/\t.cell? ⟨g,p,none⟩=some (.int .i64 (j:Int)))
   (first|exact⟨Qc _ _,v,y,q,A⟩|exact⟨(Qc [] wr).drew,v,y,q,A⟩|exact⟨o,o.cZ v sx,o.cZ y sx,o.cZ q sx,o.cZ A sx⟩)
   (first|(go_fit(h1.o _ j x1<|G.o.drew);rintro J E⟨rfl,o⟩;have o:Qb [] wr E:=(Qc [] wr).drew.trans o sx))
  have v:=o.cZ v sx;have y:=o.cZ y sx;have q:=o.cZ q sx;have A:=o.cZ A sx;have cq:=o.cZ cq sx;have B:=o.cZ B sx;have F:=Qa o;go_wp2_with fail
  go_region_held3 (fun t=>Qb [] E t/\t.cell? w=some (.slice (some ⟨s,u,none⟩) n z)/\t.cell? ⟨w.heap.size,1,none⟩=some (.int .i64 (e:Int))/\t.cell? D=some (.slice g n c)/\t.cell? ⟨g,m,none⟩=some (.int .i64 (d:Int)))
   (first|exact⟨Qc _ _,v,y,q,cq⟩|exact⟨(Qc [] E).drew,v,y,q,cq⟩|exact⟨o,o.cZ v sx,o.cZ y sx,o.cZ q sx,o.cZ cq sx⟩)
   (first|(go_fit(h1.o _ d x2<|(G.o.trans F.o sx).drew);rintro J p⟨rfl,o⟩;have o:Qb [] E p:=(Qc [] E).drew.trans o sx))
  have q:=o.cZ q sx;have A:=o.cZ A sx;have cq:=o.cZ cq sx;have B:=o.cZ B sx;have u:Qb [] wr p:=F.o.trans o sx;have t:=H.o.kept u sx;have J:=t.aZ<|Vh _ _ _ x0.o;have v0:=t.aZ<|Vh _ _ _ h3.o;have G:=t.free d;have s:=t.put d<|.int .i64 (l:Int);have:¬g=h:=ox
  have:¬D=h:=ox
  have:=Qa t;have⟨D,E⟩:=qb (Z.o.trans u sx) s;go_wp2_with fail
  go_region
  have z:(P.set d l)[d]?=some l:=by rw[Je,Qg rfl,Qg (Qy.1 h3.o).1]
  have s:=E.o;rw[Rl]at s;have t:Qb [h] p (p.setCell ⟨h,d,none⟩<|.int .i64 (l:Int)).drew:=((Qc [h] p).setCell (p:=⟨h,d,none⟩) (.inl sx) _).drew;have o:Qh (p.setCell ⟨h,d,none⟩<|.int .i64 (l:Int)).drew 3 (.slice h n n) (Qi<|P.set d l):=s.drew;generalize (p.setCell ⟨h,d,none⟩<|.int .i64 (l:Int)).drew=w7 at t o ⊢;have:=t.cZ q zx;have:=t.cZ cq zx;have:=o.aZ<|Vh _ _ _ z;have:=o.free d;have p:=o.put d<|.int .i64 ((l+1:Nat):Int);rw[Rl,List.set_set]at p;have⟨E,F,u⟩:=qc p o (D.o.trans t sx)
  by_cases o:Cc n i e j d
  ·have p:AV n i e j d=1:=(by unfold AV;rw[Qg o]);have s:=Qa p;have t:((l+1:Nat):Int)=l+1:=ox;have z:=Qa t;unfold Cc at o;generalize Xy i j=p1 at o ⊢;generalize Xy i d=q1 at o ⊢;generalize Yk n i e j=p2 at o ⊢;generalize Yk n i e d=q2 at o ⊢;have fin:SO X h n i e L (n-(m+1)) (.int .i64<|(m:Int)+1) (w7.setCell ⟨h,d,none⟩<|.int .i64<|(l:Int)+1):=(by refine⟨m+1,ox,ox,rfl,by go_num,?_,u.o.setCell (p:=⟨h,d,none⟩) (.inl sx) _⟩;rw[U3,Y.o,s.o,<-z.o];exact E.o);have t:=Qa fin
   by_cases l:p1=q1
   ·have k1:((p1:Int) != (q1:Int))=false:=(by simp[l]);have z:(p1 != q1)=false:=(by simp[l]);have k2:((p2:Int) != (q2:Int))=true:=Rf.2 ox;have A:(p2 != q2)=true:=Rf.2 ox
    go_wp2
    go_roundg (n-(m+1))
    ·exact t.o
    have:=I.o;omega
   have k1:((p1:Int) != (q1:Int))=true:=Rf.2 ox;have z:(p1 != q1)=true:=Rf.2 ox
   go_wp2
   go_roundg (n-(m+1))
   ·exact t.o
   have:=I.o;omega
  have p:AV n i e j d=0:=by unfold AV;rw[Qf o]
  have s:=Qa p;unfold Cc at o;generalize Xy i j=p1 at o ⊢;generalize Xy i d=q1 at o ⊢;generalize Yk n i e j=p2 at o ⊢;generalize Yk n i e d=q2 at o ⊢;obtain⟨l,d⟩:p1=q1/\p2=q2:=ox
  have k1:((p1:Int) != (q1:Int))=false:=by simp[l]
  have z:(p1 != q1)=false:=by simp[l]
  have k2:((p2:Int) != (q2:Int))=false:=by simp[d]
  have A:(p2 != q2)=false:=by simp[d]
  go_wp2
  go_roundg (n-(m+1))
  ·refine⟨m+1,ox,ox,rfl,by go_num,?_,u.o⟩;rw[U3,Y.o,s.o,Jt];exact F.o
  have:=I.o;omega
 obtain rfl:m=n:=ox
 have C:=h4.o;have H:=Qa C
 go_wp2
 go_ret;exact⟨h,rfl,H.o,h2.o.new Z.o (by intro x W;simp at W;omega),ox⟩
end
section
open Go.Sort
def TE(W:WD)(n:Nat)(A e:LN)(g h c:Nat)(d:WD):Prop:=
 d.cell? c=some (.slice g n n)/\Qh d 3 (.slice g n n) (Qi A)/\Qh d 3 (.slice h n n) (Qi e)/\
  Qb [] W d/\W<=g/\W<=h/\W<=c/\g≠h/\g≠c/\h≠c
def TD(W:WD)(n:Nat)(g h:VL)(i:WD):Prop:=
 ∃e c d,g=.pointer (some ⟨d,0,none⟩)/\h=.slice (some ⟨c,0,none⟩) n n/\TE W n (List.replicate n 0) (List.replicate n 0) e c d i
def Qh.at_heap(W)(b n:Nat)(c)(d:c.toList=List.replicate n (.int .i64 0))(e:n<=1000000000)(hb:W.heap[b]?=some (.cells c 3 (0,0))):Qh W 3 (.slice b n n) (Qi<|List.replicate n 0):=by
 have hs:c.size=n:=by rw[<-RS,d];simp
 rw[show Qi (List.replicate n 0)=List.replicate n (.int .i64 0)by simp[Qi]];refine⟨sx,.inr ⟨b,n,_,sx,Zv _,hb,sx,by simp only[maxLen];omega,by simp[hs],?_⟩⟩;rw[d];simp
def Jo(W x d z p c r m)(e:W.heap.size=m):
 (((W.alloc<|.cells x p).alloc<|.cells d c).alloc<|.cells z r).heap[m]?=some (.cells x p (0,0))/\(((W.alloc<|.cells x p).alloc<|.cells d c).alloc<|.cells z r).heap[m+1]?=some (.cells d c (0,0))/\
 (((W.alloc<|.cells x p).alloc<|.cells d c).alloc<|.cells z r).heap[m+1+1]?=some (.cells z r (0,0))/\Qb [] W (((W.alloc<|.cells x p).alloc<|.cells d c).alloc<|.cells z r):=by
 subst e;have j:=Xq W<|.cells x p;have e:=Xq (W.alloc<|.cells x p)<|.cells d c;have g:=Xq ((W.alloc<|.cells x p).alloc<|.cells d c)<|.cells z r;have k1:Qb [] (W.alloc<|.cells x p) ((W.alloc<|.cells x p).alloc<|.cells d c):=(Qc _ _).alloc _;have k2:Qb [] ((W.alloc<|.cells x p).alloc<|.cells d c) (((W.alloc<|.cells x p).alloc<|.cells d c).alloc<|.cells z r):=(Qc _ _).alloc _;have h:(W.alloc<|.cells x p).heap.size=W.heap.size+1:=sx
 have i:((W.alloc<|.cells x p).alloc<|.cells d c).heap.size=W.heap.size+1+1:=sx
 rw[h]at e;rw[i]at g;exact⟨(k1.trans k2 sx).heap j sx,k2.heap e sx,g,(((Qc _ _).alloc _).alloc _).alloc _⟩
def Fq(W c n e g h d)(i:e.toList=List.replicate n (.int .i64 0))(j:n<=1000000000)(hk:Qb [] W c)(l:c.heap[g]?=some (.cells e 3 (0,0)))(hh:c.heap[h]?=some (.cells e 3 (0,0)))(m:c.heap[d]?=some (.cells #[.slice g n n] 51 (0,0)))(a:W.heap.size<=g/\W.heap.size<=h/\W.heap.size<=d/\g≠h/\g≠d/\h≠d):
 TD W n (.pointer d) (.slice h n n) c.drew:=by
 refine⟨g,h,d,rfl,rfl,?_,(Qh.at_heap c g n e i j l).drew,(Qh.at_heap c h n e i j hh).drew,hk.drew,a.1,a.2.1,a.2.2.1,a.2.2.2.1,a.2.2.2.2.1,a.2.2.2.2.2⟩;have:=ZD c d 0 _ _ _ m;simpa using this
structure MT(w1:WD)(n:Nat)(f:Nat->Nat)(g rr rb kby m:Nat)(rank L:LN)(w:WD):Prop where
 lo:1<=m
 hi:m<=2*n
 cells:Qe w rr 333 [.slice rb n n,(kby:Nat)]
 sees:Qp w 1 rb n (Qi rank)
 len:rank.length=n
 small:∀x∈rank,x<1000000000
 by12:kby<=2*n
 row:Qh w 3 (.slice g n n) (Qi L)
 perm:L.Perm (List.range n)
 key:Et n f rank kby m
 ne1:rb≠g
 ne2:rb≠rr
 kept:Qb [g,rr] w1 w
def Qf2{L:LN}{n}(h:L.Perm (List.range n)):∀i,i<n->L.toArray[i]!<n:=by
 intro i hi;have c:L=n:=by rw[h.length_eq,VK]
 rw[getElem!_pos L.toArray i<|by simpa[c]using hi];exact ZR.1 (h.mem_iff.1 sx)
def lV(A d x):(A++List.replicate (d+1) 0).set A.length x=A++[x]++List.replicate d 0:=by rw[JB,QR,V2 _ _<|Qk _,ZM];rfl
def Qfe(s:BA)(w)(hs:s.size<=1000000)(r2:Nc s.size):Calls prog 200 #[s] w fun e w'=>
 ∃g L,e=.returned (.slice (some ⟨g,0,none⟩) s.size s.size)/\K.Ordered s.size (K.fS s) s.size L/\Qh w' 3 (.slice (some ⟨g,0,none⟩) s.size s.size) (Qi L)/\Qb [] w w'/\w.heap.size<=g:=by
 obtain⟨Z,hZ,d9⟩:=Qdo s.size ox;have y6:(w.alloc<|.cells #[(s.size:Int)] 3).cell? w=some (.int .i64 (s.size:Int)):=sx
 have⟨r0,HZ⟩:=qb r2 hZ;go_enter func200,ntmps200
 go_upto_region 2 with(fail)
 have p6:Qb [] w (w.alloc<|.cells #[(s.size:Int)] 3):=(Qc _ _).alloc _;generalize hW:w.alloc (.cells #[(s.size:Int)] 3)=W at y6 p6 ⊢;have q:W.heap.size=w.heap.size+1:=by rw[<-hW];simp
 have⟨HW,q6⟩:=qb hW p6
 go_cut [4,5] (fun s4 s5 wc=>TD W s.size s4 s5 wc)
 ·go_region_held3 (fun w'=>w'.cell? w=some (.int .i64 (s.size:Int))) (first|(refine Qb.cZ (w:=W) (S:=[]) ?_ y6 sx;repeat (first|exact Qc _ _|refine Qb.drew ?_|refine Qb.alloc ?_ _|refine Qb.setCell ?_ (.inr (by simp;try omega)) _))) (fail)
  all_goals
   go_wp2
   go_meet
   first
    |exact Fq W _ _ Z _ _ _ HZ.o ox (Jo W _ _ _ _ _ _ (w.heap.size+1) q).2.2.2 (Jo W _ _ _ _ _ _ (w.heap.size+1) q).1 (Jo W _ _ _ _ _ _ (w.heap.size+1) q).2.1 (Jo W _ _ _ _ _ _ (w.heap.size+1) q).2.2.1 ox
    |exact Fq W _ _ Z _ _ _ HZ.o ox (Jo W _ _ _ _ _ _ (w.heap.size+1) q).2.2.2 (Jo W _ _ _ _ _ _ (w.heap.size+1) q).1 (Jo W _ _ _ _ _ _ (w.heap.size+1) q).2.2.1 (Jo W _ _ _ _ _ _ (w.heap.size+1) q).2.1 ox
    |exact Fq W _ _ Z _ _ _ HZ.o ox (Jo W _ _ _ _ _ _ (w.heap.size+1) q).2.2.2 (Jo W _ _ _ _ _ _ (w.heap.size+1) q).2.1 (Jo W _ _ _ _ _ _ (w.heap.size+1) q).1 (Jo W _ _ _ _ _ _ (w.heap.size+1) q).2.2.1 ox
    |exact Fq W _ _ Z _ _ _ HZ.o ox (Jo W _ _ _ _ _ _ (w.heap.size+1) q).2.2.2 (Jo W _ _ _ _ _ _ (w.heap.size+1) q).2.1 (Jo W _ _ _ _ _ _ (w.heap.size+1) q).2.2.1 (Jo W _ _ _ _ _ _ (w.heap.size+1) q).1 ox
    |exact Fq W _ _ Z _ _ _ HZ.o ox (Jo W _ _ _ _ _ _ (w.heap.size+1) q).2.2.2 (Jo W _ _ _ _ _ _ (w.heap.size+1) q).2.2.1 (Jo W _ _ _ _ _ _ (w.heap.size+1) q).1 (Jo W _ _ _ _ _ _ (w.heap.size+1) q).2.1 ox
    |exact Fq W _ _ Z _ _ _ HZ.o ox (Jo W _ _ _ _ _ _ (w.heap.size+1) q).2.2.2 (Jo W _ _ _ _ _ _ (w.heap.size+1) q).2.2.1 (Jo W _ _ _ _ _ _ (w.heap.size+1) q).2.1 (Jo W _ _ _ _ _ _ (w.heap.size+1) q).1 ox
 obtain⟨g,h,ob,rfl,rfl,ho,hg,hh,hk,p4,p5,a8,r6,r7,r9⟩:=hcut;have n0:=hk.cZ y6 sx;have h9:s.data.toList.length=s.size:=Zr s;have⟨HO,HG,HH,HK,HN⟩:=qe ho hg hh hk n0
 go_wp2
 go_loopg [17] s.size (fun k v wr=>∃i,i<=s.size/\k=s.size-i/\v=.int .i64 (i:Nat)/\Hid (TE W s.size (List.range i++List.replicate (s.size-i) 0) ((Yz s).take i++List.replicate (s.size-i) 0) g h ob wr)/\Hid (Qb [g,h] wc wr))
 ·exact⟨0,ox,ox,rfl,Qa ⟨HO.o,HG.o,HH.o,HK.o,p4,p5,a8,r6,r7,r9⟩,Qa<|Qc _ _⟩
 obtain⟨i,hi,hk,rfl,HS,z7⟩:=hrel;have Hk:=Qa hk
 by_cases hlt:i<s.size
 ·have f5:(i:Int)<s.size:=ox
  obtain⟨ho,h8,h1,hk,-,-,-,-,-,-⟩:=HS.o;obtain⟨d,hd⟩:∃d,s.size-i=d+1:=⟨s.size-i-1,ox⟩;have r3:s.size-(i+1)=d:=ox
  have p3:((Yz s).take i).length=i:=by rw[Zd,Yz,QH,h9];omega
  have q0:(List.range i).length=i:=VK;have r5:(Yz s)[i]?=some (s[i].toNat):=by rw[Yz,Zz,Qj ox];have:=CM s i hlt;rw[List.getD,Qj ox]at this;simp only[V9]at this;rw[this];rfl
  have b5:(Yz s).take (i+1)=(Yz s).take i++[s[i].toNat]:=by rw[Zh,r5];rfl
  have p8:=h8.put i<|.int .i64 (i:Nat);have p9:=(Qh.setCell h1 (p:=⟨g,i,none⟩) (by simp[Qd,qo];omega)<|.int .i64 (i:Nat)).put i<|.int .i64 (s[i].toNat:Nat);have s1:=lV (List.range i) d i;rw[q0]at s1;have s2:=lV ((Yz s).take i) d s[i].toNat;rw[p3]at s2;rw[Rl,hd,s1,<-J5]at p8;rw[Rl,hd,s2,<-b5]at p9;have og:=h8.aZ (j:=i) (u:=.int .i64 (0:Nat))<|Vh _ _ _ (by rw[hd,Zm ox,q0,ZM];rfl);have oh:=h1.aZ (j:=i) (u:=.int .i64 (0:Nat))<|Vh _ _ _ (by rw[hd,Zm ox,p3,ZM];rfl);have fg:=h8.free i;have fh:=h1.free i;have n1:=z7.o.cZ HN.o zx;have⟨d1,q7,y0,y1,b8⟩:=qe p8 p9 hk ho r3;have⟨b,hb⟩:=qx<|s[i].toNat;have e7:b<256:=by rw[<-hb];exact Rc _
  have g9:IntKind.i64.wrap (b:Int)=(b:Int):=Za _ ox;have i1:wrap64 (b:Int)=(b:Int):=by unfold wrap64;omega
  rw[hb]at q7;go_wp2_with fail
  go_region
  all_goals
   go_wp2
   go_roundg (s.size-(i+1))
   ·refine⟨i+1,ox,rfl,by go_num,?_,Qa ?_⟩
    ·rw[b8.o];refine Qa ⟨?_,?_,?_,?_,p4,p5,a8,r6,r7,r9⟩
     ·exact((((Qc [g,h] wr).setCell (p:=⟨g,i,none⟩) (.inl sx) _).setCell (p:=⟨h,i,none⟩) (.inl sx) _).drew).cZ y1.o zx
     ·exact(Qh.setCell d1.o (p:=⟨h,i,none⟩) (by simp[Qd,qo];omega) _).drew
     ·exact q7.o.drew
     exact((y0.o.setCell (p:=⟨g,i,none⟩) (.inr<|by simpa using p4) _).setCell (p:=⟨h,i,none⟩) (.inr<|by simpa using p5) _).drew
    exact(((z7.o.setCell (p:=⟨g,i,none⟩) (.inl sx) _).setCell (p:=⟨h,i,none⟩) (.inl sx) _).drew)
   have:=Hk.o;omega
 obtain rfl:i=s.size:=ox
 obtain⟨ho,h8,h1,hk,-,-,-,-,-,-⟩:=HS.o;rw[ZM,Dz,XX]at h8 h1;rw[Q5 (by rw[Yz,QH,h9];exact Qk _)]at h1;have n1:=z7.o.cZ HN.o zx;have⟨y0,z8,q8,y1⟩:=qd hk h8 h1 ho
 by_cases hz:s.size=0
 ·have q1:(s.size:Int)=0:=ox
  have e4:((s.size:Int)==0)=true:=beq_iff_eq.2 q1
  go_wp2
  go_ret;refine⟨g,List.range s.size,by rw[hz];rfl,⟨List.Perm.refl _,?_⟩,z8.o,q6.o.new y0.o<|by simp[Qu],ox⟩;rw[hz];exact List.Pairwise.nil
 have q1:¬(s.size:Int)=0:=ox
 have e4:((s.size:Int)==0)=false:=Ze.2 q1;go_wp2_with fail;have b6:(wr.alloc<|.cells #[.slice h s.size s.size,(0:Int)] 333).heap.size=wr.heap.size+1:=sx
 have x0:Qb [] wr (wr.alloc<|.cells #[.slice h s.size s.size,(0:Int)] 333):=(Qc _ _).alloc _;have hra:=Xq wr<|.cells #[.slice h s.size s.size,(0:Int)] 333;generalize wr.alloc (.cells #[.slice h s.size s.size,(0:Int)] 333)=w1 at b6 x0 hra ⊢;generalize x5:wr.heap.size=rr at b6 hra ⊢;have f2:g<rr:=by rw[<-x5];exact z8.o.lt g (by simp[Qd,qo])
 have f4:h<rr:=by rw[<-x5];exact q8.o.lt h (by simp[Qd,qo])
 have g6:ob<rr:=by rw[<-x5];exact Uc wr _ y1.o
 have g0:w.heap.size<rr:=by rw[<-x5];exact Uc wr _ n1
 have b1:(List.range s.size).Perm (List.range s.size):=List.Perm.refl _;have a1:=Qcw s.size (K.fS s) (Yz s) (by have:=zY s;rwa[h9]at this);have b3:∀x∈Yz s,x<1000000000:=by intro x hx;simp only[Yz,QA]at hx;obtain⟨b,-,rfl⟩:=hx;have:=Rc b;omega
 have b4:MT w1 s.size (K.fS s) g rr h 0 1 (Yz s) (List.range s.size) w1:=
  ⟨Qk _,ox,hra,(q8.o.kept x0 sx).sZ,by rw[Yz,QH,h9],b3,ox,z8.o.kept x0 sx,b1,a1,ox,ox,Qc _ _⟩
 have⟨d4,c8,d0,c6,e5⟩:=qe b4 (x0.cZ n1 sx) (x0.cZ y1.o sx) (q6.o.new (y0.o.new x0<|by simp[Qu])<|by simp[Qu]) x5
 go_loopg [9] (2*s.size-1) (fun k v wx=>∃rb h2 m h4 L,k+m=2*s.size/\v=.int .i64 (m:Nat)/\Hid (MT w1 s.size (K.fS s) g rr rb h2 m h4 L wx))
 ·exact⟨h,0,1,_,_,ox,rfl,d4⟩
 obtain⟨rb,h2,m,h4,L,hk,rfl,o⟩:=hrel;have Hk:=Qa hk;have f7:=o.o.lo;have f8:=o.o.hi;have e6:=o.o.by12;have e0:=o.o.cells.cq 0;have e1:=o.o.cells.cq 1;have n1:=o.o.kept.cZ c8.o zx;have o1:=o.o.kept.cZ d0.o zx;have x2:=r0.o g s.size rb 0 s.size h2 h4 L.toArray wr ⟨o.o.sees,o.o.len,o.o.small,ox,ox,o.o.ne1⟩ ⟨o.o.row,by have:=o.o.perm.length_eq;simpa using this,Qf2 o.o.perm,Qc _ _⟩;unfold XL JJ at x2;have y2:=Qa x2;go_wp2_with fail;go_fit y2.o;rintro e w2⟨rfl,d',h5,x7,x8⟩;have d6:L.length=s.size:=by rw[o.o.perm.length_eq,VK]
 have x1:=jG s.size (K.fS s) h4 h2 m L.toArray d' (by simpa using d6) (by simpa using o.o.perm) x7 x8 o.o.key;have y3:=o.o.cells.kept h5.kept zx;have e0:=y3.cq 0;have e1:=y3.cq 1;have n1:=h5.kept.cZ n1 zx;have o1:=h5.kept.cZ o1 zx;have g2:=o.o.ne1;have g5:=o.o.ne2;have r1:=o.o.sees.kept h5.kept (by intro y hy hm;simp[fZ]at hy;simp at hm;omega);have p2:=uC w.heap.size ob g s.size rb 0 s.size s.size h2 h4 d'.toList w2 n1 o1 h5.row.sZ x1.len x1.lt r1 o.o.len ox ox ox;unfold JJ at p2;have⟨q4,x6,q3,q9,b9⟩:=qe p2 x1 y3 h5.row h5.kept;go_wp2_with fail;go_fit q4.o;rintro e w3⟨h3,rfl,b2,x9,e9⟩;have x3:=q3.o.kept x9 sx;have e0:=x3.cq 0;have e1:=x3.cq 1;have f0:=x3.free 0;have f1:=x3.free 1;have n1:=x9.cZ n1 sx;have o1:=x9.cZ o1 sx;have⟨d3,q5,b7⟩:=qc b2 x9 x3;have p0:=(b7.o.set 0<|.slice h3 s.size s.size).set 1<|.int .i64 (m:Nat);have x4:Qb [rr] w3 ((w3.setCell ⟨rr,0,none⟩<|.slice h3 s.size s.size).setCell ⟨rr,1,none⟩<|.int .i64 (m:Nat)):=((Qc [rr] w3).setCell (p:=rr) (.inl sx) _).setCell (p:=⟨rr,1,none⟩) (.inl sx) _;have g7:rr<w2.heap.size:=q3.o.lt;have z1:=(d3.o.kept x4 (by simp[Qd,qo];omega)).sZ;have y5:=(q9.o.kept q5.o sx).kept x4 (by simp[Qd,qo];omega);have y7:Qb [g,rr] w1 ((w3.setCell ⟨rr,0,none⟩<|.slice h3 s.size s.size).setCell ⟨rr,1,none⟩<|.int .i64 (m:Nat)):=
  ((o.o.kept.trans b9.o sx).trans q5.o sx).trans x4 sx
 have y8:=Qcx s.size (K.fS s) (GB _) (fun i=>by have:=KI s i;rwa[h9]at this) _ m<|uD s.size (K.fS s) h4 h2 m o.o.key d'.toList x6.o;have z6:∀x∈Yj s.size h4 h2 d'.toList (s.size-1),x<1000000000:=fun x hx=>by have:=WN _ _ _ _ _ x hx;omega
 have y9:=Nv s.size h4 h2 d'.toList<|s.size-1;have f3:g<w2.heap.size:=q9.o.lt g (by simp[Qd,qo]);obtain⟨a7,e2⟩:h3≠g/\h3≠rr:=ox
 generalize Yj s.size h4 h2 d'.toList (s.size-1)=rank4 at*
 have p1:Qe ((w3.setCell ⟨rr,0,none⟩<|.slice h3 s.size s.size).setCell ⟨rr,1,none⟩<|.int .i64 (m:Nat)) rr 333 [.slice h3 s.size s.size,.int .i64 (m:Nat)]:=p0;have o4:=x4.cZ o1 zx
 by_cases e8:s.size<=m
 ·have d8:(s.size:Int)<=m:=ox
  have d7:decide (s.size<=m)=true:=zx
  have r4:d'.size=s.size:=by have:=x6.o.len;simpa using this
  have x2:=r0.o g s.size h3 0 s.size m rank4 d' _ ⟨z1,y9,z6,ox,ox,a7⟩ ⟨y5,r4,fun i hi=>by rw[getElem!_pos d' i ox];exact x6.o.lt _ sx,Qc _ _⟩;unfold XL JJ at x2;have⟨y2,c7,c4⟩:=qc x2 y8 y7;go_wp2_with fail;go_fit y2.o;rintro e w5⟨rfl,d5,y4,x7,x8⟩;have x1:=jG s.size (K.fS s) rank4 m (m+m) d' d5 r4 x6.o.perm x7 x8 c7.o;have p7:=K.Ordered.more (s:=s.data.toList) (m:=m+m) (L:=d5.toList) ox ox (by rwa[h9]);rw[h9]at p7;have o5:=y4.kept.cZ o4 zx;have⟨d2,c5,HM⟩:=qc y4.row y4.kept p7
  go_wp2
  go_ret;refine⟨g,d5.toList,rfl,HM.o,d2.o,c6.o.trans (c4.o.trans c5.o sx) ?_,ox⟩;intro x hx;have e3:w.heap.size<=g:=ox
  simp at hx;rcases hx with rfl|rfl
  ·exact .inr e3
  exact .inr ox
 have d8:¬(s.size:Int)<=m:=ox
 have d7:decide (s.size<=m)=false:=zx
 have f9:IntKind.i64.wrap ((m:Int)*2)=((m+m:Nat):Int):=by rw[Za _ ox];omega
 have a6:MT w1 s.size (K.fS s) g rr h3 m (m+m) rank4 d'.toList ((w3.setCell ⟨rr,0,none⟩<|.slice h3 s.size s.size).setCell ⟨rr,1,none⟩<|.int .i64 (m:Nat)):=
  ⟨ox,ox,p1,z1,y9,z6,ox,y5,x6.o.perm,y8,a7,e2,y7⟩
 have c9:=Qa a6
 go_wp2
 go_roundg (2*s.size-(m+m))
 ·exact⟨h3,m,m+m,rank4,d'.toList,ox,by go_num,c9⟩
 have:=Hk.o;omega
end
section
open Go.Sort

end

section
open Go.Sort

end
namespace K
def Ye(l:LN)(b:Nat):Nat:=l.countP (· <b)
def XK(l:LN)(k b:Nat):Nat:=(l.take k).count b
def US(l:LN)(i:Nat):Nat:=Ye l (l.getD i 0)+XK l i (l.getD i 0)
def Rm(l:LN)(b k:Nat):LN:=(List.range k).filter fun c=>l.getD c 0==b
def XV(l:LN)(b:Nat):LN:=(List.range b).flatMap fun c=>Rm l c l.length
def aM(l):Ye l 0=0:=by simp[Ye]
def ES(l b):Ye l (b+1)=Ye l b+l.count b:=by
 unfold Ye
 induction l with
 |nil=>rfl
 |cons x l ih=>
  rw[Mx,Mx,List.count_cons,ih]
  by_cases e:x<b
  ·have c:x<b+1:=ox;have d:(x==b)=false:=zx;simp[e,c,d];omega
  by_cases c:x=b
  ·subst c;simp;omega
  have d:(x==b)=false:=by simpa using c
  have c:¬x<b+1:=ox
  simp[e,d,c]
def NG(l b):Ye l b<=l.length:=List.countP_le_length
def aJ(l b):XK l 0 b=0:=by simp[XK]
def CO(l k b x)(h:l[k]?=some x):XK l (k+1) b=XK l k b+if x=b then 1 else 0:=by
 unfold XK;rw[Zh,h,List.count_append]
 by_cases c:x=b
 ·subst c;simp
 simp[c]
def ND(l b):XK l l.length b=l.count b:=by simp[XK]
def NF(l b){i k}(h:i<=k):XK l i b<=XK l k b:=by
 unfold XK;have:l.take i=(l.take k).take i:=by rw[List.take_take,Iy h]
 rw[this];exact(MJ i<|l.take k).count_le _
def NE(l i x)(h:l[i]?=some x):XK l i x<l.count x:=by have c:=CO l i x x h;have d:=NF l x (i:=i+1) (k:=l.length) (yx ((Qy.1 h).1));rw[ND]at d;simp at c;omega
def aK(l){a b}(h:a<=b):Ye l a<=Ye l b:=by
 induction b with
 |zero=>obtain rfl:a=0:=ox
        exact Qk _
 |succ b ih=>
  by_cases c:a=b+1
  ·subst c;exact Qk _
  have:=ih ox;rw[ES];omega
def PG(l i)(h:i<l.length):US l i<l.length:=by
 unfold US;have c:l[i]?=some (l.getD i 0):=by rw[List.getD,Qj h];rfl
 generalize l.getD i 0=x at*
 have:=NE l i x c;have:=ES l x;have:=NG l<|x+1;omega
def Qgn(l i j)(hi:i<l.length)(c:j<l.length)(h:US l i=US l j):i=j:=by
 have d:l[i]?=some (l.getD i 0):=by rw[List.getD,Qj hi];rfl
 have e:l[j]?=some (l.getD j 0):=by rw[List.getD,Qj c];rfl
 unfold US at h;generalize l.getD i 0=x at*
 generalize l.getD j 0=y at*
 have:=NE l i x d;have:=NE l j y e;have:=ES l x;have:=ES l y;have g:x=y:=by
  rcases CF x y with c|c|c
  ·have:=aK l (a:=x+1) (b:=y) ox;omega
  ·exact c
  have:=aK l (a:=y+1) (b:=x) ox;omega
 subst g;have c:=CO l i x x d;have h6:=CO l j x x e;rw[Qg rfl]at c h6;rcases CF i j with h7|h7|h7
 ·have:=NF l x (i:=i+1) (k:=j) ox;omega
 ·exact h7
 have:=NF l x (i:=j+1) (k:=i) ox;omega
def Pn(l b k x)(h:l[k]?=some x):Rm l b (k+1)=Rm l b k++if x=b then [k]else []:=by
 unfold Rm;have:l.getD k 0=x:=by rw[List.getD,h];rfl
 rw[J5,Ba]
 by_cases c:x=b
 ·subst c;simp[this,-List.getD_eq_getElem?_getD]
 simp[this,c,-List.getD_eq_getElem?_getD]
def Pm(l b):∀k,k<=l.length->(Rm l b k).length=XK l k b
 |0,_=>by simp[Rm,XK]
 |k+1,h=>by
  have c:l[k]?=some l[k]:=Qj ox;rw[Pn l b k _ c,CO l k b _ c,Qo,Pm l b k ox]
  split<;>rfl
def Hj(l b):XV l (b+1)=XV l b++Rm l b l.length:=by unfold XV;rw[J5,Mz];simp
def LZ(l):∀b,(XV l b).length=Ye l b
 |0=>by simp[XV,aM]
 |b+1=>by rw[Hj,Qo,LZ l b,Pm l b _<|Qk _,ND,ES]
def Lk(l b k i):i∈Rm l b k↔i<k/\l.getD i 0=b:=by simp[Rm,-List.getD_eq_getElem?_getD]
def GS(l b i):i∈XV l b↔i<l.length/\l.getD i 0<b:=by
 unfold XV;simp only[List.mem_flatMap,ZR,Lk];constructor
 ·rintro⟨c,d,c,e⟩;exact⟨c,ox⟩
 rintro⟨d,c⟩;exact⟨_,c,d,rfl⟩
def Qe4(l b k):(Rm l b k).Nodup:=List.Nodup.sublist (Tg) Dy
def Sk(l):∀b,(XV l b).Nodup
 |0=>by simp[XV]
 |b+1=>by rw[Hj,CC];refine⟨Sk l b,Qe4 _ _ _,fun c c d d=>?_⟩;rw[GS]at c;rw[Lk]at d;rintro rfl;omega
def mO(l a):∀b,a<=b->∃r,XV l b=XV l a++r
 |0,h=>by obtain rfl:a=0:=ox
          exact⟨[],sx⟩
 |b+1,h=>by
  by_cases c:a=b+1
  ·subst c;exact⟨[],sx⟩
  obtain⟨r,c⟩:=mO l a b ox;exact⟨r++Rm l b l,by rw[Hj,c,QR]⟩
def jA(l b i):∀k,i<=k->k<=l.length->∃r,Rm l b k=Rm l b i++r
 |0,h,_=>by obtain rfl:i=0:=ox
            exact⟨[],sx⟩
 |k+1,h,hk=>by
  by_cases c:i=k+1
  ·subst c;exact⟨[],sx⟩
  obtain⟨r,c⟩:=jA l b i k ox ox;exact⟨_,by rw[Pn l b k _<|Qj ox,c,QR]⟩
def Qja(l c i)(h:i<l.length)(d:l.getD i 0<c):(XV l c)[US l i]?=some i:=by
 have e:l[i]?=some (l.getD i 0):=by rw[List.getD,Qj h];rfl
 unfold US;generalize l.getD i 0=x at*
 obtain⟨r,d⟩:=mO l (x+1) c ox;obtain⟨c,c⟩:=jA l x (i+1) l ox<|Qk _;rw[d,Hj,c,Pn l x i x e,Qg rfl];have c:=LZ l x;have d:=Pm l x i ox;rw[QR,QR,QR,Zm ox,c,Zm ox,d];simp
def Qgg(l P)(hb:∀x∈l,x<256)(c:P.length=l.length)(h:∀j,j<l.length->P[US l j]?=some j):P=XV l 256:=by
 have:∀c,c<l.length->l.getD c 0<256:=by intro c hi;rw[List.getD,Qj hi];exact hb _<|Yc hi
 have:(XV l 256).length=l.length:=by rw[LZ];unfold Ye;rw[Td];intro x c;simpa using hb x c
 apply XB;intro c
 by_cases hp:c<l
 ·have e:=Qj (l:=XV l 256) (i:=c) ox;generalize (XV l 256)[c]' ox=j at e;have d:j∈XV l 256:=QB e;rw[GS]at d;have i:=Qja l 256 j d.1 d.2;have m:US l j=c:=by
   have:=PG l j d.1;have n:=Sk l 256;have g:=(Qy.1 i).2;have a2:=(Qy.1 e).2;have hne:=JP.1<|show(XV l 256).Pairwise (· ≠ ·)from n;rcases CF (US l j) c with c|c|c
   ·exact absurd (g.trans a2.symm)<|hne _ _ _ _ c
   ·exact c
   exact absurd (a2.trans g.symm)<|hne _ _ _ _ c
  rw[e,<-m];exact h j d.1
 rw[QU ox,QU ox]
def VS(l P:LN):Nat->Nat->LN
 |0,_=>[]
 |k+1,p=>l.getD (P.getD p 0) 0::VS l P k (P.getD p 0)
def VI(P:LN):Nat->Nat->Nat
 |0,p=>p
 |k+1,p=>P.getD (VI P k p) 0
def oO(P):∀k p,VI P (k+1) p=VI P k (P.getD p 0)
 |0,p=>rfl
 |k+1,p=>by rw[VI,oO P k p];rfl
def Lx(l P):∀k p,VS l P k p=(List.range k).map fun t=>l.getD (VI P (t+1) p) 0
 |0,p=>rfl
 |k+1,p=>by
  rw[VS,Lx l P k,List.range_succ_eq_map,QV,Xv]
  congr 1
  refine YT fun t _=>?_
  simp only[Function.comp];rw[Nat.succ_eq_add_one,oO P (t+1) p]
def Qg1(l P k p):VS l P (k+1) p=VS l P k p++[l.getD (VI P (k+1) p) 0]:=by rw[Lx,Lx,J5,XC];rfl
end K
namespace K
def mM(l):∀c,(XV l c).Pairwise fun a b=>l.getD a 0<l.getD b 0\/(l.getD a 0=l.getD b 0/\a<b)
 |0=>by simp[XV]
 |c+1=>by
  rw[Hj,ED];refine⟨mM l c,?_,fun d e d g=>?_⟩
  ·have d:(Rm l c l.length).Pairwise (· < ·):=List.Pairwise.sublist Tg List.pairwise_lt_range;refine Tc (fun {a b} ha hb hlt=>?_) d;rw[Lk]at ha hb;exact .inr ⟨ox,hlt⟩
  rw[GS]at e;rw[Lk]at g;exact .inl ox
def mN(l)(hb:∀x∈l,x<256):(XV l 256).Perm (List.range l.length):=by
 refine(To (Sk l 256) Dy).2 fun a=>?_
 rw[GS,ZR];refine⟨fun c=>c.1,fun c=>⟨c,?_⟩⟩;rw[List.getD,Qj c];exact hb _<|Yc c
def Z8(n:Nat)(f:Nat->Nat)(L:LN):LN:=L.map fun c=>f (c+n-1)
structure Per(n:Nat)(f:Nat->Nat):Prop where
 hf:∀i,f i<256
 hp:∀i,f (i%n)=f i
 h0:0<n
def Py{n f}(c:Per n f)(i):f (i+n)=f i:=by rw[<-c.hp (i+n),DE,c.hp]
def Tt{n f}(c:Per n f)(m i):N f m (i+n)=N f m i:=by rw[<-FY f n c.hp m (i+n),DE,FY f n c.hp]
def MZ{n f}(d:Per n f)(i):N f n i=f i*256^(n-1)+N f (n-1) (i+1):=by have c:=EH f 1 i<|n-1;rw[Iu,show 1+(n-1)=n by have:=d.h0;omega]at c;exact c
def ID{n f}(c:Per n f)(i):N f n i=N f (n-1) i*256+f (i+n-1):=by have d:=EH f (n-1) i 1;rw[Iu,show n-1+1=n by have:=c.h0;omega,Nat.pow_one,show i+(n-1)=i+n-1 by have:=c.h0;omega]at d;exact d
def TH{n f}(c:Per n f)(i):N f n i%256=f (i+n-1):=by have:=c.hf<|i+n-1;rw[ID c i];omega
def TJ{n f}(c:Per n f)(i):N f n (i+n-1)=f (i+n-1)*256^(n-1)+N f n i/256:=by
 have d:=MZ c<|i+n-1;rw[show i+n-1+1=i+n by have:=c.h0;omega,Tt c]at d;have:=ID c i;have:=c.hf<|i+n-1;have c:N f n i/256=N f (n-1) i:=ox
 rwa[c]
def TI{n f}(c:Per n f)(a b)(h:N f n a=N f n b):N f n (a+1)=N f n (b+1):=by
 have ha:=MZ c a;have hb:=MZ c b;have g:=DD f c.hf (n-1)<|a+1;have i:=DD f c.hf (n-1)<|b+1;have a2:=ID c<|a+1;have d:=ID c<|b+1;rw[show a+1+n-1=a+n by have:=c.h0;omega,Py c]at a2;rw[show b+1+n-1=b+n by have:=c.h0;omega,Py c]at d;rw[ha,hb]at h;generalize 256^(n-1)=M at*
 have e:f a=f b:=by
  rcases CF (f a) (f b)with c|c|c
  ·have:=(GO (A:=f a) (C:=f b) g i).2 (.inl c);omega
  ·exact c
  have:=(GO (A:=f b) (C:=f a) i g).2 (.inl c);omega
 rw[e]at h;have c:N f (n-1) (a+1)=N f (n-1) (b+1):=ox
 rw[a2,d,e,c]
def Qkn{n}(h0:0<n):((List.range n).map fun i=>(i+n-1)%n).Perm (List.range n):=by
 refine(To ?_ Dy).2 fun a=>?_
 ·rw[List.Nodup,Rw];refine Tc (fun {a b} ha hb hlt=>?_) List.pairwise_lt_range;rw[ZR]at ha hb;intro d;rcases Rx a with c|c
  ·subst c;rw[XH ox]at d;rw[(ox:b+n-1=b-1+n),DE,XH ox]at d;omega
  rw[(ox:a+n-1=a-1+n),(ox:b+n-1=b-1+n),DE,DE,XH ox,XH ox]at d;omega
 simp only[QA,ZR];constructor
 ·rintro⟨i,c,rfl⟩;exact J8 _ h0
 intro d
 by_cases c:a+1=n
 ·exact⟨0,h0,by rw[XH ox];omega⟩
 exact⟨a+1,ox,by rw[(ox:a+1+n-1=a+n),DE,XH d]⟩
def Qdq(L:LN)(g:Nat->Nat):(List.range L.length).map (fun k=>g<|L.getD k 0)=L.map g:=by
 apply XB;intro d
 by_cases c:d<L
 ·simp[Xl c,Qj c]
 rw[QU zx,QU zx]
def mG{n f L}(c:Ordered n f n L):(L.map<|N f n).Pairwise (· <= ·):=by
 rw[Rw];refine c.asc.imp fun {a b} h=>?_
 unfold VF at h;omega
def Qgf{n f}(e:Per n f){L}(g:Ordered n f n L)(p)(d:p<n):N f n (L.getD ((XV (Z8 n f L) 256).getD p 0) 0)=N f n (L.getD p 0+1):=by
 have j:=g.len;have h0:=e.h0;have i:(Z8 n f L).length=n:=by simp[Z8,j]
 have hb:∀d∈Z8 n f L,d<256:=by intro d h;simp only[Z8,QA]at h;obtain⟨d,-,rfl⟩:=h;exact e.hf _
 have h:=mN (Z8 n f L) hb;have l:=mM (Z8 n f L) 256;rw[i]at h;have:(XV (Z8 n f L) 256).length=n:=by rw[h.length_eq,VK]
 have i:∀a,a<n->(Z8 n f L).getD a 0=f (L.getD a 0+n-1):=by intro a ha;simp only[Z8,List.getD,Zz];rw[Qj ox];rfl
 generalize XV (Z8 n f L) 256=P at*
 have s:P.map (fun k=>N f n<|L.getD k 0+n-1)=L.map (N f n):=by
  have u:(P.map fun k=>N f n<|L.getD k 0+n-1).Pairwise (· <= ·):=by
   rw[Rw];refine Tc (fun {a b} ha hb hlt=>?_) l;have o:a<n:=ZR.1<|h.mem_iff.1 ha;have q:b<n:=ZR.1<|h.mem_iff.1 hb;rw[i a o,i b q]at hlt;rw[TJ e,TJ e];have m:∀d,N f n d/256<256^(n-1):=(by intro d;have i:=DD f e.hf n d;have l:256^n=256^(n-1)*256:=(by rw[<-J9,Nat.succ_eq_add_one,show n-1+1=n by have:=e.h0;omega]);rw[l]at i;exact Nat.div_lt_of_lt_mul<|by rwa[V6]);rcases hlt with hlt|⟨t,hlt⟩
   ·exact Iv<|(GO (m _)<|m _).2 (.inl hlt)
   rw[t];have hs:=JP.1 (mG g) a b (by simp[j,o]) (by simp[j,q]) hlt;simp only[List.getElem_map]at hs;have m:L.getD a 0=L[a]' ox:=(by rw[List.getD,Qj ox];rfl);have gb:L.getD b 0=L[b]' ox:=(by rw[List.getD,Qj ox];rfl);rw[m,gb];have:=Nat.div_le_div_right (c:=256) hs;omega
  refine Ig (fun a b _ _ i l=>Nat.le_antisymm i l) u (mG g) ?_;have s1:(P.map fun k=>N f n<|L.getD k 0+n-1).Perm ((List.range n).map fun k=>N f n<|L.getD k 0+n-1):=h.map _;have i:(List.range n).map (fun k=>N f n<|L.getD k 0+n-1)=L.map (fun d=>N f n<|d+n-1):=by have:=Qdq L fun d=>N f n<|d+n-1;rwa[j]at this
  have h:(L.map fun d=>N f n<|d+n-1).Perm ((List.range n).map fun d=>N f n<|d+n-1):=g.perm.map _;have j:(List.range n).map (fun d=>N f n<|d+n-1)=((List.range n).map fun d=>(d+n-1)%n).map (N f n):=by
   rw[Xv];refine YT fun d _=>?_
   simp only[Function.comp];rw[FY f n e.hp]
  have d:=(Qkn e.h0).map<|N f n;rw[i]at s1;rw[j]at h;exact((s1.trans h).trans d).trans (g.perm.map _).symm
 have hk:=Qt (fun d=>d[p]?) s;simp only[Zz]at hk;rw[Qj ox,Qj ox]at hk;simp only[Bg,Option.some.injEq]at hk;have g1:P.getD p 0=P[p]' ox:=by rw[List.getD,Qj ox];rfl
 have d:L.getD p 0=L[p]' ox:=by rw[List.getD,Qj ox];rfl
 rw[g1,d];have:=TI e _ _ hk;rw[(ox:L.getD (P[p]' ox) 0+n-1+1=L.getD (P[p]' ox) 0+n),Tt e]at this;exact this
def Qg2{n f}(H:Per n f){L}(q:Ordered n f n L)(row)(h5:row<n):VS (Z8 n f L) (XV (Z8 n f L) 256) n row=(List.range n).map fun t=>f (L.getD row 0+t):=by
 have h4:=q.len;have h0:=H.h0;have h3:(Z8 n f L).length=n:=by simp[Z8,h4]
 have hb:∀x∈Z8 n f L,x<256:=by intro x hx;simp only[Z8,QA]at hx;obtain⟨i,-,rfl⟩:=hx;exact H.hf _
 have o:=mN (Z8 n f L) hb;rw[h3]at o;have h9:(XV (Z8 n f L) 256).length=n:=by rw[o.length_eq,VK]
 have h1:∀p,p<n->(XV (Z8 n f L) 256).getD p 0<n:=by intro p y;rw[List.getD,Qj ox];exact ZR.1<|o.mem_iff.1<|Yc _
 have h8:=fun p y=>Qgf H q p y
 have h2:∀a,a<n->(Z8 n f L).getD a 0=f (L.getD a 0+n-1):=by intro a ha;simp only[Z8,List.getD,Zz];rw[Qj ox];rfl
 rw[Lx];generalize XV (Z8 n f L) 256=P at*
 have hw:∀t,VI P t row<n/\N f n (L.getD (VI P t row) 0)=N f n (L.getD row 0+t):=by
  intro t
  induction t with
  |zero=>exact⟨h5,rfl⟩
  |succ t ih=>refine⟨h1 _ ih.1,?_⟩;show N f n (L.getD (P.getD (VI P t row) 0) 0)=_;rw[h8 _ ih.1];have:=TI H _ _ ih.2;rwa[Y7]at this
 refine YT fun t _=>?_
 have h:=hw<|t+1;rw[h2 _ h.1,<-TH H,h.2,TH H,(ox:L.getD row 0+(t+1)+n-1=L.getD row 0+t+n),Py H]
end K
namespace K
def AH(l:LN)(k:Nat):LN:=(List.range 256).map fun b=>XK l k b
def BJ(l:LN)(b:Nat):LN:=(List.range 256).map fun c=>if c<b then Ye l c else l.count c
def GU(l:LN)(k:Nat):LN:=(List.range 256).map fun b=>Ye l b+XK l k b
def Ea(f:Nat->Nat)(n b)(h:b<n):((List.range n).map f)[b]?=some (f b):=by simp[Xl h]
def PI(f g)(n b x:Nat)(h:b<n)(hb:g b=x)(i:∀c,c≠b->g c=f c):((List.range n).map f).set b x=(List.range n).map g:=by
 apply XB;intro d;rw[Je];simp only[QH,VK]
 by_cases hi:b=d
 ·subst hi;rw[Qg rfl,Qg h,Ea _ _ _ h,hb]
 rw[Qf hi]
 by_cases e:d<n
 ·rw[Ea _ _ _ e,Ea _ _ _ e,i d fun h=>hi h.symm]
 rw[QU zx,QU zx]
def mW(l k):(BJ l k).length=256:=by simp[BJ]
def xD(l):AH l 0=List.replicate 256 0:=by unfold AH;rw[show(fun b=>XK l 0 b)=fun _=>0 from funext fun b=>aJ l b,List.map_const',VK]
def xB(l):AH l l.length=BJ l 0:=by
 unfold AH BJ;refine YT fun b _=>?_
 rw[ND,Qf ox]
def xC(l k x)(h:l[k]?=some x)(c:x<256):(AH l k).set x (XK l k x+1)=AH l (k+1):=by
 refine PI _ _ _ _ _ c ?_ fun c d=>?_
 ·show XK l (k+1) x=_;rw[CO l k x x h,Qg rfl]
 show XK l (k+1) c=XK l k c;rw[CO l k c x h,Qf fun h=>d h.symm];rfl
def Qjp(l b)(hb:b<256):(BJ l b).set b (Ye l b)=BJ l (b+1):=by
 refine PI _ _ _ _ _ hb ?_ fun c d=>?_
 ·show(if b<b+1 then Ye l b else _)=_;rw[Qg ox]
 show(if c<b+1 then Ye l c else _)=if c<b then Ye l c else _
 by_cases d:c<b
 ·rw[Qg d,Qg ox]
 rw[Qf d,Qf ox]
def Qjo(l):BJ l 256=GU l 0:=by
 unfold BJ GU;refine YT fun b hb=>?_
 rw[ZR]at hb;rw[aJ,Qg hb];rfl
def Qen(l k x)(h:l[k]?=some x)(c:x<256):(GU l k).set x (Ye l x+XK l k x+1)=GU l (k+1):=by
 refine PI _ _ _ _ _ c ?_ fun c d=>?_
 ·show Ye l x+XK l (k+1) x=_;rw[CO l k x x h,Qg rfl];omega
 show Ye l c+XK l (k+1) c=Ye l c+XK l k c;rw[CO l k c x h,Qf fun h=>d h.symm];rfl
def DI(l:LN)(i:Nat)(P:LN):Prop:=P.length=l.length/\∀c,c<i->P[US l c]?=some c
def DI.step{l:LN}{i:Nat}{P:LN}(h:DI l i P)(hi:i<l.length):DI l (i+1) (P.set (US l i) i):=by
 refine⟨by rw[JO,h.1],fun c d=>?_⟩;rw[Je]
 by_cases d:US l i=US l c
 ·have:=Qgn l i c hi ox d;subst this;rw[Qg rfl,Qg (by rw[h.1];exact PG l i hi)]
 rw[Qf d];have:c≠i:=fun h=>d (by rw[h])
 exact h.2 c ox
def DI.done{l P:LN}(hb:∀x∈l,x<256)(h:DI l l.length P):P=XV l 256:=Qgg l P hb h.1 h.2
end K
def Qet(g h n c p:Nat)(P w)(d:w.cell? g=some (.slice h n c))(d:Qp w 1 h n (Qi P))(i:P.length=n)(hp:p<n)(j:n<=1000000000):
 Calls prog 268 #[p,.pointer g] w fun e w'=>e=.returned (P.getD p 0:Nat)/\w=w':=by
 have g:P[p]?=some (P.getD p 0):=by rw[List.getD,Qj ox];rfl
 have c0:=d.natC g;rw[Zu]at c0;generalize P.getD p 0=x at*
 have:(p:Int)<n:=ox
 go_enter func268,ntmps268
 go_wp2
 go_ret;exact⟨rfl,rfl⟩
def Ck(c:Nat):VL:=.func (.func 268) #[] #[.pointer c]
def Qjk(g j h n c p:Nat)(P w)(d:Qe w g 351 [Ck j,p])(t:w.cell? j=some (.slice (some ⟨h,0,none⟩) n c))(l:Qp w 1 (some ⟨h,0,none⟩) n (Qi P))(u:P.length=n)(hp:p<n)(v:n<=1000000000):
 Calls prog 269 #[.pointer g] w fun e w'=>e=.returned (P.getD p 0:Nat)/\Qe w' g 351 [Ck j,(P.getD p 0:Nat)]/\Qb [g] w w':=by
 have a0:=d.cq 0;have:=d.cq 1;have:=d.free 1;have s:Qe (w.drew.setCell ⟨g,1,none⟩ (P.getD p 0:Nat)) g _ _:=Qe.set (w:=w.drew) d 1 (P.getD p 0:Nat);have q:=Qa s;have:=Qa l;have⟨o,x⟩:=qx<|P.getD p 0;have m:=Qet j h n c p P w.drew t l u hp v;rw[x]at m q ⊢;have v:Calls prog 268 #[p,.pointer j] w.drew fun e w'=>e=.returned (.int .i64 o)/\w'=w.drew:=m.mono fun _ _ h=>⟨h.1,h.2.symm⟩
 have j:=Qa v;unfold Ck at a0;go_enter func269,ntmps269;go_wp2_with fail
 go_still_tail 12,kx
 still_call j.o
 repeat still_step
 refine wpStill_nil ?_;change wpList _ _ _ _ _ w.drew;go_wp2_with fail
 go_wp2
 go_ret;exact⟨rfl,q.o,(Qc _ _).drew.setCell (p:=⟨g,1,none⟩) (.inl sx) _⟩
def tY(w):(zeroValue 349).run prog w=.ok (.agg<|Array.replicate 256<|.int .i64 0) w:=
 (zero_of_info (P:=prog) (t:=349) (v:=.agg<|Array.replicate 256<|.int .i64 0) (n:=256) kx).1 w
def tG(w):(isAgg 3).run prog w=.ok false w:=by kernel_rfl
def tQ:(prog.info? 3).map (·.size)=some 1:=by kernel_rfl
def tR:(prog.info? 349).map (·.size)=some 256:=by kernel_rfl
def xK(l):(Array.replicate 256<|Value.int .i64 0)=(Qi<|AH l 0).toArray:=by rw[xD,Qi,Io,List.toArray_replicate];rfl
def Qci(l)(c:l.length=256)(i x:Nat)(h:l[i]?=some x)(w):(Instr.index 349 (.agg (Qi l).toArray) i).run prog w=.ok (x:Nat) w:=
 lL 349 3 256 (Qi l) .i64 i _ w underlying349 tQ (tG w) (by rw[QF,c]) (Vh _ _ _ h)
def Qe.setNat{w g t l}(h:Qe w g t (Qi l))(i x):Qe (w.setCell ⟨g,i,none⟩ (x:Nat)) g t (Qi<|l.set i x):=by have:=h.set i (x:Nat);rwa[Rl]at this
def zU(s:BA)(i)(h:i<s.size):(Yz s)[i]?=some (s[i]'h).toNat:=by have:=Zr s;have:=CM s i h;rw[List.getD,Qj ox]at this;rw[Yz,Zz,Qj ox];simp only[V9]at this;rw[this];rfl
def zV(s:BA):(Yz s).length=s.size:=by rw[Yz,QH,Zr]
def zW(l):∀x∈Yz l,x<256:=by intro x c;simp only[Yz,QA]at c;obtain⟨b,-,rfl⟩:=c;exact Rc b
def vZ(l k b):XK l k b<=l.length:=by unfold XK;exact QS Ih (by rw[Zd];omega)
def Yr(l:LN):LU:=l.map UInt8.ofNat
def Su(l)(x:Nat):Yr (l++[x])=Yr l++[UInt8.ofNat x]:=by simp[Yr]
def Sw(A n i x)(d:A.length=i)(hi:i<n):(Qn<|A++List.replicate (n-i) 0).set i (.int .u8 (x.toNat:Nat))=Qn (A++[x]++List.replicate (n-(i+1)) 0):=by obtain⟨c,e⟩:∃c,n-i=c+1:=⟨n-i-1,ox⟩;rw[e,(ox:n-(i+1)=c)];subst d;simp only[Qn,XC,Io,JB,QV,Y6,QR];rw[V2 _ _ sx,QH,ZM];rfl
def kM(l P):∀k p,(VS l P k p).length=k
 |0,p=>rfl
 |k+1,p=>by rw[VS,QW,kM l P k]
def Qjm(c:Nat)(W:WD):(store ⟨W.heap.size,0,none⟩<|.func (.func 268) #[] #[.pointer c]).run prog (W.alloc<|.cells #[.nilFunc,(0:Int)] 351)=
 .ok () ((W.alloc<|.cells #[.nilFunc,(0:Int)] 351).setCell ⟨W.heap.size,0,none⟩<|.func (.func 268) #[] #[.pointer c]):=by
 have d:=Qx W [.nilFunc,(0:Int)] 351;have c0:=d.cq 0;have c:=d.free 0;rw[run_store _ _ _ _ _<|by simp[Value.oneCell']];simp only[List.toArray]at c0 c;rw[show(W.alloc<|.cells #[.nilFunc,(0:Int)] 351).cell? W=some .nilFunc from c0];simp only[];rw[show(W.alloc<|.cells #[.nilFunc,(0:Int)] 351).frozen? W=false from c];simp
def uW(s:BA)(row w)(hs:s.size<=262144)(h2:row<s.size):
 Calls prog 229 #[s,row] w (DJ (Yr<|VS (Yz s) (XV (Yz s) 256) s.size row,0) w):=by
 have⟨d,l⟩:=qx<|Yz s;have o:d=s.size:=by rw[<-l];exact zV s
 have v:∀c (g:c<s.size),d[c]?=some (s[c]'g).toNat:=fun c g=>by rw[<-l];exact zU s c g
 have q:∀i∈d,i<256:=by rw[<-l];exact zW _
 rw[l];have⟨e,h⟩:=qx<|XV d 256;rw[h];have t:e=s.size:=by rw[<-h,LZ];unfold Ye;rw[<-o,Td];intro i n;simpa using q i n
 have u:∀j,j<s.size->e.getD j 0<s.size:=by
  intro j hp;rw[List.getD,Qj ox];have y:e[j]' ox∈XV d 256:=by rw[h];exact Yc _
  rw[GS]at y;simp only[V9];omega
 have⟨p,E,U,O,W,X⟩:=qf o v q h t u;have g1:decide (262144<(s.size:Int))=false:=zx
 have:(row:Int)<s.size:=ox
 clear l o v q h t u;have hz:=tY;go_enter func229,Nj;go_wp2_with fail;rw[xK d];have e:=Qx w (Qi<|AH d 0) 349;have h:Qb [] w (w.alloc<|.cells (Qi<|AH d 0).toArray 349):=(Qc _ _).alloc _;generalize w.alloc (.cells (Qi<|AH d 0).toArray 349)=W0 at e h ⊢;have⟨l,o⟩:=qx w.heap.size;rw[o]at e ⊢;have⟨D,q,t⟩:=qc (ox:w<=l) e h;clear hz o e h
 go_loopg [29] s.size (fun k v wr=>∃c,c<=s.size/\k=s.size-c/\v=.int .i64 (c:Nat)/\Hid (Qe wr l 349<|Qi<|AH d c)/\Hid (Qb [] w wr))
 ·exact⟨0,ox,ox,rfl,q,t⟩
 obtain⟨c,hi,hk,rfl,x,A⟩:=hrel;have h:=Qa hk;clear hk
 by_cases hlt:c<s.size
 ·have J:(c:Int)<s.size:=ox
  have n:=Rc<|s[c]'hlt;have t:=E.o c hlt;have o:=xC d c _ t n;have y:=vZ d c (s[c]'hlt).toNat;have q:=p.o;have c0:=x.o.cell<|Vh _ _ _<|Ea (fun b=>XK d c b) 256 (s[c]'hlt).toNat n;have H:=x.o.free (s[c]'hlt).toNat;have e:=x.o.setNat (s[c]'hlt).toNat<|XK d c (s[c]'hlt).toNat+1;rw[o]at e;have u:=Qa e;have hb:XK d c (s[c]'hlt).toNat<=262144:=ox
  clear o y q t e;generalize XK d c (s[c]'hlt).toNat=m at*
  go_wp2
  go_roundg (s.size-(c+1))
  ·exact⟨c+1,ox,rfl,by go_num,u,Qa<|A.o.setCell (.inr D.o) _⟩
  have:=h.o;omega
 obtain rfl:c=s.size:=ox
 have h:=x.o;have q:=xB d;rw[p.o]at q;rw[q]at h;have z:=Qa h;have y:∀b:Nat,b<256->∀e,(Instr.index 349 (.agg (Qi<|BJ d 0).toArray)<|.int .i64 b).run prog e=.ok (.int .i64 (d.count b:Nat)) e:=fun b hb e=>by refine Qci _ (mW d 0) b _ ?_ e;have:=Ea (fun e=>if e<0 then Ye d e else d.count e) 256 b hb;rwa[Qf ox]at this
 have B:=Qa y;clear h q y;go_wp2_with (refine SG rfl 349 _ rfl l rfl _ _ _ _ z.o underlying349 rfl (by rw[tR];simp[QF,mW]) ?_)
 go_loopg [8,41] 256 (fun k q v wr=>∃b:Nat,b<=256/\k=256-b/\q=.int .i64 (Ye d b:Nat)/\v=.int .i64 (b:Nat)/\Hid (Qe wr l 349<|Qi<|BJ d b)/\Hid (Qb [] w wr))
 ·exact⟨0,ox,ox,by rw[aM];rfl,rfl,z,A⟩
 obtain⟨b,hb,hk,rfl,rfl,u,A⟩:=hrel;have C:=Qa hk;clear hk
 by_cases q:b<256
 ·have J:(b:Int)<256:=ox
  have y:=B.o b q;have y:=ES d b;have F:=NG d b;have G:=NG d<|b+1;have L:=p.o;have c0:=u.o.cell<|Vh _ _ _<|Ea (fun e=>if e<b then Ye d e else d.count e) 256 b q;have H:=u.o.free b;have e:=u.o.setNat b<|Ye d b;rw[Qjp d b q]at e;have z:=Qa e;have:Ye d b<=262144:=ox
  have:d.count b<=262144:=ox
  have B:=Qa y;clear e y F G L;generalize Ye d b=m at*
  generalize d.count b=q at*
  go_wp2
  go_roundg (256-(b+1))
  ·exact⟨b+1,ox,rfl,by rw[B.o];go_num,by go_num,z,Qa<|A.o.setCell (.inr D.o) _⟩
  have:=C.o;omega
 obtain rfl:b=256:=ox
 have h:=u.o;rw[Qjo]at h;have z:=Qa h;clear h;go_wp2_with ((at_make;refine Jp rfl _ _ 51 rfl 3 (0:Int) 8 XP XZ rfl .i64 .i64 _ _ s.size s.size rfl rfl rfl rfl ox ox (by simp only[maxLen];omega) ?_;intro e C B));have y:=Xq e<|.cells #[.slice (some ⟨wr.heap.size,0,none⟩) s.size s.size] 51;have u:Qb [] e (e.alloc<|.cells #[.slice (some ⟨wr.heap.size,0,none⟩) s.size s.size] 51):=(Qc _ _).alloc _;have F:(e.alloc<|.cells #[.slice (some ⟨wr.heap.size,0,none⟩) s.size s.size] 51).heap.size=e.heap.size+1:=sx
 generalize e.alloc (.cells #[.slice (some ⟨wr.heap.size,0,none⟩) s.size s.size] 51)=W4 at y u F ⊢;have Q:l<wr:=z.o.lt;have P:wr.heap.size<e.heap.size:=C.lt _ (by simp[Qd,qo]);have G:=(z.o.kept B sx).kept u sx;have z:=C.kept u sx;rw[show List.replicate s.size (Value.int .i64 0)=Qi (List.replicate s.size 0)by simp[Qi]]at z;have I:=(A.o.trans B sx).trans u sx;have R:w.heap.size<=wr.heap.size:=A.o.size;have⟨g,hh⟩:=qx wr.heap.size;have⟨h,M⟩:=qx e.heap.size;rw[hh]at Q P z R y ⊢;rw[M]at P y F ⊢;have e:DI d 0 (List.replicate s.size 0):=⟨by rw[As,p.o],fun A A=>ox⟩;have⟨A,P,V,T,Q⟩:=qe e G z (show Qe W4 h 51 [.slice (some ⟨g,0,none⟩) s.size s.size]from y) I;clear hh M F G z I y u B C e
 go_loopg [57] s.size (fun k v wr=>∃(c:Nat)(e:LN),c<=s.size/\k=s.size-c/\v=.int .i64 (c:Nat)/\Hid (Qe wr l 349<|Qi<|GU d c)/\Hid (Qh wr 3 (.slice (some ⟨g,0,none⟩) s.size s.size)<|Qi e)/\Hid (Qe wr h 51 [.slice (some ⟨g,0,none⟩) s.size s.size])/\Hid (DI d c e)/\Hid (Qb [] w wr))
 ·exact⟨0,_,ox,ox,rfl,P,V,T,A,Q⟩
 obtain⟨c,e,hi,hk,rfl,C,y,z,G,F⟩:=hrel;have Z:=Qa hk;clear hk A
 by_cases hlt:c<s.size
 ·have J:(c:Int)<s.size:=ox
  have n:=Rc<|s[c]'hlt;have t:=E.o c hlt;have⟨i,M⟩:=qx<|(s[c]'hlt).toNat;have P:d.getD c 0=i:=by rw[List.getD,t,M];rfl
  have B:US d c=Ye d i+XK d c i:=by unfold US;rw[P]
  have Q:=PG d c (by rw[p.o];exact hlt);rw[M]at t n;have o:=Qen d c i t n;have L:=p.o;have c0:=C.o.cell<|Vh _ _ _<|Ea (fun b=>Ye d b+XK d c b) 256 i n;have H:=C.o.free i;have⟨j,hp⟩:=qx<|Ye d i+XK d c i;rw[hp]at o B c0;rw[B]at Q;have I:=G.o.step (by rw[p.o];exact hlt);rw[B]at I;have:j<s.size:=ox
  have:(j:Int)<s.size:=ox
  have:=z.o.cq 0;have h1:e=s.size:=by rw[G.o.1,p.o]
  have⟨u,T⟩:=qy e j ox;have:=y.o.aZ<|Vh _ _ _ T;have:=y.o.free j;have u:=y.o.put j<|.int .i64 (c:Nat);rw[Rl]at u;have⟨A,V,Y⟩:=qc o I u;have:=Qa M;have:IntKind.i64.wrap ((j:Int)+1)=(j:Int)+1:=Za _ ox;have hne:¬l=g:=ox
  have:¬l=h:=ox
  have:¬h=g:=ox
  clear t P B Q o L hp I u T h1;go_wp2_with fail
  go_region
  all_goals go_wp2_with fail
  all_goals
   go_roundg (s.size-(c+1))
   case measure=>have:=Z.o;omega
   have t:=(C.o.kept (S:=[g]) ((Qc _ _).setCell (p:=⟨g,j,none⟩) (.inl sx)<|.int .i64 (c:Nat)) zx).setNat i<|j+1;rw[A.o]at t;have B:Qb [g,l] wr (((wr.setCell ⟨g,j,none⟩<|.int .i64 (c:Nat)).setCell ⟨l,i,none⟩<|.int .i64<|(j:Int)+1).drew):=(((Qc _ _).setCell (p:=⟨g,j,none⟩) (.inl sx) _).setCell (p:=⟨l,i,none⟩) (.inl sx) _).drew;refine⟨c+1,_,ox,rfl,by go_num,Qa ?_,Qa ?_,Qa<|z.o.kept B zx,V,Qa<|F.o.trans B ?_⟩
   ·exact t
   ·exact(Y.o.setCell (p:=⟨l,i,none⟩) (by simp[Qd,qo];omega) _).drew
   intro j hz;simp at hz;have:=D.o;rcases hz with rfl|rfl
   ·exact .inr R
   exact .inr this
 obtain rfl:c=s.size:=ox
 have j:=G.o;rw[<-p.o]at j;have l:=j.done U.o;rw[O.o]at l;subst l;clear j O;have V:=Qjm h wr;have O:=((Qx wr [.nilFunc,(0:Int)] 351).set 0<|Ck h).cq 1;have P:=((Qx wr [.nilFunc,(0:Int)] 351).set 0<|Ck h).free 1;unfold Ck at O P;go_wp2_with ((at_make;refine Jp rfl _ _ 88 rfl 5 (.int .u8 0) 1 Xo Jg rfl .i64 .i64 _ _ s.size s.size rfl rfl rfl rfl ox ox (by simp only[maxLen];omega) ?_;intro p u l));have G:Qb [] w (wr.alloc<|.cells #[.func (.func 268) #[] #[.pointer<|some ⟨h,0,none⟩],(row:Nat)] 351):=
  F.o.alloc _
 have B:Qb [] wr (wr.alloc<|.cells #[.func (.func 268) #[] #[.pointer<|some ⟨h,0,none⟩],(row:Nat)] 351):=
  (Qc _ _).alloc _
 have t:Qe (wr.alloc<|.cells #[.func (.func 268) #[] #[.pointer<|some ⟨h,0,none⟩],(row:Nat)] 351) wr 351 [Ck h,(row:Nat)]:=Qx wr [Ck h,(row:Nat)] 351;have C:(wr.alloc<|.cells #[.func (.func 268) #[] #[.pointer<|some ⟨h,0,none⟩],(row:Nat)] 351).heap.size=wr.heap.size+1:=sx
 generalize (wr.alloc<|.cells #[.func (.func 268) #[] #[.pointer<|some ⟨h,0,none⟩],(row:Nat)] 351)=W5 at u l G B t C ⊢;have D:wr.heap.size<W5.heap.size:=t.lt;have j:g<wr:=y.o.lt _ (by simp[Qd,qo]);have L:h<wr:=z.o.lt;have I:w.heap.size<=wr.heap.size:=F.o.size;have⟨F,T,R,Q⟩:=qd (t.kept l sx) ((y.o.kept B sx).kept l sx) ((z.o.kept B sx).kept l sx) (G.trans l sx);have M:Qh p 5 (.slice W5 s.size s.size) (Qn<|Yr (VS d e 0 row)++List.replicate (s.size-0) 0):=by
  have:Qn (Yr (VS d e 0 row)++List.replicate (s.size-0) 0)=List.replicate s.size (.int .u8 0):=by simp[Qn,Yr,VS]
  rwa[this]
 have y:=Qa M;have⟨p,z⟩:=qx wr.heap.size;rw[z]at D j L I F C ⊢;rw[C]at D y;have⟨j,L⟩:=qx<|p+1;rw[L]at D y ⊢;have U:w<=j:=ox
 clear V O P G B t u l M z L C
 go_loopg [84] s.size (fun k v l=>∃c:Nat,c<=s.size/\k=s.size-c/\v=.int .i64 (c:Nat)/\Hid (Qh l 5 (.slice (some ⟨j,0,none⟩) s.size s.size)<|Qn<|Yr (VS d e c row)++List.replicate (s.size-c) 0)/\Hid (Qe l p 351 [Ck h,.int .i64 (VI e c row:Nat)])/\Hid (Qh l 3 (.slice (some ⟨g,0,none⟩) s.size s.size)<|Qi e)/\Hid (Qe l h 51 [.slice (some ⟨g,0,none⟩) s.size s.size])/\Hid (VI e c row<s.size)/\Hid (Qb [] w l))
 ·exact⟨0,ox,ox,rfl,y,F,T,R,Qa h2,Q⟩
 obtain⟨c,hi,hk,rfl,y,x,v,u,l,t⟩:=hrel;have F:=Qa hk;clear hk
 by_cases hlt:c<s.size
 ·have J:(c:Int)<s.size:=ox
  have o:=Qjk p h g s.size s.size (VI e c row) e wr x.o (u.o.cq 0) v.o.sZ W.o l.o ox;have g:e.getD (VI e c row) 0<s.size:=X.o _ l.o;have h:=Qg1 d e c row;have B:VI e (c+1) row=e.getD (VI e c row) 0:=rfl;rw[<-B]at o g;have⟨q,l⟩:=qx<|VI e (c+1) row;rw[l]at o g h;have x:d.getD q 0=(s[q]'g).toNat:=by rw[List.getD,E.o q g];rfl
  rw[x]at h;have⟨D,p,A⟩:=qc h l o;have:(q:Int)<s.size:=ox
  have z:(Yr<|VS d e c row).length=c:=by rw[Yr,QH,kM]
  have d:=Qa z;clear o h B l x z;go_wp2_with fail;go_fit A.o;rintro e z⟨rfl,x,l⟩;have e:=y.o.kept l (by simp[Qd,qo];omega);have c0:=e.aZ (j:=c) (u:=.int .u8 ((0:UInt8).toNat:Nat)) (by rw[Md _ _ (by rw[Qo,d.o,As];omega)];rw[List.getD,Zm (by rw[d.o];exact Qk _),d.o,ZM,V1,Qg ox];rfl);have H:=e.free c;have o:=e.put c<|.int .u8 ((s[q]'g).toNat:Nat);rw[Sw _ _ _ _ d.o hlt]at o;have⟨C,B,h⟩:=qc o x l;clear e o x l A
  go_wp2
  go_roundg (s.size-(c+1))
  ·have d:Qb [j] z (z.setCell ⟨j,c,none⟩<|.int .u8 ((s[q]'g).toNat:Nat)):=(Qc _ _).setCell (p:=⟨j,c,none⟩) (.inl sx) _;refine⟨c+1,ox,rfl,by go_num,Qa ?_,Qa ?_,Qa<|(v.o.kept h.o (by simp[Qd,qo];omega)).kept d (by simp[Qd,qo];omega),Qa<|(u.o.kept h.o zx).kept d zx,Qa<|by rwa[p.o],Qa ?_⟩
   ·rw[D.o,Su,Kl];exact C.o
   ·rw[p.o];exact B.o.kept d zx
   exact(t.o.trans h.o (by intro i n;simp at n;subst n;exact .inr I)).trans d (by intro i n;simp at n;subst n;exact .inr U)
  have:=F.o;omega
 obtain rfl:c=s.size:=ox
 have c:=y.o;rw[ZM,Dz,XX]at c;have:=Qh.text c;have d:=Qa t.o;clear c
 go_wp2
 go_ret2;exact⟨rfl,d.o⟩

