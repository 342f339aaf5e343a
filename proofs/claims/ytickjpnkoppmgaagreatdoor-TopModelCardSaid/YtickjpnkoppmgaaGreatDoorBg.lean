import Derived.Shelf.SlSortCmp.NoneTotal
import Derived.Deep.Quiet
import Derived.Test.YtickjpnkoppmgaaGreatDoorBd
import Derived.Test.YtickjpnkoppmgaaGreatDoorBf
set_option linter.all false
namespace Go.Proofs.YtickjpnkoppmgaaGreatDoor
open Go.Proofs.Tryz Go.RowKit K
section
open Go.Sort
def Qb.grow(w:WD)(k:Nat)(os:Array Obj):Qb [] w (Go.Sort.grow (w.drewN k) os):=
 ⟨rfl,rfl,rfl,by simp[Go.Sort.grow],fun c hi _=>by simp[Go.Sort.grow,Array.getElem?_append,hi]⟩
def bJ(s t:BA)(w)(hs:s.size<=1000000)(g:t.size<=1000000)(c:Yt w):
 Calls prog 70 #[s,t] w fun e w'=>e=.returned (.int .i64<|Xp s t)/\∃h os,w'=Go.Sort.grow (w.drewN h) os:=by
 have n:=Qa c;clear c;have m:=Ky s;have o:=Ky t;rw[Zr]at m o;have⟨l,p,i⟩:=qc (jO s w hs n.o) (fun(d:WD)(j:Yt d)=>jO t d g j)<|show Xp s t=Yf (ZO s) (ZO t)from rfl;have⟨d,x⟩:=qx<|ZO s;have⟨g,c⟩:=qx<|ZO t;rw[x]at l i m;rw[c]at p i o;rw[i.o];have⟨i,D⟩:=qx<|min d.length g.length;have:min (d.length:Int) (g.length:Int)=(i:Int):=ox
 go_enter func70,ntmps70;go_wp2_with fail;go_fit l.o;rintro e l⟨rfl,m⟩;have q:Qb [] w l:=by rw[m];exact(Qc _ _).alloc _
 have u:Qp l 1 w.heap.size d.length (strs d):=by rw[m];exact Qp.lit<|UF d
 have⟨o,y,v⟩:=qc q m u;clear m q u;go_wp2_with fail;go_fit(p.o _<|n.o.kept o.o sx);rintro e n⟨rfl,m⟩;have p:Qb [] l n:=by rw[m];exact(Qc _ _).alloc _
 have A:Qp n 1 l.heap.size g.length (strs g):=by rw[m];exact Qp.lit<|UF g
 have:=Qa<|o.o.trans p fun o o=>.inl o;have⟨B,q,u⟩:=qc (show ∃os,n=Go.Sort.grow w os from⟨_,by rw[m,y.o,alloc_eq_grow,alloc_eq_grow,grow_grow]⟩) (v.o.kZ p) A;obtain⟨C,y⟩:∃o,w.heap.size=o:=⟨_,rfl⟩;obtain⟨gb,z⟩:∃o,l.heap.size=o:=⟨_,rfl⟩;rw[y]at q ⊢;rw[z]at u ⊢;clear m p A v x c y z;go_wp2_with fail;obtain⟨m,c⟩:∃m:WD,m=n:=⟨_,rfl⟩;subst c
 go_loopg [17] i (fun k l wr=>(∃c:Nat,c<=i/\k=i-c/\l=.int .i64 (c:Nat)/\Hid (Yf d g=Yf (d.drop c) (g.drop c)))/\Hid (∃h,wr=m.drewN h))
 ·exact⟨⟨0,ox,rfl,rfl,Qa rfl⟩,Qa ⟨0,rfl⟩⟩
 obtain⟨⟨c,hi,hk,rfl,l⟩,p⟩:=hrel;have⟨v,m⟩:=qb (by obtain⟨h,j⟩:=p.o;rw[j];exact(Qc _ _).drewN h:Qb [] m wr) (show ∀o,∃h os,wr.drewN o=Go.Sort.grow (w.drewN h) os from fun o=>by obtain⟨h,j⟩:=p.o;obtain⟨os,n⟩:=B.o;exact⟨h+o,os,by rw[j,World.drewN_drewN,n];rfl⟩)
 by_cases hlt:c<i
 ·obtain⟨x,o,y⟩:(c:Int)<i/\c<d.length/\c<g.length:=ox
  have⟨a,ha⟩:=qy d c o;have⟨b,hb⟩:=qy g c y;have c0:wr.cell? ⟨C,c,none⟩=some (.string<|str a):=by have j:=Qp.get1 (q.o.kZ v.o)<|Fz ha;rwa[Zu]at j
  have c1:wr.cell? ⟨gb,c,none⟩=some (.string<|str b):=by have j:=Qp.get1 (u.o.kZ v.o)<|Fz hb;rwa[Zu]at j
  obtain⟨_,_⟩:(c:Int)<d.length/\(c:Int)<g.length:=ox
  have⟨q,u⟩:=qb ha hb;clear ha hb
  by_cases o:a=b
  ·have g1:((str a).toList==(str b).toList)=true:=(by rw[Xk,Xk,XW,XW,o];simp);go_wp2_with fail;go_quiet (fail)
   go_wp2
   go_roundg (i-(c+1))
   ·refine⟨⟨c+1,ox,rfl,by go_num,Qa ?_⟩,Qa ?_⟩
    rotate_left
    ·obtain⟨h,j⟩:=p.o;exact⟨h+nq,by rw[j,World.drewN_drewN]⟩
    rw[l.o];exact wU q.o (by rw[o];exact u.o)
   omega
  have g1:((str a).toList==(str b).toList)=false:=by rw[Xk,Xk,XW,XW];exact Ze.2 o
  go_wp2_with fail;go_quiet (fail);have k:=(Qc [] wr).drewN nq;have c2:=k.cZ c0 sx;have c3:=k.cZ c1 sx;have j:∀p,∃h os,(wr.drewN nq).drewN p=Go.Sort.grow (w.drewN h) os:=fun p=>by rw[World.drewN_drewN];exact m.o _
  generalize wr.drewN nq=W2 at j c2 c3 ⊢;have h:=Qa j;clear c0 c1 k j;go_wp2_with fail;go_quiet ((go_at_call 106;refine Calls.quiet_of_same<|Tryz.strCompare _ _ _))
  go_wp2
  go_ret;refine⟨?_,h.o _⟩;rw[l.o,wW q.o u.o o];rfl
 have x:¬(c:Int)<i:=ox
 obtain rfl:c=i:=ox
 have h:=Qa<|wV d g c D.symm
 by_cases c:d.length<g.length
 ·have g1:(d.length:Int)<g.length:=ox
  go_wp2
  go_ret;refine⟨?_,m.o 0⟩;rw[l.o,h.o,Qg c];rfl
 have g1:¬(d.length:Int)<g.length:=ox
 by_cases n:g.length<d.length
 ·have i:(g.length:Int)<d.length:=ox
  go_wp2
  go_ret;refine⟨?_,m.o 0⟩;rw[l.o,h.o,Qf c,Qg n];rfl
 have i:¬(g.length:Int)<d.length:=ox
 go_wp2
 go_ret;refine⟨?_,m.o 0⟩;rw[l.o,h.o,Qf c,Qf n];rfl
def bK(s t:BA)(w:WD)(hs:s.size<=1000000)(d:t.size<=1000000)(c:Yt w):
 Calls prog 70 #[s,t] w (RK (.int .i64<|Xp s t) w):=(bJ s t w hs d c).mono fun _ _ ⟨c,d,os,e⟩=>⟨c,e▸Qb.grow w d os⟩
end
section
open Go.Sort Go.Shelf
def KH:∀x,(Zc x).length=2:=fun _=>rfl
def Fc:∀x,∀v∈Zc x,v.oneCell'=true:=fun x v c=>by simp[Zc]at c;rcases c with rfl|rfl<;>rfl
def yV(l):∀u∈Qs Zc l,u.oneCell'=true:=fun u c=>by obtain⟨e,-,d⟩:=List.mem_flatMap.1 c;exact Fc e u d
def Ao(w:WD)(v:VL)(l:List QP):Prop:=∃a c,v=.slice a l.length c/\Qp w 2 a l.length (Qs Zc l)/\(a=none->l=[]/\c=0)
def Qm.exA{w v l}(h:Qm w 109 2 v l.length (Qs Zc l)):Ao w v l:=by
 rcases h.2 with⟨rfl,c⟩|⟨e,cap,d,rfl,-⟩
 ·exact⟨none,0,by rw[c],⟨h.1,fun g i d=>by have:=(Qy.1 d).1;rw[h.1,c]at this;omega⟩,fun _=>⟨J4 c,rfl⟩⟩
 exact⟨_,_,rfl,⟨h.1,fun g i d=>⟨e,0,rfl,by rw[Zu];exact h.aZ d⟩⟩,fun h=>by cases h⟩
def BW:(prog.info? 109).map (fun i=>(i.zero,i.size,i.bytes))=some (some<|.agg #[(0:Int),(0:Int)],2,16):=by kernel_rfl
def Es(l:List QP)(w:WD)(e:Ending)(w':WD):Prop:=∃c,e=.returned c/\Qm w' 109 2 c l.length (Qs Zc l)/\Qb [] w w'/\∀d∈Qd c,w.heap.size<=d
def wR(v l w)(h:Ao w v l)(c:l.length<=1000000):Calls prog 149 #[v] w (Es l w):=by
 obtain⟨a,g,rfl,hs,d⟩:=h;rcases a with _|ad
 ·obtain⟨rfl,rfl⟩:=d rfl;have e:=fun c:WD=>FO (P:=prog) c 106 109 none 0 0 0 0 AC
  go_enter func149,tL
  go_wp2
  go_ret;exact⟨_,rfl,Qm.nil _ _ _,Qc _ _,by simp[Qd,qo]⟩
 have e:=fun c:WD=>FO (P:=prog) c 106 109 (some ad) l g 0 0 AC
 have i:Qm (w.alloc<|.cells #[] 109) 109 2 (.slice w 0 0) 0 []:=
  ⟨rfl,.inr ⟨w.heap.size,0,#[],rfl,Zv _,Xq w _,Qk _,Zv _,rfl,rfl⟩⟩
 have e:=hs.kZ<|(Qc [] w).alloc<|.cells #[] 109;obtain⟨m,n,QX,j,hk,hf⟩:=Cp (P:=prog) (w.alloc<|.cells #[] 109) 106 106 109 (.agg #[(0:Int),(0:Int)]) 2 16 AC BW rfl dx
  (.slice w 0 0) 0 [] i ad l g (Qs Zc l) e.1 (fun p q o=>by obtain⟨b,off,c,g⟩:=e.2 p q o;injection c with c;rwa[c,Jc]) (yV l) (by simp only[maxLen];omega) ox
 have o:=Qa (show ∃v,Ending.returned m=.returned v/\Qm n 109 2 v l (Qs Zc l)/\Qb [] w n/\∀c∈Qd v,w.heap.size<=c from by
  refine⟨m,rfl,by have:=j;rwa[Zu,YU]at this,((Qc [] w).alloc _).new hk (by intro c g;simp[Qd,qo]at g;omega),fun c g=>?_⟩;rcases hf c g with h|h
  ·simp[Qd,qo]at h;omega
  simp at h;omega)
 go_enter func149,tL;go_wp2_with (at_builtin;refine SI rfl _ _ 106 106 rfl QX ?_);go_ret;exact o.o
def Qi3(v l w)(h:Qm w 109 2 v l.length (Qs Zc l))(i:l.length<=1000000):
 Calls prog 150 #[v,.func (.func 151) #[] #[]] w fun e w'=>e=.returned (.tuple #[])/\Qm w' 109 2 v l.length (Qs Zc<|JX l)/\Qb (Qd v) w w':=by
 rcases id h.2 with⟨rfl,c⟩|⟨g,d,j,rfl,-⟩
 ·have j:=J4 c;subst j;go_fit(AnyF.slices_SortFunc_none Wk none 0 _ w);rintro e w'⟨rfl,rfl⟩;exact⟨rfl,by rw[show JX []=[]by simp[JX]];exact h,Qc _ _⟩
 go_fit(Qi2 g d l l w h rfl i);rintro e w'⟨rfl,c,d⟩;exact⟨rfl,c,d.mono (fun c c=>by simp at c;simp[Qd,qo,c])⟩
def mF(v l w)(h:Ao w v l)(d:l.length<=1000000):Calls prog 107 #[v] w (Es (JX l) w):=by
 have g:=Qa<|wR v l w h d;have hp:=(Ai l).length_eq;have i:=Qa hp;go_enter func107,ntmps107;go_wp2_with (first
  |(go_fit g.o;rintro j q⟨e,rfl,o,m,c⟩)
  |(go_fit(Qi3 e l q o d);rintro j s⟨rfl,p,n⟩))
 go_ret;exact⟨e,rfl,by rwa[i.o],m.trans n fun e d=>.inr<|c e d,c⟩
def NZ{w a n l}(h:Qp w 2 a n (Qs Zc l)){i}{x:QP}(c:l[i]?=some x):
 ∃g off,a=some ⟨g,off,none⟩/\w.cell? ⟨g,off+i*2,none⟩=some (.int .i64 x.1)/\w.cell? ⟨g,off+i*2+1,none⟩=some (.int .i64 x.2):=by
 have h0:=Vy KH l i 0 x c dx;have e:=Vy KH l i 1 x c dx;obtain⟨g,off,d,c1⟩:=h.2 _ x.1 (by rw[h0];rfl);obtain⟨c,c,c,c2⟩:=h.2 _ x.2 (by rw[e];rfl);subst d;injection c with c;injection c with c e3;subst c e3;exact⟨g,off,rfl,c1,c2⟩
def LQ(v l)(cap:Int)(w)(h:Ao w v l)(hl:l.length<=1000000)(h1:1<=cap)(h2:cap<=4096):
 Calls prog 72 #[v,cap] w (RK (.int .i64<|if ZZ cap l then 0 else 220) w):=by
 have HS:=Qa<|mF v l w h hl;have g1:decide (cap<1)=false:=zx
 have g2:decide (4096<cap)=false:=zx
 obtain⟨R,hR⟩:∃R:Int,(if ZZ cap l then 0 else 220)=R:=⟨_,rfl⟩;rw[hR];have HR:=Qa hR;have⟨S,hS⟩:=qx<|JX l;have x3:S.length=l.length:=by rw[<-hS];exact(Ai l).length_eq
 rw[hS]at HS;have⟨x2,y1⟩:=qb hS x3;clear h hR hS x3;go_enter func72,ntmps72;go_wp2_with (go_fit HS.o;rintro e w1⟨v1,rfl,x8,x6,y2⟩;have y4:=x8.exA;obtain⟨a1,c1,rfl,x9,y3⟩:=y4);have⟨h5,y0⟩:=qb x6 x9;clear x8 x6 y2 x9 y3;have⟨n,hn⟩:=qx S.length;rw[hn];have HN:=Qa hn;have y7:n<=1000000:=yx y1.o
 clear hn
 go_loopg [5,7,17] n (fun k x5 x7 y5 wr=>(∃(i:Nat)(f:Int),i<=n/\k=n-i/\x5=.int .i64 f/\y5=.int .i64 (i:Nat)/\30<=f/\Hid (AE cap 30 S=AE cap f (S.drop i)))/\Hid (Qb [] w1 wr))
 ·exact⟨⟨0,30,ox,ox,rfl,rfl,ox,Qa rfl⟩,Qa<|Qc _ _⟩
 obtain⟨⟨i,f,hi,hk,rfl,rfl,y6,HF⟩,h4⟩:=hrel
 by_cases hlt:i<n
 ·have g0:(i:Int)<n:=ox
  have⟨x,hx⟩:=qy S i (yx HN.o);obtain⟨g,off,rfl,c0,c1⟩:=NZ (y0.o.kZ h4.o) hx;have x4:S.drop i=x::S.drop (i+1):=by
   have hl:=(Qy.1 hx).1;rw[Xf hl]
   congr 1
   exact(Qy.1 hx).2
  have hf:=HF.o;rw[x4,AE]at hf;have h8:=Qa hf;obtain⟨o,q⟩:=x;simp only[]at c0 c1;clear hf x4 hx;have h3:(o<f\/q<1\/cap<o\/cap-o<q)->Hid (R=220):=fun hc=>Qa (by have:=h8.o;rw[Qg<|show(o,q).1<f\/(o,q).2<1\/cap<(o,q).1\/cap-(o,q).1<(o,q).2 from hc]at this;rw[<-HR.o,ZZ,x2.o,this];rfl)
  by_cases b1:o<f
  ·have y:=h3<|.inl b1;have q1:decide (o<f)=true:=(by simpa using b1);clear h3
   go_wp2
   go_ret;exact⟨by rw[y.o];rfl,h5.o.trans (h4.o.alloc _) sx⟩
  have q1:decide (o<f)=false:=by simpa using b1
  by_cases b2:q<1
  ·have y:=h3<|.inr<|.inl b2;have q2:decide (q<1)=true:=(by simpa using b2);clear h3
   go_wp2
   go_ret;exact⟨by rw[y.o];rfl,h5.o.trans (h4.o.alloc _) sx⟩
  have q2:decide (q<1)=false:=by simpa using b2
  by_cases b3:cap<o
  ·have y:=h3<|.inr<|.inr<|.inl b3;have q3:decide (cap<o)=true:=(by simpa using b3);clear h3
   go_wp2
   go_ret;exact⟨by rw[y.o];rfl,h5.o.trans (h4.o.alloc _) sx⟩
  have q3:decide (cap<o)=false:=by simpa using b3
  have v1:IntKind.i64.wrap (cap-o)=cap-o:=by rw[Zq];omega
  by_cases b4:cap-o<q
  ·have y:=h3<|.inr<|.inr<|.inr b4;have q4:decide (cap-o<q)=true:=(by simpa using b4);clear h3
   go_wp2
   go_ret;exact⟨by rw[y.o];rfl,h5.o.trans (h4.o.alloc _) sx⟩
  have q4:decide (cap-o<q)=false:=by simpa using b4
  have v2:IntKind.i64.wrap (o+q)=o+q:=by rw[Zq];omega
  have h9:=Qa (ox:30<=o+q/\¬(o<f\/q<1\/cap<o\/cap-o<q));clear h3
  go_wp2
  go_roundg (n-(i+1))
  ·refine⟨⟨i+1,o+q,ox,rfl,rfl,by go_num,h9.o.1,Qa ?_⟩,Qa<|h4.o.alloc _⟩;exact h8.o.trans<|Qf h9.o.2
  omega
 obtain rfl:i=n:=ox
 have g0:¬(i:Int)<i:=ox
 have y:=Qa (by have:=HF.o;rw[Jq (by rw[HN.o];exact Qk _),AE]at this;rw[<-HR.o,ZZ,x2.o,this];rfl:R=0)
 go_wp2
 go_ret;exact⟨by rw[y.o];rfl,h5.o.trans h4.o sx⟩
end
section
open Go.Sort Go.Shelf
def Q9(m:RM):LV:=[str m.path,m.start,m.eZ,m.size,.int .u32 m.sum]
def cM:∀x,(Q9 x).length=5:=fun _=>rfl
def KG:∀x,∀v∈Q9 x,v.oneCell'=true:=fun x v c=>by simp[Q9]at c;rcases c with rfl|rfl|rfl|rfl|rfl<;>rfl
def J6(w:WD)(v:VL)(l:List RM):Prop:=∃a c,v=.slice a l.length c/\Qp w 5 a l.length (Qs Q9 l)/\(a=none->l=[]/\c=0)
def J6.kZ{w w' v l}(h:J6 w v l)(hk:Qb [] w w'):J6 w' v l:=by obtain⟨a,c,d,hs,e⟩:=h;exact⟨a,c,d,hs.kZ hk,e⟩
def RA{w a n l}(h:Qp w 5 a n (Qs Q9 l)){i x}(e:l[i]?=some x):
 ∃g off,a=some ⟨g,off,none⟩/\w.cell? ⟨g,off+i*5,none⟩=some (.string<|str x.path)/\w.cell? ⟨g,off+i*5+1,none⟩=some (.int .i64 x.start)/\w.cell? ⟨g,off+i*5+2,none⟩=some (.int .i64 x.eZ)/\
  w.cell? ⟨g,off+i*5+3,none⟩=some (.int .i64 x.size)/\w.cell? ⟨g,off+i*5+4,none⟩=some (.int .u32 x.sum):=by
 have p:∀c d,c<5->(Q9 x)[c]?=some d->(Qs Q9 l)[i*5+c]?=some d:=fun c d m o=>by rw[Vy cM l i c x e m,o]
 obtain⟨g,off,e,c0⟩:=h.2 _ _<|p 0 (.string<|str x.path) dx rfl;subst e;have j:∀c d,c<5->(Q9 x)[c]?=some d->w.cell? ⟨g,off+(i*5+c),none⟩=some d:=fun c d m o=>by obtain⟨e,e,e,q⟩:=h.2 _ _<|p c d m o;injection e with e;injection e with e e3;subst e e3;exact q
 exact⟨g,off,rfl,c0,j 1 _ dx rfl,j 2 _ dx rfl,j 3 _ dx rfl,j 4 _ dx rfl⟩
def yS(l):∀u∈Qs Q9 l,u.oneCell'=true:=fun u c=>by obtain⟨e,-,d⟩:=List.mem_flatMap.1 c;exact KG e u d
def Nf:(prog.info? 69).map (fun i=>(i.zero,i.size,i.bytes))=some (some<|.agg #[.string ⟨#[]⟩,(0:Int),(0:Int),(0:Int),.int .u32 0],5,48):=by kernel_rfl
def Qm.memA{w v l}(h:Qm w 69 5 v l.length (Qs Q9 l)):J6 w v l:=by
 rcases h.2 with⟨rfl,c⟩|⟨e,cap,d,rfl,-⟩
 ·exact⟨none,0,by rw[c],⟨h.1,fun g i d=>by have:=(Qy.1 d).1;rw[h.1,c]at this;omega⟩,fun _=>⟨J4 c,rfl⟩⟩
 exact⟨_,_,rfl,⟨h.1,fun g i d=>⟨e,0,rfl,by rw[Zu];exact h.aZ d⟩⟩,fun h=>by cases h⟩
def FX(l:List RM)(w:WD)(e:Ending)(w':WD):Prop:=∃c,e=.returned c/\Qm w' 69 5 c l.length (Qs Q9 l)/\Qb [] w w'/\∀d∈Qd c,w.heap.size<=d
def wQ(v l w)(h:J6 w v l)(c:l.length<=1000000):Calls prog 32 #[v] w (FX l w):=by
 obtain⟨a,g,rfl,hs,d⟩:=h;rcases a with _|ad
 ·obtain⟨rfl,rfl⟩:=d rfl;have e:=fun c:WD=>FO (P:=prog) c 38 69 none 0 0 0 0 Gj
  go_enter func32,tM
  go_wp2
  go_ret;exact⟨_,rfl,Qm.nil _ _ _,Qc _ _,by simp[Qd,qo]⟩
 have e:=fun c:WD=>FO (P:=prog) c 38 69 (some ad) l g 0 0 Gj
 have i:Qm (w.alloc<|.cells #[] 69) 69 5 (.slice w 0 0) 0 []:=
  ⟨rfl,.inr ⟨w.heap.size,0,#[],rfl,Zv _,Xq w _,Qk _,Zv _,rfl,rfl⟩⟩
 have e:=hs.kZ<|(Qc [] w).alloc<|.cells #[] 69;obtain⟨m,n,QX,j,hk,hf⟩:=Cp (P:=prog) (w.alloc<|.cells #[] 69) 38 38 69 (.agg #["",(0:Int),(0:Int),(0:Int),.int .u32 0]) 5 48 Gj Nf rfl dx
  (.slice w 0 0) 0 [] i ad l g (Qs Q9 l) e.1 (fun p q o=>by obtain⟨b,off,c,g⟩:=e.2 p q o;injection c with c;rwa[c,Jc]) (yS l) (by simp only[maxLen];omega) ox
 have o:=Qa (show ∃v,Ending.returned m=.returned v/\Qm n 69 5 v l (Qs Q9 l)/\Qb [] w n/\∀c∈Qd v,w.heap.size<=c from by
  refine⟨m,rfl,by have:=j;rwa[Zu,YU]at this,((Qc [] w).alloc _).new hk (by intro c g;simp[Qd,qo]at g;omega),fun c g=>?_⟩;rcases hf c g with h|h
  ·simp[Qd,qo]at h;omega
  simp at h;omega)
 go_enter func32,tM;go_wp2_with (at_builtin;refine SI rfl _ _ 38 38 rfl QX ?_);go_ret;exact o.o
end
def Mh{P g c a w l}(W)(e:P.follows .mixedOrders=true)(d:Region.lexB .any l.toArray=true)(h0:Qb [] W w)(h:wpQuiet P l.toArray (fun w'=>Qb [] W w') (fun a'=>∀w',Qb [] W w'->c .normal a' w') l a):(Code.region g l.toArray true).wp P c a w:=
 wp_region_quiet (C:=fun w'=>Qb [] W w') e d h0.drew (by simpa using h)
def Calls.keptK{P}{f:FuncId}{args W w v}(hk:Qb [] W w)(h:Calls P f args w (RK v w)):Calls P f args w fun e c=>e=.returned v/\Qb [] W c:=
 h.mono fun _ _ ⟨c,h⟩=>⟨c,hk.trans h sx⟩
