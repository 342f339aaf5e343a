import Derived.Shelf.SlSortCmp.NoneTotal
import Derived.Deep.Quiet
import Derived.Test.YtickjpnkoppmgaaGreatDoorBe
import Derived.Test.YtickjpnkoppmgaaGreatDoorBg
set_option linter.all false
namespace Go.Proofs.YtickjpnkoppmgaaGreatDoor
open Go.Proofs.Tryz Go.RowKit K
section
open Go.Sort
def Qb.grow(w:WD)(k:Nat)(os:Array Obj):Qb [] w (Go.Sort.grow (w.drewN k) os):=
 ⟨rfl,rfl,rfl,by simp[Go.Sort.grow],fun a hi _=>by simp[Go.Sort.grow,Array.getElem?_append,hi]⟩
def Wk(s t:BA)(w)(hs:s.size≤1000000)(c:t.size≤1000000)(a:YN w):
 Calls prog 70 #[s,t] w fun e w'=>e=.returned (.int .i64<|Xd s t)∧∃d os,w'=Go.Sort.grow (w.drewN d) os:=by
 have j:=Qa a;clear a;have i:=IE s;have k:=IE t;rw[Zo]at i k;have⟨h,l,f⟩:=qc (fL s w hs j.o) (fun(b:WD)(g:YN b)=>fL t b c g)<|show Xd s t=XS (ZG s) (ZG t)from rfl;have⟨b,o⟩:=qx<|ZG s;have⟨c,a⟩:=qx<|ZG t;rw[o]at h f i;rw[a]at l f k;rw[f.o];have⟨f,z⟩:=qx<|min b.length c.length;have:min (b.length:Int) (c.length:Int)=(f:Int):=by omega
 go_enter func70,ntmps70;go_wp2_with fail;refine h.o.mono ?_;rintro e h⟨rfl,i⟩;have n:Qb [] w h:=by rw[i];exact(Qc _ _).alloc _
 have p:Qp h 1 w.heap.size b.length (strs b):=by rw[i];exact Qp.lit<|Vi b
 have⟨k,q,m⟩:=qc n i p;clear i n p;go_wp2_with fail;refine(l.o _<|j.o.kept k.o<|by simp).mono ?_;rintro e j⟨rfl,i⟩;have l:Qb [] h j:=by rw[i];exact(Qc _ _).alloc _
 have u:Qp j 1 h.heap.size c.length (strs c):=by rw[i];exact Qp.lit<|Vi c
 have:=Qa<|k.o.trans l fun k k=>.inl k;have⟨v,n,p⟩:=qc (show ∃os,j=Go.Sort.grow w os from⟨_,by rw[i,q.o,alloc_eq_grow,alloc_eq_grow,grow_grow]⟩) (m.o.kZ l) u;obtain⟨x,q⟩:∃k,w.heap.size=k:=⟨_,rfl⟩;obtain⟨y,r⟩:∃k,h.heap.size=k:=⟨_,rfl⟩;rw[q]at n ⊢;rw[r]at p ⊢;clear i l u m o a q r;go_wp2_with fail;obtain⟨h,a⟩:∃h:WD,h=j:=⟨_,rfl⟩;subst a
 go_loopg [17] f (fun k i wr=>(∃a:Nat,a≤f∧k=f-a∧i=.int .i64 (a:Nat)∧Hid (XS b c=XS (b.drop a) (c.drop a)))∧Hid (∃d,wr=h.drewN d))
 ·exact⟨⟨0,by omega,rfl,rfl,Qa rfl⟩,Qa ⟨0,rfl⟩⟩
 obtain⟨⟨a,hi,hk,rfl,j⟩,o⟩:=hrel;have⟨q,l⟩:=qb (by obtain⟨d,g⟩:=o.o;rw[g];exact(Qc _ _).drewN d:Qb [] h wr) (show ∀h,∃d os,wr.drewN h=Go.Sort.grow (w.drewN d) os from fun h=>by obtain⟨d,g⟩:=o.o;obtain⟨os,m⟩:=v.o;exact⟨d+h,os,by rw[g,World.drewN_drewN,m];rfl⟩)
 by_cases hlt:a<f
 ·obtain⟨r,i,u⟩:(a:Int)<f∧a<b.length∧a<c.length:=by omega
  have⟨h,ha⟩:=qy b a i;have⟨i,hb⟩:=qy c a u;have c0:wr.cell? ⟨x,a,none⟩=some (.string<|str h):=by have g:=Qp.get1 (n.o.kZ q.o)<|Gt ha;rwa[ZE]at g
  have c1:wr.cell? ⟨y,a,none⟩=some (.string<|str i):=by have g:=Qp.get1 (p.o.kZ q.o)<|Gt hb;rwa[ZE]at g
  obtain⟨_,_⟩:(a:Int)<b.length∧(a:Int)<c.length:=by omega
  have⟨p,q⟩:=qb ha hb;clear ha hb
  by_cases n:h=i
  ·have g1:((str h).toList==(str i).toList)=true:=(by rw[X6,X6,Jz,Jz,n];simp);go_wp2_with fail;go_quiet (fail)
   go_wp2
   go_roundg (f-(a+1))
   ·refine⟨⟨a+1,by omega,rfl,by go_num,Qa ?_⟩,Qa ?_⟩
    rotate_left
    ·obtain⟨d,g⟩:=o.o;exact⟨d+nq,by rw[g,World.drewN_drewN]⟩
    rw[j.o];exact tM p.o (by rw[n];exact q.o)
   omega
  have g1:((str h).toList==(str i).toList)=false:=by rw[X6,X6,Jz,Jz];exact Zb.2 n
  go_wp2_with fail;go_quiet (fail);have k:=(Qc [] wr).drewN nq;have c2:=k.cZ c0 (by simp);have c3:=k.cZ c1 (by simp);have g:∀h,∃d os,(wr.drewN nq).drewN h=Go.Sort.grow (w.drewN d) os:=fun h=>by rw[World.drewN_drewN];exact l.o _
  generalize wr.drewN nq=W2 at g c2 c3 ⊢;have d:=Qa g;clear c0 c1 k g;go_wp2_with fail;go_quiet ((go_at_call 106;refine Calls.quiet_of_same<|Tryz.strCompare _ _ _))
  go_wp2
  go_ret;refine⟨?_,d.o _⟩;rw[j.o,tO p.o q.o n];rfl
 have r:¬(a:Int)<f:=by omega
 obtain rfl:a=f:=by omega
 have d:=Qa<|tN b c a z.symm
 by_cases a:b.length<c.length
 ·have g1:(b.length:Int)<c.length:=by omega
  go_wp2
  go_ret;refine⟨?_,l.o 0⟩;rw[j.o,d.o,Qg a];rfl
 have g1:¬(b.length:Int)<c.length:=by omega
 by_cases m:c.length<b.length
 ·have f:(c.length:Int)<b.length:=by omega
  go_wp2
  go_ret;refine⟨?_,l.o 0⟩;rw[j.o,d.o,Qf a,Qg m];rfl
 have f:¬(c.length:Int)<b.length:=by omega
 go_wp2
 go_ret;refine⟨?_,l.o 0⟩;rw[j.o,d.o,Qf a,Qf m];rfl
def Wl(s t:BA)(w:WD)(hs:s.size≤1000000)(b:t.size≤1000000)(a:YN w):
 Calls prog 70 #[s,t] w fun e w'=>e=.returned (.int .i64<|Xd s t)∧Qb [] w w':=(Wk s t w hs b a).mono fun _ _ ⟨a,b,os,e⟩=>⟨a,e▸Qb.grow w b os⟩
end
section
open Go.Sort Go.Shelf
def IL:∀x,(Q4 x).length=2:=fun _=>rfl
def Ep:∀x,∀v∈Q4 x,v.oneCell'=true:=fun x v a=>by simp[Q4]at a;rcases a with rfl|rfl<;>rfl
def vK(l):∀u∈Qx Q4 l,u.oneCell'=true:=fun u a=>by obtain⟨c,-,b⟩:=List.mem_flatMap.1 a;exact Ep c u b
def RS(w:WD)(v:VL)(l:List QN):Prop:=∃a b,v=.slice a l.length b∧Qp w 2 a l.length (Qx Q4 l)∧(a=none→l=[]∧b=0)
def Qn.exA{w v l}(a:Qn w 109 2 v l.length (Qx Q4 l)):RS w v l:=by
 rcases a.2 with⟨rfl,b⟩|⟨d,cap,c,rfl,-⟩
 ·exact⟨none,0,by rw[b],⟨a.1,fun e f c=>by have:=(Qz.1 c).1;rw[a.1,b]at this;omega⟩,fun _=>⟨J3 b,rfl⟩⟩
 exact⟨_,_,rfl,⟨a.1,fun e f c=>⟨d,0,rfl,by rw[ZE];exact a.aZ c⟩⟩,fun a=>by cases a⟩
def Bt:(prog.info? 109).map (fun i=>(i.zero,i.size,i.bytes))=some (some<|.agg #[(0:Int),(0:Int)],2,16):=by kernel_rfl
def DH(l:List QN)(w:WD)(e:Ending)(w':WD):Prop:=∃a,e=.returned a∧Qn w' 109 2 a l.length (Qx Q4 l)∧Qb [] w w'∧∀b∈Qd a,w.heap.size≤b
def tJ(v l w)(a:RS w v l)(b:l.length≤1000000):Calls prog 149 #[v] w (DH l w):=by
 obtain⟨b,e,rfl,hs,c⟩:=a;rcases b with _|ad
 ·obtain⟨rfl,rfl⟩:=c rfl;have d:=fun b:WD=>EY (P:=prog) b 106 109 none 0 0 0 0 R9
  go_enter func149,qD
  go_wp2
  go_ret;exact⟨_,rfl,Qn.nil _ _ _,Qc _ _,by simp[Qd,qo]⟩
 have d:=fun b:WD=>EY (P:=prog) b 106 109 (some ad) l.length e 0 0 R9
 have f:Qn (w.alloc<|.cells #[] 109) 109 2 (.slice w.heap.size 0 0) 0 []:=
  ⟨rfl,.inr ⟨w.heap.size,0,#[],rfl,ZF _,Xf w _,Ql _,ZF _,rfl,rfl⟩⟩
 have d:=hs.kZ<|(Qc [] w).alloc<|.cells #[] 109;obtain⟨h,i,QU,g,hk,hf⟩:=BN (P:=prog) (w.alloc<|.cells #[] 109) 106 106 109 (.agg #[(0:Int),(0:Int)]) 2 16 R9 Bt rfl (by decide)
  (.slice w.heap.size 0 0) 0 [] f ad l.length e (Qx Q4 l) d.1 (fun k m j=>by obtain⟨b,off,b,e⟩:=d.2 k m j;injection b with b;rwa[b,YM]) (vK l) (by simp only[maxLen];omega) (by omega)
 have j:=Qa (show ∃v,Ending.returned h=.returned v∧Qn i 109 2 v l.length (Qx Q4 l)∧Qb [] w i∧∀b∈Qd v,w.heap.size≤b from by
  refine⟨h,rfl,by have:=g;rwa[ZE,Yy]at this,((Qc [] w).alloc _).new hk (by intro b e;simp[Qd,qo]at e;omega),fun b e=>?_⟩;rcases hf b e with a|a
  ·simp[Qd,qo]at a;omega
  simp at a;omega)
 go_enter func149,qD;go_wp2_with (at_builtin;refine Ps rfl _ _ 106 106 rfl QU ?_);go_ret;exact j.o
def Qgn(v l w)(a:Qn w 109 2 v l.length (Qx Q4 l))(f:l.length≤1000000):
 Calls prog 150 #[v,.func (.func 151) #[] #[]] w fun e w'=>e=.returned (.tuple #[])∧Qn w' 109 2 v l.length (Qx Q4<|Jy l)∧Qb (Qd v) w w':=by
 rcases id a.2 with⟨rfl,b⟩|⟨d,c,g,rfl,-⟩
 ·have g:=J3 b;subst g;refine(AnyF.slices_SortFunc_none SU none 0 _ w).mono ?_;rintro e w'⟨rfl,rfl⟩;exact⟨rfl,by rw[show Jy []=[]by simp[Jy]];exact a,Qc _ _⟩
 refine(Qgm d c l.length l w a rfl f).mono ?_;rintro e w'⟨rfl,b,a⟩;exact⟨rfl,b,a.mono (fun a a=>by simp at a;simp[Qd,qo,a])⟩
def iZ(v l w)(a:RS w v l)(b:l.length≤1000000):Calls prog 107 #[v] w (DH (Jy l) w):=by
 have d:=Qa<|tJ v l w a b;have hp:=(RK l).length_eq;have e:=Qa hp;go_enter func107,ntmps107;go_wp2_with (first
  |(go_at_call 149;refine d.o.mono ?_;rintro f k⟨c,rfl,i,g,a⟩)
  |(go_at_call 150;refine(Qgn c l k i b).mono ?_;rintro f m⟨rfl,j,h⟩))
 go_ret;exact⟨c,rfl,by rwa[e.o],g.trans h fun c b=>.inr<|a c b,a⟩
def MU{w a n l}(c:Qp w 2 a n (Qx Q4 l)){i}{x:QN}(b:l[i]?=some x):
 ∃g off,a=some ⟨g,off,none⟩∧w.cell? ⟨g,off+i*2,none⟩=some (.int .i64 x.1)∧w.cell? ⟨g,off+i*2+1,none⟩=some (.int .i64 x.2):=by
 have h0:=Va IL l i 0 x b (by decide);have e:=Va IL l i 1 x b (by decide);obtain⟨g,off,d,c1⟩:=c.2 _ x.1 (by rw[h0];rfl);obtain⟨b,b,b,c2⟩:=c.2 _ x.2 (by rw[e];rfl);subst d;injection b with b;injection b with b e3;subst b e3;exact⟨g,off,rfl,c1,c2⟩
def KK(v l)(cap:Int)(w)(h:RS w v l)(hl:l.length≤1000000)(h1:1≤cap)(h2:cap≤4096):
 Calls prog 72 #[v,cap] w fun e w'=>e=.returned (.int .i64<|if ZX cap l then 0 else 220)∧Qb [] w w':=by
 have HS:=Qa<|iZ v l w h hl;have g1:decide (cap<1)=false:=by simp;omega
 have g2:decide (4096<cap)=false:=by simp;omega
 obtain⟨R,hR⟩:∃R:Int,(if ZX cap l then 0 else 220)=R:=⟨_,rfl⟩;rw[hR];have HR:=Qa hR;have⟨S,hS⟩:=qx<|Jy l;have x3:S.length=l.length:=by rw[←hS];exact(RK l).length_eq
 rw[hS]at HS;have⟨x2,y1⟩:=qb hS x3;clear h hR hS x3;go_enter func72,ntmps72;go_wp2_with (go_at_call 107;refine HS.o.mono ?_;rintro e w1⟨v1,rfl,x8,x6,y2⟩;have y4:=x8.exA;obtain⟨a1,c1,rfl,x9,y3⟩:=y4);have⟨h5,y0⟩:=qb x6 x9;clear x8 x6 y2 x9 y3;have⟨n,hn⟩:=qx S.length;rw[hn];have HN:=Qa hn;have y7:n≤1000000:=by have:=y1.o;omega
 clear hn
 go_loopg [5,7,17] n (fun k x5 x7 y5 wr=>(∃(i:Nat)(f:Int),i≤n∧k=n-i∧x5=.int .i64 f∧y5=.int .i64 (i:Nat)∧30≤f∧Hid (Ab cap 30 S=Ab cap f (S.drop i)))∧Hid (Qb [] w1 wr))
 ·exact⟨⟨0,30,by omega,by omega,rfl,rfl,by omega,Qa rfl⟩,Qa<|Qc _ _⟩
 obtain⟨⟨i,f,hi,hk,rfl,rfl,y6,HF⟩,h4⟩:=hrel
 by_cases hlt:i<n
 ·have g0:(i:Int)<n:=by omega
  have⟨x,hx⟩:=qy S i (by have:=HN.o;omega);obtain⟨g,off,rfl,c0,c1⟩:=MU (y0.o.kZ h4.o) hx;have x4:S.drop i=x::S.drop (i+1):=by
   have hl:=(Qz.1 hx).1;rw[Z8 hl]
   congr 1
   exact(Qz.1 hx).2
  have hf:=HF.o;rw[x4,Ab]at hf;have h8:=Qa hf;obtain⟨o,q⟩:=x;simp only[]at c0 c1;clear hf x4 hx;have h3:(o<f∨q<1∨cap<o∨cap-o<q)→Hid (R=220):=fun hc=>Qa (by have:=h8.o;rw[Qg<|show(o,q).1<f∨(o,q).2<1∨cap<(o,q).1∨cap-(o,q).1<(o,q).2 from hc]at this;rw[←HR.o,ZX,x2.o,this];rfl)
  by_cases b1:o<f
  ·have y:=h3<|.inl b1;have q1:decide (o<f)=true:=(by simpa using b1);clear h3
   go_wp2
   go_ret;exact⟨by rw[y.o];rfl,h5.o.trans (h4.o.alloc _)<|by simp⟩
  have q1:decide (o<f)=false:=by simpa using b1
  by_cases b2:q<1
  ·have y:=h3<|.inr<|.inl b2;have q2:decide (q<1)=true:=(by simpa using b2);clear h3
   go_wp2
   go_ret;exact⟨by rw[y.o];rfl,h5.o.trans (h4.o.alloc _)<|by simp⟩
  have q2:decide (q<1)=false:=by simpa using b2
  by_cases b3:cap<o
  ·have y:=h3<|.inr<|.inr<|.inl b3;have q3:decide (cap<o)=true:=(by simpa using b3);clear h3
   go_wp2
   go_ret;exact⟨by rw[y.o];rfl,h5.o.trans (h4.o.alloc _)<|by simp⟩
  have q3:decide (cap<o)=false:=by simpa using b3
  have v1:IntKind.i64.wrap (cap-o)=cap-o:=by rw[Zz];omega
  by_cases b4:cap-o<q
  ·have y:=h3<|.inr<|.inr<|.inr b4;have q4:decide (cap-o<q)=true:=(by simpa using b4);clear h3
   go_wp2
   go_ret;exact⟨by rw[y.o];rfl,h5.o.trans (h4.o.alloc _)<|by simp⟩
  have q4:decide (cap-o<q)=false:=by simpa using b4
  have v2:IntKind.i64.wrap (o+q)=o+q:=by rw[Zz];omega
  have h9:=Qa (by omega:30≤o+q∧¬(o<f∨q<1∨cap<o∨cap-o<q));clear h3
  go_wp2
  go_roundg (n-(i+1))
  ·refine⟨⟨i+1,o+q,by omega,rfl,rfl,by go_num,h9.o.1,Qa ?_⟩,Qa<|h4.o.alloc _⟩;exact h8.o.trans<|Qf h9.o.2
  omega
 obtain rfl:i=n:=by omega
 have g0:¬(i:Int)<i:=by omega
 have y:=Qa (by have:=HF.o;rw[JI (by rw[HN.o];exact Ql _),Ab]at this;rw[←HR.o,ZX,x2.o,this];rfl:R=0)
 go_wp2
 go_ret;exact⟨by rw[y.o];rfl,h5.o.trans h4.o<|by simp⟩
end
section
open Go.Sort Go.Shelf
def Zi(m:RM):LV:=[str m.path,m.start,m.eZ,m.size,.int .u32 m.sum]
def WM:∀x,(Zi x).length=5:=fun _=>rfl
def MT:∀x,∀v∈Zi x,v.oneCell'=true:=fun x v a=>by simp[Zi]at a;rcases a with rfl|rfl|rfl|rfl|rfl<;>rfl
def Uf(w:WD)(v:VL)(l:List RM):Prop:=∃a b,v=.slice a l.length b∧Qp w 5 a l.length (Qx Zi l)∧(a=none→l=[]∧b=0)
def Uf.kZ{w w' v l}(d:Uf w v l)(hk:Qb [] w w'):Uf w' v l:=by obtain⟨a,b,c,hs,e⟩:=d;exact⟨a,b,c,hs.kZ hk,e⟩
def VT{w a n l}(j:Qp w 5 a n (Qx Zi l)){i x}(d:l[i]?=some x):
 ∃g off,a=some ⟨g,off,none⟩∧w.cell? ⟨g,off+i*5,none⟩=some (.string<|str x.path)∧w.cell? ⟨g,off+i*5+1,none⟩=some (.int .i64 x.start)∧w.cell? ⟨g,off+i*5+2,none⟩=some (.int .i64 x.eZ)∧
  w.cell? ⟨g,off+i*5+3,none⟩=some (.int .i64 x.size)∧w.cell? ⟨g,off+i*5+4,none⟩=some (.int .u32 x.sum):=by
 have k:∀b c,b<5→(Zi x)[b]?=some c→(Qx Zi l)[i*5+b]?=some c:=fun b c f h=>by rw[Va WM l i b x d f,h]
 obtain⟨g,off,d,c0⟩:=j.2 _ _<|k 0 (.string<|str x.path) (by decide) rfl;subst d;have e:∀b c,b<5→(Zi x)[b]?=some c→w.cell? ⟨g,off+(i*5+b),none⟩=some c:=fun b c f h=>by obtain⟨d,d,d,m⟩:=j.2 _ _<|k b c f h;injection d with d;injection d with d e3;subst d e3;exact m
 exact⟨g,off,rfl,c0,e 1 _ (by decide) rfl,e 2 _ (by decide) rfl,e 3 _ (by decide) rfl,e 4 _ (by decide) rfl⟩
def vI(l):∀u∈Qx Zi l,u.oneCell'=true:=fun u a=>by obtain⟨c,-,b⟩:=List.mem_flatMap.1 a;exact MT c u b
def Sw:(prog.info? 69).map (fun i=>(i.zero,i.size,i.bytes))=some (some<|.agg #[.string ⟨#[]⟩,(0:Int),(0:Int),(0:Int),.int .u32 0],5,48):=by kernel_rfl
def Qn.memA{w v l}(a:Qn w 69 5 v l.length (Qx Zi l)):Uf w v l:=by
 rcases a.2 with⟨rfl,b⟩|⟨d,cap,c,rfl,-⟩
 ·exact⟨none,0,by rw[b],⟨a.1,fun e f c=>by have:=(Qz.1 c).1;rw[a.1,b]at this;omega⟩,fun _=>⟨J3 b,rfl⟩⟩
 exact⟨_,_,rfl,⟨a.1,fun e f c=>⟨d,0,rfl,by rw[ZE];exact a.aZ c⟩⟩,fun a=>by cases a⟩
def Fh(l:List RM)(w:WD)(e:Ending)(w':WD):Prop:=∃a,e=.returned a∧Qn w' 69 5 a l.length (Qx Zi l)∧Qb [] w w'∧∀b∈Qd a,w.heap.size≤b
def tI(v l w)(a:Uf w v l)(b:l.length≤1000000):Calls prog 32 #[v] w (Fh l w):=by
 obtain⟨b,e,rfl,hs,c⟩:=a;rcases b with _|ad
 ·obtain⟨rfl,rfl⟩:=c rfl;have d:=fun b:WD=>EY (P:=prog) b 38 69 none 0 0 0 0 Ij
  go_enter func32,qE
  go_wp2
  go_ret;exact⟨_,rfl,Qn.nil _ _ _,Qc _ _,by simp[Qd,qo]⟩
 have d:=fun b:WD=>EY (P:=prog) b 38 69 (some ad) l.length e 0 0 Ij
 have f:Qn (w.alloc<|.cells #[] 69) 69 5 (.slice w.heap.size 0 0) 0 []:=
  ⟨rfl,.inr ⟨w.heap.size,0,#[],rfl,ZF _,Xf w _,Ql _,ZF _,rfl,rfl⟩⟩
 have d:=hs.kZ<|(Qc [] w).alloc<|.cells #[] 69;obtain⟨h,i,QU,g,hk,hf⟩:=BN (P:=prog) (w.alloc<|.cells #[] 69) 38 38 69 (.agg #[.string ⟨#[]⟩,(0:Int),(0:Int),(0:Int),.int .u32 0]) 5 48 Ij Sw rfl (by decide)
  (.slice w.heap.size 0 0) 0 [] f ad l.length e (Qx Zi l) d.1 (fun k m j=>by obtain⟨b,off,b,e⟩:=d.2 k m j;injection b with b;rwa[b,YM]) (vI l) (by simp only[maxLen];omega) (by omega)
 have j:=Qa (show ∃v,Ending.returned h=.returned v∧Qn i 69 5 v l.length (Qx Zi l)∧Qb [] w i∧∀b∈Qd v,w.heap.size≤b from by
  refine⟨h,rfl,by have:=g;rwa[ZE,Yy]at this,((Qc [] w).alloc _).new hk (by intro b e;simp[Qd,qo]at e;omega),fun b e=>?_⟩;rcases hf b e with a|a
  ·simp[Qd,qo]at a;omega
  simp at a;omega)
 go_enter func32,qE;go_wp2_with (at_builtin;refine Ps rfl _ _ 38 38 rfl QU ?_);go_ret;exact j.o
end
def KW{P f b a w l}(W)(e:P.follows .mixedOrders=true)(d:Region.lexB .any l.toArray=true)(h0:Qb [] W w)(c:wpQuiet P l.toArray (fun w'=>Qb [] W w') (fun a'=>∀w',Qb [] W w'→b .normal a' w') l a):(Code.region f l.toArray true).wp P b a w:=
 wp_region_quiet (C:=fun w'=>Qb [] W w') e d h0.drew (by simpa using c)
def Calls.keptK{P}{f:FuncId}{args W w v}(hk:Qb [] W w)(a:Calls P f args w fun e w'=>e=.returned v∧Qb [] w w'):Calls P f args w fun e b=>e=.returned v∧Qb [] W b:=
 a.mono fun _ _ ⟨b,a⟩=>⟨b,hk.trans a<|by simp⟩
