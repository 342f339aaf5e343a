import Derived.Shelf.SlSortCmp.NoneTotal
import Derived.Deep.Quiet
import Derived.Test.YtickjpnkoppmgaaGreatDoorBh
import Derived.Test.YtickjpnkoppmgaaGreatDoorBe
set_option linter.all false
namespace Go.Proofs.YtickjpnkoppmgaaGreatDoor
open Go.Proofs.Tryz Go.RowKit K
section
open Go.Sort Go.Shelf
def Is:∀x,(Q3 x).length=2:=fun _=>rfl
def Ev:∀x,∀v∈Q3 x,v.oneCell'=true:=fun x v a=>by simp[Q3]at a;rcases a with rfl|rfl<;>rfl
def uY(l):∀u∈Qw Q3 l,u.oneCell'=true:=fun u a=>by obtain⟨c,-,b⟩:=List.mem_flatMap.1 a;exact Ev c u b
def RN(w:World)(v:Value)(l:List QL):Prop:=∃a b,v=.slice a l.length b∧Qn w 2 a l.length (Qw Q3 l)∧(a=none→l=[]∧b=0)
def Qp.exA{w v l}(a:Qp w 109 2 v l.length (Qw Q3 l)):RN w v l:=by
 rcases a.2 with⟨rfl,b⟩|⟨d,cap,c,rfl,-⟩
 ·exact⟨none,0,by rw[b],⟨a.1,fun e f c=>by have:=(Qz.1 c).1;rw[a.1,b]at this;omega⟩,fun _=>⟨JW b,rfl⟩⟩
 exact⟨_,_,rfl,⟨a.1,fun e f c=>⟨d,0,rfl,by rw[Zz];exact a.aZ c⟩⟩,fun a=>by cases a⟩
def Bo:(prog.info? 109).map (fun i=>(i.zero,i.size,i.bytes))=some (some<|.agg #[(0:Int),(0:Int)],2,16):=by kernel_rfl
def DM(l:List QL)(w:World)(e:Ending)(w':World):Prop:=∃a,e=.returned a∧Qp w' 109 2 a l.length (Qw Q3 l)∧Qb [] w w'∧∀b∈Qd a,w.heap.size≤b
def sW(v l w)(a:RN w v l)(b:l.length≤1000000):Calls prog 149 #[v] w (DM l w):=by
 obtain⟨b,e,rfl,hs,c⟩:=a;rcases b with _|ad
 ·obtain⟨rfl,rfl⟩:=c rfl;have d:=fun b:World=>Fe (P:=prog) b 106 109 none 0 0 0 0 RW
  go_enter func149,pQ
  go_wp2
  go_ret;exact⟨_,rfl,Qp.nil _ _ _,Qc _ _,by simp[Qd,qo]⟩
 have d:=fun b:World=>Fe (P:=prog) b 106 109 (some ad) l.length e 0 0 RW
 have f:Qp (w.alloc<|.cells #[] 109) 109 2 (.slice w.heap.size 0 0) 0 []:=
  ⟨rfl,.inr ⟨w.heap.size,0,#[],rfl,ZF _,Xe w _,Ql _,ZF _,rfl,rfl⟩⟩
 have d:=hs.kZ<|(Qc [] w).alloc<|.cells #[] 109;obtain⟨h,i,QP,g,hk,hf⟩:=BJ (P:=prog) (w.alloc<|.cells #[] 109) 106 106 109 (.agg #[(0:Int),(0:Int)]) 2 16 RW Bo rfl (by decide)
  (.slice w.heap.size 0 0) 0 [] f ad l.length e (Qw Q3 l) d.1 (fun k m j=>by obtain⟨b,b,b,e⟩:=d.2 k m j;injection b with b;rwa[b,YK]) (uY l) (by simp only[maxLen];omega) (by omega)
 have j:=Qa (show ∃v,Ending.returned h=.returned v∧Qp i 109 2 v l.length (Qw Q3 l)∧Qb [] w i∧∀b∈Qd v,w.heap.size≤b from by
  refine⟨h,rfl,by have:=g;rwa[Zz,Yv]at this,((Qc [] w).alloc _).new hk (by intro b e;simp[Qd,qo]at e;omega),fun b e=>?_⟩;rcases hf b e with a|a
  ·simp[Qd,qo]at a;omega
  simp at a;omega)
 go_enter func149,pQ;go_wp2_with (at_builtin;refine OR rfl _ _ 106 106 rfl QP ?_);go_ret;exact j.o
def Qfz(v l w)(a:Qp w 109 2 v l.length (Qw Q3 l))(f:l.length≤1000000):
 Calls prog 150 #[v,.func (.func 151) #[] #[]] w fun e w'=>e=.returned (.tuple #[])∧Qp w' 109 2 v l.length (Qw Q3<|Jr l)∧Qb (Qd v) w w':=by
 rcases id a.2 with⟨rfl,b⟩|⟨d,c,g,rfl,-⟩
 ·have g:=JW b;subst g;refine(AnyF.slices_SortFunc_none SD none 0 _ w).mono ?_;rintro e w'⟨rfl,rfl⟩;exact⟨rfl,by rw[show Jr []=[]by simp[Jr]];exact a,Qc _ _⟩
 refine(Qfy d c l.length l w a rfl f).mono ?_;rintro e w'⟨rfl,b,a⟩;exact⟨rfl,b,a.mono (fun a a=>by simp at a;simp[Qd,qo,a])⟩
def iP(v l w)(a:RN w v l)(b:l.length≤1000000):Calls prog 107 #[v] w (DM (Jr l) w):=by
 have d:=Qa<|sW v l w a b;have hp:=(RF l).length_eq;have e:=Qa hp;go_enter func107,ntmps107;go_wp2_with (first
  |(go_at_call 149;refine d.o.mono ?_;rintro f k⟨c,rfl,i,g,a⟩)
  |(go_at_call 150;refine(Qfz c l k i b).mono ?_;rintro f m⟨rfl,j,h⟩))
 go_ret;exact⟨c,rfl,by rwa[e.o],g.trans h fun c b=>.inr<|a c b,a⟩
def Mv{w a n l}(d:Qn w 2 a n (Qw Q3 l)){i}{x:QL}(b:l[i]?=some x):
 ∃g c,a=some ⟨g,c,none⟩∧w.cell? ⟨g,c+i*2,none⟩=some (.int .i64 x.1)∧w.cell? ⟨g,c+i*2+1,none⟩=some (.int .i64 x.2):=by
 have h0:=U9 Is l i 0 x b (by decide);have f:=U9 Is l i 1 x b (by decide);obtain⟨g,c,e,c1⟩:=d.2 _ x.1 (by rw[h0];rfl);obtain⟨b,b,b,c2⟩:=d.2 _ x.2 (by rw[f];rfl);subst e;injection b with b;injection b with b e3;subst b e3;exact⟨g,c,rfl,c1,c2⟩
def Kr(v l)(cap:Int)(w)(h:RN w v l)(hl:l.length≤1000000)(h1:1≤cap)(h2:cap≤4096):
 Calls prog 72 #[v,cap] w fun e w'=>e=.returned (.int .i64<|if ZX cap l then 0 else 220)∧Qb [] w w':=by
 have HS:=Qa<|iP v l w h hl;have g1:decide (cap<1)=false:=by simp;omega
 have g2:decide (4096<cap)=false:=by simp;omega
 obtain⟨R,hR⟩:∃R:Int,(if ZX cap l then 0 else 220)=R:=⟨_,rfl⟩;rw[hR];have HR:=Qa hR;have⟨S,hS⟩:=qx<|Jr l;have x3:S.length=l.length:=by rw[←hS];exact(RF l).length_eq
 rw[hS]at HS;have⟨x2,y1⟩:=qb hS x3;clear h hR hS x3;go_enter func72,ntmps72;go_wp2_with (go_at_call 107;refine HS.o.mono ?_;rintro e w1⟨v1,rfl,x8,x6,y2⟩;have y4:=x8.exA;obtain⟨a1,c1,rfl,x9,y3⟩:=y4);have⟨h5,y0⟩:=qb x6 x9;clear x8 x6 y2 x9 y3;have⟨n,hn⟩:=qx S.length;rw[hn];have HN:=Qa hn;have y7:n≤1000000:=by have:=y1.o;omega
 clear hn
 go_loopg [5,7,17] n (fun k x5 x7 y5 wr=>(∃(i:Nat)(f:Int),i≤n∧k=n-i∧x5=.int .i64 f∧y5=.int .i64 (i:Nat)∧30≤f∧Hid (RZ cap 30 S=RZ cap f (S.drop i)))∧Hid (Qb [] w1 wr))
 ·exact⟨⟨0,30,by omega,by omega,rfl,rfl,by omega,Qa rfl⟩,Qa<|Qc _ _⟩
 obtain⟨⟨i,f,hi,hk,rfl,rfl,y6,HF⟩,h4⟩:=hrel
 by_cases hlt:i<n
 ·have g0:(i:Int)<n:=by omega
  have⟨x,hx⟩:=qy S i (by have:=HN.o;omega);obtain⟨g,y8,rfl,c0,c1⟩:=Mv (y0.o.kZ h4.o) hx;have x4:S.drop i=x::S.drop (i+1):=by
   have hl:=(Qz.1 hx).1;rw[Xa hl]
   congr 1
   exact(Qz.1 hx).2
  have hf:=HF.o;rw[x4,RZ]at hf;have h8:=Qa hf;obtain⟨o,q⟩:=x;simp only[]at c0 c1;clear hf x4 hx;have h3:(o<f∨q<1∨cap<o∨cap-o<q)→Hid (R=220):=fun hc=>Qa (by have:=h8.o;rw[Qg<|show(o,q).1<f∨(o,q).2<1∨cap<(o,q).1∨cap-(o,q).1<(o,q).2 from hc]at this;rw[←HR.o,ZX,x2.o,this];rfl)
  by_cases b1:o<f
  ·have y:=h3<|.inl b1;have q1:decide (o<f)=true:=(by simpa using b1);clear h3
   go_wp2
   go_ret;exact⟨by rw[y.o];rfl,h5.o.trans (h4.o.alloc _)<|by simp⟩
  have q1:decide (o<f)=false:=by simpa using b1
  by_cases b2:q<1
  ·have y:=h3<|.inr<|.inl b2;have q2:decide (q<1)=true:=(by simpa using b2);clear h3
   go_wp2
   go_ret;exact⟨by rw[y.o];rfl,h5.o.trans (h4.o.alloc _)<|by simp⟩
  have q2:decide (q<1)=false:=by simpa using b2
  by_cases b3:cap<o
  ·have y:=h3<|.inr<|.inr<|.inl b3;have q3:decide (cap<o)=true:=(by simpa using b3);clear h3
   go_wp2
   go_ret;exact⟨by rw[y.o];rfl,h5.o.trans (h4.o.alloc _)<|by simp⟩
  have q3:decide (cap<o)=false:=by simpa using b3
  have v1:IntKind.i64.wrap (cap-o)=cap-o:=by rw[Zx];omega
  by_cases b4:cap-o<q
  ·have y:=h3<|.inr<|.inr<|.inr b4;have q4:decide (cap-o<q)=true:=(by simpa using b4);clear h3
   go_wp2
   go_ret;exact⟨by rw[y.o];rfl,h5.o.trans (h4.o.alloc _)<|by simp⟩
  have q4:decide (cap-o<q)=false:=by simpa using b4
  have v2:IntKind.i64.wrap (o+q)=o+q:=by rw[Zx];omega
  have h9:=Qa (by omega:30≤o+q∧¬(o<f∨q<1∨cap<o∨cap-o<q));clear h3
  go_wp2
  go_roundg (n-(i+1))
  ·refine⟨⟨i+1,o+q,by omega,rfl,rfl,by go_num,h9.o.1,Qa ?_⟩,Qa<|h4.o.alloc _⟩;exact h8.o.trans<|Qe h9.o.2
  omega
 obtain rfl:i=n:=by omega
 have g0:¬(i:Int)<i:=by omega
 have y:=Qa (by have:=HF.o;rw[JB (by rw[HN.o];exact Ql _),RZ]at this;rw[←HR.o,ZX,x2.o,this];rfl:R=0)
 go_wp2
 go_ret;exact⟨by rw[y.o];rfl,h5.o.trans h4.o<|by simp⟩
end
section
open Go.Sort Go.Shelf
def Zi(m:RM):List Value:=[str m.path,m.start,m.eZ,m.size,.int .u32 m.sum]
def uV:∀x,(Zi x).length=5:=fun _=>rfl
def Mu:∀x,∀v∈Zi x,v.oneCell'=true:=fun x v a=>by simp[Zi]at a;rcases a with rfl|rfl|rfl|rfl|rfl<;>rfl
def Vq(w:World)(v:Value)(l:List RM):Prop:=∃a b,v=.slice a l.length b∧Qn w 5 a l.length (Qw Zi l)∧(a=none→l=[]∧b=0)
def Vq.kZ{w w' v l}(d:Vq w v l)(hk:Qb [] w w'):Vq w' v l:=by obtain⟨a,b,c,hs,e⟩:=d;exact⟨a,b,c,hs.kZ hk,e⟩
def Ru{w a n l}(k:Qn w 5 a n (Qw Zi l)){i x}(e:l[i]?=some x):
 ∃g c,a=some ⟨g,c,none⟩∧w.cell? ⟨g,c+i*5,none⟩=some (.string<|str x.path)∧w.cell? ⟨g,c+i*5+1,none⟩=some (.int .i64 x.start)∧w.cell? ⟨g,c+i*5+2,none⟩=some (.int .i64 x.eZ)∧
  w.cell? ⟨g,c+i*5+3,none⟩=some (.int .i64 x.size)∧w.cell? ⟨g,c+i*5+4,none⟩=some (.int .u32 x.sum):=by
 have m:∀b d,b<5→(Zi x)[b]?=some d→(Qw Zi l)[i*5+b]?=some d:=fun b d h j=>by rw[U9 uV l i b x e h,j]
 obtain⟨g,c,e,c0⟩:=k.2 _ _<|m 0 (.string<|str x.path) (by decide) rfl;subst e;have f:∀b d,b<5→(Zi x)[b]?=some d→w.cell? ⟨g,c+(i*5+b),none⟩=some d:=fun b d h j=>by obtain⟨e,e,e,o⟩:=k.2 _ _<|m b d h j;injection e with e;injection e with e e3;subst e e3;exact o
 exact⟨g,c,rfl,c0,f 1 _ (by decide) rfl,f 2 _ (by decide) rfl,f 3 _ (by decide) rfl,f 4 _ (by decide) rfl⟩
def uW(l):∀u∈Qw Zi l,u.oneCell'=true:=fun u a=>by obtain⟨c,-,b⟩:=List.mem_flatMap.1 a;exact Mu c u b
def PX:(prog.info? 69).map (fun i=>(i.zero,i.size,i.bytes))=some (some<|.agg #[.string ⟨#[]⟩,(0:Int),(0:Int),(0:Int),.int .u32 0],5,48):=by kernel_rfl
def Qp.memA{w v l}(a:Qp w 69 5 v l.length (Qw Zi l)):Vq w v l:=by
 rcases a.2 with⟨rfl,b⟩|⟨d,cap,c,rfl,-⟩
 ·exact⟨none,0,by rw[b],⟨a.1,fun e f c=>by have:=(Qz.1 c).1;rw[a.1,b]at this;omega⟩,fun _=>⟨JW b,rfl⟩⟩
 exact⟨_,_,rfl,⟨a.1,fun e f c=>⟨d,0,rfl,by rw[Zz];exact a.aZ c⟩⟩,fun a=>by cases a⟩
def Fo(l:List RM)(w:World)(e:Ending)(w':World):Prop:=∃a,e=.returned a∧Qp w' 69 5 a l.length (Qw Zi l)∧Qb [] w w'∧∀b∈Qd a,w.heap.size≤b
def sV(v l w)(a:Vq w v l)(b:l.length≤1000000):Calls prog 32 #[v] w (Fo l w):=by
 obtain⟨b,e,rfl,hs,c⟩:=a;rcases b with _|ad
 ·obtain⟨rfl,rfl⟩:=c rfl;have d:=fun b:World=>Fe (P:=prog) b 38 69 none 0 0 0 0 Hx
  go_enter func32,pR
  go_wp2
  go_ret;exact⟨_,rfl,Qp.nil _ _ _,Qc _ _,by simp[Qd,qo]⟩
 have d:=fun b:World=>Fe (P:=prog) b 38 69 (some ad) l.length e 0 0 Hx
 have f:Qp (w.alloc<|.cells #[] 69) 69 5 (.slice w.heap.size 0 0) 0 []:=
  ⟨rfl,.inr ⟨w.heap.size,0,#[],rfl,ZF _,Xe w _,Ql _,ZF _,rfl,rfl⟩⟩
 have d:=hs.kZ<|(Qc [] w).alloc<|.cells #[] 69;obtain⟨h,i,QP,g,hk,hf⟩:=BJ (P:=prog) (w.alloc<|.cells #[] 69) 38 38 69 (.agg #[.string ⟨#[]⟩,(0:Int),(0:Int),(0:Int),.int .u32 0]) 5 48 Hx PX rfl (by decide)
  (.slice w.heap.size 0 0) 0 [] f ad l.length e (Qw Zi l) d.1 (fun k m j=>by obtain⟨b,b,b,e⟩:=d.2 k m j;injection b with b;rwa[b,YK]) (uW l) (by simp only[maxLen];omega) (by omega)
 have j:=Qa (show ∃v,Ending.returned h=.returned v∧Qp i 69 5 v l.length (Qw Zi l)∧Qb [] w i∧∀b∈Qd v,w.heap.size≤b from by
  refine⟨h,rfl,by have:=g;rwa[Zz,Yv]at this,((Qc [] w).alloc _).new hk (by intro b e;simp[Qd,qo]at e;omega),fun b e=>?_⟩;rcases hf b e with a|a
  ·simp[Qd,qo]at a;omega
  simp at a;omega)
 go_enter func32,pR;go_wp2_with (at_builtin;refine OR rfl _ _ 38 38 rfl QP ?_);go_ret;exact j.o
end
def KB{P f b a w l}(W)(e:P.follows .mixedOrders=true)(d:Region.lexB .any l.toArray=true)(h0:Qb [] W w)(c:wpQuiet P l.toArray (fun w'=>Qb [] W w') (fun a'=>∀w',Qb [] W w'→b .normal a' w') l a):(Code.region f l.toArray true).wp P b a w:=
 wp_region_quiet (C:=fun w'=>Qb [] W w') e d h0.drew (by simpa using c)
def Calls.keptK{P}{f:FuncId}{args W w v}(hk:Qb [] W w)(a:Calls P f args w fun e w'=>e=.returned v∧Qb [] w w'):Calls P f args w fun e b=>e=.returned v∧Qb [] W b:=
 a.mono fun _ _ ⟨b,a⟩=>⟨b,hk.trans a<|by simp⟩
