import Derived.StillTailTactics
import Derived.Test.YtickjpnkoppmgaaGreatDoorAf
import Derived.Test.YtickjpnkoppmgaaGreatDoorAe
set_option linter.all false
namespace Go.Proofs.YtickjpnkoppmgaaGreatDoor
open Go.Proofs.Tryz Go.RowKit K
def JH(x a:Int × Int):Int:=if x.1=a.1 then x.2-a.2 else x.1-a.1
def LS(x a):JH x a<0↔x.1<a.1∨(x.1=a.1∧x.2<a.2):=by unfold JH;split<;>omega
def Vv(x:Int × Int):Prop:=(-1000000000000≤x.1∧x.1≤1000000000000)∧(-1000000000000≤x.2∧x.2≤1000000000000)
def Um(x:Int × Int):Value:=.agg #[x.1,x.2]
def DD(x:Int × Int):List Value:=[x.1,x.2]
def ZV(l:List (Int × Int)):List Value:=l.flatMap DD
def DE(l):(ZV l).length=l.length*2:=by
 induction l with
 |nil=>rfl
 |cons x l ih=>rw[ZV,Ji,Qo,←ZV,ih];simp[DD];omega
def kG(a b):ZV (a++b)=ZV a++ZV b:=by simp[ZV]
def CG{l i x}(a:l[i]?=some x):(ZV l)[i*2]?=some (.int .i64 x.1)∧(ZV l)[i*2+1]?=some (.int .i64 x.2):=by
 induction l generalizing i with
 |nil=>simp at a
 |cons y l ih=>
  cases i with
  |zero=>simp at a;subst a;exact⟨rfl,rfl⟩
  |succ i=>have b:=ih (i:=i) (by simpa using a);rw[show(i+1)*2=i*2+1+1 by omega,ZV,Ji,DD];simp only[Yf,Yv,VL];exact b
def kH(l i x):((ZV l).set (i*2) x.1).set (i*2+1) x.2=ZV (l.set i x):=by
 induction l generalizing i with
 |nil=>simp[ZV]
 |cons y l ih=>
  cases i with
  |zero=>rfl
  |succ i=>have a:=ih i;rw[show(i+1)*2=i*2+1+1 by omega];simp only[ZV,Ji,DD,Yf,Yv,Ur]at a ⊢;rw[a]
def Qhf(l k):(ZV l).take (k*2)=ZV (l.take k):=by
 induction l generalizing k with
 |nil=>simp[ZV]
 |cons y l ih=>
  cases k with
  |zero=>rfl
  |succ k=>have a:=ih k;rw[show(k+1)*2=k*2+1+1 by omega];simp only[ZV,Ji,DD,Yf,Yv,PF]at a ⊢;rw[a]
def Mw(a b c d:Int)(w):(binOp .eql 364 (.agg #[a,b])<|.agg #[c,d]).run prog w=.ok (.bool<|a==c&&b==d) w:=by
 rw[run_eql_struct,run_equalIn_agg _ _ _ _ _ (by kernel_rfl)<|by kernel_rfl];simp[Program.fieldsOf,underlying364,Op.eqFields,go_sem,part,YG]
 by_cases e:a=c<;>by_cases f:b=d<;>simp[e,f]
def lL(x a:Int × Int)(w:World)(e:Ending)(w':World):Prop:=e=.returned (.int .i64 (JH x a))∧Qb [] w w'
def qL(x d w)(f:Vv x)(g:Vv d):Calls prog 284 #[Um x,Um d] w (lL x d w):=by
 obtain⟨a,b⟩:=x;obtain⟨c,e⟩:=d;obtain⟨⟨d,h⟩,i,j⟩:=f;obtain⟨⟨f,k⟩,l,m⟩:=g;simp only at d h i j f k l m;unfold Um;have h:=fun d=>Mw a b c e d
 by_cases d:a=c
 ·by_cases i:b=e
  ·subst d;subst i;have g:(a==a&&b==b)=true:=(by simp);rw[g]at h;have f:=Qa (by unfold JH;simp:JH (a,b) (a,b)=0);go_enter func284,Ft
   go_wp2
   go_ret;exact⟨by rw[f.o];rfl,((Qc _ _).alloc _).alloc _⟩
  have g:(a==c&&b==e)=false:=by simp[i]
  rw[g]at h;have f:=Qa (by unfold JH;simp[d]:JH (a,b) (c,e)=b-e);have g1:(a==c)=true:=by simp[d]
  have i:(a != c)=false:=by simp[d]
  have:=Qa d;go_enter func284,Ft
  go_wp2
  go_ret;exact⟨by rw[f.o];rfl,((Qc _ _).alloc _).alloc _⟩
 have g:(a==c&&b==e)=false:=by simp[d]
 rw[g]at h;have f:=Qa (by unfold JH;simp[d]:JH (a,b) (c,e)=a-c);have g1:(a==c)=false:=by simp[d]
 have i:(a != c)=true:=by simp[d]
 go_enter func284,Ft
 go_wp2
 go_ret;exact⟨by rw[f.o];rfl,((Qc _ _).alloc _).alloc _⟩
def Qn.tree{w b a n i l x}(c:Qn w 2 (some ⟨b,a,none⟩) n (ZV l))(f:l[i]?=some x):
 w.cell? ⟨b,a+i*2,none⟩=some (.int .i64 x.1)∧w.cell? ⟨b,a+i*2+1,none⟩=some (.int .i64 x.2):=by
 obtain⟨d,e⟩:=CG f;obtain⟨a,a,a,c1⟩:=c.2 _ _ d;obtain⟨d,d,d,c2⟩:=c.2 _ _ e;cases a;cases d;exact⟨c1,c2⟩
def Pm(l:List (Int × Int))(m:Int × Int):Prop:=∀a∈l,¬(a.1<m.1∨(a.1=m.1∧a.2<m.2))
def nG(l:List (Int × Int))(w:World)(e:Ending)(w':World):Prop:=∃a:Int × Int,e=.returned (Um a)∧a∈l∧Pm l a∧Qb [] w w'
def nF(w0:World)(l:List (Int × Int))(d c:Nat)(k:Nat)(v:Value)(wr:World):Prop:=
 ∃(a:Nat)(b:Int × Int),1≤a∧a≤l.length∧k=l.length-a∧v=.int .i64 (a:Nat)∧Hid (b∈l∧Pm (l.take a) b)∧Hid (Qf wr c 364 [b.1,b.2])∧
  Hid (Qf wr d 364 [(0:Int),(0:Int)])∧Hid (Qb [] w0 wr)
def Qa6(a c l w)(h:Qn w 2 a l.length (ZV l))(h0:1≤l.length)(hl:l.length≤1000000)(hb:∀x∈l,Vv x):
 Calls prog 304 #[.slice a l.length c,.func (.func 284) #[] #[]] w (nG l w):=by
 have HS:=Qa h;obtain⟨b,h8,rfl,-⟩:=h.at (by rw[DE];omega);obtain⟨x0,x3⟩:∃x,l[0]?=some x:=⟨_,Qj<|by omega⟩;obtain⟨c0,c1⟩:=HS.o.tree x3;have g0:decide ((l.length:Int)<1)=false:=by simp;omega
 have y3:(0:Int)<l.length:=by omega
 have⟨x5,HB⟩:=qb x3 hb;rw[Hd,Y6]at c0 c1;have x9:b<w.heap.size:=Ro w _ c0;go_enter func304,ntmps304;go_wp2_with fail;have⟨HG,HR,HK⟩:=qc (Qx (w.alloc<|.cells #[(0:Int),(0:Int)] 364) [x0.1,x0.2] 364) ((Qx w [(0:Int),(0:Int)] 364).kept ((Qc [] _).alloc<|.cells #[x0.1,x0.2] 364)<|by simp)<|((Qc [] w).alloc<|.cells #[(0:Int),(0:Int)] 364).alloc<|.cells #[x0.1,x0.2] 364;have e1:(w.alloc<|.cells #[(0:Int),(0:Int)] 364).heap.size=w.heap.size+1:=by simp
 rw[e1]at HG
 go_loopg [6] (l.length-1) (fun k v wr=>nF w l w.heap.size (w.heap.size+1) k v wr)
 case atStart=>exact⟨1,x0,Ql _,h0,by omega,rfl,Qa ⟨QC x5.o,fun x hx=>by
  have:l.take 1=[x0]:=by
   have hh:=x5.o;cases l with
   |nil=>simp at hh
   |cons y r=>simp at hh;subst hh;rfl
  rw[this]at hx;simp at hx;subst hx;omega⟩,HG,HR,HK⟩
 obtain⟨i,m,h1,hi,hk,rfl,HM,HG,HR,HK⟩:=hrel;have Hk:=Qa hk
 by_cases hlt:i<l.length
 ·have y1:(i:Int)<l.length:=by omega
  have⟨x,hx⟩:=qy l i hlt;obtain⟨d0,d1⟩:=(HS.o.kZ HK.o).tree hx;have d2:wr.cell? ⟨w.heap.size+1,0,none⟩=some (.int .i64 m.1):=HG.o.cell (i:=0) rfl;have d3:wr.cell? ⟨w.heap.size+1,1,none⟩=some (.int .i64 m.2):=HG.o.cell (i:=1) rfl;have⟨HA,HX⟩:=qb (fun W=>qL x m W (HB.o x<|QC hx)<|HB.o m HM.o.1) hx;unfold Um at HA
  by_cases x2:JH x m<0
  ·have x8:decide (JH x m<0)=true:=Xr x2;go_wp2_with fail
   go_region_held3 (fun q=>Qb [] wr q∧q.cell? ⟨b,h8+i*2,none⟩=some (.int .i64 x.1)∧q.cell? ⟨b,h8+i*2+1,none⟩=some (.int .i64 x.2)∧q.cell? ⟨w.heap.size+1,0,none⟩=some (.int .i64 m.1)∧q.cell? ⟨w.heap.size+1,1,none⟩=some (.int .i64 m.2))
    (first|exact⟨(Qc _ _).drew,d0,d1,d2,d3⟩|exact⟨o,o.cZ d0<|by simp,o.cZ d1<|by simp,o.cZ d2<|by simp,o.cZ d3<|by simp⟩)
    (first|(go_at_call 284;refine(HA.o _).mono ?_;rintro e w2⟨rfl,x1⟩;have o:Qb [] wr w2:=(Qc [] wr).drew.trans x1<|by simp))
   rename_i hS;have⟨h3,h5,h4⟩:=qc (HG.o.kept o<|by simp) (HR.o.kept o<|by simp) (HK.o.trans o<|by simp);have e0:=o.cZ d0 (by simp);have e1:=o.cZ d1 (by simp);have e2:=o.cZ d2 (by simp);have e3:=o.cZ d3 (by simp);have f0:=h3.o.free 0;have f1:=h3.o.free 1;have y0:w.heap.size+1<w2.heap.size:=h3.o.lt;have⟨x6,x7,h9⟩:=qc ((h3.o.set 0<|.int .i64 x.1).set 1<|.int .i64 x.2) ((h5.o.kept (((Qc [w.heap.size+1] w2).setCell (p:=⟨w.heap.size+1,0,none⟩) (by simp)<|.int .i64 x.1).setCell (p:=⟨w.heap.size+1,1,none⟩) (by simp)<|.int .i64 x.2)<|by simp))<|(h4.o.setCell (p:=⟨w.heap.size+1,0,none⟩) (by simp)<|.int .i64 x.1).setCell (p:=⟨w.heap.size+1,1,none⟩) (by simp)<|.int .i64 x.2
   go_wp2
   go_roundg (l.length-(i+1))
   ·refine⟨i+1,x,by omega,by omega,rfl,by simp,Qa ⟨QC HX.o,fun y hy=>?_⟩,x6,x7,h9⟩;rw[LS]at x2;rw[ZE,HX.o]at hy;rcases Q5.1 hy with h|h
    ·have:=HM.o.2 y h;omega
    simp at h;subst h;omega
   have:=Hk.o;omega
  have x8:decide (JH x m<0)=false:=XI x2;go_wp2_with fail
  go_region_held3 (fun q=>Qb [] wr q∧q.cell? ⟨b,h8+i*2,none⟩=some (.int .i64 x.1)∧q.cell? ⟨b,h8+i*2+1,none⟩=some (.int .i64 x.2)∧q.cell? ⟨w.heap.size+1,0,none⟩=some (.int .i64 m.1)∧q.cell? ⟨w.heap.size+1,1,none⟩=some (.int .i64 m.2))
   (first|exact⟨(Qc _ _).drew,d0,d1,d2,d3⟩|exact⟨o,o.cZ d0<|by simp,o.cZ d1<|by simp,o.cZ d2<|by simp,o.cZ d3<|by simp⟩)
   (first|(go_at_call 284;refine(HA.o _).mono ?_;rintro e w2⟨rfl,x1⟩;have o:Qb [] wr w2:=(Qc [] wr).drew.trans x1<|by simp))
  rename_i hS;have⟨h3,h5,h4⟩:=qc (HG.o.kept o<|by simp) (HR.o.kept o<|by simp) (HK.o.trans o<|by simp)
  go_wp2
  go_roundg (l.length-(i+1))
  ·refine⟨i+1,m,by omega,by omega,rfl,by simp,Qa ⟨HM.o.1,fun y hy=>?_⟩,h3,h5,h4⟩;rw[ZE,HX.o]at hy;rcases Q5.1 hy with h|h
   ·exact HM.o.2 y h
   simp at h;rw[h];have h2:=LS x m;omega
  have:=Hk.o;omega
 obtain rfl:i=l.length:=by omega
 have y2:¬(l.length:Int)<l.length:=by omega
 have d2:wr.cell? ⟨w.heap.size+1,0,none⟩=some (.int .i64 m.1):=HG.o.cell (i:=0) rfl;have d3:wr.cell? ⟨w.heap.size+1,1,none⟩=some (.int .i64 m.2):=HG.o.cell (i:=1) rfl;have r0:wr.cell? ⟨w.heap.size,0,none⟩=some (.int .i64 0):=HR.o.cell (i:=0) rfl;have r1:wr.cell? ⟨w.heap.size,1,none⟩=some (.int .i64 0):=HR.o.cell (i:=1) rfl;have f0:=HR.o.free 0;have f1:=HR.o.free 1;have s0:((wr.setCell ⟨w.heap.size,0,none⟩ m.1).setCell ⟨w.heap.size,1,none⟩ m.2).cell? ⟨w.heap.size,0,none⟩=some (.int .i64 m.1):=((HR.o.set 0 m.1).set 1 m.2).cell (i:=0) rfl;have s1:((wr.setCell ⟨w.heap.size,0,none⟩ m.1).setCell ⟨w.heap.size,1,none⟩ m.2).cell? ⟨w.heap.size,1,none⟩=some (.int .i64 m.2):=((HR.o.set 0 m.1).set 1 m.2).cell (i:=1) rfl;have hM:=HM.o;rw[Zd<|Ql _]at hM;have⟨x4,h9⟩:=qb hM<|(HK.o.setCell (p:=⟨w.heap.size,0,none⟩) (by simp) m.1).setCell (p:=⟨w.heap.size,1,none⟩) (by simp) m.2;go_wp2_with fail;refine Q9 (v:=Um m) (by simp[results,results304,go_sem,Um,s0,s1]) rfl ?_;exact⟨m,rfl,x4.o.1,x4.o.2,h9.o⟩
def mT(l:List (Int × Int))(x:Int × Int)(w:World)(e:Ending)(w':World):Prop:=∃a:Nat,e=.returned (a:Nat)∧l[a]?=some x∧Qb [] w w'
def yN(a c l x w)(b:Qn w 2 a l.length (ZV l))(d:l.length≤1000000)(d:x∈l):
 Calls prog 305 #[.slice a l.length c,Um x] w (mT l x w):=by
 have⟨i,o⟩:=qb b d;have:0<l.length:=Pt d;obtain⟨e,e,rfl,-⟩:=b.at (by rw[DE];omega);unfold Um;go_enter func305,ntmps305;go_wp2_with fail;have⟨g,f⟩:=qb (Qx w [x.1,x.2] 364)<|(Qc [] w).alloc<|.cells #[x.1,x.2] 364
 go_loopg [8] l.length (fun e h wr=>∃d:Nat,d≤l.length∧e=l.length-d∧h=.int .i64 (d:Nat)∧Hid (x∉l.take d)∧Hid (Qf wr w.heap.size 364 [x.1,x.2])∧Hid (Qb [] w wr))
 ·exact⟨0,by omega,by omega,rfl,Qa<|by simp,g,f⟩
 obtain⟨d,hi,hk,rfl,k,g,f⟩:=hrel;have p:=Qa hk
 by_cases hlt:d<l.length
 ·have:(d:Int)<l.length:=by omega
  have⟨e,h⟩:=qy l d hlt;obtain⟨j,j⟩:=(i.o.kZ f.o).tree h;have:wr.cell? ⟨w.heap.size,0,none⟩=some (.int .i64 x.1):=g.o.cell (i:=0) rfl;have:wr.cell? ⟨w.heap.size,1,none⟩=some (.int .i64 x.2):=g.o.cell (i:=1) rfl;have n:=fun i=>Mw x.1 x.2 e.1 e.2 i
  have m:=Qa h
  by_cases h:x=e
  ·have i:(x.1==e.1&&x.2==e.2)=true:=(by rw[h];simp);rw[i]at n;have j:=Qa h;go_wp2_with fail;go_quiet (fail)
   go_wp2
   go_ret;exact⟨d,rfl,by rw[j.o];exact m.o,f.o.drewN _⟩
  have i:(x.1==e.1&&x.2==e.2)=false:=by
   rw[Bool.and_eq_false_iff,Zh,Zh];rcases Classical.em (x.1=e.1)with b|b
   ·exact .inr fun e=>h<|Prod.ext b e
   exact .inl b
  rw[i]at n;have j:=Qa h;go_wp2_with fail;go_quiet (fail)
  go_wp2
  go_roundg (l.length-(d+1))
  ·refine⟨d+1,by omega,by omega,by simp,Qa fun e=>?_,Qa<|g.o.kept ((Qc [] wr).drewN _)<|by simp,Qa<|f.o.drewN _⟩;rw[ZE,m.o]at e;rcases Q5.1 e with b|b
   ·exact k.o b
   simp at b;exact j.o b
  have:=p.o;omega
 obtain rfl:d=l.length:=by omega
 have:=k.o;rw[Zd<|Ql _]at this;exact absurd o.o this
def Qem(ls)(a:0<ls.length):0<K.room ls:=by
 cases ls with
 |nil=>simp at a
 |cons x ls=>
  have a:K.room (x::ls)=2^(20-x)+K.room ls:=by simp[K.room]
  have:=CV<|20-x;rw[a];omega
def UK(xs:List Int):Nat:=if Jn xs then K.room (QA xs)else 0
def pG(w0:World)(xs:List Int)(k:Nat)(n c:Value)(w:World):Prop:=
 ∃a,a≤xs.length∧k=xs.length-a∧c=.int .i64 (a:Nat)∧n=.int .i64 (K.room (QA (xs.take a)):Nat)∧((xs.take a).all fun a=>decide (1≤a∧a≤20))=true∧w0=w
def Qbg(xs x):QA (xs++[x])=QA xs++[x.toNat]:=by simp[QA]
def Qdk(m):2^(20-m)≤1048576:=by have:(2:Nat)^(20-m)≤2^20:=Y7 (by decide) (by omega);exact this
def zU(xs)(b:2≤xs.length∧xs.length≤258)(a:((xs.take xs.length).all fun x=>decide<|1≤x∧x≤20)=true):Jn xs=true:=by rw[Vp]at a;unfold Jn;rw[a];simp;exact b
def Qgo(a cap xs w)(b:Qn w 1 a xs.length (QK xs))(c:xs.length≤140737488351232):
 Calls prog 265 #[.slice a xs.length cap] w fun e w'=>e=.returned (UK xs:Nat)∧w=w':=by
 have i:=Qa b;clear b
 by_cases b:xs.length<2
 ·have g1:decide ((xs.length:Int)<2)=true:=by simp;omega
  have d:UK xs=0:=by unfold UK;rw[Na xs<|by omega];rfl
  have g:=Qa d;clear d;go_enter func265,Sn
  go_wp2
  go_ret;exact⟨by rw[g.o];rfl,rfl⟩
 have g1:decide ((xs.length:Int)<2)=false:=by simp;omega
 by_cases b:258<xs.length
 ·have h:decide (258<(xs.length:Int))=true:=by simp;omega
  have d:UK xs=0:=by unfold UK;rw[Na xs<|by omega];rfl
  have g:=Qa d;clear d;go_enter func265,Sn
  go_wp2
  go_ret;exact⟨by rw[g.o];rfl,rfl⟩
 have h:decide (258<(xs.length:Int))=false:=by simp;omega
 go_enter func265,Sn;go_wp2_with fail;clear g1 h
 go_loopg [3,16] xs.length (fun c f b wr=>pG w xs c f b wr)
 ·exact⟨0,by omega,by omega,rfl,rfl,rfl,rfl⟩
 obtain⟨c,hi,hk,rfl,rfl,b,rfl⟩:=hrel;have⟨o,l⟩:=qb hk b;have j:=Qel<|QA<|xs.take c;have f:(QA<|xs.take c).length≤258:=by rw[UF,Zn];omega
 have:K.room (QA<|xs.take c)≤300000000:=by omega
 clear hk b j f
 by_cases hlt:c<xs.length
 ·have:(c:Int)<xs.length:=by omega
  have⟨b,f⟩:=qy xs c hlt;obtain⟨b0,j,rfl,-⟩:=i.o.at (by rw[Xk];omega);have c0:=i.o.int f;have i:xs.take (c+1)=xs.take c++[b]:=by rw[ZE,f];rfl
  have⟨k,n⟩:=qb i f;clear i f
  by_cases f:1≤b∧b≤20
  ·have g1:decide (b<1)=false:=(by simp;omega);have h:decide (20<b)=false:=(by simp;omega);obtain⟨i,rfl⟩:=X5 (by omega:0≤b);have⟨f,j⟩:=qx<|20-i;have:IntKind.i64.wrap (20-(i:Int))=(f:Int):=(by rw[Q2 _<|by omega];omega);have hp:=Qdk i;rw[j]at hp;have:f≤20:=(by omega);have m:(2:Int)^f=((2^f:Nat):Int):=(by norm_cast);have hrs:K.room (QA<|xs.take<|c+1)=K.room (QA<|xs.take c)+2^f:=(by rw[k.o,Qbg,Qen,Zw,j]);generalize (2:Nat)^f=p at hp m hrs;have m:=Qa hrs;have f:((([((i:Nat):Int)]:List Int).all fun b=>decide<|1≤b∧b≤20))=true:=(by simp;omega);have i:=Qa f;clear j hrs f
   go_wp2
   go_roundg (xs.length-(c+1))
   ·exact⟨c+1,by omega,rfl,by go_num,by rw[m.o];go_num,by rw[k.o,List.all_append,l.o,VJ];exact i.o,rfl⟩
   have:=o.o;omega
  have i:UK xs=0:=by unfold UK;rw[bV xs c b n.o<|by omega];rfl
  have f:=Qa i;clear i
  by_cases i:b<1
  ·have g1:decide (b<1)=true:=by simp;omega
   go_wp2
   go_ret;exact⟨by rw[f.o];rfl,rfl⟩
  have g1:decide (b<1)=false:=by simp;omega
  have h:decide (20<b)=true:=by simp;omega
  go_wp2
  go_ret;exact⟨by rw[f.o];rfl,rfl⟩
 obtain rfl:c=xs.length:=by omega
 have b:=zU xs (by omega) l.o;have d:UK xs=K.room (QA<|xs.take xs.length):=by unfold UK;rw[b,Vp];rfl
 have g:=Qa d;clear b d
 go_wp2
 go_ret;exact⟨by rw[g.o];rfl,rfl⟩
def Qgm(xs):XA xs=(decide (UK xs≠0)&&decide (UK xs≤1048576)):=by
 unfold UK XA;rcases Jv (Jn xs)with a|a
 ·have:=((UC xs).1 a).1;have:=Qem (QA xs) (by rw[UF];omega);rw[a,Qg rfl];have:K.room (QA xs)≠0:=by omega
  simp[this]
 rw[a];simp
def JZ(xs:List Int):Nat:=if XA xs then 0 else 80
def Em(a cap xs w)(b:Qn w 1 a xs.length (QK xs))(f:xs.length≤140737488351232):
 Calls prog 225 #[.slice a xs.length cap] w fun e w'=>e=.returned (JZ xs:Nat)∧w=w':=by
 have⟨c,d⟩:=qb b<|Qgm xs;go_enter func225,ntmps225;go_wp2_with fail;refine(Qgo a cap xs _ c.o f).mono ?_;rintro e w'⟨rfl,rfl⟩;generalize UK xs=n at d ⊢
 by_cases h0:n=0
 ·have b:JZ xs=80:=by unfold JZ;rw[d.o,h0];rfl
  have c:=Qa b;subst h0
  go_wp2
  go_ret;exact⟨by rw[c.o];rfl,rfl⟩
 have g1:((n:Int)==0)=false:=by simp;omega
 by_cases f:n≤1048576
 ·have b:JZ xs=0:=by unfold JZ;rw[d.o];simp[h0,f]
  have c:=Qa b;have f:decide (1048576<(n:Int))=false:=by simp;omega
  go_wp2
  go_ret;exact⟨by rw[c.o];rfl,rfl⟩
 have b:JZ xs=80:=by unfold JZ;rw[d.o];simp[h0];omega
 have c:=Qa b;have f:decide (1048576<(n:Int))=true:=by simp;omega
 go_wp2
 go_ret;exact⟨by rw[c.o];rfl,rfl⟩
def nE(xs:List Int)(w:World)(e:Ending)(w':World):Prop:=∃a:Int,e=.returned a∧a∈xs∧(∀b∈xs,a≤b)∧w=w'
def nD(xs:List Int)(w:World)(e:Ending)(w':World):Prop:=∃a:Int,e=.returned a∧a∈xs∧(∀b∈xs,b≤a)∧w=w'
def Kx{xs:List Int}{k x b}(c:xs[k]?=some x)(a:b∈xs.take (k+1)):b∈xs.take k∨b=x:=by
 rw[ZE,c]at a;rcases Q5.1 a with a|a
 ·exact .inl a
 exact .inr (by simpa using a)
def Qa7(a c xs w)(h:Qn w 1 a xs.length (QK xs))(h0:1≤xs.length)(hl:xs.length≤1000000):
 Calls prog 302 #[.slice a xs.length c] w (nE xs w):=by
 have HS:=Qa h;obtain⟨b,h9,rfl,-⟩:=h.at (by rw[Xk];omega);obtain⟨x0,h2⟩:∃x,xs[0]?=some x:=⟨_,Qj<|by omega⟩;have c0:=HS.o.int h2;have g0:decide ((xs.length:Int)<1)=false:=by simp;omega
 have h8:(0:Int)<xs.length:=by omega
 have h3:=Qa h2;rw[Y6]at c0;go_enter func302,ntmps302
 go_wp2
 go_loopg [3,4] (xs.length-1) (fun k v u wr=>∃(i:Nat)(m:Int),1≤i∧i≤xs.length∧k=xs.length-i∧v=.int .i64 m∧u=.int .i64 (i:Nat)∧Hid (m∈xs∧∀x∈xs.take i,m≤x)∧w=wr)
 case atStart=>exact⟨1,x0,Ql _,h0,by omega,rfl,rfl,Qa ⟨QC h3.o,fun x o=>by
  rcases Kx h3.o o with h|h
  ·simp at h
  omega⟩,rfl⟩
 obtain⟨i,m,h1,hi,hk,rfl,rfl,q,rfl⟩:=hrel;have Hk:=Qa hk
 by_cases hlt:i<xs.length
 ·have h4:(i:Int)<xs.length:=by omega
  have⟨x,o⟩:=qy xs i hlt;have d0:=HS.o.int o;have HX:=Qa o;go_wp2_with fail
  all_goals
   rename_i h
   go_roundg (xs.length-(i+1))
   ·refine⟨i+1,_,by omega,by omega,rfl,rfl,by simp,Qa ⟨?_,fun y hy=>?_⟩,rfl⟩
    ·first
      |exact q.o.1
      |exact QC HX.o
    rcases Kx HX.o hy with h'|h'
    ·have:=q.o.2 y h';omega
    omega
   have:=Hk.o;omega
 obtain rfl:i=xs.length:=by omega
 have h5:¬(xs.length:Int)<xs.length:=by omega
 go_wp2
 go_ret;have:=q.o;rw[Zd<|Ql _]at this;exact⟨m,rfl,this.1,this.2,rfl⟩
def dE(a c xs w)(h:Qn w 1 a xs.length (QK xs))(h0:1≤xs.length)(hl:xs.length≤1000000):
 Calls prog 282 #[.slice a xs.length c] w (nD xs w):=by
 have HS:=Qa h;obtain⟨b,h9,rfl,-⟩:=h.at (by rw[Xk];omega);obtain⟨x0,h2⟩:∃x,xs[0]?=some x:=⟨_,Qj<|by omega⟩;have c0:=HS.o.int h2;have g0:decide ((xs.length:Int)<1)=false:=by simp;omega
 have h8:(0:Int)<xs.length:=by omega
 have h3:=Qa h2;rw[Y6]at c0;go_enter func282,ntmps282
 go_wp2
 go_loopg [3,4] (xs.length-1) (fun k v u wr=>∃(i:Nat)(m:Int),1≤i∧i≤xs.length∧k=xs.length-i∧v=.int .i64 m∧u=.int .i64 (i:Nat)∧Hid (m∈xs∧∀x∈xs.take i,x≤m)∧w=wr)
 case atStart=>exact⟨1,x0,Ql _,h0,by omega,rfl,rfl,Qa ⟨QC h3.o,fun x o=>by
  rcases Kx h3.o o with h|h
  ·simp at h
  omega⟩,rfl⟩
 obtain⟨i,m,h1,hi,hk,rfl,rfl,q,rfl⟩:=hrel;have Hk:=Qa hk
 by_cases hlt:i<xs.length
 ·have h4:(i:Int)<xs.length:=by omega
  have⟨x,o⟩:=qy xs i hlt;have d0:=HS.o.int o;have HX:=Qa o;go_wp2_with fail
  all_goals
   rename_i h
   go_roundg (xs.length-(i+1))
   ·refine⟨i+1,_,by omega,by omega,rfl,rfl,by simp,Qa ⟨?_,fun y hy=>?_⟩,rfl⟩
    ·first
      |exact q.o.1
      |exact QC HX.o
    rcases Kx HX.o hy with h'|h'
    ·have:=q.o.2 y h';omega
    omega
   have:=Hk.o;omega
 obtain rfl:i=xs.length:=by omega
 have h5:¬(xs.length:Int)<xs.length:=by omega
 go_wp2
 go_ret;have:=q.o;rw[Zd<|Ql _]at this;exact⟨m,rfl,this.1,this.2,rfl⟩
def Yc(xs:List Int):Bool:=decide (2≤xs.length)&&decide (xs.length≤258)&&xs.all fun a=>decide (0≤a∧a≤1073741824)
def lR(b:Bool)(w:World)(e:Ending)(w':World):Prop:=e=.returned (.bool b)∧w=w'
def Qat{xs}(a:2≤xs.length)(b:xs.length≤258)(lo hi)(c:lo∈xs)(f:hi∈xs)(d:∀x∈xs,lo≤x)(e:∀x∈xs,x≤hi):
 Yc xs=(decide (0≤lo)&&decide (hi≤1073741824)):=by
 unfold Yc;rw[Xr a,Xr b,VJ,VJ,DJ,XO,Xg,Zu,Zu];constructor
 ·intro a;have b:=a lo c;have c:=a hi f;rw[Zu]at b c;omega
 intro a x a;have b:=d x a;have c:=e x a;rw[Zu];omega
def KA(a c xs w)(h:Qn w 1 a xs.length (QK xs))(hl:xs.length≤17592186043904):
 Calls prog 279 #[.slice a xs.length c] w (lR (Yc xs) w):=by
 by_cases h2:2≤xs.length
 ·have g1:decide (2≤(xs.length:Int))=true:=by simp;omega
  by_cases h3:xs.length≤258
  ·have g2:decide ((xs.length:Int)≤258)=true:=(by simp;omega);have A:=Qa7 a c xs w h (by omega) (by omega);have B:=dE a c xs w h (by omega) (by omega);go_enter func279,Sm;go_wp2_with fail;refine A.mono ?_;rintro e w'⟨lo,rfl,h8,h4,rfl⟩;have q:=Qa (QQ h8 h4)
   by_cases h5:0≤lo
   ·have g3:decide (0≤lo)=true:=(by simp;omega);go_wp2_with fail;refine B.mono ?_;rintro e w'⟨hi,rfl,h1,h6,rfl⟩;have y:=Qa<|QQ h1 h6;have g4:Yc xs=decide (hi≤1073741824):=(by rw[Qat h2 h3 lo hi q.o.1 y.o.1 q.o.2 y.o.2,g3,VJ]);have o:=Qa g4
    go_wp2
    go_ret;exact⟨by rw[o.o];rfl,rfl⟩
   have g3:decide (0≤lo)=false:=(by simp;omega);have g4:Yc xs=false:=(by rw[Bb];intro hh;unfold Yc at hh;rw[Xg,XO]at hh;have:=hh.2 lo q.o.1;rw[Zu]at this;omega);have o:=Qa g4
   go_wp2
   go_ret;exact⟨by rw[o.o];rfl,rfl⟩
  have g2:decide ((xs.length:Int)≤258)=false:=by simp;omega
  have o:=Qa (by unfold Yc;rw[XI h3,KM,KN]:Yc xs=false);go_enter func279,Sm
  go_wp2
  go_ret;exact⟨by rw[o.o];rfl,rfl⟩
 have g1:decide (2≤(xs.length:Int))=false:=by simp;omega
 have o:=Qa (by unfold Yc;rw[XI h2,KN,KN]:Yc xs=false);go_enter func279,Sm
 go_wp2
 go_ret;exact⟨by rw[o.o];rfl,rfl⟩

def EF{b}(a:Yc b=true):2≤b.length∧b.length≤258∧∀x∈b,0≤x∧x≤1073741824:=by unfold Yc at a;rw[Xg,Xg,XO,Zu,Zu]at a;exact⟨a.1.1,a.1.2,fun x b=>by have:=a.2 x b;rwa[Zu]at this⟩
def AI(xs:List Int):Bool:=decide (UK xs=1048576)
def Zk(t:Nat × Nat):Int × Int:=((t.1:Int),(t.2:Int))
def Qp.less{w e size o n k c xs}(h:Qp w e size (.slice (some o) n c) n xs)(hk:k≤n):Qp w e size (.slice (some o) k c) k (xs.take<|k*size):=by
 have hl:=h.1;have h5:k*size≤n*size:=As _ hk;refine⟨by rw[Zn,hl];omega,.inr ?_⟩;rcases h.2 with⟨y,h2⟩|⟨g,cap,q,hv,hb,hg,h8,h3,h4,ht⟩
 ·cases y
 cases hv;refine⟨g,c,q,rfl,hb,hg,by omega,h3,h4,?_⟩;rw[←ht,List.take_take,GY h5]
def Qp.aZ{w e}{size g n c j:Nat}{xs u}(a:Qp w e size (.slice g n c) n xs)(b:xs[j]?=some u):w.cell? ⟨g,j,none⟩=some u:=by have:=World.ownsRow.cells (g:=g) a rfl j u b;rwa[YK,Zz]at this
def Qp.free{w e}{size g n c:Nat}{xs}(a:Qp w e size (.slice g n c) n xs)(j):w.frozen? ⟨g,j,none⟩=false:=World.ownsRow.frozenAt a j
def Qp.put{w e}{size g n c:Nat}{xs}(a:Qp w e size (.slice g n c) n xs)(j u):Qp (w.setCell ⟨g,j,none⟩ u) e size (.slice g n c) n (xs.set j u):=(World.ownsRow.stored a j u).1
def Qp.sZ{w e size a n c m xs}(b:Qp w e size (.slice a n c) m xs):Qn w size a n xs∧n=m:=by obtain⟨d,d,f,-,-,d,-⟩:=b.sees;cases f;exact⟨d,rfl⟩
def mD(f g c k:Nat)(l:List (Nat × Nat))(w:World)(e:Ending)(w':World):Prop:=
 ∃(a:Nat × Nat)(d:Nat),e=.returned (Um (Zk a))∧l[d]?=some a∧(∀b∈l,¬(b.1<a.1∨(b.1=a.1∧b.2<a.2)))∧Qf w' f 362 [.slice g k c]∧
  Qp w' 364 2 (.slice g k c) k (ZV ((YP l d).map Zk))∧Qb [f,g] w w'
def WR(a g c k:Nat)(l w)(b:Qf w a 362 [.slice g (k+1) c])(d:Qp w 364 2 (.slice g (k+1) c) (k+1) (ZV<|l.map Zk))(e:l.length=k+1)(hk:k≤1000000-1)(hb:∀t∈l,t.1≤1000000000000∧t.2≤1000000000000)(hne:a≠g):
 Calls prog 303 #[.pointer a] w (mD a g c k l w):=by
 have⟨B,r,q,o,C⟩:=qe b d e hb hne;have c0:w.cell? ⟨a,0,none⟩=some (.slice g (k+1) c):=b.cell (i:=0) rfl;have:a<w.heap.size:=b.lt;have:g<w.heap.size:=d.lt _ (by simp[Qd,qo]);go_enter func303,ntmps303;have m:=Qa<|(Qc [] w).alloc<|.cells #[(0:Int),(0:Int)] 364;have d:(l.map Zk).length=k+1:=by rw[QG];exact q.o
 have b:=Qa6 g c (l.map Zk) (w.alloc<|.cells #[(0:Int),(0:Int)] 364) (by rw[d];exact(Qp.sZ<|Qp.kept r.o m.o<|by simp[Qr]).1) (by omega) (by omega) (by intro A e;obtain⟨t,f,rfl⟩:=Qy.1 e;have:=o.o t f;unfold Vv Zk;simp only;omega);rw[d]at b;have⟨n,i⟩:=qb d b;go_wp2_with fail;refine i.o.mono ?_;rintro D h⟨d,rfl,j,z,s⟩;obtain⟨t,f,rfl⟩:=Qy.1 j;have u:=Qa (m.o.trans s<|by simp);have⟨x,y,B,I,r⟩:=qe (Qp.kept r.o u.o<|by simp[Qr]) (B.o.kept u.o<|by simp) ((Qx w [(0:Int),(0:Int)] 364).kept s<|by simp) (show ∀d∈l,¬(d.1<t.1∨(d.1=t.1∧d.2<t.2))from fun d r=>by have:=z (Zk d)<|Qy.2 ⟨d,r,rfl⟩;simp only[Zk]at this;omega) j;have:w.heap.size<h.heap.size:=B.o.lt;have:=Qa<|o.o t f;have f:=Qa<|(Qc [] h).alloc<|.cells #[.int .i64 (Zk t).1,.int .i64 (Zk t).2] 364;have b:=yN g c (l.map Zk) (Zk t) (h.alloc<|.cells #[.int .i64 (Zk t).1,.int .i64 (Zk t).2] 364) (by rw[n.o];exact(Qp.sZ<|Qp.kept x.o f.o<|by simp[Qr]).1) (by rw[n.o];omega) r.o;rw[n.o]at b;have i:=Qa b;have c1:h.cell? ⟨a,0,none⟩=some (.slice g (k+1) c):=y.o.cell (i:=0) rfl;have:a<h.heap.size:=y.o.lt;unfold Um at i ⊢;go_wp2_with fail;refine i.o.mono ?_;rintro D o⟨b,rfl,hi,z⟩;have n:l[b]?=some t:=by
  rw[ZJ]at hi;cases hli:l[b]? with
  |none=>rw[hli]at hi;simp at hi
  |some d=>rw[hli]at hi;simp[Zk]at hi;have:d=t:=Prod.ext (by omega) (by omega);rw[this]
 have:b≤k:=by have:=(Qz.1 n).1;have:=q.o;omega
 have⟨H,r⟩:=qb n (f.o.trans z<|by simp);have⟨m,D,F,G⟩:=qd (Qp.kept x.o r.o<|by simp[Qr]) (y.o.kept r.o<|by simp) (B.o.kept r.o<|by simp) ((Qx h [.int .i64 (Zk t).1,.int .i64 (Zk t).2] 364).kept z<|by simp);have⟨f,hz⟩:=qy l k (by have:=q.o;omega);have y:(l.map Zk)[k]?=some (Zk f):=by rw[ZJ,hz];rfl
 have d:(l.map Zk)[b]?=some (Zk t):=by rw[ZJ,n];rfl
 have J:=Qa hz;have k0:o.cell? ⟨a,0,none⟩=some (.slice g (k+1) c):=D.o.cell (i:=0) rfl;have k1:=m.o.aZ (CG y).1;have k2:=m.o.aZ (CG y).2;have k3:=m.o.aZ (CG d).1;have k4:=m.o.aZ (CG d).2;have L:=m.o.free<|b*2;have M:=m.o.free<|b*2+1;have:(b:Int)<k+1:=by omega
 have:IntKind.i64.wrap ((k:Int)+1-1)=(k:Int):=by rw[Int.add_sub_cancel];exact Q2 _ (by omega)
 go_wp2_with fail
 go_region
 have n:Qb [g] o ((o.setCell ⟨g,b*2,none⟩<|.int .i64 (Zk f).1).setCell ⟨g,b*2+1,none⟩<|.int .i64 (Zk f).2).drew:=(((Qc [g] o).setCell (p:=⟨g,b*2,none⟩) (by simp) _).setCell (p:=⟨g,b*2+1,none⟩) (by simp) _).drew;have y:Qp ((o.setCell ⟨g,b*2,none⟩<|.int .i64 (Zk f).1).setCell ⟨g,b*2+1,none⟩<|.int .i64 (Zk f).2).drew 364 2 (.slice g (k+1) c) (k+1) (ZV<|(l.map Zk).set b<|Zk f):=by rw[←kH];exact((m.o.put _ _).put _ _)
 have⟨d,B⟩:=qx<|((o.setCell ⟨g,b*2,none⟩<|.int .i64 (Zk f).1).setCell ⟨g,b*2+1,none⟩<|.int .i64 (Zk f).2).drew;rw[B]at n y ⊢;have O:g≠h.heap.size:=by have:=x.o.lt g (by simp[Qd,qo]);omega
 have E:g≠w.heap.size:=by omega
 have o:=D.o.kept n (by simp;exact C.o);have z:=F.o.kept n (by simp;exact fun i=>E i.symm);have x:=G.o.kept n (by simp;exact fun i=>O i.symm);have⟨F,D,C⟩:=qc (o.set 0<|.slice g k c) (Qp.kept (Qp.less y<|DZ k) ((Qc [a] d).setCell (p:=⟨a,0,none⟩) (by simp)<|.slice g k c) (by intro A e j;simp[Qd,qo]at e j;subst e;exact C.o j.symm))<|((u.o.trans r.o<|by simp).mono (T:=[g])<|by simp).trans n fun A e=>.inl e;have:d.cell? ⟨a,0,none⟩=some (.slice g (k+1) c):=o.cell (i:=0) rfl;have:=o.free 0;have⟨u,r⟩:=qb (by omega:a≠h.heap.size) (by omega:a≠w.heap.size);have:(d.setCell ⟨a,0,none⟩<|.slice g k c).cell? ⟨h.heap.size,0,none⟩=some (.int .i64 (Zk t).1):=(x.kept ((Qc [a] d).setCell (p:=⟨a,0,none⟩) (by simp) _) (by simp;exact fun i=>u.o i.symm)).cell (i:=0) rfl;have:(d.setCell ⟨a,0,none⟩<|.slice g k c).cell? ⟨h.heap.size,1,none⟩=some (.int .i64 (Zk t).2):=(x.kept ((Qc [a] d).setCell (p:=⟨a,0,none⟩) (by simp) _) (by simp;exact fun i=>u.o i.symm)).cell (i:=1) rfl;have h:=z.kept ((Qc [a] d).setCell (p:=⟨a,0,none⟩) (by simp)<|.slice g k c) (by simp;exact fun i=>r.o i.symm);have:(d.setCell ⟨a,0,none⟩<|.slice g k c).cell? ⟨w.heap.size,0,none⟩=some (.int .i64 0):=h.cell (i:=0) rfl;have:(d.setCell ⟨a,0,none⟩<|.slice g k c).cell? ⟨w.heap.size,1,none⟩=some (.int .i64 0):=h.cell (i:=1) rfl;have q2:=h.free 0;have:=h.free 1;have u:=((h.set 0<|.int .i64 (Zk t).1).set 1<|.int .i64 (Zk t).2).cell (i:=0) (u:=.int .i64 (Zk t).1) rfl;have G:=((h.set 0<|.int .i64 (Zk t).1).set 1<|.int .i64 (Zk t).2).cell (i:=1) (u:=.int .i64 (Zk t).2) rfl;have:(k:Int)≤c:=by obtain⟨i,i,i,O,-⟩:=Qp.sees m.o;cases i;omega
 have s:(0:Int)≤k:=by omega
 go_wp2_with fail;refine Q9 (v:=Um<|Zk t) (by simp[results,results303,go_sem,Um,u,G]) rfl ?_;have i:Qb [a,g] w (((d.setCell ⟨a,0,none⟩<|.slice g k c).setCell ⟨w.heap.size,0,none⟩<|.int .i64 (Zk t).1).setCell ⟨w.heap.size,1,none⟩<|.int .i64 (Zk t).2):=
  (((C.o.mono (T:=[a,g])<|by simp).setCell (p:=⟨a,0,none⟩) (by simp) _).setCell (p:=⟨w.heap.size,0,none⟩) (by simp) _).setCell (p:=⟨w.heap.size,1,none⟩) (by simp) _
 have h:Qb [w.heap.size] (d.setCell ⟨a,0,none⟩<|.slice g k c) (((d.setCell ⟨a,0,none⟩<|.slice g k c).setCell ⟨w.heap.size,0,none⟩<|.int .i64 (Zk t).1).setCell ⟨w.heap.size,1,none⟩<|.int .i64 (Zk t).2):=
  ((Qc [w.heap.size] _).setCell (p:=⟨w.heap.size,0,none⟩) (by simp) _).setCell (p:=⟨w.heap.size,1,none⟩) (by simp) _
 refine⟨t,b,rfl,H.o,I.o,F.o.kept h (by simp;exact r.o),?_,i⟩;have e:(ZV<|(l.map Zk).set b<|Zk f).take (k*2)=ZV ((YP l b).map Zk):=by
  rw[Qhf]
  congr 1
  unfold YP;rw[q.o,Us,List.getD,J.o,Vs,List.dropLast_eq_take,JC,q.o,Us,DQ,Bj]
 rw[←e];exact Qp.kept D.o h (by intro A e j;simp[Qd,qo]at e j;subst e;exact E j)
namespace K
def QH(bs:List Bool)(i:Nat)(n:Int):Nat × Nat:=if n<0∨64<n then(0,2)else if bs.length<i+n.toNat then(0,10)else(num (QS bs i n.toNat),0)
def DG(bs:List Bool)(i:Nat)(a:Int):Nat × Nat:=if a<0 then(0,2)else ZR a 0 (bs.drop i)
def jY(bs i n)(a:(QH bs i n).2=0):0≤n∧n≤64∧i+n.toNat≤bs.length:=by
 unfold QH at a
 split at a
 ·simp at a
 split at a
 ·simp at a
 omega
def kN(a):∀(l:List Bool)(n:Nat),(ZR a n l).2≤10∧(ZR a n l).1≤n+l.length∧((ZR a n l).2=0→(ZR a n l).1+1≤n+l.length)
 | [],n=>by simp[ZR]
 |false::t,n=>by simp[ZR]<;>omega
 |true::t,n=>by
  simp only[ZR]
  split
  ·simp
  have:=kN a t<|n+1;simp only[QZ];omega
end K
namespace K
def X1(list:List Int)(n:Int):Bool:=decide (3≤n∧n≤258)&&decide (1≤list.length∧list.length≤1638350)&&list.all fun a=>decide (0≤a∧a<n)
def Yd(m:Int):Nat × Nat:=if m<1 then(0,2)else if m<200 then(2,0)else if m<600 then(3,0)else if m<1200 then(4,0)else if m<2400 then(5,0)else(6,0)
def CE(n:Nat)(t:List Int):Bool:=decide (t.length=n)&&decide (3≤t.length)&&XA t
def Xm(T:List (List Int))(P:List Int):Bool:=
 decide (2≤T.length∧T.length≤6)&&decide (1≤P.length∧P.length≤32767)&&(T.all (CE (T.getD 0 []).length))&&P.all fun a=>decide (0≤a∧a<(T.length:Int))
def ZG(m:Nat):Nat:=(m+49)/50
def Xs{α:Type}(l:List α)(k:Nat):List α:=(l.drop (50*k)).take 50
def JM:List Nat→List Nat→List Bool
 |_,[]=>[]
 |o,p::r=>List.replicate (o.idxOf p) true++false::JM (turned o (o.idxOf p)) r
def dX(P):∀a:List Nat,(∀p∈P,p∈a)→(JM a P).length≤P.length*a.length:=by
 induction P with
 |nil=>intro a _;simp[JM]
 |cons p r ih=>
  intro a b;have hp:=b p (by simp);have hi:a.idxOf p<a.length:=La.2 hp;have:=ih (turned a<|a.idxOf p) fun c d=>(GA a _ hi c).2 (b c<|by simp[d])
  rw[DF a _ hi]at this;rw[JM,Qo,Ap,QZ,QZ,VQ,Nat.one_mul];omega
end K
namespace K
def Tu(x):∀(l:List Nat)(j b:Nat),j<l.idxOf x→l[j]?=some b→b≠x
 | [],j,b,h,hy=>by simp at hy
 |a::l,j,b,h,hy=>by
  rw[List.idxOf_cons]at h
  by_cases c:a=x
  ·simp[c]at h
  have hb:(a==x)=false:=by simp[c]
  rw[hb]at h;cases j with
  |zero=>simp at hy;omega
  |succ j=>exact Tu x l j b (by simpa using h) (by simpa using hy)
def Ja(T:List (List Int))(P:List Int):List Bool:=low T.length 3++(low P.length 15++JM (List.range T.length) (QA P))
def Zs(T:List (List Int))(P:List Int):List Bool:=Ja T P++T.flatMap Q0
def AU(T:List (List Int))(P:List Int):List UInt8 × Int × Nat:=if Xm T P then(Qu (Zs T P),((Zs T P).length:Nat),0)else([],0,110)
def RB{T P}(a:Xm T P=true):(2≤T.length∧T.length≤6)∧(1≤P.length∧P.length≤32767)∧(∀t∈T,t.length=(T.getD 0 []).length∧3≤t.length∧XA t=true)∧∀x∈P,0≤x∧x<(T.length:Int):=by unfold Xm at a;rw[Xg,Xg,Xg,Zu,Zu,XO,XO]at a;obtain⟨⟨⟨b,c⟩,d⟩,e⟩:=a;refine⟨b,c,fun t a=>?_,fun x b=>by have:=e x b;rwa[Zu]at this⟩;have:=d t a;unfold CE at this;rw[Xg,Xg,Zu,Zu,and_assoc]at this;exact this
def eD{T:List (List Int)}{P}(a:∀x∈P,0≤x∧x<(T.length:Int)):∀p∈QA P,p∈List.range T.length:=by intro p hp;obtain⟨x,b,rfl⟩:=Qy.1 hp;have:=a x b;rw[ZL];omega
def IG{T P}(a:Xm T P=true):(Ja T P).length≤200000:=by obtain⟨b,c,-,d⟩:=RB a;have:=dX (QA P) (List.range T.length)<|eD d;rw[U6,UF]at this;unfold Ja;rw[Qo,Qo,XZ,XZ];have:P.length*T.length≤32767*6:=Fq c.2 b.2;omega
def Aj(T:List (List Int))(P:List Int)(k:Nat):List (List UInt8 × Int):=(Qu (Ja T P),((Ja T P).length:Nat))::(T.take k).map fun a=>(Qu (Q0 a),((Q0 a).length:Nat))
def zG(l:List (List Int)):Ym (l.map fun t=>(Qu<|Q0 t,((Q0 t).length:Nat)))=l.flatMap Q0:=by
 induction l with
 |nil=>rfl
 |cons t l ih=>
  have a:Ym ((t::l).map fun t=>(Qu<|Q0 t,(((Q0 t).length:Nat):Int)))=BG (Qu<|Q0 t,((Q0 t).length:Nat))++Ym (l.map fun t=>(Qu<|Q0 t,(((Q0 t).length:Nat):Int))):=by simp[Ym]
  rw[a,Nv,ih,Ji]
def Qde(T P):Ym (Aj T P T.length)=Zs T P:=by
 have b:Ym (Aj T P T.length)=BG (Qu<|Ja T P,((Ja T P).length:Nat))++Ym ((T.take T.length).map fun a=>(Qu<|Q0 a,(((Q0 a).length:Nat):Int))):=by simp[Ym,Aj]
 rw[b,Nv,zG,Vp];rfl
def Qgp(l:List (List Int))(a:∀t∈l,XA t=true):((l.map fun t=>(Qu<|Q0 t,(((Q0 t).length:Nat):Int))).map fun p=>p.1.length).sum≤l.length*2501:=by
 induction l with
 |nil=>simp
 |cons t l ih=>
  have:=ih fun c b=>a c (by simp[b])
  have:=Gt t (UA<|a t<|by simp);rw[QO,QO,Z8,QZ,J3,VQ];omega
def Qdg{T P}(a:Xm T P=true):Jg (Aj T P T.length)≤1000000:=by
 obtain⟨b,-,c,-⟩:=RB a;have:=IG a;have:=Qgp T fun d a=>(c d a).2.2
 unfold Jg Aj;rw[Vp,QO,Z8,J3];have:T.length*2501≤6*2501:=As _ b.2;omega
def Qdf{T P}(a:Xm T P=true):∀p∈Aj T P T.length,p.2≤9223372036854775807:=by
 obtain⟨-,-,c,-⟩:=RB a;intro p hp;simp only[Aj,QB,Qy,Vp]at hp;rcases hp with rfl|⟨b,d,rfl⟩
 ·have:=IG a;simp only;omega
 have:=Gt b<|UA (c b d).2.2;simp only;omega
end K
namespace K
def Ad(T:List (List Int))(bs:List Bool)(b:Int):List Int→List Nat→Nat→List Nat × Nat × Nat
 | [],out,p=>([],0,110)
 |k::r,out,p=>
  let a:=JI (T.getD k.toNat []) bs (p:Int) 50 b
  if a.2.2≠0 then([],0,a.2.2)else if((a.1.getD (a.1.length-1) 0:Nat):Int)=b then(out++a.1,a.2.1,0)else Ad T bs b r (out++a.1) a.2.1
def Rx(T:List (List Int))(P:List Int)(bs:List Bool)(at_:Int):List Nat × Nat × Nat:=
 if Xm T P then(if at_<0∨(bs.length:Int)<at_ then([],0,2)else Ad T bs ((((T.getD 0 []).length:Nat):Int)-1) P [] at_.toNat)else([],0,110)
def Tm(ls bs n e):∀f b p,(Yj ls bs n e f b p).2.2=0→(b.length:Int)≤n→b.length≤(Yj ls bs n e f b p).1.length∧((Yj ls bs n e f b p).1.length:Int)≤n∧
 ((b.length:Int)<n→b.length<(Yj ls bs n e f b p).1.length)
 |0,b,p,a,hn=>by simp[Yj]at a
 |f+1,b,p,a,hn=>by
  rw[Yj]at a ⊢
  by_cases c:(b.length:Int)<n
  ·rw[Qg c]at a ⊢
   by_cases b:(Z7 ls bs p).2.2≠0
   ·rw[Qg b]at a;exact absurd a b
   rw[Qe b]at a ⊢
   by_cases b:((Z7 ls bs p).1:Int)=e
   ·rw[Qg b];simp only[Qo,QZ,Yg];omega
   rw[Qe b]at a ⊢;have b:=Tm ls bs n e f _ _ a (by simp only[Qo,QZ,Yg];omega);simp only[Qo,QZ,Yg]at b;omega
  rw[Qe c];exact⟨Ql _,hn,fun a=>absurd a c⟩
def qP(l bs)(p:Nat)(e)(h:(JI l bs (p:Int) 50 e).2.2=0):1≤(JI l bs (p:Int) 50 e).1.length∧(JI l bs (p:Int) 50 e).1.length≤50:=by
 unfold JI at h ⊢
 split at h
 ·rename_i y;rw[Qg y]
  split at h
  ·simp at h
  rename_i hb;rw[Qe hb];rw[Zw]at h ⊢;obtain⟨-,h2,o⟩:=Tm (QA l) bs 50 e _ [] _ h (by simp);have q:=o (by simp);simp only[Yg]at q;omega
 simp at h
def LU(ls bs n e):∀f a p,p≤bs.length→(Yj ls bs n e f a p).2.2=0→(Yj ls bs n e f a p).2.1≤bs.length
 |0,a,p,hp,h=>by simp[Yj]at h
 |f+1,a,p,hp,h=>by
  rw[Yj]at h ⊢
  by_cases b:(a.length:Int)<n
  ·rw[Qg b]at h ⊢
   by_cases a:(Z7 ls bs p).2.2≠0
   ·rw[Qg a]at h;exact absurd h a
   have c:=(Np ls bs p<|by omega).2;rw[Qe a]at h ⊢
   by_cases a:((Z7 ls bs p).1:Int)=e
   ·rwa[Qg a]
   rw[Qe a]at h ⊢;exact LU ls bs n e f _ _ c h
  rwa[Qe b]
def qQ(l bs)(p:Nat)(e)(h:(JI l bs (p:Int) 50 e).2.2=0):(JI l bs (p:Int) 50 e).2.1≤bs.length:=by
 unfold JI at h ⊢
 split at h
 ·rename_i o;rw[Qg o]
  split at h
  ·simp at h
  rename_i hb;rw[Qe hb];rw[Zw]at h ⊢;exact LU (QA l) bs 50 e _ [] _ (by omega) h
 simp at h
end K
namespace K
def BH(T:List (List Int))(bs:List Bool)(b:Int)(P:List Int):Nat→Nat→List Nat→Nat→List Nat × Nat × Nat
 |0,_,_,_=>([],0,110)
 |f+1,i,out,p=>
  let a:=Z7 (QA (T.getD (P.getD (i/50) 0).toNat [])) bs p
  if a.2.2≠0 then([],0,a.2.2)else if(a.1:Int)=b then(out++[a.1],a.2.1,0)else BH T bs b P f (i+1) (out++[a.1]) a.2.1
def FB(T:List (List Int))(bs:List Bool)(a:Int)(P:List Int)(f i:Nat)(b:List Nat)(A:List Nat × Nat × Nat):List Nat × Nat × Nat:=
 if A.2.2≠0 then([],0,A.2.2)else if((A.1.getD (A.1.length-1) 0:Nat):Int)=a then(b++A.1,A.2.1,0)else BH T bs a P f i (b++A.1) A.2.1
def gD(T bs a P k r ls)(d:QA (T.getD (P.getD k 0).toNat [])=ls)(c):
 ∀(f:Nat)(L:List Nat)(p:Nat),p≤bs.length→bs.length+1≤f+p→L.length≤50→(L≠[]→((L.getD (L.length-1) 0:Nat):Int)≠a)→(L.length=50→True)→
  (L=[]→0<50)→
  BH T bs a P (r+(50-L.length)) (50*k+L.length) (c++L) p=FB T bs a P r (50*(k+1)) c (Yj ls bs 50 a f L p)
 |0,L,p,hp,hf,hL,hn,_,_=>by omega
 |f+1,L,p,hp,hf,hL,hn,_,_=>by
  by_cases b:L.length=50
  ·rw[Tj _ _ _ _ _ _ _<|by omega];have hne:L≠[]:=(by intro e;rw[e]at b;simp at b);unfold FB;rw[Qe<|by simp,Qe<|hn hne,b];rfl
  obtain⟨hlt,b⟩:(L.length:Int)<50∧(50*k+L.length)/50=k:=by omega
  rw[show r+(50-L.length)=(r+(50-(L.length+1)))+1 by omega,BH,b,d]
  by_cases hz:(Z7 ls bs p).2.2=0
  ·obtain⟨b,g⟩:=Np ls bs p hz;rw[Qe (by rw[hz];simp)]
   by_cases b:((Z7 ls bs p).1:Int)=a
   ·rw[Qg b,Tk ls bs 50 a f L p (Z7 ls bs p).1 (Z7 ls bs p).2.1 hlt (by rw[←hz]) b];unfold FB;rw[Qe<|by simp,Qg<|by simpa using b,QN]
   rw[Qe b,Tn ls bs 50 a f L p (Z7 ls bs p).1 (Z7 ls bs p).2.1 hlt (by rw[←hz]) b];have e:=gD T bs a P k r ls d c f (L++[(Z7 ls bs p).1]) (Z7 ls bs p).2.1 g (by omega) (by simp only[Qo,QZ,Yg];omega) (by intro _;simpa using b) (fun _=>trivial) (fun _=>by omega);rw[Qo,QZ,Yg,←QN]at e;rw[←e];rfl
  rw[Qg hz,Tl ls bs 50 a f L p (Z7 ls bs p).2.2 hlt (eI ls bs p hz) hz];unfold FB;rw[Qg hz]
def gC(T bs a P)(d:∀x∈P,XA (T.getD x.toNat [])=true):
 ∀(m k:Nat)(b:List Nat)(p:Nat),m+k=P.length→p≤bs.length→BH T bs a P (50*m) (50*k) b p=Ad T bs a (P.drop k) b p
 |0,k,b,p,hk,hp=>by rw[JB<|by omega];rfl
 |m+1,k,b,p,hk,hp=>by
  have⟨x,c⟩:=qy P k (by omega);have e:P.getD k 0=x:=by rw[List.getD,c];rfl
  obtain⟨g,h⟩:=Qz.1 c;have f:=d x<|QC c;have c:=gD T bs a P k (50*m) (QA<|T.getD x.toNat []) (by rw[e]) b (bs.length+1) [] p hp (by omega) (by simp) (fun e=>absurd rfl e) (fun _=>trivial) (fun _=>by omega);rw[Yg,XP]at c;rw[show 50*(m+1)=50*m+(50-0)by omega];have e:BH T bs a P (50*m+(50-0)) (50*k) b p=_:=c;rw[e,Xa g,h,Ad];have b:JI (T.getD x.toNat []) bs (p:Int) 50 a=Yj (QA<|T.getD x.toNat []) bs 50 a (bs.length+1) [] p:=by unfold JI;rw[Qg f,Qe<|by omega,Zw]
  simp only[b];unfold FB
  by_cases h0:(Yj (QA<|T.getD x.toNat []) bs 50 a (bs.length+1) [] p).2.2≠0
  ·rw[Qg h0,Qg h0]
  rw[Qe h0,Qe h0]
  by_cases b:(((Yj (QA<|T.getD x.toNat []) bs 50 a (bs.length+1) [] p).1.getD ((Yj (QA<|T.getD x.toNat []) bs 50 a (bs.length+1) [] p).1.length-1) 0:Nat):Int)=a
  ·rw[Qg b,Qg b]
  rw[Qe b,Qe b];exact gC T bs a P d m (k+1) _ _ (by omega) (LU (QA<|T.getD x.toNat []) bs 50 a _ [] _ hp<|by simpa using h0)
end K
namespace K
def Jd(bs:List Bool)(many:Nat):Nat→List Nat→List Nat→Nat→List Nat × Nat × Nat
 |0,_,out,p=>(out,p,0)
 |m+1,o,out,p=>
  let a:=ZR ((many:Int)-1) 0 (bs.drop p)
  if a.2=0 then Jd bs many m (turned o a.1) (out++[o.getD a.1 0]) (p+a.1+1)else([],0,if a.2=3 then 110 else a.2)
def VI(bs:List Bool)(n:Int):Nat→List (List Int)→Nat→List (List Int) × Nat × Nat
 |0,out,p=>(out,p,0)
 |m+1,out,p=>
  let a:=Jo bs (p:Int) n
  if a.2.2≠0 then([],0,a.2.2)else if XA a.1 then VI bs n m (out++[a.1]) a.2.1 else([],0,80)
def Uk(bs:List Bool)(at_ n:Int):List (List Int) × List Nat × Nat × Nat:=
 if at_<0∨(bs.length:Int)<at_∨n<3∨258<n then([],[],0,2)else
 let a:=QH bs at_.toNat 3
 if a.2≠0 then([],[],0,a.2)else if a.1<2∨6<a.1 then([],[],0,110)else
 let b:=QH bs (at_.toNat+3) 15
 if b.2≠0 then([],[],0,b.2)else if b.1=0 then([],[],0,110)else
 let c:=Jd bs a.1 b.1 (List.range a.1) [] (at_.toNat+18)
 if c.2.2≠0 then([],[],0,c.2.2)else
 let b:=VI bs n a.1 [] c.2.1
 if b.2.2≠0 then([],[],0,b.2.2)else(b.1,c.1,b.2.1,0)
def Js(T:List (List Int))(P:List Int)(i:Nat):List Nat:=QA (T.getD (P.getD (i/50) 0).toNat [])
def XU(T:List (List Int))(P:List Int)(n:Int):Nat→List Int→Option (List Bool)
 |_,[]=>some []
 |i,s::r=>if s<0∨n≤s then none else(XU T P n (i+1) r).map (JT (Js T P i) s.toNat++ ·)
def Y8(T:List (List Int))(P list:List Int):List Bool × Nat:=
 if Xm T P&&decide (ZG list.length≤P.length)then match XU T P ((T.getD 0 []).length:Nat) 0 list with|none=>([],60)|some B=>(B,0)else([],110)
def VF(T:List (List Int))(P list:List Int):List UInt8 × Int × Nat:=if(Y8 T P list).2=0 then(Qu (Y8 T P list).1,(((Y8 T P list).1.length:Nat):Int),0)else([],0,(Y8 T P list).2)
def UH(T:List (List Int))(P list:List Int):Nat × Nat:=if(Y8 T P list).2=0 then((Zs T P).length+(Y8 T P list).1.length,0)else(0,(Y8 T P list).2)
def Wh(T P n):∀(l:List Int)(i:Nat),(∃s∈l,s<0∨n≤s)→XU T P n i l=none
 | [],i,h=>by obtain⟨s,hs,-⟩:=h;cases hs
 |x::r,i,h=>by
  rw[XU]
  split
  ·rfl
  rename_i q;obtain⟨s,hs,o⟩:=h;rcases QB.1 hs with rfl|hs
  ·exact absurd o q
  rw[Wh T P n r (i+1) ⟨s,hs,o⟩];rfl
def Wj(T P n):∀(l:List Int)(i:Nat),(∀s∈l,0≤s∧s<n)→∃a,XU T P n i l=some a
 | [],i,h=>⟨[],rfl⟩
 |x::r,i,h=>by
  have:=h x (by simp);obtain⟨a,a⟩:=Wj T P n r (i+1) fun s hs=>h s (by simp[hs])
  rw[XU,Qe<|by omega,a];exact⟨_,rfl⟩
def Wi(T P n x)(o:0≤x∧x<n):∀(l:List Int)(i:Nat)(B:List Bool),XU T P n i l=some B→XU T P n i (l++[x])=some (B++JT (Js T P<|i+l.length) x.toNat)
 | [],i,B,h=>by rw[XU]at h;injection h with h;subst h;rw[Yv,XU,Qe<|by omega,XU];simp
 |y::r,i,B,h=>by
  rw[XU]at h
  split at h
  ·cases h
  rename_i q;cases hr:XU T P n (i+1) r with
  |none=>rw[hr]at h;cases h
  |some C=>rw[hr]at h;injection h with h;have ih:=Wi T P n x o r (i+1) C hr;rw[Yf,XU,Qe q,ih,←h,QZ,show i+1+r.length=i+(r.length+1)by omega];simp
def Qgx{T P}(a:Xm T P=true)(i s):(JT (Js T P i) s).length≤20:=by
 obtain⟨-,-,b,-⟩:=RB a;rw[jR];unfold Js;cases hT:T[(P.getD (i/50) 0).toNat]? with
 |none=>
  have a:T.getD (P.getD (i/50) 0).toNat []=[]:=by rw[List.getD,hT];rfl
  rw[a];simp[QA]
 |some t=>
  have a:T.getD (P.getD (i/50) 0).toNat []=t:=by rw[List.getD,hT];rfl
  rw[a,List.getD];cases hs:(QA t)[s]? with
  |none=>simp
  |some v=>exact(Cl (b t<|QC hT).2.2 v (QC hs)).2
def Wg{T P}(c:Xm T P=true)(n):∀(l:List Int)(i:Nat)(b:List Bool),XU T P n i l=some b→b.length≤20*l.length
 | [],i,b,a=>by rw[XU]at a;injection a with a;subst a;simp
 |y::r,i,b,a=>by
  rw[XU]at a
  split at a
  ·cases a
  cases hr:XU T P n (i+1) r with
  |none=>rw[hr]at a;cases a
  |some C=>rw[hr]at a;injection a with a;have:=Wg c n r (i+1) C hr;have:=Qgx c i y.toNat;rw[←a,Qo,QZ];omega
end K
