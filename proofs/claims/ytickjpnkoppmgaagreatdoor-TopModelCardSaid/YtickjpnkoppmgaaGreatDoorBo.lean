import Derived.Test.YtickjpnkoppmgaaGreatDoorBn
set_option linter.all false
set_option maxHeartbeats 4000000
set_option maxRecDepth 20000
namespace Go.Proofs.YtickjpnkoppmgaaGreatDoor
open Go.Proofs.Tryz Go.RowKit K
def Sl(a b):str a++str b=str (a++b):=by
 rw[<-Rp (str a++str b)]
 congr 1
def Qkf(n:Nat)(w)(c:n<=1000000):Calls prog 154 #[n] w fun e w'=>e=.returned ((n+511)/512*512:Nat)/\w'=w:=by
 have⟨c,d⟩:=qx<|(n+511)/512;have:((n:Int)+512-1).tdiv 512=(c:Int):=by rw[FN ox];omega
 have:((n:Int)+512-1)/512=(c:Int):=ox
 rw[d];have:c<=10000:=ox
 go_enter func154,ntmps154
 go_wp2
 go_ret;exact⟨by congr 2,rfl⟩
def K.zN(l:LU):l.length+Bp l.length=(l.length+511)/512*512:=by have:=Bq l;rwa[Yy,Qo,VY]at this
def Sa(p d:ByteArray)(a b kind w)(hk:kind=48\/kind=120)(hp:UE p.data.toList=some (a,b))(g:0<p.size)(h:p.size<=1000000)(h0:(0:UInt8)∉p.data.toList)(hs:d.size<=300000):
 Calls prog 112 #[p,.int .u8 kind.toNat,d] w (RK (.tuple #[str<|X8 a b kind d.size++Yy d.data.toList,(0:Int)]) w):=by
 have i:=Qa (fun c=>Qks p a b kind d.size c hk hp g h h0 ox);unfold Ae at i;have l:=Qa (fun c=>Qkf d.size c ox);have g:=zN d.data.toList;rw[Zr]at g;have⟨c,h⟩:=qx<|Bp d.size;rw[h]at g;have:c<512:=by rw[<-h];unfold Bp;omega
 have⟨j,m⟩:=qx<|(d.size+511)/512*512;rw[m]at l g;have:(j:Int)-d.size=(c:Int):=ox
 have n:str (X8 a b kind d.size)++d++str (Q3 c)=str (X8 a b kind d.size++Yy d.data.toList):=by
  rw[<-Rp (_++_),Yy,Zr,h]
  congr 1
  simp only[ByteArray.data_append,Mn,QR];rfl
 have j:=Qa n;have⟨g,hh⟩:=qx<|X8 a b kind d.size;have o:g.length=512:=by rw[<-hh];obtain⟨q,z2,z3,z4⟩:=Sj hp h0;exact Ad kind d.size z4 z3
 rw[hh]at i j ⊢;have:(str g).size=512:=o;have:(Q3 c).length=c:=VY c;have:∀g:List UInt8,(str g).size=g:=fun _=>rfl
 obtain⟨q,z2⟩: ¬9223372036854775807<512+d.size/\¬9223372036854775807<512+d.size+c:=ox
 go_enter func112,ntmps112;go_wp2_with (first
  |(go_fit(i.o _);rintro e q⟨rfl,g⟩)
  |(go_fit(l.o _);rintro e n⟨rfl,rfl⟩)
  |(at_make;refine Jp rfl _ _ 88 rfl 5 (.int .u8 0) 1 Xo Jg rfl .i64 .i64 _ _ c c rfl rfl rfl rfl (Qk _) ox (by simp only[maxLen];omega) ?_;intro n m h;have:=Qh.text (l:=Q3 c) (by rw[show Qn (Q3 c)=List.replicate c (.int .u8 0)by simp[Qn,Q3]];exact m)))
 go_ret2;exact⟨by rw[<-j.o];rfl,g.trans h sx⟩
def dW{l:LU}(h:l.all CT=true):(0:UInt8)∉l:=fun c=>by
 have:=Yb.1 h 0 c
 revert this;decide
def yX(p d:ByteArray)(w)(z:Y5 w)(hp:Xr p.data.toList=true)(hs:d.size<=262144):
 Calls prog 79 #[.agg #[p,d]] w (RK (.tuple #[str<|Ug p.data.toList d.size++Yy d.data.toList,(0:Int)]) w):=by
 obtain⟨y,c,c⟩:=XU hp;have h0:=dW y;have H:=Zr p;have x:=Qa (fun c=>CP p c ox);rw[show X1 p.data.toList=0 by unfold X1;rw[hp];rfl]at x;have s:=Qa (fun c=>mK p c ox);have:¬(262144:Int)<d.size:=ox
 cases hsp:UE p.data.toList with
 |some ab=>
  obtain⟨a,b⟩:=ab;have n:RL p.data.toList=.tuple #[str a,str b,.bool true]:=by unfold RL;rw[hsp]
  have q:=Qa (by unfold Ug;rw[hsp]:Ug p.data.toList d.size=X8 a b 48 d.size);have t:=Qa (fun c=>Sa p d a b 48 c (.inl rfl) hsp ox ox h0 ox);rw[n]at s;have o:=Qa<|Qx w [p,d] 63;go_enter func79,ntmps79;go_wp2_with (first
   |(go_fit(x.o _);rintro e M⟨rfl,h⟩;have g:=o.o.kept h sx;have c0:=g.cq 0 (u:=.string p);have c1:=g.cq 1 (u:=.string d))
   |(go_fit(s.o _);rintro e A⟨rfl,j⟩;have l:=g.kept j sx;have D:=l.cq 0 (u:=.string p);have E:=l.cq 1 (u:=.string d))
   |(go_fit(t.o _);rintro e v⟨rfl,m⟩))
  go_ret2;exact⟨by rw[q.o];rfl,((((Qc [] w).alloc _).trans h sx).trans j sx).trans m sx⟩
 |none=>
  have n:RL p.data.toList=.tuple #["","",.bool false]:=by unfold RL;rw[hsp]
  have:100<p.size:=by
   rcases Xw 100 p.size with t|t
   ·exact t
   rw[UE,Qg ox]at hsp;cases hsp
  rw[n]at s;have G:=Qa (fun v c (B:Qe c v 172 [.string ⟨#[112,97,116,104]⟩,p])(hk:Qb [] w c)=>Qgu v p.data.toList c (by rw[Rp];exact B) (z.kZ hk) ox ox);have I:=GZ p.data.toList;have F:(str<|Xd p.data.toList).size=p.size+10:=by show(Xd _).length=_;omega
  have B:=Qa (fun c=>Sa ⟨#[112,97,120]⟩ (str<|Xd p.data.toList) [] [112,97,120] 120 c (.inr rfl) (by rfl) dx dx dx ox);have J:=LX (p:=p.data.toList.take 100) (a:=[]) (b:=p.data.toList.take 100);have v:(p.extract 0 100).data.toList=p.data.toList.take 100:=by rw[zC,VJ]
  have L:(p.extract 0 100).size=100:=by rw[<-Zr,v,Zd];omega
  have C:=Qa (fun c=>Sa (p.extract 0 100) d [] (p.data.toList.take 100) 48 c (.inl rfl) (by rw[v,UE,Qg (by rw[Zd];omega)]) ox ox (by rw[v];exact fun t=>h0<|Rv t) ox);have q:=Qa (show Ug p.data.toList d.size++Yy d.data.toList=(X8 [] [112,97,120] 120 (p.size+10)++Yy (Xd p.data.toList))++(X8 [] (p.data.toList.take 100) 48 d.size++Yy d.data.toList)by
   unfold Ug;rw[hsp,H];simp only[QR])
  have s1:=BH p 100 100 ox rfl;have t:=Qa (show(X8 [] [112,97,120] 120 (p.size+10)++Yy (Xd p.data.toList)).length<=1000000/\(X8 [] (p.data.toList.take 100) 48 d.size++Yy d.data.toList).length<=1000000 by rw[Qo,Qo,Ad _ _ dx dx,Ad _ _ (by rw[Zd];omega) dx,Bq,Bq,Zr];omega);rw[F]at B;have o:=Qa<|Qx w [p,d] 63;go_enter func79,ntmps79;go_wp2_with (first
   |(go_fit(x.o _);rintro e M⟨rfl,h⟩;have g:=o.o.kept h sx;have c0:=g.cq 0 (u:=.string p);have c1:=g.cq 1 (u:=.string d))
   |(go_fit(s.o _);rintro e A⟨rfl,j⟩;have l:=g.kept j sx;have D:=l.cq 0 (u:=.string p);have E:=l.cq 1 (u:=.string d)))
  have m:=(((Qc [] w).alloc _).trans h sx).trans j sx;go_fit(G.o A _ (Qx A [.string ⟨#[112,97,116,104]⟩,p] 172)<|m.alloc _);rintro e c⟨rfl,n⟩;have c:=(m.alloc _).trans n sx;have s:=o.o.kept (((((Qc [] _).trans h sx).trans j sx).alloc _).trans n sx) sx;have⟨v,o⟩:=qb c s;go_wp2_with fail;go_fit(B.o _);rintro e g⟨rfl,c⟩;have h:=o.o.kept c sx;have c0:=h.cq 0 (u:=.string p);have c1:=h.cq 1 (u:=.string d);have g:=Qa (v.o.trans c sx);have:∀c:List UInt8,(str c).size=c:=fun _=>rfl
  have⟨c,j⟩:=qx<|X8 [] [112,97,120] 120 (p.size+10)++Yy (Xd p.data.toList);have⟨h,l⟩:=qx<|X8 [] (p.data.toList.take 100) 48 d.size++Yy d.data.toList;rw[j,l]at q t;have:¬9223372036854775807<c.length+h.length:=yx t.o
  rw[show(str<|Xd p.data.toList).data.toList=Xd p.data.toList from rfl,j];rw[l]at C;go_wp2_with fail
  go_region_with (go_fit(C.o _);rintro e h⟨rfl,c⟩)
  all_goals
   go_wp2
   go_ret2;refine⟨by rw[q.o,<-Sl];rfl,?_⟩
   first|exact g.o.trans c sx|exact g.o.drew.trans c sx|exact(g.o.trans c sx).drew|exact(g.o.drew.trans c sx).drew
def lW(d:ByteArray)(w)(hs:d.size<=1000000):Calls prog 81 #[d] w (RK (str<|Yy d.data.toList) w):=by
 have⟨c,g⟩:=qx<|Bp d.size;have:c<512:=by rw[<-g];unfold Bp;omega
 have⟨r,j⟩:=qx<|d.size%512;have:r<512:=ox
 have:((d.size:Nat):Int).tmod 512=(r:Int):=by rw[BQ ox];omega
 have:((d.size:Nat):Int)%512=(r:Int):=ox
 have:((512:Int)-r).tmod 512=(c:Int):=by rw[BQ ox,<-g];unfold Bp;omega
 have:((512:Int)-r)%512=(c:Int):=by rw[<-g];unfold Bp;omega
 have h:=Qa fun i=>Tryz.strRep ⟨#[0]⟩ c i ox (by show 1*c<=_;omega);rw[show(⟨#[0]⟩:ByteArray).data.toList=[0]from rfl,PN]at h;have:(Q3 c).length=c:=VY c;have:¬9223372036854775807<d.size+c:=ox
 have i:=Qa (show d++str (Q3 c)=str (Yy d.data.toList)by
  rw[<-Rp (_++_),Yy,Zr,g]
  congr 1)
 go_enter func81,ntmps81;go_wp2_with (go_fit(h.o _);rintro e g⟨rfl,c⟩);go_ret;exact⟨by rw[<-i.o];rfl,Qb.of_below c⟩
def OT(p d:BA)(w)(A:Y5 w)(hp:Xr p=true)(hs:d.size<=8192):
 Calls prog 40 #[p,d] w (RK (.tuple #[str<|Yh (p.data.toList,d.data.toList),(0:Int)]) w):=by
 have⟨m,z,t⟩:=qc (yX p d w A hp ox) (fun h=>Qfp d h hs) (fun h=>lW d h ox);have y:=PD d;have B:=UD<|XN d;have x:=Ol p d.size (XU hp).2.2;have n:=Qa (by unfold Yh;rw[Zr]:Yh (p.data.toList,d.data.toList)=Ug p d.size++Yy (Qw<|XN d));have y:=y (by rwa[Zr]);have⟨i,hh⟩:=qx<|Ug p d.size;have⟨f,hf⟩:=qx<|Yy d;have⟨k,hk⟩:=qx<|Qw<|XN d;rw[hh]at x m n;rw[hf]at m t;rw[hk]at B n z;have u:=Qa fun h=>lW (str k) h (by show k.length<=_;omega);rw[show(str k).data.toList=k from rfl]at u;have⟨j,v⟩:=qx<|Yy k;rw[v]at u n;have:∀c:LU,(str c).size=c:=fun _=>rfl
 have⟨g,q⟩:=qx<|str<|i++f;have⟨l,o⟩:=qx<|str f;have⟨c,s⟩:=qx i.length;have C:g.size=c+l.size:=by rw[<-q,<-o,<-s];show(i++f).length=_;rw[Qo];rfl
 obtain⟨_,_,_⟩:(g.size:Int)-l.size=(c:Int)/\c<=g.size/\(c:Int)<=g.size:=ox
 have s1:=BH g c (c:Int) ox rfl;rw[JS g 0 c ox,VJ,Aw,show g.data.toList=i++f by rw[<-q];rfl,<-s,DA,s]at s1;rw[q]at m;rw[o]at t;rw[s]at x;have:c<=2000:=ox
 have:l.size<=20000:=by rw[<-o,<-hf];show(Yy _).length<=_;rw[Bq,Zr];omega
 have:g.size<=30000:=ox
 have:IntKind.i64.wrap (c:Int)=c:=by rw[Zq];omega
 have:j.length<=100000:=by rw[<-v,Bq];omega
 obtain⟨_,_⟩: ¬9223372036854775807<c+j.length/\¬(8192:Int)<d.size:=ox
 go_enter func40,ntmps40;go_wp2_with (first
  |(go_fit m.o;rintro e c⟨rfl,g⟩)
  |(go_fit(z.o _);rintro e o⟨rfl,l⟩))
 have:∀h:WD,(Op.stringOp .add (str i)<|str j).run prog h=.ok (.string<|str i++str j) h:=fun h=>run_string_add_sum _ _ _ (by show i.length+j.length<=_;omega)
 have c:=g.trans l sx
 go_region_with (go_at_call 81;first
  |(with_reducible refine(t.o _).mono ?_;rintro e h⟨rfl,g⟩;first|replace c:=c.trans g sx|replace c:=c.drew.trans g sx)
  |(with_reducible refine(u.o _).mono ?_;rintro e h⟨rfl,g⟩;first|replace c:=c.trans g sx|replace c:=c.drew.trans g sx))
 all_goals
  go_wp2
  go_ret2;refine⟨by rw[n.o,<-Sl];rfl,?_⟩
  first|exact c|exact c.drew
section
open Go.Sort Go.Shelf
namespace K
def AK:Int->List QP->List QP
 |_,[]=>[]
 |f,x::r=>(if f<x.1 then [(f,x.1-f)]else [])++AK (x.1+x.2) r
def Oe(cap):∀(l:List QP)(f:Int),Ab cap f l=AK f (l++[(max cap 30,0)])
 | [],f=>by simp[Ab,AK]
 |x::r,f=>by rw[Ab,XY,AK,Oe cap r]
def dQ:∀(l:List QP)(f:Int),(AK f l).length<=l.length
 | [],f=>Zv _
 |x::r,f=>by
  have:=dQ r<|x.1+x.2;rw[AK,Qo,QW]
  split<;>simp<;>omega
end K
def pY(d:List QP)(w:WD)(e:Ending)(w':WD):Prop:=∃c,e=.returned (.tuple #[c,(0:Int)])/\Ao w' c d/\Qb [] w w'
def Qak(v l cap w)(h:Ao w v l)(E:l.length<=1000)(c:1<=cap)(d:cap<=4096)(hk:ZZ cap l=true):
 Calls prog 90 #[v,cap] w (pY (Ab cap 30<|JX l) w):=by
 have m:=LQ v l cap w h ox c d;rw[hk]at m;have z:=Qa m;have⟨c,i⟩:=qx<|JX l;have n:c.length=l.length:=by rw[<-i];exact(Ai l).length_eq
 have o:∀d∈c++[(max cap 30,0)],30<=d.1/\0<=d.2/\d.1+d.2<=4096:=fun d j=>by
  rcases Q4.1 j with j|j
  ·have:=((YL _ _).1 hk).1 d ((Ai l).mem_iff.1<|i▸j);unfold K.inX at this;omega
  rw[Zb.1 j];simp only[];omega
 have t:Ab cap 30 (JX l)=AK 30 (c++[(max cap 30,0)]):=by rw[i,Oe]
 rw[t];have q:∀e,Qb [] w e->Calls prog 107 #[v] e (Es c e):=fun e g=>by obtain⟨a,p,s,x,y⟩:=h;rw[<-i];exact mF v l e ⟨a,p,s,x.kZ g,y⟩ ox
 have⟨B,s,p⟩:=qc q o n;clear h hk m i n t q o;go_enter func90,ntmps90;have t:c.length+1<=maxLen:=by have:=p.o;simp only[maxLen];omega
 have x:(c.length+1)*16<=140737488355328:=yx p.o
 go_wp2_with (first
  |(go_fit z.o;rintro y e⟨rfl,g⟩)
  |(go_fit(B.o _ g);rintro y i⟨v2,rfl,F,C,A⟩)
  |(at_builtin;refine Rr i rfl _ _ 106 rfl 109 (.agg #[(0:Int),(0:Int)]) 2 16 AC BW rfl dx v2 c (Qs Zc c) (Zc (max cap 30,0)) rfl rfl rfl rfl (Fc _) F t x ?_;intro g3 c3 q H D O))
 have⟨e,m⟩:=qx<|c++[(max cap 30,(0:Int))];have⟨i,n⟩:=qx<|c.length+1;have G:Qm q 109 2 (.slice g3 i c3) i (Qs Zc e):=by
  have:Qs Zc e=Qs Zc c++Zc (max cap 30,0):=by rw[<-m];simp[Qs]
  rw[this,<-n];exact H
 have z:e=i:=by rw[<-m,<-n];simp
 have o:=s.o;rw[m]at o ⊢;rw[n,show((c:Int)+1)=(i:Int)by omega];have⟨L,M,J,B,I⟩:=qe o m G z<|(g.trans C sx).trans D fun d j=>.inr (wx (A d j) g.size);have:i<=2000:=yx p.o
 clear H g C D O F A G z o m n s t x
 go_loopg [7,8,10,25] i (fun k n o c m wr=>(∃(c:Nat)(f:Int)(g:List QP)(p:VL),c<=i/\k=i-c/\p=n/\o=.int .i64 f/\m=.int .i64 (c:Nat)/\0<=f/\f<=4096/\Hid (AK 30 e=g++AK f (e.drop c)/\g.length<=c)/\
  Hid (Qm wr 109 2 p g.length<|Qs Zc g)/\Hid (∀d∈Qd p,q.heap.size<=d))/\Hid (Qb [] q wr))
 ·exact⟨⟨0,30,[],_,ox,ox,rfl,rfl,rfl,ox,ox,Qa ⟨rfl,Qk _⟩,Qa<|Qm.nil _ _ _,Qa<|by simp[Qd,qo]⟩,Qa<|Qc _ _⟩
 obtain⟨⟨c,f,g,p,hi,hk,rfl,rfl,rfl,m,m,n,q,t⟩,o⟩:=hrel
 by_cases hlt:c<i
 ·have F:(c:Int)<i:=ox
  have⟨d,j⟩:=qy e c (yx B.o);have x:=J.o.kept o.o<|Zy _;have c0:=x.aZ (by rw[Vy KH e c 0 d j dx];rfl:(Qs Zc e)[c*2+0]?=some (.int .i64 d.1));have c1:=x.aZ (by rw[Vy KH e c 1 d j dx];rfl:(Qs Zc e)[c*2+1]?=some (.int .i64 d.2));rw[Jt]at c0;have z:=L.o d<|QB j;have C:e.drop c=d::e.drop (c+1):=by
   have E:=(Qy.1 j).1;rw[Xf E]
   congr 1
   exact(Qy.1 j).2
  have s:=n.o.1;rw[C,AK]at s;have A:=Qa s;obtain⟨e,m⟩:=d;simp only[]at c0 c1 z;have v2:IntKind.i64.wrap (e+m)=e+m:=by rw[Zq];omega
  have d:=Qa z;clear s C j x z
  by_cases x:f<e
  ·have:IntKind.i64.wrap (e-f)=e-f:=(by have:=d.o;rw[Zq];omega);have C:g.length+1<=maxLen:=(by have:=n.o.2;simp only[maxLen];omega);have D:(g.length+1)*16<=140737488355328:=(yx n.o.2);have s:=Qa x;go_wp2_with (at_builtin;(refine Rr (wr.alloc<|.cells #[e,m] 109) rfl _ _ 106 rfl 109 (.agg #[(0:Int),(0:Int)]) 2 16 AC BW rfl dx p g (Qs Zc g) (Zc (f,e-f)) rfl (by rw[Ux];rfl) rfl rfl (Fc _) (World.ownsRow.alloc q.o _) C D ?_;intro P J Q H z E;have j:=(Qx wr [e,m] 109).kept z (fun G=>by have:=q.o.lt _ G;omega);have:=j.cq 0 (u:=.int .i64 e);have:=j.cq 1 (u:=.int .i64 m)))
   go_roundg (i-(c+1))
   case measure=>omega
   refine⟨⟨c+1,e+m,g++[(f,e-f)],_,ox,rfl,rfl,rfl,by go_num,yx d.o,d.o.2.2,Qa ⟨?_,?_⟩,Qa ?_,Qa ?_⟩,Qa ?_⟩
   ·have:=A.o;rw[Qg<|show f<(e,m).1 from s.o]at this;rw[this,QR]
   ·have:=n.o.2;simp;omega
   ·have y:Qs Zc (g++[(f,e-f)])=Qs Zc g++Zc (f,e-f):=(by simp[Qs]);rw[y,show(g++[(f,e-f)]).length=g.length+1 by simp];exact H
   ·intro p j;simp[Qd,qo]at j;subst j;have:=o.o.size;rcases E with h|h
    ·exact t.o _ h
    simp at h;omega
   exact(o.o.alloc _).trans z fun p j=>.inr<|t.o p j
  have s:=Qa x;have:¬f<e:=x
  go_wp2
  go_roundg (i-(c+1))
  ·refine⟨⟨c+1,e+m,g,_,ox,rfl,rfl,rfl,by go_num,yx d.o,d.o.2.2,Qa ⟨?_,?_⟩,Qa<|q.o.kept ((Qc [] wr).alloc _)<|Zy _,t⟩,Qa<|o.o.alloc _⟩
   ·have:=A.o;rw[Qf (by have:=s.o;simp only[];omega: ¬f<(e,m).1),YU]at this;exact this
   have:=n.o.2;omega
  omega
 obtain rfl:c=i:=ox
 have F:¬(c:Int)<c:=ox
 go_wp2
 go_ret2;refine⟨_,rfl,?_,I.o.trans o.o sx⟩;have:=n.o.1;rw[Jq (by rw[B.o];exact Qk _),AK,XX]at this;have c:=q.o.exA;rwa[<-this,<-M.o]at c
def Ff(c:Option Int):VL:=match c with
 |some s=>.tuple #[s,(0:Int)]
 |none=>.tuple #[(0:Int),(220:Int)]
def dH(v l)(cap need:Int)(w)(h:Ao w v l)(hl:l.length<=1000)(h1:1<=cap)(h2:cap<=4096)(hn:1<=need)(hk:ZZ cap l=true):
 Calls prog 55 #[v,cap,need] w (RK (Ff<|YR cap l need) w):=by
 have HC:=Qa<|Qak v l cap w h hl h1 h2 hk;have g0:¬need<1:=ox
 have⟨G,y⟩:=qx<|Ab cap 30<|JX l;have x6:G.length<=1001:=by rw[<-y,Oe];have:=dQ (JX l++[(max cap 30,0)]) 30;have:=(Ai l).length_eq;simp at*;omega
 have x2:YR cap l need=(G.find? fun x=>decide<|need<=x.2).map (·.1):=by unfold YR Fe;rw[Qg hk,y]
 have⟨R,hR⟩:=qx<|Ff<|YR cap l need;rw[hR];rw[x2]at hR;rw[y]at HC;have HR:=Qa hR;go_enter func55,ntmps55;go_wp2_with (go_fit HC.o;rintro e w1⟨v1,rfl,⟨a1,c1,rfl,x3,x7⟩,h9⟩);have⟨h8,x5⟩:=qb h9 x3;have⟨n,h5⟩:=qx G.length;rw[h5]at x6 ⊢;have HN:=Qa h5
 go_loopg [11,25] n (fun k x9 x8 wr=>(∃i:Nat,i<=n/\k=n-i/\x8=.int .i64 (i:Nat)/\Hid ((G.find? fun x=>decide<|need<=x.2)=(G.drop i).find? fun x=>decide<|need<=x.2))/\Hid (Qb [] w1 wr))
 ·exact⟨⟨0,ox,ox,rfl,Qa rfl⟩,Qa<|Qc _ _⟩
 obtain⟨⟨i,hi,hk,rfl,HF⟩,q⟩:=hrel
 by_cases hlt:i<n
 ·have q0:(i:Int)<n:=ox
  have⟨x,o⟩:=qy G i (yx HN.o);obtain⟨g,off,rfl,c0,c1⟩:=NZ (x5.o.kZ q.o) o;have h4:G.drop i=x::G.drop (i+1):=by
   have hl:=(Qy.1 o).1;rw[Xf hl]
   congr 1
   exact(Qy.1 o).2
  have hf:=HF.o;rw[h4]at hf;obtain⟨x0,x1⟩:=x;simp only[]at c0 c1
  by_cases b1:need<=x1
  ·rw[Ik<|by simpa using b1]at hf;have h3:=Qa (by rw[<-HR.o,hf];rfl:R=.tuple #[x0,(0:Int)])
   go_wp2
   go_ret2;exact⟨by rw[h3.o];rfl,h8.o.trans (q.o.alloc _) sx⟩
  rw[My<|by simpa using b1]at hf;have x4:=Qa hf
  go_wp2
  go_roundg (n-(i+1))
  ·exact⟨⟨i+1,ox,rfl,by go_num,x4⟩,Qa<|q.o.alloc _⟩
  omega
 obtain rfl:i=n:=ox
 have q0:¬(i:Int)<i:=ox
 have h3:=Qa (show R=.tuple #[(0:Int),(220:Int)]by
  have:=HF.o;rw[Jq (by rw[HN.o];exact Qk _)]at this;rw[<-HR.o,this];rfl)
 go_wp2
 go_ret2;exact⟨by rw[h3.o];rfl,h8.o.trans q.o sx⟩
end
