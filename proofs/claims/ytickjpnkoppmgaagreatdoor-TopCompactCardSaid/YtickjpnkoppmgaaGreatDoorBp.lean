import Derived.Test.YtickjpnkoppmgaaGreatDoorBo
set_option linter.all false
set_option maxHeartbeats 4000000
set_option maxRecDepth 20000
namespace Go.Proofs.YtickjpnkoppmgaaGreatDoor
open Go.Proofs.Tryz Go.RowKit K
def jO(a b):str a++str b=str (a++b):=by
 rw[←VY (str a++str b)]
 congr 1
def Qh1(n:Nat)(w)(a:n≤1000000):Calls prog 154 #[n] w fun e w'=>e=.returned ((n+511)/512*512:Nat)∧w'=w:=by
 have⟨a,b⟩:=qx<|(n+511)/512;have:((n:Int)+512-1).tdiv 512=(a:Int):=by rw[GG<|by omega];omega
 have:((n:Int)+512-1)/512=(a:Int):=by omega
 rw[b];have:a≤10000:=by omega
 go_enter func154,ntmps154
 go_wp2
 go_ret;exact⟨by congr 2,rfl⟩
def K.vZ(l:LU):l.length+AL l.length=(l.length+511)/512*512:=by have:=AM l;rwa[X9,Qo,VA]at this
def OL(p d:ByteArray)(a b kind w)(hk:kind=48∨kind=120)(hp:Uc p.data.toList=some (a,b))(f:0<p.size)(g:p.size≤1000000)(h0:(0:UInt8)∉p.data.toList)(hs:d.size≤300000):
 Calls prog 112 #[p,.int .u8 kind.toNat,d] w fun e w'=>e=.returned (.tuple #[str<|XL a b kind d.size++X9 d.data.toList,(0:Int)])∧Qb [] w w':=by
 have h:=Qa (fun c=>Qie p a b kind d.size c hk hp f g h0<|by omega);unfold RF at h;have j:=Qa (fun c=>Qh1 d.size c<|by omega);have f:=vZ d.data.toList;rw[Zo]at f;have⟨c,g⟩:=qx<|AL d.size;rw[g]at f;have:c<512:=by rw[←g];unfold AL;omega
 have⟨i,k⟩:=qx<|(d.size+511)/512*512;rw[k]at j f;have:(i:Int)-d.size=(c:Int):=by omega
 have l:str (XL a b kind d.size)++d++str (Ze c)=str (XL a b kind d.size++X9 d.data.toList):=by
  rw[←VY (_++_),X9,Zo,g]
  congr 1
  simp only[ByteArray.data_append,Le,QQ];rfl
 have i:=Qa l;have⟨f,hh⟩:=qx<|XL a b kind d.size;have m:f.length=512:=by rw[←hh];obtain⟨n,z2,z3,z4⟩:=OT hp h0;exact RE kind d.size z4 z3
 rw[hh]at h i ⊢;have:(str f).size=512:=m;have:(Ze c).length=c:=VA c;have:∀f:List UInt8,(str f).size=f.length:=fun _=>rfl
 obtain⟨n,z2⟩: ¬9223372036854775807<512+d.size∧¬9223372036854775807<512+d.size+c:=by omega
 go_enter func112,ntmps112;go_wp2_with (first
  |(go_at_call 153;refine(h.o _).mono ?_;rintro e n⟨rfl,f⟩)
  |(go_at_call 154;refine(j.o _).mono ?_;rintro e l⟨rfl,rfl⟩)
  |(at_make;refine YZ rfl _ _ 88 rfl 5 (.int .u8 0) 1 Xb YQ rfl .i64 .i64 _ _ c c rfl rfl rfl rfl (Ql _) (by omega) (by simp only[maxLen];omega) ?_;intro l k g;have:=Qh.text (l:=Ze c) (by rw[show Qm (Ze c)=List.replicate c (.int .u8 0)by simp[Qm,Ze]];exact k)))
 go_ret2;exact⟨by rw[←i.o];rfl,f.trans g<|by simp⟩
def aV{l:LU}(a:l.all Ck=true):(0:UInt8)∉l:=fun b=>by
 have:=XO.1 a 0 b
 revert this;decide
def vM(p d:ByteArray)(w)(s:JF w)(hp:Yp p.data.toList=true)(hs:d.size≤262144):
 Calls prog 79 #[.agg #[p,d]] w fun e w'=>e=.returned (.tuple #[str<|JQ p.data.toList d.size++X9 d.data.toList,(0:Int)])∧Qb [] w w':=by
 obtain⟨r,a,a⟩:=YK hp;have h0:=aV r;have C:=Zo p;have q:=Qa (fun a=>FE p a<|by omega);rw[show Un p.data.toList=0 by unfold Un;rw[hp];rfl]at q;have m:=Qa (fun a=>jE p a<|by omega);have:¬(262144:Int)<d.size:=by omega
 cases hsp:Uc p.data.toList with
 |some ab=>
  obtain⟨b,c⟩:=ab;have j:Rm p.data.toList=.tuple #[str b,str c,.bool true]:=by unfold Rm;rw[hsp]
  have l:=Qa (by unfold JQ;rw[hsp]:JQ p.data.toList d.size=XL b c 48 d.size);have n:=Qa (fun a=>OL p d b c 48 a (.inl rfl) hsp (by omega) (by omega) h0<|by omega);rw[j]at m;have k:=Qa<|Qy w [p,d] 63;go_enter func79,ntmps79;go_wp2_with (first
   |(go_at_call 17;refine(q.o _).mono ?_;rintro e G⟨rfl,c⟩;have b:=k.o.kept c (by simp);have c0:=b.cell (i:=0) (u:=.string p) rfl;have c1:=b.cell (i:=1) (u:=.string d) rfl)
   |(go_at_call 111;refine(m.o _).mono ?_;rintro e t⟨rfl,f⟩;have g:=b.kept f (by simp);have y:=g.cell (i:=0) (u:=.string p) rfl;have z:=g.cell (i:=1) (u:=.string d) rfl)
   |(go_at_call 112;refine(n.o _).mono ?_;rintro e o⟨rfl,h⟩))
  go_ret2;exact⟨by rw[l.o];rfl,((((Qc [] w).alloc _).trans c<|by simp).trans f<|by simp).trans h<|by simp⟩
 |none=>
  have j:Rm p.data.toList=.tuple #[.string ⟨#[]⟩,.string ⟨#[]⟩,.bool false]:=by unfold Rm;rw[hsp]
  have:100<p.size:=by
   rcases Xq 100 p.size with n|n
   ·exact n
   rw[Uc,Qg<|by omega]at hsp;cases hsp
  rw[j]at m;have B:=Qa (fun o a (v:Qe a o 172 [.string ⟨#[112,97,116,104]⟩,p])(hk:Qb [] w a)=>Qei o p.data.toList a (by rwa[VY]) (s.kZ hk) (by omega)<|by omega);have D:=Gi p.data.toList;have A:(str<|ZY p.data.toList).size=p.size+10:=by show(ZY _).length=_;omega
  have v:=Qa (fun a=>OL ⟨#[112,97,120]⟩ (str<|ZY p.data.toList) [] [112,97,120] 120 a (.inr rfl) (by rfl) (by decide) (by decide) (by decide)<|by omega);have E:=KM (p:=p.data.toList.take 100) (a:=[]) (b:=p.data.toList.take 100);have o:(p.extract 0 100).data.toList=p.data.toList.take 100:=by rw[vQ,VD]
  have F:(p.extract 0 100).size=100:=by rw[←Zo,o,Zl];omega
  have x:=Qa (fun a=>OL (p.extract 0 100) d [] (p.data.toList.take 100) 48 a (.inl rfl) (by rw[o,Uc,Qg (by rw[Zl];omega)]) (by omega) (by omega) (by rw[o];exact fun n=>h0<|VE n)<|by omega);have l:=Qa (show JQ p.data.toList d.size++X9 d.data.toList=(XL [] [112,97,120] 120 (p.size+10)++X9 (ZY p.data.toList))++(XL [] (p.data.toList.take 100) 48 d.size++X9 d.data.toList)by
   unfold JQ;rw[hsp,C];simp only[QQ])
  have:=CA p 100 100 (by omega) rfl;have n:=Qa (show(XL [] [112,97,120] 120 (p.size+10)++X9 (ZY p.data.toList)).length≤1000000∧(XL [] (p.data.toList.take 100) 48 d.size++X9 d.data.toList).length≤1000000 by rw[Qo,Qo,RE _ _ (by decide)<|by decide,RE _ _ (by rw[Zl];omega)<|by decide,AM,AM,Zo];omega);rw[A]at v;have k:=Qa<|Qy w [p,d] 63;go_enter func79,ntmps79;go_wp2_with (first
   |(go_at_call 17;refine(q.o _).mono ?_;rintro e G⟨rfl,c⟩;have b:=k.o.kept c (by simp);have c0:=b.cell (i:=0) (u:=.string p) rfl;have c1:=b.cell (i:=1) (u:=.string d) rfl)
   |(go_at_call 111;refine(m.o _).mono ?_;rintro e t⟨rfl,f⟩;have g:=b.kept f (by simp);have y:=g.cell (i:=0) (u:=.string p) rfl;have z:=g.cell (i:=1) (u:=.string d) rfl))
  have h:=(((Qc [] w).alloc _).trans c<|by simp).trans f (by simp);refine(B.o t.heap.size _ (Qy t [.string ⟨#[112,97,116,104]⟩,p] 172)<|h.alloc _).mono ?_;rintro e a⟨rfl,j⟩;have a:=(h.alloc _).trans j (by simp);have m:=k.o.kept (((((Qc [] _).trans c<|by simp).trans f<|by simp).alloc _).trans j<|by simp) (by simp);have⟨o,k⟩:=qb a m;go_wp2_with fail;refine(v.o _).mono ?_;rintro e b⟨rfl,a⟩;have c:=k.o.kept a (by simp);have c0:=c.cell (i:=0) (u:=.string p) rfl;have c1:=c.cell (i:=1) (u:=.string d) rfl;have b:=Qa (o.o.trans a<|by simp);have:∀a:List UInt8,(str a).size=a.length:=fun _=>rfl
  have⟨a,f⟩:=qx<|XL [] [112,97,120] 120 (p.size+10)++X9 (ZY p.data.toList);have⟨c,g⟩:=qx<|XL [] (p.data.toList.take 100) 48 d.size++X9 d.data.toList;rw[f,g]at l n;have:¬9223372036854775807<a.length+c.length:=by have:=n.o;omega
  rw[show(str<|ZY p.data.toList).data.toList=ZY p.data.toList from rfl,f];rw[g]at x;go_wp2_with fail
  go_region_with (go_at_call 112;refine(x.o _).mono ?_;rintro e c⟨rfl,a⟩)
  all_goals
   go_wp2
   go_ret2;refine⟨by rw[l.o,←jO];rfl,?_⟩
   first|exact b.o.trans a (by simp)|exact b.o.drew.trans a (by simp)|exact(b.o.trans a<|by simp).drew|exact(b.o.drew.trans a<|by simp).drew
def iQ(d:ByteArray)(w)(hs:d.size≤1000000):Calls prog 81 #[d] w fun e w'=>e=.returned (str<|X9 d.data.toList)∧Qb [] w w':=by
 have⟨a,c⟩:=qx<|AL d.size;have:a<512:=by rw[←c];unfold AL;omega
 have⟨b,g⟩:=qx<|d.size%512;have:b<512:=by omega
 have:((d.size:Nat):Int).tmod 512=(b:Int):=by rw[BU<|by omega];omega
 have:((d.size:Nat):Int)%512=(b:Int):=by omega
 have:((512:Int)-b).tmod 512=(a:Int):=by rw[BU<|by omega,←c];unfold AL;omega
 have:((512:Int)-b)%512=(a:Int):=by rw[←c];unfold AL;omega
 have b:=Qa fun f=>Tryz.strRep ⟨#[0]⟩ a f (by omega) (by show 1*a≤_;omega);rw[show(⟨#[0]⟩:ByteArray).data.toList=[0]from rfl,Oy]at b;have:(Ze a).length=a:=VA a;have:¬9223372036854775807<d.size+a:=by omega
 have f:=Qa (show d++str (Ze a)=str (X9 d.data.toList)by
  rw[←VY (_++_),X9,Zo,c]
  congr 1)
 go_enter func81,ntmps81;go_wp2_with (go_at_call 124;refine(b.o _).mono ?_;rintro e c⟨rfl,a⟩);go_ret;exact⟨by rw[←f.o];rfl,Qb.of_below a⟩
def dH(p d:BA)(w)(v:JF w)(hp:Yp p=true)(hs:d.size≤8192):
 Calls prog 40 #[p,d] w fun e w'=>e=.returned (.tuple #[str<|X1 (p.data.toList,d.data.toList),(0:Int)])∧Qb [] w w':=by
 have⟨j,u,o⟩:=qc (vM p d w v hp<|by omega) (fun c=>Qc7 d c hs) (fun c=>iQ d c<|by omega);have t:=Oj d;have x:=Ub<|XB d;have s:=Ng p d.size (YK hp).2.2;have k:=Qa (by unfold X1;rw[Zo]:X1 (p.data.toList,d.data.toList)=JQ p d.size++X9 (Qv<|XB d));have t:=t (by rwa[Zo]);have⟨f,hh⟩:=qx<|JQ p d.size;have⟨h,hf⟩:=qx<|X9 d;have⟨a,hk⟩:=qx<|Qv<|XB d;rw[hh]at s j k;rw[hf]at j o;rw[hk]at x k u;have q:=Qa fun c=>iQ (str a) c (by show a.length≤_;omega);rw[show(str a).data.toList=a from rfl]at q;have⟨g,r⟩:=qx<|X9 a;rw[r]at q k;have:∀a:LU,(str a).size=a.length:=fun _=>rfl
 have⟨b,m⟩:=qx<|str<|f++h;have⟨i,l⟩:=qx<|str h;have⟨a,n⟩:=qx f.length;have y:b.size=a+i.size:=by rw[←m,←l,←n];show(f++h).length=_;rw[Qo];rfl
 obtain⟨_,_,_⟩:(b.size:Int)-i.size=(a:Int)∧a≤b.size∧(a:Int)≤b.size:=by omega
 have z:=CA b a (a:Int) (by omega) rfl;rw[Uo b 0 a<|by omega,VD,Br,show b.data.toList=f++h by rw[←m];rfl,←n,CQ,n]at z;rw[m]at j;rw[l]at o;rw[n]at s;have:a≤2000:=by omega
 have:i.size≤20000:=by rw[←l,←hf];show(X9 _).length≤_;rw[AM,Zo];omega
 have:b.size≤30000:=by omega
 have:IntKind.i64.wrap (a:Int)=a:=by rw[Zz];omega
 have:g.length≤100000:=by rw[←r,AM];omega
 obtain⟨_,_⟩: ¬9223372036854775807<a+g.length∧¬(8192:Int)<d.size:=by omega
 go_enter func40,ntmps40;go_wp2_with (first
  |(go_at_call 79;refine j.o.mono ?_;rintro e a⟨rfl,b⟩)
  |(go_at_call 80;refine(u.o _).mono ?_;rintro e i⟨rfl,h⟩))
 have:∀c:WD,(Op.stringOp .add (str f)<|str g).run prog c=.ok (.string<|str f++str g) c:=fun c=>run_string_add_sum _ _ _ (by show f.length+g.length≤_;omega)
 have a:=b.trans h (by simp)
 go_region_with (go_at_call 81;first
  |(with_reducible refine(o.o _).mono ?_;rintro e c⟨rfl,b⟩;first|replace a:=a.trans b (by simp)|replace a:=a.drew.trans b<|by simp)
  |(with_reducible refine(q.o _).mono ?_;rintro e c⟨rfl,b⟩;first|replace a:=a.trans b (by simp)|replace a:=a.drew.trans b<|by simp))
 all_goals
  go_wp2
  go_ret2;refine⟨by rw[k.o,←jO];rfl,?_⟩
  first|exact a|exact a.drew
section
open Go.Sort Go.Shelf
namespace K
def Ag:Int→List QN→List QN
 |_,[]=>[]
 |f,x::r=>(if f<x.1 then [(f,x.1-f)]else [])++Ag (x.1+x.2) r
def Na(cap):∀(l:List QN)(f:Int),RC cap f l=Ag f (l++[(max cap 30,0)])
 | [],f=>by simp[RC,Ag]
 |x::r,f=>by rw[RC,Yf,Ag,Na cap r]
def aM:∀(l:List QN)(f:Int),(Ag f l).length≤l.length
 | [],f=>ZF _
 |x::r,f=>by
  have:=aM r<|x.1+x.2;rw[Ag,Qo,Q0]
  split<;>simp<;>omega
end K
def mO(b:List QN)(w:WD)(e:Ending)(w':WD):Prop:=∃a,e=.returned (.tuple #[a,(0:Int)])∧RS w' a b∧Qb [] w w'
def wX(v l cap w)(i:RS w v l)(z:l.length≤1000)(a:1≤cap)(b:cap≤4096)(hk:ZX cap l=true):
 Calls prog 90 #[v,cap] w (mO (RC cap 30<|Jy l) w):=by
 have f:=KK v l cap w i (by omega) a b;rw[hk]at f;have q:=Qa f;have⟨a,e⟩:=qx<|Jy l;have h:a.length=l.length:=by rw[←e];exact(RK l).length_eq
 have j:∀c∈a++[(max cap 30,0)],30≤c.1∧0≤c.2∧c.1+c.2≤4096:=fun c g=>by
  rcases Q6.1 g with g|g
  ·have:=((YD _ _).1 hk).1 c ((RK l).mem_iff.1<|e▸g);unfold K.inX at this;omega
  rw[Za.1 g];simp only[];omega
 have o:RC cap 30 (Jy l)=Ag 30 (a++[(max cap 30,0)]):=by rw[e,Na]
 rw[o];have n:∀d,Qb [] w d→Calls prog 107 #[v] d (DH a d):=fun d b=>by obtain⟨k,m,p,r,s⟩:=i;rw[←e];exact iZ v l d ⟨k,m,p,r.kZ b,s⟩ (by omega)
 have⟨x,m,k⟩:=qc n j h;clear i hk f e h o n j;go_enter func90,ntmps90;have o:a.length+1≤maxLen:=by have:=k.o;simp only[maxLen];omega
 have p:(a.length+1)*16≤140737488355328:=by have:=k.o;omega
 go_wp2_with (first
  |(go_at_call 72;refine q.o.mono ?_;rintro r d⟨rfl,b⟩)
  |(go_at_call 107;refine(x.o _ b).mono ?_;rintro r e⟨v2,rfl,A,t,s⟩)
  |(at_builtin;refine RO e rfl _ _ 106 rfl 109 (.agg #[(0:Int),(0:Int)]) 2 16 R9 Bt rfl (by decide) v2 a.length (Qx Q4 a) (Q4 (max cap 30,0)) rfl rfl rfl rfl (Ep _) A o p ?_;intro g3 c3 n C y H))
 have⟨d,e⟩:=qx<|a++[(max cap 30,(0:Int))];have⟨f,h⟩:=qx<|a.length+1;have B:Qn n 109 2 (.slice g3 f c3) f (Qx Q4 d):=by
  have:Qx Q4 d=Qx Q4 a++Q4 (max cap 30,0):=by rw[←e];simp[Qx]
  rw[this,←h];exact C
 have q:d.length=f:=by rw[←e,←h];simp
 have j:=m.o;rw[e]at j ⊢;rw[h,show((a.length:Int)+1)=(f:Int)by omega];have⟨F,G,E,x,D⟩:=qe j e B q<|(b.trans t<|by simp).trans y fun c g=>.inr (by have:=s c g;have:=b.size;omega);have:f≤2000:=by have:=k.o;omega
 clear C b t y H A s B q j e h m o p
 go_loopg [7,8,10,25] f (fun h k o a j wr=>(∃(a:Nat)(b:Int)(e:List QN)(m:VL),a≤f∧h=f-a∧m=k∧o=.int .i64 b∧j=.int .i64 (a:Nat)∧0≤b∧b≤4096∧Hid (Ag 30 d=e++Ag b (d.drop a)∧e.length≤a)∧
  Hid (Qn wr 109 2 m e.length<|Qx Q4 e)∧Hid (∀c∈Qd m,n.heap.size≤c))∧Hid (Qb [] n wr))
 ·exact⟨⟨0,30,[],_,by omega,by omega,rfl,rfl,rfl,by omega,by omega,Qa ⟨rfl,Ql _⟩,Qa<|Qn.nil _ _ _,Qa<|by simp[Qd,qo]⟩,Qa<|Qc _ _⟩
 obtain⟨⟨a,b,e,m,hi,hk,rfl,rfl,rfl,h,h,j,n,p⟩,k⟩:=hrel
 by_cases hlt:a<f
 ·have A:(a:Int)<f:=by omega
  have⟨c,g⟩:=qy d a (by have:=x.o;omega);have q:=E.o.kept k.o<|ZM _;have c0:=q.aZ (by rw[Va IL d a 0 c g<|by decide];rfl:(Qx Q4 d)[a*2+0]?=some (.int .i64 c.1));have c1:=q.aZ (by rw[Va IL d a 1 c g<|by decide];rfl:(Qx Q4 d)[a*2+1]?=some (.int .i64 c.2));rw[Jb]at c0;have s:=F.o c<|QA g;have y:d.drop a=c::d.drop (a+1):=by
   have z:=(Qz.1 g).1;rw[Z8 z]
   congr 1
   exact(Qz.1 g).2
  have o:=j.o.1;rw[y,Ag]at o;have t:=Qa o;obtain⟨d,h⟩:=c;simp only[]at c0 c1 s;have v2:IntKind.i64.wrap (d+h)=d+h:=by rw[Zz];omega
  have c:=Qa s;clear o y g q s
  by_cases q:b<d
  ·have:IntKind.i64.wrap (d-b)=d-b:=(by have:=c.o;rw[Zz];omega);have y:e.length+1≤maxLen:=(by have:=j.o.2;simp only[maxLen];omega);have z:(e.length+1)*16≤140737488355328:=(by have:=j.o.2;omega);have o:=Qa q;go_wp2_with (at_builtin;(refine RO (wr.alloc<|.cells #[d,h] 109) rfl _ _ 106 rfl 109 (.agg #[(0:Int),(0:Int)]) 2 16 R9 Bt rfl (by decide) m e.length (Qx Q4 e) (Q4 (b,d-b)) rfl (by rw[Vo];rfl) rfl rfl (Ep _) (World.ownsRow.alloc n.o _) y z ?_;intro J F L E s B;have g:=(Qy wr [d,h] 109).kept s (fun C=>by have:=n.o.lt _ C;omega);have:=g.cell (i:=0) (u:=.int .i64 d) rfl;have:=g.cell (i:=1) (u:=.int .i64 h) rfl))
   go_roundg (f-(a+1))
   case measure=>omega
   refine⟨⟨a+1,d+h,e++[(b,d-b)],_,by omega,rfl,rfl,rfl,by go_num,by have:=c.o;omega,c.o.2.2,Qa ⟨?_,?_⟩,Qa ?_,Qa ?_⟩,Qa ?_⟩
   ·have:=t.o;rw[Qg<|show b<(d,h).1 from o.o]at this;rw[this,QQ]
   ·have:=j.o.2;simp;omega
   ·have r:Qx Q4 (e++[(b,d-b)])=Qx Q4 e++Q4 (b,d-b):=(by simp[Qx]);rw[r,show(e++[(b,d-b)]).length=e.length+1 by simp];exact E
   ·intro m g;simp[Qd,qo]at g;subst g;have:=k.o.size;rcases B with i|i
    ·exact p.o _ i
    simp at i;omega
   exact(k.o.alloc _).trans s fun m g=>.inr<|p.o m g
  have o:=Qa q;have:¬b<d:=q
  go_wp2
  go_roundg (f-(a+1))
  ·refine⟨⟨a+1,d+h,e,_,by omega,rfl,rfl,rfl,by go_num,by have:=c.o;omega,c.o.2.2,Qa ⟨?_,?_⟩,Qa<|n.o.kept ((Qc [] wr).alloc _)<|ZM _,p⟩,Qa<|k.o.alloc _⟩
   ·have:=t.o;rw[Qf (by have:=o.o;simp only[];omega: ¬b<(d,h).1),Yy]at this;exact this
   have:=j.o.2;omega
  omega
 obtain rfl:a=f:=by omega
 have A:¬(a:Int)<a:=by omega
 go_wp2
 go_ret2;refine⟨_,rfl,?_,D.o.trans k.o<|by simp⟩;have:=j.o.1;rw[JI (by rw[x.o];exact Ql _),Ag,XH]at this;have a:=n.o.exA;rwa[←this,←G.o]at a
def Es(a:Option Int):VL:=match a with
 |some s=>.tuple #[s,(0:Int)]
 |none=>.tuple #[(0:Int),(220:Int)]
def aB(v l)(cap need:Int)(w)(h:RS w v l)(hl:l.length≤1000)(h1:1≤cap)(h2:cap≤4096)(hn:1≤need)(hk:ZX cap l=true):
 Calls prog 55 #[v,cap,need] w fun e w'=>e=.returned (Es<|Y5 cap l need)∧Qb [] w w':=by
 have HC:=Qa<|wX v l cap w h hl h1 h2 hk;have g0:¬need<1:=by omega
 have⟨G,y⟩:=qx<|RC cap 30<|Jy l;have x6:G.length≤1001:=by rw[←y,Na];have:=aM (Jy l++[(max cap 30,0)]) 30;have:=(RK l).length_eq;simp at*;omega
 have x2:Y5 cap l need=(G.find? fun x=>decide<|need≤x.2).map (·.1):=by unfold Y5 Er;rw[Qg hk,y]
 have⟨R,hR⟩:=qx<|Es<|Y5 cap l need;rw[hR];rw[x2]at hR;rw[y]at HC;have HR:=Qa hR;go_enter func55,ntmps55;go_wp2_with (go_at_call 90;refine HC.o.mono ?_;rintro e w1⟨v1,rfl,⟨a1,c1,rfl,x3,x7⟩,h9⟩);have⟨h8,x5⟩:=qb h9 x3;have⟨n,h5⟩:=qx G.length;rw[h5]at x6 ⊢;have HN:=Qa h5
 go_loopg [11,25] n (fun k x9 x8 wr=>(∃i:Nat,i≤n∧k=n-i∧x8=.int .i64 (i:Nat)∧Hid ((G.find? fun x=>decide<|need≤x.2)=(G.drop i).find? fun x=>decide<|need≤x.2))∧Hid (Qb [] w1 wr))
 ·exact⟨⟨0,by omega,by omega,rfl,Qa rfl⟩,Qa<|Qc _ _⟩
 obtain⟨⟨i,hi,hk,rfl,HF⟩,q⟩:=hrel
 by_cases hlt:i<n
 ·have q0:(i:Int)<n:=by omega
  have⟨x,o⟩:=qy G i (by have:=HN.o;omega);obtain⟨g,off,rfl,c0,c1⟩:=MU (x5.o.kZ q.o) o;have h4:G.drop i=x::G.drop (i+1):=by
   have hl:=(Qz.1 o).1;rw[Z8 hl]
   congr 1
   exact(Qz.1 o).2
  have hf:=HF.o;rw[h4]at hf;obtain⟨x0,x1⟩:=x;simp only[]at c0 c1
  by_cases b1:need≤x1
  ·rw[GM<|by simpa using b1]at hf;have h3:=Qa (by rw[←HR.o,hf];rfl:R=.tuple #[x0,(0:Int)])
   go_wp2
   go_ret2;exact⟨by rw[h3.o];rfl,h8.o.trans (q.o.alloc _)<|by simp⟩
  rw[Lp<|by simpa using b1]at hf;have x4:=Qa hf
  go_wp2
  go_roundg (n-(i+1))
  ·exact⟨⟨i+1,by omega,rfl,by go_num,x4⟩,Qa<|q.o.alloc _⟩
  omega
 obtain rfl:i=n:=by omega
 have q0:¬(i:Int)<i:=by omega
 have h3:=Qa (show R=.tuple #[(0:Int),(220:Int)]by
  have:=HF.o;rw[JI (by rw[HN.o];exact Ql _)]at this;rw[←HR.o,this];rfl)
 go_wp2
 go_ret2;exact⟨by rw[h3.o];rfl,h8.o.trans q.o<|by simp⟩
end
