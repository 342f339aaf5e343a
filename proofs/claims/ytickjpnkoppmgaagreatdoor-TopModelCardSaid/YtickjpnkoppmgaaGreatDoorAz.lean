import Derived.ProofKit
import Derived.OpenShut
import Derived.ShutString
import Derived.ChangeOld
import Derived.SizedLaws
import Derived.Lib.SmallJoins
import Derived.Deep.Slices
import Derived.Lib.Split
import Derived.Shelf.SlSortCmp.Insertion
import Derived.Lib.Join
import Derived.RangeFuncNested
import Derived.RangeFuncBound
import Derived.RangeFuncCalls
import Derived.RangeFuncLeaves
import Derived.Test.YtickjpnkoppmgaaGreatDoorAf
set_option linter.all false
namespace Go.Proofs.YtickjpnkoppmgaaGreatDoor
open Go.Proofs.Tryz Go.RowKit K
section
open Go.ChangeShapes Go.WideShapes Go.ChangeAt Go.Deep
def own:ownKnob prog.godebug=none:=by kernel_rfl
def Qcy:laidOutB prog=true:=by kernel_rfl
def kI{x}(h:(Lit.int .i64 x).wf=true): -9223372036854775808<=x/\x<=9223372036854775807:=by simp[Lit.wf,IntKind.min,IntKind.max,IntKind.signed,IntKind.bits]at h;omega
def dJ{α:Type}(f:α->LV)(size)(hf:∀x,(f x).length=size):∀(xs:List α)(i r:Nat),r<size->(xs.flatMap f)[i*size+r]?=(xs[i]?).bind fun x=>(f x)[r]?
 | [],i,r,_=>by simp
 |x::xs,0,r,hr=>by rw[Jd,Xc (by rw[hf];omega)];simp
 |x::xs,i+1,r,hr=>by rw[Jd,Zm (by rw[hf,DG];omega),hf,show(i+1)*size+r-size=i*size+r by rw[DG];omega,dJ f size hf xs i r hr];simp
def Qac{α:Type}(f:α->LV)(size)(hf:∀x,(f x).length=size)(xs:List α):(xs.flatMap f).length=xs.length*size:=by
 induction xs with
 |nil=>simp
 |cons x xs ih=>rw[Jd,Qo,ih,hf,QW,DG];omega
end
namespace K
abbrev QP:=Int × Int
def UQ(a b:QP):Prop:=a.1<b.1\/(a.1=b.1/\a.2<b.2)
instance (a b:QP):Decidable (UQ a b):=inferInstanceAs (Decidable (_\/_))
def GL(a b:QP):Bool:=!decide (UQ b a)
def JX(l:List QP):List QP:=l.mergeSort GL
def OI{a b:QP}:GL a b=true↔¬UQ b a:=by simp[GL]
def mD(l):(JX l).Pairwise fun a b=>¬UQ b a:=by have c:=MF (le:=GL) (fun a b d d d=>by rw[OI]at*;unfold UQ at*;omega) (fun a b=>by simp only[FK,OI];unfold UQ;omega) l;exact c.imp fun c=>OI.1 c
def Ai(l):(JX l).Perm l:=ME l GL
def Qi1{l l'}(hp:l'.Perm l)(hs:l'.Pairwise fun a b=>¬UQ b a):l'=JX l:=
 Ig (le:=fun a b=>¬UQ b a) (fun a b _ _ c c=>by unfold UQ at*;exact Prod.ext ox ox) hs (mD l) (hp.trans (Ai l).symm)
def AE(cap:Int):Int->List QP->Bool
 |_,[]=>true
 |f,x::r=>if x.1<f\/x.2<1\/cap<x.1\/cap-x.1<x.2 then false else AE cap (x.1+x.2) r
def ZZ(cap:Int)(l:List QP):Bool:=AE cap 30 (JX l)
def Ab(cap:Int):Int->List QP->List QP
 |f,[]=>if f<max cap 30 then [(f,max cap 30-f)]else []
 |f,x::r=>(if f<x.1 then [(f,x.1-f)]else [])++Ab cap (x.1+x.2) r
def Fe(cap need f:Int)(l:List QP):Option QP:=(Ab cap f l).find? fun c=>decide (need<=c.2)
def YR(cap:Int)(l:List QP)(need:Int):Option Int:=if ZZ cap l then(Fe cap need 30 (JX l)).map (·.1)else none
def UJ(a b:QP):Prop:=a.1+a.2<=b.1\/b.1+b.2<=a.1
def inX(cap:Int)(x:QP):Prop:=30<=x.1/\1<=x.2/\x.1+x.2<=cap
def NJ(cap):∀(l:List QP)(f:Int),AE cap f l=true↔(∀x∈l,f<=x.1/\1<=x.2/\x.1+x.2<=cap)/\l.Pairwise fun a b=>a.1+a.2<=b.1
 | [],f=>by simp[AE]
 |x::r,f=>by
  rw[AE]
  split
  ·rename_i h;refine⟨fun h=>by simp at h,fun⟨o,_⟩=>?_⟩;have:=o x<|Yv ..;omega
  rename_i h;rw[NJ cap r,Vo];constructor
  ·rintro⟨o,h2⟩;refine⟨fun y q=>?_,fun y q=>(o y q).1,h2⟩;rcases QD.1 q with e|e
   ·subst e;omega
   have:=o y e;omega
  rintro⟨o,h2,h3⟩;exact⟨fun y q=>⟨h2 y q,(o y<|XO _ q).2⟩,h3⟩
def YL(cap l):ZZ cap l=true↔(∀x∈l,inX cap x)/\l.Pairwise UJ:=by
 unfold ZZ;rw[NJ];have hp:=Ai l;have hs:=mD l;have d:∀{a b:QP},UJ a b->UJ b a:=fun c=>c.symm
 rw[<-hp.pairwise_iff d];constructor
 ·rintro⟨d,e⟩;exact⟨fun x g=>d x<|hp.mem_iff.2 g,e.imp fun c=>.inl c⟩
 rintro⟨d,e⟩;refine⟨fun x g=>d x<|hp.mem_iff.1 g,?_⟩;refine(List.pairwise_and_iff.2 ⟨hs,e⟩).imp_of_mem fun {a b} ha hb ⟨h3,h4⟩=>?_
 have ha:=d a<|hp.mem_iff.1 ha;have hb:=d b<|hp.mem_iff.1 hb;unfold UQ at h3;unfold inX at ha hb;rcases h4 with c|c<;>omega
def UA(l:List QP)(t need:Int):Prop:=∀c∈l,t+need<=c.1\/c.1+c.2<=t
def Od(cap need)(hn:1<=need)(hc:30<=cap):∀(l:List QP)(f:Int),AE cap f l=true->
 (∀g,Fe cap need f l=some g->f<=g.1/\g.1+need<=cap/\UA l g.1 need/\∀t,f<=t->t<g.1->¬UA l t need)/\
 (Fe cap need f l=none->∀t,f<=t->t+need<=cap->¬UA l t need)
 | [],f,_=>by
   unfold Fe Ab;rw[Int.max_eq_left hc];refine⟨fun g o=>?_,fun h t h1 q=>?_⟩
   ·split at o
    ·rename_i hf
     by_cases h:need<=cap-f
     ·rw[Ik<|by simpa using h]at o;injection o with o;subst o;exact⟨AZ _,zx,by simp[UA],fun t h1 q=>by simp at q;omega⟩
     rw[My<|by simpa using h]at o;cases o
    cases o
   intro _
   split at h
   ·rw[Ik zx]at h;cases h
   omega
 |x::r,f,h=>by
  have hq:=h;rw[AE]at h
  split at h
  ·cases h
  rename_i hx;obtain⟨h1,q⟩:=Od cap need hn hc r (x.1+x.2) h;have x0:=(NJ cap r _).1 h;simp only[Fe]at h1 q ⊢;rw[Ab]
  by_cases hf:f<x.1/\need<=x.1-f
  ·rw[Qg hf.1,Iq,Ik<|by simpa using hf.2];refine⟨fun g o=>?_,fun h=>by cases h⟩;injection o with o;subst o;refine⟨AZ _,zx,fun y hy=>?_,fun t h1 q=>by simp at q;omega⟩;rcases QD.1 hy with e|e
   ·subst e;simp;omega
   have:=x0.1 y e;simp;omega
  have x1:((if f<x.1 then [(f,x.1-f)]else [])++Ab cap (x.1+x.2) r).find? (fun x=>decide<|need<=x.2)=(Ab cap (x.1+x.2) r).find? (fun x=>decide<|need<=x.2):=by
   split
   ·rw[Iq,My zx]
   rfl
  rw[x1];have h8:∀t,f<=t->t<x.1+x.2->¬UA (x::r) t need:=fun t h3 h4 h5=>by have:=h5 x<|Yv ..;omega
  have h9:∀t,¬UA r t need->¬UA (x::r) t need:=fun t h3 h4=>h3 fun y hy=>h4 y<|XO _ hy
  refine⟨fun g o=>?_,fun o t h3 h4=>?_⟩
  ·obtain⟨a,b,c,d⟩:=h1 g o;refine⟨ox,b,fun y hy=>?_,fun t h3 h4=>?_⟩
   ·rcases QD.1 hy with e|e
    ·subst e;omega
    exact c y e
   by_cases h5:t<x.1+x.2
   ·exact h8 t h3 h5
   exact h9 t<|d t ox h4
  by_cases h5:t<x.1+x.2
  ·exact h8 t h3 h5
  exact h9 t<|q o t ox h4
def GD{cap need g l}(hn:1<=need)(hc:30<=cap)(h:YR cap l need=some g):
 ZZ cap l=true/\30<=g/\g+need<=cap/\UA l g need/\∀t,30<=t->t<g->¬UA l t need:=by
 unfold YR at h
 split at h
 ·rename_i hk;obtain⟨x,hx,e⟩:=TC.1 h;subst e;obtain⟨a,b,c,d⟩:=(Od cap need hn hc _ 30 hk).1 x hx;have hp:=fun t=>show UA (JX l) t need↔UA l t need from⟨fun h y o=>h y<|(Ai l).mem_iff.2 o,fun h y o=>h y<|(Ai l).mem_iff.1 o⟩
  exact⟨hk,a,b,(hp _).1 c,fun t q h2 h3=>d t q h2<|(hp t).2 h3⟩
 cases h
def dF{cap need l}(i:1<=need)(g:30<=cap)(hk:ZZ cap l=true)(h:YR cap l need=none):∀t,30<=t->t+need<=cap->¬UA l t need:=by
 unfold YR at h;rw[Qg hk]at h;have h:=Option.map_eq_none_iff.1 h;have hp:=fun t=>show UA (JX l) t need↔UA l t need from⟨fun h d c=>h d<|(Ai l).mem_iff.2 c,fun h d c=>h d<|(Ai l).mem_iff.1 c⟩
 exact fun t c d e=>(Od cap need i g _ 30 hk).2 h t c d ((hp t).2 e)
end K
namespace K
def Q3(n:Nat):LU:=List.replicate n 0
def VY(n):(Q3 n).length=n:=As
def VD:Nat->Nat->LU
 |0,_=>[]
 |k+1,n=>UInt8.ofNat (48+n/8^k%8)::VD k n
def GX:∀k n,(VD k n).length=k
 |0,_=>rfl
 |k+1,n=>by rw[VD,QW,GX k]
def Zg(n w:Nat):LU:=VD (w-1) n++[0]
def OE(b:UInt8):Bool:=decide (48<=b.toNat)&&decide (b.toNat<=55)
def jB:∀k n,(VD k n).all OE=true
 |0,_=>rfl
 |k+1,n=>by
  rw[VD,List.all_cons,jB k n,Bool.and_true];have:n/8^k%8<8:=J8 _ dx;have c:(UInt8.ofNat<|48+n/8^k%8).toNat=48+n/8^k%8:=by rw[U6,XH ox]
  simp only[OE,c];simp;omega
def VH(v:Nat)(l:LU):Nat:=l.foldl (fun v b=>8*v+(b.toNat-48)) v
def oN:∀k n v,VH v (VD k n)=v*8^k+n%8^k
 |0,n,v=>by simp[VH,VD,Nat.mod_one]
 |k+1,n,v=>by
  have:n/8^k%8<8:=J8 _ dx;have d:(UInt8.ofNat<|48+n/8^k%8).toNat=48+n/8^k%8:=by rw[U6,XH ox]
  have c:=oN k n<|8*v+n/8^k%8;unfold VH at c ⊢;rw[VD,CB,d,(ox:48+n/8^k%8-48=n/8^k%8),c,J9,Nat.mod_mul,V5];rw[show 8*v*8^k=v*(8^k*8)by rw[V6 8 v,FZ,V6 8],V6<|n/8^k%8];omega
def Zt(s:LU)(w:Nat):LU:=s++Q3 (w-s.length)
def Ct(s w)(h:s.length<=w):(Zt s w).length=w:=by rw[Zt,Qo,VY];omega
def Cl(n w)(h:1<=w):(Zg n w).length=w:=by rw[Zg,Qo,GX];simp;omega
def Vl(l:LU):Nat->Nat
 |0=>0
 |i+1=>Vl l i+if 148<=i/\i<156 then 32 else(l.getD i 0).toNat
def Mb(l):∀i,Vl l i<=255*i
 |0=>by simp[Vl]
 |i+1=>by have:=Mb l i;have:(l.getD i 0).toNat<256:=(l.getD i 0).toNat_lt;rw[Vl];split<;>omega
def mX{a b}(h:∀i,¬(148<=i/\i<156)->a.getD i 0=b.getD i 0):∀i,Vl a i=Vl b i
 |0=>rfl
 |i+1=>by
  rw[Vl,Vl,mX h i]
  split
  ·rfl
  rename_i o;rw[h i o]
def Dm(p:LU):Nat->Nat->Option (LU × LU)
 |0,_=>none
 |k+1,i=>if i+1<p.length/\i<=155 then(if p.getD i 0=47/\p.length-i-1<=100 then some (p.take i,p.drop (i+1))else Dm p k (i+1))else none
def UE(p:LU):Option (LU × LU):=if p.length<=100 then some ([],p)else Dm p p.length 1
def mI(p):∀k i a b,Dm p k i=some (a,b)->1<=i->1<=a.length/\a.length<=155/\1<=b.length/\b.length<=100/\p=a++47::b
 |0,i,a,b,h,_=>by cases h
 |k+1,i,a,b,h,hi=>by
  rw[Dm]at h
  split at h
  ·rename_i h1
   split at h
   ·rename_i y;injection h with h;injection h with q e2;subst q e2;have o:i<p.length:=ox;refine⟨zx,zx,zx,zx,?_⟩;have h3:p[i]'o=47:=(by have:=y.1;rwa[Ar,Qj o]at this);rw[<-h3,<-Xf o,V3]
   exact mI p k (i+1) a b h ox
  cases h
def LX{p a b}(h:UE p=some (a,b)):(a=[]/\b=p/\p.length<=100)\/(1<=a.length/\a.length<=155/\1<=b.length/\b.length<=100/\p=a++47::b):=by
 unfold UE at h
 split at h
 ·rename_i q;injection h with h;injection h with o e2;exact .inl ⟨o.symm,e2.symm,q⟩
 exact .inr<|mI p _ _ a b h<|Qk _
def DU:LU:=[117,115,116,97,114,0,48,48]
def CV(name:LU)(size:Nat):LU:=Zt name 100++(Zg 420 8++(Zg 0 8++(Zg 0 8++(Zg size 12++Zg 0 12))))
def FD(kind:UInt8)(pre:LU):LU:=[kind]++(Zt [] 100++(DU++(Zt [] 32++(Zt [] 32++(Zg 0 8++(Zg 0 8++(Zt pre 155++Zt [] 12)))))))
def Oj(name size)(h:name.length<=100):(CV name size).length=148:=by simp only[CV,Qo,Ct _ _ h,Cl _ _ (dx:1<=8),Cl _ _ (dx:1<=12)]
def nK(kind pre)(h:pre.length<=155):(FD kind pre).length=356:=by simp only[FD,Qo,Ct _ _ h,Cl _ _ (dx:1<=8),Ct [] _<|Zv _];rfl
def Dp(pre name:LU)(kind:UInt8)(size:Nat):Nat:=Vl (CV name size++(Q3 8++FD kind pre)) 512
def X8(pre name:LU)(kind:UInt8)(size:Nat):LU:=CV name size++(Zg (Dp pre name kind size) 7++([32]++FD kind pre))
def Ad{pre name}(kind size)(h:name.length<=100)(hp:pre.length<=155):(X8 pre name kind size).length=512:=by simp only[X8,Qo,Oj _ _ h,nK _ _ hp,Cl _ _ (dx:1<=7)];rfl
def Qjq{pre name}(kind size)(h:name.length<=100)(hp:pre.length<=155):Vl (X8 pre name kind size) 512=Dp pre name kind size:=by
 refine mX (fun d hi=>?_) 512;have g:=Oj name size h;have i:=Cl (Dp pre name kind size) 7 dx;unfold X8;simp only[Ar]
 by_cases c:d<148
 ·rw[Xc ox,Xc ox]
 have e:∀c:LU,(CV name size++c)[d]?=c[d-148]?:=fun c=>by rw[Zm ox,g]
 have g:∀c:LU,(Zg (Dp pre name kind size) 7++c)[d-148]?=c[d-155]?:=fun c=>by rw[Zm ox,i];exact Qt (c[·]?) ox
 have i:∀c:LU,([32]++c)[d-155]?=c[d-156]?:=fun c=>by rw[Zm zx];exact Qt (c[·]?) zx
 have j:∀c:LU,(Q3 8++c)[d-148]?=c[d-156]?:=fun c=>by rw[Zm (by rw[VY];omega),VY];exact Qt (c[·]?) ox
 rw[e,g,i,e,j]
def Bp(n:Nat):Nat:=(512-n%512)%512
def Yy(l:LU):LU:=l++Q3 (Bp l.length)
def Bq(l):(Yy l).length=(l.length+511)/512*512:=by rw[Yy,Qo,VY,Bp];omega
def Rj(n:Nat):LU:=[UInt8.ofNat (48+n/100),UInt8.ofNat (48+n/10%10),UInt8.ofNat (48+n%10)]
def Xd(v:LU):LU:=Rj (v.length+10)++([32,112,97,116,104,61]++(v++[10]))
def GZ(v):(Xd v).length=v.length+10:=by simp[Xd,Rj]
def Ug(path:LU)(size:Nat):LU:=
 match UE path with
 |some (a,b)=>X8 a b 48 size
 |none=>X8 [] [112,97,120] 120 (path.length+10)++(Yy (Xd path)++X8 [] (path.take 100) 48 size)
def Ol(path size)(h:path.length<=120):(Ug path size).length=512\/(Ug path size).length=1536:=by
 unfold Ug;cases hs:UE path with
 |some ab=>obtain⟨a,b⟩:=ab;left;refine Ad _ _ ?_ ?_<;>rcases LX hs with h|h<;>first|omega|(simp only[h.1,YE];omega)|(rw[h.2.1];omega)
 |none=>
  right;have c:=Ad (pre:=[]) (name:=[112,97,120]) 120 (path.length+10) dx dx;have d:=Ad (pre:=[]) (name:=path.take 100) 48 size zx dx;have:100<path.length:=by
   unfold UE at hs
   split at hs
   ·cases hs
   omega
  rw[Qo,Qo,c,d,Bq,GZ];omega
def QK:Nat->Nat->LU
 |0,_=>[]
 |k+1,n=>UInt8.ofNat (n/256^k)::QK k n
def U7:∀k n,(QK k n).length=k
 |0,_=>rfl
 |k+1,n=>by rw[QK,QW,U7 k]
end K
structure QG where
 cap:Nat
 img:LY
 lZ:Nat
structure QG.Ok(s:QG):Prop where
 c1:1<=s.cap
 c2:s.cap<=4096
 len:s.img.length<=s.cap
 sec:∀x∈s.img,x.length=512
 lZ:s.lZ<=1000000000
def K.flat_len:∀{l:LY},(∀x∈l,x.length=512)->l.flatten.length=512*l.length
 | [],_=>rfl
 |x::l,h=>by rw[Ev,Qo,h x sx,K.flat_len fun d c=>h d<|by simp[c],QW];omega
def K.Fg:∀{l:LY},(∀x∈l,x.length=512)->∀n,l.flatten.take (512*n)=(l.take n).flatten/\l.flatten.drop (512*n)=(l.drop n).flatten
 | [],_,n=>by simp
 |x::l,h,0=>by simp
 |x::l,h,n+1=>by have e:=h x sx;obtain⟨c,d⟩:=Fg (l:=l) (fun i g=>h i<|by simp[g]) n;rw[Ev,List.take_append,FP,e,(ox:512*(n+1)-512=512*n),c,d,Q5 ox,Jq ox];simp
def QG.Ok.flat{s:QG}(h:s.Ok):s.img.flatten.length=512*s.img.length:=K.flat_len h.sec
def K.JM(img:LY)(i:Nat)(x:LU):LY:=(img++List.replicate (i+1-img.length) (Q3 512)).set i x
def K.Hy(img:LY)(i:Nat)(x:LU):(JM img i x).length=max img.length (i+1):=by simp[JM];omega
def K.pC{img:LY}{i:Nat}{x:LU}(h:∀d∈img,d.length=512)(e:x.length=512):∀d∈JM img i x,d.length=512:=by
 intro d c;rcases EA c with c|rfl
 ·rcases Q4.1 c with c|c
  ·exact h d c
  rw[BR c,VY]
 exact e
def K.Qlm{img:LY}{i:Nat}{x:LU}:(JM img i x)[i]?=some x:=by rw[JM,FU];simp;omega
def K.Qln{img:LY}{i k:Nat}{x:LU}(h:k≠i)(hk:k<img.length):(JM img i x)[k]?=img[k]?:=by rw[JM,Il<|Ne.symm h,Xc hk]
namespace K
def wrL:LY->Nat->LY->LY
 |img,_,[]=>img
 |img,i,x::r=>wrL (JM img i x) (i+1) r
def pB(x):∀(L:LY)(img:LY)(i:Nat),wrL img i (L++[x])=JM (wrL img i L) (i+L.length) x
 | [],img,i=>rfl
 |y::L,img,i=>by rw[XY,wrL,pB x L,wrL,QW,show i+1+L.length=i+(L.length+1)by omega]
def Em:∀(L:LY)(img:LY)(i:Nat),(wrL img i L).length=if L.length=0 then img.length else max img.length (i+L.length)
 | [],img,i=>rfl
 |y::L,img,i=>by
  rw[wrL,Em L,Hy,QW]
  split<;>split<;>omega
def pA:∀{L:LY}{img:LY}{i:Nat},(∀c∈img,c.length=512)->(∀c∈L,c.length=512)->∀c∈wrL img i L,c.length=512
 | [],img,i,h,_=>h
 |c::L,img,i,h,hl=>by rw[wrL];exact pA (pC h<|hl c sx) (fun c hz=>hl c<|by simp[hz])
def Xu(img:LY)(s:Nat)(L:LY):Prop:=∀k c,L[k]?=some c->img[s+k]?=some c
def RQ:∀(L:LY)(img:LY)(i k:Nat),(k<i\/i+L.length<=k)->k<img.length->(wrL img i L)[k]?=img[k]?
 | [],img,i,k,_,_=>rfl
 |y::L,img,i,k,h,hk=>by simp only[QW]at h;rw[wrL,RQ L _ (i+1) k ox (by rw[Hy];omega),Qln ox hk]
def FI:∀(L:LY)(img:LY)(i:Nat),Xu (wrL img i L) i L
 | [],img,i=>fun k d c=>by simp at c
 |y::L,img,i=>fun k d c=>by
  rw[wrL];cases k with
  |zero=>simp at c;subst c;exact(RQ L (JM img i y) (i+1) i ox (by rw[Hy];omega)).trans Qlm
  |succ k=>have:=FI L (JM img i y) (i+1) k d (by simpa using c);rwa[show i+1+k=i+(k+1)by omega]at this
def Xu.lt{img:LY}{s:Nat}{L:LY}(h:Xu img s L)(h0:L≠[]):s+L.length<=img.length:=by have:0<L.length:=In.2 h0;have:=h (L.length-1) (L[L.length-1]' ox)<|Qj _;have:=(Qy.1 this).1;omega
def Xu.wr{img:LY}{s i:Nat}{c:LY}(h:Xu img s c)(L:LY)(d:s+c.length<=i\/i+L.length<=s):Xu (wrL img i L) s c:=fun k e d=>by have:=(Qy.1 d).1;have c:=h k e d;rw[RQ L img i (s+k) ox (Qy.1 c).1,c]
def Xu.take{img:LY}{s:Nat}{c:LY}(h:Xu img s c)(n:Nat)(d:s+c.length<=n):Xu (img.take n) s c:=fun k d c=>by have:=(Qy.1 c).1;rw[Bb ox,h k d c]
def RZ:Nat->LU->LY
 |0,_=>[]
 |n+1,l=>l.take 512::RZ n (l.drop 512)
def bE:∀n l,(RZ n l).length=n
 |0,_=>rfl
 |n+1,l=>by rw[RZ,QW,bE n]
def bC:∀(n:Nat)(l:LU),l.length=512*n->(RZ n l).flatten=l
 |0,l,h=>by rw[J4 (ox:l.length=0)];rfl
 |n+1,l,h=>by rw[RZ,Ev,bC n _ (by rw[YN];omega),V3]
def bF:∀(n:Nat)(l:LU),l.length=512*n->∀x∈RZ n l,x.length=512
 |0,l,h=>by simp[RZ]
 |n+1,l,h=>by
  intro x c;rw[RZ]at c;rcases QD.1 c with rfl|c
  ·rw[Zd];omega
  exact bF n _ (by rw[YN];omega) x c
def bD:∀(n:Nat)(l:LU)(k:Nat),k<n->(RZ n l)[k]?=some ((l.drop<|512*k).take 512)
 |0,l,k,h=>by omega
 |n+1,l,0,h=>by simp[RZ]
 |n+1,l,k+1,h=>by rw[RZ,Ru,bD n _ k ox,Aq,show 512+512*k=512*(k+1)by omega]
end K
def QG.wr(s:QG)(i:Nat)(L:LY):QG:={s with img:=K.wrL s.img i L,lZ:=s.lZ+L.length}
def QG.tick(s:QG)(n:Nat):QG:={s with lZ:=s.lZ+n}
def QG.cut(s:QG)(n:Nat):QG:={s with img:=s.img.take n,lZ:=s.lZ+1}
def QG.Ok.wr{s:QG}(h:s.Ok){i x}(hi:i<s.cap)(d:x.length=512)(c:s.lZ+1<=1000000000):QG.Ok {s with img:=JM s.img i x,lZ:=s.lZ+1}:=
 ⟨h.c1,h.c2,by have:=h.len;show(JM s.img i x).length<=s.cap;rw[Hy];omega,pC h.sec d,c⟩
namespace K
def ZO:LU->LY
 | []=>[[]]
 |b::r=>if b=47 then []::ZO r else match ZO r with
  | []=>[[b]]
  |c::cs=>(b::c)::cs
def Xh:LY->LU
 | []=>[]
 | [c]=>c
 |c::d::r=>c++47::Xh (d::r)
def yA(s):∃c d,ZO s=c::d:=by
 cases s with
 |nil=>exact⟨[],[],rfl⟩
 |cons b r=>
  unfold ZO
  split
  ·exact⟨_,_,rfl⟩
  split
  ·exact⟨_,_,rfl⟩
  exact⟨_,_,rfl⟩
def OF:∀s:LU,Xh (ZO s)=s
 | []=>rfl
 |b::r=>by
  have o:=OF r;obtain⟨c,q,e⟩:=yA r;unfold ZO
  split
  ·rename_i h;subst h;rw[e]at o ⊢;rw[Xh,o];rfl
  rw[e]at o ⊢;cases q with
  |nil=>simp[Xh]at o ⊢;exact o
  |cons d q=>simp only[Xh,XY]at o ⊢;rw[o]
def xZ{a b}(h:ZO a=ZO b):a=b:=by rw[<-OF a,h,OF]
def Yf:LY->LY->Int
 | [],[]=>0
 | [],_::_=> -1
 |_::_,[]=>1
 |a::x,b::y=>if a=b then Yf x y else Lib.compareBytes a b
def Xp(a b:LU):Int:=Yf (ZO a) (ZO b)
def aS:∀a:LU,Lib.compareBytes a a=0
 | []=>rfl
 |a::r=>by simp[Lib.compareBytes,aS r,UInt8.lt_irrefl]
def aR:∀a b:LU,Lib.compareBytes a b=0->a=b
 | [],[],_=>rfl
 | [],_::_,h=>by simp[Lib.compareBytes]at h
 |_::_,[],h=>by simp[Lib.compareBytes]at h
 |a::x,b::y,h=>by
  unfold Lib.compareBytes at h
  split at h
  ·cases h
  split at h
  ·cases h
  rename_i o q;rw[aR x y h,show a=b from UInt8.le_antisymm (EQ.1 q) (EQ.1 o)]
def NH:∀a b:LU,Lib.compareBytes a b= - Lib.compareBytes b a
 | [],[]=>rfl
 | [],_::_=>rfl
 |_::_,[]=>rfl
 |a::x,b::y=>by
  unfold Lib.compareBytes
  by_cases c:a<b
  ·rw[Qg c,Qf<|UInt8.lt_asymm c,Qg c]
  rw[Qf c]
  by_cases d:b<a
  ·rw[Qg d,Qg d];rfl
  rw[Qf d,Qf d,Qf c,NH x y]
def aV:∀a b c:LU,Lib.compareBytes a b<0->Lib.compareBytes b c<0->Lib.compareBytes a c<0
 | [],_,[],h1,h2=>by rename_i b;have:=NH [] b;omega
 | [],_,_::_,_,_=>by simp[Lib.compareBytes,Yf]
 |_::_,[],_,h,_=>by simp[Lib.compareBytes]at h
 |_::_,_::_,[],_,h=>by simp[Lib.compareBytes]at h
 |a::x,b::y,c::z,h1,h2=>by
  unfold Lib.compareBytes at h1 h2 ⊢
  by_cases h3:a<b
  ·by_cases o:b<c
   ·rw[Qg<|UInt8.lt_trans h3 o];decide
   rw[Qf o]at h2
   by_cases q:c<b
   ·rw[Qg q]at h2;omega
   have e:b=c:=UInt8.le_antisymm (EQ.1 q)<|EQ.1 o;rw[<-e,Qg h3];decide
  rw[Qf h3]at h1
  by_cases h4:b<a
  ·rw[Qg h4]at h1;omega
  have e:a=b:=UInt8.le_antisymm (EQ.1 h4)<|EQ.1 h3;subst e;rw[Qf h4]at h1
  by_cases o:a<c
  ·rw[Qg o];decide
  rw[Qf o]at h2 ⊢
  by_cases q:c<a
  ·rw[Qg q]at h2;omega
  rw[Qf q]at h2 ⊢;exact aV x y z h1 h2
def aX:∀a:LY,Yf a a=0
 | []=>rfl
 |a::r=>by rw[Yf,Qg rfl,aX r]
def aW:∀a b:LY,Yf a b=0->a=b
 | [],[],_=>rfl
 | [],_::_,h=>by simp[Yf]at h
 |_::_,[],h=>by simp[Yf]at h
 |a::x,b::y,h=>by
  unfold Yf at h
  split at h
  ·rename_i e;rw[e,aW x y h]
  rename_i e;exact absurd (aR a b h) e
def NI:∀a b:LY,Yf a b= - Yf b a
 | [],[]=>rfl
 | [],_::_=>rfl
 |_::_,[]=>rfl
 |a::x,b::y=>by
  unfold Yf
  by_cases c:a=b
  ·rw[Qg c,Qg c.symm,NI x y]
  rw[Qf c,Qf fun d=>c d.symm,NH a b]
def aY:∀a b c:LY,Yf a b<0->Yf b c<0->Yf a c<0
 | [],b,[],h1,h2=>by have:=NI [] b;omega
 | [],_,_::_,_,_=>by simp[Lib.compareBytes,Yf]
 |_::_,[],_,h,_=>by simp[Yf]at h
 |_::_,_::_,[],_,h=>by simp[Yf]at h
 |a::x,b::y,c::z,h1,h2=>by
  unfold Yf at h1 h2 ⊢
  by_cases d:a=b
  ·subst d;rw[Qg rfl]at h1
   by_cases f:a=c
   ·rw[Qg f]at h2 ⊢;exact aY x y z h1 h2
   rw[Qf f]at h2 ⊢;exact h2
  rw[Qf d]at h1
  by_cases f:b=c
  ·rwa[Qf<|f▸d,<-f]
  rw[Qf f]at h2;have e:=aV a b c h1 h2
  by_cases d:a=c
  ·rw[d,aS]at e;omega
  rwa[Qf d]
def CQ(a):Xp a a=0:=aX _
def DM{a b}(h:Xp a b=0):a=b:=xZ<|aW _ _ h
def EV(a b):Xp a b= - Xp b a:=NI _ _
def EW{a b c}(h:Xp a b<0)(k:Xp b c<0):Xp a c<0:=aY _ _ _ h k
def Qj0{α}(key:α->LU):Go.Sort.SWO (ltOf fun x d:α=>Xp (key x)<|key d) where
 irrefl x:=by simp[ltOf,CQ]
 trans x d z h k:=by simp only[ltOf,ZE]at h k ⊢;exact EW h k
 ntrans x d z h k:=by
  simp only[ltOf,Cb]at h k ⊢;intro hz;have:=EV (key x)<|key d;have a2:=EV (key d)<|key z
  by_cases e:Xp (key x) (key d)=0
  ·rw[DM e]at hz;exact k hz
  by_cases f:Xp (key d) (key z)=0
  ·rw[<-DM f]at hz;exact h hz
  have:=EW (a:=key z) (b:=key d) (c:=key x) ox ox;have a3:=EV (key x)<|key z;omega
def eU(c):∀l:LU,(Lib.index l [c]= -1/\c∉l)\/∃pre post,l=pre++c::post/\c∉pre/\Lib.index l [c]=(pre.length:Nat)
 | []=>.inl ⟨rfl,sx⟩
 |b::r=>by
  unfold Lib.index
  by_cases d:c=b
  ·subst d;exact .inr ⟨[],r,rfl,sx,by simp[List.isPrefixOf]⟩
  have hp:([c]:LU).isPrefixOf (b::r)=false:=by simp[List.isPrefixOf,d]
  rw[hp];rcases eU c r with⟨e,g⟩|⟨pre,post,e,g,hi⟩
  ·left;simp[e,g,d]
  right;refine⟨b::pre,post,by rw[e];rfl,by simp[g,d],?_⟩;rw[hi];simp
def NS:∀s:LU,47∉s->ZO s=[s]
 | [],_=>rfl
 |b::r,h=>by simp only[QD,Uj]at h;rw[ZO,Qf fun c=>h.1 c.symm,NS r h.2]
def NR:∀pre post:LU,47∉pre->ZO (pre++47::post)=pre::ZO post
 | [],post,_=>by rw[YU,ZO,Qg rfl]
 |b::r,post,h=>by simp only[QD,Uj]at h;rw[XY,ZO,Qf fun c=>h.1 c.symm,NR r post h.2]
def mJ:∀(n:Nat)(s:LU),s.length<=n->Lib.split s [47]=ZO s
 |n,s,hl=>by
  rcases eU 47 s with⟨c,d⟩|⟨e,post,c,d,hi⟩
  ·unfold Lib.split;rw[Lib.count_miss c,NS s d];rfl
  cases n with
  |zero=>subst c;simp at hl
  |succ n=>
   have h:=mJ n post (by subst c;simp at hl;omega);unfold Lib.split at h ⊢;have g:s.drop (e.length+[(47:UInt8)].length)=post:=(by rw[c];simp);rw[Lib.count_hit sx hi,g,CD,Lib.splitK,hi];have i:¬(((e.length:Nat):Int)== -1)=true:=fun c=>by have:=beq_iff_eq.1 c;omega
   rw[Qf i,ZH,g,h];rw[c,NR e post d];simp
def Ky:∀s:LU,(ZO s).length<=s.length+1
 | []=>by simp[ZO]
 |b::r=>by
  have o:=Ky r;unfold ZO
  split
  ·simp;omega
  split
  ·simp
  rename_i c q e;rw[e]at o;simp at o ⊢;omega
end K
section
structure RM where
 path:LU
 start:Int
 eZ:Int
 size:Int
 sum:Int
deriving DecidableEq
namespace K
section
variable {α:Type} (pt:α->LU)
def UG(l:List α):Prop:=l.Pairwise fun a b=>Xp (pt a) (pt b)<0
def XT(m:α):List α->List α
 | []=>[m]
 |x::r=>if Xp (pt m) (pt x)<0 then m::x::r else if Xp (pt m) (pt x)=0 then m::r else x::XT m r
def Vb(p:LU)(l:List α):List α:=l.filter fun c=>!(pt c==p)
variable {pt}
def Da{a b}(h:Xp a b<0):a≠b:=fun c=>by rw[c,CQ]at h;omega
def LD:∀{a b:List α},UG pt a->UG pt b->(∀x,x∈a↔x∈b)->a=b
 | [],b,_,_,h=>by
   cases b with
   |nil=>rfl
   |cons y r=>exact absurd ((h y).2 (Yv ..)) sx
 |x::a,[],_,_,h=>absurd ((h x).1 (Yv ..)) sx
 |x::a,y::b,ha,hb,h=>by
  have ha:=Vo.1 ha;have hb:=Vo.1 hb;have c:x=y:=by
   rcases QD.1 ((h x).1 (Yv ..))with c|c
   ·exact c
   rcases QD.1 ((h y).2 (Yv ..))with d|d
   ·exact d.symm
   have:=hb.1 x c;have:=ha.1 y d;have:=EV (pt x)<|pt y;omega
  subst c;rw[LD ha.2 hb.2 fun d=>?_];have:=h d;constructor
  ·intro hz;rcases QD.1 (this.1<|XO _ hz)with c|c
   ·subst c;exact absurd rfl<|Da<|ha.1 d hz
   exact c
  intro hz;rcases QD.1 (this.2<|XO _ hz)with c|c
  ·subst c;exact absurd rfl<|Da<|hb.1 d hz
  exact c
def gZ{p l}{x:α}:x∈Vb pt p l↔x∈l/\pt x≠p:=by simp[Vb]
def PQ{p l}(h:UG pt l):UG pt (Vb pt p l):=List.Pairwise.filter _ h
def Dc{m:α}:∀{l:List α},UG pt l->∀{x:α},x∈XT pt m l↔x=m\/(x∈l/\pt x≠pt m)
 | [],_,x=>by simp[XT]
 |y::r,h,x=>by
  have h:=Vo.1 h;rw[XT]
  split
  ·rename_i q;have hy:pt y≠pt m:=fun e=>by rw[e,CQ]at q;omega
   have hr:∀z∈r,pt z≠pt m:=fun z hz e=>by have:=EW q<|h.1 z hz;rw[e,CQ]at this;omega
   constructor
   ·intro hx;rcases QD.1 hx with e|e
    ·exact .inl e
    exact .inr ⟨e,by rcases QD.1 e with e|e;exact e▸hy;exact hr x e⟩
   rintro(e|⟨e,-⟩)
   ·rw[e];exact Yv ..
   exact XO _ e
  split
  ·rename_i q h2;have e0:=DM h2;constructor
   ·intro hx;rcases QD.1 hx with e|e
    ·exact .inl e
    exact .inr ⟨XO _ e,fun e'=>Da (h.1 x e)<|by rw[e',e0]⟩
   rintro(e|⟨e,o⟩)
   ·rw[e];exact Yv ..
   rcases QD.1 e with e|e
   ·subst e;exact absurd e0.symm o
   exact XO _ e
  rename_i q h2;rw[QD,Dc h.2,QD];have hy:pt y≠pt m:=fun e=>h2 (by rw[e,CQ])
  constructor
  ·rintro(e|e|⟨e,o⟩)
   ·exact .inr ⟨.inl e,e▸hy⟩
   ·exact .inl e
   exact .inr ⟨.inr e,o⟩
  rintro(e|⟨e|e,o⟩)
  ·exact .inr<|.inl e
  ·exact .inl e
  exact .inr<|.inr ⟨e,o⟩
def Dl{m:α}:∀{l:List α},UG pt l->UG pt (XT pt m l)
 | [],_=>by simp[XT,UG]
 |y::r,h0=>by
  have h:=Vo.1 h0;rw[XT]
  split
  ·rename_i o;refine Vo.2 ⟨fun z hz=>?_,h0⟩;rcases QD.1 hz with e|e
   ·subst e;exact o
   exact EW o<|h.1 z e
  split
  ·rename_i o q;refine Vo.2 ⟨fun z hz=>?_,h.2⟩;have:=h.1 z hz;rwa[DM q]
  rename_i o q;refine Vo.2 ⟨fun z hz=>?_,Dl h.2⟩;rcases(Dc h.2).1 hz with e|⟨e,-⟩
  ·subst e;have:=EV (pt z)<|pt y;omega
  exact h.1 z e
def OB(m:α):∀l,(XT pt m l).length<=l.length+1
 | []=>by simp[XT]
 |x::r=>by
  rw[XT];have:=OB m r
  split
  ·simp
  split<;>simp<;>omega
end
abbrev Uv(l:List RM):Prop:=UG RM.path l
abbrev UO(m:RM)(l:List RM):List RM:=XT RM.path m l
abbrev CS(p:LU)(l:List RM):List RM:=Vb RM.path p l
def BI(l:List RM)(n:Bool × RM):List RM:=if n.1 then UO n.2 l else CS n.2.path l
def Q8(l:List RM)(ns:List (Bool × RM)):List RM:=ns.foldl BI l
def Qhf{l}(h:Uv l)(n):Uv (BI l n):=by
 unfold BI
 split
 ·exact Dl h
 exact PQ h
def PP:∀{ns:List (Bool × RM)}{l:List RM},Uv l->Uv (Q8 l ns)
 | [],_,h=>h
 |n::ns,l,h=>PP (ns:=ns)<|Qhf h n
def Qjg(l n):(BI l n).length<=l.length+1:=by
 unfold BI
 split
 ·exact OB _ _
 exact QS (Ew _ _)<|DF _
def WU:∀(ns:List (Bool × RM))(l:List RM),(Q8 l ns).length<=l.length+ns.length
 | [],l=>Qk _
 |n::ns,l=>by have c:=WU ns<|BI l n;have:=Qjg l n;simp only[Q8,CB,QW]at c ⊢;omega
end K
end
namespace K
def CT(b:UInt8):Bool:=decide (32<=b.toNat)&&decide (b.toNat<=126)
def RE:LY->LY × Bool
 | []=>([],false)
 |c::r=>if c=[]\/c=[46]then RE r else if c=[46,46]then([],true)else(c::(RE r).1,(RE r).2)
def Rh(l:LU):LU × Int:=
 if l.all CT then
  if(RE (ZO l)).2\/Xh (RE (ZO l)).1=[]\/120<(Xh (RE (ZO l)).1).length then([],140)else(Xh (RE (ZO l)).1,0)
 else([],140)
def Y0(l:LY):LY:=l.filter fun c=>!(decide (c=[]\/c=[46]))
def Pv:∀(a b:LY),[46,46]∉a->RE (a++b)=(Y0 a++(RE b).1,(RE b).2)
 | [],b,_=>by simp[Y0]
 |c::a,b,h=>by
  simp only[QD,Uj]at h;have e:=Pv a b h.2;rw[XY,RE]
  by_cases d:c=[]\/c=[46]
  ·rw[Qg d,e,show Y0 (c::a)=Y0 a from List.filter_cons_of_neg (by simp only[d];decide)]
  rw[Qf d,Qf fun g=>h.1 g.symm,e,show Y0 (c::a)=c::Y0 a from List.filter_cons_of_pos (by simp only[d];decide)];rfl
def bH{l i}(h:i<l.length)(hb:CT (l[i]'h)=false):Rh l=([],140):=by unfold Rh;rw[Qf];intro ha;have:=Yb.1 ha (l[i]'h)<|Yc h;rw[hb]at this;cases this
def OG:∀l:LY,Lib.join l [47]=Xh l
 | []=>rfl
 | [c]=>by simp[Lib.join,Xh]
 |c::d::r=>by have e:=OG<|d::r;simp only[Xh,Lib.join]at e ⊢;simp[e]
def wt(l:LY):Nat:=(l.map fun c=>c.length+1).sum
def pD(a b):wt (a++b)=wt a+wt b:=by unfold wt;rw[XC,List.sum_append]
def fC:∀l,(Xh l).length<=wt l
 | []=>Zv _
 | [c]=>by simp[Xh,wt]
 |c::d::r=>by have e:=fC<|d::r;unfold wt at e ⊢;rw[Xh,Qo,QW,QV,Xm];omega
def OH:∀l,wt (Y0 l)<=wt l
 | []=>Qk _
 |c::r=>by
  have d:=OH r;unfold wt Y0 at d ⊢;rw[FR]
  split<;>simp only[QV,Xm]<;>omega
def NT:∀s,wt (ZO s)=s.length+1
 | []=>rfl
 |b::r=>by
  have o:=NT r;unfold ZO
  split
  ·unfold wt at o ⊢;rw[QV,Xm,o];simp;omega
  split
  ·rename_i e;rw[e]at o;simp[wt]at o
  rename_i c q e;rw[e]at o;unfold wt at o ⊢;rw[QV,Xm]at o ⊢;simp at o ⊢;omega
def Xr(p:LU):Bool:=decide (Rh p=(p,0))
def X1(p:LU):Int:=if Xr p then 0 else 140
def jD{p}:Xr p=true↔Rh p=(p,0):=by simp[Xr]
def XU{p}(h:Xr p=true):p.all CT=true/\1<=p.length/\p.length<=120:=by
 have h:=jD.1 h;unfold Rh at h
 split at h
 ·rename_i y
  split at h
  ·injection h with o q;cases q
  rename_i o;simp only[Uj,Bool.not_eq_true]at o;injection h with q h4;rw[q]at o;refine⟨y,?_,ox⟩;rcases Rx p with h|h
  ·exact absurd (J4 h) o.2.1
  exact h
 injection h with o q;cases q
end K
def Zi(x:Int):Prop:=0<=x/\x<=4294967295
def Zi.bits(c:BinOp)(a b):Zi (bits c .u32 a b):=⟨bits_lo_u32 c a b,bits_hi_u32 c a b⟩
def Zi.half{a}(h:Zi a)(n:Nat)(c:n≠0):Zi (a/n):=by unfold Zi at h ⊢;exact⟨Int.ediv_nonneg h.1 ox,Int.le_trans (Int.ediv_le_self _ h.1) h.2⟩
def BM:Nat->Int->Int->Int
 |0,o,_=>o
 |n+1,o,v=>BM n (bits .or .u32 (o*2%4294967296) (bits .and .u32 v 1)) (v/2)
def nY:∀(n:Nat)(c v:Int),Zi c->Zi (BM n c v)
 |0,c,v,h=>h
 |n+1,c,v,h=>nY n _ _<|Zi.bits _ _ _
def nZ(v)(n:Nat)(w)(hv:Zi v)(hn:n<=32):Calls prog 98 #[.int .u32 v,(n:Int)] w fun e w'=>e=.returned (.int .u32<|BM n 0 v)/\w=w':=by
 have HV:=Qa hv;clear hv;go_enter func98,ntmps98
 go_wp2
 go_loopg [0,5,7] n (fun k a b c wr=>∃(i:Nat)(o u:Int),k=n-i/\i<=n/\a=.int .u32 u/\b=.int .u32 o/\c=.int .i64 (i:Nat)/\Hid (Zi u/\BM (n-i) o u=BM n 0 v)/\w=wr)
 ·exact⟨0,0,v,ox,ox,rfl,rfl,rfl,Qa ⟨HV.o,rfl⟩,rfl⟩
 obtain⟨i,o,u,hk,hi,rfl,rfl,rfl,q,rfl⟩:=hrel;have Hk:=Qa hk;clear hk
 by_cases hlt:i<n
 ·have h3:(i:Int)<n:=ox
  go_wp2
  go_roundg (n-(i+1))
  ·obtain⟨h1,y⟩:=q.o;refine⟨i+1,_,_,rfl,ox,rfl,rfl,by go_num,Qa ⟨h1.half 2 dx,?_⟩,rfl⟩;rwa[(ox:n-i=n-(i+1)+1)]at y
  have:=Hk.o;omega
 obtain rfl:i=n:=ox
 have h3:¬(i:Int)<i:=ox
 have he:o=BM i 0 v:=by have:=q.o.2;rw[ZM]at this;exact this
 have HO:=Qa he;clear he
 go_wp2
 go_ret;rw[HO.o];exact⟨rfl,rfl⟩
def Gx:Nat->Int->Int
 |0,r=>r
 |n+1,r=>Gx n (if bits .and .u32 r 2147483648=0 then r*2%4294967296 else bits .xor .u32 (r*2%4294967296) 79764919)
def Bm(i:Nat):Int:=Gx 8 ((i:Int)*16777216)
def yG(i:Nat):Gx (8-0) ((i:Int)*16777216)=Bm i:=by unfold Bm;rfl
def Zp(l:LI):LV:=l.map (Value.int .u32)
def Yx(i:Nat):LI:=(List.range 256).map fun k=>if k<i then Bm k else 0
def JR:LI:=(List.range 256).map Bm
def yE(i):(Zp<|Yx i).length=256:=by simp[Zp,Yx]
def yD:Yx 256=JR:=by unfold Yx JR;exact YT fun k hk=>by rw[Qg<|ZR.1 hk]
def yF(i)(h:i<256):(Zp<|Yx i).set i (.int .u32<|Bm i)=Zp (Yx<|i+1):=by
 unfold Zp Yx;apply XB;intro c;simp only[Je,QH,VK,Zz]
 by_cases d:c<256
 ·rw[Xl d]
  by_cases d:i=c
  ·subst d;simp[h]
  rw[Qf d];simp only[Bg]
  by_cases d:c<i
  ·rw[Qg d,Qg ox]
  rw[Qf d,Qf ox]
 rw[QU zx,Qf ox];rfl
def bW(i)(h:i<256):(Zp JR)[i]?=some (.int .u32<|Bm i):=by simp[Zp,JR,Xl h]
def Qb.setRow{S a b}(h:Qb S a b){g}(d:g∈S\/a.heap.size<=g)(c):Qb S a (b.setRow g c):=
 h.trans (T:=[g]) ⟨rfl,rfl,rfl,by simp[World.setRow],fun k hk e=>by
  have hne:¬g=k:=by intro c;subst c;simp at e
  show(b.heap.modify g _)[k]?=b.heap[k]?;rw[Mj,Qf hne]⟩ (by simpa using d)
def Ns(w):(zeroValue 177).run prog w=.ok (.agg (Zp<|Yx 0).toArray) w:=
 (zero_of_info (P:=prog) (t:=177) (v:=.agg (Zp<|Yx 0).toArray) (n:=256) kx).1 w
def Gf:(prog.info? 177).map (·.size)=some 256:=by kernel_rfl
set_option maxRecDepth 100000 in
def nH(w):Calls prog 97 #[] w (RK (.agg (Zp JR).toArray) w):=by
 have hz:=Ns;go_enter func97,ntmps97;go_wp2_with fail;have d:=Qx w (Zp<|Yx 0) 177;have g:=Qx (w.alloc<|.cells (Zp<|Yx 0).toArray 177) (Zp<|Yx 0) 177;rw[show(w.alloc<|.cells (Zp<|Yx 0).toArray 177).heap.size=w.heap.size+1 by simp]at g;have d:=d.kept ((Qc [] _).alloc<|.cells (Zp<|Yx 0).toArray 177) sx;have hk:Qb [] w ((w.alloc<|.cells (Zp<|Yx 0).toArray 177).alloc<|.cells (Zp<|Yx 0).toArray 177):=((Qc _ _).alloc _).alloc _;generalize (w.alloc<|.cells (Zp<|Yx 0).toArray 177).alloc (.cells (Zp<|Yx 0).toArray 177)=W at d g hk ⊢
 go_loopg [2,3,4] 256 (fun k a b l wr=>∃c:Nat,k=256-c/\c<=256/\l=.int .i64 (c:Nat)/\Hid (Qe wr w 177<|Zp<|Yx 0)/\Hid (Qe wr (w.heap.size+1) 177<|Zp<|Yx c)/\Hid (Qb [] w wr))
 ·exact⟨0,ox,ox,rfl,Qa d,Qa g,Qa hk⟩
 obtain⟨c,h,hi,rfl,j,i,n⟩:=hrel;have p:=Qa h
 by_cases hlt:c<256
 ·have q:(c:Int)<256:=ox
  go_wp2
  go_loopg [3,10] 8 (fun k r l g=>∃(d:Nat)(h:Int),k=8-d/\d<=8/\r=.int .u32 h/\l=.int .i64 (d:Nat)/\Hid (Gx (8-d) h=Bm c)/\wr=g)
  ·exact⟨0,(c:Int)*16777216,ox,ox,rfl,rfl,Qa<|yG c,rfl⟩
  obtain⟨d,h,g,l,rfl,rfl,m,rfl⟩:=hrel;have o:=Qa g
  by_cases g:d<8
  ·have:(d:Int)<8:=ox;have g:=m.o;rw[(ox:8-d=8-(d+1)+1),Gx]at g
   by_cases hb:bits .and .u32 h 2147483648=0
   ·have g1:(bits .and .u32 h 2147483648 != 0)=false:=(by rw[hb];rfl);rw[Qg hb]at g;have l:=Qa g
    go_wp2
    go_roundg (8-(d+1))
    ·exact⟨d+1,_,rfl,ox,rfl,by go_num,l,rfl⟩
    have:=o.o;omega
   have g1:(bits .and .u32 h 2147483648 != 0)=true:=(by simpa using hb);rw[Qf hb]at g;have l:=Qa g
   go_wp2
   go_roundg (8-(d+1))
   ·exact⟨d+1,_,rfl,ox,rfl,by go_num,l,rfl⟩
   have:=o.o;omega
  obtain rfl:d=8:=ox
  have g:h=Bm c:=m.o;subst g;have hs:=i.o.set c<|.int .u32<|Bm c;rw[yF c hlt]at hs;have g:=Qa hs;have c0:=i.o.free c;have c1:∃d,wr.cell? ⟨w.heap.size+1,c,none⟩=some d:=⟨_,i.o.cell<|Qj (by rw[yE];exact hlt)⟩;obtain⟨d,c1⟩:=c1
  go_wp2
  go_roundg (256-(c+1))
  ·exact⟨c+1,rfl,ox,by go_num,Qa<|j.o.kept ((Qc [w.heap.size+1] wr).setCell sx _) sx,g,Qa<|n.o.setCell (.inr sx) _⟩
  have:=p.o;omega
 obtain rfl:c=256:=ox
 have q:¬(256:Int)<256:=ox
 have hb:=i.o;rw[yD]at hb;have c:=Qa hb;go_wp2_with (first
  |refine SG rfl 177 _ rfl (w.heap.size+1) rfl _ _ _ _ c.o underlying177 rfl (by rw[Gf];simp[Zp,JR]) ?_
  |refine wpList_store_row rfl 177 _ _ rfl w _ rfl rfl _ _ j.o (by rw[Gf];simp[Zp,JR]) (by simp[Zp,JR,Yx]) (by simp[Zp,Value.oneCell']) ?_)
 refine Zj (results_cell_row rfl _ _ w _ _ _ _ rfl (LR _ _ _ _ _ _ j.o) underlying177 rfl (by rw[Gf];simp[Zp,JR])) rfl ?_;exact⟨rfl,n.o.setRow (.inr<|Qk _) _⟩
def EY(r:Int)(b:Int):Int:=bits .xor .u32 (r*256%4294967296) (Bm (bits .xor .u8 (r/16777216) b).toNat)
def AQ:Int->LU->Int
 |r,[]=>r
 |r,b::t=>AQ (EY r (b.toNat:Int)) t
def iG(b):∀(l:LU)(r:Int),AQ r (l++[b])=EY (AQ r l) (b.toNat:Int)
 | [],r=>rfl
 |x::t,r=>by rw[XY,AQ,AQ,iG b t]
def iF:∀(l:LU)(r:Int),Zi r->Zi (AQ r l)
 | [],r,h=>h
 |b::t,r,h=>by rw[AQ];exact iF t _<|Zi.bits _ _ _
def Qeb(r)(s:BA)(w)(c:Zi r)(hs:s.size<=140737488351232):Calls prog 168 #[.int .u32 r,s] w (RK (.int .u32<|AQ r s) w):=by
 have j:=Qa c;clear c;have hz:=Ns;go_enter func168,ntmps168;go_wp2_with fail;go_fit(nH _);rintro e c⟨rfl,d⟩;have h:=Qa d;clear d;go_wp2_with (refine wpList_store_row rfl 177 _ _ rfl c _ rfl rfl _ _ (Xq c _) (by rw[Gf];simp[Zp,JR]) (by simp[Zp,JR,Yx]) (by simp[Zp,Value.oneCell']) ?_);have d:Qe ((c.alloc<|.cells (Zp<|Yx 0).toArray 177).setRow c (Zp JR).toArray) c 177 (Zp JR):=LR _ _ _ _ _ _<|Xq c _;have hk:Qb [] w ((c.alloc<|.cells (Zp<|Yx 0).toArray 177).setRow c (Zp JR).toArray):=(h.o.alloc _).setRow (.inr h.o.size) _;generalize (c.alloc<|.cells (Zp<|Yx 0).toArray 177).setRow c (Zp JR).toArray=W at d hk ⊢;generalize c=g at d ⊢;have⟨n,o⟩:=qb d hk;clear hz d hk h
 go_loopg [0,6,10] s.size (fun k a b d wr=>∃c:Nat,k=s.size-c/\c<=s.size/\a=.int .u32 (AQ r<|s.data.toList.take c)/\d=.int .i64 (c:Nat)/\W=wr)
 ·exact⟨0,ox,ox,rfl,rfl,rfl⟩
 obtain⟨c,d,hi,rfl,rfl,rfl⟩:=hrel;have p:=Qa d;clear d;have i:=iF (s.data.toList.take c) r j.o
 by_cases hlt:c<s.size
 ·have q:(c:Int)<s.size:=ox
  have m:=Kq s c hlt;have h:=iG (s[c]'hlt) (s.data.toList.take c) r;rw[<-m]at h;have⟨d,j⟩:=qx<|AQ r<|s.data.toList.take c;rw[j]at i h ⊢;obtain⟨h0,l⟩:=i;have l:=Rc<|s[c]'hlt;have⟨i,t⟩:=qx<|(s[c]'hlt).toNat;rw[t]at h l;have l:=bits_lo_u8 .xor (d/16777216) (i:Int);have t:=bits_hi_u8 .xor (d/16777216) (i:Int);obtain⟨i,u⟩:=Yu l;obtain⟨_,_,_⟩:d/16777216<=255/\0<=d/16777216/\d/16777216%256=d/16777216:=ox
  unfold EY at h;rw[u]at l t h;have d:i<256:=ox
  have c0:=n.o.cell<|bW i d;have d:=Qa h;clear h m j
  go_wp2
  go_roundg (s.size-(c+1))
  ·exact⟨c+1,rfl,ox,by rw[d.o];rfl,by go_num,rfl⟩
  have:=p.o;omega
 obtain rfl:c=s.size:=ox
 have q:¬(s.size:Int)<s.size:=ox
 have c:s.data.toList.take s.size=s.data.toList:=Q5 (by rw[Zr];exact Qk _);have d:=Qa c;clear c
 go_wp2
 go_ret;rw[d.o];exact⟨rfl,o.o⟩
def Yd(s:LU):Int:=bits .xor .u32 IntKind.u32.max (AQ 4294967295 s)
def ER(s:BA)(w)(hs:s.size<=140737488351232):Calls prog 117 #[s] w (RK (.int .u32<|Yd s) w):=by
 go_enter func117,ntmps117;go_wp2_with fail;go_fit(Qeb 4294967295 s _ (by unfold Zi;omega) hs);rintro e c⟨rfl,c⟩;have d:=Qa c
 go_wp2
 go_ret;exact⟨rfl,d.o⟩
def Uo:Int->LI->Int
 |c,[]=>c
 |c,x::r=>Uo (bits .xor .u32 (bits .or .u32 (c*2%4294967296) (c/2147483648)) x) r
def Hn:∀(l:LI)(c:Int),Zi c->Zi (Uo c l)
 | [],c,h=>h
 |x::r,c,h=>by rw[Uo];exact Hn r _<|Zi.bits _ _ _
def nA(x):∀(l:LI)(c:Int),Uo c (l++[x])=bits .xor .u32 (bits .or .u32 (Uo c l*2%4294967296)<|Uo c l/2147483648) x
 | [],c=>rfl
 |y::t,c=>by rw[XY,Uo,Uo,nA x t]
def mV(a c xs w)(h:Qp w 1 a xs.length (Zp xs))(hl:xs.length<=17592186043904):Calls prog 120 #[.slice a xs.length c] w fun e w'=>e=.returned (.int .u32<|Uo 0 xs)/\w=w':=by
 have HS:=Qa h;go_enter func120,ntmps120
 go_wp2
 go_loopg [3,5,8] xs (fun k a b c wr=>∃i:Nat,k=xs.length-i/\i<=xs/\a=.int .u32 (Uo 0<|xs.take i)/\c=.int .i64 (i:Nat)/\w=wr)
 ·exact⟨0,ox,ox,rfl,rfl,rfl⟩
 obtain⟨i,h2,hi,rfl,rfl,rfl⟩:=hrel;have Hk:=Qa h2;have hU:=Hn (xs.take i) 0 (by unfold Zi;omega)
 by_cases hlt:i<xs
 ·have h3:(i:Int)<xs.length:=ox
  have⟨x,y⟩:=qy xs i hlt;have hv:(Zp xs)[i]?=some (.int .u32 x):=by unfold Zp;rw[Zz,y];rfl
  obtain⟨b,o,rfl,e0⟩:=HS.o.2 i _ hv;have q:=nA x (xs.take i) 0;rw[<-show xs.take (i+1)=xs.take i++[x]by rw[Zh,y];rfl]at q;have⟨R,hR⟩:=qx<|Uo 0<|xs.take i;rw[hR]at hU q ⊢;obtain⟨h0,h1⟩:=hU;have HM:=Qa q
  go_wp2
  go_roundg (xs.length-(i+1))
  ·exact⟨i+1,rfl,ox,by rw[HM.o],by go_num,rfl⟩
  have:=Hk.o;omega
 obtain rfl:i=xs:=ox
 have h3:¬(xs:Int)<xs.length:=ox
 go_wp2
 go_ret;exact⟨rfl,rfl⟩
def Bt:Int->LU->Int
 |r,[]=>r
 |r,b::t=>Bt (EY r (BM 8 0 (b.toNat:Int)%256)) t
def YJ(s:LU):Int:=BM 32 0 (bits .xor .u32 IntKind.u32.max (Bt 4294967295 s))
def Oy(s):Zi (YJ s):=nY _ _ _ (by unfold Zi;omega)
def eR(b):∀(l:LU)(r:Int),Bt r (l++[b])=EY (Bt r l) (BM 8 0 (b.toNat:Int)%256)
 | [],r=>rfl
 |x::t,r=>by rw[XY,Bt,Bt,eR b t]
def eQ:∀(l:LU)(r:Int),Zi r->Zi (Bt r l)
 | [],r,h=>h
 |b::t,r,h=>by rw[Bt];exact eQ t _<|Zi.bits _ _ _
def Oz(s:BA)(w)(hs:s.size<=140737488351232):Calls prog 61 #[s] w (RK (.int .u32<|YJ s) w):=by
 have hz:=Ns;go_enter func61,ntmps61;go_wp2_with fail;go_fit(nH _);rintro e c⟨rfl,d⟩;have h:=Qa d;clear d;go_wp2_with (refine wpList_store_row rfl 177 _ _ rfl c _ rfl rfl _ _ (Xq c _) (by rw[Gf];simp[Zp,JR]) (by simp[Zp,JR,Yx]) (by simp[Zp,Value.oneCell']) ?_);have d:Qe ((c.alloc<|.cells (Zp<|Yx 0).toArray 177).setRow c (Zp JR).toArray) c 177 (Zp JR):=LR _ _ _ _ _ _<|Xq c _;have hk:Qb [] w ((c.alloc<|.cells (Zp<|Yx 0).toArray 177).setRow c (Zp JR).toArray):=(h.o.alloc _).setRow (.inr h.o.size) _;generalize (c.alloc<|.cells (Zp<|Yx 0).toArray 177).setRow c (Zp JR).toArray=W at d hk ⊢;generalize c=g at d ⊢;have⟨q,t⟩:=qb d hk;clear hz d hk h
 go_loopg [4,5,9] s.size (fun k a b d wr=>∃c:Nat,k=s.size-c/\c<=s.size/\a=.int .u32 (Bt 4294967295<|s.data.toList.take c)/\d=.int .i64 (c:Nat)/\W=wr)
 ·exact⟨0,ox,ox,rfl,rfl,rfl⟩
 obtain⟨c,d,hi,rfl,rfl,rfl⟩:=hrel;have u:=Qa d;clear d;have l:=eQ (s.data.toList.take c) 4294967295 (by unfold Zi;omega)
 by_cases hlt:c<s.size
 ·have v:(c:Int)<s.size:=ox
  have o:=Kq s c hlt;have h:=eR (s[c]'hlt) (s.data.toList.take c) 4294967295;rw[<-o]at h;have⟨d,n⟩:=qx<|Bt 4294967295<|s.data.toList.take c;rw[n]at l h ⊢;obtain⟨h0,i⟩:=l;have j:=Rc<|s[c]'hlt;have i:=nZ ((s[c]'hlt).toNat:Int) 8 W (by unfold Zi;omega) ox;have⟨m,p⟩:=qx<|(s[c]'hlt).toNat;rw[p]at h j i;have⟨j,p⟩:=qx<|BM 8 0 (m:Int);rw[p]at h i;have m:=bits_lo_u8 .xor (d/16777216)<|j%256;have x:=bits_hi_u8 .xor (d/16777216)<|j%256;obtain⟨j,y⟩:=Yu m;obtain⟨_,_,_⟩:d/16777216<=255/\0<=d/16777216/\d/16777216%256=d/16777216:=ox
  unfold EY at h;rw[y]at m x h;have d:j<256:=ox
  have c0:=q.o.cell<|bW j d;have⟨j,d⟩:=qb h i;clear h o n p i;go_wp2_with fail;go_fit d.o;rintro e h⟨rfl,rfl⟩
  go_wp2
  go_roundg (s.size-(c+1))
  ·exact⟨c+1,rfl,ox,by rw[j.o];rfl,by go_num,rfl⟩
  have:=u.o;omega
 obtain rfl:c=s.size:=ox
 have v:¬(s.size:Int)<s.size:=ox
 have c:s.data.toList.take s.size=s.data.toList:=Q5 (by rw[Zr];exact Qk _);have d:=Qa c;clear c l;go_wp2_with fail;rw[d.o];go_fit(nZ _ 32 W (Zi.bits _ _ _) ox);rintro e h⟨rfl,rfl⟩
 go_wp2
 go_ret;exact⟨rfl,t.o⟩
abbrev Note:=Bool × RM
namespace K
noncomputable def Yn(kind:UInt8)(gen e:Nat)(d:LU):LU:=
 let c:=[75,73,83,84]++([kind]++(QK 8 gen++(QK 4 e++(QK 2 d.length++(d++Q3 (489-d.length))))))
 c++QK 4 (YJ c).toNat
def Xi(m:RM):LU:=QK 1 m.path.length++(m.path++(QK 2 m.start.toNat++(QK 2 m.eZ.toNat++(QK 2 m.size.toNat++QK 4 m.sum.toNat))))
def VC(n:Note):LU:=if n.1 then Xi n.2 else n.2.path
noncomputable def Jz(gen:Nat):Nat->List Note->LY
 |_,[]=>[]
 |i,n::r=>Yn (if n.1 then 1 else 2) gen i (VC n)::Jz gen (i+1) r
noncomputable def JV(gen i:Nat)(ns:List Note):LY:=Jz gen i ns++[Yn 3 gen (i+ns.length) [UInt8.ofNat ns.length]]
noncomputable def UU(gen:Nat):Nat->Nat->LU->LY
 |0,_,_=>[]
 |n+1,i,l=>Yn 4 gen i (l.take 486)::UU gen n (i+1) (l.drop 486)
noncomputable def Yp(gen:Nat)(l:List RM):LY:=UU gen 5 0 (l.flatMap Xi)
end K
structure Vr(T:LN)(n:Nat)(A B:WD):Prop where
 os:B.os=A.os
 tape:B.tape=A.tape
 output:B.output=A.output
 size:A.heap.size<=B.heap.size
 block:∀k o,A.heap[k]?=some o->k∉T->(k<n\/o.isCells=true)->B.heap[k]?=some o
def Vr.of{T n A c}(h:Qb T A c):Vr T n A c:=⟨h.os,h.tape,h.output,h.size,fun k c d c _=>h.heap d c⟩
def Vr.put{T n l A c}(d)(g:A.heap[l]?=some c)(h:c.isCells=false)(c:n<=l):Vr T n A (A.putObj l d):=
 ⟨rfl,rfl,rfl,sx,fun k c d _ c=>by
  by_cases e:k=l
  ·subst e;rw[g]at d;injection d with d;subst d;rcases c with c|c
   ·omega
   rw[h]at c;cases c
  exact(World.putObj_heap_other e).trans d⟩
def Vr.kept{T n w A c}(h:Vr T n A c)(hk:Qb [] w A)(g:∀b∈T,w.heap.size<=b)(d:w.heap.size<=n):Qb [] w c:=by refine⟨h.os.trans hk.os,h.tape.trans hk.tape,h.output.trans hk.output,QS hk.size h.size,fun k hlt i=>?_⟩;obtain⟨c,d⟩:∃c,w.heap[k]?=some c:=⟨_,Al hlt⟩;have e:=(hk.block k hlt i).trans d;rw[h.block k c e (fun hb=>by have:=g k hb;omega)<|.inl ox,d]
def Vr.row{T n A c}(h:Vr T n A c){e size v m xs}(d:Qm A e size v m xs)(j:∀k∈Qd v,k∉T):Qm c e size v m xs:=by
 refine⟨d.1,?_⟩;rcases d.2 with i|⟨c,cap,g,d,l,hh,r⟩
 ·exact .inl i
 exact .inr ⟨c,cap,g,d,l,h.block c _ hh (j c<|by simp[Qd,d,qo])<|.inr rfl,r⟩
def Qfn{α:Type}(T:LN)(d:List α->WD->Prop)(c:Code->List α->WD->Prop)(xs:List α)(W:WD):Exit->Act->WD->Prop
 | .normal,_,W'=>KeepsOthers W W'/\(∀b∈T,W'.heap[b]?=W.heap[b]?)/\d xs W'
 | .ret,_,W'=>KeepsOthers W W'/\c .ret xs W'
 | .exit id,_,W'=>KeepsOthers W W'/\c (.exit id) xs W'
 | .goto t,_,W'=>KeepsOthers W W'/\c (.goto t) xs W'
 | .panic _,_,_=>False
 | .outgrown,_,_=>False
def Mu{α:Type}(P:Program)(gf:Nat)(lb:Array VL)(i:α->Array VL)(T:LN)(Ok:List α->α->Prop)(S n:List α->Prop)(w:WD):Prop:=
 ∀(m:Nat)(e h:List α->WD->Prop)(l:WD),Qb [] w l->
  (∀g c d,e g c->w.heap.size<=c.heap.size->Qb T c d->e g d)->(∀g c d,h g c->w.heap.size<=c.heap.size->Qb T c d->h g d)->
  (∀d j g,e d g->w.heap.size<=g.heap.size->Ok d j->YieldAt Fence.wide 4 P m (i j) g fun i c=>
   (i=.returned (.bool true)/\e (d++[j]) c/\(∀b∈T,c.heap[b]?=g.heap[b]?)/\w.heap.size<=c.heap.size)\/(i=.returned (.bool false)/\h (d++[j]) c))->
  e [] l->
  CallsIn Fence.wide 5 P gf (#[.func (.yield m) #[] #[]]++lb) l fun i c=>(∃g,i=.returned g)/\((∃g,S g/\e g c)\/(∃d,n d/\h d c))
def kH{P:Program}{α:Type}{g:Operand}{e:Array Tmp}{assign body:Code}{d:Exit->Act->WD->Prop}{a:Act}{w:WD}
 {gf:Nat}{lb:Array VL}(L:a.eval g=.func (.func gf) #[] lb)(C:∀args w,(callFunc gf args).run P w=.ok (.enter gf args) w)
 {n:α->Array VL}{T:LN}{Ok:List α->α->Prop}{S m:List α->Prop}(Q:Mu P gf lb n T Ok S m w)(u:∀b∈T,b<w.heap.size)(M:∀x,(n x).size=e.size)
 (i:List α->WD->Prop)(j:Code->List α->WD->Prop)(y:∀s A h,i s A->w.heap.size<=A.heap.size->Vr T w.heap.size A h->i s h)(z:∀c s A h,j c s A->w.heap.size<=A.heap.size->Vr T w.heap.size A h->j c s h)(h0:i [] w)
 (O:∀(l:Nat)(pre:List α)(x:α)(W:WD),i pre W->Ok pre x->w.heap.size<=W.heap.size->∃q:Act,
  (∀(o:WD)(K:Act->WD->Prop),K q o->assign.wpIn (Fence.wide.inRound l) 4 P (Exit.then K fun _ _ _=>False) {tmps:=(e.zip<|n x).foldl (fun t (p,v)=>t.setIfInBounds p v) a.tmps,defers:=[]} o)/\
  body.wpIn (Fence.wide.inRound l) 4 P (Qfn T i j (pre++[x]) W) q W)
 (I:∀(D:Nat)(xs:List α)(W:WD),w<=D->S xs->i xs W->W.heap[D]?=some (.deferred<|some [])->d .normal {a with defers:={target:=.collected D,args:=#[]}::a.defers} W)
 (R:∀(D:Nat)(c:Code)(pre:List α)(W:WD),w<=D->m pre->j c pre W->W.heap[D]?=some (.deferred<|some [])->c.wpIn Fence.wide 6 P d {a with defers:={target:=.collected D,args:=#[]}::a.defers} W):
 (Code.rangeFunc g e assign body).wpIn Fence.wide 6 P d a w:=by
 refine wpIn_rangeFunc ?_;intro fn J;rw[show Fence.wide.round=none from rfl];obtain⟨d,m⟩:∃d:LoopState->Option Code->Loop,d=fun st o=>{state:=st,pending:=o,fn,tmps:=a.tmps,params:=e,assign,body,defers:=w.heap.size}:=⟨_,rfl⟩
 have⟨e,o⟩:=qx<|(w.alloc<|.deferred<|some []).alloc<|.loop<|d .ready none;have H:e.heap[w.heap.size+1]?=some (.loop<|d .ready none):=by rw[<-o];have:=World.alloc_heap_new (w.alloc<|.deferred<|some [])<|.loop<|d .ready none;rwa[Ux]at this
 have G:e.heap[w.heap.size]?=some (.deferred<|some []):=by rw[<-o];exact(Below.heap_alloc _ _ _ sx).trans<|World.alloc_heap_new w _
 have B:Qb [] w e:=by rw[<-o];exact((Qc _ _).alloc _).alloc _
 have F:i [] e:=y _ _ _ h0 (Qk _) (.of<|B.mono sx);refine⟨w.heap.size+1,[{target:=.collected w,args:=#[]}],e,{target:=.fn (.func gf) lb,args:=#[.func (.yield<|w.heap.size+1) #[] #[]]},e,gf,
  #[.func (.yield<|w.heap.size+1) #[] #[]]++lb,e,?_,?_,fun _ _=>trivial,?_,fun E=>by simp[Fence.wide]at E,?_⟩
 ·rw[<-o,m];exact run_enterLoop_outer _ _ _ _ _
 ·simp only[resolve,L];simp[go_sem]
 ·simp[invoke,go_sem,C]
 have o:∀k,w.heap.size<=k->k∉T:=fun k hk C=>by have:=u k C;omega
 refine(Q (w.heap.size+1)
  (fun pre W=>i pre W/\W.heap[w.heap.size+1]?=some (.loop<|d .ready none)/\W.heap[w.heap.size]?=some (.deferred<|some []))
  (fun pre W=>∃c,j c pre W/\W.heap[w.heap.size+1]?=some (.loop<|d .done<|some c)/\W.heap[w.heap.size]?=some (.deferred<|some []))
  e B
  (fun s A h hs hz hk=>⟨y s A h hs.1 hz<|.of hk,hk.heap hs.2.1<|o _ ox,hk.heap hs.2.2<|o _<|Qk _⟩)
  (fun s A h hs hz hk=>by obtain⟨c,i,e,j⟩:=hs;exact⟨c,z c s A h i hz<|.of hk,hk.heap e<|o _ ox,hk.heap j<|o _<|Qk _⟩)
  ?_ ⟨F,H,G⟩).mono ?_
 ·rintro pre x W⟨hi,e,hk⟩ h o;have hlt:w.heap.size+1<W.heap.size:=(RR.1 e).1;have h:=run_yield (P:=P) (args:=n x) e (by rw[m];exact M x);rw[m]at h;obtain⟨q,i,j⟩:=O (w.heap.size+1) pre x (W.putObj (w.heap.size+1)<|.loop {d .ready none with state:=.busy}) (y _ _ _ hi ox<|.put _ e rfl ox) o zx;refine⟨fn,_,assign,body,h,roundIn_of_wpIn J<|i W _ ⟨_,run_beginRound e<|by rw[m],?_⟩⟩;have o:(W.putObj (w.heap.size+1)<|.loop {d .ready none with state:=.busy}).heap[w.heap.size+1]?=some (.loop {d .ready none with state:=.busy}):=World.putObj_heap_same hlt;have n:(W.putObj (w.heap.size+1)<|.loop {d .ready none with state:=.busy}).heap[w.heap.size]?=some (.deferred<|some []):=(World.putObj_heap_other ox).trans hk;have C:∀(A:WD)(h:Obj),∀b∈T,(A.putObj (w.heap.size+1) h).heap[b]?=A.heap[b]?:=fun A h b hb=>World.putObj_heap_other (yx (u b hb))
  refine wpIn_mono j ?_;have fin:∀(i:Option Code)(h:WD),KeepsOthers (W.putObj (w.heap.size+1)<|.loop {d .ready none with state:=.busy}) h->
   (Instr.endRound (w.heap.size+1) i).run P h=.ok (.bool i.isNone) (h.putObj (w.heap.size+1)<|.loop<|d (if i.isNone then .ready else .done) i)/\
   h.heap[w.heap.size+1]?=some (.loop {d .ready none with state:=.busy})/\
   (h.putObj (w.heap.size+1)<|.loop<|d (if i.isNone then .ready else .done) i).heap[w.heap.size+1]?=some (.loop<|d (if i.isNone then .ready else .done) i)/\
   (h.putObj (w.heap.size+1)<|.loop<|d (if i.isNone then .ready else .done) i).heap[w.heap.size]?=some (.deferred<|some [])/\w.heap.size<=h.heap.size:=fun i h j=>by
   have d:=j.same _ _ o rfl;have:=run_endRound (P:=P) i d;rw[m]at this ⊢;exact⟨this,by rwa[m]at d,World.putObj_heap_same (RR.1 d).1,(World.putObj_heap_other ox).trans<|j.same _ _ n rfl,yx ((RR.1 d).1)⟩
  rintro B a3 h hp;cases B with
  |normal=>obtain⟨j,E,n⟩:=hp;obtain⟨u,d,q,o,i⟩:=fin none h j;exact⟨_,_,u,.inl ⟨rfl,⟨y _ _ _ n i<|.put _ d rfl ox,q,o⟩,fun b hb=>(C _ _ b hb).trans<|(E b hb).trans<|C _ _ b hb,by simp;exact i⟩⟩
  |ret=>obtain⟨j,n⟩:=hp;obtain⟨u,d,q,o,i⟩:=fin (some .ret) h j;exact⟨_,_,u,.inr ⟨rfl,_,z _ _ _ _ n i<|.put _ d rfl ox,q,o⟩⟩
  |exit id=>obtain⟨j,n⟩:=hp;obtain⟨u,d,q,o,i⟩:=fin (some<|.exit id) h j;exact⟨_,_,u,.inr ⟨rfl,_,z _ _ _ _ n i<|.put _ d rfl ox,q,o⟩⟩
  |goto t=>obtain⟨j,n⟩:=hp;obtain⟨u,d,q,o,i⟩:=fin (some<|.goto t) h j;exact⟨_,_,u,.inr ⟨rfl,_,z _ _ _ _ n i<|.put _ d rfl ox,q,o⟩⟩
  |panic ch=>exact hp.elim
  |outgrown=>exact hp.elim
 rintro B d⟨⟨v,rfl⟩,(⟨xs,h,hi,e,hk⟩|⟨pre,i,c,hi,e,hk⟩)⟩
 ·have hz:w.heap.size<=d.heap.size:=yx ((RR.1 e).1)
  exact⟨none,_,by have:=run_endLoop (P:=P) e (by rw[m];simp);rw[m]at this;exact this,I _ xs _ (Qk _) h (y _ _ _ hi hz<|.put _ e rfl ox)<|(World.putObj_heap_other ox).trans hk⟩
 have hz:w.heap.size<=d.heap.size:=yx ((RR.1 e).1)
 exact⟨some c,_,by have:=run_endLoop (P:=P) e (by rw[m];simp);rw[m]at this;exact this,R _ c pre _ (Qk _) i (z c _ _ _ hi hz<|.put _ e rfl ox)<|(World.putObj_heap_other ox).trans hk⟩
def SN(z m)(h:z.cells=#[z]):(Builtin.zeroCells z.cells m).toList=List.replicate m z:=by
 rw[h];apply List.ext_getElem
 ·simp[Builtin.zeroCells]
 intro c c c;simp[Builtin.zeroCells,Nat.mod_one]
def Qia{P}(w t u g e z bytes)(o:P.underlying t=some (.slice e))(hu:P.underlying u=some (.int .i64))(T:(P.info? e).map (fun i=>(i.zero,i.size,i.bytes))=some (some z,1,bytes))(hz:z.cells=#[z])(J:z.oneCell'=true)(v xs)(G:Qh w e v xs)(m)(y:xs.length+m<=maxLen)(hb:(xs.length+m)*bytes<=140737488355328):
 ∃a' d w',(Builtin.append_ #[t,u] g #[v,(m:Int)]).run P w=.ok (.slice a' (xs.length+m) d) w'/\Qh w' e (.slice a' (xs.length+m) d) (xs++List.replicate m z)/\Qb (Qd v) w w'/\
  QQ w.heap.size (Qd v) (Qd<|.slice a' (xs.length+m) d):=by
 obtain⟨i,hi,h0,n,d⟩:=VR T;subst d;have j:xs.length+m<=9223372036854775807:=by simp only[maxLen]at y;omega
 have hw:IntKind.i64.wrap (m:Int)=(m:Int):=Za _ ox;have D:¬((m:Int)<0):=ox
 have I:IntKind.i64.wrap 0=0:=dx
 have:m*i.bytes<=140737488355328:=QS (Be _ ox) hb;have d:¬((2:Int)^48<(m:Int)*i.bytes):=by
  have:((m*i.bytes:Nat):Int)=m*(i.bytes:Int):=by push_cast;rfl
  rw[<-this];omega
 have C:¬(281474976710656<(m:Int)*i.bytes):=by simpa using d
 have:(xs++List.replicate m z).length=(xs.length+m)*1:=sx
 have E:=SN z m hz;have ha:∀(q:Int)(d:WD),Sem.run P (asInt<|.int .i64 q) d=.ok q d:=fun _ _=>rfl
 have H:∀r:LV,List.take (xs.length+m) (xs++(List.replicate m z++r))=xs++List.replicate m z:=fun r=>by rw[<-QR];exact List.take_left' sx
 have fresh:∀(old:Nat),old<xs.length+m->∀(g:Array VL)(d:Nat),xs.length+m<=d->d<=maxLen->g.size=d->g.toList.take (xs.length+m)=xs++List.replicate m z->
  Qh (w.drew.alloc<|.cells g e) e (.slice w (xs.length+m) d) (xs++List.replicate m z):=fun old h g d g1 h g3 g4=>
  ⟨sx,.inr ⟨w.heap.size,d,_,sx,Zv _,Xq w.drew _,by simp;exact g1,h,by simpa using g3,by simpa using g4⟩⟩
 have kept:∀g:Array VL,Qb (Qd v) w (w.drew.alloc<|.cells g e):=fun g=>((Qc _ w).drew).alloc _
 have grew:∀d,QQ w (Qd v) (Qd<|.slice w (xs.length+m) d):=fun d q p=>.inr (by simp[Qd,qo]at p;omega)
 rcases G.2 with⟨rfl,p⟩|⟨d,cap,h,rfl,g,F,g,A,g,M⟩
 ·have g:xs=[]:=J4 p;subst g
  by_cases g:m=0
  ·subst g;refine⟨none,0,w,?_,by simpa using Qh.nil w e,Qc _ _,QQ.refl _ _⟩;simp[Builtin.append_,Jn o,Jn hu,sizeOf,typeInfo,hi,n,ha,I]
  have B:=grownCap_ge w m 0 e;have A:=Oi w m 0 e (by simpa using y);have x:¬(9223372036854775807<(m:Int)):=by simp at j;omega
  have s:¬(281474976710656<Builtin.nextslicecap m 0*i.bytes):=by rw[nextslicecap_zero ox];omega
  refine⟨_,_,_,?_,fresh 0 zx (Builtin.zeroCells z.cells m++Builtin.zeroCells z.cells (grownCap w m 0 e-m)) (grownCap w m 0 e) (by simpa using B) A ?_ ?_,kept _,grew _⟩
  ·simp[Builtin.append_,Jn o,Jn hu,sizeOf,typeInfo,zeroValue,hi,h0,n,ha,hw,D,C,g,x,s,Question.forced,run_firstCells_none,newRow,grownCap]
  ·simp[size_zeroCells,hz];omega
  simp[Mn,E]
 by_cases l:xs.length+m<=cap
 ·have L:xs.length*1+(List.replicate m z).length<=h.size:=zx
  have j:=run_storeCells_at P d (xs.length*1) e (List.replicate m z) 0 h w F (by simpa using L) (by intro u hu;rw[BR hu];exact J);simp only[Jt]at j;refine⟨some ⟨d,0,none⟩,cap,w.setRow d (h.toList.take (xs.length*1)++List.replicate m z++h.toList.drop (xs.length*1+(List.replicate m z).length)).toArray,?_,⟨sx,.inr ⟨d,cap,_,sx,Zv _,LR w d h _ e _ F,by simp;exact l,A,?_,?_⟩⟩,?_,?_⟩
  ·simp only[RW,As]at j ⊢
   by_cases g:m=0
   ·subst g;simp[Builtin.append_,Jn o,Jn hu,sizeOf,typeInfo,hi,n,ha,I,l,Jc]at j ⊢;have A:xs<=cap:=l;simp[j,A]
   simp[Builtin.append_,Jn o,Jn hu,sizeOf,typeInfo,zeroValue,hi,h0,n,ha,hw,D,C,g,l,Jc,E];simp at j;rw[j];rfl
  ·simp;omega
  ·have:h.toList.take xs=xs:=(by simpa using M);simp[this,H]
  ·exact(Qc _ w).grown (c:=w.setRow d _) (row:=some d) ⟨rfl,rfl,rfl,sx,fun k _ hk=>setRow_other w d k _ fun e=>hk<|by simp[e]⟩ (by intro k hk;left;simp[Qd,qo]at hk ⊢;exact hk.symm)
  intro q p;left;simpa[Qd,qo]using p
 have holds:∀h u,xs[h]?=some u->w.cell? ((⟨d,0,none⟩:Addr).add h)=some u:=World.ownsRow.cells G (g:=d) rfl;have B:=grownCap_ge w (xs.length+m) cap e;have h:=Oi w (xs.length+m) cap e y;have j:=run_firstCells_some (P:=P) w.drew 1 xs ⟨d,0,none⟩ xs cap xs sx (by simpa using holds);have x:¬(9223372036854775807<((xs:Int)+m)):=ox
 have s:¬(281474976710656<Builtin.nextslicecap (xs.length+m) cap*i.bytes):=yx (KR (need:=xs.length+m) (old:=cap) ox hb)
 have g:m≠0:=ox
 refine⟨_,_,_,?_,fresh cap ox (xs.toArray++Builtin.zeroCells z.cells m++Builtin.zeroCells z.cells (grownCap w (xs.length+m) cap e-(xs.length+m))) (grownCap w (xs.length+m) cap e) (by simpa using B) h ?_ ?_,kept _,grew _⟩
 ·simp[Builtin.append_,Jn o,Jn hu,sizeOf,typeInfo,zeroValue,hi,h0,n,ha,hw,D,C,g,l,x,s,Question.forced,j,newRow,grownCap]
 ·simp[size_zeroCells,hz];omega
 simp[Mn,E,H]
def oX{P w h j d a g}(p:d.guard=none)(s x:Operand)(t u)(q:d.op=Op.call {callee:=Callee.builtin Builtin.append,args:=#[s,x],argTypes:=#[t,u]})(e z bytes)(A:P.underlying t=some (.slice e))(hu:P.underlying u=some (.int .i64))(T:(P.info? e).map (fun i=>(i.zero,i.size,i.bytes))=some (some z,1,bytes))(hz:z.cells=#[z])(l:z.oneCell'=true)(v xs m)(hs:a.eval s=v)(B:a.eval x=.int .i64 (m:Int))(y:Qh w e v xs)(o:xs.length+m<=maxLen)(hb:(xs.length+m)*bytes<=140737488355328)(n:∀a' c w',Qh w' e (.slice a' (xs.length+m) c) (xs++List.replicate m z)->Qb (Qd v) w w'->QQ w.heap.size (Qd v) (Qd<|.slice a' (xs.length+m) c)->
  wpList P h g j (a.put d.dst<|.slice a' (xs.length+m) c) w'):
 wpList P h g (d::j) a w:=by
 obtain⟨a',c,w',h,j,hk,g⟩:=Qia (P:=P) w t u d.type e z bytes A hu T hz l v xs y m o hb;refine El p fun d d=>?_
 unfold Oper.wp;simp only[execOp,q,resolve,invoke,builtin,Sem.run_bind,Sem.run_pure,Ua,Bc,QV,Y6,hs,B,h];exact d _ _<|n a' c w' j hk g
