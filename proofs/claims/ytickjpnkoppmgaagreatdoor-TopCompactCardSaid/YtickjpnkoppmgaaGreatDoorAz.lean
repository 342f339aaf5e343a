import Derived.ProofKit
import Derived.OpenShut
import Derived.ShutString
import Derived.ChangeOld
import Derived.SizedLaws
import Derived.Lib.SmallJoins
import Derived.Deep.Slices
import Derived.Lib.Split
import Derived.Shelf.SlSortCmp.Insertion
import Derived.Lib.Join
import Derived.RangeFuncNested
import Derived.RangeFuncBound
import Derived.RangeFuncCalls
import Derived.RangeFuncLeaves
import Derived.Test.YtickjpnkoppmgaaGreatDoorAf
set_option linter.all false
namespace Go.Proofs.YtickjpnkoppmgaaGreatDoor
open Go.Proofs.Tryz Go.RowKit K
section
open Go.ChangeShapes Go.WideShapes Go.ChangeAt Go.Deep
def own:ownKnob prog.godebug=none:=by kernel_rfl
def Qag:laidOutB prog=true:=by kernel_rfl
def fY{x}(a:(Lit.int .i64 x).wf=true): -9223372036854775808≤x∧x≤9223372036854775807:=by simp[Lit.wf,IntKind.min,IntKind.max,IntKind.signed,IntKind.bits]at a;omega
def aE{α:Type}(f:α→LV)(size)(hf:∀x,(f x).length=size):∀(xs:List α)(i r:Nat),r<size→(xs.flatMap f)[i*size+r]?=(xs[i]?).bind fun x=>(f x)[r]?
 | [],i,r,_=>by simp
 |x::xs,0,r,hr=>by rw[Jn,Xp (by rw[hf];omega)];simp
 |x::xs,i+1,r,hr=>by rw[Jn,Zx (by rw[hf,CT];omega),hf,show(i+1)*size+r-size=i*size+r by rw[CT];omega,aE f size hf xs i r hr];simp
def wP{α:Type}(f:α→LV)(size)(hf:∀x,(f x).length=size)(xs:List α):(xs.flatMap f).length=xs.length*size:=by
 induction xs with
 |nil=>simp
 |cons x xs ih=>rw[Jn,Qo,ih,hf,Q0,CT];omega
end
namespace K
abbrev QN:=Int × Int
def Us(a b:QN):Prop:=a.1<b.1∨(a.1=b.1∧a.2<b.2)
instance (a b:QN):Decidable (Us a b):=inferInstanceAs (Decidable (_∨_))
def FU(a b:QN):Bool:=!decide (Us b a)
def Jy(l:List QN):List QN:=l.mergeSort FU
def Ny{a b:QN}:FU a b=true↔¬Us b a:=by simp[FU]
def iX(l):(Jy l).Pairwise fun a b=>¬Us b a:=by have c:=Lw (le:=FU) (fun a b d d d=>by rw[Ny]at*;unfold Us at*;omega) (fun a b=>by simp only[ET,Ny];unfold Us;omega) l;exact c.imp fun c=>Ny.1 c
def RK(l):(Jy l).Perm l:=Lv l FU
def Qgl{l l'}(hp:l'.Perm l)(hs:l'.Pairwise fun a b=>¬Us b a):l'=Jy l:=
 GI (le:=fun a b=>¬Us b a) (fun a b _ _ c c=>by unfold Us at*;exact Prod.ext (by omega)<|by omega) hs (iX l) (hp.trans (RK l).symm)
def Ab(cap:Int):Int→List QN→Bool
 |_,[]=>true
 |f,x::r=>if x.1<f∨x.2<1∨cap<x.1∨cap-x.1<x.2 then false else Ab cap (x.1+x.2) r
def ZX(cap:Int)(l:List QN):Bool:=Ab cap 30 (Jy l)
def RC(cap:Int):Int→List QN→List QN
 |f,[]=>if f<max cap 30 then [(f,max cap 30-f)]else []
 |f,x::r=>(if f<x.1 then [(f,x.1-f)]else [])++RC cap (x.1+x.2) r
def Er(cap need f:Int)(l:List QN):Option QN:=(RC cap f l).find? fun a=>decide (need≤a.2)
def Y5(cap:Int)(l:List QN)(need:Int):Option Int:=if ZX cap l then(Er cap need 30 (Jy l)).map (·.1)else none
def Uj(a b:QN):Prop:=a.1+a.2≤b.1∨b.1+b.2≤a.1
def inX(cap:Int)(x:QN):Prop:=30≤x.1∧1≤x.2∧x.1+x.2≤cap
def MD(cap):∀(l:List QN)(f:Int),Ab cap f l=true↔(∀x∈l,f≤x.1∧1≤x.2∧x.1+x.2≤cap)∧l.Pairwise fun a b=>a.1+a.2≤b.1
 | [],f=>by simp[Ab]
 |x::r,f=>by
  rw[Ab]
  split
  ·rename_i h;refine⟨fun h=>by simp at h,fun⟨o,_⟩=>?_⟩;have:=o x<|YH ..;omega
  rename_i h;rw[MD cap r,Vm];constructor
  ·rintro⟨o,h2⟩;refine⟨fun y q=>?_,fun y q=>(o y q).1,h2⟩;rcases QE.1 q with e|e
   ·subst e;omega
   have:=o y e;omega
  rintro⟨o,h2,h3⟩;exact⟨fun y q=>⟨h2 y q,(o y<|XW _ q).2⟩,h3⟩
def YD(cap l):ZX cap l=true↔(∀x∈l,inX cap x)∧l.Pairwise Uj:=by
 unfold ZX;rw[MD];have hp:=RK l;have hs:=iX l;have b:∀{c d:QN},Uj c d→Uj d c:=fun a=>a.symm
 rw[←hp.pairwise_iff b];constructor
 ·rintro⟨b,e⟩;exact⟨fun x f=>b x<|hp.mem_iff.2 f,e.imp fun a=>.inl a⟩
 rintro⟨b,e⟩;refine⟨fun x f=>b x<|hp.mem_iff.1 f,?_⟩;refine(List.pairwise_and_iff.2 ⟨hs,e⟩).imp_of_mem fun {c d} ha hb ⟨h3,h4⟩=>?_
 have ha:=b c<|hp.mem_iff.1 ha;have hb:=b d<|hp.mem_iff.1 hb;unfold Us at h3;unfold inX at ha hb;rcases h4 with a|a<;>omega
def Uq(l:List QN)(t need:Int):Prop:=∀a∈l,t+need≤a.1∨a.1+a.2≤t
def MZ(cap need)(hn:1≤need)(hc:30≤cap):∀(l:List QN)(f:Int),Ab cap f l=true→
 (∀g,Er cap need f l=some g→f≤g.1∧g.1+need≤cap∧Uq l g.1 need∧∀t,f≤t→t<g.1→¬Uq l t need)∧
 (Er cap need f l=none→∀t,f≤t→t+need≤cap→¬Uq l t need)
 | [],f,_=>by
   unfold Er RC;rw[Int.max_eq_left hc];refine⟨fun g o=>?_,fun h t h1 q=>?_⟩
   ·split at o
    ·rename_i hf
     by_cases h:need≤cap-f
     ·rw[GM<|by simpa using h]at o;injection o with o;subst o;exact⟨Av _,by simp;omega,by simp[Uq],fun t h1 q=>by simp at q;omega⟩
     rw[Lp<|by simpa using h]at o;cases o
    cases o
   intro _
   split at h
   ·rw[GM (by simp;omega)]at h;cases h
   omega
 |x::r,f,h=>by
  have hq:=h;rw[Ab]at h
  split at h
  ·cases h
  rename_i hx;obtain⟨h1,q⟩:=MZ cap need hn hc r (x.1+x.2) h;have x0:=(MD cap r _).1 h;simp only[Er]at h1 q ⊢;rw[RC]
  by_cases hf:f<x.1∧need≤x.1-f
  ·rw[Qg hf.1,GS,GM<|by simpa using hf.2];refine⟨fun g o=>?_,fun h=>by cases h⟩;injection o with o;subst o;refine⟨Av _,by simp;omega,fun y hy=>?_,fun t h1 q=>by simp at q;omega⟩;rcases QE.1 hy with e|e
   ·subst e;simp;omega
   have:=x0.1 y e;simp;omega
  have x1:((if f<x.1 then [(f,x.1-f)]else [])++RC cap (x.1+x.2) r).find? (fun x=>decide<|need≤x.2)=(RC cap (x.1+x.2) r).find? (fun x=>decide<|need≤x.2):=by
   split
   ·rw[GS,Lp (by simp;omega)]
   rfl
  rw[x1];have h8:∀t,f≤t→t<x.1+x.2→¬Uq (x::r) t need:=fun t h3 h4 h5=>by have:=h5 x<|YH ..;omega
  have h9:∀t,¬Uq r t need→¬Uq (x::r) t need:=fun t h3 h4=>h3 fun y hy=>h4 y<|XW _ hy
  refine⟨fun g o=>?_,fun o t h3 h4=>?_⟩
  ·obtain⟨a,b,c,d⟩:=h1 g o;refine⟨by omega,b,fun y hy=>?_,fun t h3 h4=>?_⟩
   ·rcases QE.1 hy with e|e
    ·subst e;omega
    exact c y e
   by_cases h5:t<x.1+x.2
   ·exact h8 t h3 h5
   exact h9 t<|d t (by omega) h4
  by_cases h5:t<x.1+x.2
  ·exact h8 t h3 h5
  exact h9 t<|q o t (by omega) h4
def IP{cap need g l}(hn:1≤need)(hc:30≤cap)(h:Y5 cap l need=some g):
 ZX cap l=true∧30≤g∧g+need≤cap∧Uq l g need∧∀t,30≤t→t<g→¬Uq l t need:=by
 unfold Y5 at h
 split at h
 ·rename_i hk;obtain⟨x,hx,e⟩:=Sm.1 h;subst e;obtain⟨a,b,c,d⟩:=(MZ cap need hn hc _ 30 hk).1 x hx;have hp:=fun t=>show Uq (Jy l) t need↔Uq l t need from⟨fun h y o=>h y<|(RK l).mem_iff.2 o,fun h y o=>h y<|(RK l).mem_iff.1 o⟩
  exact⟨hk,a,b,(hp _).1 c,fun t q h2 h3=>d t q h2<|(hp t).2 h3⟩
 cases h
def wG{cap need l}(f:1≤need)(e:30≤cap)(hk:ZX cap l=true)(a:Y5 cap l need=none):∀t,30≤t→t+need≤cap→¬Uq l t need:=by
 unfold Y5 at a;rw[Qg hk]at a;have a:=Option.map_eq_none_iff.1 a;have hp:=fun t=>show Uq (Jy l) t need↔Uq l t need from⟨fun a c b=>a c<|(RK l).mem_iff.2 b,fun a c b=>a c<|(RK l).mem_iff.1 b⟩
 exact fun t b c d=>(MZ cap need f e _ 30 hk).2 a t b c ((hp t).2 d)
end K
namespace K
def Ze(n:Nat):LU:=List.replicate n 0
def VA(n):(Ze n).length=n:=RV
def Ve:Nat→Nat→LU
 |0,_=>[]
 |k+1,n=>UInt8.ofNat (48+n/8^k%8)::Ve k n
def Gg:∀k n,(Ve k n).length=k
 |0,_=>rfl
 |k+1,n=>by rw[Ve,Q0,Gg k]
def Zc(n w:Nat):LU:=Ve (w-1) n++[0]
def Nu(b:UInt8):Bool:=decide (48≤b.toNat)&&decide (b.toNat≤55)
def eW:∀k n,(Ve k n).all Nu=true
 |0,_=>rfl
 |k+1,n=>by
  rw[Ve,List.all_cons,eW k n,Bool.and_true];have:n/8^k%8<8:=JL _ (by decide);have a:(UInt8.ofNat<|48+n/8^k%8).toNat=48+n/8^k%8:=by rw[U7,XP<|by omega]
  simp only[Nu,a];simp;omega
def Vj(v:Nat)(l:LU):Nat:=l.foldl (fun v a=>8*v+(a.toNat-48)) v
def lF:∀k n v,Vj v (Ve k n)=v*8^k+n%8^k
 |0,n,v=>by simp[Vj,Ve,Nat.mod_one]
 |k+1,n,v=>by
  have:n/8^k%8<8:=JL _ (by decide);have b:(UInt8.ofNat<|48+n/8^k%8).toNat=48+n/8^k%8:=by rw[U7,XP<|by omega]
  have a:=lF k n<|8*v+n/8^k%8;unfold Vj at a ⊢;rw[Ve,BW,b,show 48+n/8^k%8-48=n/8^k%8 by omega,a,J5,Nat.mod_mul,V8];rw[show 8*v*8^k=v*(8^k*8)by rw[RX 8 v,GX,RX 8],RX<|n/8^k%8];omega
def Zp(s:LU)(w:Nat):LU:=s++Ze (w-s.length)
def BR(s w)(a:s.length≤w):(Zp s w).length=w:=by rw[Zp,Qo,VA];omega
def BJ(n w)(a:1≤w):(Zc n w).length=w:=by rw[Zc,Qo,Gg];simp;omega
def UU(l:LU):Nat→Nat
 |0=>0
 |i+1=>UU l i+if 148≤i∧i<156 then 32 else(l.getD i 0).toNat
def KP(l):∀i,UU l i≤255*i
 |0=>by simp[UU]
 |i+1=>by have:=KP l i;have:(l.getD i 0).toNat<256:=(l.getD i 0).toNat_lt;rw[UU];split<;>omega
def jS{a b}(h:∀i,¬(148≤i∧i<156)→a.getD i 0=b.getD i 0):∀i,UU a i=UU b i
 |0=>rfl
 |i+1=>by
  rw[UU,UU,jS h i]
  split
  ·rfl
  rename_i o;rw[h i o]
def CC(p:LU):Nat→Nat→Option (LU × LU)
 |0,_=>none
 |k+1,i=>if i+1<p.length∧i≤155 then(if p.getD i 0=47∧p.length-i-1≤100 then some (p.take i,p.drop (i+1))else CC p k (i+1))else none
def Uc(p:LU):Option (LU × LU):=if p.length≤100 then some ([],p)else CC p p.length 1
def jC(p):∀k i a b,CC p k i=some (a,b)→1≤i→1≤a.length∧a.length≤155∧1≤b.length∧b.length≤100∧p=a++47::b
 |0,i,a,b,h,_=>by cases h
 |k+1,i,a,b,h,hi=>by
  rw[CC]at h
  split at h
  ·rename_i h1
   split at h
   ·rename_i y;injection h with h;injection h with q e2;subst q e2;have o:i<p.length:=(by omega);refine⟨by simp;omega,by simp;omega,by simp;omega,by simp;omega,?_⟩;have h3:p[i]'o=47:=(by have:=y.1;rwa[RU,Qj o]at this);rw[←h3,←Z8 o,V6]
   exact jC p k (i+1) a b h (by omega)
  cases h
def KM{p a b}(h:Uc p=some (a,b)):(a=[]∧b=p∧p.length≤100)∨(1≤a.length∧a.length≤155∧1≤b.length∧b.length≤100∧p=a++47::b):=by
 unfold Uc at h
 split at h
 ·rename_i q;injection h with h;injection h with o e2;exact .inl ⟨o.symm,e2.symm,q⟩
 exact .inr<|jC p _ _ a b h<|Ql _
def Dl:LU:=[117,115,116,97,114,0,48,48]
def Cm(name:LU)(size:Nat):LU:=Zp name 100++(Zc 420 8++(Zc 0 8++(Zc 0 8++(Zc size 12++Zc 0 12))))
def EN(kind:UInt8)(pre:LU):LU:=[kind]++(Zp [] 100++(Dl++(Zp [] 32++(Zp [] 32++(Zc 0 8++(Zc 0 8++(Zp pre 155++Zp [] 12)))))))
def Nf(name size)(a:name.length≤100):(Cm name size).length=148:=by simp only[Cm,Qo,BR _ _ a,BJ _ _ (by decide:1≤8),BJ _ _ (by decide:1≤12)]
def kG(kind pre)(a:pre.length≤155):(EN kind pre).length=356:=by simp only[EN,Qo,BR _ _ a,BJ _ _ (by decide:1≤8),BR [] _<|ZF _];rfl
def CE(pre name:LU)(kind:UInt8)(size:Nat):Nat:=UU (Cm name size++(Ze 8++EN kind pre)) 512
def XL(pre name:LU)(kind:UInt8)(size:Nat):LU:=Cm name size++(Zc (CE pre name kind size) 7++([32]++EN kind pre))
def RE{pre name}(kind size)(a:name.length≤100)(hp:pre.length≤155):(XL pre name kind size).length=512:=by simp only[XL,Qo,Nf _ _ a,kG _ _ hp,BJ _ _ (by decide:1≤7)];rfl
def Qhc{pre name}(kind size)(a:name.length≤100)(hp:pre.length≤155):UU (XL pre name kind size) 512=CE pre name kind size:=by
 refine jS (fun b hi=>?_) 512;have d:=Nf name size a;have e:=BJ (CE pre name kind size) 7 (by decide);unfold XL;simp only[RU]
 by_cases a:b<148
 ·rw[Xp<|by omega,Xp<|by omega]
 have c:∀a:LU,(Cm name size++a)[b]?=a[b-148]?:=fun a=>by rw[Zx<|by omega,d]
 have d:∀a:LU,(Zc (CE pre name kind size) 7++a)[b-148]?=a[b-155]?:=fun a=>by rw[Zx<|by omega,e];exact Qu (a[·]?) (by omega)
 have e:∀a:LU,([32]++a)[b-155]?=a[b-156]?:=fun a=>by rw[Zx (by simp;omega)];exact Qu (a[·]?) (by simp;omega)
 have f:∀a:LU,(Ze 8++a)[b-148]?=a[b-156]?:=fun a=>by rw[Zx (by rw[VA];omega),VA];exact Qu (a[·]?) (by omega)
 rw[c,d,e,c,f]
def AL(n:Nat):Nat:=(512-n%512)%512
def X9(l:LU):LU:=l++Ze (AL l.length)
def AM(l):(X9 l).length=(l.length+511)/512*512:=by rw[X9,Qo,VA,AL];omega
def VR(n:Nat):LU:=[UInt8.ofNat (48+n/100),UInt8.ofNat (48+n/10%10),UInt8.ofNat (48+n%10)]
def ZY(v:LU):LU:=VR (v.length+10)++([32,112,97,116,104,61]++(v++[10]))
def Gi(v):(ZY v).length=v.length+10:=by simp[ZY,VR]
def JQ(path:LU)(size:Nat):LU:=
 match Uc path with
 |some (a,b)=>XL a b 48 size
 |none=>XL [] [112,97,120] 120 (path.length+10)++(X9 (ZY path)++XL [] (path.take 100) 48 size)
def Ng(path size)(a:path.length≤120):(JQ path size).length=512∨(JQ path size).length=1536:=by
 unfold JQ;cases hs:Uc path with
 |some ab=>obtain⟨b,b⟩:=ab;left;refine RE _ _ ?_ ?_<;>rcases KM hs with a|a<;>first|omega|(simp only[a.1,Yg];omega)|(rw[a.2.1];omega)
 |none=>
  right;have a:=RE (pre:=[]) (name:=[112,97,120]) 120 (path.length+10) (by decide) (by decide);have b:=RE (pre:=[]) (name:=path.take 100) 48 size (by simp;omega) (by decide);have:100<path.length:=by
   unfold Uc at hs
   split at hs
   ·cases hs
   omega
  rw[Qo,Qo,a,b,AM,Gi];omega
def Xc:Nat→Nat→LU
 |0,_=>[]
 |k+1,n=>UInt8.ofNat (n/256^k)::Xc k n
def Bu:∀k n,(Xc k n).length=k
 |0,_=>rfl
 |k+1,n=>by rw[Xc,Q0,Bu k]
end K
structure QI where
 cap:Nat
 img:LY
 lZ:Nat
structure QI.Ok(s:QI):Prop where
 c1:1≤s.cap
 c2:s.cap≤4096
 len:s.img.length≤s.cap
 sec:∀x∈s.img,x.length=512
 lZ:s.lZ≤1000000000
def K.flat_len:∀{l:LY},(∀x∈l,x.length=512)→l.flatten.length=512*l.length
 | [],_=>rfl
 |x::l,h=>by rw[DJ,Qo,h x<|by simp,K.flat_len fun b a=>h b<|by simp[a],Q0];omega
def K.AN:∀{l:LY},(∀x∈l,x.length=512)→∀n,l.flatten.take (512*n)=(l.take n).flatten∧l.flatten.drop (512*n)=(l.drop n).flatten
 | [],_,n=>by simp
 |x::l,h,0=>by simp
 |x::l,h,n+1=>by have c:=h x (by simp);obtain⟨a,b⟩:=AN (l:=l) (fun e d=>h e<|by simp[d]) n;rw[DJ,List.take_append,EZ,c,show 512*(n+1)-512=512*n by omega,a,b,Q8<|by omega,JI<|by omega];simp
def QI.Ok.flat{s:QI}(a:s.Ok):s.img.flatten.length=512*s.img.length:=K.flat_len a.sec
def K.J2(img:LY)(i:Nat)(x:LU):LY:=(img++List.replicate (i+1-img.length) (Ze 512)).set i x
def K.KY(img:LY)(i:Nat)(x:LU):(J2 img i x).length=max img.length (i+1):=by simp[J2];omega
def K.lR{img:LY}{i:Nat}{x:LU}(c:∀b∈img,b.length=512)(d:x.length=512):∀b∈J2 img i x,b.length=512:=by
 intro b a;rcases DP a with a|rfl
 ·rcases Q6.1 a with a|a
  ·exact c b a
  rw[Bl a,VA]
 exact d
def K.Qi7{img:LY}{i:Nat}{x:LU}:(J2 img i x)[i]?=some x:=by rw[J2,Fe];simp;omega
def K.Qi8{img:LY}{i k:Nat}{x:LU}(a:k≠i)(hk:k<img.length):(J2 img i x)[k]?=img[k]?:=by rw[J2,Lr<|Ne.symm a,Xp hk]
namespace K
def wrL:LY→Nat→LY→LY
 |img,_,[]=>img
 |img,i,x::r=>wrL (J2 img i x) (i+1) r
def lQ(x):∀(L:LY)(img:LY)(i:Nat),wrL img i (L++[x])=J2 (wrL img i L) (i+L.length) x
 | [],img,i=>rfl
 |y::L,img,i=>by rw[Yf,wrL,lQ x L,wrL,Q0,show i+1+L.length=i+(L.length+1)by omega]
def KX:∀(L:LY)(img:LY)(i:Nat),(wrL img i L).length=if L.length=0 then img.length else max img.length (i+L.length)
 | [],img,i=>rfl
 |y::L,img,i=>by
  rw[wrL,KX L,KY,Q0]
  split<;>split<;>omega
def lP:∀{L:LY}{img:LY}{i:Nat},(∀a∈img,a.length=512)→(∀a∈L,a.length=512)→∀a∈wrL img i L,a.length=512
 | [],img,i,h,_=>h
 |a::L,img,i,h,hl=>by rw[wrL];exact lP (lR h<|hl a<|by simp) (fun a hz=>hl a<|by simp[hz])
def UC(img:LY)(s:Nat)(L:LY):Prop:=∀a b,L[a]?=some b→img[s+a]?=some b
def CJ:∀(L:LY)(img:LY)(i k:Nat),(k<i∨i+L.length≤k)→k<img.length→(wrL img i L)[k]?=img[k]?
 | [],img,i,k,_,_=>rfl
 |y::L,img,i,k,h,hk=>by simp only[Q0]at h;rw[wrL,CJ L _ (i+1) k (by omega) (by rw[KY];omega),Qi8 (by omega) hk]
def Pu:∀(L:LY)(img:LY)(i:Nat),UC (wrL img i L) i L
 | [],img,i=>fun a c b=>by simp at b
 |y::L,img,i=>fun a c b=>by
  rw[wrL];cases a with
  |zero=>simp at b;subst b;exact(CJ L (J2 img i y) (i+1) i (by omega) (by rw[KY];omega)).trans Qi7
  |succ a=>have:=Pu L (J2 img i y) (i+1) a c (by simpa using b);rwa[show i+1+a=i+(a+1)by omega]at this
def UC.lt{img:LY}{s:Nat}{L:LY}(a:UC img s L)(h0:L≠[]):s+L.length≤img.length:=by have:0<L.length:=Lu.2 h0;have:=a (L.length-1) (L[L.length-1]'(by omega))<|Qj _;have:=(Qz.1 this).1;omega
def UC.wr{img:LY}{s i:Nat}{a:LY}(d:UC img s a)(L:LY)(b:s+a.length≤i∨i+L.length≤s):UC (wrL img i L) s a:=fun c e b=>by have:=(Qz.1 b).1;have a:=d c e b;rw[CJ L img i (s+c) (by omega) (Qz.1 a).1,a]
def UC.take{img:LY}{s:Nat}{a:LY}(b:UC img s a)(n:Nat)(c:s+a.length≤n):UC (img.take n) s a:=fun c d a=>by have:=(Qz.1 a).1;rw[Bo<|by omega,b c d a]
def Ry:Nat→LU→LY
 |0,_=>[]
 |n+1,l=>l.take 512::Ry n (l.drop 512)
def Wf:∀n l,(Ry n l).length=n
 |0,_=>rfl
 |n+1,l=>by rw[Ry,Q0,Wf n]
def Wd:∀(n:Nat)(l:LU),l.length=512*n→(Ry n l).flatten=l
 |0,l,h=>by rw[J3 (by omega:l.length=0)];rfl
 |n+1,l,h=>by rw[Ry,DJ,Wd n _ (by rw[Y0];omega),V6]
def Wg:∀(n:Nat)(l:LU),l.length=512*n→∀x∈Ry n l,x.length=512
 |0,l,h=>by simp[Ry]
 |n+1,l,h=>by
  intro x a;rw[Ry]at a;rcases QE.1 a with rfl|a
  ·rw[Zl];omega
  exact Wg n _ (by rw[Y0];omega) x a
def We:∀(n:Nat)(l:LU)(k:Nat),k<n→(Ry n l)[k]?=some ((l.drop<|512*k).take 512)
 |0,l,k,h=>by omega
 |n+1,l,0,h=>by simp[Ry]
 |n+1,l,k+1,h=>by rw[Ry,V3,We n _ k<|by omega,GL,show 512+512*k=512*(k+1)by omega]
end K
def QI.wr(s:QI)(i:Nat)(L:LY):QI:={s with img:=K.wrL s.img i L,lZ:=s.lZ+L.length}
def QI.tick(s:QI)(n:Nat):QI:={s with lZ:=s.lZ+n}
def QI.cut(s:QI)(n:Nat):QI:={s with img:=s.img.take n,lZ:=s.lZ+1}
def QI.Ok.wr{s:QI}(a:s.Ok){i x}(hi:i<s.cap)(c:x.length=512)(b:s.lZ+1≤1000000000):QI.Ok {s with img:=J2 s.img i x,lZ:=s.lZ+1}:=
 ⟨a.c1,a.c2,by have:=a.len;show(J2 s.img i x).length≤s.cap;rw[KY];omega,lR a.sec c,b⟩
namespace K
def ZG:LU→LY
 | []=>[[]]
 |b::r=>if b=47 then []::ZG r else match ZG r with
  | []=>[[b]]
  |c::cs=>(b::c)::cs
def Z6:LY→LU
 | []=>[]
 | [c]=>c
 |c::d::r=>c++47::Z6 (d::r)
def uR(s):∃c a,ZG s=c::a:=by
 cases s with
 |nil=>exact⟨[],[],rfl⟩
 |cons b r=>
  unfold ZG
  split
  ·exact⟨_,_,rfl⟩
  split
  ·exact⟨_,_,rfl⟩
  exact⟨_,_,rfl⟩
def Nv:∀s:LU,Z6 (ZG s)=s
 | []=>rfl
 |b::r=>by
  have o:=Nv r;obtain⟨c,q,e⟩:=uR r;unfold ZG
  split
  ·rename_i h;subst h;rw[e]at o ⊢;rw[Z6,o];rfl
  rw[e]at o ⊢;cases q with
  |nil=>simp[Z6]at o ⊢;exact o
  |cons d q=>simp only[Z6,Yf]at o ⊢;rw[o]
def uQ{a b}(c:ZG a=ZG b):a=b:=by rw[←Nv a,c,Nv]
def XS:LY→LY→Int
 | [],[]=>0
 | [],_::_=> -1
 |_::_,[]=>1
 |a::x,b::y=>if a=b then XS x y else Lib.compareBytes a b
def Xd(a b:LU):Int:=XS (ZG a) (ZG b)
def TV:∀a:LU,Lib.compareBytes a a=0
 | []=>rfl
 |a::r=>by simp[Lib.compareBytes,TV r,UInt8.lt_irrefl]
def TU:∀a b:LU,Lib.compareBytes a b=0→a=b
 | [],[],_=>rfl
 | [],_::_,h=>by simp[Lib.compareBytes]at h
 |_::_,[],h=>by simp[Lib.compareBytes]at h
 |a::x,b::y,h=>by
  unfold Lib.compareBytes at h
  split at h
  ·cases h
  split at h
  ·cases h
  rename_i o q;rw[TU x y h,show a=b from UInt8.le_antisymm (Ee.1 q) (Ee.1 o)]
def MB:∀a b:LU,Lib.compareBytes a b= - Lib.compareBytes b a
 | [],[]=>rfl
 | [],_::_=>rfl
 |_::_,[]=>rfl
 |a::x,b::y=>by
  unfold Lib.compareBytes
  by_cases c:a<b
  ·rw[Qg c,Qf<|UInt8.lt_asymm c,Qg c]
  rw[Qf c]
  by_cases d:b<a
  ·rw[Qg d,Qg d];rfl
  rw[Qf d,Qf d,Qf c,MB x y]
def TW:∀a b c:LU,Lib.compareBytes a b<0→Lib.compareBytes b c<0→Lib.compareBytes a c<0
 | [],_,[],h1,h2=>by rename_i b;have:=MB [] b;omega
 | [],_,_::_,_,_=>by simp[Lib.compareBytes,XS]
 |_::_,[],_,h,_=>by simp[Lib.compareBytes]at h
 |_::_,_::_,[],_,h=>by simp[Lib.compareBytes]at h
 |a::x,b::y,c::z,h1,h2=>by
  unfold Lib.compareBytes at h1 h2 ⊢
  by_cases h3:a<b
  ·by_cases o:b<c
   ·rw[Qg<|UInt8.lt_trans h3 o];decide
   rw[Qf o]at h2
   by_cases q:c<b
   ·rw[Qg q]at h2;omega
   have e:b=c:=UInt8.le_antisymm (Ee.1 q)<|Ee.1 o;rw[←e,Qg h3];decide
  rw[Qf h3]at h1
  by_cases h4:b<a
  ·rw[Qg h4]at h1;omega
  have e:a=b:=UInt8.le_antisymm (Ee.1 h4)<|Ee.1 h3;subst e;rw[Qf h4]at h1
  by_cases o:a<c
  ·rw[Qg o];decide
  rw[Qf o]at h2 ⊢
  by_cases q:c<a
  ·rw[Qg q]at h2;omega
  rw[Qf q]at h2 ⊢;exact TW x y z h1 h2
def TY:∀a:LY,XS a a=0
 | []=>rfl
 |a::r=>by rw[XS,Qg rfl,TY r]
def TX:∀a b:LY,XS a b=0→a=b
 | [],[],_=>rfl
 | [],_::_,h=>by simp[XS]at h
 |_::_,[],h=>by simp[XS]at h
 |a::x,b::y,h=>by
  unfold XS at h
  split at h
  ·rename_i e;rw[e,TX x y h]
  rename_i e;exact absurd (TU a b h) e
def MC:∀a b:LY,XS a b= - XS b a
 | [],[]=>rfl
 | [],_::_=>rfl
 |_::_,[]=>rfl
 |a::x,b::y=>by
  unfold XS
  by_cases c:a=b
  ·rw[Qg c,Qg c.symm,MC x y]
  rw[Qf c,Qf fun d=>c d.symm,MB a b]
def TZ:∀a b c:LY,XS a b<0→XS b c<0→XS a c<0
 | [],b,[],h1,h2=>by have:=MC [] b;omega
 | [],_,_::_,_,_=>by simp[Lib.compareBytes,XS]
 |_::_,[],_,h,_=>by simp[XS]at h
 |_::_,_::_,[],_,h=>by simp[XS]at h
 |a::x,b::y,c::z,h1,h2=>by
  unfold XS at h1 h2 ⊢
  by_cases e:a=b
  ·subst e;rw[Qg rfl]at h1
   by_cases d:a=c
   ·rw[Qg d]at h2 ⊢;exact TZ x y z h1 h2
   rw[Qf d]at h2 ⊢;exact h2
  rw[Qf e]at h1
  by_cases d:b=c
  ·rwa[Qf<|d▸e,←d]
  rw[Qf d]at h2;have e:=TW a b c h1 h2
  by_cases d:a=c
  ·rw[d,TV]at e;omega
  rwa[Qf d]
def Dc(a):Xd a a=0:=TY _
def El{a b}(c:Xd a b=0):a=b:=uQ<|TX _ _ c
def Ek(a b):Xd a b= - Xd b a:=MC _ _
def FF{a b c}(d:Xd a b<0)(k:Xd b c<0):Xd a c<0:=TZ _ _ _ d k
def Qhm{α}(key:α→LU):Go.Sort.SWO (ltOf fun x d:α=>Xd (key x)<|key d) where
 irrefl x:=by simp[ltOf,Dc]
 trans x d z h k:=by simp only[ltOf,Zv]at h k ⊢;exact FF h k
 ntrans x d z h k:=by
  simp only[ltOf,Bz]at h k ⊢;intro hz;have:=Ek (key x)<|key d;have a2:=Ek (key d)<|key z
  by_cases e:Xd (key x) (key d)=0
  ·rw[El e]at hz;exact k hz
  by_cases e:Xd (key d) (key z)=0
  ·rw[←El e]at hz;exact h hz
  have:=FF (a:=key z) (b:=key d) (c:=key x) (by omega) (by omega);have a3:=Ek (key x)<|key z;omega
def bS(c):∀l:LU,(Lib.index l [c]= -1∧c∉l)∨∃pre post,l=pre++c::post∧c∉pre∧Lib.index l [c]=(pre.length:Nat)
 | []=>.inl ⟨rfl,by simp⟩
 |b::r=>by
  unfold Lib.index
  by_cases a:c=b
  ·subst a;exact .inr ⟨[],r,rfl,by simp,by simp[List.isPrefixOf]⟩
  have hp:([c]:LU).isPrefixOf (b::r)=false:=by simp[List.isPrefixOf,a]
  rw[hp];rcases bS c r with⟨d,e⟩|⟨pre,post,d,e,hi⟩
  ·left;simp[d,e,a]
  right;refine⟨b::pre,post,by rw[d];rfl,by simp[e,a],?_⟩;rw[hi];simp
def ML:∀s:LU,47∉s→ZG s=[s]
 | [],_=>rfl
 |b::r,h=>by simp only[QE,JU]at h;rw[ZG,Qf fun a=>h.1 a.symm,ML r h.2]
def MK:∀pre post:LU,47∉pre→ZG (pre++47::post)=pre::ZG post
 | [],post,_=>by rw[Yy,ZG,Qg rfl]
 |b::r,post,h=>by simp only[QE,JU]at h;rw[Yf,ZG,Qf fun a=>h.1 a.symm,MK r post h.2]
def jD:∀(n:Nat)(s:LU),s.length≤n→Lib.split s [47]=ZG s
 |n,s,hl=>by
  rcases bS 47 s with⟨a,b⟩|⟨c,post,a,b,hi⟩
  ·unfold Lib.split;rw[Lib.count_miss a,ML s b];rfl
  cases n with
  |zero=>subst a;simp at hl
  |succ n=>
   have e:=jD n post (by subst a;simp at hl;omega);unfold Lib.split at e ⊢;have d:s.drop (c.length+[(47:UInt8)].length)=post:=(by rw[a];simp);rw[Lib.count_hit (by simp) hi,d,BY,Lib.splitK,hi];have f:¬(((c.length:Nat):Int)== -1)=true:=fun a=>by have:=beq_iff_eq.1 a;omega
   rw[Qf f,Zs,d,e];rw[a,MK c post b];simp
def IE:∀s:LU,(ZG s).length≤s.length+1
 | []=>by simp[ZG]
 |b::r=>by
  have h:=IE r;unfold ZG
  split
  ·simp;omega
  split
  ·simp
  rename_i c o e;rw[e]at h;simp at h ⊢;omega
end K
section
structure RM where
 path:LU
 start:Int
 eZ:Int
 size:Int
 sum:Int
deriving DecidableEq
namespace K
section
variable {α:Type} (pt:α→LU)
def Ug(l:List α):Prop:=l.Pairwise fun a b=>Xd (pt a) (pt b)<0
def XY(m:α):List α→List α
 | []=>[m]
 |x::r=>if Xd (pt m) (pt x)<0 then m::x::r else if Xd (pt m) (pt x)=0 then m::r else x::XY m r
def UK(p:LU)(l:List α):List α:=l.filter fun a=>!(pt a==p)
variable {pt}
def Ez{a b}(d:Xd a b<0):a≠b:=fun c=>by rw[c,Dc]at d;omega
def KB:∀{a b:List α},Ug pt a→Ug pt b→(∀x,x∈a↔x∈b)→a=b
 | [],b,_,_,h=>by
   cases b with
   |nil=>rfl
   |cons y r=>exact absurd ((h y).2 (YH ..)) (by simp)
 |x::a,[],_,_,h=>absurd ((h x).1 (YH ..)) (by simp)
 |x::a,y::b,ha,hb,h=>by
  have ha:=Vm.1 ha;have hb:=Vm.1 hb;have c:x=y:=by
   rcases QE.1 ((h x).1 (YH ..))with c|c
   ·exact c
   rcases QE.1 ((h y).2 (YH ..))with d|d
   ·exact d.symm
   have:=hb.1 x c;have:=ha.1 y d;have:=Ek (pt x)<|pt y;omega
  subst c;rw[KB ha.2 hb.2 fun d=>?_];have:=h d;constructor
  ·intro hz;rcases QE.1 (this.1<|XW _ hz)with c|c
   ·subst c;exact absurd rfl<|Ez<|ha.1 d hz
   exact c
  intro hz;rcases QE.1 (this.2<|XW _ hz)with c|c
  ·subst c;exact absurd rfl<|Ez<|hb.1 d hz
  exact c
def dW{p l}{x:α}:x∈UK pt p l↔x∈l∧pt x≠p:=by simp[UK]
def OC{p l}(a:Ug pt l):Ug pt (UK pt p l):=List.Pairwise.filter _ a
def Dm{m:α}:∀{l:List α},Ug pt l→∀{x:α},x∈XY pt m l↔x=m∨(x∈l∧pt x≠pt m)
 | [],_,x=>by simp[XY]
 |y::r,h,x=>by
  have h:=Vm.1 h;rw[XY]
  split
  ·rename_i q;have hy:pt y≠pt m:=fun e=>by rw[e,Dc]at q;omega
   have hr:∀z∈r,pt z≠pt m:=fun z hz e=>by have:=FF q<|h.1 z hz;rw[e,Dc]at this;omega
   constructor
   ·intro hx;rcases QE.1 hx with e|e
    ·exact .inl e
    exact .inr ⟨e,by rcases QE.1 e with e|e;exact e▸hy;exact hr x e⟩
   rintro(e|⟨e,-⟩)
   ·rw[e];exact YH ..
   exact XW _ e
  split
  ·rename_i q h2;have e0:=El h2;constructor
   ·intro hx;rcases QE.1 hx with e|e
    ·exact .inl e
    exact .inr ⟨XW _ e,fun e'=>Ez (h.1 x e)<|by rw[e',e0]⟩
   rintro(e|⟨e,o⟩)
   ·rw[e];exact YH ..
   rcases QE.1 e with e|e
   ·subst e;exact absurd e0.symm o
   exact XW _ e
  rename_i q h2;rw[QE,Dm h.2,QE];have hy:pt y≠pt m:=fun e=>h2 (by rw[e,Dc])
  constructor
  ·rintro(e|e|⟨e,o⟩)
   ·exact .inr ⟨.inl e,e▸hy⟩
   ·exact .inl e
   exact .inr ⟨.inr e,o⟩
  rintro(e|⟨e|e,o⟩)
  ·exact .inr<|.inl e
  ·exact .inl e
  exact .inr<|.inr ⟨e,o⟩
def Cz{m:α}:∀{l:List α},Ug pt l→Ug pt (XY pt m l)
 | [],_=>by simp[XY,Ug]
 |y::r,h0=>by
  have h:=Vm.1 h0;rw[XY]
  split
  ·rename_i o;refine Vm.2 ⟨fun z hz=>?_,h0⟩;rcases QE.1 hz with e|e
   ·subst e;exact o
   exact FF o<|h.1 z e
  split
  ·rename_i o q;refine Vm.2 ⟨fun z hz=>?_,h.2⟩;have:=h.1 z hz;rwa[El q]
  rename_i o q;refine Vm.2 ⟨fun z hz=>?_,Cz h.2⟩;rcases(Dm h.2).1 hz with e|⟨e,-⟩
  ·subst e;have:=Ek (pt z)<|pt y;omega
  exact h.1 z e
def Nr(m:α):∀l,(XY pt m l).length≤l.length+1
 | []=>by simp[XY]
 |x::r=>by
  rw[XY];have:=Nr m r
  split
  ·simp
  split<;>simp<;>omega
end
abbrev U5(l:List RM):Prop:=Ug RM.path l
abbrev Vs(m:RM)(l:List RM):List RM:=XY RM.path m l
abbrev Ci(p:LU)(l:List RM):List RM:=UK RM.path p l
def Bd(l:List RM)(n:Bool × RM):List RM:=if n.1 then Vs n.2 l else Ci n.2.path l
def Zn(l:List RM)(ns:List (Bool × RM)):List RM:=ns.foldl Bd l
def Qey{l}(a:U5 l)(n):U5 (Bd l n):=by
 unfold Bd
 split
 ·exact Cz a
 exact OC a
def OB:∀{ns:List (Bool × RM)}{l:List RM},U5 l→U5 (Zn l ns)
 | [],_,h=>h
 |n::ns,l,h=>OB (ns:=ns)<|Qey h n
def Qg2(l n):(Bd l n).length≤l.length+1:=by
 unfold Bd
 split
 ·exact Nr _ _
 exact QS (DL _ _)<|DW _
def Ty:∀(ns:List (Bool × RM))(l:List RM),(Zn l ns).length≤l.length+ns.length
 | [],l=>Ql _
 |n::ns,l=>by have a:=Ty ns<|Bd l n;have:=Qg2 l n;simp only[Zn,BW,Q0]at a ⊢;omega
end K
end
namespace K
def Ck(b:UInt8):Bool:=decide (32≤b.toNat)&&decide (b.toNat≤126)
def Rh:LY→LY × Bool
 | []=>([],false)
 |c::r=>if c=[]∨c=[46]then Rh r else if c=[46,46]then([],true)else(c::(Rh r).1,(Rh r).2)
def VP(l:LU):LU × Int:=
 if l.all Ck then
  if(Rh (ZG l)).2∨Z6 (Rh (ZG l)).1=[]∨120<(Z6 (Rh (ZG l)).1).length then([],140)else(Z6 (Rh (ZG l)).1,0)
 else([],140)
def YC(l:LY):LY:=l.filter fun a=>!(decide (a=[]∨a=[46]))
def Oc:∀(a b:LY),[46,46]∉a→Rh (a++b)=(YC a++(Rh b).1,(Rh b).2)
 | [],b,_=>by simp[YC]
 |c::a,b,h=>by
  simp only[QE,JU]at h;have e:=Oc a b h.2;rw[Yf,Rh]
  by_cases d:c=[]∨c=[46]
  ·rw[Qg d,e,show YC (c::a)=YC a from List.filter_cons_of_neg (by simp only[d];decide)]
  rw[Qf d,Qf fun f=>h.1 f.symm,e,show YC (c::a)=c::YC a from List.filter_cons_of_pos (by simp only[d];decide)];rfl
def Wi{l i}(a:i<l.length)(hb:Ck (l[i]'a)=false):VP l=([],140):=by unfold VP;rw[Qf];intro ha;have:=XO.1 ha (l[i]'a)<|XV a;rw[hb]at this;cases this
def Nw:∀l:LY,Lib.join l [47]=Z6 l
 | []=>rfl
 | [c]=>by simp[Lib.join,Z6]
 |c::d::r=>by have a:=Nw<|d::r;simp only[Z6,Lib.join]at a ⊢;simp[a]
def wt(l:LY):Nat:=(l.map fun a=>a.length+1).sum
def lS(a b):wt (a++b)=wt a+wt b:=by unfold wt;rw[Xi,List.sum_append]
def bX:∀l,(Z6 l).length≤wt l
 | []=>ZF _
 | [c]=>by simp[Z6,wt]
 |c::d::r=>by have a:=bX<|d::r;unfold wt at a ⊢;rw[Z6,Qo,Q0,QR,Z9];omega
def Nx:∀l,wt (YC l)≤wt l
 | []=>Ql _
 |c::r=>by
  have a:=Nx r;unfold wt YC at a ⊢;rw[Fb]
  split<;>simp only[QR,Z9]<;>omega
def MM:∀s,wt (ZG s)=s.length+1
 | []=>rfl
 |b::r=>by
  have h:=MM r;unfold ZG
  split
  ·unfold wt at h ⊢;rw[QR,Z9,h];simp;omega
  split
  ·rename_i e;rw[e]at h;simp[wt]at h
  rename_i c o e;rw[e]at h;unfold wt at h ⊢;rw[QR,Z9]at h ⊢;simp at h ⊢;omega
def Yp(p:LU):Bool:=decide (VP p=(p,0))
def Un(p:LU):Int:=if Yp p then 0 else 140
def eY{p}:Yp p=true↔VP p=(p,0):=by simp[Yp]
def YK{p}(h:Yp p=true):p.all Ck=true∧1≤p.length∧p.length≤120:=by
 have h:=eY.1 h;unfold VP at h
 split at h
 ·rename_i y
  split at h
  ·injection h with o q;cases q
  rename_i o;simp only[JU,Bool.not_eq_true]at o;injection h with q h4;rw[q]at o;refine⟨y,?_,by omega⟩;rcases V9 p.length with h|h
  ·exact absurd (J3 h) o.2.1
  exact h
 injection h with o q;cases q
end K
def Zf(x:Int):Prop:=0≤x∧x≤4294967295
def Zf.bits(c:BinOp)(a b):Zf (bits c .u32 a b):=⟨bits_lo_u32 c a b,bits_hi_u32 c a b⟩
def Zf.half{a}(b:Zf a)(n:Nat)(c:n≠0):Zf (a/n):=by unfold Zf at b ⊢;exact⟨Int.ediv_nonneg b.1<|by omega,Int.le_trans (Int.ediv_le_self _ b.1) b.2⟩
def Bh:Nat→Int→Int→Int
 |0,o,_=>o
 |n+1,o,v=>Bh n (bits .or .u32 (o*2%4294967296) (bits .and .u32 v 1)) (v/2)
def kS:∀(n:Nat)(a v:Int),Zf a→Zf (Bh n a v)
 |0,a,v,h=>h
 |n+1,a,v,h=>kS n _ _<|Zf.bits _ _ _
def kT(v)(n:Nat)(w)(hv:Zf v)(hn:n≤32):Calls prog 98 #[.int .u32 v,(n:Int)] w fun e w'=>e=.returned (.int .u32<|Bh n 0 v)∧w=w':=by
 have HV:=Qa hv;clear hv;go_enter func98,ntmps98
 go_wp2
 go_loopg [0,5,7] n (fun k a b c wr=>∃(i:Nat)(o u:Int),k=n-i∧i≤n∧a=.int .u32 u∧b=.int .u32 o∧c=.int .i64 (i:Nat)∧Hid (Zf u∧Bh (n-i) o u=Bh n 0 v)∧w=wr)
 ·exact⟨0,0,v,by omega,by omega,rfl,rfl,rfl,Qa ⟨HV.o,rfl⟩,rfl⟩
 obtain⟨i,o,u,hk,hi,rfl,rfl,rfl,h,rfl⟩:=hrel;have Hk:=Qa hk;clear hk
 by_cases hlt:i<n
 ·have h3:(i:Int)<n:=by omega
  go_wp2
  go_roundg (n-(i+1))
  ·obtain⟨h1,q⟩:=h.o;refine⟨i+1,_,_,rfl,by omega,rfl,rfl,by go_num,Qa ⟨h1.half 2<|by decide,?_⟩,rfl⟩;rwa[show n-i=n-(i+1)+1 by omega]at q
  have:=Hk.o;omega
 obtain rfl:i=n:=by omega
 have h3:¬(i:Int)<i:=by omega
 have y:o=Bh i 0 v:=by have:=h.o.2;rw[ZO]at this;exact this
 have HO:=Qa y;clear y
 go_wp2
 go_ret;rw[HO.o];exact⟨rfl,rfl⟩
def FH:Nat→Int→Int
 |0,r=>r
 |n+1,r=>FH n (if bits .and .u32 r 2147483648=0 then r*2%4294967296 else bits .xor .u32 (r*2%4294967296) 79764919)
def AJ(i:Nat):Int:=FH 8 ((i:Int)*16777216)
def uX(i:Nat):FH (8-0) ((i:Int)*16777216)=AJ i:=by unfold AJ;rfl
def Zm(l:LI):LV:=l.map (Value.int .u32)
def X8(i:Nat):LI:=(List.range 256).map fun a=>if a<i then AJ a else 0
def Jr:LI:=(List.range 256).map AJ
def uV(i):(Zm<|X8 i).length=256:=by simp[Zm,X8]
def uU:X8 256=Jr:=by unfold X8 Jr;exact Yx fun a hk=>by rw[Qg<|ZL.1 hk]
def uW(i)(c:i<256):(Zm<|X8 i).set i (.int .u32<|AJ i)=Zm (X8<|i+1):=by
 unfold Zm X8;apply Xo;intro a;simp only[YO,QH,Vl,ZD]
 by_cases b:a<256
 ·rw[Xa b]
  by_cases b:i=a
  ·subst b;simp[c]
  rw[Qf b];simp only[AC]
  by_cases b:a<i
  ·rw[Qg b,Qg<|by omega]
  rw[Qf b,Qf<|by omega]
 rw[QX (by simp;omega),Qf<|by omega];rfl
def Wv(i)(a:i<256):(Zm Jr)[i]?=some (.int .u32<|AJ i):=by simp[Zm,Jr,Xa a]
def Qb.setRow{S a b}(d:Qb S a b){g}(e:g∈S∨a.heap.size≤g)(c):Qb S a (b.setRow g c):=
 d.trans (T:=[g]) ⟨rfl,rfl,rfl,by simp[World.setRow],fun c hk f=>by
  have hne:¬g=c:=by intro d;subst d;simp at f
  show(b.heap.modify g _)[c]?=b.heap[c]?;rw[La,Qf hne]⟩ (by simpa using e)
def Mn(w):(zeroValue 177).run prog w=.ok (.agg (Zm<|X8 0).toArray) w:=
 (zero_of_info (P:=prog) (t:=177) (v:=.agg (Zm<|X8 0).toArray) (n:=256)<|by kernel_rfl).1 w
def Fq:(prog.info? 177).map (·.size)=some 256:=by kernel_rfl
set_option maxRecDepth 100000 in
def kD(w):Calls prog 97 #[] w fun e w'=>e=.returned (.agg (Zm Jr).toArray)∧Qb [] w w':=by
 have hz:=Mn;go_enter func97,ntmps97;go_wp2_with fail;have b:=Qy w (Zm<|X8 0) 177;have c:=Qy (w.alloc<|.cells (Zm<|X8 0).toArray 177) (Zm<|X8 0) 177;rw[show(w.alloc<|.cells (Zm<|X8 0).toArray 177).heap.size=w.heap.size+1 by simp]at c;have b:=b.kept ((Qc [] _).alloc<|.cells (Zm<|X8 0).toArray 177) (by simp);have hk:Qb [] w ((w.alloc<|.cells (Zm<|X8 0).toArray 177).alloc<|.cells (Zm<|X8 0).toArray 177):=((Qc _ _).alloc _).alloc _;generalize (w.alloc<|.cells (Zm<|X8 0).toArray 177).alloc (.cells (Zm<|X8 0).toArray 177)=W at b c hk ⊢
 go_loopg [2,3,4] 256 (fun i a a h wr=>∃a:Nat,i=256-a∧a≤256∧h=.int .i64 (a:Nat)∧Hid (Qe wr w.heap.size 177<|Zm<|X8 0)∧Hid (Qe wr (w.heap.size+1) 177<|Zm<|X8 a)∧Hid (Qb [] w wr))
 ·exact⟨0,by omega,by omega,rfl,Qa b,Qa c,Qa hk⟩
 obtain⟨a,d,hi,rfl,g,f,j⟩:=hrel;have l:=Qa d
 by_cases hlt:a<256
 ·have m:(a:Int)<256:=by omega
  go_wp2
  go_loopg [3,10] 8 (fun i c h k=>∃(b:Nat)(d:Int),i=8-b∧b≤8∧c=.int .u32 d∧h=.int .i64 (b:Nat)∧Hid (FH (8-b) d=AJ a)∧wr=k)
  ·exact⟨0,(a:Int)*16777216,by omega,by omega,rfl,rfl,Qa<|uX a,rfl⟩
  obtain⟨b,d,c,h,rfl,rfl,i,rfl⟩:=hrel;have k:=Qa c
  by_cases c:b<8
  ·have:(b:Int)<8:=(by omega);have c:=i.o;rw[show 8-b=8-(b+1)+1 by omega,FH]at c
   by_cases hb:bits .and .u32 d 2147483648=0
   ·have g1:(bits .and .u32 d 2147483648 != 0)=false:=(by rw[hb];rfl);rw[Qg hb]at c;have h:=Qa c
    go_wp2
    go_roundg (8-(b+1))
    ·exact⟨b+1,_,rfl,by omega,rfl,by go_num,h,rfl⟩
    have:=k.o;omega
   have g1:(bits .and .u32 d 2147483648 != 0)=true:=(by simpa using hb);rw[Qf hb]at c;have h:=Qa c
   go_wp2
   go_roundg (8-(b+1))
   ·exact⟨b+1,_,rfl,by omega,rfl,by go_num,h,rfl⟩
   have:=k.o;omega
  obtain rfl:b=8:=by omega
  have c:d=AJ a:=i.o;subst c;have hs:=f.o.set a<|.int .u32<|AJ a;rw[uW a hlt]at hs;have c:=Qa hs;have c0:=f.o.free a;have c1:∃b,wr.cell? ⟨w.heap.size+1,a,none⟩=some b:=⟨_,f.o.cell<|Qj (by rw[uV];exact hlt)⟩;obtain⟨b,c1⟩:=c1
  go_wp2
  go_roundg (256-(a+1))
  ·exact⟨a+1,rfl,by omega,by go_num,Qa<|g.o.kept ((Qc [w.heap.size+1] wr).setCell (by simp) _)<|by simp,c,Qa<|j.o.setCell (.inr<|by simp) _⟩
  have:=l.o;omega
 obtain rfl:a=256:=by omega
 have m:¬(256:Int)<256:=by omega
 have hb:=f.o;rw[uU]at hb;have a:=Qa hb;go_wp2_with (first
  |refine Pq rfl 177 _ rfl (w.heap.size+1) rfl _ _ _ _ a.o underlying177 rfl (by rw[Fq];simp[Zm,Jr]) ?_
  |refine wpList_store_row rfl 177 _ _ rfl w.heap.size _ rfl rfl _ _ g.o (by rw[Fq];simp[Zm,Jr]) (by simp[Zm,Jr,X8]) (by simp[Zm,Value.oneCell']) ?_)
 refine Q5 (results_cell_row rfl _ _ w.heap.size _ _ _ _ rfl (KL _ _ _ _ _ _ g.o) underlying177 rfl (by rw[Fq];simp[Zm,Jr])) rfl ?_;exact⟨rfl,j.o.setRow (.inr<|Ql _) _⟩
def Em(r:Int)(b:Int):Int:=bits .xor .u32 (r*256%4294967296) (AJ (bits .xor .u8 (r/16777216) b).toNat)
def Al:Int→LU→Int
 |r,[]=>r
 |r,b::t=>Al (Em r (b.toNat:Int)) t
def eE(b):∀(l:LU)(r:Int),Al r (l++[b])=Em (Al r l) (b.toNat:Int)
 | [],r=>rfl
 |x::t,r=>by rw[Yf,Al,Al,eE b t]
def eD:∀(l:LU)(r:Int),Zf r→Zf (Al r l)
 | [],r,h=>h
 |b::t,r,h=>by rw[Al];exact eD t _<|Zf.bits _ _ _
def Qbt(r)(s:BA)(w)(a:Zf r)(hs:s.size≤140737488351232):Calls prog 168 #[.int .u32 r,s] w fun e w'=>e=.returned (.int .u32<|Al r s)∧Qb [] w w':=by
 have f:=Qa a;clear a;have hz:=Mn;go_enter func168,ntmps168;go_wp2_with fail;refine(kD _).mono ?_;rintro e a⟨rfl,b⟩;have c:=Qa b;clear b;go_wp2_with (refine wpList_store_row rfl 177 _ _ rfl a.heap.size _ rfl rfl _ _ (Xf a _) (by rw[Fq];simp[Zm,Jr]) (by simp[Zm,Jr,X8]) (by simp[Zm,Value.oneCell']) ?_);have b:Qe ((a.alloc<|.cells (Zm<|X8 0).toArray 177).setRow a.heap.size (Zm Jr).toArray) a.heap.size 177 (Zm Jr):=KL _ _ _ _ _ _<|Xf a _;have hk:Qb [] w ((a.alloc<|.cells (Zm<|X8 0).toArray 177).setRow a.heap.size (Zm Jr).toArray):=(c.o.alloc _).setRow (.inr c.o.size) _;generalize (a.alloc<|.cells (Zm<|X8 0).toArray 177).setRow a.heap.size (Zm Jr).toArray=W at b hk ⊢;generalize a.heap.size=g at b ⊢;have⟨j,k⟩:=qb b hk;clear hz b hk c
 go_loopg [0,6,10] s.size (fun d b a c wr=>∃a:Nat,d=s.size-a∧a≤s.size∧b=.int .u32 (Al r<|s.data.toList.take a)∧c=.int .i64 (a:Nat)∧W=wr)
 ·exact⟨0,by omega,by omega,rfl,rfl,rfl⟩
 obtain⟨a,b,hi,rfl,rfl,rfl⟩:=hrel;have l:=Qa b;clear b;have d:=eD (s.data.toList.take a) r f.o
 by_cases hlt:a<s.size
 ·have m:(a:Int)<s.size:=by omega
  have i:=Iw s a hlt;have c:=eE (s[a]'hlt) (s.data.toList.take a) r;rw[←i]at c;have⟨b,f⟩:=qx<|Al r<|s.data.toList.take a;rw[f]at d c ⊢;obtain⟨h0,h⟩:=d;have h:=VM<|s[a]'hlt;have⟨d,n⟩:=qx<|(s[a]'hlt).toNat;rw[n]at c h;have h:=bits_lo_u8 .xor (b/16777216) (d:Int);have n:=bits_hi_u8 .xor (b/16777216) (d:Int);obtain⟨d,o⟩:=X7 h;obtain⟨_,_,_⟩:b/16777216≤255∧0≤b/16777216∧b/16777216%256=b/16777216:=by omega
  unfold Em at c;rw[o]at h n c;have b:d<256:=by omega
  have c0:=j.o.cell<|Wv d b;have b:=Qa c;clear c i f
  go_wp2
  go_roundg (s.size-(a+1))
  ·exact⟨a+1,rfl,by omega,by rw[b.o];rfl,by go_num,rfl⟩
  have:=l.o;omega
 obtain rfl:a=s.size:=by omega
 have m:¬(s.size:Int)<s.size:=by omega
 have a:s.data.toList.take s.size=s.data.toList:=Q8 (by rw[Zo];exact Ql _);have b:=Qa a;clear a
 go_wp2
 go_ret;rw[b.o];exact⟨rfl,k.o⟩
def XQ(s:LU):Int:=bits .xor .u32 IntKind.u32.max (Al 4294967295 s)
def Ef(s:BA)(w)(hs:s.size≤140737488351232):Calls prog 117 #[s] w fun e w'=>e=.returned (.int .u32<|XQ s)∧Qb [] w w':=by
 go_enter func117,ntmps117;go_wp2_with fail;refine(Qbt 4294967295 s _ (by unfold Zf;omega) hs).mono ?_;rintro e a⟨rfl,a⟩;have b:=Qa a
 go_wp2
 go_ret;exact⟨rfl,b.o⟩
def JZ:Int→LI→Int
 |c,[]=>c
 |c,x::r=>JZ (bits .xor .u32 (bits .or .u32 (c*2%4294967296) (c/2147483648)) x) r
def Gv:∀(l:LI)(c:Int),Zf c→Zf (JZ c l)
 | [],c,h=>h
 |x::r,c,h=>by rw[JZ];exact Gv r _<|Zf.bits _ _ _
def jV(x):∀(l:LI)(c:Int),JZ c (l++[x])=bits .xor .u32 (bits .or .u32 (JZ c l*2%4294967296)<|JZ c l/2147483648) x
 | [],c=>rfl
 |y::t,c=>by rw[Yf,JZ,JZ,jV x t]
def jQ(a c xs w)(h:Qp w 1 a xs.length (Zm xs))(hl:xs.length≤17592186043904):Calls prog 120 #[.slice a xs.length c] w fun e w'=>e=.returned (.int .u32<|JZ 0 xs)∧w=w':=by
 have HS:=Qa h;go_enter func120,ntmps120
 go_wp2
 go_loopg [3,5,8] xs.length (fun k a b c wr=>∃i:Nat,k=xs.length-i∧i≤xs.length∧a=.int .u32 (JZ 0<|xs.take i)∧c=.int .i64 (i:Nat)∧w=wr)
 ·exact⟨0,by omega,by omega,rfl,rfl,rfl⟩
 obtain⟨i,h2,hi,rfl,rfl,rfl⟩:=hrel;have Hk:=Qa h2;have hU:=Gv (xs.take i) 0 (by unfold Zf;omega)
 by_cases hlt:i<xs.length
 ·have h3:(i:Int)<xs.length:=by omega
  have⟨x,y⟩:=qy xs i hlt;have hv:(Zm xs)[i]?=some (.int .u32 x):=by unfold Zm;rw[ZD,y];rfl
  obtain⟨b,o,rfl,e0⟩:=HS.o.2 i _ hv;have q:=jV x (xs.take i) 0;rw[←show xs.take (i+1)=xs.take i++[x]by rw[Zt,y];rfl]at q;have⟨R,hR⟩:=qx<|JZ 0<|xs.take i;rw[hR]at hU q ⊢;obtain⟨h0,h1⟩:=hU;have HM:=Qa q
  go_wp2
  go_roundg (xs.length-(i+1))
  ·exact⟨i+1,rfl,by omega,by rw[HM.o],by go_num,rfl⟩
  have:=Hk.o;omega
 obtain rfl:i=xs.length:=by omega
 have h3:¬(xs.length:Int)<xs.length:=by omega
 go_wp2
 go_ret;exact⟨rfl,rfl⟩
def AP:Int→LU→Int
 |r,[]=>r
 |r,b::t=>AP (Em r (Bh 8 0 (b.toNat:Int)%256)) t
def Yw(s:LU):Int:=Bh 32 0 (bits .xor .u32 IntKind.u32.max (AP 4294967295 s))
def Np(s):Zf (Yw s):=kS _ _ _ (by unfold Zf;omega)
def bO(b):∀(l:LU)(r:Int),AP r (l++[b])=Em (AP r l) (Bh 8 0 (b.toNat:Int)%256)
 | [],r=>rfl
 |x::t,r=>by rw[Yf,AP,AP,bO b t]
def bN:∀(l:LU)(r:Int),Zf r→Zf (AP r l)
 | [],r,h=>h
 |b::t,r,h=>by rw[AP];exact bN t _<|Zf.bits _ _ _
def Nq(s:BA)(w)(hs:s.size≤140737488351232):Calls prog 61 #[s] w fun e w'=>e=.returned (.int .u32<|Yw s)∧Qb [] w w':=by
 have hz:=Mn;go_enter func61,ntmps61;go_wp2_with fail;refine(kD _).mono ?_;rintro e a⟨rfl,b⟩;have c:=Qa b;clear b;go_wp2_with (refine wpList_store_row rfl 177 _ _ rfl a.heap.size _ rfl rfl _ _ (Xf a _) (by rw[Fq];simp[Zm,Jr]) (by simp[Zm,Jr,X8]) (by simp[Zm,Value.oneCell']) ?_);have b:Qe ((a.alloc<|.cells (Zm<|X8 0).toArray 177).setRow a.heap.size (Zm Jr).toArray) a.heap.size 177 (Zm Jr):=KL _ _ _ _ _ _<|Xf a _;have hk:Qb [] w ((a.alloc<|.cells (Zm<|X8 0).toArray 177).setRow a.heap.size (Zm Jr).toArray):=(c.o.alloc _).setRow (.inr c.o.size) _;generalize (a.alloc<|.cells (Zm<|X8 0).toArray 177).setRow a.heap.size (Zm Jr).toArray=W at b hk ⊢;generalize a.heap.size=g at b ⊢;have⟨m,n⟩:=qb b hk;clear hz b hk c
 go_loopg [4,5,9] s.size (fun d b a c wr=>∃a:Nat,d=s.size-a∧a≤s.size∧b=.int .u32 (AP 4294967295<|s.data.toList.take a)∧c=.int .i64 (a:Nat)∧W=wr)
 ·exact⟨0,by omega,by omega,rfl,rfl,rfl⟩
 obtain⟨a,b,hi,rfl,rfl,rfl⟩:=hrel;have o:=Qa b;clear b;have h:=bN (s.data.toList.take a) 4294967295 (by unfold Zf;omega)
 by_cases hlt:a<s.size
 ·have p:(a:Int)<s.size:=by omega
  have k:=Iw s a hlt;have c:=bO (s[a]'hlt) (s.data.toList.take a) 4294967295;rw[←k]at c;have⟨b,j⟩:=qx<|AP 4294967295<|s.data.toList.take a;rw[j]at h c ⊢;obtain⟨h0,d⟩:=h;have f:=VM<|s[a]'hlt;have d:=kT ((s[a]'hlt).toNat:Int) 8 W (by unfold Zf;omega) (by omega);have⟨i,l⟩:=qx<|(s[a]'hlt).toNat;rw[l]at c f d;have⟨f,l⟩:=qx<|Bh 8 0 (i:Int);rw[l]at c d;have i:=bits_lo_u8 .xor (b/16777216)<|f%256;have q:=bits_hi_u8 .xor (b/16777216)<|f%256;obtain⟨f,r⟩:=X7 i;obtain⟨_,_,_⟩:b/16777216≤255∧0≤b/16777216∧b/16777216%256=b/16777216:=by omega
  unfold Em at c;rw[r]at i q c;have b:f<256:=by omega
  have c0:=m.o.cell<|Wv f b;have⟨f,b⟩:=qb c d;clear c k j l d;go_wp2_with fail;refine b.o.mono ?_;rintro e c⟨rfl,rfl⟩
  go_wp2
  go_roundg (s.size-(a+1))
  ·exact⟨a+1,rfl,by omega,by rw[f.o];rfl,by go_num,rfl⟩
  have:=o.o;omega
 obtain rfl:a=s.size:=by omega
 have p:¬(s.size:Int)<s.size:=by omega
 have a:s.data.toList.take s.size=s.data.toList:=Q8 (by rw[Zo];exact Ql _);have b:=Qa a;clear a h;go_wp2_with fail;rw[b.o];refine(kT _ 32 W (Zf.bits _ _ _)<|by omega).mono ?_;rintro e c⟨rfl,rfl⟩
 go_wp2
 go_ret;exact⟨rfl,n.o⟩
abbrev Note:=Bool × RM
namespace K
noncomputable def Vv(kind:UInt8)(gen b:Nat)(d:LU):LU:=
 let a:=[75,73,83,84]++([kind]++(Xc 8 gen++(Xc 4 b++(Xc 2 d.length++(d++Ze (489-d.length))))))
 a++Xc 4 (Yw a).toNat
def JS(m:RM):LU:=Xc 1 m.path.length++(m.path++(Xc 2 m.start.toNat++(Xc 2 m.eZ.toNat++(Xc 2 m.size.toNat++Xc 4 m.sum.toNat))))
def AW(n:Note):LU:=if n.1 then JS n.2 else n.2.path
noncomputable def JX(gen:Nat):Nat→List Note→LY
 |_,[]=>[]
 |i,n::r=>Vv (if n.1 then 1 else 2) gen i (AW n)::JX gen (i+1) r
noncomputable def RJ(gen i:Nat)(ns:List Note):LY:=JX gen i ns++[Vv 3 gen (i+ns.length) [UInt8.ofNat ns.length]]
noncomputable def Uw(gen:Nat):Nat→Nat→LU→LY
 |0,_,_=>[]
 |n+1,i,l=>Vv 4 gen i (l.take 486)::Uw gen n (i+1) (l.drop 486)
noncomputable def UT(gen:Nat)(l:List RM):LY:=Uw gen 5 0 (l.flatMap JS)
end K
structure U3(T:LN)(n:Nat)(A B:WD):Prop where
 os:B.os=A.os
 tape:B.tape=A.tape
 output:B.output=A.output
 size:A.heap.size≤B.heap.size
 block:∀k o,A.heap[k]?=some o→k∉T→(k<n∨o.isCells=true)→B.heap[k]?=some o
def U3.of{T n A b}(a:Qb T A b):U3 T n A b:=⟨a.os,a.tape,a.output,a.size,fun b b c b _=>a.heap c b⟩
def U3.put{T n l A a}(b)(d:A.heap[l]?=some a)(e:a.isCells=false)(a:n≤l):U3 T n A (A.putObj l b):=
 ⟨rfl,rfl,rfl,by simp,fun f a b _ a=>by
  by_cases c:f=l
  ·subst c;rw[d]at b;injection b with b;subst b;rcases a with a|a
   ·omega
   rw[e]at a;cases a
  exact(World.putObj_heap_other c).trans b⟩
def U3.kept{T n w A c}(a:U3 T n A c)(hk:Qb [] w A)(g:∀b∈T,w.heap.size≤b)(d:w.heap.size≤n):Qb [] w c:=by refine⟨a.os.trans hk.os,a.tape.trans hk.tape,a.output.trans hk.output,QS hk.size a.size,fun c hlt h=>?_⟩;obtain⟨d,e⟩:∃d,w.heap[c]?=some d:=⟨_,RP hlt⟩;have f:=(hk.block c hlt h).trans e;rw[a.block c d f (fun hb=>by have:=g c hb;omega)<|.inl<|by omega,e]
def U3.row{T n A a}(d:U3 T n A a){e size v m xs}(b:Qn A e size v m xs)(g:∀k∈Qd v,k∉T):Qn a e size v m xs:=by
 refine⟨b.1,?_⟩;rcases b.2 with f|⟨a,cap,c,b,h,hh,i⟩
 ·exact .inl f
 exact .inr ⟨a,cap,c,b,h,d.block a _ hh (g a<|by simp[Qd,b,qo])<|.inr rfl,i⟩
def Qc4{α:Type}(T:LN)(c:List α→WD→Prop)(a:Code→List α→WD→Prop)(xs:List α)(W:WD):Exit→Act→WD→Prop
 | .normal,_,W'=>KeepsOthers W W'∧(∀b∈T,W'.heap[b]?=W.heap[b]?)∧c xs W'
 | .ret,_,W'=>KeepsOthers W W'∧a .ret xs W'
 | .exit id,_,W'=>KeepsOthers W W'∧a (.exit id) xs W'
 | .goto t,_,W'=>KeepsOthers W W'∧a (.goto t) xs W'
 | .panic _,_,_=>False
 | .outgrown,_,_=>False
def Lk{α:Type}(P:Program)(gf:Nat)(lb:Array VL)(f:α→Array VL)(T:LN)(Ok:List α→α→Prop)(S k:List α→Prop)(w:WD):Prop:=
 ∀(j:Nat)(c e:List α→WD→Prop)(h:WD),Qb [] w h→
  (∀d a b,c d a→w.heap.size≤a.heap.size→Qb T a b→c d b)→(∀d a b,e d a→w.heap.size≤a.heap.size→Qb T a b→e d b)→
  (∀b g d,c b d→w.heap.size≤d.heap.size→Ok b g→YieldAt Fence.wide 4 P j (f g) d fun f a=>
   (f=.returned (.bool true)∧c (b++[g]) a∧(∀i∈T,a.heap[i]?=d.heap[i]?)∧w.heap.size≤a.heap.size)∨(f=.returned (.bool false)∧e (b++[g]) a))→
  c [] h→
  CallsIn Fence.wide 5 P gf (#[.func (.yield j) #[] #[]]++lb) h fun f a=>(∃d,f=.returned d)∧((∃d,S d∧c d a)∨(∃b,k b∧e b a))
def fX{P:Program}{α:Type}{g:Operand}{e:Array Tmp}{assign body:Code}{d:Exit→Act→WD→Prop}{a:Act}{w:WD}
 {gf:Nat}{lb:Array VL}(H:a.eval g=.func (.func gf) #[] lb)(n:∀args w,(callFunc gf args).run P w=.ok (.enter gf args) w)
 {k:α→Array VL}{T:LN}{Ok:List α→α→Prop}{S j:List α→Prop}(L:Lk P gf lb k T Ok S j w)(u:∀b∈T,b<w.heap.size)(I:∀x,(k x).size=e.size)
 (h:List α→WD→Prop)(i:Code→List α→WD→Prop)(q:∀s A f,h s A→w.heap.size≤A.heap.size→U3 T w.heap.size A f→h s f)(r:∀c s A f,i c s A→w.heap.size≤A.heap.size→U3 T w.heap.size A f→i c s f)(h0:h [] w)
 (J:∀(l:Nat)(pre:List α)(x:α)(W:WD),h pre W→Ok pre x→w.heap.size≤W.heap.size→∃o:Act,
  (∀(m:WD)(K:Act→WD→Prop),K o m→assign.wpIn (Fence.wide.inRound l) 4 P (Exit.then K fun _ _ _=>False) {tmps:=(e.zip<|k x).foldl (fun t (p,v)=>t.setIfInBounds p v) a.tmps,defers:=[]} m)∧
  body.wpIn (Fence.wide.inRound l) 4 P (Qc4 T h i (pre++[x]) W) o W)
 (F:∀(D:Nat)(xs:List α)(W:WD),w.heap.size≤D→S xs→h xs W→W.heap[D]?=some (.deferred<|some [])→d .normal {a with defers:={target:=.collected D,args:=#[]}::a.defers} W)
 (M:∀(D:Nat)(c:Code)(pre:List α)(W:WD),w.heap.size≤D→j pre→i c pre W→W.heap[D]?=some (.deferred<|some [])→c.wpIn Fence.wide 6 P d {a with defers:={target:=.collected D,args:=#[]}::a.defers} W):
 (Code.rangeFunc g e assign body).wpIn Fence.wide 6 P d a w:=by
 refine wpIn_rangeFunc ?_;intro fn G;rw[show Fence.wide.round=none from rfl];obtain⟨d,j⟩:∃d:LoopState→Option Code→Loop,d=fun st m=>{state:=st,pending:=m,fn,tmps:=a.tmps,params:=e,assign,body,defers:=w.heap.size}:=⟨_,rfl⟩
 have⟨e,m⟩:=qx<|(w.alloc<|.deferred<|some []).alloc<|.loop<|d .ready none;have E:e.heap[w.heap.size+1]?=some (.loop<|d .ready none):=by rw[←m];have:=World.alloc_heap_new (w.alloc<|.deferred<|some [])<|.loop<|d .ready none;rwa[Vo]at this
 have C:e.heap[w.heap.size]?=some (.deferred<|some []):=by rw[←m];exact(Below.heap_alloc _ _ _<|by simp).trans<|World.alloc_heap_new w _
 have y:Qb [] w e:=by rw[←m];exact((Qc _ _).alloc _).alloc _
 have B:h [] e:=q _ _ _ h0 (Ql _) (.of<|y.mono<|by simp);refine⟨w.heap.size+1,[{target:=.collected w.heap.size,args:=#[]}],e,{target:=.fn (.func gf) lb,args:=#[.func (.yield<|w.heap.size+1) #[] #[]]},e,gf,
  #[.func (.yield<|w.heap.size+1) #[] #[]]++lb,e,?_,?_,fun _ _=>trivial,?_,fun z=>by simp[Fence.wide]at z,?_⟩
 ·rw[←m,j];exact run_enterLoop_outer _ _ _ _ _
 ·simp only[resolve,H];simp[go_sem]
 ·simp[invoke,go_sem,n]
 have n:∀m,w.heap.size≤m→m∉T:=fun m hk z=>by have:=u m z;omega
 refine(L (w.heap.size+1)
  (fun pre W=>h pre W∧W.heap[w.heap.size+1]?=some (.loop<|d .ready none)∧W.heap[w.heap.size]?=some (.deferred<|some []))
  (fun pre W=>∃c,i c pre W∧W.heap[w.heap.size+1]?=some (.loop<|d .done<|some c)∧W.heap[w.heap.size]?=some (.deferred<|some []))
  e y
  (fun s A f hs hz hk=>⟨q s A f hs.1 hz<|.of hk,hk.heap hs.2.1<|n _<|by omega,hk.heap hs.2.2<|n _<|Ql _⟩)
  (fun s A f hs hz hk=>by obtain⟨c,h,e,i⟩:=hs;exact⟨c,r c s A f h hz<|.of hk,hk.heap e<|n _<|by omega,hk.heap i<|n _<|Ql _⟩)
  ?_ ⟨B,E,C⟩).mono ?_
 ·rintro pre x W⟨hi,e,hk⟩ f m;have hlt:w.heap.size+1<W.heap.size:=(Rq.1 e).1;have f:=run_yield (P:=P) (args:=k x) e (by rw[j];exact I x);rw[j]at f;obtain⟨o,h,i⟩:=J (w.heap.size+1) pre x (W.putObj (w.heap.size+1)<|.loop {d .ready none with state:=.busy}) (q _ _ _ hi (by omega)<|.put _ e rfl<|by omega) m (by simp;omega);refine⟨fn,_,assign,body,f,roundIn_of_wpIn G<|h W _ ⟨_,run_beginRound e<|by rw[j],?_⟩⟩;have m:(W.putObj (w.heap.size+1)<|.loop {d .ready none with state:=.busy}).heap[w.heap.size+1]?=some (.loop {d .ready none with state:=.busy}):=World.putObj_heap_same hlt;have k:(W.putObj (w.heap.size+1)<|.loop {d .ready none with state:=.busy}).heap[w.heap.size]?=some (.deferred<|some []):=(World.putObj_heap_other<|by omega).trans hk;have y:∀(A:WD)(f:Obj),∀b∈T,(A.putObj (w.heap.size+1) f).heap[b]?=A.heap[b]?:=fun A f b hb=>World.putObj_heap_other (by have:=u b hb;omega)
  refine wpIn_mono i ?_;have fin:∀(h:Option Code)(f:WD),KeepsOthers (W.putObj (w.heap.size+1)<|.loop {d .ready none with state:=.busy}) f→
   (Instr.endRound (w.heap.size+1) h).run P f=.ok (.bool h.isNone) (f.putObj (w.heap.size+1)<|.loop<|d (if h.isNone then .ready else .done) h)∧
   f.heap[w.heap.size+1]?=some (.loop {d .ready none with state:=.busy})∧
   (f.putObj (w.heap.size+1)<|.loop<|d (if h.isNone then .ready else .done) h).heap[w.heap.size+1]?=some (.loop<|d (if h.isNone then .ready else .done) h)∧
   (f.putObj (w.heap.size+1)<|.loop<|d (if h.isNone then .ready else .done) h).heap[w.heap.size]?=some (.deferred<|some [])∧w.heap.size≤f.heap.size:=fun h f i=>by
   have d:=i.same _ _ m rfl;have:=run_endRound (P:=P) h d;rw[j]at this ⊢;exact⟨this,by rwa[j]at d,World.putObj_heap_same (Rq.1 d).1,(World.putObj_heap_other<|by omega).trans<|i.same _ _ k rfl,by have:=(Rq.1 d).1;omega⟩
  rintro u a3 f hp;cases u with
  |normal=>obtain⟨i,z,k⟩:=hp;obtain⟨o,d,n,m,h⟩:=fin none f i;exact⟨_,_,o,.inl ⟨rfl,⟨q _ _ _ k h<|.put _ d rfl<|by omega,n,m⟩,fun b hb=>(y _ _ b hb).trans<|(z b hb).trans<|y _ _ b hb,by simp;exact h⟩⟩
  |ret=>obtain⟨i,k⟩:=hp;obtain⟨o,d,n,m,h⟩:=fin (some .ret) f i;exact⟨_,_,o,.inr ⟨rfl,_,r _ _ _ _ k h<|.put _ d rfl<|by omega,n,m⟩⟩
  |exit id=>obtain⟨i,k⟩:=hp;obtain⟨o,d,n,m,h⟩:=fin (some<|.exit id) f i;exact⟨_,_,o,.inr ⟨rfl,_,r _ _ _ _ k h<|.put _ d rfl<|by omega,n,m⟩⟩
  |goto t=>obtain⟨i,k⟩:=hp;obtain⟨o,d,n,m,h⟩:=fin (some<|.goto t) f i;exact⟨_,_,o,.inr ⟨rfl,_,r _ _ _ _ k h<|.put _ d rfl<|by omega,n,m⟩⟩
  |panic ch=>exact hp.elim
  |outgrown=>exact hp.elim
 rintro u d⟨⟨v,rfl⟩,(⟨xs,f,hi,e,hk⟩|⟨pre,h,c,hi,e,hk⟩)⟩
 ·have hz:w.heap.size≤d.heap.size:=by have:=(Rq.1 e).1;omega
  exact⟨none,_,by have:=run_endLoop (P:=P) e (by rw[j];simp);rw[j]at this;exact this,F _ xs _ (Ql _) f (q _ _ _ hi hz<|.put _ e rfl<|by omega)<|(World.putObj_heap_other<|by omega).trans hk⟩
 have hz:w.heap.size≤d.heap.size:=by have:=(Rq.1 e).1;omega
 exact⟨some c,_,by have:=run_endLoop (P:=P) e (by rw[j];simp);rw[j]at this;exact this,M _ c pre _ (Ql _) h (r c _ _ _ hi hz<|.put _ e rfl<|by omega)<|(World.putObj_heap_other<|by omega).trans hk⟩
