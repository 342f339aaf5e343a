import Derived.ProofKit
import Derived.OpenShut
import Derived.ShutString
import Derived.ChangeOld
import Derived.SizedLaws
import Derived.Lib.SmallJoins
import Derived.Deep.Slices
import Derived.Lib.Split
import Derived.Shelf.SlSortCmp.Insertion
import Derived.Lib.Join
import Derived.Test.YtickjpnkoppmgaaGreatDoorAf
set_option linter.all false
namespace Go.Proofs.YtickjpnkoppmgaaGreatDoor
open Go.Proofs.Tryz Go.RowKit K
section
open Go.ChangeShapes Go.WideShapes Go.ChangeAt Go.Deep
def own:ownKnob prog.godebug=none:=by kernel_rfl
def zP:laidOutB prog=true:=by kernel_rfl
def fO{x}(a:(Lit.int .i64 x).wf=true): -9223372036854775808≤x∧x≤9223372036854775807:=by simp[Lit.wf,IntKind.min,IntKind.max,IntKind.signed,IntKind.bits]at a;omega
def WU{α:Type}(f:α→List Value)(size)(hf:∀x,(f x).length=size):∀(xs:List α)(i r:Nat),r<size→(xs.flatMap f)[i*size+r]?=(xs[i]?).bind fun x=>(f x)[r]?
 | [],i,r,_=>by simp
 |x::xs,0,r,hr=>by rw[Ji,Xo (by rw[hf];omega)];simp
 |x::xs,i+1,r,hr=>by rw[Ji,Zy (by rw[hf,CU];omega),hf,show(i+1)*size+r-size=i*size+r by rw[CU];omega,WU f size hf xs i r hr];simp
def wD{α:Type}(f:α→List Value)(size)(hf:∀x,(f x).length=size)(xs:List α):(xs.flatMap f).length=xs.length*size:=by
 induction xs with
 |nil=>simp
 |cons x xs ih=>rw[Ji,Qo,ih,hf,QZ,CU];omega
end
namespace K
abbrev QL:=Int × Int
def Ud(a b:QL):Prop:=a.1<b.1∨(a.1=b.1∧a.2<b.2)
instance (a b:QL):Decidable (Ud a b):=inferInstanceAs (Decidable (_∨_))
def FX(a b:QL):Bool:=!decide (Ud b a)
def Jr(l:List QL):List QL:=l.mergeSort FX
def MY{a b:QL}:FX a b=true↔¬Ud b a:=by simp[FX]
def iN(l):(Jr l).Pairwise fun a b=>¬Ud b a:=by have c:=Le (le:=FX) (fun a b d d d=>by rw[MY]at*;unfold Ud at*;omega) (fun a b=>by simp only[Fb,MY];unfold Ud;omega) l;exact c.imp fun c=>MY.1 c
def RF(l):(Jr l).Perm l:=Ld l FX
def Qfx{l l'}(hp:l'.Perm l)(hs:l'.Pairwise fun a b=>¬Ud b a):l'=Jr l:=
 GK (le:=fun a b=>¬Ud b a) (fun a b _ _ c c=>by unfold Ud at*;exact Prod.ext (by omega)<|by omega) hs (iN l) (hp.trans (RF l).symm)
def RZ(cap:Int):Int→List QL→Bool
 |_,[]=>true
 |f,x::r=>if x.1<f∨x.2<1∨cap<x.1∨cap-x.1<x.2 then false else RZ cap (x.1+x.2) r
def ZX(cap:Int)(l:List QL):Bool:=RZ cap 30 (Jr l)
def Rw(cap:Int):Int→List QL→List QL
 |f,[]=>if f<max cap 30 then [(f,max cap 30-f)]else []
 |f,x::r=>(if f<x.1 then [(f,x.1-f)]else [])++Rw cap (x.1+x.2) r
def Ew(cap need f:Int)(l:List QL):Option QL:=(Rw cap f l).find? fun a=>decide (need≤a.2)
def YX(cap:Int)(l:List QL)(need:Int):Option Int:=if ZX cap l then(Ew cap need 30 (Jr l)).map (·.1)else none
def Uv(a b:QL):Prop:=a.1+a.2≤b.1∨b.1+b.2≤a.1
def inX(cap:Int)(x:QL):Prop:=30≤x.1∧1≤x.2∧x.1+x.2≤cap
def Mf(cap):∀(l:List QL)(f:Int),RZ cap f l=true↔(∀x∈l,f≤x.1∧1≤x.2∧x.1+x.2≤cap)∧l.Pairwise fun a b=>a.1+a.2≤b.1
 | [],f=>by simp[RZ]
 |x::r,f=>by
  rw[RZ]
  split
  ·rename_i h;refine⟨fun h=>by simp at h,fun⟨o,_⟩=>?_⟩;have:=o x<|Y1 ..;omega
  rename_i h;rw[Mf cap r,Vn];constructor
  ·rintro⟨o,h2⟩;refine⟨fun y q=>?_,fun y q=>(o y q).1,h2⟩;rcases QB.1 q with e|e
   ·subst e;omega
   have:=o y e;omega
  rintro⟨o,h2,h3⟩;exact⟨fun y q=>⟨h2 y q,(o y<|X6 _ q).2⟩,h3⟩
def YA(cap l):ZX cap l=true↔(∀x∈l,inX cap x)∧l.Pairwise Uv:=by
 unfold ZX;rw[Mf];have hp:=RF l;have hs:=iN l;have b:∀{c d:QL},Uv c d→Uv d c:=fun a=>a.symm
 rw[←hp.pairwise_iff b];constructor
 ·rintro⟨b,e⟩;exact⟨fun x f=>b x<|hp.mem_iff.2 f,e.imp fun a=>.inl a⟩
 rintro⟨b,e⟩;refine⟨fun x f=>b x<|hp.mem_iff.1 f,?_⟩;refine(List.pairwise_and_iff.2 ⟨hs,e⟩).imp_of_mem fun {c d} ha hb ⟨h3,h4⟩=>?_
 have ha:=b c<|hp.mem_iff.1 ha;have hb:=b d<|hp.mem_iff.1 hb;unfold Ud at h3;unfold inX at ha hb;rcases h4 with a|a<;>omega
def Ub(l:List QL)(t need:Int):Prop:=∀a∈l,t+need≤a.1∨a.1+a.2≤t
def Mz(cap need)(hn:1≤need)(hc:30≤cap):∀(l:List QL)(f:Int),RZ cap f l=true→
 (∀g,Ew cap need f l=some g→f≤g.1∧g.1+need≤cap∧Ub l g.1 need∧∀t,f≤t→t<g.1→¬Ub l t need)∧
 (Ew cap need f l=none→∀t,f≤t→t+need≤cap→¬Ub l t need)
 | [],f,_=>by
   unfold Ew Rw;rw[Int.max_eq_left hc];refine⟨fun g o=>?_,fun h t h1 q=>?_⟩
   ·split at o
    ·rename_i hf
     by_cases h:need≤cap-f
     ·rw[GO<|by simpa using h]at o;injection o with o;subst o;exact⟨Bg _,by simp;omega,by simp[Ub],fun t h1 q=>by simp at q;omega⟩
     rw[KX<|by simpa using h]at o;cases o
    cases o
   intro _
   split at h
   ·rw[GO (by simp;omega)]at h;cases h
   omega
 |x::r,f,h=>by
  have hq:=h;rw[RZ]at h
  split at h
  ·cases h
  rename_i hx;obtain⟨h1,q⟩:=Mz cap need hn hc r (x.1+x.2) h;have x0:=(Mf cap r _).1 h;simp only[Ew]at h1 q ⊢;rw[Rw]
  by_cases hf:f<x.1∧need≤x.1-f
  ·rw[Qg hf.1,GU,GO<|by simpa using hf.2];refine⟨fun g o=>?_,fun h=>by cases h⟩;injection o with o;subst o;refine⟨Bg _,by simp;omega,fun y hy=>?_,fun t h1 q=>by simp at q;omega⟩;rcases QB.1 hy with e|e
   ·subst e;simp;omega
   have:=x0.1 y e;simp;omega
  have x1:((if f<x.1 then [(f,x.1-f)]else [])++Rw cap (x.1+x.2) r).find? (fun x=>decide<|need≤x.2)=(Rw cap (x.1+x.2) r).find? (fun x=>decide<|need≤x.2):=by
   split
   ·rw[GU,KX (by simp;omega)]
   rfl
  rw[x1];have h8:∀t,f≤t→t<x.1+x.2→¬Ub (x::r) t need:=fun t h3 h4 h5=>by have:=h5 x<|Y1 ..;omega
  have h9:∀t,¬Ub r t need→¬Ub (x::r) t need:=fun t h3 h4=>h3 fun y hy=>h4 y<|X6 _ hy
  refine⟨fun g o=>?_,fun o t h3 h4=>?_⟩
  ·obtain⟨a,b,c,d⟩:=h1 g o;refine⟨by omega,b,fun y hy=>?_,fun t h3 h4=>?_⟩
   ·rcases QB.1 hy with e|e
    ·subst e;omega
    exact c y e
   by_cases h5:t<x.1+x.2
   ·exact h8 t h3 h5
   exact h9 t<|d t (by omega) h4
  by_cases h5:t<x.1+x.2
  ·exact h8 t h3 h5
  exact h9 t<|q o t (by omega) h4
def Iu{cap need g l}(hn:1≤need)(hc:30≤cap)(h:YX cap l need=some g):
 ZX cap l=true∧30≤g∧g+need≤cap∧Ub l g need∧∀t,30≤t→t<g→¬Ub l t need:=by
 unfold YX at h
 split at h
 ·rename_i hk;obtain⟨x,hx,e⟩:=PO.1 h;subst e;obtain⟨a,b,c,d⟩:=(Mz cap need hn hc _ 30 hk).1 x hx;have hp:=fun t=>show Ub (Jr l) t need↔Ub l t need from⟨fun h y o=>h y<|(RF l).mem_iff.2 o,fun h y o=>h y<|(RF l).mem_iff.1 o⟩
  exact⟨hk,a,b,(hp _).1 c,fun t q h2 h3=>d t q h2<|(hp t).2 h3⟩
 cases h
def vT{cap need l}(f:1≤need)(e:30≤cap)(hk:ZX cap l=true)(a:YX cap l need=none):∀t,30≤t→t+need≤cap→¬Ub l t need:=by
 unfold YX at a;rw[Qg hk]at a;have a:=Option.map_eq_none_iff.1 a;have hp:=fun t=>show Ub (Jr l) t need↔Ub l t need from⟨fun a c b=>a c<|(RF l).mem_iff.2 b,fun a c b=>a c<|(RF l).mem_iff.1 b⟩
 exact fun t b c d=>(Mz cap need f e _ 30 hk).2 a t b c ((hp t).2 d)
end K
namespace K
def Zb(n:Nat):List UInt8:=List.replicate n 0
def Vk(n):(Zb n).length=n:=Ap
def UY:Nat→Nat→List UInt8
 |0,_=>[]
 |k+1,n=>UInt8.ofNat (48+n/8^k%8)::UY k n
def Gl:∀k n,(UY k n).length=k
 |0,_=>rfl
 |k+1,n=>by rw[UY,QZ,Gl k]
def Za(n w:Nat):List UInt8:=UY (w-1) n++[0]
def MT(b:UInt8):Bool:=decide (48≤b.toNat)&&decide (b.toNat≤55)
def eN:∀k n,(UY k n).all MT=true
 |0,_=>rfl
 |k+1,n=>by
  rw[UY,List.all_cons,eN k n,Bool.and_true];have:n/8^k%8<8:=JF _ (by decide);have a:(UInt8.ofNat<|48+n/8^k%8).toNat=48+n/8^k%8:=by rw[US,XQ<|by omega]
  simp only[MT,a];simp;omega
def U4(v:Nat)(l:List UInt8):Nat:=l.foldl (fun v a=>8*v+(a.toNat-48)) v
def kV:∀k n v,U4 v (UY k n)=v*8^k+n%8^k
 |0,n,v=>by simp[U4,UY,Nat.mod_one]
 |k+1,n,v=>by
  have:n/8^k%8<8:=JF _ (by decide);have b:(UInt8.ofNat<|48+n/8^k%8).toNat=48+n/8^k%8:=by rw[US,XQ<|by omega]
  have a:=kV k n<|8*v+n/8^k%8;unfold U4 at a ⊢;rw[UY,BR,b,show 48+n/8^k%8-48=n/8^k%8 by omega,a,JX,Nat.mod_mul,VQ];rw[show 8*v*8^k=v*(8^k*8)by rw[RR 8 v,GZ,RR 8],RR<|n/8^k%8];omega
def Zp(s:List UInt8)(w:Nat):List UInt8:=s++Zb (w-s.length)
def BN(s w)(a:s.length≤w):(Zp s w).length=w:=by rw[Zp,Qo,Vk];omega
def BF(n w)(a:1≤w):(Za n w).length=w:=by rw[Za,Qo,Gl];simp;omega
def UJ(l:List UInt8):Nat→Nat
 |0=>0
 |i+1=>UJ l i+if 148≤i∧i<156 then 32 else(l.getD i 0).toNat
def Kw(l):∀i,UJ l i≤255*i
 |0=>by simp[UJ]
 |i+1=>by have:=Kw l i;have:(l.getD i 0).toNat<256:=(l.getD i 0).toNat_lt;rw[UJ];split<;>omega
def jJ{a b}(h:∀i,¬(148≤i∧i<156)→a.getD i 0=b.getD i 0):∀i,UJ a i=UJ b i
 |0=>rfl
 |i+1=>by
  rw[UJ,UJ,jJ h i]
  split
  ·rfl
  rename_i o;rw[h i o]
def CB(p:List UInt8):Nat→Nat→Option (List UInt8 × List UInt8)
 |0,_=>none
 |k+1,i=>if i+1<p.length∧i≤155 then(if p.getD i 0=47∧p.length-i-1≤100 then some (p.take i,p.drop (i+1))else CB p k (i+1))else none
def J4(p:List UInt8):Option (List UInt8 × List UInt8):=if p.length≤100 then some ([],p)else CB p p.length 1
def iS(p):∀k i a b,CB p k i=some (a,b)→1≤i→1≤a.length∧a.length≤155∧1≤b.length∧b.length≤100∧p=a++47::b
 |0,i,a,b,h,_=>by cases h
 |k+1,i,a,b,h,hi=>by
  rw[CB]at h
  split at h
  ·rename_i h1
   split at h
   ·rename_i y;injection h with h;injection h with q e2;subst q e2;have o:i<p.length:=(by omega);refine⟨by simp;omega,by simp;omega,by simp;omega,by simp;omega,?_⟩;have h3:p[i]'o=47:=(by have:=y.1;rwa[RP,Qj o]at this);rw[←h3,←Xa o,VP]
   exact iS p k (i+1) a b h (by omega)
  cases h
def Kt{p a b}(h:J4 p=some (a,b)):(a=[]∧b=p∧p.length≤100)∨(1≤a.length∧a.length≤155∧1≤b.length∧b.length≤100∧p=a++47::b):=by
 unfold J4 at h
 split at h
 ·rename_i q;injection h with h;injection h with o e2;exact .inl ⟨o.symm,e2.symm,q⟩
 exact .inr<|iS p _ _ a b h<|Ql _
def Ds:List UInt8:=[117,115,116,97,114,0,48,48]
def Cm(name:List UInt8)(size:Nat):List UInt8:=Zp name 100++(Za 420 8++(Za 0 8++(Za 0 8++(Za size 12++Za 0 12))))
def EU(kind:UInt8)(pre:List UInt8):List UInt8:=[kind]++(Zp [] 100++(Ds++(Zp [] 32++(Zp [] 32++(Za 0 8++(Za 0 8++(Zp pre 155++Zp [] 12)))))))
def ME(name size)(a:name.length≤100):(Cm name size).length=148:=by simp only[Cm,Qo,BN _ _ a,BF _ _ (by decide:1≤8),BF _ _ (by decide:1≤12)]
def jW(kind pre)(a:pre.length≤155):(EU kind pre).length=356:=by simp only[EU,Qo,BN _ _ a,BF _ _ (by decide:1≤8),BN [] _<|ZF _];rfl
def CD(pre name:List UInt8)(kind:UInt8)(size:Nat):Nat:=UJ (Cm name size++(Zb 8++EU kind pre)) 512
def XK(pre name:List UInt8)(kind:UInt8)(size:Nat):List UInt8:=Cm name size++(Za (CD pre name kind size) 7++([32]++EU kind pre))
def Ry{pre name}(kind size)(a:name.length≤100)(hp:pre.length≤155):(XK pre name kind size).length=512:=by simp only[XK,Qo,ME _ _ a,jW _ _ hp,BF _ _ (by decide:1≤7)];rfl
def Qgl{pre name}(kind size)(a:name.length≤100)(hp:pre.length≤155):UJ (XK pre name kind size) 512=CD pre name kind size:=by
 refine jJ (fun b hi=>?_) 512;have d:=ME name size a;have e:=BF (CD pre name kind size) 7 (by decide);unfold XK;simp only[RP]
 by_cases a:b<148
 ·rw[Xo<|by omega,Xo<|by omega]
 have c:∀a:List UInt8,(Cm name size++a)[b]?=a[b-148]?:=fun a=>by rw[Zy<|by omega,d]
 have d:∀a:List UInt8,(Za (CD pre name kind size) 7++a)[b-148]?=a[b-155]?:=fun a=>by rw[Zy<|by omega,e];exact Qq (a[·]?) (by omega)
 have e:∀a:List UInt8,([32]++a)[b-155]?=a[b-156]?:=fun a=>by rw[Zy (by simp;omega)];exact Qq (a[·]?) (by simp;omega)
 have f:∀a:List UInt8,(Zb 8++a)[b-148]?=a[b-156]?:=fun a=>by rw[Zy (by rw[Vk];omega),Vk];exact Qq (a[·]?) (by omega)
 rw[c,d,e,c,f]
def AG(n:Nat):Nat:=(512-n%512)%512
def X9(l:List UInt8):List UInt8:=l++Zb (AG l.length)
def AH(l):(X9 l).length=(l.length+511)/512*512:=by rw[X9,Qo,Vk,AG];omega
def VB(n:Nat):List UInt8:=[UInt8.ofNat (48+n/100),UInt8.ofNat (48+n/10%10),UInt8.ofNat (48+n%10)]
def ZY(v:List UInt8):List UInt8:=VB (v.length+10)++([32,112,97,116,104,61]++(v++[10]))
def Gn(v):(ZY v).length=v.length+10:=by simp[ZY,VB]
def JJ(path:List UInt8)(size:Nat):List UInt8:=
 match J4 path with
 |some (a,b)=>XK a b 48 size
 |none=>XK [] [112,97,120] 120 (path.length+10)++(X9 (ZY path)++XK [] (path.take 100) 48 size)
def MF(path size)(a:path.length≤120):(JJ path size).length=512∨(JJ path size).length=1536:=by
 unfold JJ;cases hs:J4 path with
 |some ab=>obtain⟨b,b⟩:=ab;left;refine Ry _ _ ?_ ?_<;>rcases Kt hs with a|a<;>first|omega|(simp only[a.1,Yg];omega)|(rw[a.2.1];omega)
 |none=>
  right;have a:=Ry (pre:=[]) (name:=[112,97,120]) 120 (path.length+10) (by decide) (by decide);have b:=Ry (pre:=[]) (name:=path.take 100) 48 size (by simp;omega) (by decide);have:100<path.length:=by
   unfold J4 at hs
   split at hs
   ·cases hs
   omega
  rw[Qo,Qo,a,b,AH,Gn];omega
def Xd:Nat→Nat→List UInt8
 |0,_=>[]
 |k+1,n=>UInt8.ofNat (n/256^k)::Xd k n
def Bq:∀k n,(Xd k n).length=k
 |0,_=>rfl
 |k+1,n=>by rw[Xd,QZ,Bq k]
end K
structure QF where
 cap:Nat
 img:List (List UInt8)
 lZ:Nat
structure QF.Ok(s:QF):Prop where
 c1:1≤s.cap
 c2:s.cap≤4096
 len:s.img.length≤s.cap
 sec:∀x∈s.img,x.length=512
 lZ:s.lZ≤1000000000
def K.flat_len:∀{l:List (List UInt8)},(∀x∈l,x.length=512)→l.flatten.length=512*l.length
 | [],_=>rfl
 |x::l,h=>by rw[DO,Qo,h x<|by simp,K.flat_len fun b a=>h b<|by simp[a],QZ];omega
def K.Ey:∀{l:List (List UInt8)},(∀x∈l,x.length=512)→∀n,l.flatten.take (512*n)=(l.take n).flatten∧l.flatten.drop (512*n)=(l.drop n).flatten
 | [],_,n=>by simp
 |x::l,h,0=>by simp
 |x::l,h,n+1=>by have c:=h x (by simp);obtain⟨a,b⟩:=Ey (l:=l) (fun e d=>h e<|by simp[d]) n;rw[DO,List.take_append,Ff,c,show 512*(n+1)-512=512*n by omega,a,b,Zd<|by omega,JB<|by omega];simp
def QF.Ok.flat{s:QF}(a:s.Ok):s.img.flatten.length=512*s.img.length:=K.flat_len a.sec
def K.JV(img:List (List UInt8))(i:Nat)(x:List UInt8):List (List UInt8):=(img++List.replicate (i+1-img.length) (Zb 512)).set i x
def K.KD(img:List (List UInt8))(i:Nat)(x:List UInt8):(JV img i x).length=max img.length (i+1):=by simp[JV];omega
def K.lH{img:List (List UInt8)}{i:Nat}{x:List UInt8}(c:∀b∈img,b.length=512)(d:x.length=512):∀b∈JV img i x,b.length=512:=by
 intro b a;rcases DS a with a|rfl
 ·rcases Q5.1 a with a|a
  ·exact c b a
  rw[BQ a,Vk]
 exact d
def K.Qie{img:List (List UInt8)}{i:Nat}{x:List UInt8}:(JV img i x)[i]?=some x:=by rw[JV,Fj];simp;omega
def K.Qif{img:List (List UInt8)}{i k:Nat}{x:List UInt8}(a:k≠i)(hk:k<img.length):(JV img i x)[k]?=img[k]?:=by rw[JV,KZ<|Ne.symm a,Xo hk]
namespace K
def wrL:List (List UInt8)→Nat→List (List UInt8)→List (List UInt8)
 |img,_,[]=>img
 |img,i,x::r=>wrL (JV img i x) (i+1) r
def lG(x):∀(L:List (List UInt8))(img:List (List UInt8))(i:Nat),wrL img i (L++[x])=JV (wrL img i L) (i+L.length) x
 | [],img,i=>rfl
 |y::L,img,i=>by rw[Yf,wrL,lG x L,wrL,QZ,show i+1+L.length=i+(L.length+1)by omega]
def KC:∀(L:List (List UInt8))(img:List (List UInt8))(i:Nat),(wrL img i L).length=if L.length=0 then img.length else max img.length (i+L.length)
 | [],img,i=>rfl
 |y::L,img,i=>by
  rw[wrL,KC L,KD,QZ]
  split<;>split<;>omega
def lF:∀{L:List (List UInt8)}{img:List (List UInt8)}{i:Nat},(∀a∈img,a.length=512)→(∀a∈L,a.length=512)→∀a∈wrL img i L,a.length=512
 | [],img,i,h,_=>h
 |a::L,img,i,h,hl=>by rw[wrL];exact lF (lH h<|hl a<|by simp) (fun a hz=>hl a<|by simp[hz])
def Uo(img:List (List UInt8))(s:Nat)(L:List (List UInt8)):Prop:=∀a b,L[a]?=some b→img[s+a]?=some b
def CI:∀(L:List (List UInt8))(img:List (List UInt8))(i k:Nat),(k<i∨i+L.length≤k)→k<img.length→(wrL img i L)[k]?=img[k]?
 | [],img,i,k,_,_=>rfl
 |y::L,img,i,k,h,hk=>by simp only[QZ]at h;rw[wrL,CI L _ (i+1) k (by omega) (by rw[KD];omega),Qif (by omega) hk]
def OT:∀(L:List (List UInt8))(img:List (List UInt8))(i:Nat),Uo (wrL img i L) i L
 | [],img,i=>fun a c b=>by simp at b
 |y::L,img,i=>fun a c b=>by
  rw[wrL];cases a with
  |zero=>simp at b;subst b;exact(CI L (JV img i y) (i+1) i (by omega) (by rw[KD];omega)).trans Qie
  |succ a=>have:=OT L (JV img i y) (i+1) a c (by simpa using b);rwa[show i+1+a=i+(a+1)by omega]at this
def Uo.lt{img:List (List UInt8)}{s:Nat}{L:List (List UInt8)}(a:Uo img s L)(h0:L≠[]):s+L.length≤img.length:=by have:0<L.length:=Lc.2 h0;have:=a (L.length-1) (L[L.length-1]'(by omega))<|Qj _;have:=(Qz.1 this).1;omega
def Uo.wr{img:List (List UInt8)}{s i:Nat}{a:List (List UInt8)}(d:Uo img s a)(L:List (List UInt8))(b:s+a.length≤i∨i+L.length≤s):Uo (wrL img i L) s a:=fun c e b=>by have:=(Qz.1 b).1;have a:=d c e b;rw[CI L img i (s+c) (by omega) (Qz.1 a).1,a]
def Uo.take{img:List (List UInt8)}{s:Nat}{a:List (List UInt8)}(b:Uo img s a)(n:Nat)(c:s+a.length≤n):Uo (img.take n) s a:=fun c d a=>by have:=(Qz.1 a).1;rw[CO<|by omega,b c d a]
def Rr:Nat→List UInt8→List (List UInt8)
 |0,_=>[]
 |n+1,l=>l.take 512::Rr n (l.drop 512)
def TX:∀n l,(Rr n l).length=n
 |0,_=>rfl
 |n+1,l=>by rw[Rr,QZ,TX n]
def TV:∀(n:Nat)(l:List UInt8),l.length=512*n→(Rr n l).flatten=l
 |0,l,h=>by rw[JW (by omega:l.length=0)];rfl
 |n+1,l,h=>by rw[Rr,DO,TV n _ (by rw[YW];omega),VP]
def TY:∀(n:Nat)(l:List UInt8),l.length=512*n→∀x∈Rr n l,x.length=512
 |0,l,h=>by simp[Rr]
 |n+1,l,h=>by
  intro x a;rw[Rr]at a;rcases QB.1 a with rfl|a
  ·rw[Zn];omega
  exact TY n _ (by rw[YW];omega) x a
def TW:∀(n:Nat)(l:List UInt8)(k:Nat),k<n→(Rr n l)[k]?=some ((l.drop<|512*k).take 512)
 |0,l,k,h=>by omega
 |n+1,l,0,h=>by simp[Rr]
 |n+1,l,k+1,h=>by rw[Rr,VL,TW n _ k<|by omega,GN,show 512+512*k=512*(k+1)by omega]
end K
def QF.wr(s:QF)(i:Nat)(L:List (List UInt8)):QF:={s with img:=K.wrL s.img i L,lZ:=s.lZ+L.length}
def QF.tick(s:QF)(n:Nat):QF:={s with lZ:=s.lZ+n}
def QF.cut(s:QF)(n:Nat):QF:={s with img:=s.img.take n,lZ:=s.lZ+1}
def QF.Ok.wr{s:QF}(a:s.Ok){i x}(hi:i<s.cap)(c:x.length=512)(b:s.lZ+1≤1000000000):QF.Ok {s with img:=JV s.img i x,lZ:=s.lZ+1}:=
 ⟨a.c1,a.c2,by have:=a.len;show(JV s.img i x).length≤s.cap;rw[KD];omega,lH a.sec c,b⟩
namespace K
def Zq:List UInt8→List (List UInt8)
 | []=>[[]]
 |b::r=>if b=47 then []::Zq r else match Zq r with
  | []=>[[b]]
  |c::cs=>(b::c)::cs
def Z6:List (List UInt8)→List UInt8
 | []=>[]
 | [c]=>c
 |c::d::r=>c++47::Z6 (d::r)
def uE(s):∃c a,Zq s=c::a:=by
 cases s with
 |nil=>exact⟨[],[],rfl⟩
 |cons b r=>
  unfold Zq
  split
  ·exact⟨_,_,rfl⟩
  split
  ·exact⟨_,_,rfl⟩
  exact⟨_,_,rfl⟩
def MU:∀s:List UInt8,Z6 (Zq s)=s
 | []=>rfl
 |b::r=>by
  have o:=MU r;obtain⟨c,q,e⟩:=uE r;unfold Zq
  split
  ·rename_i h;subst h;rw[e]at o ⊢;rw[Z6,o];rfl
  rw[e]at o ⊢;cases q with
  |nil=>simp[Z6]at o ⊢;exact o
  |cons d q=>simp only[Z6,Yf]at o ⊢;rw[o]
def uD{a b}(c:Zq a=Zq b):a=b:=by rw[←MU a,c,MU]
def Xy:List (List UInt8)→List (List UInt8)→Int
 | [],[]=>0
 | [],_::_=> -1
 |_::_,[]=>1
 |a::x,b::y=>if a=b then Xy x y else Lib.compareBytes a b
def X7(a b:List UInt8):Int:=Xy (Zq a) (Zq b)
def TN:∀a:List UInt8,Lib.compareBytes a a=0
 | []=>rfl
 |a::r=>by simp[Lib.compareBytes,TN r,UInt8.lt_irrefl]
def TM:∀a b:List UInt8,Lib.compareBytes a b=0→a=b
 | [],[],_=>rfl
 | [],_::_,h=>by simp[Lib.compareBytes]at h
 |_::_,[],h=>by simp[Lib.compareBytes]at h
 |a::x,b::y,h=>by
  unfold Lib.compareBytes at h
  split at h
  ·cases h
  split at h
  ·cases h
  rename_i o q;rw[TM x y h,show a=b from UInt8.le_antisymm (Eh.1 q) (Eh.1 o)]
def Md:∀a b:List UInt8,Lib.compareBytes a b= - Lib.compareBytes b a
 | [],[]=>rfl
 | [],_::_=>rfl
 |_::_,[]=>rfl
 |a::x,b::y=>by
  unfold Lib.compareBytes
  by_cases c:a<b
  ·rw[Qg c,Qe<|UInt8.lt_asymm c,Qg c]
  rw[Qe c]
  by_cases d:b<a
  ·rw[Qg d,Qg d];rfl
  rw[Qe d,Qe d,Qe c,Md x y]
def TO:∀a b c:List UInt8,Lib.compareBytes a b<0→Lib.compareBytes b c<0→Lib.compareBytes a c<0
 | [],_,[],h1,h2=>by rename_i b;have:=Md [] b;omega
 | [],_,_::_,_,_=>by simp[Lib.compareBytes,Xy]
 |_::_,[],_,h,_=>by simp[Lib.compareBytes]at h
 |_::_,_::_,[],_,h=>by simp[Lib.compareBytes]at h
 |a::x,b::y,c::z,h1,h2=>by
  unfold Lib.compareBytes at h1 h2 ⊢
  by_cases h3:a<b
  ·by_cases o:b<c
   ·rw[Qg<|UInt8.lt_trans h3 o];decide
   rw[Qe o]at h2
   by_cases q:c<b
   ·rw[Qg q]at h2;omega
   have e:b=c:=UInt8.le_antisymm (Eh.1 q)<|Eh.1 o;rw[←e,Qg h3];decide
  rw[Qe h3]at h1
  by_cases h4:b<a
  ·rw[Qg h4]at h1;omega
  have e:a=b:=UInt8.le_antisymm (Eh.1 h4)<|Eh.1 h3;subst e;rw[Qe h4]at h1
  by_cases o:a<c
  ·rw[Qg o];decide
  rw[Qe o]at h2 ⊢
  by_cases q:c<a
  ·rw[Qg q]at h2;omega
  rw[Qe q]at h2 ⊢;exact TO x y z h1 h2
def TQ:∀a:List (List UInt8),Xy a a=0
 | []=>rfl
 |a::r=>by rw[Xy,Qg rfl,TQ r]
def TP:∀a b:List (List UInt8),Xy a b=0→a=b
 | [],[],_=>rfl
 | [],_::_,h=>by simp[Xy]at h
 |_::_,[],h=>by simp[Xy]at h
 |a::x,b::y,h=>by
  unfold Xy at h
  split at h
  ·rename_i e;rw[e,TP x y h]
  rename_i e;exact absurd (TM a b h) e
def Me:∀a b:List (List UInt8),Xy a b= - Xy b a
 | [],[]=>rfl
 | [],_::_=>rfl
 |_::_,[]=>rfl
 |a::x,b::y=>by
  unfold Xy
  by_cases c:a=b
  ·rw[Qg c,Qg c.symm,Me x y]
  rw[Qe c,Qe fun d=>c d.symm,Md a b]
def TR:∀a b c:List (List UInt8),Xy a b<0→Xy b c<0→Xy a c<0
 | [],b,[],h1,h2=>by have:=Me [] b;omega
 | [],_,_::_,_,_=>by simp[Lib.compareBytes,Xy]
 |_::_,[],_,h,_=>by simp[Xy]at h
 |_::_,_::_,[],_,h=>by simp[Xy]at h
 |a::x,b::y,c::z,h1,h2=>by
  unfold Xy at h1 h2 ⊢
  by_cases e:a=b
  ·subst e;rw[Qg rfl]at h1
   by_cases d:a=c
   ·rw[Qg d]at h2 ⊢;exact TR x y z h1 h2
   rw[Qe d]at h2 ⊢;exact h2
  rw[Qe e]at h1
  by_cases d:b=c
  ·rwa[Qe<|d▸e,←d]
  rw[Qe d]at h2;have e:=TO a b c h1 h2
  by_cases d:a=c
  ·rw[d,TN]at e;omega
  rwa[Qe d]
def Ep(a):X7 a a=0:=TQ _
def FG{a b}(c:X7 a b=0):a=b:=uD<|TP _ _ c
def Eo(a b):X7 a b= - X7 b a:=Me _ _
def Ih{a b c}(d:X7 a b<0)(k:X7 b c<0):X7 a c<0:=TR _ _ _ d k
def Qgv{α}(key:α→List UInt8):Go.Sort.SWO (ltOf fun x d:α=>X7 (key x)<|key d) where
 irrefl x:=by simp[ltOf,Ep]
 trans x d z h k:=by simp only[ltOf,Zu]at h k ⊢;exact Ih h k
 ntrans x d z h k:=by
  simp only[ltOf,Bw]at h k ⊢;intro hz;have:=Eo (key x)<|key d;have a2:=Eo (key d)<|key z
  by_cases e:X7 (key x) (key d)=0
  ·rw[FG e]at hz;exact k hz
  by_cases e:X7 (key d) (key z)=0
  ·rw[←FG e]at hz;exact h hz
  have:=Ih (a:=key z) (b:=key d) (c:=key x) (by omega) (by omega);have a3:=Eo (key x)<|key z;omega
def bH(c):∀l:List UInt8,(Lib.index l [c]= -1∧c∉l)∨∃pre post,l=pre++c::post∧c∉pre∧Lib.index l [c]=(pre.length:Nat)
 | []=>.inl ⟨rfl,by simp⟩
 |b::r=>by
  unfold Lib.index
  by_cases a:c=b
  ·subst a;exact .inr ⟨[],r,rfl,by simp,by simp[List.isPrefixOf]⟩
  have hp:([c]:List UInt8).isPrefixOf (b::r)=false:=by simp[List.isPrefixOf,a]
  rw[hp];rcases bH c r with⟨d,e⟩|⟨pre,post,d,e,hi⟩
  ·left;simp[d,e,a]
  right;refine⟨b::pre,post,by rw[d];rfl,by simp[e,a],?_⟩;rw[hi];simp
def Mn:∀s:List UInt8,47∉s→Zq s=[s]
 | [],_=>rfl
 |b::r,h=>by simp only[QB,JN]at h;rw[Zq,Qe fun a=>h.1 a.symm,Mn r h.2]
def Mm:∀pre post:List UInt8,47∉pre→Zq (pre++47::post)=pre::Zq post
 | [],post,_=>by rw[Yv,Zq,Qg rfl]
 |b::r,post,h=>by simp only[QB,JN]at h;rw[Yf,Zq,Qe fun a=>h.1 a.symm,Mm r post h.2]
def iT:∀(n:Nat)(s:List UInt8),s.length≤n→Lib.split s [47]=Zq s
 |n,s,hl=>by
  rcases bH 47 s with⟨a,b⟩|⟨c,post,a,b,hi⟩
  ·unfold Lib.split;rw[Lib.count_miss a,Mn s b];rfl
  cases n with
  |zero=>subst a;simp at hl
  |succ n=>
   have e:=iT n post (by subst a;simp at hl;omega);unfold Lib.split at e ⊢;have d:s.drop (c.length+[(47:UInt8)].length)=post:=(by rw[a];simp);rw[Lib.count_hit (by simp) hi,d,BT,Lib.splitK,hi];have f:¬(((c.length:Nat):Int)== -1)=true:=fun a=>by have:=beq_iff_eq.1 a;omega
   rw[Qe f,Zw,d,e];rw[a,Mm c post b];simp
def Er:∀s:List UInt8,(Zq s).length≤s.length+1
 | []=>by simp[Zq]
 |b::r=>by
  have h:=Er r;unfold Zq
  split
  ·simp;omega
  split
  ·simp
  rename_i c o e;rw[e]at h;simp at h ⊢;omega
end K
section
structure RM where
 path:List UInt8
 start:Int
 eZ:Int
 size:Int
 sum:Int
deriving DecidableEq
namespace K
section
variable {α:Type} (pt:α→List UInt8)
def VT(l:List α):Prop:=l.Pairwise fun a b=>X7 (pt a) (pt b)<0
def J2(m:α):List α→List α
 | []=>[m]
 |x::r=>if X7 (pt m) (pt x)<0 then m::x::r else if X7 (pt m) (pt x)=0 then m::r else x::J2 m r
def FJ(p:List UInt8)(l:List α):List α:=l.filter fun a=>!(pt a==p)
variable {pt}
def EE{a b}(d:X7 a b<0):a≠b:=fun c=>by rw[c,Ep]at d;omega
def Kj:∀{a b:List α},VT pt a→VT pt b→(∀x,x∈a↔x∈b)→a=b
 | [],b,_,_,h=>by
   cases b with
   |nil=>rfl
   |cons y r=>exact absurd ((h y).2 (Y1 ..)) (by simp)
 |x::a,[],_,_,h=>absurd ((h x).1 (Y1 ..)) (by simp)
 |x::a,y::b,ha,hb,h=>by
  have ha:=Vn.1 ha;have hb:=Vn.1 hb;have c:x=y:=by
   rcases QB.1 ((h x).1 (Y1 ..))with c|c
   ·exact c
   rcases QB.1 ((h y).2 (Y1 ..))with d|d
   ·exact d.symm
   have:=hb.1 x c;have:=ha.1 y d;have:=Eo (pt x)<|pt y;omega
  subst c;rw[Kj ha.2 hb.2 fun d=>?_];have:=h d;constructor
  ·intro hz;rcases QB.1 (this.1<|X6 _ hz)with c|c
   ·subst c;exact absurd rfl<|EE<|ha.1 d hz
   exact c
  intro hz;rcases QB.1 (this.2<|X6 _ hz)with c|c
  ·subst c;exact absurd rfl<|EE<|hb.1 d hz
  exact c
def dM{p l}{x:α}:x∈FJ pt p l↔x∈l∧pt x≠p:=by simp[FJ]
def NU{p l}(a:VT pt l):VT pt (FJ pt p l):=List.Pairwise.filter _ a
def EG{m:α}:∀{l:List α},VT pt l→∀{x:α},x∈J2 pt m l↔x=m∨(x∈l∧pt x≠pt m)
 | [],_,x=>by simp[J2]
 |y::r,h,x=>by
  have h:=Vn.1 h;rw[J2]
  split
  ·rename_i q;have hy:pt y≠pt m:=fun e=>by rw[e,Ep]at q;omega
   have hr:∀z∈r,pt z≠pt m:=fun z hz e=>by have:=Ih q<|h.1 z hz;rw[e,Ep]at this;omega
   constructor
   ·intro hx;rcases QB.1 hx with e|e
    ·exact .inl e
    exact .inr ⟨e,by rcases QB.1 e with e|e;exact e▸hy;exact hr x e⟩
   rintro(e|⟨e,-⟩)
   ·rw[e];exact Y1 ..
   exact X6 _ e
  split
  ·rename_i q h2;have e0:=FG h2;constructor
   ·intro hx;rcases QB.1 hx with e|e
    ·exact .inl e
    exact .inr ⟨X6 _ e,fun e'=>EE (h.1 x e)<|by rw[e',e0]⟩
   rintro(e|⟨e,o⟩)
   ·rw[e];exact Y1 ..
   rcases QB.1 e with e|e
   ·subst e;exact absurd e0.symm o
   exact X6 _ e
  rename_i q h2;rw[QB,EG h.2,QB];have hy:pt y≠pt m:=fun e=>h2 (by rw[e,Ep])
  constructor
  ·rintro(e|e|⟨e,o⟩)
   ·exact .inr ⟨.inl e,e▸hy⟩
   ·exact .inl e
   exact .inr ⟨.inr e,o⟩
  rintro(e|⟨e|e,o⟩)
  ·exact .inr<|.inl e
  ·exact .inl e
  exact .inr<|.inr ⟨e,o⟩
def DA{m:α}:∀{l:List α},VT pt l→VT pt (J2 pt m l)
 | [],_=>by simp[J2,VT]
 |y::r,h0=>by
  have h:=Vn.1 h0;rw[J2]
  split
  ·rename_i o;refine Vn.2 ⟨fun z hz=>?_,h0⟩;rcases QB.1 hz with e|e
   ·subst e;exact o
   exact Ih o<|h.1 z e
  split
  ·rename_i o q;refine Vn.2 ⟨fun z hz=>?_,h.2⟩;have:=h.1 z hz;rwa[FG q]
  rename_i o q;refine Vn.2 ⟨fun z hz=>?_,DA h.2⟩;rcases(EG h.2).1 hz with e|⟨e,-⟩
  ·subst e;have:=Eo (pt z)<|pt y;omega
  exact h.1 z e
def bK(m:α):∀l,(J2 pt m l).length≤l.length+1
 | []=>by simp[J2]
 |x::r=>by
  rw[J2];have:=bK m r
  split
  ·simp
  split<;>simp<;>omega
end
abbrev UR(l:List RM):Prop:=VT RM.path l
abbrev Vd(m:RM)(l:List RM):List RM:=J2 RM.path m l
abbrev Dl(p:List UInt8)(l:List RM):List RM:=FJ RM.path p l
def AV(l:List RM)(n:Bool × RM):List RM:=if n.1 then Vd n.2 l else Dl n.2.path l
def Zo(l:List RM)(ns:List (Bool × RM)):List RM:=ns.foldl AV l
def Qec{l}(a:UR l)(n):UR (AV l n):=by
 unfold AV
 split
 ·exact DA a
 exact NU a
def NT:∀{ns:List (Bool × RM)}{l:List RM},UR l→UR (Zo l ns)
 | [],_,h=>h
 |n::ns,l,h=>NT (ns:=ns)<|Qec h n
def Qgc(l n):(AV l n).length≤l.length+1:=by
 unfold AV
 split
 ·exact bK _ _
 exact QU (Fk _ _)<|DZ _
def To:∀(ns:List (Bool × RM))(l:List RM),(Zo l ns).length≤l.length+ns.length
 | [],l=>Ql _
 |n::ns,l=>by have a:=To ns<|AV l n;have:=Qgc l n;simp only[Zo,BR,QZ]at a ⊢;omega
end K
end
namespace K
def Ck(b:UInt8):Bool:=decide (32≤b.toNat)&&decide (b.toNat≤126)
def V4:List (List UInt8)→List (List UInt8) × Bool
 | []=>([],false)
 |c::r=>if c=[]∨c=[46]then V4 r else if c=[46,46]then([],true)else(c::(V4 r).1,(V4 r).2)
def Vz(l:List UInt8):List UInt8 × Int:=
 if l.all Ck then
  if(V4 (Zq l)).2∨Z6 (V4 (Zq l)).1=[]∨120<(Z6 (V4 (Zq l)).1).length then([],140)else(Z6 (V4 (Zq l)).1,0)
 else([],140)
def Yz(l:List (List UInt8)):List (List UInt8):=l.filter fun a=>!(decide (a=[]∨a=[46]))
def NA:∀(a b:List (List UInt8)),[46,46]∉a→V4 (a++b)=(Yz a++(V4 b).1,(V4 b).2)
 | [],b,_=>by simp[Yz]
 |c::a,b,h=>by
  simp only[QB,JN]at h;have e:=NA a b h.2;rw[Yf,V4]
  by_cases d:c=[]∨c=[46]
  ·rw[Qg d,e,show Yz (c::a)=Yz a from List.filter_cons_of_neg (by simp only[d];decide)]
  rw[Qe d,Qe fun f=>h.1 f.symm,e,show Yz (c::a)=c::Yz a from List.filter_cons_of_pos (by simp only[d];decide)];rfl
def Wa{l i}(a:i<l.length)(hb:Ck (l[i]'a)=false):Vz l=([],140):=by unfold Vz;rw[Qe];intro ha;have:=XO.1 ha (l[i]'a)<|XW a;rw[hb]at this;cases this
def MW:∀l:List (List UInt8),Lib.join l [47]=Z6 l
 | []=>rfl
 | [c]=>by simp[Lib.join,Z6]
 |c::d::r=>by have a:=MW<|d::r;simp only[Z6,Lib.join]at a ⊢;simp[a]
def wt(l:List (List UInt8)):Nat:=(l.map fun a=>a.length+1).sum
def lI(a b):wt (a++b)=wt a+wt b:=by unfold wt;rw[Xh,List.sum_append]
def bM:∀l,(Z6 l).length≤wt l
 | []=>ZF _
 | [c]=>by simp[Z6,wt]
 |c::d::r=>by have a:=bM<|d::r;unfold wt at a ⊢;rw[Z6,Qo,QZ,QO,Z8];omega
def MX:∀l,wt (Yz l)≤wt l
 | []=>Ql _
 |c::r=>by
  have a:=MX r;unfold wt Yz at a ⊢;rw[Fh]
  split<;>simp only[QO,Z8]<;>omega
def Mo:∀s,wt (Zq s)=s.length+1
 | []=>rfl
 |b::r=>by
  have h:=Mo r;unfold Zq
  split
  ·unfold wt at h ⊢;rw[QO,Z8,h];simp;omega
  split
  ·rename_i e;rw[e]at h;simp[wt]at h
  rename_i c o e;rw[e]at h;unfold wt at h ⊢;rw[QO,Z8]at h ⊢;simp at h ⊢;omega
def Yn(p:List UInt8):Bool:=decide (Vz p=(p,0))
def Ua(p:List UInt8):Int:=if Yn p then 0 else 140
def eP{p}:Yn p=true↔Vz p=(p,0):=by simp[Yn]
def YI{p}(h:Yn p=true):p.all Ck=true∧1≤p.length∧p.length≤120:=by
 have h:=eP.1 h;unfold Vz at h
 split at h
 ·rename_i y
  split at h
  ·injection h with o q;cases q
  rename_i o;simp only[JN,Bool.not_eq_true]at o;injection h with q h4;rw[q]at o;refine⟨y,?_,by omega⟩;rcases VR p.length with h|h
  ·exact absurd (JW h) o.2.1
  exact h
 injection h with o q;cases q
end K
def Zc(x:Int):Prop:=0≤x∧x≤4294967295
def Zc.bits(c:BinOp)(a b):Zc (bits c .u32 a b):=⟨bits_lo_u32 c a b,bits_hi_u32 c a b⟩
def Zc.half{a}(b:Zc a)(n:Nat)(c:n≠0):Zc (a/n):=by unfold Zc at b ⊢;exact⟨Int.ediv_nonneg b.1<|by omega,Int.le_trans (Int.ediv_le_self _ b.1) b.2⟩
def AZ:Nat→Int→Int→Int
 |0,o,_=>o
 |n+1,o,v=>AZ n (bits .or .u32 (o*2%4294967296) (bits .and .u32 v 1)) (v/2)
def kJ:∀(n:Nat)(a v:Int),Zc a→Zc (AZ n a v)
 |0,a,v,h=>h
 |n+1,a,v,h=>kJ n _ _<|Zc.bits _ _ _
def kK(v)(n:Nat)(w)(hv:Zc v)(hn:n≤32):Calls prog 98 #[.int .u32 v,(n:Int)] w fun e w'=>e=.returned (.int .u32<|AZ n 0 v)∧w=w':=by
 have HV:=Qa hv;clear hv;go_enter func98,ntmps98
 go_wp2
 go_loopg [0,5,7] n (fun k a b c wr=>∃(i:Nat)(o u:Int),k=n-i∧i≤n∧a=.int .u32 u∧b=.int .u32 o∧c=.int .i64 (i:Nat)∧Hid (Zc u∧AZ (n-i) o u=AZ n 0 v)∧w=wr)
 ·exact⟨0,0,v,by omega,by omega,rfl,rfl,rfl,Qa ⟨HV.o,rfl⟩,rfl⟩
 obtain⟨i,o,u,hk,hi,rfl,rfl,rfl,h,rfl⟩:=hrel;have Hk:=Qa hk;clear hk
 by_cases hlt:i<n
 ·have h3:(i:Int)<n:=by omega
  go_wp2
  go_roundg (n-(i+1))
  ·obtain⟨h1,q⟩:=h.o;refine⟨i+1,_,_,rfl,by omega,rfl,rfl,by go_num,Qa ⟨h1.half 2<|by decide,?_⟩,rfl⟩;rwa[show n-i=n-(i+1)+1 by omega]at q
  have:=Hk.o;omega
 obtain rfl:i=n:=by omega
 have h3:¬(i:Int)<i:=by omega
 have y:o=AZ i 0 v:=by have:=h.o.2;rw[ZM]at this;exact this
 have HO:=Qa y;clear y
 go_wp2
 go_ret;rw[HO.o];exact⟨rfl,rfl⟩
def FI:Nat→Int→Int
 |0,r=>r
 |n+1,r=>FI n (if bits .and .u32 r 2147483648=0 then r*2%4294967296 else bits .xor .u32 (r*2%4294967296) 79764919)
def AD(i:Nat):Int:=FI 8 ((i:Int)*16777216)
def uK(i:Nat):FI (8-0) ((i:Int)*16777216)=AD i:=by unfold AD;rfl
def Zl(l:List Int):List Value:=l.map (Value.int .u32)
def X8(i:Nat):List Int:=(List.range 256).map fun a=>if a<i then AD a else 0
def Jl:List Int:=(List.range 256).map AD
def uI(i):(Zl<|X8 i).length=256:=by simp[Zl,X8]
def uH:X8 256=Jl:=by unfold X8 Jl;exact Yu fun a hk=>by rw[Qg<|ZL.1 hk]
def uJ(i)(c:i<256):(Zl<|X8 i).set i (.int .u32<|AD i)=Zl (X8<|i+1):=by
 unfold Zl X8;apply Xu;intro a;simp only[YV,QG,U6,ZJ]
 by_cases b:a<256
 ·rw[Xb b]
  by_cases b:i=a
  ·subst b;simp[c]
  rw[Qe b];simp only[Av]
  by_cases b:a<i
  ·rw[Qg b,Qg<|by omega]
  rw[Qe b,Qe<|by omega]
 rw[QW (by simp;omega),Qe<|by omega];rfl
def Wo(i)(a:i<256):(Zl Jl)[i]?=some (.int .u32<|AD i):=by simp[Zl,Jl,Xb a]
def Qb.setRow{S a b}(d:Qb S a b){g}(e:g∈S∨a.heap.size≤g)(c):Qb S a (b.setRow g c):=
 d.trans (T:=[g]) ⟨rfl,rfl,rfl,by simp[World.setRow],fun c hk f=>by
  have hne:¬g=c:=by intro d;subst d;simp at f
  show(b.heap.modify g _)[c]?=b.heap[c]?;rw[KG,Qe hne]⟩ (by simpa using e)
def LN(w):(zeroValue 177).run prog w=.ok (.agg (Zl<|X8 0).toArray) w:=
 (zero_of_info (P:=prog) (t:=177) (v:=.agg (Zl<|X8 0).toArray) (n:=256)<|by kernel_rfl).1 w
def Fv:(prog.info? 177).map (·.size)=some 256:=by kernel_rfl
set_option maxRecDepth 100000 in
def jT(w):Calls prog 97 #[] w fun e w'=>e=.returned (.agg (Zl Jl).toArray)∧Qb [] w w':=by
 have hz:=LN;go_enter func97,ntmps97;go_wp2_with fail;have b:=Qx w (Zl<|X8 0) 177;have c:=Qx (w.alloc<|.cells (Zl<|X8 0).toArray 177) (Zl<|X8 0) 177;rw[show(w.alloc<|.cells (Zl<|X8 0).toArray 177).heap.size=w.heap.size+1 by simp]at c;have b:=b.kept ((Qc [] _).alloc<|.cells (Zl<|X8 0).toArray 177) (by simp);have hk:Qb [] w ((w.alloc<|.cells (Zl<|X8 0).toArray 177).alloc<|.cells (Zl<|X8 0).toArray 177):=((Qc _ _).alloc _).alloc _;generalize (w.alloc<|.cells (Zl<|X8 0).toArray 177).alloc (.cells (Zl<|X8 0).toArray 177)=W at b c hk ⊢
 go_loopg [2,3,4] 256 (fun i a a h wr=>∃a:Nat,i=256-a∧a≤256∧h=.int .i64 (a:Nat)∧Hid (Qf wr w.heap.size 177<|Zl<|X8 0)∧Hid (Qf wr (w.heap.size+1) 177<|Zl<|X8 a)∧Hid (Qb [] w wr))
 ·exact⟨0,by omega,by omega,rfl,Qa b,Qa c,Qa hk⟩
 obtain⟨a,d,hi,rfl,g,f,j⟩:=hrel;have l:=Qa d
 by_cases hlt:a<256
 ·have m:(a:Int)<256:=by omega
  go_wp2
  go_loopg [3,10] 8 (fun i c h k=>∃(b:Nat)(d:Int),i=8-b∧b≤8∧c=.int .u32 d∧h=.int .i64 (b:Nat)∧Hid (FI (8-b) d=AD a)∧wr=k)
  ·exact⟨0,(a:Int)*16777216,by omega,by omega,rfl,rfl,Qa<|uK a,rfl⟩
  obtain⟨b,d,c,h,rfl,rfl,i,rfl⟩:=hrel;have k:=Qa c
  by_cases c:b<8
  ·have:(b:Int)<8:=(by omega);have c:=i.o;rw[show 8-b=8-(b+1)+1 by omega,FI]at c
   by_cases hb:bits .and .u32 d 2147483648=0
   ·have g1:(bits .and .u32 d 2147483648 != 0)=false:=(by rw[hb];rfl);rw[Qg hb]at c;have h:=Qa c
    go_wp2
    go_roundg (8-(b+1))
    ·exact⟨b+1,_,rfl,by omega,rfl,by go_num,h,rfl⟩
    have:=k.o;omega
   have g1:(bits .and .u32 d 2147483648 != 0)=true:=(by simpa using hb);rw[Qe hb]at c;have h:=Qa c
   go_wp2
   go_roundg (8-(b+1))
   ·exact⟨b+1,_,rfl,by omega,rfl,by go_num,h,rfl⟩
   have:=k.o;omega
  obtain rfl:b=8:=by omega
  have c:d=AD a:=i.o;subst c;have hs:=f.o.set a<|.int .u32<|AD a;rw[uJ a hlt]at hs;have c:=Qa hs;have c0:=f.o.free a;have c1:∃b,wr.cell? ⟨w.heap.size+1,a,none⟩=some b:=⟨_,f.o.cell<|Qj (by rw[uI];exact hlt)⟩;obtain⟨b,c1⟩:=c1
  go_wp2
  go_roundg (256-(a+1))
  ·exact⟨a+1,rfl,by omega,by go_num,Qa<|g.o.kept ((Qc [w.heap.size+1] wr).setCell (by simp) _)<|by simp,c,Qa<|j.o.setCell (.inr<|by simp) _⟩
  have:=l.o;omega
 obtain rfl:a=256:=by omega
 have m:¬(256:Int)<256:=by omega
 have hb:=f.o;rw[uH]at hb;have a:=Qa hb;go_wp2_with (first
  |refine OP rfl 177 _ rfl (w.heap.size+1) rfl _ _ _ _ a.o underlying177 rfl (by rw[Fv];simp[Zl,Jl]) ?_
  |refine wpList_store_row rfl 177 _ _ rfl w.heap.size _ rfl rfl _ _ g.o (by rw[Fv];simp[Zl,Jl]) (by simp[Zl,Jl,X8]) (by simp[Zl,Value.oneCell']) ?_)
 refine Q9 (results_cell_row rfl _ _ w.heap.size _ _ _ _ rfl (Ks _ _ _ _ _ _ g.o) underlying177 rfl (by rw[Fv];simp[Zl,Jl])) rfl ?_;exact⟨rfl,j.o.setRow (.inr<|Ql _) _⟩
def Es(r:Int)(b:Int):Int:=bits .xor .u32 (r*256%4294967296) (AD (bits .xor .u8 (r/16777216) b).toNat)
def Ag:Int→List UInt8→Int
 |r,[]=>r
 |r,b::t=>Ag (Es r (b.toNat:Int)) t
def dU(b):∀(l:List UInt8)(r:Int),Ag r (l++[b])=Es (Ag r l) (b.toNat:Int)
 | [],r=>rfl
 |x::t,r=>by rw[Yf,Ag,Ag,dU b t]
def dS:∀(l:List UInt8)(r:Int),Zc r→Zc (Ag r l)
 | [],r,h=>h
 |b::t,r,h=>by rw[Ag];exact dS t _<|Zc.bits _ _ _
def Qba(r)(s:ByteArray)(w)(a:Zc r)(hs:s.size≤140737488351232):Calls prog 168 #[.int .u32 r,s] w fun e w'=>e=.returned (.int .u32<|Ag r s.data.toList)∧Qb [] w w':=by
 have f:=Qa a;clear a;have hz:=LN;go_enter func168,ntmps168;go_wp2_with fail;refine(jT _).mono ?_;rintro e a⟨rfl,b⟩;have c:=Qa b;clear b;go_wp2_with (refine wpList_store_row rfl 177 _ _ rfl a.heap.size _ rfl rfl _ _ (Xe a _) (by rw[Fv];simp[Zl,Jl]) (by simp[Zl,Jl,X8]) (by simp[Zl,Value.oneCell']) ?_);have b:Qf ((a.alloc<|.cells (Zl<|X8 0).toArray 177).setRow a.heap.size (Zl Jl).toArray) a.heap.size 177 (Zl Jl):=Ks _ _ _ _ _ _<|Xe a _;have hk:Qb [] w ((a.alloc<|.cells (Zl<|X8 0).toArray 177).setRow a.heap.size (Zl Jl).toArray):=(c.o.alloc _).setRow (.inr c.o.size) _;generalize (a.alloc<|.cells (Zl<|X8 0).toArray 177).setRow a.heap.size (Zl Jl).toArray=W at b hk ⊢;generalize a.heap.size=g at b ⊢;have⟨j,k⟩:=qb b hk;clear hz b hk c
 go_loopg [0,6,10] s.size (fun d b a c wr=>∃a:Nat,d=s.size-a∧a≤s.size∧b=.int .u32 (Ag r<|s.data.toList.take a)∧c=.int .i64 (a:Nat)∧W=wr)
 ·exact⟨0,by omega,by omega,rfl,rfl,rfl⟩
 obtain⟨a,b,hi,rfl,rfl,rfl⟩:=hrel;have l:=Qa b;clear b;have d:=dS (s.data.toList.take a) r f.o
 by_cases hlt:a<s.size
 ·have m:(a:Int)<s.size:=by omega
  have i:=Ie s a hlt;have c:=dU (s[a]'hlt) (s.data.toList.take a) r;rw[←i]at c;have⟨b,f⟩:=qx<|Ag r<|s.data.toList.take a;rw[f]at d c ⊢;obtain⟨h0,h⟩:=d;have h:=Vw<|s[a]'hlt;have⟨d,n⟩:=qx<|(s[a]'hlt).toNat;rw[n]at c h;have h:=bits_lo_u8 .xor (b/16777216) (d:Int);have n:=bits_hi_u8 .xor (b/16777216) (d:Int);obtain⟨d,o⟩:=X5 h;obtain⟨_,_,_⟩:b/16777216≤255∧0≤b/16777216∧b/16777216%256=b/16777216:=by omega
  unfold Es at c;rw[o]at h n c;have b:d<256:=by omega
  have c0:=j.o.cell<|Wo d b;have b:=Qa c;clear c i f
  go_wp2
  go_roundg (s.size-(a+1))
  ·exact⟨a+1,rfl,by omega,by rw[b.o];rfl,by go_num,rfl⟩
  have:=l.o;omega
 obtain rfl:a=s.size:=by omega
 have m:¬(s.size:Int)<s.size:=by omega
 have a:s.data.toList.take s.size=s.data.toList:=Zd (by rw[Zm];exact Ql _);have b:=Qa a;clear a
 go_wp2
 go_ret;rw[b.o];exact⟨rfl,k.o⟩
def XS(s:List UInt8):Int:=bits .xor .u32 IntKind.u32.max (Ag 4294967295 s)
def Ej(s:ByteArray)(w)(hs:s.size≤140737488351232):Calls prog 117 #[s] w fun e w'=>e=.returned (.int .u32<|XS s.data.toList)∧Qb [] w w':=by
 go_enter func117,ntmps117;go_wp2_with fail;refine(Qba 4294967295 s _ (by unfold Zc;omega) hs).mono ?_;rintro e a⟨rfl,a⟩;have b:=Qa a
 go_wp2
 go_ret;exact⟨rfl,b.o⟩
def JS:Int→List Int→Int
 |c,[]=>c
 |c,x::r=>JS (bits .xor .u32 (bits .or .u32 (c*2%4294967296) (c/2147483648)) x) r
def Gx:∀(l:List Int)(c:Int),Zc c→Zc (JS c l)
 | [],c,h=>h
 |x::r,c,h=>by rw[JS];exact Gx r _<|Zc.bits _ _ _
def jM(x):∀(l:List Int)(c:Int),JS c (l++[x])=bits .xor .u32 (bits .or .u32 (JS c l*2%4294967296)<|JS c l/2147483648) x
 | [],c=>rfl
 |y::t,c=>by rw[Yf,JS,JS,jM x t]
def jH(a c xs w)(h:Qn w 1 a xs.length (Zl xs))(hl:xs.length≤17592186043904):Calls prog 120 #[.slice a xs.length c] w fun e w'=>e=.returned (.int .u32<|JS 0 xs)∧w=w':=by
 have HS:=Qa h;go_enter func120,ntmps120
 go_wp2
 go_loopg [3,5,8] xs.length (fun k a b c wr=>∃i:Nat,k=xs.length-i∧i≤xs.length∧a=.int .u32 (JS 0<|xs.take i)∧c=.int .i64 (i:Nat)∧w=wr)
 ·exact⟨0,by omega,by omega,rfl,rfl,rfl⟩
 obtain⟨i,h2,hi,rfl,rfl,rfl⟩:=hrel;have Hk:=Qa h2;have hU:=Gx (xs.take i) 0 (by unfold Zc;omega)
 by_cases hlt:i<xs.length
 ·have h3:(i:Int)<xs.length:=by omega
  have⟨x,y⟩:=qy xs i hlt;have hv:(Zl xs)[i]?=some (.int .u32 x):=by unfold Zl;rw[ZJ,y];rfl
  obtain⟨b,o,rfl,e0⟩:=HS.o.2 i _ hv;have q:=jM x (xs.take i) 0;rw[←show xs.take (i+1)=xs.take i++[x]by rw[ZE,y];rfl]at q;have⟨R,hR⟩:=qx<|JS 0<|xs.take i;rw[hR]at hU q ⊢;obtain⟨h0,h1⟩:=hU;have HM:=Qa q
  go_wp2
  go_roundg (xs.length-(i+1))
  ·exact⟨i+1,rfl,by omega,by rw[HM.o],by go_num,rfl⟩
  have:=Hk.o;omega
 obtain rfl:i=xs.length:=by omega
 have h3:¬(xs.length:Int)<xs.length:=by omega
 go_wp2
 go_ret;exact⟨rfl,rfl⟩
def AJ:Int→List UInt8→Int
 |r,[]=>r
 |r,b::t=>AJ (Es r (AZ 8 0 (b.toNat:Int)%256)) t
def Yt(s:List UInt8):Int:=AZ 32 0 (bits .xor .u32 IntKind.u32.max (AJ 4294967295 s))
def MO(s):Zc (Yt s):=kJ _ _ _ (by unfold Zc;omega)
def bF(b):∀(l:List UInt8)(r:Int),AJ r (l++[b])=Es (AJ r l) (AZ 8 0 (b.toNat:Int)%256)
 | [],r=>rfl
 |x::t,r=>by rw[Yf,AJ,AJ,bF b t]
def bE:∀(l:List UInt8)(r:Int),Zc r→Zc (AJ r l)
 | [],r,h=>h
 |b::t,r,h=>by rw[AJ];exact bE t _<|Zc.bits _ _ _
def MP(s:ByteArray)(w)(hs:s.size≤140737488351232):Calls prog 61 #[s] w fun e w'=>e=.returned (.int .u32<|Yt s.data.toList)∧Qb [] w w':=by
 have hz:=LN;go_enter func61,ntmps61;go_wp2_with fail;refine(jT _).mono ?_;rintro e a⟨rfl,b⟩;have c:=Qa b;clear b;go_wp2_with (refine wpList_store_row rfl 177 _ _ rfl a.heap.size _ rfl rfl _ _ (Xe a _) (by rw[Fv];simp[Zl,Jl]) (by simp[Zl,Jl,X8]) (by simp[Zl,Value.oneCell']) ?_);have b:Qf ((a.alloc<|.cells (Zl<|X8 0).toArray 177).setRow a.heap.size (Zl Jl).toArray) a.heap.size 177 (Zl Jl):=Ks _ _ _ _ _ _<|Xe a _;have hk:Qb [] w ((a.alloc<|.cells (Zl<|X8 0).toArray 177).setRow a.heap.size (Zl Jl).toArray):=(c.o.alloc _).setRow (.inr c.o.size) _;generalize (a.alloc<|.cells (Zl<|X8 0).toArray 177).setRow a.heap.size (Zl Jl).toArray=W at b hk ⊢;generalize a.heap.size=g at b ⊢;have⟨m,n⟩:=qb b hk;clear hz b hk c
 go_loopg [4,5,9] s.size (fun d b a c wr=>∃a:Nat,d=s.size-a∧a≤s.size∧b=.int .u32 (AJ 4294967295<|s.data.toList.take a)∧c=.int .i64 (a:Nat)∧W=wr)
 ·exact⟨0,by omega,by omega,rfl,rfl,rfl⟩
 obtain⟨a,b,hi,rfl,rfl,rfl⟩:=hrel;have o:=Qa b;clear b;have h:=bE (s.data.toList.take a) 4294967295 (by unfold Zc;omega)
 by_cases hlt:a<s.size
 ·have p:(a:Int)<s.size:=by omega
  have k:=Ie s a hlt;have c:=bF (s[a]'hlt) (s.data.toList.take a) 4294967295;rw[←k]at c;have⟨b,j⟩:=qx<|AJ 4294967295<|s.data.toList.take a;rw[j]at h c ⊢;obtain⟨h0,d⟩:=h;have f:=Vw<|s[a]'hlt;have d:=kK ((s[a]'hlt).toNat:Int) 8 W (by unfold Zc;omega) (by omega);have⟨i,l⟩:=qx<|(s[a]'hlt).toNat;rw[l]at c f d;have⟨f,l⟩:=qx<|AZ 8 0 (i:Int);rw[l]at c d;have i:=bits_lo_u8 .xor (b/16777216)<|f%256;have q:=bits_hi_u8 .xor (b/16777216)<|f%256;obtain⟨f,r⟩:=X5 i;obtain⟨_,_,_⟩:b/16777216≤255∧0≤b/16777216∧b/16777216%256=b/16777216:=by omega
  unfold Es at c;rw[r]at i q c;have b:f<256:=by omega
  have c0:=m.o.cell<|Wo f b;have⟨f,b⟩:=qb c d;clear c k j l d;go_wp2_with fail;refine b.o.mono ?_;rintro e c⟨rfl,rfl⟩
  go_wp2
  go_roundg (s.size-(a+1))
  ·exact⟨a+1,rfl,by omega,by rw[f.o];rfl,by go_num,rfl⟩
  have:=o.o;omega
 obtain rfl:a=s.size:=by omega
 have p:¬(s.size:Int)<s.size:=by omega
 have a:s.data.toList.take s.size=s.data.toList:=Zd (by rw[Zm];exact Ql _);have b:=Qa a;clear a h;go_wp2_with fail;rw[b.o];refine(kK _ 32 W (Zc.bits _ _ _)<|by omega).mono ?_;rintro e c⟨rfl,rfl⟩
 go_wp2
 go_ret;exact⟨rfl,n.o⟩
abbrev Note:=Bool × RM
namespace K
noncomputable def Vf(kind:UInt8)(gen b:Nat)(d:List UInt8):List UInt8:=
 let a:=[75,73,83,84]++([kind]++(Xd 8 gen++(Xd 4 b++(Xd 2 d.length++(d++Zb (489-d.length))))))
 a++Xd 4 (Yt a).toNat
def JL(m:RM):List UInt8:=Xd 1 m.path.length++(m.path++(Xd 2 m.start.toNat++(Xd 2 m.eZ.toNat++(Xd 2 m.size.toNat++Xd 4 m.sum.toNat))))
def AO(n:Note):List UInt8:=if n.1 then JL n.2 else n.2.path
noncomputable def JQ(gen:Nat):Nat→List Note→List (List UInt8)
 |_,[]=>[]
 |i,n::r=>Vf (if n.1 then 1 else 2) gen i (AO n)::JQ gen (i+1) r
noncomputable def RE(gen i:Nat)(ns:List Note):List (List UInt8):=JQ gen i ns++[Vf 3 gen (i+ns.length) [UInt8.ofNat ns.length]]
noncomputable def Uh(gen:Nat):Nat→Nat→List UInt8→List (List UInt8)
 |0,_,_=>[]
 |n+1,i,l=>Vf 4 gen i (l.take 486)::Uh gen n (i+1) (l.drop 486)
noncomputable def UI(gen:Nat)(l:List RM):List (List UInt8):=Uh gen 5 0 (l.flatMap JL)
end K
