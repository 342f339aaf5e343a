import Derived.Shelf.SlSortCmp.WholeK
import Derived.Test.YtickjpnkoppmgaaGreatDoorBa
set_option linter.all false
namespace Go.Proofs
section
open Go.Shelf Go.Lib
def qL:Go.Shelf.Ren:=⟨fun|6=>150|15=>104|14=>191|28=>145|29=>146|20=>234|21=>235|22=>236|23=>237|24=>238|25=>239|26=>240|27=>241|46=>273|47=>185|48=>186|49=>274|50=>275|57=>289|n=>n,fun|22=>106|24=>109|25=>245|3=>3|39=>179|0=>0|53=>67|55=>214|4=>4|46=>235|45=>234|50=>239|5=>5|9=>9|66=>279|70=>283|76=>322|77=>323|n=>n,fun|n=>n⟩
def SU:Go.Proofs.SlLaysF0.n6 Tryz.prog qL:={
 mixed:=by kernel_rfl
 f6:=⟨Tryz.f150.name,by decide,Tryz.func150.trans<|congrArg some<|by kernel_rfl⟩
 f14:=⟨Tryz.f191.name,by decide,Tryz.func191.trans<|congrArg some<|by kernel_rfl⟩
 f15:=Tryz.func104.trans (congrArg some<|by kernel_rfl)
 f20:=⟨Tryz.f234.name,by decide,Tryz.func234.trans<|congrArg some<|by kernel_rfl⟩
 f21:=⟨Tryz.f235.name,by decide,Tryz.func235.trans<|congrArg some<|by kernel_rfl⟩
 f22:=⟨Tryz.f236.name,by decide,Tryz.func236.trans<|congrArg some<|by kernel_rfl⟩
 f23:=⟨Tryz.f237.name,by decide,Tryz.func237.trans<|congrArg some<|by kernel_rfl⟩
 f24:=⟨Tryz.f238.name,by decide,Tryz.func238.trans<|congrArg some<|by kernel_rfl⟩
 f25:=⟨Tryz.f239.name,by decide,Tryz.func239.trans<|congrArg some<|by kernel_rfl⟩
 f26:=⟨Tryz.f240.name,by decide,Tryz.func240.trans<|congrArg some<|by kernel_rfl⟩
 f27:=⟨Tryz.f241.name,by decide,Tryz.func241.trans<|congrArg some<|by kernel_rfl⟩
 f28:=Tryz.func145.trans (congrArg some<|by kernel_rfl)
 f29:=Tryz.func146.trans (congrArg some<|by kernel_rfl)
 f46:=⟨Tryz.f273.name,by decide,Tryz.func273.trans<|congrArg some<|by kernel_rfl⟩
 f47:=Tryz.func185.trans (congrArg some<|by kernel_rfl)
 f48:=Tryz.func186.trans (congrArg some<|by kernel_rfl)
 f49:=⟨Tryz.f274.name,by decide,Tryz.func274.trans<|congrArg some<|by kernel_rfl⟩
 f50:=⟨Tryz.f275.name,by decide,Tryz.func275.trans<|congrArg some<|by kernel_rfl⟩
 f57:=⟨Tryz.f289.name,by decide,Tryz.func289.trans<|congrArg some<|by kernel_rfl⟩
 t0:=Tryz.underlying0
 a0:=Tryz.isAgg0
 z0:=Tryz.sizeOf0
 v0:=Tryz.zeroValue0
 t3:=Tryz.underlying3
 a3:=Tryz.isAgg3
 z3:=Tryz.sizeOf3
 v3:=Tryz.zeroValue3
 t4:=Tryz.underlying4
 a4:=Tryz.isAgg4
 z4:=Tryz.sizeOf4
 v4:=Tryz.zeroValue4
 t5:=Tryz.underlying5
 a5:=Tryz.isAgg5
 z5:=Tryz.sizeOf5
 v5:=Tryz.zeroValue5
 t9:=Tryz.underlying9
 a9:=Tryz.isAgg9
 z9:=Tryz.sizeOf9
 v9:=Tryz.zeroValue9
 t22:=Tryz.underlying106
 a22:=Tryz.isAgg106
 z22:=Tryz.sizeOf106
 v22:=Tryz.zeroValue106
 t25:=Tryz.underlying245
 a25:=Tryz.isAgg245
 z25:=Tryz.sizeOf245
 v25:=Tryz.zeroValue245
 t39:=Tryz.underlying179
 a39:=Tryz.isAgg179
 z39:=Tryz.sizeOf179
 v39:=Tryz.zeroValue179
 t45:=Tryz.underlying234
 a45:=Tryz.isAgg234
 z45:=Tryz.sizeOf234
 v45:=Tryz.zeroValue234
 t46:=Tryz.underlying235
 a46:=Tryz.isAgg235
 z46:=Tryz.sizeOf235
 v46:=Tryz.zeroValue235
 t50:=Tryz.underlying239
 a50:=Tryz.isAgg239
 z50:=Tryz.sizeOf239
 v50:=Tryz.zeroValue239
 t53:=Tryz.underlying67
 a53:=Tryz.isAgg67
 z53:=Tryz.sizeOf67
 v53:=Tryz.zeroValue67
 t55:=Tryz.underlying214
 a55:=Tryz.isAgg214
 z55:=Tryz.sizeOf214
 v55:=Tryz.zeroValue214
 t66:=Tryz.underlying279
 a66:=Tryz.isAgg279
 z66:=Tryz.sizeOf279
 v66:=Tryz.zeroValue279
 t70:=Tryz.underlying283
 a70:=Tryz.isAgg283
 z70:=Tryz.sizeOf283
 v70:=Tryz.zeroValue283
 t76:=Tryz.underlying322
 a76:=Tryz.isAgg322
 z76:=Tryz.sizeOf322
 v76:=Tryz.zeroValue322
 t77:=Tryz.underlying323
 a77:=Tryz.isAgg323
 z77:=Tryz.sizeOf323
 v77:=Tryz.zeroValue323}
end
end Go.Proofs
namespace Go.Proofs.YtickjpnkoppmgaaGreatDoor
open Go.Proofs.Tryz Go.RowKit K Go.Shelf Go.Sort
def Qx{α:Type}(enc:α→LV)(l:List α):LV:=l.flatMap enc
def Iy{α}{enc:α→LV}{k}(hk:∀x,(enc x).length=k):∀l:List α,(Qx enc l).length=l.length*k
 | []=>by simp[Qx]
 |x::l=>by have a:=Iy hk l;unfold Qx at a ⊢;rw[Jn,Qo,hk,a,Q0,CT];omega
def Va{α}{enc:α→LV}{k}(hk:∀x,(enc x).length=k):∀(l:List α)(i j:Nat)(x:α),l[i]?=some x→j<k→(Qx enc l)[i*k+j]?=(enc x)[j]?
 | [],i,j,x,h,_=>by simp at h
 |y::l,0,j,x,h,hj=>by simp at h;subst h;unfold Qx;rw[Jn,GZ,ZE,Xp<|by rwa[hk]]
 |y::l,i+1,j,x,h,hj=>by
  have a:=Va hk l i j x (by simpa using h) hj;unfold Qx at a ⊢;rw[Jn,Zx (by rw[hk,CT];omega),hk,←a,CT]
  congr 1;omega
def IQ{α}[Inhabited α]{enc:α→LV}{k}(hk:∀x,(enc x).length=k)(h0:0<k)(l t)(b:t<l.length*k):(Qx enc l)[t]?=some ((flatK enc k l.toArray)[t]!):=by
 have a:t/k<l.length:=Nat.div_lt_of_lt_mul (by rwa[RX]);have d:t%k<k:=JL _ h0;have c:=Va hk l (t/k) (t%k) (l[t/k]'a) (Qj _) d;rw[show t/k*k+t%k=t by rw[RX];exact LH t k]at c;rw[c,get_flatK _ _ _ _<|by simpa using b,getElem!_pos l.toArray _<|by simpa using a];have b:t%k<(enc<|l[t/k]'a).length:=by rwa[hk]
 rw[Qj b];simp[b]
def OS{α}[Inhabited α]{enc:α→LV}{k}(hk:∀x,(enc x).length=k)(h0:0<k)(a:∀x,∀v∈enc x,v.oneCell'=true){w e}{g n c m:Nat}{l l' os}(d:Qn w e k (.slice g n c) n (Qx enc l))(j:l.length=n)(hp:l'.length=n):
 Qp (sortWorldK enc k w g 0 m l'.toArray os) k g n (Qx enc l')∧Qb [g] w (sortWorldK enc k w g 0 m l'.toArray os):=by
 have i:g<w.heap.size:=d.lt g (by simp[Qd,qo]);have h:HoldsK enc k w g 0 l.toArray:=by intro b a;rw[size_flatK]at a;have f:=IQ hk h0 l b (by simpa using a);exact⟨by rw[ZE];exact d.aZ f,d.free _⟩
 refine⟨⟨by rw[Iy hk,hp],fun b d a=>⟨g,0,rfl,?_⟩⟩,?_⟩
 ·have d:b<l'.length*k:=by have:=(Qz.1 a).1;rwa[Iy hk]at this
  rw[IQ hk h0 l' b d]at a;cases a;unfold sortWorldK;rw[cell?_grow _ _ _ (by simp[putRowK];exact i)];exact cell?_putRow id (Go.Sort.ahead w m) g 0 (flatK enc k l.toArray) (flatK enc k l'.toArray) h (by rw[size_flatK,size_flatK];simp[j,hp]) b (by rw[size_flatK];simpa using d)
 unfold sortWorldK;refine⟨rfl,rfl,rfl,?_,?_⟩
 ·simp[putRowK]
 intro a hi a;rw[heap_grow_old _ _ (by simp[putRowK];exact hi)];simp only[putRowK,putRow,mapBlock];rw[La,Qf (by simp at a;omega)];rfl
def iY{α}[Inhabited α]{enc:α→LV}{k w e}{g n c m:Nat}{xs i d os}(a:Qn w e k (.slice g n c) n xs)(hs:Qp (sortWorldK enc k w g 0 m d os) k g n i):Qn (sortWorldK enc k w g 0 m d os) e k (.slice g n c) n i:=by
 have s:g<w.heap.size:=a.lt g (by simp[Qd,qo]);rcases a.2 with⟨a,h⟩|⟨b,cap,l,a,h,o,p,q,h6,h7⟩
 ·cases a
 injection a with a f e3;injection a with a;injection a with a;subst a e3;obtain⟨b,j,r⟩:∃b,(sortWorldK enc k w g 0 m d os).heap[g]?=some (.cells b e (0,0))∧b.size=l.size:=by unfold sortWorldK;rw[heap_grow_old _ _ (by simp[putRowK];exact s)];simp only[putRowK,putRow,mapBlock];rw[La,Qg rfl];show ∃b,Option.map _ w.heap[g]?=_∧_;rw[o];exact⟨_,rfl,by simp[putCells]⟩
 refine⟨hs.1,.inr ⟨g,c,b,rfl,h,j,p,q,by rw[r,h6],?_⟩⟩;refine Xo fun b=>?_
 by_cases l:b<n*k
 ·rw[Bo l];have⟨h,o⟩:=qy i b (by rwa[hs.1]);obtain⟨i,off,a,f⟩:=hs.2 b h o;injection a with a;injection a with a e3;subst a e3;rw[ZE,Zu _ _ _ _ _ _ j]at f;rw[o];simpa using f
 rw[QX (by simp;omega),QX (by rw[hs.1];omega)]
def Q4(x:QN):LV:=[x.1,x.2]
def Rx(x a:QN):Int:=if x=a then 0 else if Us x a then -1 else 1
def Iz(x a:QN):ltOf Rx x a=decide (Us x a):=by
 unfold ltOf Rx;refine decide_eq_decide.2 ?_
 by_cases b:x=a
 ·subst b;rw[Qg rfl];unfold Us;omega
 rw[Qf b];split<;>simp[*]
def Qhl:SWO (ltOf Rx) where
 irrefl x:=by rw[Iz];unfold Us;simp
 trans x y z h1 h2:=by rw[Iz]at*;simp only[Zv]at*;unfold Us at*;omega
 ntrans x y z h1 h2:=by rw[Iz]at*;simp only[Bz]at*;unfold Us at*;omega
def vN(a b c d:Int)(w):(binOp .eql 109 (.agg #[a,b])<|.agg #[c,d]).run prog w=.ok (.bool<|a==c&&b==d) w:=by
 rw[run_eql_struct,run_equalIn_agg _ _ _ _ _ (by kernel_rfl)<|by kernel_rfl];simp[Program.fieldsOf,underlying109,Op.eqFields,go_sem,part,U6]
 by_cases e:a=c<;>by_cases f:b=d<;>simp[e,f]
def tR(x f:QN)(w):Calls prog 151 #[.agg (Q4 x).toArray,.agg (Q4 f).toArray] w fun e w'=>e=.returned (.int .i64<|Rx x f)∧∃i h,w'=grow (w.drewN i) h:=by
 obtain⟨a,c⟩:=x;obtain⟨b,d⟩:=f;have l:=fun f=>vN a c b d f
 have j:=Qa (show ∀f g:Obj,∃i h,(w.alloc f).alloc g=grow (w.drewN i) h from fun f g=>⟨0,#[f]++#[g],by rw[alloc_eq_grow,alloc_eq_grow,grow_grow];rfl⟩);have g:Rx (a,c) (b,d)=if a=b∧c=d then 0 else if a<b∨(a=b∧c<d)then -1 else 1:=by
  unfold Rx;have hlt:Us (a,c) (b,d)↔a<b∨(a=b∧c<d):=Iff.rfl;simp only[Prod.ext_iff,Prod.mk.injEq]
  by_cases h:a=b∧c=d
  ·rw[Qg h,Qg h]
  rw[Qf h,Qf h]
  by_cases f:Us (a,c) (b,d)
  ·rw[Qg f,Qg<|hlt.1 f]
  rw[Qf f,Qf fun h=>f<|hlt.2 h]
 have i:=Qa g;clear g;show Calls prog 151 #[.agg #[a,c],.agg #[b,d]] w _;go_enter func151,ntmps151
 by_cases h0:a=b∧c=d
 ·have k:(a==b&&c==d)=true:=by simpa using h0
  rw[k]at l;have g:=Qa (by rw[i.o,Qg h0]:Rx (a,c) (b,d)=0);clear h0
  go_wp2
  go_ret;exact⟨by rw[g.o];rfl,j.o _ _⟩
 have k:(a==b&&c==d)=false:=by rw[Bi];intro h;exact h0 (by simpa using h)
 rw[k]at l
 by_cases h:a<b
 ·have g:=Qa (by rw[i.o,Qf h0,Qg<|.inl h]:Rx (a,c) (b,d)= -1);have g1:decide (a<b)=true:=by simpa using h
  clear h0
  go_wp2
  go_ret;exact⟨by rw[g.o];rfl,j.o _ _⟩
 have g1:decide (a<b)=false:=by simpa using h
 by_cases f:a=b
 ·have k:(a==b)=true:=by simpa using f
  have:=Qa f
  by_cases h:c<d
  ·have g:=Qa (by rw[i.o,Qf h0,Qg<|.inr ⟨f,h⟩]:Rx (a,c) (b,d)= -1);have g3:decide (c<d)=true:=(by simpa using h);clear h0 f
   go_wp2
   go_ret;exact⟨by rw[g.o];rfl,j.o _ _⟩
  have g:=Qa (by rw[i.o,Qf h0,Qf<|by omega]:Rx (a,c) (b,d)=1);have g3:decide (c<d)=false:=by simpa using h
  clear h0 f
  go_wp2
  go_ret;exact⟨by rw[g.o];rfl,j.o _ _⟩
 have g:=Qa (by rw[i.o,Qf h0,Qf<|by omega]:Rx (a,c) (b,d)=1);have k:(a==b)=false:=by simpa using f
 clear h0
 go_wp2
 go_ret;exact⟨by rw[g.o];rfl,j.o _ _⟩
def pQ(g c n:Nat)(l:List QN)(w:WD)(e:Ending)(w':WD):Prop:=
 e=.returned (.tuple #[])∧Qn w' 109 2 (.slice g n c) n (Qx Q4 (Jy l))∧Qb [g] w w'
def Qgm(g c n:Nat)(l w)(b:Qn w 109 2 (.slice g n c) n (Qx Q4 l))(i:l.length=n)(a:n≤1000000):
 Calls prog 150 #[.slice g n c,.func (.func 151) #[] #[]] w (pQ g c n l w):=by
 have j:∀a w,(callFunc 151 a).run prog w=.ok (.enter 151 a) w:=enters_of func151 (by kernel_rfl) rfl;have hk:∀a,(Q4 a).length=2:=fun _=>rfl
 have e:∀a,∀d∈Q4 a,d.oneCell'=true:=fun a d d=>by simp[Q4]at d;rcases d with rfl|rfl<;>rfl
 have o:g<w.heap.size:=b.lt g (by simp[Qd,qo]);have m:HoldsK Q4 2 w g 0 l.toArray:=by intro d f;rw[size_flatK]at f;have h:=IQ hk (by decide) l d (by simpa using f);exact⟨by rw[ZE];exact b.aZ h,b.free _⟩
 have k:=AnyQ.slices_SortFunc SU 2 isAgg109 sizeOf109 Q4 hk e Rx Qhl 151 #[] g 0 c l.toArray w j (fun _ _ _ _ a j=>tR a j _) m o (by simp[i];omega);have j:l.toArray.size=n:=by simpa using i
 rw[j]at k;refine Calls.mono k ?_;rintro a a⟨rfl,a,p,os,⟨o,k,k⟩,hs,rfl⟩;have m:a.size=n:=by rw[o,j]
 have o:a.toList.Perm l:=by
  have e:a.extract 0 n=a:=by rw[←m];simp
  have h:l.toArray.extract 0 n=l.toArray:=by rw[←j];simp
  rw[e,h]at k;simpa using k
 have j:a.toList=Jy l:=by
  refine Qgl o<|Jp.2 fun h d hi f m=>?_;have k:h<a.size:=by simpa using hi
  have o:d<a.size:=by simpa using f
  have f:=hs h d (ZF _) m (by omega);rw[getElem!_pos a h k,getElem!_pos a d o,Iz,Bz]at f;simpa using f
 have d:a=(Jy l).toArray:=by rw[←j]
 rw[d];have hp:=(RK l).length_eq;obtain⟨a,d⟩:=OS (l':=Jy l) (m:=p) (os:=os) hk (by decide) e b i (by omega);exact⟨rfl,iY b a,d⟩
