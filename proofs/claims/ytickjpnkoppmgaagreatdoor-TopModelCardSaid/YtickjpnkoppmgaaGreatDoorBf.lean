import Derived.Shelf.SlSortCmp.WholeK
import Derived.Test.YtickjpnkoppmgaaGreatDoorBa
set_option linter.all false
namespace Go.Proofs
section
open Go.Shelf Go.Lib
def tT:Go.Shelf.Ren:=⟨fun|6=>150|15=>104|14=>191|28=>145|29=>146|20=>234|21=>235|22=>236|23=>237|24=>238|25=>239|26=>240|27=>241|46=>273|47=>185|48=>186|49=>274|50=>275|57=>289|n=>n,fun|22=>106|24=>109|25=>245|3=>3|39=>179|0=>0|53=>67|55=>214|4=>4|46=>235|45=>234|50=>239|5=>5|9=>9|66=>279|70=>283|76=>322|77=>323|n=>n,fun|n=>n⟩
def Wk:Go.Proofs.SlLaysF0.n6 Tryz.prog tT:={
 mixed:=kx
 f6:=⟨Tryz.f150.name,dx,Tryz.func150.trans<|congrArg some kx⟩
 f14:=⟨Tryz.f191.name,dx,Tryz.func191.trans<|congrArg some kx⟩
 f15:=Tryz.func104.trans (congrArg some kx)
 f20:=⟨Tryz.f234.name,dx,Tryz.func234.trans<|congrArg some kx⟩
 f21:=⟨Tryz.f235.name,dx,Tryz.func235.trans<|congrArg some kx⟩
 f22:=⟨Tryz.f236.name,dx,Tryz.func236.trans<|congrArg some kx⟩
 f23:=⟨Tryz.f237.name,dx,Tryz.func237.trans<|congrArg some kx⟩
 f24:=⟨Tryz.f238.name,dx,Tryz.func238.trans<|congrArg some kx⟩
 f25:=⟨Tryz.f239.name,dx,Tryz.func239.trans<|congrArg some kx⟩
 f26:=⟨Tryz.f240.name,dx,Tryz.func240.trans<|congrArg some kx⟩
 f27:=⟨Tryz.f241.name,dx,Tryz.func241.trans<|congrArg some kx⟩
 f28:=Tryz.func145.trans (congrArg some kx)
 f29:=Tryz.func146.trans (congrArg some kx)
 f46:=⟨Tryz.f273.name,dx,Tryz.func273.trans<|congrArg some kx⟩
 f47:=Tryz.func185.trans (congrArg some kx)
 f48:=Tryz.func186.trans (congrArg some kx)
 f49:=⟨Tryz.f274.name,dx,Tryz.func274.trans<|congrArg some kx⟩
 f50:=⟨Tryz.f275.name,dx,Tryz.func275.trans<|congrArg some kx⟩
 f57:=⟨Tryz.f289.name,dx,Tryz.func289.trans<|congrArg some kx⟩
 t0:=Tryz.underlying0
 a0:=Tryz.isAgg0
 z0:=Tryz.sizeOf0
 v0:=Tryz.zeroValue0
 t3:=Tryz.underlying3
 a3:=Tryz.isAgg3
 z3:=Tryz.sizeOf3
 v3:=Tryz.zeroValue3
 t4:=Tryz.underlying4
 a4:=Tryz.isAgg4
 z4:=Tryz.sizeOf4
 v4:=Tryz.zeroValue4
 t5:=Tryz.underlying5
 a5:=Tryz.isAgg5
 z5:=Tryz.sizeOf5
 v5:=Tryz.zeroValue5
 t9:=Tryz.underlying9
 a9:=Tryz.isAgg9
 z9:=Tryz.sizeOf9
 v9:=Tryz.zeroValue9
 t22:=Tryz.underlying106
 a22:=Tryz.isAgg106
 z22:=Tryz.sizeOf106
 v22:=Tryz.zeroValue106
 t25:=Tryz.underlying245
 a25:=Tryz.isAgg245
 z25:=Tryz.sizeOf245
 v25:=Tryz.zeroValue245
 t39:=Tryz.underlying179
 a39:=Tryz.isAgg179
 z39:=Tryz.sizeOf179
 v39:=Tryz.zeroValue179
 t45:=Tryz.underlying234
 a45:=Tryz.isAgg234
 z45:=Tryz.sizeOf234
 v45:=Tryz.zeroValue234
 t46:=Tryz.underlying235
 a46:=Tryz.isAgg235
 z46:=Tryz.sizeOf235
 v46:=Tryz.zeroValue235
 t50:=Tryz.underlying239
 a50:=Tryz.isAgg239
 z50:=Tryz.sizeOf239
 v50:=Tryz.zeroValue239
 t53:=Tryz.underlying67
 a53:=Tryz.isAgg67
 z53:=Tryz.sizeOf67
 v53:=Tryz.zeroValue67
 t55:=Tryz.underlying214
 a55:=Tryz.isAgg214
 z55:=Tryz.sizeOf214
 v55:=Tryz.zeroValue214
 t66:=Tryz.underlying279
 a66:=Tryz.isAgg279
 z66:=Tryz.sizeOf279
 v66:=Tryz.zeroValue279
 t70:=Tryz.underlying283
 a70:=Tryz.isAgg283
 z70:=Tryz.sizeOf283
 v70:=Tryz.zeroValue283
 t76:=Tryz.underlying322
 a76:=Tryz.isAgg322
 z76:=Tryz.sizeOf322
 v76:=Tryz.zeroValue322
 t77:=Tryz.underlying323
 a77:=Tryz.isAgg323
 z77:=Tryz.sizeOf323
 v77:=Tryz.zeroValue323}
end
end Go.Proofs
namespace Go.Proofs.YtickjpnkoppmgaaGreatDoor
open Go.Proofs.Tryz Go.RowKit K Go.Shelf Go.Sort
def Qs{α:Type}(enc:α->LV)(l:List α):LV:=l.flatMap enc
def Ks{α}{enc:α->LV}{k}(hk:∀x,(enc x).length=k):∀l:List α,(Qs enc l).length=l.length*k
 | []=>by simp[Qs]
 |x::l=>by have c:=Ks hk l;unfold Qs at c ⊢;rw[Jd,Qo,hk,c,QW,DG];omega
def Vy{α}{enc:α->LV}{k}(hk:∀x,(enc x).length=k):∀(l:List α)(i j:Nat)(x:α),l[i]?=some x->j<k->(Qs enc l)[i*k+j]?=(enc x)[j]?
 | [],i,j,x,h,_=>by simp at h
 |y::l,0,j,x,h,hj=>by simp at h;subst h;unfold Qs;rw[Jd,IA,Zu,Xc<|by rwa[hk]]
 |y::l,i+1,j,x,h,hj=>by
  have c:=Vy hk l i j x (by simpa using h) hj;unfold Qs at c ⊢;rw[Jd,Zm (by rw[hk,DG];omega),hk,<-c,DG]
  congr 1;omega
def KK{α}[Inhabited α]{enc:α->LV}{k}(hk:∀x,(enc x).length=k)(h0:0<k)(l t)(h:t<l.length*k):(Qs enc l)[t]?=some ((flatK enc k l.toArray)[t]!):=by
 have c:t/k<l:=Nat.div_lt_of_lt_mul (by rwa[V6]);have e:t%k<k:=J8 _ h0;have d:=Vy hk l (t/k) (t%k) (l[t/k]'c) (Qj _) e;rw[show t/k*k+t%k=t by rw[V6];exact MN t k]at d;rw[d,get_flatK _ _ _ _<|by simpa using h,getElem!_pos l.toArray _<|by simpa using c];have d:t%k<(enc<|l[t/k]'c).length:=by rwa[hk]
 rw[Qj d];simp[d]
def Si{α}[Inhabited α]{enc:α->LV}{k}(hk:∀x,(enc x).length=k)(h0:0<k)(d:∀x,∀v∈enc x,v.oneCell'=true){w e}{g n c m:Nat}{l l' os}(i:Qm w e k (.slice g n c) n (Qs enc l))(q:l.length=n)(hp:l'.length=n):
 Qp (sortWorldK enc k w g 0 m l'.toArray os) k g n (Qs enc l')/\Qb [g] w (sortWorldK enc k w g 0 m l'.toArray os):=by
 have p:g<w:=i.lt g (by simp[Qd,qo]);have o:HoldsK enc k w g 0 l.toArray:=by intro h d;rw[size_flatK]at d;have j:=KK hk h0 l h (by simpa using d);exact⟨by rw[Zu];exact i.aZ j,i.free _⟩
 refine⟨⟨by rw[Ks hk,hp],fun h i d=>⟨g,0,rfl,?_⟩⟩,?_⟩
 ·have i:h<l'.length*k:=by have:=(Qy.1 d).1;rwa[Ks hk]at this
  rw[KK hk h0 l' h i]at d;cases d;unfold sortWorldK;rw[cell?_grow _ _ _ (by simp[putRowK];exact p)];exact cell?_putRow id (Go.Sort.ahead w m) g 0 (flatK enc k l.toArray) (flatK enc k l'.toArray) o (by rw[size_flatK,size_flatK];simp[q,hp]) h (by rw[size_flatK];simpa using i)
 unfold sortWorldK;refine⟨rfl,rfl,rfl,?_,?_⟩
 ·simp[putRowK]
 intro d hi d;rw[heap_grow_old _ _ (by simp[putRowK];exact hi)];simp only[putRowK,putRow,mapBlock];rw[Mj,Qf (by simp at d;omega)];rfl
def mE{α}[Inhabited α]{enc:α->LV}{k w e}{g n c m:Nat}{xs o d os}(h:Qm w e k (.slice g n c) n xs)(hs:Qp (sortWorldK enc k w g 0 m d os) k g n o):Qm (sortWorldK enc k w g 0 m d os) e k (.slice g n c) n o:=by
 have x:g<w:=h.lt g (by simp[Qd,qo]);rcases h.2 with⟨h,l⟩|⟨i,cap,q,h,l,s,t,u,h6,h7⟩
 ·cases h
 injection h with h j e3;injection h with h;injection h with h;subst h e3;obtain⟨i,p,v⟩:∃i,(sortWorldK enc k w g 0 m d os).heap[g]?=some (.cells i e (0,0))/\i.size=q.size:=by unfold sortWorldK;rw[heap_grow_old _ _ (by simp[putRowK];exact x)];simp only[putRowK,putRow,mapBlock];rw[Mj,Qg rfl];show ∃i,Option.map _ w.heap[g]?=_/\_;rw[s];exact⟨_,rfl,by simp[putCells]⟩
 refine⟨hs.1,.inr ⟨g,c,i,rfl,l,p,t,u,by rw[v,h6],?_⟩⟩;refine XB fun i=>?_
 by_cases q:i<n*k
 ·rw[Bb q];have⟨l,s⟩:=qy o i (by rwa[hs.1]);obtain⟨b,off,h,j⟩:=hs.2 i l s;injection h with h;injection h with h e3;subst h e3;rw[Zu,ZD _ _ _ _ _ _ p]at j;rw[s];simpa using j
 rw[QU zx,QU (by rw[hs.1];omega)]
def Zc(x:QP):LV:=[x.1,x.2]
def RY(x c:QP):Int:=if x=c then 0 else if UQ x c then -1 else 1
def Kt(x c:QP):ltOf RY x c=decide (UQ x c):=by
 unfold ltOf RY;refine decide_eq_decide.2 ?_
 by_cases d:x=c
 ·subst d;rw[Qg rfl];unfold UQ;omega
 rw[Qf d];split<;>simp[*]
def Qjz:SWO (ltOf RY) where
 irrefl x:=by rw[Kt];unfold UQ;simp
 trans x y z h1 h2:=by rw[Kt]at*;simp only[ZE]at*;unfold UQ at*;omega
 ntrans x y z h1 h2:=by rw[Kt]at*;simp only[Cb]at*;unfold UQ at*;omega
def yZ(a b c d:Int)(w):(binOp .eql 109 (.agg #[a,b])<|.agg #[c,d]).run prog w=.ok (.bool<|a==c&&b==d) w:=by
 rw[run_eql_struct,run_equalIn_agg _ _ _ _ _ kx kx];simp[Program.fieldsOf,underlying109,Op.eqFields,go_sem,part,Vv]
 by_cases e:a=c<;>by_cases g:b=d<;>simp[e,g]
def xA(x g:QP)(w):Calls prog 151 #[.agg (Zc x).toArray,.agg (Zc g).toArray] w fun e w'=>e=.returned (.int .i64<|RY x g)/\∃j i,w'=grow (w.drewN j) i:=by
 obtain⟨a,b⟩:=x;obtain⟨c,d⟩:=g;have n:=fun g=>yZ a b c d g
 have l:=Qa (show ∀g h:Obj,∃j i,(w.alloc g).alloc h=grow (w.drewN j) i from fun g h=>⟨0,#[g]++#[h],by rw[alloc_eq_grow,alloc_eq_grow,grow_grow];rfl⟩);have h:RY (a,b) (c,d)=if a=c/\b=d then 0 else if a<c\/(a=c/\b<d)then -1 else 1:=by
  unfold RY;have hlt:UQ (a,b) (c,d)↔a<c\/(a=c/\b<d):=Iff.rfl;simp only[Prod.ext_iff,Prod.mk.injEq]
  by_cases i:a=c/\b=d
  ·rw[Qg i,Qg i]
  rw[Qf i,Qf i]
  by_cases g:UQ (a,b) (c,d)
  ·rw[Qg g,Qg<|hlt.1 g]
  rw[Qf g,Qf fun i=>g<|hlt.2 i]
 have j:=Qa h;clear h;show Calls prog 151 #[.agg #[a,b],.agg #[c,d]] w _;go_enter func151,ntmps151
 by_cases h0:a=c/\b=d
 ·have m:(a==c&&b==d)=true:=by simpa using h0
  rw[m]at n;have h:=Qa (by rw[j.o,Qg h0]:RY (a,b) (c,d)=0);clear h0
  go_wp2
  go_ret;exact⟨by rw[h.o];rfl,l.o _ _⟩
 have m:(a==c&&b==d)=false:=by rw[BN];intro i;exact h0 (by simpa using i)
 rw[m]at n
 by_cases i:a<c
 ·have h:=Qa (by rw[j.o,Qf h0,Qg<|.inl i]:RY (a,b) (c,d)= -1);have g1:decide (a<c)=true:=by simpa using i
  clear h0
  go_wp2
  go_ret;exact⟨by rw[h.o];rfl,l.o _ _⟩
 have g1:decide (a<c)=false:=by simpa using i
 by_cases g:a=c
 ·have m:(a==c)=true:=by simpa using g
  have:=Qa g
  by_cases i:b<d
  ·have h:=Qa (by rw[j.o,Qf h0,Qg<|.inr ⟨g,i⟩]:RY (a,b) (c,d)= -1);have g3:decide (b<d)=true:=(by simpa using i);clear h0 g
   go_wp2
   go_ret;exact⟨by rw[h.o];rfl,l.o _ _⟩
  have h:=Qa (by rw[j.o,Qf h0,Qf ox]:RY (a,b) (c,d)=1);have g3:decide (b<d)=false:=by simpa using i
  clear h0 g
  go_wp2
  go_ret;exact⟨by rw[h.o];rfl,l.o _ _⟩
 have h:=Qa (by rw[j.o,Qf h0,Qf ox]:RY (a,b) (c,d)=1);have m:(a==c)=false:=by simpa using g
 clear h0
 go_wp2
 go_ret;exact⟨by rw[h.o];rfl,l.o _ _⟩
def sY(g c n:Nat)(l:List QP)(w:WD)(e:Ending)(w':WD):Prop:=
 e=.returned (.tuple #[])/\Qm w' 109 2 (.slice g n c) n (Qs Zc (JX l))/\Qb [g] w w'
def Qi2(g c n:Nat)(l w)(e:Qm w 109 2 (.slice g n c) n (Qs Zc l))(o:l.length=n)(d:n<=1000000):
 Calls prog 150 #[.slice g n c,.func (.func 151) #[] #[]] w (sY g c n l w):=by
 have p:∀d w,(callFunc 151 d).run prog w=.ok (.enter 151 d) w:=enters_of func151 kx rfl;have hk:∀d,(Zc d).length=2:=fun _=>rfl
 have i:∀d,∀h∈Zc d,h.oneCell'=true:=fun d h h=>by simp[Zc]at h;rcases h with rfl|rfl<;>rfl
 have t:g<w:=e.lt g (by simp[Qd,qo]);have s:HoldsK Zc 2 w g 0 l.toArray:=by intro h j;rw[size_flatK]at j;have m:=KK hk dx l h (by simpa using j);exact⟨by rw[Zu];exact e.aZ m,e.free _⟩
 have q:=AnyQ.slices_SortFunc Wk 2 isAgg109 sizeOf109 Zc hk i RY Qjz 151 #[] g 0 c l.toArray w p (fun _ _ _ _ d p=>xA d p _) s t (by simp[o];omega);have p:l.toArray.size=n:=by simpa using o
 rw[p]at q;refine Calls.mono q ?_;rintro d d⟨rfl,d,u,os,⟨t,q,q⟩,hs,rfl⟩;have s:d.size=n:=by rw[t,p]
 have t:d.toList.Perm l:=by
  have i:d.extract 0 n=d:=by rw[<-s];simp
  have m:l.toArray.extract 0 n=l.toArray:=by rw[<-p];simp
  rw[i,m]at q;simpa using q
 have p:d.toList=JX l:=by
  refine Qi1 t<|JP.2 fun m h hi j s=>?_;have q:m<d.size:=by simpa using hi
  have t:h<d.size:=by simpa using j
  have j:=hs m h (Zv _) s ox;rw[getElem!_pos d m q,getElem!_pos d h t,Kt,Cb]at j;simpa using j
 have h:d=(JX l).toArray:=by rw[<-p]
 rw[h];have hp:=(Ai l).length_eq;obtain⟨d,h⟩:=Si (l':=JX l) (m:=u) (os:=os) hk dx i e o ox;exact⟨rfl,mE e d,h⟩
