import Derived.WalkMore
import Derived.Test.YtickjpnkoppmgaaGreatDoorAu
set_option linter.all false
set_option maxHeartbeats 4000000
set_option maxRecDepth 100000
namespace Go.Proofs.YtickjpnkoppmgaaGreatDoor
open Go.Proofs.Tryz Go.RowKit K
namespace K
def fB(l:List UInt8)(i:Nat):UInt8:=l.getD (i%l.length) 0
def Qer(l a j)(b:a≤l.length)(b:j<l.length):(l.drop a++l.take a)[j]?=some (fB l<|j+a):=by
 unfold fB
 by_cases b:j<l.length-a
 ·rw[Xo<|by rwa[YW],Uq,XQ<|by omega,List.getD,BT,Qj<|by omega];rfl
 rw[Zy (by rw[YW];omega),YW,Bi,Qg<|by omega];have:(j+a)%l.length=j-(l.length-a):=by rw[show j+a=(j-(l.length-a))+l.length by omega,CT,XQ<|by omega]
 rw[this,List.getD,Qj<|by omega];rfl
end K
def sE(s:ByteArray)(i t)(a:0<s.size):∃hb:(i+t)%s.size<s.size,K.fS s.data.toList (i+t)=(s[(i+t)%s.size]'hb).toNat:=by
 refine⟨JF _ a,?_⟩;unfold K.fS;have b:=Zm s;have c:(i+t)%s.data.toList.length=(i+t)%s.size:=by rw[b]
 rw[c,Ch s _<|JF _ a]
section
open Go.Sort
def AS(L:List Nat)(k:Nat):Nat:=if L.idxOf 0<k then L.idxOf 0 else 0
def Qev(L):AS L 0=0:=by unfold AS;rw[Qe<|by omega]
def yP(L:List Nat)(k)(hk:L[k]?=some 0)(d:L.Nodup):L.idxOf 0=k:=by
 obtain⟨b,c⟩:=Qz.1 hk;have a:(0:Nat)∈L:=QC hk;have hi:=Lb a;have h0:L[L.idxOf 0]=0:=GR hi;have hne:=JD.1<|show L.Pairwise (· ≠ ·)from d;rcases BU (L.idxOf 0) k with a|a|a
 ·exact absurd (h0.trans c.symm)<|hne _ _ hi b a
 ·exact a
 exact absurd (c.trans h0.symm)<|hne _ _ b hi a
def Qeu(L k)(hk:L[k]?=some 0)(a:L.Nodup):AS L (k+1)=k:=by have:=yP L k hk a;unfold AS;rw[Qg<|by omega,this]
def Qet(L k x)(hk:L[k]?=some x)(a:x≠0):AS L (k+1)=AS L k:=by
 have:L.idxOf 0≠k:=by intro a;obtain⟨b,b⟩:=Qz.1 hk;have h0:L[L.idxOf 0]'(by omega)=0:=GR (by omega);simp only[a]at h0;omega
 unfold AS
 by_cases a:L.idxOf 0<k
 ·rw[Qg<|by omega,Qg a]
 rw[Qe<|by omega,Qe a]
def Qes(L k)(a:0∈L)(hk:L.length≤k):AS L k=L.idxOf 0:=by have:=Lb a;unfold AS;rw[Qg<|by omega]
def Ph(bs:List UInt8)(row a:Nat)(w:World)(e:Ending)(w':World):Prop:=
 e=.returned (.tuple #[.string ⟨bs.toArray⟩,(row:Nat),(a:Nat)])∧Qb [] w w'
def mF(s:ByteArray)(w:World)(e:Ending)(w':World):Prop:=
 ∃a,K.Ordered s.size (K.fS s.data.toList) s.size a∧Ph (X4 (ZP s.size (K.fS s.data.toList) a)) (a.idxOf 0) 0 w e w'
def zS(n f)(L:List Nat)(k x)(a:L[k]?=some x):ZP n f (L.take<|k+1)=ZP n f (L.take k)++[f<|x+n-1]:=by unfold ZP;rw[ZE,a,Xh];rfl
def sD(s:ByteArray)(a b)(ha:a<s.size)(hb:b<s.size)(c:a=b):(s[a]'ha).toNat=(s[b]'hb).toNat:=by subst c;rfl
def WK(s:ByteArray)(t i)(h0:0<s.size)(hi:i<s.size)(a:t%s.size=i):K.fS s.data.toList t=(s[i]'hi).toNat:=by obtain⟨hb,b⟩:=sE s t 0 h0;exact b.trans<|sD s _ _ _ _ a
def wK(s:ByteArray)(w)(h0:0<s.size)(hs:s.size≤262144)(d:Lv s.size):Calls prog 160 #[s] w (mF s w):=by
 have e:=fun w=>Qca s w (by omega) d
 have k:=Qa e;have c:=Zm s;have:=Qa c;have:s.toList.isEmpty=false:=by
  rw[XN];cases l:s.data.toList with
  |nil=>rw[l]at c;simp at c;omega
  |cons a b=>rfl
 have g1:decide (262144<(s.size:Int))=false:=by simp;omega
 go_enter func160,ntmps160;go_wp2_with ((at_make;refine Y0 rfl _ _ 88 rfl 5 (.int .u8 0) 1 ZW YL rfl .i64 .i64 _ _ s.size s.size rfl rfl rfl rfl (by omega) (by omega) (by simp only[maxLen];omega) ?_;intro h g c));have⟨f,o⟩:=qb g c;have⟨e,d⟩:=qx w.heap.size;rw[d]at f ⊢;have E:=Qa (by omega:w.heap.size≤e);refine(k.o h).mono ?_;rintro c i⟨q,d,rfl,h,r,g,c⟩;have m:K.fS s.data.toList (0+s.size-1)=(s[s.size-1]'(by omega)).toNat:=WK s _ _ h0 _ (by rw[Zz,XQ<|by omega]);have n:∀c (l:c+1<s.size),K.fS s.data.toList (c+1+s.size-1)=(s[c]'(by omega)).toNat:=fun c hi=>WK s _ _ h0 _ (by rw[show c+1+s.size-1=c+s.size by omega,CT,XQ<|by omega])
 have:e<i.heap.size:=by have:=g.size;have:=f.o.lt e (by simp[Qd,qo]);omega
 have l:Qh i 5 (.slice (some ⟨e,0,none⟩) s.size s.size) (Qm<|X4 (ZP s.size (K.fS s.data.toList)<|d.take 0)++List.replicate (s.size-0) 0):=by
  have:Qm (X4 (ZP s.size (K.fS s.data.toList)<|d.take 0)++List.replicate (s.size-0) 0)=List.replicate s.size (.int .u8 0):=by simp[Qm,X4,ZP]
  rw[this];exact f.o.kept g (by simp)
 have:q≠e:=by have:=f.o.lt e (by simp[Qd,qo]);omega
 have⟨t,C,q,v,f,D,o⟩:=qg m n h r.sZ l (o.o.trans g<|by simp) h.len
 go_wp2
 go_loopg [6,20] s.size (fun h k g wr=>∃c:Nat,c≤s.size∧h=s.size-c∧k=.int .i64 (AS d c:Nat)∧g=.int .i64 (c:Nat)∧Hid (Qh wr 5 (.slice (some ⟨e,0,none⟩) s.size s.size)<|Qm<|X4 (ZP s.size (K.fS s.data.toList)<|d.take c)++List.replicate (s.size-c) 0)∧Hid (Qb [e] i wr))
 ·exact⟨0,by omega,by omega,by rw[Qev];rfl,rfl,f,Qa<|Qc _ _⟩
 obtain⟨c,hi,hk,rfl,rfl,l,n⟩:=hrel;have B:=Qa hk
 by_cases hlt:c<s.size
 ·have:(c:Int)<s.size:=by omega
  have⟨h,i⟩:=qy d c (by rw[o.o];exact hlt);have F:h<s.size:=q.o.lt h<|QC i;have f:(X4<|ZP s.size (K.fS s.data.toList)<|d.take c).length=c:=by simp[X4,ZP,o.o];omega
  have c0:=(v.o.kept n.o (by intro G hz r;simp[fZ]at hz;simp at r;omega)).natC i;rw[Zz]at c0;have:=l.o.aZ (j:=c) (u:=.int .u8 ((0:UInt8).toNat:Nat)) (by rw[Ky _ _ (by rw[Qo,f,Ap];omega)];rw[List.getD,Zy (by rw[f];exact Ql _),f,ZM,VM,Qg<|by omega];rfl);have:=l.o.free c;have g:=zS s.size (K.fS s.data.toList) d c h i;have⟨z,y,A⟩:=qc g f i
  by_cases x:h=0
  ·subst x;have m:=Qeu d c A.o q.o.nodup;have k:=Qa m;have:(s.size:Int)-1<(s.size:Int):=(by omega);have:((s.size:Int)-1).toNat=s.size-1:=(by omega);have g:=z.o;rw[t.o]at g;have v:=Qa g;have i:=l.o.put c<|.int .u8 ((s[s.size-1]'(by omega)).toNat:Nat);rw[OF _ _ _ _ y.o hlt]at i;have t:=Qa i
   go_wp2
   go_roundg (s.size-(c+1))
   ·refine⟨c+1,by omega,rfl,by rw[k.o],by go_num,Qa ?_,Qa<|n.o.setCell (p:=⟨e,c,none⟩) (.inl<|by simp) _⟩;rw[v.o,OD,Hy];exact t.o
   have:=B.o;omega
  obtain⟨f,rfl⟩:∃f,h=f+1:=⟨h-1,by omega⟩;have m:=Qet d c _ A.o x;have k:=Qa m;have A:f<s.size:=by omega
  have:(f:Int)<s.size:=by omega
  have h:((f+1:Nat):Int)=f+1:=by omega
  have:((f:Int)+1==0)=false:=Zh.2 (by omega);rw[h]at c0;have g:=z.o;rw[C.o f F]at g;have v:=Qa g;have i:=l.o.put c<|.int .u8 ((s[f]'A).toNat:Nat);rw[OF _ _ _ _ y.o hlt]at i;have t:=Qa i;have:(f:Int)+1-1=(f:Int):=by omega
  go_wp2
  go_roundg (s.size-(c+1))
  ·refine⟨c+1,by omega,rfl,by rw[k.o],by go_num,Qa ?_,Qa<|n.o.setCell (p:=⟨e,c,none⟩) (.inl<|by simp) _⟩;rw[v.o,OD,Hy];exact t.o
  have:=B.o;omega
 obtain rfl:c=s.size:=by omega
 have c:=l.o;rw[ZM,CQ,XP,Zd (by rw[o.o];exact Ql _)]at c;have:=Qh.text c;have e:=Qa n.o;have r:0∈d:=q.o.perm.mem_iff.2<|ZL.2 h0;have hra:=Qes d s.size r (by rw[o.o];exact Ql _);have k:=Qa hra
 go_wp2
 go_ret3
 refine⟨d,q.o,by rw[k.o];rfl,D.o.trans e.o ?_⟩;intro G hz;simp at hz;subst hz;exact .inr E.o
end
section
open Go.Sort
def FA(s:ByteArray)(row:Int):List UInt8 × Nat:=
 if 262144<s.size then([],3)else if row<0∨(s.size:Int)≤row then([],50)else(X4 (Ve (Ya s.data.toList) (XF (Ya s.data.toList) 256) s.size row.toNat),0)
def rB(s:ByteArray)(row:Int)(w)(hs:s.size≤140737488351232):Calls prog 229 #[s,row] w (CX (FA s row) w):=by
 unfold FA
 by_cases hb:262144<s.size
 ·have g1:decide (262144<(s.size:Int))=true:=by simp;omega
  rw[Qg hb];go_enter func229,LC
  go_wp2
  go_ret2;exact⟨rfl,Qc _ _⟩
 have g1:decide (262144<(s.size:Int))=false:=by simp;omega
 rw[Qe hb]
 by_cases a:row<0
 ·have:decide (row<0)=true:=Xr a;rw[Qg<|.inl a];go_enter func229,LC
  go_wp2
  go_ret2;exact⟨rfl,Qc _ _⟩
 obtain⟨b,rfl⟩:=X5 (by omega:0≤row)
 by_cases c:s.size≤b
 ·have g3:(s.size:Int)≤b:=by omega
  rw[Qg<|.inr g3];go_enter func229,LC
  go_wp2
  go_ret2;exact⟨rfl,Qc _ _⟩
 rw[Qe<|by omega,Zw];exact rD s b w (by omega) (by omega)
end
section
open Go.Sort
def vS(l)(a:∀x∈l,x<256):Ya (X4 l)=l:=by
 unfold Ya X4;rw[XG];have:l.map (UInt8.toNat∘UInt8.ofNat)=l.map id:=Yu fun x b=>by have:=a x b;simp only[Function.comp,US,id];omega
 rw[this,DP]
def dR(l:List UInt8):(ByteArray.mk l.toArray).size=l.length:=by have:=Zm<|ByteArray.mk l.toArray;rw[←this]
def Qa8(l):(ByteArray.mk l.toArray).data.toList=l:=by simp
def zR(n f)(hf:∀i,f i<256)(L):∀x∈ZP n f L,x<256:=by intro x a;simp only[ZP,Qy]at a;obtain⟨i,-,rfl⟩:=a;exact hf _
def Qcx(s:ByteArray)(h0:0<s.size):K.Per s.size (K.fS s.data.toList):=
 ⟨FM _,fun a=>by have:=It s.data.toList a;rwa[Zm]at this,h0⟩
def Qeq(s:ByteArray)(i)(hi:i<s.size):X4 ((List.range s.size).map fun t=>K.fS s.data.toList<|i+t)=s.data.toList.drop i++s.data.toList.take i:=by
 have:=Zm s;apply Xu;intro a
 by_cases b:a<s.size
 ·rw[Qer s.data.toList i a (by omega)<|by omega];unfold X4;rw[ZJ,ZJ,Xb b];simp only[Av,Option.some.injEq];unfold K.fS K.fB;rw[Hy,BT]
 rw[QW (by simp[X4];omega),QW (by simp;omega)]
def rE(s:ByteArray)(L:List Nat)(h0:0<s.size)(hs:s.size≤262144)(a:K.Ordered s.size (K.fS s.data.toList) s.size L)(row:Nat)(b:row<s.size):
 FA (ByteArray.mk (X4<|ZP s.size (K.fS s.data.toList) L).toArray) (row:Nat)=(s.data.toList.drop (L.getD row 0)++s.data.toList.take (L.getD row 0),0):=by
 have d:(X4<|ZP s.size (K.fS s.data.toList) L).length=s.size:=by rw[X4,QG,ZP,QG,a.len]
 have c:=dR<|X4<|ZP s.size (K.fS s.data.toList) L;rw[d]at c;have d:=Qd2 (Qcx s h0) a row b;have hi:L.getD row 0<s.size:=by rw[List.getD,Qj<|by rwa[a.len]];exact a.lt _<|XW _
 unfold FA;rw[c,Qe<|by omega,Qe<|by omega,Qa8,vS _<|zR _ _ (FM _) _,Zw,d,Qeq s _ hi]
def IJ{n:Nat}{f:Nat→Nat}{L:List Nat}(a:K.Ordered n f n L)(i:Nat)(hi:i<n):L.idxOf i<n∧L.getD (L.idxOf i) 0=i:=by have b:i∈L:=a.perm.mem_iff.2<|ZL.2 hi;have hlt:=Lb b;rw[a.len]at hlt;refine⟨hlt,?_⟩;rw[List.getD,Qj (by rw[a.len];exact hlt)];exact GR (by rw[a.len];exact hlt)
end


def K.Qg2(bs:List Bool)(i:Nat)(n:Int)(a:n≤62):(QH bs i n).1<4611686018427387904:=by
 unfold QH
 split
 ·simp
 split
 ·simp
 have:=Dw<|QS bs i n.toNat;have a:(QS bs i n.toNat).length≤62:=by unfold QS;rw[Zn];omega
 have:2^(QS bs i n.toNat).length≤2^62:=Y7 (by decide) a;simp only;omega
def mA(r a:Nat)(s:ByteArray)(i:Nat)(n:Int)(w:World)(p:Nat × Nat)(e:Ending)(w':World):Prop:=
 e=.returned (.tuple #[p.1,p.2])∧Rd w' r a s (if p.2=0 then i+n.toNat else i)∧Qb [r] w w'
def Mt(c r a:Nat)(s i)(n:Int)(w)(b:w.heap[c]?=some (.cells #[.pointer r] 264 (0,0)))(e:Rd w r a s i)(hs:s.size≤1125899906842624)(hi:i≤8*s.size)(d:n≤62):
 Calls prog 264 #[n,.pointer c] w (mA r a s i n w<|QH (Qk s.data.toList) i n):=by
 have c0:w.cell? ⟨c,0,none⟩=_:=Zt w c 0 _ _ _ b;simp at c0;have hlt:=Qg2 (Qk s.data.toList) i n d;generalize b:QH (Qk s.data.toList) i n=p at hlt ⊢;have d:=Qa b;go_enter func264,ntmps264;go_wp2_with fail;refine(BM r a s i n _ e hs hi).mono ?_;rintro a a hp;rw[d.o]at hp;obtain⟨rfl,a,hk⟩:=hp;have⟨d,b⟩:=qb a hk;have hw:IntKind.i64.wrap (p.1:Int)=(p.1:Int):=Q2 _ (by omega)
 go_wp2
 go_ret2;exact⟨rfl,d.o,b.o⟩
def Pe(w0:World)(s:ByteArray)(n:Nat)(R:List Int × Nat × Nat)(c r d lo:Nat)(e:Bool)(k:Nat)(v x:Value)(w:World):Prop:=
 ∃a QR b,lo≤a∧a≤8*s.size∧k=8*s.size-a∧x=.int .i64 b∧(0≤b∧b≤31)∧QR.length≤n∧(e=true→QR.length<n)∧XL n QR b a ((Qk s.data.toList).drop a)=R∧
  Rd w r d s a∧Qh w 3 v (QK QR)∧w.heap[c]?=some (.cells #[.pointer r] 264 (0,0))∧Qr (Qd v) [c,r,d]∧Qb [] w0 w∧Qs w0.heap.size (Qd v)
def Jw(R:List Int × Nat × Nat)(w:World)(e:Ending)(w':World):Prop:=
 ∃a b,e=.returned (.tuple #[.slice a R.1.length b,R.2.1,R.2.2])∧Qh w' 3 (.slice a R.1.length b) (QK R.1)∧Qb [] w w'∧Qs w.heap.size (fZ a)
def Jw.nil{R w w' x e}(a:R=([],0,x))(b:e=.returned (.tuple #[.slice none 0 0,(0:Int),x]))(hk:Qb [] w w'):Jw R w e w':=by subst a;exact⟨none,0,b,Qh.nil _ _,hk,by simp[Qs,fZ]⟩
def K.Wy(s:ByteArray)(p:Nat)(a:p<8*s.size):(Qk s.data.toList).drop p=X3 s.data.toList p::(Qk s.data.toList).drop (p+1):=by
 have b:p<(Qk s.data.toList).length:=by rwa[XC]
 rw[Xa b]
 congr 1
 have:=V0 s.data.toList p (by rwa[CF]);rw[Qj b]at this;exact Option.some.inj this
def K.jX(s:ByteArray)(p:Nat)(a:8*s.size≤p):QH (Qk s.data.toList) p 1=(0,10):=by unfold QH;rw[Qe<|by omega,Qg (by rw[XC];simp;omega)]
def uU(s:ByteArray)(at_ n:Int)(w)(hs:s.size≤1000000000):
 Calls prog 224 #[s,at_,n] w (Jw (Jo (Qk s.data.toList) at_ n) w):=by
 by_cases b:at_<0∨(8*s.size:Nat)<at_
 ·have a:Jo (Qk s.data.toList) at_ n=([],0,2):=by unfold Jo;rw[Qg (by rw[XC];omega)]
  have f:=Qa a;clear a;go_enter func224,ntmps224;go_wp2_with fail
  go_step3
  go_wp2_with fail;refine(IU s at_ _ (by omega) b).mono ?_;rintro G e⟨rfl,rfl⟩;go_wp2_with fail
  try rw[UM]
  go_ret3
  exact Jw.nil f.o rfl<|((Qc _ _).alloc _).alloc _
 obtain⟨at_,rfl⟩:=X5 (by omega:0≤at_);generalize b:Jo (Qk s.data.toList) at_ n=R;have m:=Qa b;clear b;go_enter func224,ntmps224;go_wp2_with fail
 go_step3
 go_wp2_with fail;refine(BD s _ _ (by omega) (by omega) (by simp;omega)).mono ?_;rintro G e⟨h,i,rfl,k,b,g⟩;rw[Zw]at k;have d:=k.lt;have⟨u,o,j⟩:=qc g d b;clear b d g
 by_cases b:n<2
 ·have a:R=([],0,2):=by rw[←m.o];unfold Jo;rw[Qg<|by omega]
  have f:=Qa a;have g1:decide (n<2)=true:=by simp;omega
  clear a;go_wp2_with fail
  try rw[UM]
  go_ret3
  exact Jw.nil f.o rfl<|j.o.alloc _
 have g1:decide (n<2)=false:=by simp;omega
 by_cases b:258<n
 ·have a:R=([],0,2):=by rw[←m.o];unfold Jo;rw[Qg<|by omega]
  have f:=Qa a;have A:decide (258<n)=true:=by simp;omega
  clear a;go_wp2_with fail
  try rw[UM]
  go_ret3
  exact Jw.nil f.o rfl<|j.o.alloc _
 have A:decide (258<n)=false:=by simp;omega
 obtain⟨n,rfl⟩:=X5 (by omega:0≤n);go_wp2_with fail;have g:(e.alloc<|.cells #[.pointer h] 264).heap[e.heap.size]?=some (.cells #[.pointer h] 264 (0,0)):=Xe _ _;have l:=k.kept ((Qc [] e).alloc<|.cells #[.pointer h] 264)<|Z9 _;have t:=j.o.alloc<|.cells #[.pointer h] 264;have p:∀d∈[e.heap.size],d∉[h,i]:=by intro d b q;rw[Q8.1 b]at q;have:=o.o _ q;omega
 have r:Qs w.heap.size [e.heap.size,h,i]:=by
  intro d b;rcases QB.1 b with rfl|b
  ·exact j.o.size
  exact u.o d b
 generalize e.alloc (.cells #[.pointer h] 264)=W2 at g l t ⊢;generalize e.heap.size=c at g p r ⊢;have⟨u,Q,x⟩:=qc t p r;have j:QH (Qk s.data.toList) at_ 5=if 8*s.size<at_+5 then(0,10)else(K.num<|QS (Qk s.data.toList) at_ 5,0):=by unfold QH;rw[Qe<|by omega,XC];rfl
 have e:R=if 8*s.size<at_+5 then([],0,10)else XL n [] (K.num<|QS (Qk s.data.toList) at_ 5) (at_+5) ((Qk s.data.toList).drop<|at_+5):=by rw[←m.o];unfold Jo;rw[Qe (by rw[XC];omega),XC];rfl
 have⟨v,o⟩:=qb j e;refine(Mt c h i s at_ 5 _ g l (by omega) (by omega)<|by decide).mono ?_;clear k t p r j e g1 A;rintro G p hp;rw[v.o]at hp
 by_cases k:8*s.size<at_+5
 ·rw[Qg k]at hp;obtain⟨rfl,j,e⟩:=hp;have a:=o.o;rw[Qg k]at a;have⟨f,m⟩:=qb a<|u.o.new e fun d b=>x.o d (by simp at b;simp[b]);clear j e a g l;go_wp2_with fail
  try rw[UM]
  go_ret3
  exact Jw.nil f.o rfl m.o
 rw[Qe k]at hp;obtain⟨rfl,j,e⟩:=hp;have j:Rd p h i s (at_+5):=j;have a:=o.o;rw[Qe k]at a;have p:K.num (QS (Qk s.data.toList) at_ 5)<32:=by have k:=Dw<|QS (Qk s.data.toList) at_ 5;rw[Qc2 _ _ _ (by rw[XC];omega)]at k;exact k
 have k:=e.heap g (by have:=Q.o c (by simp);simp at this;simp[this]);have m:=Qa<|u.o.new e fun d b=>x.o d (by simp at b;simp[b]);generalize K.num (QS (Qk s.data.toList) at_ 5)=now0 at a p ⊢;have f:=Qa a.symm;clear e a g l o v;go_wp2_with fail
 go_step3
 go_wp2
 go_loopg [13,11] (8*s.size-(at_+5)) (fun g y d wr=>Pe w s n R c h i (at_+5) false g y d wr)
 ·exact⟨at_+5,[],now0,by omega,by omega,rfl,rfl,by omega,by simp,fun S=>(by cases S),f.o,j,Qh.nil _ _,k,fun d b=>(by simp[Qd,qo]at b),m.o,by simp[Qs,Qd,qo]⟩
 obtain⟨P,QR,e,l,hp,hk,rfl,T,L,-,t,C,m,z,hap,v,u⟩:=hrel;have h1:=Qa hk;obtain⟨ao,J,p,-,-,-,H⟩:=m.sees;rw[Xk]at p;subst p;clear hk j k
 by_cases B:QR.length<n
 ·have W:(QR.length:Int)<n:=by omega
  have⟨r,j,F,D,k,l,o⟩:=qg t C m z hap v u;clear t C m z hap v u H
  go_wp2
  go_loopg [13,11] (8*s.size-P) (fun g y d wr=>Pe w s n R c h i P true g y d wr)
  ·exact⟨P,QR,e,by omega,hp,rfl,rfl,T,L,fun _=>B,r.o,j.o,F.o,D.o,k.o,l.o,o.o⟩
  obtain⟨g,QR,e,y,hp,hk,rfl,T,L,hlt,t,C,m,z,hap,v,u⟩:=hrel;have V:=Qa hk;obtain⟨ao,J,p,-,-,-,H⟩:=m.sees;rw[Xk]at p;subst p;have p:=hlt rfl;clear hlt;have⟨r,j,F,D,k,l,o⟩:=qg t C m z hap v u;clear hk t C m z hap v u H W B
  by_cases y:e<1∨20<e
  ·have a:=r.o;rw[Nb _ _ _ _ _ p y]at a;have f:=Qa a.symm;clear a
   by_cases B:e<1
   ·have g1:decide (e<1)=true:=(by simp;omega);go_wp2_with fail
    try rw[UM]
    go_ret3
    exact Jw.nil f.o rfl l.o
   have g1:decide (e<1)=false:=(by simp;omega);have A:decide (20<e)=true:=(by simp;omega);go_wp2_with fail
   try rw[UM]
   go_ret3
   exact Jw.nil f.o rfl l.o
  have g1:decide (e<1)=false:=by simp;omega
  have A:decide (20<e)=false:=by simp;omega
  go_wp2_with fail;refine(Mt c h i s g 1 _ D.o j.o (by omega) (by omega)<|by decide).mono ?_;rintro G Y A
  by_cases B:8*s.size≤g
  ·rw[jX s g B]at A;obtain⟨rfl,-,j⟩:=A;have a:=r.o;rw[CN (by rw[XC];exact B),Nc _ _ _ _ p y]at a;have⟨f,E⟩:=qb a.symm<|l.o.new j fun d b=>x.o d (by simp at b;simp[b]);clear a j;go_wp2_with fail
   try rw[UM]
   go_ret3
   exact Jw.nil f.o rfl E.o
  rw[OB s g<|by omega]at A;obtain⟨rfl,B,j⟩:=A;have B:Rd Y h i s (g+1):=B;have A:=Wy s g (by omega);have I:Qr (Qd<|.slice ao QR.length J) [h]:=fun d b q=>k.o d b (by simp at q;simp[q])
  have U:=F.o.kept j I;have M:=j.heap D.o (by have:=Q.o c (by simp);simp at this;simp[this]);have E:=Qa<|l.o.new j fun d b=>x.o d (by simp at b;simp[b]);have h4:=QU l.o.size j.size;clear j I;cases htb:X3 s.data.toList g with
  |false=>
   rw[htb]at A;have a:=r.o;rw[A,Nd _ _ _ _ _ p y]at a;have⟨f,I,D⟩:=qc a B M;have h2:(QK QR).length+1≤maxLen:=(by rw[Xk];simp only[maxLen];omega);have h3:((QK QR).length+1)*8≤140737488355328:=(by rw[Xk];omega);clear A a htb B M;go_wp2_with ((at_builtin;refine UL _ rfl _ _ 51 rfl 3 (0:Int) 8 XH XR rfl _ _ [e] 1 rfl rfl rfl rfl (by simp[Value.oneCell']) U h2 h3 ?_;intro a5 h5 Z O j X))
   go_roundg (8*s.size-(g+1))
   case measure=>have:=h1.o;omega
   have h1:∀d∈[c,h,i],d<Y.heap.size:=by
    intro d b;rcases QB.1 b with rfl|b
    ·exact BB D.o
    exact I.o.lt d b
   refine⟨g+1,QR++[e],e,by omega,by omega,rfl,rfl,T,by simp;omega,fun S=>(by cases S),f.o,I.o.kept j<|k.o.symm.sub<|by simp,?_,j.heap D.o<|k.o.symm c<|by simp,(k.o.symm.grow h1 X).symm,E.o.new j o.o,o.o.grow X h4⟩;have:=O;rw[show QK (QR++[e])=QK QR++[.int .i64 e]by simp[QK]];exact this
  |true=>
   rw[htb]at A;have⟨I,D,T,S⟩:=qd B M U A;clear A htb B M U;go_wp2_with fail;refine(Mt c h i s (g+1) 1 _ D.o I.o (by omega) (by omega)<|by decide).mono ?_;rintro G Z B
   by_cases A:8*s.size≤g+1
   ·rw[jX s (g+1) A]at B;obtain⟨rfl,-,j⟩:=B;have a:=r.o;rw[S.o,CN (by rw[XC];exact A),bX _ _ _ _ p y]at a;have⟨f,A⟩:=qb a.symm<|E.o.new j fun d b=>x.o d (by simp at b;simp[b]);clear a j;go_wp2_with fail
    try rw[UM]
    go_ret3
    exact Jw.nil f.o rfl A.o
   rw[OB s (g+1)<|by omega]at B;obtain⟨rfl,I,j⟩:=B;have I:Rd Z h i s (g+2):=I;have U:=Wy s (g+1) (by omega);have M:Qr (Qd<|.slice ao QR.length J) [h]:=fun d b q=>k.o d b (by simp at q;simp[q])
   have O:=T.o.kept j M;have T:=j.heap D.o (by have:=Q.o c (by simp);simp at this;simp[this]);have⟨A,x,q,B⟩:=qd (E.o.new j fun d b=>x.o d (by simp at b;simp[b])) I T O;have b:=r.o;rw[S.o,U]at b;clear j M I T O U;cases htb:X3 s.data.toList (g+1)with
   |false=>
    rw[htb,bY _ _ _ _ _ p y]at b;have d:=Qa b;have j:IntKind.i64.wrap (e+1)=e+1:=Q2 _ (by omega);clear b htb
    go_wp2
    go_roundg (8*s.size-(g+2))
    ·exact⟨g+2,QR,e+1,by omega,by omega,rfl,by go_num,by omega,L,fun _=>p,d.o,x.o,B.o,q.o,k.o,A.o,o.o⟩
    have:=V.o;omega
   |true=>
    rw[htb,bW _ _ _ _ _ p y]at b;have d:=Qa b;have j:IntKind.i64.wrap (e+ -1)=e+ -1:=Q2 _ (by omega);have:IntKind.i64.wrap (e-1)=e-1:=Q2 _ (by omega);clear b htb
    go_wp2
    go_roundg (8*s.size-(g+2))
    ·exact⟨g+2,QR,e-1,by omega,by omega,rfl,by go_num,by omega,L,fun _=>p,d.o,x.o,B.o,q.o,k.o,A.o,o.o⟩
    have:=V.o;omega
 have a:=t;have W:¬((QR.length:Int)<n):=by omega
 have c0:wr.cell? ⟨c,0,none⟩=_:=Zt wr c 0 _ _ _ z;simp at c0;rw[IL _ _ _ _ _<|by omega]at a;have⟨f,F,l,o,b⟩:=qe a.symm m v u H;clear a t m v u H;go_wp2_with fail;refine(Ei h i s P _ C).mono ?_;rintro G a⟨rfl,rfl⟩;go_wp2_with fail
 try rw[UM]
 go_ret3
 rw[f.o];exact⟨ao,J,rfl,F.o,l.o,by have:=o.o;rwa[←b.o]at this⟩

def Qh.one(w:World)(u e):Qh (w.alloc<|.cells #[u] e) e (.slice w.heap.size 1 1) [u]:=
 ⟨rfl,.inr ⟨w.heap.size,1,#[u],rfl,ZF _,Xe w _,Ql _,by simp[maxLen],rfl,rfl⟩⟩

def flat_len(l:List (List Int))(a:∀t∈l,XA t=true):(l.flatMap Q0).length≤20000*l.length:=by
 induction l with
 |nil=>simp
 |cons t l ih=>
  have:=ih fun c b=>a c (by simp[b])
  have:=Gt t (UA<|a t<|by simp);rw[Ji,Qo,QZ];omega
def NI{T P}(a:Xm T P=true):(Zs T P).length≤400000:=by
 obtain⟨b,-,b,-⟩:=RB a;have:=IG a;have:=flat_len T fun c a=>(b c a).2.2
 unfold Zs;rw[Qo];omega
def Hp:(prog.info? 51).map (fun i=>(i.zero,i.size,i.bytes))=some (some<|.slice none 0 0,1,24):=by kernel_rfl
def RU(w:World)(g:Nat)(a:List Value)(b:List (List Value)):Prop:=Vu w a b∧∀b∈a,g∉Qd b
def RU.set{w g d a}(h:RU w g d a)(i b c r)(hs:Qn w 1 b r.length r)(m:r.length≤c)(e:c≤maxLen)(hb:g∉fZ b)(v):
 RU (w.setCell ⟨g,i,none⟩ v) g (d.set i<|.slice b r.length c) (a.set i r):=by
 have hk:Qb [g] w (w.setCell ⟨g,i,none⟩ v):=(Qc _ _).setCell (by simp) _;refine⟨⟨by simp[h.1.1],fun l j s a d=>?_⟩,fun j q=>?_⟩
 ·rw[YV]at a d
  by_cases k:i=l
  ·rw[Qg k]at a d
   split at a
   ·split at d
    ·obtain rfl:=Option.some.inj a;obtain rfl:=Option.some.inj d;exact⟨b,c,rfl,hs.kept hk fun t f e=>hb<|by rwa[Q8.1 e]at f,m,e⟩
    cases d
   cases a
  rw[Qe k]at a d;obtain⟨k,m,n,o,p⟩:=h.1.2 l j s a d;subst n;refine⟨k,m,rfl,o.kept hk fun t f e=>?_,p⟩;have:=h.2 _<|QC a;rw[XJ]at this;exact this (by rwa[Q8.1 e]at f)
 rcases DS q with a|a
 ·exact h.2 j a
 rwa[a,XJ]
def RU.kZ{w w' g c b}(a:RU w g c b)(hk:Qb [] w w'):RU w' g c b:=⟨a.1.kZ hk,a.2⟩
def BX(w:World)(g:Nat)(a:List Value)(b:List (List Value)):Prop:=RU w g a b∧∀b∈a,Qs g (Qd b)
def BX.set{w g f e}(d:BX w g f e)(i b c r)(hs:Qn w 1 b r.length r)(h:r.length≤c)(a:c≤maxLen)(hb:∀x∈fZ b,g<x)(v):
 BX (w.setCell ⟨g,i,none⟩ v) g (f.set i<|.slice b r.length c) (e.set i r):=by
 refine⟨d.1.set i b c r hs h a (fun a=>by have:=hb g a;omega) v,fun e a=>?_⟩;rcases DS a with a|a
 ·exact d.2 e a
 rw[a,XJ];exact fun x a=>Nat.le_of_lt<|hb x a
def BX.kZ{w w' g c b}(a:BX w g c b)(hk:Qb [] w w'):BX w' g c b:=⟨a.1.kZ hk,a.2⟩
def Vu.keptS{S w w' a c}(b:Vu w a c)(hk:Qb S w w')(ha:∀u∈a,Qr (Qd u) S):Vu w' a c:=
 ⟨b.1,fun h u i a e=>by obtain⟨c,d,rfl,f,g⟩:=b.2 h u i a e;exact⟨c,d,rfl,f.kept hk (by have:=ha _<|QC a;rwa[XJ]at this),g⟩⟩
def DI(p:List Bool × Nat)(w:World)(e:Ending)(w':World):Prop:=
 ∃a b,e=.returned (.tuple #[.slice a p.1.length b,(p.2:Nat)])∧Qh w' 3 (.slice a p.1.length b) (FC p.1)∧Qb [] w w'∧Qs w.heap.size (fZ a)
def DI.err{w w' e n}(a:e=.returned (.tuple #[.slice none 0 0,(n:Nat)]))(hk:Qb [] w w'):DI ([],n) w e w':=
 ⟨none,0,a,Qh.nil _ _,hk,by simp[Qs,fZ]⟩
def DI.ok{w w' e l a c}(b:e=.returned (.tuple #[.slice a l.length c,(0:Int)]))(d:Qh w' 3 (.slice a l.length c) (FC l))(hk:Qb [] w w')(hf:Qs w.heap.size (Qd<|.slice a l.length c)):DI (l,0) w e w':=
 ⟨a,c,b,d,hk,by rwa[←XJ a l.length c]⟩


def J6(w:World)(F:List Nat)(e:List Value)(b:List (List (List Bool))):Prop:=
 e.length=b.length∧∀(c:Nat)(d:Value)(a:List (List Bool)),e[c]?=some d→b[c]?=some a→∃b,d=.slice (some ⟨b,0,none⟩) a.length a.length∧∀c,Qb F w c→Xw c (some ⟨b,0,none⟩) a.length (a.map FC)
def J6.step{w d F F2 c a}(b:J6 w F c a)(hk:Qb F w d)(g:QT w.heap.size F F2):J6 d F2 c a:=
 ⟨b.1,fun h j i c d=>by obtain⟨a,e,f⟩:=b.2 h j i c d;exact⟨a,e,fun a hw=>f a<|hk.trans hw g⟩⟩
def J6.kZ{w c F b a}(d:J6 w F b a)(hk:Qb [] w c):J6 c F b a:=d.step (hk.mono<|by simp)<|QT.refl _ _
def J6.nil(w F):J6 w F [] []:=⟨rfl,fun a a a a=>by simp at a⟩
def J6.snoc{w0 w:World}{F:List Nat}{e:List Value}{a}(c:J6 w F e a)(h:∀x∈F,x<w0.heap.size){g n:Nat}{t:List (List Bool)}(d:t.length=n)(hs:∀S b,Qb S w b→(∀x∈S,x<w0.heap.size)→Xw b g n (t.map FC)):J6 w F (e++[.slice g n n]) (a++[t]):=by
 subst d;refine⟨by simp[c.1],fun f j i a b=>?_⟩;rcases Xp f e.length with d|d
 ·rw[Xo d]at a;rw[Xo<|by rwa[←c.1]]at b;exact c.2 f j i a b
 rw[Zy d]at a;rw[Zy<|by rwa[←c.1]]at b;have h0:f-e.length=0:=by have:=(Qz.1 a).1;simp at this;omega
 rw[h0]at a;rw[←c.1,h0]at b;simp at a b;subst a b;exact⟨g,rfl,fun a hw=>hs F a hw h⟩
def J6.at{w F b a}(c:J6 w F b a){i:Nat}{t}(d:a[i]?=some t):
 ∃g,b[i]?=some (.slice (some ⟨g,0,none⟩) t.length t.length)∧Xw w (some ⟨g,0,none⟩) t.length (t.map FC):=by
 have⟨a,e⟩:=qy b i (by rw[c.1];exact(Qz.1 d).1);obtain⟨g,rfl,hs⟩:=c.2 i a t e d;exact⟨g,e,hs w<|Qc _ _⟩
def xK(b a:Option Addr)(d c:Nat)(T)(P:List Int)(s:ByteArray)(at_:Int)(w:World)(f:Xv w b a d c T P)(hs:s.size≤140737488351232):
 Calls prog 182 #[QX b T.length d a P.length c,s,at_] w (Z0 (Rx T P (Qk s.data.toList) at_) w):=by
 rcases Jv (Xm T P)with e|e
 ·exact xM b a d c T P s at_ w f e hs
 exact xL b a d c T P s at_ w f e
def xS(b a d c T P w)(f:Xv w b a d c T P):
 Calls prog 166 #[QX b T.length d a P.length c] w (KL (AU T P) w):=by
 rcases Jv (Xm T P)with e|e
 ·exact aN b a d c T P w f e
 exact xT b a d c T P w f e
def Qcv(a cap xs w)(d:Qn w 1 a xs.length (QK xs))(p:xs.length≤140737488351232):
 Calls prog 212 #[.slice a xs.length cap] w (YE (Dh xs) w):=by
 have g:=Qa d;clear d;rcases Jv (XA xs)with b|b
 ·have c:Dh xs=(J9<|QA xs,0):=by unfold Dh;rw[b];rfl
  have⟨f,h⟩:=qb c b;clear c b;go_enter func212,ntmps212;go_wp2_with fail;refine(cN a cap xs _ g.o h.o).mono ?_;rintro i e⟨n,m,rfl,k,j,o⟩;have⟨e,l⟩:=qb j k;clear j k o;go_wp2_with fail;refine(tW n a cap xs m _ (g.o.kZ e.o) h.o l.o).mono ?_;rintro i h⟨d,rfl,h,j,hh⟩;have l:=Qa (e.o.new j<|by simp[Qs]);have k:(J9<|QA xs).length=xs.length:=by rw[Mj,UF]
  have:w.heap.size≤d:=QU e.o.size hh;rw[←k]at h ⊢;have d:=Qa h;clear j h k
  go_wp2
  go_ret2;rw[f.o];exact YE.ok (by rfl) d.o l.o (by intro d d;simp[Qd,qo]at d;omega)
 have c:Dh xs=([],80):=by unfold Dh;rw[b];rfl
 have f:=Qa c;go_enter func212,ntmps212;go_wp2_with fail;refine(cM a cap xs _ g.o p b).mono ?_;rintro i d⟨rfl,rfl⟩;clear c b
 go_wp2
 go_ret2;rw[f.o];exact YE.err (by rfl)<|Qc _ _
def lO(p:List UInt8 × Int × Nat)(w:World)(e:Ending)(w':World):Prop:=e=.returned (Zf p)∧Qb [] w w'
def fL{T P L t0 s}(a:Xm T P=true)(b:ZG L.length≤P.length)(c:T.getD 0 []=t0)(hs:s∈L)(hb:s<0∨(t0.length:Int)≤s):VF T P L=([],0,60):=by unfold VF Y8;rw[a,Xr b,c,Wh T P _ L 0 ⟨s,hs,hb⟩];rfl
def Cj(T:List (List Int))(i:Nat):List (List Value):=(List.range T.length).map fun a=>if a<i then Qi (J9 (QA (T.getD a [])))else []
def Ik(T i):(Cj T i).length=T.length:=by simp[Cj]
def Ij(T i j)(a:j<T.length):(Cj T i)[j]?=some (if j<i then Qi (J9<|QA<|T.getD j [])else []):=by simp[Cj,Xb a]
def tR(T i t)(a:T[i]?=some t):(Cj T i).set i (Qi<|J9<|QA t)=Cj T (i+1):=by
 have hi:=(Qz.1 a).1;have c:T.getD i []=t:=by rw[List.getD,a];rfl
 apply Xu;intro a;rw[YV,Ik]
 by_cases b:a<T.length
 ·rw[Ij _ _ _ b,Ij _ _ _ b]
  by_cases b:i=a
  ·subst b;rw[Qg rfl,Qg hi,Qg<|by omega,c]
  rw[Qe b];have:(a<i+1)↔(a<i):=by omega
  simp only[this]
 rw[QW (by rw[Ik];omega),QW (by rw[Ik];omega),Qe<|by omega]
def tS(w g T):RU w g (List.replicate T.length<|.slice none 0 0) (Cj T 0):=by
 refine⟨⟨by rw[Ik];simp,fun i u r h o=>?_⟩,fun u hu=>?_⟩
 ·rw[VM]at h
  split at h
  ·rename_i q;rw[Ij _ _ _ q,Qe<|by omega]at o;obtain rfl:=Option.some.inj h;obtain rfl:=Option.some.inj o;exact⟨none,0,rfl,⟨rfl,fun j u y=>by simp at y⟩,Ql _,ZF _⟩
  cases h
 obtain rfl:=BQ hu;simp[Qd,qo]
def oC(T:List (List Int))(g:Nat)(c:World)(k:Nat)(v:Value)(wr:World):Prop:=
 ∃(a:Nat)(b:List Value),k=T.length-a∧a≤T.length∧v=.int .i64 (a:Nat)∧Hid (Qh wr 51 (.slice g T.length T.length) b)∧Hid (RU wr g b (Cj T a))∧Hid (∀a∈b,Qs c.heap.size (Qd a))∧Hid (Qb [g] c wr)
def oD(T:List (List Int))(P L:List Int)(n b:Nat)(e:World)(k:Nat)(v:Value)(wr:World):Prop:=
 ∃(a:Nat)(d:Value)(c:List Bool),k=L.length-a∧a≤L.length∧v=.int .i64 (a:Nat)∧Hid (Wr wr b d c)∧c.length≤20*a∧Hid (XU T P n 0 (L.take a)=some c)∧Hid (Qb [b] e wr)∧Hid (QT e.heap.size [b] (b::Qd d))
def xW{b c a wr d}(e:Qb [b] a wr)(f:QT a.heap.size [b] (b::Qd c))(hk:Qb (b::Qd c) wr d):Qb [b] a d:=e.trans hk f
def nZ(L:List Int)(n:Nat)(w0:World)(k:Nat)(v:Value)(wr:World):Prop:=
 ∃a:Nat,k=L.length-a∧a≤L.length∧v=.int .i64 (a:Nat)∧Hid (∀b∈L.take a,0≤b∧b<(n:Int))∧w0=wr
def aK(aT aP aL q cP cL T P L w)(h:Xv w aT aP q cP T P)(hL:Qn w 1 aL L.length (QK L))(hl:L.length≤17592186043904):
 Calls prog 167 #[QX aT T.length q aP P.length cP,.slice aL L.length cL] w (lO (VF T P L) w):=by
 have hk:Qb [] w ((w.alloc<|.cells #[.slice aT T.length q,.slice aP P.length cP] 255).alloc<|.cells #[.string ⟨#[]⟩,(0:Int)] 204):=((Qc [] w).alloc _).alloc _;have hA:Qf ((w.alloc<|.cells #[.slice aT T.length q,.slice aP P.length cP] 255).alloc<|.cells #[.string ⟨#[]⟩,(0:Int)] 204) w.heap.size 255 [.slice aT T.length q,.slice aP P.length cP]:=
  (Qx w [.slice aT T.length q,.slice aP P.length cP] 255).kept ((Qc [] _).alloc _) (by simp)
 have hB:Qf ((w.alloc<|.cells #[.slice aT T.length q,.slice aP P.length cP] 255).alloc<|.cells #[.string ⟨#[]⟩,(0:Int)] 204) (w.heap.size+1) 204 [.string ⟨#[]⟩,(0:Int)]:=by have h:=Qx (w.alloc<|.cells #[.slice aT T.length q,.slice aP P.length cP] 255) [.string ⟨#[]⟩,(0:Int)] 204;rwa[show(w.alloc<|.cells #[.slice aT T.length q,.slice aP P.length cP] 255).heap.size=w.heap.size+1 by simp]at h
 have p1:=h.kept hk;have l1:=hL.kZ hk;unfold QX;have b0:=hA.cell (i:=0) (u:=.slice aT T.length q) rfl;have b1:=hA.cell (i:=1) (u:=.slice aP P.length cP) rfl;have⟨HK,HA,HB,y7,HL⟩:=qe hk hA hB p1 l1;clear hA hB p1 h l1 hL hk;have j2:w.heap.size+1<((w.alloc<|.cells #[.slice aT T.length q,.slice aP P.length cP] 255).alloc<|.cells #[.string ⟨#[]⟩,(0:Int)] 204).heap.size:=HB.o.lt;have⟨bb,q5⟩:=qx<|Xm T P;have x4:=Qa q5;have j7:ZG L.length≤17592186043904:=by unfold ZG;omega
 have⟨gn,z7⟩:=qx<|ZG L.length;have p5:=Qa z7;have HM:=Qa (fun W (hW:Qb [] ((w.alloc<|.cells #[.slice aT T.length q,.slice aP P.length cP] 255).alloc<|.cells #[.string ⟨#[]⟩,(0:Int)] 204) W)=>show Calls prog 207 #[.agg #[.slice aT T.length q,.slice aP P.length cP]] W (Pk bb W)by
  have p:=y7.o.kept hW;rw[←q5];exact FR aT aP q cP T P W p.tabs p.picks p.tl p.pl p.rl)
 have p4:=Qa (fun W=>show Calls prog 211 #[L.length] W (fun e w'=>e=.returned (.int .i64 (gn:Nat))∧W=w')by rw[←z7];exact MB L.length W<|by omega);rw[z7]at j7;clear z7;have⟨W,hW⟩:=qx<|(w.alloc<|.cells #[.slice aT T.length q,.slice aP P.length cP] 255).alloc<|.cells #[.string ⟨#[]⟩,(0:Int)] 204;have HW:=Qa hW;rw[hW]at b0 b1 HK HA HB y7 HL HM j2;clear hW q5;cases bb with
 |false=>have HR:=Qa (by unfold VF Y8;rw[x4.o];rfl:VF T P L=([],0,110));go_enter func167,Sl;go_wp2_with fail;rw[HW.o];refine wp_region_held_drew (S:=fun w'=>Qb [] W w'∧w'.cell? ⟨w.heap.size,0,none⟩=some (.slice aT T.length q)∧w'.cell? ⟨w.heap.size,1,none⟩=some (.slice aP P.length cP)) (by kernel_rfl) ⟨(Qc _ _).drew,b0,b1⟩ fun h9=>?_;refine IH 0 14 (.agg #[.slice aT T.length q,.slice aP P.length cP]) (by kernel_rfl) (by kernel_rfl) (by kernel_rfl) (by kernel_rfl) (fun _ _ _ h=>h) (by kernel_rfl) (by intro o ho w q0;simp at ho;subst ho;go_simp) h9 ?_;simp only[Act.put,RQ,UN,Ur];refine wpAnyH_ready (rs:=[1]) (by kernel_rfl) (by simp) ?_;refine AllReadyH.cons rfl (fun K hK=>?_) AllReadyH.nil;go_simp;refine(HM.o _ (Qc [] W).drew).mono ?_;rintro e w3⟨rfl,x6⟩;have h4:Qb [] W w3:=(Qc [] W).drew.trans x6 (by simp);go_wp2_with fail;refine hK.out _ _ ⟨h4,h4.cZ b0<|by simp,h4.cZ b1<|by simp⟩ fun h9=>?_;clear hK K;refine IH 2 16 (.bool true) (by kernel_rfl) (by kernel_rfl) (by kernel_rfl) (by kernel_rfl) (fun _ _ _ h=>h) (by kernel_rfl) (by intro o ho w q0;simp at ho;subst ho;go_simp) h9 ?_;simp only[Act.put,RQ,UN,Ur];refine IH 3 17 (.bool true) (by kernel_rfl) (by kernel_rfl) (by kernel_rfl) (by kernel_rfl) (fun _ _ _ h=>h) (by kernel_rfl) (by intro o ho w q0;simp at ho;subst ho;go_simp) h9 ?_;simp only[Act.put,RQ,UN,Ur];refine Dp 4 18 (by kernel_rfl) (by kernel_rfl) (by kernel_rfl) (by kernel_rfl) (fun _ _ _ h=>h) (by kernel_rfl) h9 ?_;simp only[Act.put,RQ,UN,Ur];refine Dp 5 19 (by kernel_rfl) (by kernel_rfl) (by kernel_rfl) (by kernel_rfl) (fun _ _ _ h=>h) (by kernel_rfl) h9 ?_;simp only[Act.put,RQ,UN,Ur];refine Dp 6 20 (by kernel_rfl) (by kernel_rfl) (by kernel_rfl) (by kernel_rfl) (fun _ _ _ h=>h) (by kernel_rfl) h9 ?_;simp only[Act.put,RQ,UN,Ur];refine Dp 7 21 (by kernel_rfl) (by kernel_rfl) (by kernel_rfl) (by kernel_rfl) (fun _ _ _ h=>h) (by kernel_rfl) h9 ?_;simp only[Act.put,RQ,UN,Ur];refine Dp 8 22 (by kernel_rfl) (by kernel_rfl) (by kernel_rfl) (by kernel_rfl) (fun _ _ _ h=>h) (by kernel_rfl) h9 ?_;simp only[Act.put,RQ,UN,Ur];refine Dp 9 23 (by kernel_rfl) (by kernel_rfl) (by kernel_rfl) (by kernel_rfl) (fun _ _ _ h=>h) (by kernel_rfl) h9 ?_;simp only[Act.put,RQ,UN,Ur];refine Dp 10 24 (by kernel_rfl) (by kernel_rfl) (by kernel_rfl) (by kernel_rfl) (fun _ _ _ h=>h) (by kernel_rfl) h9 ?_;simp only[Act.put,RQ,UN,Ur];refine IH 11 25 (.bool true) (by kernel_rfl) (by kernel_rfl) (by kernel_rfl) (by kernel_rfl) (fun _ _ _ h=>h) (by kernel_rfl) (by intro o ho w q0;simp at ho;subst ho;go_simp) h9 ?_;simp only[Act.put,RQ,UN,Ur];refine wpAnyH_done (by kernel_rfl) ?_ _;have x1:=Qa (HK.o.trans h4<|by simp);have h5:=HB.o.kept h4 (by simp);obtain⟨r0,r1,f0,f1,s0,s1⟩:=h5.six (.string ⟨#[]⟩) (0:Int);clear h5 h4 b0 b1;go_wp2_with fail;refine Q9 (v:=Zf ([],0,110)) (by simp[results,Hw,go_sem,Zf,s0,s1]) rfl ?_;exact⟨by rw[HR.o],x1.o.set2<|.inr<|by simp⟩
 |true=>
  by_cases d9:P.length<gn
  ·have g1:decide ((P.length:Int)<gn)=true:=(by simp;omega);have HR:=Qa (by unfold VF Y8;rw[x4.o,XI (by rw[p5.o];omega)];rfl:VF T P L=([],0,110));go_enter func167,Sl;go_wp2_with fail;rw[HW.o]
   go_region_held3 (fun w'=>Qb [] W w'∧w'.cell? ⟨w.heap.size,0,none⟩=some (.slice aT T.length q)∧w'.cell? ⟨w.heap.size,1,none⟩=some (.slice aP P.length cP))
    (first|exact⟨(Qc _ _).drew,b0,b1⟩|exact⟨h4,h4.cZ b0<|by simp,h4.cZ b1<|by simp⟩)
    (first|(go_at_call 207;refine(HM.o _ (Qc [] W).drew).mono ?_;rintro e w3⟨rfl,x6⟩;have h4:Qb [] W w3:=(Qc [] W).drew.trans x6<|by simp)|(go_at_call 211;refine(p4.o _).mono ?_;rintro e w4⟨rfl,rfl⟩))
   rename_i hS;clear hS;have x1:=Qa (HK.o.trans h4<|by simp);have h5:=HB.o.kept h4 (by simp);obtain⟨r0,r1,f0,f1,s0,s1⟩:=h5.six (.string ⟨#[]⟩) (0:Int);clear h5 h4 b0 b1;go_wp2_with fail;refine Q9 (v:=Zf ([],0,110)) (by simp[results,Hw,go_sem,Zf,s0,s1]) rfl ?_;exact⟨by rw[HR.o],x1.o.set2<|.inr<|by simp⟩
  have g1:¬P.length<gn:=d9;obtain⟨hT,hP,b8,b7⟩:=RB x4.o;have⟨p9,g7⟩:=qb b8 b7;obtain⟨t0,y0⟩:∃t,T[0]?=some t:=⟨_,Qj<|by omega⟩;have y8:=Qa (by rw[List.getD,y0];rfl:T.getD 0 []=t0);have m9:=y7.o.rl t0<|QC y0;have m8:=(p9.o t0<|QC y0).2.1;have i6:=Qa y0;have l7:(0:Int)<T.length:=by omega
  have⟨p6,g5⟩:=qb (by rw[p5.o];omega:ZG L.length≤P.length) (by have:=p5.o;unfold ZG at this;omega:L.length≤50*P.length);clear y0 b8 b7 d9;go_enter func167,Sl;go_wp2_with fail;rw[HW.o]
  go_region_held3 (fun w'=>Qb [] W w'∧w'.cell? ⟨w.heap.size,0,none⟩=some (.slice aT T.length q)∧w'.cell? ⟨w.heap.size,1,none⟩=some (.slice aP P.length cP))
   (first|exact⟨(Qc _ _).drew,b0,b1⟩|exact⟨h4,h4.cZ b0<|by simp,h4.cZ b1<|by simp⟩)
   (first|(go_at_call 207;refine(HM.o _ (Qc [] W).drew).mono ?_;rintro e w3⟨rfl,x6⟩;have h4:Qb [] W w3:=(Qc [] W).drew.trans x6<|by simp)|(go_at_call 211;refine(p4.o _).mono ?_;rintro e w4⟨rfl,rfl⟩))
  rename_i hS;clear hS;have⟨x1,l5,x8,p3,x5,y6⟩:=qf (HK.o.trans h4<|by simp) h4 (HA.o.kept h4<|by simp) (HB.o.kept h4<|by simp) (y7.o.kept h4)<|HL.o.kZ h4;clear h4 x6 b0 b1 HM p4
  go_wp2
  go_loopg [29] L.length (fun k v wr=>nZ L t0.length w3 k v wr)
  ·exact⟨0,by omega,by omega,rfl,Qa<|by simp,rfl⟩
  obtain⟨i,hk,hi,rfl,HS,rfl⟩:=hrel;have Hk:=Qa hk;clear hk;have c0:=x8.o.cell (i:=0) (u:=.slice aT T.length q) rfl
  by_cases hlt:i<L.length
  ·have d8:(i:Int)<L.length:=(by omega);have⟨s,hs⟩:=qy L i hlt;obtain⟨bL,oL,rfl,-⟩:=y6.o.at (by rw[Xk];omega);have d0:=y6.o.int hs;obtain⟨bT,oT,ar,cr,rfl,e0,-,-⟩:=x5.o.tabs.int i6.o;rw[Y6]at e0;have p8:=Qa hs;clear hs;have l3:=Qa e0
   by_cases q3:s<0
   ·have q1:decide (s<0)=true:=Xr q3;have HR:=Qa<|show VF T P L=([],0,60)from fL x4.o p6.o y8.o (QC p8.o) (.inl q3);have h5:=p3.o;obtain⟨r0,r1,f0,f1,s0,s1⟩:=h5.six (.string ⟨#[]⟩) (0:Int);clear h5;go_wp2_with fail;refine Q9 (v:=Zf ([],0,60)) (by simp[results,Hw,go_sem,Zf,s0,s1]) rfl ?_;exact⟨by rw[HR.o],x1.o.set2<|.inr<|by simp⟩
   have q1:decide (s<0)=false:=XI q3
   by_cases q4:(t0.length:Int)≤s
   ·have q2:decide ((t0.length:Int)≤s)=true:=Xr q4;have HR:=Qa<|show VF T P L=([],0,60)from fL x4.o p6.o y8.o (QC p8.o) (.inr q4);have h5:=p3.o;obtain⟨r0,r1,f0,f1,s0,s1⟩:=h5.six (.string ⟨#[]⟩) (0:Int);clear h5;go_wp2_with fail;refine Q9 (v:=Zf ([],0,60)) (by simp[results,Hw,go_sem,Zf,s0,s1]) rfl ?_;exact⟨by rw[HR.o],x1.o.set2<|.inr<|by simp⟩
   have q2:decide ((t0.length:Int)≤s)=false:=XI q4
   go_wp2
   go_roundg (L.length-(i+1))
   ·refine⟨i+1,rfl,by omega,by simp,Qa ?_,rfl⟩;intro x hx;rw[ZE,p8.o]at hx;rcases Q5.1 hx with hx|hx
    ·exact HS.o x hx
    obtain rfl:x=s:=(by simpa using hx);omega
   have:=Hk.o;omega
  obtain rfl:i=L.length:=by omega
  have z8:¬(L.length:Int)<L.length:=by omega
  have g0:=Qa (show ∀s∈L,0≤s∧s<(t0.length:Int)by have:=HS.o;rwa[Vp]at this);clear HS Hk;go_wp2_with fail;refine(Dv _).mono ?_;rintro e w4⟨b,rfl,r5,q9,c5⟩;have⟨y3,y1,i8⟩:=qc q9 (show w3.heap.size≤b∧b<w4.heap.size from⟨c5 b<|by simp,r5.lt b<|by simp⟩) r5;have c0:=(x8.o.kept q9<|by simp).cell (i:=0) (u:=.slice aT T.length q) rfl;clear r5 q9 c5;go_wp2_with ((at_make;refine Y0 rfl _ _ 253 rfl 51 (.slice none 0 0) 24 LJ Hp rfl .i64 .i64 _ _ T.length T.length rfl rfl rfl rfl (Ql _) (by omega) (by simp only[maxLen];omega) ?_;intro w5 x9 c9));have⟨g,hg⟩:=qx w4.heap.size;rw[hg]at x9 ⊢;have HG:=Qa hg;have x9:Qh w5 51 (.slice (some ⟨g,0,none⟩) T.length T.length) (List.replicate T.length<|.slice none 0 0):=x9;have⟨a7,r9⟩:=qb x9 c9;clear hg x9 c9 c0
  go_loopg [53] T.length (fun k v wr=>oC T g w4 k v wr)
  ·exact⟨0,_,by omega,by omega,rfl,a7,Qa<|tS w5 g T,Qa (fun u hu=>by obtain rfl:=BQ hu;simp[Qd,qo,Qs]),Qa<|r9.o.mono<|by simp⟩
  clear a7 r9;obtain⟨i,vs,hk,hi,rfl,HR,a8,HF,HK⟩:=hrel;have Hk:=Qa hk;clear hk
  by_cases hlt:i<T.length
  ·have d8:(i:Int)<T.length:=(by omega);have⟨t,ht⟩:=qy T i hlt;have x0:Qb [] w3 wr:=y3.o.trans HK.o (by intro y hy;simp at hy;subst hy;exact .inr (by rw[←HG.o];exact y3.o.size));have c0:=(x8.o.kept x0<|by simp).cell (i:=0) (u:=.slice aT T.length q) rfl;obtain⟨bT,oT,ar,cr,rfl,e0,x7,-⟩:=(x5.o.kept x0).tabs.int ht;have r4:=x5.o.rl t<|QC ht;have⟨i7,i1,f7⟩:=qc ht x7 (by unfold Dh;rw[(p9.o t<|QC ht).2.2];rfl:Dh t=(J9<|QA t,0));have⟨old,e4⟩:=qy vs i (by have:=HR.o.len;omega);have⟨g6,l4⟩:=qb e4 x0;clear ht x7 x0 e4;go_wp2_with fail;refine(Qcv ar cr t _ i1.o<|by omega).mono ?_;rintro e w6 hp;rw[f7.o]at hp;obtain⟨a6,c6,rfl,e5,h8,c7⟩:=hp;have z1:=HR.o.kept h8 (by simp);have r0:=z1.aZ g6.o;have f0:=z1.free i;have⟨g8,p7,y4,r7⟩:=qd z1 e5 h8 c7;clear e5 h8 c7 z1 c0 e0
   go_wp2
   go_roundg (T.length-(i+1))
   case measure=>have:=Hk.o;omega
   have m5:=p7.o.len;obtain⟨a2,c2,hv,j3,j4,l9,-⟩:=p7.o.sees;injection hv with e1 e2 e3;subst e3;have b9:(Qi<|J9<|QA t).length=(J9<|QA t).length:=QD _;have m1:g<wr.heap.size:=HR.o.lt g (by simp[Qd,qo]);have j6:g∉fZ a6:=fun hm=>by have:=r7.o g hm;omega
   have e6:=(a8.o.kZ y4.o).set i a6 c6 (Qi<|J9<|QA t) (by have:=p7.o.sZ;rwa[b9]) j3 j4 j6<|.slice a6 (J9<|QA t).length c6;rw[tR T i t i7.o,b9]at e6;refine⟨i+1,_,rfl,by omega,by simp,Qa<|g8.o.put i _,Qa e6,Qa ?_,Qa<|(HK.o.trans y4.o<|by simp).trans ((Qc [g] w6).setCell (p:=⟨g,i,none⟩) (by simp) _)<|by simp⟩;intro u hu;rcases DS hu with h1|h1
   ·exact HF.o u h1
   rw[h1,XJ];intro y hy;have h2:=r7.o y hy;have h3:=HK.o.size;omega
  obtain rfl:i=T.length:=by omega
  have z8:¬(T.length:Int)<T.length:=by omega
  obtain⟨w5,rfl⟩:∃wo:World,wo=wr:=⟨_,rfl⟩;have⟨r6,a1⟩:=qb (by rw[←HG.o];exact y1.o.2:b<g)<|y3.o.trans HK.o (by intro y hy;simp at hy;subst hy;exact .inr (by rw[←HG.o];exact y3.o.size));have b4:=Qa<|i8.o.kept HK.o (by intro x hx hm;simp[Qd,qo]at hx hm;have:=r6.o;omega)
  go_wp2
  go_loopg [71] L.length (fun k v wr=>oD T P L t0.length b w5 k v wr)
  ·exact⟨0,_,[],by omega,by omega,rfl,b4,by simp,Qa<|by rw[Lj,XU],Qa<|Qc _ _,Qa<|by simp[QT,Qd,qo]⟩
  clear b4;obtain⟨i,o,B,hk,hi,rfl,b5,l6,HC,y5,y2⟩:=hrel;have Hk:=Qa hk;clear hk
  by_cases hlt:i<L.length
  ·have d8:(i:Int)<L.length:=(by omega);have⟨s,hs⟩:=qy L i hlt;obtain⟨l0,m6⟩:=g0.o s<|QC hs;obtain⟨s,rfl⟩:=X5 l0;have b6:i/50<P.length:=(by have:=g5.o;omega);have⟨x,hx⟩:=qy P (i/50) b6;obtain⟨l2,o0⟩:=g7.o x<|QC hx;obtain⟨x,rfl⟩:=X5 l2;have⟨t,ht⟩:=qy T x (by omega);obtain⟨r4,n8,p2⟩:=p9.o t<|QC ht;rw[y8.o]at r4;have r3:s<t.length:=(by omega);have⟨ls,x3⟩:=qx<|QA t;have z8:ls.length=t.length:=(by rw[←x3,UF]);have z6:=Cl p2;have q8:=Wl (QA t) (fun x hx=>(z6 x hx).2) (FT p2) s (by rwa[UF]);have⟨n,hn⟩:=qx<|ls.getD s 0;have⟨c,hc⟩:=qx<|Yr ls s;rw[x3,hn,hc]at q8;rw[x3]at z6;have j8:n≤20:=(by have hm:ls.getD s 0∈ls:=(by rw[List.getD,Qj<|by omega];exact XW<|by omega);have:=(z6 _ hm).2;omega);have e8:t[s]?=some (n:Int):=(by have h1:t[s]?=some t[s]:=Qj r3;have h2:=((UC t).1 (UA p2)).2 t[s] (XW r3);rw[h1,←hn,←x3,List.getD,QA,ZJ,h1];simp;omega);have e7:JT (Js T P i) s=K.low c n:=(by unfold Js JT;rw[show P.getD (i/50) 0=(x:Int)by rw[List.getD,hx];rfl,Zw,show T.getD x []=t by rw[List.getD,ht];rfl,x3,hn,hc]);have j9:2^n≤2^20:=Y7 (by decide) j8;have l8:c<1048576:=(by have e:(2:Nat)^20=1048576:=rfl;omega);have m0:IntKind.u64.wrap (c:Int)=(c:Int):=(by rw[JA];omega);have y9:∀p v,w5.cell? p=some v→p.block≠b→wr.cell? p=some v∧p.block∉b::Qd o:=by
    intro p v hp hb;refine⟨y5.o.cZ hp<|by simpa using hb,fun hm=>?_⟩;have h1:=Ro w5 p hp;rcases y2.o _ hm with h2|h2
    ·exact hb (by simpa using h2)
    omega
   have x2:∀p v,w3.cell? p=some v→wr.cell? p=some v∧p.block∉b::Qd o:=(by intro p v hp;have h1:=Ro w3 p hp;exact y9 p v (a1.o.cZ hp<|by simp) (by have:=y1.o.1;omega));obtain⟨bL,oL,rfl,-⟩:=y6.o.at (by rw[Xk];omega);obtain⟨bP,oP,rfl,-⟩:=x5.o.picks.at (by rw[Xk];omega);obtain⟨bT,oT,ar,cr,rfl,e0,x7,-⟩:=x5.o.tabs.int ht;obtain⟨br,f3,rfl,-⟩:=x7.at (by rw[Xk];omega);obtain⟨d0,n0⟩:=x2 _ _<|y6.o.int hs;obtain⟨d1,n1⟩:=x2 _ _<|x5.o.picks.int hx;obtain⟨d2,n2⟩:=x2 _ _<|x8.o.cell (i:=0) (u:=.slice (some ⟨bT,oT,none⟩) T.length q) rfl;obtain⟨d3,n3⟩:=x2 _ _<|x8.o.cell (i:=1) (u:=.slice (some ⟨bP,oP,none⟩) P.length cP) rfl;obtain⟨d4,n4⟩:=x2 _ _ e0;obtain⟨d5,n5⟩:=x2 _ _<|x7.int e8;have f2:=(Qz.1 ht).1;have r2:=Ij T T.length x f2;rw[Qg f2,show T.getD x []=t by rw[List.getD,ht];rfl,x3]at r2;have⟨u,hu⟩:=qy vs x (by have:=HR.o.len;omega);obtain⟨ac,cc,rfl,p0,-,-⟩:=a8.o.1.2 x u _ hu r2;rw[QD,Mj,z8]at p0 hu;obtain⟨bc,oc,rfl,-⟩:=p0.at (by rw[QD,Mj];omega);obtain⟨d6,n6⟩:=y9 _ _ (HR.o.aZ hu) (by simp;have:=r6.o;omega);have q6:=tV ls s (by omega);rw[hc]at q6;obtain⟨b',o2,q7,c4⟩:=p0.2 s _<|AP q6;injection q7 with q7;injection q7 with j5 he2;subst j5;subst he2;obtain⟨d7,n7⟩:=y9 _ _ c4 (by simp;have h1:=HF.o _ (QC hu) bc (by simp[Qd,qo]);have:=y1.o.2;omega);have⟨j,hj⟩:=qx<|i/50;rw[hj]at d1 n1 b6;obtain⟨m4,m3,m2,o1,m7⟩:(i:Int)/50=(j:Int)∧(j:Int)<P.length∧(0:Int)≤j∧(x:Int)<T.length∧(s:Int)<t.length:=(by omega);have⟨j1,f4,f8,b2,g9,HN⟩:=qf b5.o (by omega:B.length≤1000000000000) q8 e7 hs<|show(⟨g,x,none⟩:Addr).block∉b::Qd o∧bc∉b::Qd o∧w.heap.size∉b::Qd o∧bT∉b::Qd o∧br∉b::Qd o from⟨n6,n7,n2,n4,n5⟩;clear y9 x2 hj hx ht hs x3 hn hc z6 e8 hu q6 c4 p0 r2 x7 e0 r4 p2 q8 e7 n0 n1 n2 n3 n4 n5 n6 n7 j9;go_wp2_with fail
   go_region_held3 (fun w'=>w'.cell? ⟨g,x,none⟩=some (.slice (some ⟨bc,oc,none⟩) t.length cc)∧w'.cell? ⟨bc,oc+s,none⟩=some (.int .i64 (c:Int))∧w'.cell? ⟨w.heap.size,0,none⟩=some (.slice (some ⟨bT,oT,none⟩) T.length q)∧w'.cell? ⟨bT,oT+x,none⟩=some (.slice (some ⟨br,f3,none⟩) t.length cr)∧w'.cell? ⟨br,f3+s,none⟩=some (.int .i64 (n:Int)))
    (first|exact⟨d6,d7,d2,d4,d5⟩|exact⟨h8.cZ d6 HN.o.1,h8.cZ d7 HN.o.2.1,h8.cZ d2 HN.o.2.2.1,h8.cZ d4 HN.o.2.2.2.1,h8.cZ d5 HN.o.2.2.2.2⟩)
    (first|(go_at_call 119;refine(V7 b c n _ _ _ (by omega) (by omega) (by omega) (by simpa using f8.o) f4.o<|by exact j1.o).mono ?_;rintro e w6⟨rfl,o6,e9,h8,c8⟩))
   rename_i hS;clear hS;have h8:Qb (b::Qd o) wr w6:=(Qc (b::Qd o) wr).drew.trans h8 fun x hx=>.inl hx;have⟨j0,y4,f9⟩:=qc (by rw[b2.o];simpa using e9:Wr w6 b o6 (B++JT (Js T P i) s)) (xW y5.o y2.o h8)<|y2.o.trans c8 y5.o.size;clear e9 h8 c8 d2 d4 d5 d6 d7 d0 d1 d3
   go_wp2
   go_roundg (L.length-(i+1))
   ·refine⟨i+1,o6,_,rfl,by omega,by simp,j0,?_,Qa ?_,y4,f9⟩
    ·rw[Qo,b2.o,XZ];omega
    rw[ZE,g9.o];have h:=Wi T P t0.length (s:Int) ⟨by omega,by omega⟩ (L.take i) 0 B HC.o;rwa[Zn,GY<|by omega,Zz]at h
   have:=Hk.o;omega
  obtain rfl:i=L.length:=by omega
  have z8:¬(L.length:Int)<L.length:=by omega
  have f5:=Qa (show XU T P t0.length 0 L=some B by have:=HC.o;rwa[Vp]at this);have HR:=Qa (show VF T P L=(Qu B,((B.length:Nat):Int),0)by
   unfold VF Y8;rw[x4.o,Xr p6.o,y8.o,f5.o];rfl)
  have b3:=b5;clear HC y2;go_wp2_with fail;refine(DC _ _ _ _ b3.o).mono ?_;rintro e w7⟨rfl,rfl⟩;go_wp2_with fail;refine(Dr _ _ _ _ b3.o).mono ?_;rintro e w7⟨rfl,rfl⟩;have x0:Qb [] w3 wr:=a1.o.trans y5.o (by intro y hy;simp at hy;subst hy;exact .inr y1.o.1);have h5:=p3.o.kept x0 (by simp);obtain⟨r0,r1,f0,f1,s0,s1⟩:=h5.six (.string ⟨(Qu B).toArray⟩) (B.length:Nat);have g2:=Qa (x1.o.trans x0<|by simp);clear h5 x0;go_wp2_with fail;refine Q9 (v:=Zf (Qu B,((B.length:Nat):Int),0)) (by simp[results,Hw,go_sem,Zf,s0,s1]) rfl ?_;exact⟨by rw[HR.o],g2.o.set2<|.inr<|by simp⟩
namespace K
def Kz(a):∀(l:List Bool)(n:Nat),(n:Int)≤a→((ZR a n l).2=0→((ZR a n l).1:Int)≤a)∧((ZR a n l).2=0∨(ZR a n l).2=3∨(ZR a n l).2=10)
 | [],n,h=>by simp[ZR]
 |false::t,n,h=>by simp[ZR];exact h
 |true::t,n,h=>by
  simp only[ZR]
  split
  ·simp
  exact Kz a t (n+1) (by omega)
def kO(a)(bs:List Bool)(p)(hp:p≤bs.length)(b:(ZR a 0<|bs.drop p).2=0):p+(ZR a 0<|bs.drop p).1+1≤bs.length:=by have:=(kN a (bs.drop p) 0).2.2 b;rw[YW]at this;omega
def fE(bs many)(h0:0<many):∀(m:Nat)(a b:List Nat)(p:Nat),a.length=many→p≤bs.length→(∀x∈a,x<many)→(∀x∈b,x<many)→(Jd bs many m a b p).2.2=0→
 (Jd bs many m a b p).1.length=b.length+m∧(Jd bs many m a b p).2.1≤bs.length∧∀x∈(Jd bs many m a b p).1,x<many
 |0,a,b,p,c,hp,ho,hout,hz=>⟨rfl,hp,hout⟩
 |m+1,a,b,p,c,hp,ho,hout,hz=>by
  rw[Jd]at hz ⊢
  by_cases b:(ZR ((many:Int)-1) 0<|bs.drop p).2=0
  ·have:=(Kz ((many:Int)-1) (bs.drop p) 0<|by omega).1 b;have d:(ZR ((many:Int)-1) 0<|bs.drop p).1<a.length:=(by omega);rw[Qg b]at hz ⊢;have e:a.getD (ZR ((many:Int)-1) 0<|bs.drop p).1 0<many:=ho _ (by rw[List.getD,Qj d];exact XW d);obtain⟨f,g,h⟩:=fE bs many h0 m _ _ _ (by rwa[DF a _ d]) (kO _ bs p hp b) (fun x e=>ho x<|(GA a _ d x).1 e) (fun x a=>by
    rcases Q5.1 a with c|c
    ·exact hout x c
    rwa[Q8.1 c]) hz
   rw[Qo]at f;exact⟨by simpa[Jj,BT 1 m]using f,g,h⟩
  rw[Qe b]at hz;rcases(Kz ((many:Int)-1) (bs.drop p) 0<|by omega).2 with a|a|a
  ·exact absurd a b
  ·rw[a]at hz;simp at hz
  rw[a]at hz;simp at hz
def zZ(n N):∀(f:Nat)(QR:List Int)(d:Int)(p:Nat)(l:List Bool),l.length≤f→p+l.length=N→QR.length≤n→(XL n QR d p l).2.2=0→(XL n QR d p l).1.length=n∧(XL n QR d p l).2.1≤N:=by
 intro f
 induction f with
 |zero=>
  intro QR d p l c b ha a;have:l=[]:=by cases l<;>simp_all
  subst this
  by_cases e:n≤QR.length
  ·rw[IL _ _ _ _ _ e];exact⟨by simp only;omega,by simp at b ⊢;omega⟩
  by_cases hb:d<1∨20<d
  ·rw[Nb _ _ _ _ _ (by omega) hb]at a;simp at a
  rw[Nc _ _ _ _ (by omega) hb]at a;simp at a
 |succ f ih=>
  intro QR d p l c b ha a
  by_cases e:n≤QR.length
  ·rw[IL _ _ _ _ _ e];exact⟨by simp only;omega,by simp only;omega⟩
  by_cases hb:d<1∨20<d
  ·rw[Nb _ _ _ _ _ (by omega) hb]at a;simp at a
  match l,c,b,a with
  | [],c,b,a=>rw[Nc _ _ _ _ (by omega) hb]at a;simp at a
  |false::r,c,b,a=>rw[Nd _ _ _ _ _ (by omega) hb]at a ⊢;exact ih _ _ _ _ (by simpa using c) (by simp at b;omega) (by simp;omega) a
  | [true],c,b,a=>rw[bX _ _ _ _ (by omega) hb]at a;simp at a
  |true::false::r,c,b,a=>rw[XL,Qe<|by omega,Qe hb]at a ⊢;exact ih _ _ _ _ (by simp at c;omega) (by simp at b;omega) (by omega) a
  |true::true::r,c,b,a=>rw[XL,Qe<|by omega,Qe hb]at a ⊢;exact ih _ _ _ _ (by simp at c;omega) (by simp at b;omega) (by omega) a
def zV(bs at_ n)(h:(Jo bs at_ n).2.2=0):(Jo bs at_ n).1.length=n.toNat∧(Jo bs at_ n).2.1≤bs.length:=by
 unfold Jo at h ⊢
 split at h
 ·simp at h
 rename_i o
 split at h
 ·simp at h
 rename_i q;rw[Qe o,Qe q];exact zZ n.toNat bs.length _ [] _ _ _ (Ql _) (by rw[YW];omega) (by simp) h
end K
namespace K
end K
