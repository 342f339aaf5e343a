import Derived.WalkMore
import Derived.Test.YtickjpnkoppmgaaGreatDoorAt
set_option linter.all false
set_option maxHeartbeats 4000000
set_option maxRecDepth 100000
namespace Go.Proofs.YtickjpnkoppmgaaGreatDoor
open Go.Proofs.Tryz Go.RowKit K
namespace K
def fB(l:LU)(i:Nat):UInt8:=l.getD (i%l.length) 0
def Qff(l a j)(b:a≤l.length)(b:j<l.length):(l.drop a++l.take a)[j]?=some (fB l<|j+a):=by
 unfold fB
 by_cases b:j<l.length-a
 ·rw[Xp<|by rwa[Y0],J4,XP<|by omega,List.getD,BY,Qj<|by omega];rfl
 rw[Zx (by rw[Y0];omega),Y0,Bm,Qg<|by omega];have:(j+a)%l.length=j-(l.length-a):=by rw[show j+a=(j-(l.length-a))+l.length by omega,CS,XP<|by omega]
 rw[this,List.getD,Qj<|by omega];rfl
end K
def sQ(s:BA)(i t)(a:0<s.size):∃hb:(i+t)%s.size<s.size,K.fS s (i+t)=(s[(i+t)%s.size]'hb).toNat:=by
 refine⟨JL _ a,?_⟩;unfold K.fS;have b:=Zo s;have c:(i+t)%s.data.toList.length=(i+t)%s.size:=by rw[b]
 rw[c,Ce s _<|JL _ a]
section
open Go.Sort
def Ba(L:LN)(k:Nat):Nat:=if L.idxOf 0<k then L.idxOf 0 else 0
def Qfj(L):Ba L 0=0:=by unfold Ba;rw[Qf<|by omega]
def zG(L:LN)(k)(hk:L[k]?=some 0)(d:L.Nodup):L.idxOf 0=k:=by
 obtain⟨b,c⟩:=Qz.1 hk;have a:(0:Nat)∈L:=QA hk;have hi:=Lt a;have h0:L[L.idxOf 0]=0:=GO hi;have hne:=Jp.1<|show L.Pairwise (· ≠ ·)from d;rcases BZ (L.idxOf 0) k with a|a|a
 ·exact absurd (h0.trans c.symm)<|hne _ _ hi b a
 ·exact a
 exact absurd (c.trans h0.symm)<|hne _ _ b hi a
def Qfi(L k)(hk:L[k]?=some 0)(a:L.Nodup):Ba L (k+1)=k:=by have:=zG L k hk a;unfold Ba;rw[Qg<|by omega,this]
def Qfh(L k x)(hk:L[k]?=some x)(a:x≠0):Ba L (k+1)=Ba L k:=by
 have:L.idxOf 0≠k:=by intro a;obtain⟨b,b⟩:=Qz.1 hk;have h0:L[L.idxOf 0]'(by omega)=0:=GO (by omega);simp only[a]at h0;omega
 unfold Ba
 by_cases a:L.idxOf 0<k
 ·rw[Qg<|by omega,Qg a]
 rw[Qf<|by omega,Qf a]
def Qfg(L k)(a:0∈L)(hk:L.length≤k):Ba L k=L.idxOf 0:=by have:=Lt a;unfold Ba;rw[Qg<|by omega]
def PJ(bs:LU)(row a:Nat)(w:WD)(e:Ending)(w':WD):Prop:=
 e=.returned (.tuple #[.string ⟨bs.toArray⟩,(row:Nat),(a:Nat)])∧Qb [] w w'
def mP(s:BA)(w:WD)(e:Ending)(w':WD):Prop:=
 ∃a,K.Ordered s.size (K.fS s) s.size a∧PJ (X5 (ZR s.size (K.fS s) a)) (a.idxOf 0) 0 w e w'
def Qaj(n f)(L:LN)(k x)(a:L[k]?=some x):ZR n f (L.take<|k+1)=ZR n f (L.take k)++[f<|x+n-1]:=by unfold ZR;rw[Zt,a,Xi];rfl
def sP(s:BA)(a b)(ha:a<s.size)(hb:b<s.size)(c:a=b):(s[a]'ha).toNat=(s[b]'hb).toNat:=by subst c;rfl
def WU(s:BA)(t i)(h0:0<s.size)(hi:i<s.size)(a:t%s.size=i):K.fS s t=(s[i]'hi).toNat:=by obtain⟨hb,b⟩:=sQ s t 0 h0;exact b.trans<|sP s _ _ _ _ a
def wW(s:BA)(w)(h0:0<s.size)(hs:s.size≤262144)(d:LX s.size):Calls prog 160 #[s] w (mP s w):=by
 have e:=fun w=>Qcv s w (by omega) d
 have k:=Qa e;have c:=Zo s;have:=Qa c;have:s.toList.isEmpty=false:=by
  rw[X6];cases l:s.data.toList with
  |nil=>rw[l]at c;simp at c;omega
  |cons a b=>rfl
 have g1:decide (262144<(s.size:Int))=false:=by simp;omega
 go_enter func160,ntmps160;go_wp2_with ((at_make;refine YZ rfl _ _ 88 rfl 5 (.int .u8 0) 1 Xb YQ rfl .i64 .i64 _ _ s.size s.size rfl rfl rfl rfl (by omega) (by omega) (by simp only[maxLen];omega) ?_;intro h g c));have⟨f,o⟩:=qb g c;have⟨e,d⟩:=qx w.heap.size;rw[d]at f ⊢;have E:=Qa (by omega:w.heap.size≤e);refine(k.o h).mono ?_;rintro c i⟨q,d,rfl,h,r,g,c⟩;have m:K.fS s (0+s.size-1)=(s[s.size-1]'(by omega)).toNat:=WU s _ _ h0 _ (by rw[ZE,XP<|by omega]);have n:∀c (l:c+1<s.size),K.fS s (c+1+s.size-1)=(s[c]'(by omega)).toNat:=fun c hi=>WU s _ _ h0 _ (by rw[show c+1+s.size-1=c+s.size by omega,CS,XP<|by omega])
 have:e<i.heap.size:=by have:=g.size;have:=f.o.lt e (by simp[Qd,qo]);omega
 have l:Qh i 5 (.slice (some ⟨e,0,none⟩) s.size s.size) (Qm<|X5 (ZR s.size (K.fS s)<|d.take 0)++List.replicate (s.size-0) 0):=by
  have:Qm (X5 (ZR s.size (K.fS s)<|d.take 0)++List.replicate (s.size-0) 0)=List.replicate s.size (.int .u8 0):=by simp[Qm,X5,ZR]
  rw[this];exact f.o.kept g (by simp)
 have:q≠e:=by have:=f.o.lt e (by simp[Qd,qo]);omega
 have⟨t,C,q,v,f,D,o⟩:=qg m n h r.sZ l (o.o.trans g<|by simp) h.len
 go_wp2
 go_loopg [6,20] s.size (fun h k g wr=>∃c:Nat,c≤s.size∧h=s.size-c∧k=.int .i64 (Ba d c:Nat)∧g=.int .i64 (c:Nat)∧Hid (Qh wr 5 (.slice (some ⟨e,0,none⟩) s.size s.size)<|Qm<|X5 (ZR s.size (K.fS s)<|d.take c)++List.replicate (s.size-c) 0)∧Hid (Qb [e] i wr))
 ·exact⟨0,by omega,by omega,by rw[Qfj];rfl,rfl,f,Qa<|Qc _ _⟩
 obtain⟨c,hi,hk,rfl,rfl,l,n⟩:=hrel;have B:=Qa hk
 by_cases hlt:c<s.size
 ·have:(c:Int)<s.size:=by omega
  have⟨h,i⟩:=qy d c (by rw[o.o];exact hlt);have F:h<s.size:=q.o.lt h<|QA i;have f:(X5<|ZR s.size (K.fS s)<|d.take c).length=c:=by simp[X5,ZR,o.o];omega
  have c0:=(v.o.kept n.o (by intro G hz r;simp[fZ]at hz;simp at r;omega)).natC i;rw[ZE]at c0;have:=l.o.aZ (j:=c) (u:=.int .u8 ((0:UInt8).toNat:Nat)) (by rw[KT _ _ (by rw[Qo,f,RV];omega)];rw[List.getD,Zx (by rw[f];exact Ql _),f,ZO,V4,Qg<|by omega];rfl);have:=l.o.free c;have g:=Qaj s.size (K.fS s) d c h i;have⟨z,y,A⟩:=qc g f i
  by_cases x:h=0
  ·subst x;have m:=Qfi d c A.o q.o.nodup;have k:=Qa m;have:(s.size:Int)-1<(s.size:Int):=(by omega);have:((s.size:Int)-1).toNat=s.size-1:=(by omega);have g:=z.o;rw[t.o]at g;have v:=Qa g;have i:=l.o.put c<|.int .u8 ((s[s.size-1]'(by omega)).toNat:Nat);rw[Pe _ _ _ _ y.o hlt]at i;have t:=Qa i
   go_wp2
   go_roundg (s.size-(c+1))
   ·refine⟨c+1,by omega,rfl,by rw[k.o],by go_num,Qa ?_,Qa<|n.o.setCell (p:=⟨e,c,none⟩) (.inl<|by simp) _⟩;rw[v.o,Pc,Ir];exact t.o
   have:=B.o;omega
  obtain⟨f,rfl⟩:∃f,h=f+1:=⟨h-1,by omega⟩;have m:=Qfh d c _ A.o x;have k:=Qa m;have A:f<s.size:=by omega
  have:(f:Int)<s.size:=by omega
  have h:((f+1:Nat):Int)=f+1:=by omega
  have:((f:Int)+1==0)=false:=Zb.2 (by omega);rw[h]at c0;have g:=z.o;rw[C.o f F]at g;have v:=Qa g;have i:=l.o.put c<|.int .u8 ((s[f]'A).toNat:Nat);rw[Pe _ _ _ _ y.o hlt]at i;have t:=Qa i;have:(f:Int)+1-1=(f:Int):=by omega
  go_wp2
  go_roundg (s.size-(c+1))
  ·refine⟨c+1,by omega,rfl,by rw[k.o],by go_num,Qa ?_,Qa<|n.o.setCell (p:=⟨e,c,none⟩) (.inl<|by simp) _⟩;rw[v.o,Pc,Ir];exact t.o
  have:=B.o;omega
 obtain rfl:c=s.size:=by omega
 have c:=l.o;rw[ZO,CP,XH,Q8 (by rw[o.o];exact Ql _)]at c;have:=Qh.text c;have e:=Qa n.o;have r:0∈d:=q.o.perm.mem_iff.2<|ZL.2 h0;have hra:=Qfg d s.size r (by rw[o.o];exact Ql _);have k:=Qa hra
 go_wp2
 go_ret3
 refine⟨d,q.o,by rw[k.o];rfl,D.o.trans e.o ?_⟩;intro G hz;simp at hz;subst hz;exact .inr E.o
end
section
open Go.Sort
def Fz(s:BA)(row:Int):LU × Nat:=
 if 262144<s.size then([],3)else if row<0∨(s.size:Int)≤row then([],50)else(X5 (Vu (Ya s) (XG (Ya s) 256) s.size row.toNat),0)
def rM(s:BA)(row:Int)(w)(hs:s.size≤140737488351232):Calls prog 229 #[s,row] w (CW (Fz s row) w):=by
 unfold Fz
 by_cases hb:262144<s.size
 ·have g1:decide (262144<(s.size:Int))=true:=by simp;omega
  rw[Qg hb];go_enter func229,Me
  go_wp2
  go_ret2;exact⟨rfl,Qc _ _⟩
 have g1:decide (262144<(s.size:Int))=false:=by simp;omega
 rw[Qf hb]
 by_cases a:row<0
 ·have:decide (row<0)=true:=Xs a;rw[Qg<|.inl a];go_enter func229,Me
  go_wp2
  go_ret2;exact⟨rfl,Qc _ _⟩
 obtain⟨b,rfl⟩:=X7 (by omega:0≤row)
 by_cases c:s.size≤b
 ·have g3:(s.size:Int)≤b:=by omega
  rw[Qg<|.inr g3];go_enter func229,Me
  go_wp2
  go_ret2;exact⟨rfl,Qc _ _⟩
 rw[Qf<|by omega,Zs];exact rO s b w (by omega) (by omega)
end
section
open Go.Sort
def wF(l)(a:∀x∈l,x<256):Ya (X5 l)=l:=by
 unfold Ya X5;rw[XI];have:l.map (UInt8.toNat∘UInt8.ofNat)=l.map id:=Yx fun x b=>by have:=a x b;simp only[Function.comp,U7,id];omega
 rw[this,DM]
def eC(l:LU):(ByteArray.mk l.toArray).size=l.length:=by have:=Zo<|ByteArray.mk l.toArray;rw[←this]
def Qbr(l):(ByteArray.mk l.toArray).data.toList=l:=by simp
def Qai(n f)(hf:∀i,f i<256)(L):∀x∈ZR n f L,x<256:=by intro x a;simp only[ZR,QB]at a;obtain⟨i,-,rfl⟩:=a;exact hf _
def Qdj(s:BA)(h0:0<s.size):K.Per s.size (K.fS s):=
 ⟨FK _,fun a=>by have:=IM s a;rwa[Zo]at this,h0⟩
def Qfe(s:BA)(i)(hi:i<s.size):X5 ((List.range s.size).map fun t=>K.fS s<|i+t)=s.data.toList.drop i++s.data.toList.take i:=by
 have:=Zo s;apply Xo;intro a
 by_cases b:a<s.size
 ·rw[Qff s i a (by omega)<|by omega];unfold X5;rw[ZD,ZD,Xa b];simp only[AC,Option.some.injEq];unfold K.fS K.fB;rw[Ir,BY]
 rw[QX (by simp[X5];omega),QX (by simp;omega)]
def rP(s:BA)(L:LN)(h0:0<s.size)(hs:s.size≤262144)(a:K.Ordered s.size (K.fS s) s.size L)(row:Nat)(b:row<s.size):
 Fz (ByteArray.mk (X5<|ZR s.size (K.fS s) L).toArray) (row:Nat)=(s.data.toList.drop (L.getD row 0)++s.data.toList.take (L.getD row 0),0):=by
 have d:(X5<|ZR s.size (K.fS s) L).length=s.size:=by rw[X5,QH,ZR,QH,a.len]
 have c:=eC<|X5<|ZR s.size (K.fS s) L;rw[d]at c;have d:=Qeo (Qdj s h0) a row b;have hi:L.getD row 0<s.size:=by rw[List.getD,Qj<|by rwa[a.len]];exact a.lt _<|XV _
 unfold Fz;rw[c,Qf<|by omega,Qf<|by omega,Qbr,wF _<|Qai _ _ (FK _) _,Zs,d,Qfe s _ hi]
def Kd{n:Nat}{f:Nat→Nat}{L:LN}(a:K.Ordered n f n L)(i:Nat)(hi:i<n):L.idxOf i<n∧L.getD (L.idxOf i) 0=i:=by have b:i∈L:=a.perm.mem_iff.2<|ZL.2 hi;have hlt:=Lt b;rw[a.len]at hlt;refine⟨hlt,?_⟩;rw[List.getD,Qj (by rw[a.len];exact hlt)];exact GO (by rw[a.len];exact hlt)
end


def K.Qht(bs:LB)(i:Nat)(n:Int)(a:n≤62):(QJ bs i n).1<4611686018427387904:=by
 unfold QJ
 split
 ·simp
 split
 ·simp
 have:=Dr<|QW bs i n.toNat;have a:(QW bs i n.toNat).length≤62:=by unfold QW;rw[Zl];omega
 have:2^(QW bs i n.toNat).length≤2^62:=Jc (by decide) a;simp only;omega
def mK(r a:Nat)(s:BA)(i:Nat)(n:Int)(w:WD)(p:Nat × Nat)(e:Ending)(w':WD):Prop:=
 e=.returned (.tuple #[p.1,p.2])∧Rd w' r a s (if p.2=0 then i+n.toNat else i)∧Qb [r] w w'
def MR(c r a:Nat)(s i)(n:Int)(w)(b:w.heap[c]?=some (.cells #[.pointer r] 264 (0,0)))(e:Rd w r a s i)(hs:s.size≤1125899906842624)(hi:i≤8*s.size)(d:n≤62):
 Calls prog 264 #[n,.pointer c] w (mK r a s i n w<|QJ (Qk s) i n):=by
 have c0:w.cell? c=_:=Zu w c 0 _ _ _ b;simp at c0;have hlt:=Qht (Qk s) i n d;generalize b:QJ (Qk s) i n=p at hlt ⊢;have d:=Qa b;go_enter func264,ntmps264;go_wp2_with fail;refine(BQ r a s i n _ e hs hi).mono ?_;rintro a a hp;rw[d.o]at hp;obtain⟨rfl,a,hk⟩:=hp;have⟨d,b⟩:=qb a hk;have hw:IntKind.i64.wrap (p.1:Int)=(p.1:Int):=Q3 _ (by omega)
 go_wp2
 go_ret2;exact⟨rfl,d.o,b.o⟩
def PH(w0:WD)(s:BA)(n:Nat)(R:LI × Nat × Nat)(c r d lo:Nat)(e:Bool)(k:Nat)(v x:VL)(w:WD):Prop:=
 ∃a QV b,lo≤a∧a≤8*s.size∧k=8*s.size-a∧x=.int .i64 b∧(0≤b∧b≤31)∧QV.length≤n∧(e=true→QV.length<n)∧XM n QV b a ((Qk s).drop a)=R∧
  Rd w r d s a∧Qh w 3 v (QM QV)∧w.heap[c]?=some (.cells #[.pointer r] 264 (0,0))∧Qq (Qd v) [c,r,d]∧Qb [] w0 w∧Qs w0.heap.size (Qd v)
def JE(R:LI × Nat × Nat)(w:WD)(e:Ending)(w':WD):Prop:=
 ∃a b,e=.returned (.tuple #[.slice a R.1.length b,R.2.1,R.2.2])∧Qh w' 3 (.slice a R.1.length b) (QM R.1)∧Qb [] w w'∧Qs w.heap.size (fZ a)
def JE.nil{R w w' x e}(a:R=([],0,x))(b:e=.returned (.tuple #[.slice none 0 0,(0:Int),x]))(hk:Qb [] w w'):JE R w e w':=by subst a;exact⟨none,0,b,Qh.nil _ _,hk,by simp[Qs,fZ]⟩
def K.WI(s:BA)(p:Nat)(a:p<8*s.size):(Qk s).drop p=X4 s p::(Qk s).drop (p+1):=by
 have b:p<(Qk s).length:=by rwa[XD]
 rw[Z8 b]
 congr 1
 have:=Rb s p (by rwa[CG]);rw[Qj b]at this;exact Option.some.inj this
def K.kH(s:BA)(p:Nat)(a:8*s.size≤p):QJ (Qk s) p 1=(0,10):=by unfold QJ;rw[Qf<|by omega,Qg (by rw[XD];simp;omega)]
def vH(s:BA)(at_ n:Int)(w)(hs:s.size≤1000000000):
 Calls prog 224 #[s,at_,n] w (JE (Ju (Qk s) at_ n) w):=by
 by_cases b:at_<0∨(8*s.size:Nat)<at_
 ·have a:Ju (Qk s) at_ n=([],0,2):=by unfold Ju;rw[Qg (by rw[XD];omega)]
  have f:=Qa a;clear a;go_enter func224,ntmps224;go_wp2_with fail
  go_step3
  go_wp2_with fail;refine(Kn s at_ _ (by omega) b).mono ?_;rintro G e⟨rfl,rfl⟩;go_wp2_with fail
  try rw[UX]
  go_ret3
  exact JE.nil f.o rfl<|((Qc _ _).alloc _).alloc _
 obtain⟨at_,rfl⟩:=X7 (by omega:0≤at_);generalize b:Ju (Qk s) at_ n=R;have m:=Qa b;clear b;go_enter func224,ntmps224;go_wp2_with fail
 go_step3
 go_wp2_with fail;refine(BH s _ _ (by omega) (by omega) (by simp;omega)).mono ?_;rintro G e⟨h,i,rfl,k,b,g⟩;rw[Zs]at k;have d:=k.lt;have⟨u,o,j⟩:=qc g d b;clear b d g
 by_cases b:n<2
 ·have a:R=([],0,2):=by rw[←m.o];unfold Ju;rw[Qg<|by omega]
  have f:=Qa a;have g1:decide (n<2)=true:=by simp;omega
  clear a;go_wp2_with fail
  try rw[UX]
  go_ret3
  exact JE.nil f.o rfl<|j.o.alloc _
 have g1:decide (n<2)=false:=by simp;omega
 by_cases b:258<n
 ·have a:R=([],0,2):=by rw[←m.o];unfold Ju;rw[Qg<|by omega]
  have f:=Qa a;have A:decide (258<n)=true:=by simp;omega
  clear a;go_wp2_with fail
  try rw[UX]
  go_ret3
  exact JE.nil f.o rfl<|j.o.alloc _
 have A:decide (258<n)=false:=by simp;omega
 obtain⟨n,rfl⟩:=X7 (by omega:0≤n);go_wp2_with fail;have g:(e.alloc<|.cells #[.pointer h] 264).heap[e.heap.size]?=some (.cells #[.pointer h] 264 (0,0)):=Xf _ _;have l:=k.kept ((Qc [] e).alloc<|.cells #[.pointer h] 264)<|ZM _;have t:=j.o.alloc<|.cells #[.pointer h] 264;have p:∀d∈[e.heap.size],d∉[h,i]:=by intro d b q;rw[Za.1 b]at q;have:=o.o _ q;omega
 have r:Qs w.heap.size [e.heap.size,h,i]:=by
  intro d b;rcases QE.1 b with rfl|b
  ·exact j.o.size
  exact u.o d b
 generalize e.alloc (.cells #[.pointer h] 264)=W2 at g l t ⊢;generalize e.heap.size=c at g p r ⊢;have⟨u,Q,x⟩:=qc t p r;have j:QJ (Qk s) at_ 5=if 8*s.size<at_+5 then(0,10)else(K.num<|QW (Qk s) at_ 5,0):=by unfold QJ;rw[Qf<|by omega,XD];rfl
 have e:R=if 8*s.size<at_+5 then([],0,10)else XM n [] (K.num<|QW (Qk s) at_ 5) (at_+5) ((Qk s).drop<|at_+5):=by rw[←m.o];unfold Ju;rw[Qf (by rw[XD];omega),XD];rfl
 have⟨v,o⟩:=qb j e;refine(MR c h i s at_ 5 _ g l (by omega) (by omega)<|by decide).mono ?_;clear k t p r j e g1 A;rintro G p hp;rw[v.o]at hp
 by_cases k:8*s.size<at_+5
 ·rw[Qg k]at hp;obtain⟨rfl,j,e⟩:=hp;have a:=o.o;rw[Qg k]at a;have⟨f,m⟩:=qb a<|u.o.new e fun d b=>x.o d (by simp at b;simp[b]);clear j e a g l;go_wp2_with fail
  try rw[UX]
  go_ret3
  exact JE.nil f.o rfl m.o
 rw[Qf k]at hp;obtain⟨rfl,j,e⟩:=hp;have j:Rd p h i s (at_+5):=j;have a:=o.o;rw[Qf k]at a;have p:K.num (QW (Qk s) at_ 5)<32:=by have k:=Dr<|QW (Qk s) at_ 5;rw[Qdo _ _ _ (by rw[XD];omega)]at k;exact k
 have k:=e.heap g (by have:=Q.o c (by simp);simp at this;simp[this]);have m:=Qa<|u.o.new e fun d b=>x.o d (by simp at b;simp[b]);generalize K.num (QW (Qk s) at_ 5)=now0 at a p ⊢;have f:=Qa a.symm;clear e a g l o v;go_wp2_with fail
 go_step3
 go_wp2
 go_loopg [13,11] (8*s.size-(at_+5)) (fun g y d wr=>PH w s n R c h i (at_+5) false g y d wr)
 ·exact⟨at_+5,[],now0,by omega,by omega,rfl,rfl,by omega,by simp,fun S=>(by cases S),f.o,j,Qh.nil _ _,k,fun d b=>(by simp[Qd,qo]at b),m.o,by simp[Qs,Qd,qo]⟩
 obtain⟨P,QV,e,l,hp,hk,rfl,T,L,-,t,C,m,z,hap,v,u⟩:=hrel;have h1:=Qa hk;obtain⟨ao,J,p,-,-,-,H⟩:=m.sees;rw[Xk]at p;subst p;clear hk j k
 by_cases B:QV.length<n
 ·have W:(QV.length:Int)<n:=by omega
  have⟨r,j,F,D,k,l,o⟩:=qg t C m z hap v u;clear t C m z hap v u H
  go_wp2
  go_loopg [13,11] (8*s.size-P) (fun g y d wr=>PH w s n R c h i P true g y d wr)
  ·exact⟨P,QV,e,by omega,hp,rfl,rfl,T,L,fun _=>B,r.o,j.o,F.o,D.o,k.o,l.o,o.o⟩
  obtain⟨g,QV,e,y,hp,hk,rfl,T,L,hlt,t,C,m,z,hap,v,u⟩:=hrel;have V:=Qa hk;obtain⟨ao,J,p,-,-,-,H⟩:=m.sees;rw[Xk]at p;subst p;have p:=hlt rfl;clear hlt;have⟨r,j,F,D,k,l,o⟩:=qg t C m z hap v u;clear hk t C m z hap v u H W B
  by_cases y:e<1∨20<e
  ·have a:=r.o;rw[ND _ _ _ _ _ p y]at a;have f:=Qa a.symm;clear a
   by_cases B:e<1
   ·have g1:decide (e<1)=true:=(by simp;omega);go_wp2_with fail
    try rw[UX]
    go_ret3
    exact JE.nil f.o rfl l.o
   have g1:decide (e<1)=false:=(by simp;omega);have A:decide (20<e)=true:=(by simp;omega);go_wp2_with fail
   try rw[UX]
   go_ret3
   exact JE.nil f.o rfl l.o
  have g1:decide (e<1)=false:=by simp;omega
  have A:decide (20<e)=false:=by simp;omega
  go_wp2_with fail;refine(MR c h i s g 1 _ D.o j.o (by omega) (by omega)<|by decide).mono ?_;rintro G Y A
  by_cases B:8*s.size≤g
  ·rw[kH s g B]at A;obtain⟨rfl,-,j⟩:=A;have a:=r.o;rw[BV (by rw[XD];exact B),NE _ _ _ _ p y]at a;have⟨f,E⟩:=qb a.symm<|l.o.new j fun d b=>x.o d (by simp at b;simp[b]);clear a j;go_wp2_with fail
   try rw[UX]
   go_ret3
   exact JE.nil f.o rfl E.o
  rw[Pa s g<|by omega]at A;obtain⟨rfl,B,j⟩:=A;have B:Rd Y h i s (g+1):=B;have A:=WI s g (by omega);have I:Qq (Qd<|.slice ao QV.length J) [h]:=fun d b q=>k.o d b (by simp at q;simp[q])
  have U:=F.o.kept j I;have M:=j.heap D.o (by have:=Q.o c (by simp);simp at this;simp[this]);have E:=Qa<|l.o.new j fun d b=>x.o d (by simp at b;simp[b]);have h4:=QS l.o.size j.size;clear j I;cases htb:X4 s g with
  |false=>
   rw[htb]at A;have a:=r.o;rw[A,NF _ _ _ _ _ p y]at a;have⟨f,I,D⟩:=qc a B M;have h2:(QM QV).length+1≤maxLen:=(by rw[Xk];simp only[maxLen];omega);have h3:((QM QV).length+1)*8≤140737488355328:=(by rw[Xk];omega);clear A a htb B M;go_wp2_with ((at_builtin;refine UW _ rfl _ _ 51 rfl 3 (0:Int) 8 XC XJ rfl _ _ [e] 1 rfl rfl rfl rfl (by simp[Value.oneCell']) U h2 h3 ?_;intro a5 h5 Z O j X))
   go_roundg (8*s.size-(g+1))
   case measure=>have:=h1.o;omega
   have h1:∀d∈[c,h,i],d<Y.heap.size:=by
    intro d b;rcases QE.1 b with rfl|b
    ·exact BF D.o
    exact I.o.lt d b
   refine⟨g+1,QV++[e],e,by omega,by omega,rfl,rfl,T,by simp;omega,fun S=>(by cases S),f.o,I.o.kept j<|k.o.symm.sub<|by simp,?_,j.heap D.o<|k.o.symm c<|by simp,(k.o.symm.grow h1 X).symm,E.o.new j o.o,o.o.grow X h4⟩;have:=O;rw[show QM (QV++[e])=QM QV++[.int .i64 e]by simp[QM]];exact this
  |true=>
   rw[htb]at A;have⟨I,D,T,S⟩:=qd B M U A;clear A htb B M U;go_wp2_with fail;refine(MR c h i s (g+1) 1 _ D.o I.o (by omega) (by omega)<|by decide).mono ?_;rintro G Z B
   by_cases A:8*s.size≤g+1
   ·rw[kH s (g+1) A]at B;obtain⟨rfl,-,j⟩:=B;have a:=r.o;rw[S.o,BV (by rw[XD];exact A),cJ _ _ _ _ p y]at a;have⟨f,A⟩:=qb a.symm<|E.o.new j fun d b=>x.o d (by simp at b;simp[b]);clear a j;go_wp2_with fail
    try rw[UX]
    go_ret3
    exact JE.nil f.o rfl A.o
   rw[Pa s (g+1)<|by omega]at B;obtain⟨rfl,I,j⟩:=B;have I:Rd Z h i s (g+2):=I;have U:=WI s (g+1) (by omega);have M:Qq (Qd<|.slice ao QV.length J) [h]:=fun d b q=>k.o d b (by simp at q;simp[q])
   have O:=T.o.kept j M;have T:=j.heap D.o (by have:=Q.o c (by simp);simp at this;simp[this]);have⟨A,x,q,B⟩:=qd (E.o.new j fun d b=>x.o d (by simp at b;simp[b])) I T O;have b:=r.o;rw[S.o,U]at b;clear j M I T O U;cases htb:X4 s (g+1)with
   |false=>
    rw[htb,cK _ _ _ _ _ p y]at b;have d:=Qa b;have j:IntKind.i64.wrap (e+1)=e+1:=Q3 _ (by omega);clear b htb
    go_wp2
    go_roundg (8*s.size-(g+2))
    ·exact⟨g+2,QV,e+1,by omega,by omega,rfl,by go_num,by omega,L,fun _=>p,d.o,x.o,B.o,q.o,k.o,A.o,o.o⟩
    have:=V.o;omega
   |true=>
    rw[htb,cI _ _ _ _ _ p y]at b;have d:=Qa b;have j:IntKind.i64.wrap (e+ -1)=e+ -1:=Q3 _ (by omega);have:IntKind.i64.wrap (e-1)=e-1:=Q3 _ (by omega);clear b htb
    go_wp2
    go_roundg (8*s.size-(g+2))
    ·exact⟨g+2,QV,e-1,by omega,by omega,rfl,by go_num,by omega,L,fun _=>p,d.o,x.o,B.o,q.o,k.o,A.o,o.o⟩
    have:=V.o;omega
 have a:=t;have W:¬((QV.length:Int)<n):=by omega
 have c0:wr.cell? c=_:=Zu wr c 0 _ _ _ z;simp at c0;rw[Kf _ _ _ _ _<|by omega]at a;have⟨f,F,l,o,b⟩:=qe a.symm m v u H;clear a t m v u H;go_wp2_with fail;refine(at_ok h i s P _ C).mono ?_;rintro G a⟨rfl,rfl⟩;go_wp2_with fail
 try rw[UX]
 go_ret3
 rw[f.o];exact⟨ao,J,rfl,F.o,l.o,by have:=o.o;rwa[←b.o]at this⟩

def Qh.one(w:WD)(u e):Qh (w.alloc<|.cells #[u] e) e (.slice w.heap.size 1 1) [u]:=
 ⟨rfl,.inr ⟨w.heap.size,1,#[u],rfl,ZF _,Xf w _,Ql _,by simp[maxLen],rfl,rfl⟩⟩

def flat_len(l:List LI)(a:∀t∈l,XA t=true):(l.flatMap Q2).length≤20000*l.length:=by
 induction l with
 |nil=>simp
 |cons t l ih=>
  have:=ih fun c b=>a c (by simp[b])
  have:=Gn t (UL<|a t<|by simp);rw[Jn,Qo,Q0];omega
def Om{T P}(a:Xm T P=true):(Zr T P).length≤400000:=by
 obtain⟨b,-,b,-⟩:=RG a;have:=Ka a;have:=flat_len T fun c a=>(b c a).2.2
 unfold Zr;rw[Qo];omega
def Hn:(prog.info? 51).map (fun i=>(i.zero,i.size,i.bytes))=some (some<|.slice none 0 0,1,24):=by kernel_rfl
def R0(w:WD)(g:Nat)(a:LV)(b:List LV):Prop:=VJ w a b∧∀b∈a,g∉Qd b
def R0.set{w g d a}(h:R0 w g d a)(i b c r)(hs:Qp w 1 b r.length r)(m:r.length≤c)(e:c≤maxLen)(hb:g∉fZ b)(v):
 R0 (w.setCell ⟨g,i,none⟩ v) g (d.set i<|.slice b r.length c) (a.set i r):=by
 have hk:Qb [g] w (w.setCell ⟨g,i,none⟩ v):=(Qc _ _).setCell (by simp) _;refine⟨⟨by simp[h.1.1],fun l j s a d=>?_⟩,fun j q=>?_⟩
 ·rw[YO]at a d
  by_cases k:i=l
  ·rw[Qg k]at a d
   split at a
   ·split at d
    ·obtain rfl:=Option.some.inj a;obtain rfl:=Option.some.inj d;exact⟨b,c,rfl,hs.kept hk fun t f e=>hb<|by rwa[Za.1 e]at f,m,e⟩
    cases d
   cases a
  rw[Qf k]at a d;obtain⟨k,m,n,o,p⟩:=h.1.2 l j s a d;subst n;refine⟨k,m,rfl,o.kept hk fun t f e=>?_,p⟩;have:=h.2 _<|QA a;rw[XK]at this;exact this (by rwa[Za.1 e]at f)
 rcases DP q with a|a
 ·exact h.2 j a
 rwa[a,XK]
def R0.kZ{w w' g c b}(a:R0 w g c b)(hk:Qb [] w w'):R0 w' g c b:=⟨a.1.kZ hk,a.2⟩
def Cc(w:WD)(g:Nat)(a:LV)(b:List LV):Prop:=R0 w g a b∧∀b∈a,Qs g (Qd b)
def Cc.set{w g f e}(d:Cc w g f e)(i b c r)(hs:Qp w 1 b r.length r)(h:r.length≤c)(a:c≤maxLen)(hb:∀x∈fZ b,g<x)(v):
 Cc (w.setCell ⟨g,i,none⟩ v) g (f.set i<|.slice b r.length c) (e.set i r):=by
 refine⟨d.1.set i b c r hs h a (fun a=>by have:=hb g a;omega) v,fun e a=>?_⟩;rcases DP a with a|a
 ·exact d.2 e a
 rw[a,XK];exact fun x a=>Nat.le_of_lt<|hb x a
def Cc.kZ{w w' g c b}(a:Cc w g c b)(hk:Qb [] w w'):Cc w' g c b:=⟨a.1.kZ hk,a.2⟩
def VJ.keptS{S w w' a c}(b:VJ w a c)(hk:Qb S w w')(ha:∀u∈a,Qq (Qd u) S):VJ w' a c:=
 ⟨b.1,fun h u i a e=>by obtain⟨c,d,rfl,f,g⟩:=b.2 h u i a e;exact⟨c,d,rfl,f.kept hk (by have:=ha _<|QA a;rwa[XK]at this),g⟩⟩
def DD(p:LB × Nat)(w:WD)(e:Ending)(w':WD):Prop:=
 ∃a b,e=.returned (.tuple #[.slice a p.1.length b,(p.2:Nat)])∧Qh w' 3 (.slice a p.1.length b) (FB p.1)∧Qb [] w w'∧Qs w.heap.size (fZ a)
def DD.err{w w' e n}(a:e=.returned (.tuple #[.slice none 0 0,(n:Nat)]))(hk:Qb [] w w'):DD ([],n) w e w':=
 ⟨none,0,a,Qh.nil _ _,hk,by simp[Qs,fZ]⟩
def DD.ok{w w' e l a c}(b:e=.returned (.tuple #[.slice a l.length c,(0:Int)]))(d:Qh w' 3 (.slice a l.length c) (FB l))(hk:Qb [] w w')(hf:Qs w.heap.size (Qd<|.slice a l.length c)):DD (l,0) w e w':=
 ⟨a,c,b,d,hk,by rwa[←XK a l.length c]⟩


def Ui(w:WD)(F:LN)(e:LV)(b:List (List LB)):Prop:=
 e.length=b.length∧∀(c:Nat)(d:VL)(a:List LB),e[c]?=some d→b[c]?=some a→∃b,d=.slice (some ⟨b,0,none⟩) a.length a.length∧∀c,Qb F w c→Xw c (some ⟨b,0,none⟩) a.length (a.map FB)
def Ui.step{w d F F2 c a}(b:Ui w F c a)(hk:Qb F w d)(g:QP w.heap.size F F2):Ui d F2 c a:=
 ⟨b.1,fun h j i c d=>by obtain⟨a,e,f⟩:=b.2 h j i c d;exact⟨a,e,fun a hw=>f a<|hk.trans hw g⟩⟩
def Ui.kZ{w c F b a}(d:Ui w F b a)(hk:Qb [] w c):Ui c F b a:=d.step (hk.mono<|by simp)<|QP.refl _ _
def Ui.nil(w F):Ui w F [] []:=⟨rfl,fun a a a a=>by simp at a⟩
def Ui.snoc{w0 w:WD}{F:LN}{e:LV}{a}(c:Ui w F e a)(h:∀x∈F,x<w0.heap.size){g n:Nat}{t:List LB}(d:t.length=n)(hs:∀S b,Qb S w b→(∀x∈S,x<w0.heap.size)→Xw b g n (t.map FB)):Ui w F (e++[.slice g n n]) (a++[t]):=by
 subst d;refine⟨by simp[c.1],fun f j i a b=>?_⟩;rcases Xq f e.length with d|d
 ·rw[Xp d]at a;rw[Xp<|by rwa[←c.1]]at b;exact c.2 f j i a b
 rw[Zx d]at a;rw[Zx<|by rwa[←c.1]]at b;have h0:f-e.length=0:=by have:=(Qz.1 a).1;simp at this;omega
 rw[h0]at a;rw[←c.1,h0]at b;simp at a b;subst a b;exact⟨g,rfl,fun a hw=>hs F a hw h⟩
def Ui.at{w F b a}(c:Ui w F b a){i:Nat}{t}(d:a[i]?=some t):
 ∃g,b[i]?=some (.slice (some ⟨g,0,none⟩) t.length t.length)∧Xw w (some ⟨g,0,none⟩) t.length (t.map FB):=by
 have⟨a,e⟩:=qy b i (by rw[c.1];exact(Qz.1 d).1);obtain⟨g,rfl,hs⟩:=c.2 i a t e d;exact⟨g,e,hs w<|Qc _ _⟩
def xW(b a:OA)(d c:Nat)(T)(P:LI)(s:BA)(at_:Int)(w:WD)(f:Xv w b a d c T P)(hs:s.size≤140737488351232):
 Calls prog 182 #[QZ b T.length d a P.length c,s,at_] w (Z0 (RD T P (Qk s) at_) w):=by
 rcases JD (Xm T P)with e|e
 ·exact xY b a d c T P s at_ w f e hs
 exact xX b a d c T P s at_ w f e
def yG(b a d c T P w)(f:Xv w b a d c T P):
 Calls prog 166 #[QZ b T.length d a P.length c] w (Lf (Bc T P) w):=by
 rcases JD (Xm T P)with e|e
 ·exact bA b a d c T P w f e
 exact yH b a d c T P w f e
def Qdh(a cap xs w)(d:Qp w 1 a xs.length (QM xs))(p:xs.length≤140737488351232):
 Calls prog 212 #[.slice a xs.length cap] w (YI (Dd xs) w):=by
 have g:=Qa d;clear d;rcases JD (XA xs)with b|b
 ·have c:Dd xs=(Um<|QD xs,0):=by unfold Dd;rw[b];rfl
  have⟨f,h⟩:=qb c b;clear c b;go_enter func212,ntmps212;go_wp2_with fail;refine(dD a cap xs _ g.o h.o).mono ?_;rintro i e⟨n,m,rfl,k,j,o⟩;have⟨e,l⟩:=qb j k;clear j k o;go_wp2_with fail;refine(uJ n a cap xs m _ (g.o.kZ e.o) h.o l.o).mono ?_;rintro i h⟨d,rfl,h,j,hh⟩;have l:=Qa (e.o.new j<|by simp[Qs]);have k:(Um<|QD xs).length=xs.length:=by rw[MH,UQ]
  have:w.heap.size≤d:=QS e.o.size hh;rw[←k]at h ⊢;have d:=Qa h;clear j h k
  go_wp2
  go_ret2;rw[f.o];exact YI.ok (by rfl) d.o l.o (by intro d d;simp[Qd,qo]at d;omega)
 have c:Dd xs=([],80):=by unfold Dd;rw[b];rfl
 have f:=Qa c;go_enter func212,ntmps212;go_wp2_with fail;refine(dC a cap xs _ g.o p b).mono ?_;rintro i d⟨rfl,rfl⟩;clear c b
 go_wp2
 go_ret2;rw[f.o];exact YI.err (by rfl)<|Qc _ _
def lY(p:LU × Int × Nat)(w:WD)(e:Ending)(w':WD):Prop:=e=.returned (Zg p)∧Qb [] w w'
def fV{T P L t0 s}(a:Xm T P=true)(b:ZH L.length≤P.length)(c:T.getD 0 []=t0)(hs:s∈L)(hb:s<0∨(t0.length:Int)≤s):VW T P L=([],0,60):=by unfold VW Jd;rw[a,Xs b,c,Wn T P _ L 0 ⟨s,hs,hb⟩];rfl
def Ch(T:List LI)(i:Nat):List LV:=(List.range T.length).map fun a=>if a<i then Qi (Um (QD (T.getD a [])))else []
def IC(T i):(Ch T i).length=T.length:=by simp[Ch]
def IB(T i j)(a:j<T.length):(Ch T i)[j]?=some (if j<i then Qi (Um<|QD<|T.getD j [])else []):=by simp[Ch,Xa a]
def uE(T i t)(a:T[i]?=some t):(Ch T i).set i (Qi<|Um<|QD t)=Ch T (i+1):=by
 have hi:=(Qz.1 a).1;have c:T.getD i []=t:=by rw[List.getD,a];rfl
 apply Xo;intro a;rw[YO,IC]
 by_cases b:a<T.length
 ·rw[IB _ _ _ b,IB _ _ _ b]
  by_cases b:i=a
  ·subst b;rw[Qg rfl,Qg hi,Qg<|by omega,c]
  rw[Qf b];have:(a<i+1)↔(a<i):=by omega
  simp only[this]
 rw[QX (by rw[IC];omega),QX (by rw[IC];omega),Qf<|by omega]
def uF(w g T):R0 w g (List.replicate T.length<|.slice none 0 0) (Ch T 0):=by
 refine⟨⟨by rw[IC];simp,fun i u r h o=>?_⟩,fun u hu=>?_⟩
 ·rw[V4]at h
  split at h
  ·rename_i q;rw[IB _ _ _ q,Qf<|by omega]at o;obtain rfl:=Option.some.inj h;obtain rfl:=Option.some.inj o;exact⟨none,0,rfl,⟨rfl,fun j u y=>by simp at y⟩,Ql _,ZF _⟩
  cases h
 obtain rfl:=Bl hu;simp[Qd,qo]
def oQ(T:List LI)(g:Nat)(c:WD)(k:Nat)(v:VL)(wr:WD):Prop:=
 ∃(a:Nat)(b:LV),k=T.length-a∧a≤T.length∧v=.int .i64 (a:Nat)∧Hid (Qh wr 51 (.slice g T.length T.length) b)∧Hid (R0 wr g b (Ch T a))∧Hid (∀a∈b,Qs c.heap.size (Qd a))∧Hid (Qb [g] c wr)
def oR(T:List LI)(P L:LI)(n b:Nat)(e:WD)(k:Nat)(v:VL)(wr:WD):Prop:=
 ∃(a:Nat)(d:VL)(c:LB),k=L.length-a∧a≤L.length∧v=.int .i64 (a:Nat)∧Hid (Wr wr b d c)∧c.length≤20*a∧Hid (XT T P n 0 (L.take a)=some c)∧Hid (Qb [b] e wr)∧Hid (QP e.heap.size [b] (b::Qd d))
def yK{b c a wr d}(e:Qb [b] a wr)(f:QP a.heap.size [b] (b::Qd c))(hk:Qb (b::Qd c) wr d):Qb [b] a d:=e.trans hk f
def oO(L:LI)(n:Nat)(w0:WD)(k:Nat)(v:VL)(wr:WD):Prop:=
 ∃a:Nat,k=L.length-a∧a≤L.length∧v=.int .i64 (a:Nat)∧Hid (∀b∈L.take a,0≤b∧b<(n:Int))∧w0=wr
def aX(aT aP aL q cP cL T P L w)(h:Xv w aT aP q cP T P)(hL:Qp w 1 aL L.length (QM L))(hl:L.length≤17592186043904):
 Calls prog 167 #[QZ aT T.length q aP P.length cP,.slice aL L.length cL] w (lY (VW T P L) w):=by
 have hk:Qb [] w ((w.alloc<|.cells #[.slice aT T.length q,.slice aP P.length cP] 255).alloc<|.cells #[.string ⟨#[]⟩,(0:Int)] 204):=((Qc [] w).alloc _).alloc _;have hA:Qe ((w.alloc<|.cells #[.slice aT T.length q,.slice aP P.length cP] 255).alloc<|.cells #[.string ⟨#[]⟩,(0:Int)] 204) w.heap.size 255 [.slice aT T.length q,.slice aP P.length cP]:=
  (Qy w [.slice aT T.length q,.slice aP P.length cP] 255).kept ((Qc [] _).alloc _) (by simp)
 have hB:Qe ((w.alloc<|.cells #[.slice aT T.length q,.slice aP P.length cP] 255).alloc<|.cells #[.string ⟨#[]⟩,(0:Int)] 204) (w.heap.size+1) 204 [.string ⟨#[]⟩,(0:Int)]:=by have h:=Qy (w.alloc<|.cells #[.slice aT T.length q,.slice aP P.length cP] 255) [.string ⟨#[]⟩,(0:Int)] 204;rwa[show(w.alloc<|.cells #[.slice aT T.length q,.slice aP P.length cP] 255).heap.size=w.heap.size+1 by simp]at h
 have p1:=h.kept hk;have l1:=hL.kZ hk;unfold QZ;have b0:=hA.cell (i:=0) (u:=.slice aT T.length q) rfl;have b1:=hA.cell (i:=1) (u:=.slice aP P.length cP) rfl;have⟨HK,HA,HB,y7,HL⟩:=qe hk hA hB p1 l1;clear hA hB p1 h l1 hL hk;have j2:w.heap.size+1<((w.alloc<|.cells #[.slice aT T.length q,.slice aP P.length cP] 255).alloc<|.cells #[.string ⟨#[]⟩,(0:Int)] 204).heap.size:=HB.o.lt;have⟨bb,q5⟩:=qx<|Xm T P;have x4:=Qa q5;have j7:ZH L.length≤17592186043904:=by unfold ZH;omega
 have⟨gn,z7⟩:=qx<|ZH L.length;have p5:=Qa z7;have HM:=Qa (fun W (hW:Qb [] ((w.alloc<|.cells #[.slice aT T.length q,.slice aP P.length cP] 255).alloc<|.cells #[.string ⟨#[]⟩,(0:Int)] 204) W)=>show Calls prog 207 #[.agg #[.slice aT T.length q,.slice aP P.length cP]] W (PM bb W)by
  have p:=y7.o.kept hW;rw[←q5];exact FO aT aP q cP T P W p.tabs p.picks p.tl p.pl p.rl)
 have p4:=Qa (fun W=>show Calls prog 211 #[L.length] W (fun e w'=>e=.returned (.int .i64 (gn:Nat))∧W=w')by rw[←z7];exact Nb L.length W<|by omega);rw[z7]at j7;clear z7;have⟨W,hW⟩:=qx<|(w.alloc<|.cells #[.slice aT T.length q,.slice aP P.length cP] 255).alloc<|.cells #[.string ⟨#[]⟩,(0:Int)] 204;have HW:=Qa hW;rw[hW]at b0 b1 HK HA HB y7 HL HM j2;clear hW q5;cases bb with
 |false=>have HR:=Qa (by unfold VW Jd;rw[x4.o];rfl:VW T P L=([],0,110));go_enter func167,SG;go_wp2_with fail;rw[HW.o];refine wp_region_held_drew (S:=fun w'=>Qb [] W w'∧w'.cell? w=some (.slice aT T.length q)∧w'.cell? ⟨w.heap.size,1,none⟩=some (.slice aP P.length cP)) (by kernel_rfl) ⟨(Qc _ _).drew,b0,b1⟩ fun h9=>?_;refine Kb 0 14 (.agg #[.slice aT T.length q,.slice aP P.length cP]) (by kernel_rfl) (by kernel_rfl) (by kernel_rfl) (by kernel_rfl) (fun _ _ _ h=>h) (by kernel_rfl) (by intro o ho w q0;simp at ho;subst ho;go_simp) h9 ?_;simp only[Act.put,RW,UY,UD];refine wpAnyH_ready (rs:=[1]) (by kernel_rfl) (by simp) ?_;refine AllReadyH.cons rfl (fun K hK=>?_) AllReadyH.nil;go_simp;refine(HM.o _ (Qc [] W).drew).mono ?_;rintro e w3⟨rfl,x6⟩;have h4:Qb [] W w3:=(Qc [] W).drew.trans x6 (by simp);go_wp2_with fail;refine hK.out _ _ ⟨h4,h4.cZ b0<|by simp,h4.cZ b1<|by simp⟩ fun h9=>?_;clear hK K;refine Kb 2 16 (.bool true) (by kernel_rfl) (by kernel_rfl) (by kernel_rfl) (by kernel_rfl) (fun _ _ _ h=>h) (by kernel_rfl) (by intro o ho w q0;simp at ho;subst ho;go_simp) h9 ?_;simp only[Act.put,RW,UY,UD];refine Kb 3 17 (.bool true) (by kernel_rfl) (by kernel_rfl) (by kernel_rfl) (by kernel_rfl) (fun _ _ _ h=>h) (by kernel_rfl) (by intro o ho w q0;simp at ho;subst ho;go_simp) h9 ?_;simp only[Act.put,RW,UY,UD];refine Dg 4 18 (by kernel_rfl) (by kernel_rfl) (by kernel_rfl) (by kernel_rfl) (fun _ _ _ h=>h) (by kernel_rfl) h9 ?_;simp only[Act.put,RW,UY,UD];refine Dg 5 19 (by kernel_rfl) (by kernel_rfl) (by kernel_rfl) (by kernel_rfl) (fun _ _ _ h=>h) (by kernel_rfl) h9 ?_;simp only[Act.put,RW,UY,UD];refine Dg 6 20 (by kernel_rfl) (by kernel_rfl) (by kernel_rfl) (by kernel_rfl) (fun _ _ _ h=>h) (by kernel_rfl) h9 ?_;simp only[Act.put,RW,UY,UD];refine Dg 7 21 (by kernel_rfl) (by kernel_rfl) (by kernel_rfl) (by kernel_rfl) (fun _ _ _ h=>h) (by kernel_rfl) h9 ?_;simp only[Act.put,RW,UY,UD];refine Dg 8 22 (by kernel_rfl) (by kernel_rfl) (by kernel_rfl) (by kernel_rfl) (fun _ _ _ h=>h) (by kernel_rfl) h9 ?_;simp only[Act.put,RW,UY,UD];refine Dg 9 23 (by kernel_rfl) (by kernel_rfl) (by kernel_rfl) (by kernel_rfl) (fun _ _ _ h=>h) (by kernel_rfl) h9 ?_;simp only[Act.put,RW,UY,UD];refine Dg 10 24 (by kernel_rfl) (by kernel_rfl) (by kernel_rfl) (by kernel_rfl) (fun _ _ _ h=>h) (by kernel_rfl) h9 ?_;simp only[Act.put,RW,UY,UD];refine Kb 11 25 (.bool true) (by kernel_rfl) (by kernel_rfl) (by kernel_rfl) (by kernel_rfl) (fun _ _ _ h=>h) (by kernel_rfl) (by intro o ho w q0;simp at ho;subst ho;go_simp) h9 ?_;simp only[Act.put,RW,UY,UD];refine wpAnyH_done (by kernel_rfl) ?_ _;have x1:=Qa (HK.o.trans h4<|by simp);have h5:=HB.o.kept h4 (by simp);obtain⟨r0,r1,f0,f1,s0,s1⟩:=h5.six (.string ⟨#[]⟩) (0:Int);clear h5 h4 b0 b1;go_wp2_with fail;refine Q5 (v:=Zg ([],0,110)) (by simp[results,Ib,go_sem,Zg,s0,s1]) rfl ?_;exact⟨by rw[HR.o],x1.o.set2<|.inr<|by simp⟩
 |true=>
  by_cases d9:P.length<gn
  ·have g1:decide ((P.length:Int)<gn)=true:=(by simp;omega);have HR:=Qa (by unfold VW Jd;rw[x4.o,Xz (by rw[p5.o];omega)];rfl:VW T P L=([],0,110));go_enter func167,SG;go_wp2_with fail;rw[HW.o]
   go_region_held3 (fun w'=>Qb [] W w'∧w'.cell? w=some (.slice aT T.length q)∧w'.cell? ⟨w.heap.size,1,none⟩=some (.slice aP P.length cP))
    (first|exact⟨(Qc _ _).drew,b0,b1⟩|exact⟨h4,h4.cZ b0<|by simp,h4.cZ b1<|by simp⟩)
    (first|(go_at_call 207;refine(HM.o _ (Qc [] W).drew).mono ?_;rintro e w3⟨rfl,x6⟩;have h4:Qb [] W w3:=(Qc [] W).drew.trans x6<|by simp)|(go_at_call 211;refine(p4.o _).mono ?_;rintro e w4⟨rfl,rfl⟩))
   rename_i hS;clear hS;have x1:=Qa (HK.o.trans h4<|by simp);have h5:=HB.o.kept h4 (by simp);obtain⟨r0,r1,f0,f1,s0,s1⟩:=h5.six (.string ⟨#[]⟩) (0:Int);clear h5 h4 b0 b1;go_wp2_with fail;refine Q5 (v:=Zg ([],0,110)) (by simp[results,Ib,go_sem,Zg,s0,s1]) rfl ?_;exact⟨by rw[HR.o],x1.o.set2<|.inr<|by simp⟩
  have g1:¬P.length<gn:=d9;obtain⟨hT,hP,b8,b7⟩:=RG x4.o;have⟨p9,g7⟩:=qb b8 b7;obtain⟨t0,y0⟩:∃t,T[0]?=some t:=⟨_,Qj<|by omega⟩;have y8:=Qa (by rw[List.getD,y0];rfl:T.getD 0 []=t0);have m9:=y7.o.rl t0<|QA y0;have m8:=(p9.o t0<|QA y0).2.1;have i6:=Qa y0;have l7:(0:Int)<T.length:=by omega
  have⟨p6,g5⟩:=qb (by rw[p5.o];omega:ZH L.length≤P.length) (by have:=p5.o;unfold ZH at this;omega:L.length≤50*P.length);clear y0 b8 b7 d9;go_enter func167,SG;go_wp2_with fail;rw[HW.o]
  go_region_held3 (fun w'=>Qb [] W w'∧w'.cell? w=some (.slice aT T.length q)∧w'.cell? ⟨w.heap.size,1,none⟩=some (.slice aP P.length cP))
   (first|exact⟨(Qc _ _).drew,b0,b1⟩|exact⟨h4,h4.cZ b0<|by simp,h4.cZ b1<|by simp⟩)
   (first|(go_at_call 207;refine(HM.o _ (Qc [] W).drew).mono ?_;rintro e w3⟨rfl,x6⟩;have h4:Qb [] W w3:=(Qc [] W).drew.trans x6<|by simp)|(go_at_call 211;refine(p4.o _).mono ?_;rintro e w4⟨rfl,rfl⟩))
  rename_i hS;clear hS;have⟨x1,l5,x8,p3,x5,y6⟩:=qf (HK.o.trans h4<|by simp) h4 (HA.o.kept h4<|by simp) (HB.o.kept h4<|by simp) (y7.o.kept h4)<|HL.o.kZ h4;clear h4 x6 b0 b1 HM p4
  go_wp2
  go_loopg [29] L.length (fun k v wr=>oO L t0.length w3 k v wr)
  ·exact⟨0,by omega,by omega,rfl,Qa<|by simp,rfl⟩
  obtain⟨i,hk,hi,rfl,HS,rfl⟩:=hrel;have Hk:=Qa hk;clear hk;have c0:=x8.o.cell (i:=0) (u:=.slice aT T.length q) rfl
  by_cases hlt:i<L.length
  ·have d8:(i:Int)<L.length:=(by omega);have⟨s,hs⟩:=qy L i hlt;obtain⟨bL,oL,rfl,-⟩:=y6.o.at (by rw[Xk];omega);have d0:=y6.o.int hs;obtain⟨bT,oT,ar,cr,rfl,e0,-,-⟩:=x5.o.tabs.int i6.o;rw[Jb]at e0;have p8:=Qa hs;clear hs;have l3:=Qa e0
   by_cases q3:s<0
   ·have q1:decide (s<0)=true:=Xs q3;have HR:=Qa<|show VW T P L=([],0,60)from fV x4.o p6.o y8.o (QA p8.o) (.inl q3);have h5:=p3.o;obtain⟨r0,r1,f0,f1,s0,s1⟩:=h5.six (.string ⟨#[]⟩) (0:Int);clear h5;go_wp2_with fail;refine Q5 (v:=Zg ([],0,60)) (by simp[results,Ib,go_sem,Zg,s0,s1]) rfl ?_;exact⟨by rw[HR.o],x1.o.set2<|.inr<|by simp⟩
   have q1:decide (s<0)=false:=Xz q3
   by_cases q4:(t0.length:Int)≤s
   ·have q2:decide ((t0.length:Int)≤s)=true:=Xs q4;have HR:=Qa<|show VW T P L=([],0,60)from fV x4.o p6.o y8.o (QA p8.o) (.inr q4);have h5:=p3.o;obtain⟨r0,r1,f0,f1,s0,s1⟩:=h5.six (.string ⟨#[]⟩) (0:Int);clear h5;go_wp2_with fail;refine Q5 (v:=Zg ([],0,60)) (by simp[results,Ib,go_sem,Zg,s0,s1]) rfl ?_;exact⟨by rw[HR.o],x1.o.set2<|.inr<|by simp⟩
   have q2:decide ((t0.length:Int)≤s)=false:=Xz q4
   go_wp2
   go_roundg (L.length-(i+1))
   ·refine⟨i+1,rfl,by omega,by simp,Qa ?_,rfl⟩;intro x hx;rw[Zt,p8.o]at hx;rcases Q6.1 hx with hx|hx
    ·exact HS.o x hx
    obtain rfl:x=s:=(by simpa using hx);omega
   have:=Hk.o;omega
  obtain rfl:i=L.length:=by omega
  have z8:¬(L.length:Int)<L.length:=by omega
  have g0:=Qa (show ∀s∈L,0≤s∧s<(t0.length:Int)by have:=HS.o;rwa[VG]at this);clear HS Hk;go_wp2_with fail;refine(Dq _).mono ?_;rintro e w4⟨b,rfl,r5,q9,c5⟩;have⟨y3,y1,i8⟩:=qc q9 (show w3.heap.size≤b∧b<w4.heap.size from⟨c5 b<|by simp,r5.lt b<|by simp⟩) r5;have c0:=(x8.o.kept q9<|by simp).cell (i:=0) (u:=.slice aT T.length q) rfl;clear r5 q9 c5;go_wp2_with ((at_make;refine YZ rfl _ _ 253 rfl 51 (.slice none 0 0) 24 Mj Hn rfl .i64 .i64 _ _ T.length T.length rfl rfl rfl rfl (Ql _) (by omega) (by simp only[maxLen];omega) ?_;intro w5 x9 c9));have⟨g,hg⟩:=qx w4.heap.size;rw[hg]at x9 ⊢;have HG:=Qa hg;have x9:Qh w5 51 (.slice (some ⟨g,0,none⟩) T.length T.length) (List.replicate T.length<|.slice none 0 0):=x9;have⟨a7,r9⟩:=qb x9 c9;clear hg x9 c9 c0
  go_loopg [53] T.length (fun k v wr=>oQ T g w4 k v wr)
  ·exact⟨0,_,by omega,by omega,rfl,a7,Qa<|uF w5 g T,Qa (fun u hu=>by obtain rfl:=Bl hu;simp[Qd,qo,Qs]),Qa<|r9.o.mono<|by simp⟩
  clear a7 r9;obtain⟨i,vs,hk,hi,rfl,HR,a8,HF,HK⟩:=hrel;have Hk:=Qa hk;clear hk
  by_cases hlt:i<T.length
  ·have d8:(i:Int)<T.length:=(by omega);have⟨t,ht⟩:=qy T i hlt;have x0:Qb [] w3 wr:=y3.o.trans HK.o (by intro y hy;simp at hy;subst hy;exact .inr (by rw[←HG.o];exact y3.o.size));have c0:=(x8.o.kept x0<|by simp).cell (i:=0) (u:=.slice aT T.length q) rfl;obtain⟨bT,oT,ar,cr,rfl,e0,x7,-⟩:=(x5.o.kept x0).tabs.int ht;have r4:=x5.o.rl t<|QA ht;have⟨i7,i1,f7⟩:=qc ht x7 (by unfold Dd;rw[(p9.o t<|QA ht).2.2];rfl:Dd t=(Um<|QD t,0));have⟨old,e4⟩:=qy vs i (by have:=HR.o.len;omega);have⟨g6,l4⟩:=qb e4 x0;clear ht x7 x0 e4;go_wp2_with fail;refine(Qdh ar cr t _ i1.o<|by omega).mono ?_;rintro e w6 hp;rw[f7.o]at hp;obtain⟨a6,c6,rfl,e5,h8,c7⟩:=hp;have z1:=HR.o.kept h8 (by simp);have r0:=z1.aZ g6.o;have f0:=z1.free i;have⟨g8,p7,y4,r7⟩:=qd z1 e5 h8 c7;clear e5 h8 c7 z1 c0 e0
   go_wp2
   go_roundg (T.length-(i+1))
   case measure=>have:=Hk.o;omega
   have m5:=p7.o.len;obtain⟨a2,c2,hv,j3,j4,l9,-⟩:=p7.o.sees;injection hv with e1 e2 e3;subst e3;have b9:(Qi<|Um<|QD t).length=(Um<|QD t).length:=QF _;have m1:g<wr.heap.size:=HR.o.lt g (by simp[Qd,qo]);have j6:g∉fZ a6:=fun hm=>by have:=r7.o g hm;omega
   have e6:=(a8.o.kZ y4.o).set i a6 c6 (Qi<|Um<|QD t) (by have:=p7.o.sZ;rwa[b9]) j3 j4 j6<|.slice a6 (Um<|QD t).length c6;rw[uE T i t i7.o,b9]at e6;refine⟨i+1,_,rfl,by omega,by simp,Qa<|g8.o.put i _,Qa e6,Qa ?_,Qa<|(HK.o.trans y4.o<|by simp).trans ((Qc [g] w6).setCell (p:=⟨g,i,none⟩) (by simp) _)<|by simp⟩;intro u hu;rcases DP hu with h1|h1
   ·exact HF.o u h1
   rw[h1,XK];intro y hy;have h2:=r7.o y hy;have h3:=HK.o.size;omega
  obtain rfl:i=T.length:=by omega
  have z8:¬(T.length:Int)<T.length:=by omega
  obtain⟨w5,rfl⟩:∃wo:WD,wo=wr:=⟨_,rfl⟩;have⟨r6,a1⟩:=qb (by rw[←HG.o];exact y1.o.2:b<g)<|y3.o.trans HK.o (by intro y hy;simp at hy;subst hy;exact .inr (by rw[←HG.o];exact y3.o.size));have b4:=Qa<|i8.o.kept HK.o (by intro x hx hm;simp[Qd,qo]at hx hm;have:=r6.o;omega)
  go_wp2
  go_loopg [71] L.length (fun k v wr=>oR T P L t0.length b w5 k v wr)
  ·exact⟨0,_,[],by omega,by omega,rfl,b4,by simp,Qa<|by rw[LC,XT],Qa<|Qc _ _,Qa<|by simp[QP,Qd,qo]⟩
  clear b4;obtain⟨i,o,B,hk,hi,rfl,b5,l6,HC,y5,y2⟩:=hrel;have Hk:=Qa hk;clear hk
  by_cases hlt:i<L.length
  ·have d8:(i:Int)<L.length:=(by omega);have⟨s,hs⟩:=qy L i hlt;obtain⟨l0,m6⟩:=g0.o s<|QA hs;obtain⟨s,rfl⟩:=X7 l0;have b6:i/50<P.length:=(by have:=g5.o;omega);have⟨x,hx⟩:=qy P (i/50) b6;obtain⟨l2,o0⟩:=g7.o x<|QA hx;obtain⟨x,rfl⟩:=X7 l2;have⟨t,ht⟩:=qy T x (by omega);obtain⟨r4,n8,p2⟩:=p9.o t<|QA ht;rw[y8.o]at r4;have r3:s<t.length:=(by omega);have⟨ls,x3⟩:=qx<|QD t;have z8:ls.length=t.length:=(by rw[←x3,UQ]);have z6:=Cl p2;have q8:=Ws (QD t) (fun x hx=>(z6 x hx).2) (FP p2) s (by rwa[UQ]);have⟨n,hn⟩:=qx<|ls.getD s 0;have⟨c,hc⟩:=qx<|Yu ls s;rw[x3,hn,hc]at q8;rw[x3]at z6;have j8:n≤20:=(by have hm:ls.getD s 0∈ls:=(by rw[List.getD,Qj<|by omega];exact XV<|by omega);have:=(z6 _ hm).2;omega);have e8:t[s]?=some (n:Int):=(by have h1:t[s]?=some t[s]:=Qj r3;have h2:=((UN t).1 (UL p2)).2 t[s] (XV r3);rw[h1,←hn,←x3,List.getD,QD,ZD,h1];simp;omega);have e7:J0 (JA T P i) s=K.low c n:=(by unfold JA J0;rw[show P.getD (i/50) 0=(x:Int)by rw[List.getD,hx];rfl,Zs,show T.getD x []=t by rw[List.getD,ht];rfl,x3,hn,hc]);have j9:2^n≤2^20:=Jc (by decide) j8;have l8:c<1048576:=(by have e:(2:Nat)^20=1048576:=rfl;omega);have m0:IntKind.u64.wrap (c:Int)=(c:Int):=(by rw[JH];omega);have y9:∀p v,w5.cell? p=some v→p.block≠b→wr.cell? p=some v∧p.block∉b::Qd o:=by
    intro p v hp hb;refine⟨y5.o.cZ hp<|by simpa using hb,fun hm=>?_⟩;have h1:=JN w5 p hp;rcases y2.o _ hm with h2|h2
    ·exact hb (by simpa using h2)
    omega
   have x2:∀p v,w3.cell? p=some v→wr.cell? p=some v∧p.block∉b::Qd o:=(by intro p v hp;have h1:=JN w3 p hp;exact y9 p v (a1.o.cZ hp<|by simp) (by have:=y1.o.1;omega));obtain⟨bL,oL,rfl,-⟩:=y6.o.at (by rw[Xk];omega);obtain⟨bP,oP,rfl,-⟩:=x5.o.picks.at (by rw[Xk];omega);obtain⟨bT,oT,ar,cr,rfl,e0,x7,-⟩:=x5.o.tabs.int ht;obtain⟨br,f3,rfl,-⟩:=x7.at (by rw[Xk];omega);obtain⟨d0,n0⟩:=x2 _ _<|y6.o.int hs;obtain⟨d1,n1⟩:=x2 _ _<|x5.o.picks.int hx;obtain⟨d2,n2⟩:=x2 _ _<|x8.o.cell (i:=0) (u:=.slice (some ⟨bT,oT,none⟩) T.length q) rfl;obtain⟨d3,n3⟩:=x2 _ _<|x8.o.cell (i:=1) (u:=.slice (some ⟨bP,oP,none⟩) P.length cP) rfl;obtain⟨d4,n4⟩:=x2 _ _ e0;obtain⟨d5,n5⟩:=x2 _ _<|x7.int e8;have f2:=(Qz.1 ht).1;have r2:=IB T T.length x f2;rw[Qg f2,show T.getD x []=t by rw[List.getD,ht];rfl,x3]at r2;have⟨u,hu⟩:=qy vs x (by have:=HR.o.len;omega);obtain⟨ac,cc,rfl,p0,-,-⟩:=a8.o.1.2 x u _ hu r2;rw[QF,MH,z8]at p0 hu;obtain⟨bc,oc,rfl,-⟩:=p0.at (by rw[QF,MH];omega);obtain⟨d6,n6⟩:=y9 _ _ (HR.o.aZ hu) (by simp;have:=r6.o;omega);have q6:=uI ls s (by omega);rw[hc]at q6;obtain⟨b',o2,q7,c4⟩:=p0.2 s _<|AX q6;injection q7 with q7;injection q7 with j5 he2;subst j5;subst he2;obtain⟨d7,n7⟩:=y9 _ _ c4 (by simp;have h1:=HF.o _ (QA hu) bc (by simp[Qd,qo]);have:=y1.o.2;omega);have⟨j,hj⟩:=qx<|i/50;rw[hj]at d1 n1 b6;obtain⟨m4,m3,m2,o1,m7⟩:(i:Int)/50=(j:Int)∧(j:Int)<P.length∧(0:Int)≤j∧(x:Int)<T.length∧(s:Int)<t.length:=(by omega);have⟨j1,f4,f8,b2,g9,HN⟩:=qf b5.o (by omega:B.length≤1000000000000) q8 e7 hs<|show(⟨g,x,none⟩:Addr).block∉b::Qd o∧bc∉b::Qd o∧w.heap.size∉b::Qd o∧bT∉b::Qd o∧br∉b::Qd o from⟨n6,n7,n2,n4,n5⟩;clear y9 x2 hj hx ht hs x3 hn hc z6 e8 hu q6 c4 p0 r2 x7 e0 r4 p2 q8 e7 n0 n1 n2 n3 n4 n5 n6 n7 j9;go_wp2_with fail
   go_region_held3 (fun w'=>w'.cell? ⟨g,x,none⟩=some (.slice (some ⟨bc,oc,none⟩) t.length cc)∧w'.cell? ⟨bc,oc+s,none⟩=some (.int .i64 (c:Int))∧w'.cell? w=some (.slice (some ⟨bT,oT,none⟩) T.length q)∧w'.cell? ⟨bT,oT+x,none⟩=some (.slice (some ⟨br,f3,none⟩) t.length cr)∧w'.cell? ⟨br,f3+s,none⟩=some (.int .i64 (n:Int)))
    (first|exact⟨d6,d7,d2,d4,d5⟩|exact⟨h8.cZ d6 HN.o.1,h8.cZ d7 HN.o.2.1,h8.cZ d2 HN.o.2.2.1,h8.cZ d4 HN.o.2.2.2.1,h8.cZ d5 HN.o.2.2.2.2⟩)
    (first|(go_at_call 119;refine(Rk b c n _ _ _ (by omega) (by omega) (by omega) (by simpa using f8.o) f4.o<|by exact j1.o).mono ?_;rintro e w6⟨rfl,o6,e9,h8,c8⟩))
   rename_i hS;clear hS;have h8:Qb (b::Qd o) wr w6:=(Qc (b::Qd o) wr).drew.trans h8 fun x hx=>.inl hx;have⟨j0,y4,f9⟩:=qc (by rw[b2.o];simpa using e9:Wr w6 b o6 (B++J0 (JA T P i) s)) (yK y5.o y2.o h8)<|y2.o.trans c8 y5.o.size;clear e9 h8 c8 d2 d4 d5 d6 d7 d0 d1 d3
   go_wp2
   go_roundg (L.length-(i+1))
   ·refine⟨i+1,o6,_,rfl,by omega,by simp,j0,?_,Qa ?_,y4,f9⟩
    ·rw[Qo,b2.o,X0];omega
    rw[Zt,g9.o];have h:=Wo T P t0.length (s:Int) ⟨by omega,by omega⟩ (L.take i) 0 B HC.o;rwa[Zl,GW<|by omega,ZE]at h
   have:=Hk.o;omega
  obtain rfl:i=L.length:=by omega
  have z8:¬(L.length:Int)<L.length:=by omega
  have f5:=Qa (show XT T P t0.length 0 L=some B by have:=HC.o;rwa[VG]at this);have HR:=Qa (show VW T P L=(Qv B,((B.length:Nat):Int),0)by
   unfold VW Jd;rw[x4.o,Xs p6.o,y8.o,f5.o];rfl)
  have b3:=b5;clear HC y2;go_wp2_with fail;refine(Dx _ _ _ _ b3.o).mono ?_;rintro e w7⟨rfl,rfl⟩;go_wp2_with fail;refine(Dj _ _ _ _ b3.o).mono ?_;rintro e w7⟨rfl,rfl⟩;have x0:Qb [] w3 wr:=a1.o.trans y5.o (by intro y hy;simp at hy;subst hy;exact .inr y1.o.1);have h5:=p3.o.kept x0 (by simp);obtain⟨r0,r1,f0,f1,s0,s1⟩:=h5.six (.string ⟨(Qv B).toArray⟩) (B.length:Nat);have g2:=Qa (x1.o.trans x0<|by simp);clear h5 x0;go_wp2_with fail;refine Q5 (v:=Zg (Qv B,((B.length:Nat):Int),0)) (by simp[results,Ib,go_sem,Zg,s0,s1]) rfl ?_;exact⟨by rw[HR.o],g2.o.set2<|.inr<|by simp⟩
namespace K
def KU(a):∀(l:LB)(n:Nat),(n:Int)≤a→((ZU a n l).2=0→((ZU a n l).1:Int)≤a)∧((ZU a n l).2=0∨(ZU a n l).2=3∨(ZU a n l).2=10)
 | [],n,h=>by simp[ZU]
 |false::t,n,h=>by simp[ZU];exact h
 |true::t,n,h=>by
  simp only[ZU]
  split
  ·simp
  exact KU a t (n+1) (by omega)
def kX(a)(bs:LB)(p)(hp:p≤bs.length)(b:(ZU a 0<|bs.drop p).2=0):p+(ZU a 0<|bs.drop p).1+1≤bs.length:=by have:=(kW a (bs.drop p) 0).2.2 b;rw[Y0]at this;omega
def fN(bs many)(h0:0<many):∀(m:Nat)(a b:LN)(p:Nat),a.length=many→p≤bs.length→(∀x∈a,x<many)→(∀x∈b,x<many)→(Ji bs many m a b p).2.2=0→
 (Ji bs many m a b p).1.length=b.length+m∧(Ji bs many m a b p).2.1≤bs.length∧∀x∈(Ji bs many m a b p).1,x<many
 |0,a,b,p,c,hp,ho,hout,hz=>⟨rfl,hp,hout⟩
 |m+1,a,b,p,c,hp,ho,hout,hz=>by
  rw[Ji]at hz ⊢
  by_cases b:(ZU ((many:Int)-1) 0<|bs.drop p).2=0
  ·have:=(KU ((many:Int)-1) (bs.drop p) 0<|by omega).1 b;have d:(ZU ((many:Int)-1) 0<|bs.drop p).1<a.length:=(by omega);rw[Qg b]at hz ⊢;have e:a.getD (ZU ((many:Int)-1) 0<|bs.drop p).1 0<many:=ho _ (by rw[List.getD,Qj d];exact XV d);obtain⟨f,g,h⟩:=fN bs many h0 m _ _ _ (by rwa[DA a _ d]) (kX _ bs p hp b) (fun x e=>ho x<|(Gy a _ d x).1 e) (fun x a=>by
    rcases Q6.1 a with c|c
    ·exact hout x c
    rwa[Za.1 c]) hz
   rw[Qo]at f;exact⟨by simpa[Ja,BY 1 m]using f,g,h⟩
  rw[Qf b]at hz;rcases(KU ((many:Int)-1) (bs.drop p) 0<|by omega).2 with a|a|a
  ·exact absurd a b
  ·rw[a]at hz;simp at hz
  rw[a]at hz;simp at hz
def Qaq(n N):∀(f:Nat)(QV:LI)(d:Int)(p:Nat)(l:LB),l.length≤f→p+l.length=N→QV.length≤n→(XM n QV d p l).2.2=0→(XM n QV d p l).1.length=n∧(XM n QV d p l).2.1≤N:=by
 intro f
 induction f with
 |zero=>
  intro QV d p l c b ha a;have:l=[]:=by cases l<;>simp_all
  subst this
  by_cases e:n≤QV.length
  ·rw[Kf _ _ _ _ _ e];exact⟨by simp only;omega,by simp at b ⊢;omega⟩
  by_cases hb:d<1∨20<d
  ·rw[ND _ _ _ _ _ (by omega) hb]at a;simp at a
  rw[NE _ _ _ _ (by omega) hb]at a;simp at a
 |succ f ih=>
  intro QV d p l c b ha a
  by_cases e:n≤QV.length
  ·rw[Kf _ _ _ _ _ e];exact⟨by simp only;omega,by simp only;omega⟩
  by_cases hb:d<1∨20<d
  ·rw[ND _ _ _ _ _ (by omega) hb]at a;simp at a
  match l,c,b,a with
  | [],c,b,a=>rw[NE _ _ _ _ (by omega) hb]at a;simp at a
  |false::r,c,b,a=>rw[NF _ _ _ _ _ (by omega) hb]at a ⊢;exact ih _ _ _ _ (by simpa using c) (by simp at b;omega) (by simp;omega) a
  | [true],c,b,a=>rw[cJ _ _ _ _ (by omega) hb]at a;simp at a
  |true::false::r,c,b,a=>rw[XM,Qf<|by omega,Qf hb]at a ⊢;exact ih _ _ _ _ (by simp at c;omega) (by simp at b;omega) (by omega) a
  |true::true::r,c,b,a=>rw[XM,Qf<|by omega,Qf hb]at a ⊢;exact ih _ _ _ _ (by simp at c;omega) (by simp at b;omega) (by omega) a
def Qam(bs at_ n)(h:(Ju bs at_ n).2.2=0):(Ju bs at_ n).1.length=n.toNat∧(Ju bs at_ n).2.1≤bs.length:=by
 unfold Ju at h ⊢
 split at h
 ·simp at h
 rename_i o
 split at h
 ·simp at h
 rename_i q;rw[Qf o,Qf q];exact Qaq n.toNat bs.length _ [] _ _ _ (Ql _) (by rw[Y0];omega) (by simp) h
end K
namespace K
end K
def Zy(w:WD)(F:LN)(c:LV)(T:List LI):Prop:=
 c.length=T.length∧∀(b:Nat)(d:VL)(a:LI),c[b]?=some d→T[b]?=some a→∃c b,d=.slice c a.length b∧a.length≤b∧b≤maxLen∧∀b,Qb F w b→Qp b 1 c a.length (QM a)
def Zy.step{w c F F2 b T}(a:Zy w F b T)(hk:Qb F w c)(i:QP w.heap.size F F2):Zy c F2 b T:=
 ⟨a.1,fun j l k d e=>by obtain⟨b,c,f,g,h,h6⟩:=a.2 j l k d e;exact⟨b,c,f,g,h,fun a hw=>h6 a<|hk.trans hw i⟩⟩
def Zy.kZ{w b F a T}(c:Zy w F a T)(hk:Qb [] w b):Zy b F a T:=c.step (hk.mono<|by simp)<|QP.refl _ _
def Zy.nil(w F):Zy w F [] []:=⟨rfl,fun a a a a=>by simp at a⟩
def Zy.snoc{w0 w:WD}{F g T}(e:Zy w F g T)(j:∀x∈F,x<w0.heap.size){b c t}(i:Qh w 3 (.slice b t.length c) (QM t))(hf:Qs w0.heap.size (fZ b)):
 Zy w F (g++[.slice b t.length c]) (T++[t]):=by
 refine⟨by simp[e.1],fun h l k a d=>?_⟩;rcases Xq h g.length with f|f
 ·rw[Xp f]at a;rw[Xp<|by rwa[←e.1]]at d;exact e.2 h l k a d
 rw[Zx f]at a;rw[Zx<|by rwa[←e.1]]at d;have h0:h-g.length=0:=by have:=(Qz.1 a).1;simp at this;omega
 rw[h0]at a;rw[←e.1,h0]at d;simp at a d;subst a d;obtain⟨a2,c2,a,k1,k2,-,-⟩:=i.sees;rw[Xk]at a k1;injection a with a e2 e3;subst e3;refine⟨b,c,rfl,k1,k2,fun a hw=>?_⟩;exact(i.kept hw (fun x a d=>by rw[XK]at a;have:=hf x a;have:=j x d;omega)).sZ
def Zy.seesM{w w' F b T}(c:Zy w F b T)(hk:Qb F w w'){a n}(hs:Qp w' 1 a n b):Xw w' a n (T.map QM):=by
 refine⟨b,hs,by rw[QH];exact c.1,fun d g b f b=>?_⟩;rw[ZD]at b;cases ht:T[d]? with
 |none=>rw[ht]at b;cases b
 |some t=>rw[ht]at b;injection b with b;subst b;obtain⟨b,e,rfl,k1,k2,k3⟩:=c.2 d g t f ht;rw[Xk];exact⟨b,e,rfl,k3 w' hk,k1,k2⟩
def Bj(w:WD)(F:LN)(a:OA)(n:Nat)(xs:LV):Prop:=∀b,Qb F w b→Qp b 1 a n xs
def Bj.step{w b F F2 a n xs}(c:Bj w F a n xs)(hk:Qb F w b)(d:QP w.heap.size F F2):Bj b F2 a n xs:=fun b hw=>c b<|hk.trans hw d
def Yh(R:List LI × LN × Nat × Nat)(w:WD)(e:Ending)(w':WD):Prop:=
 ∃b d a c,e=.returned (.tuple #[QZ b R.1.length d a R.2.1.length c,(R.2.2.1:Nat),(R.2.2.2:Nat)])∧Xv w' b a d c R.1 (R.2.1.map fun a:Nat=>(a:Int))∧Qb [] w w'
def Yh.err{w w' e x R}(a:R=([],[],0,x))(b:e=.returned (.tuple #[QZ none 0 0 none 0 0,(0:Int),(x:Nat)]))(hk:Qb [] w w'):Yh R w e w':=by subst a;exact⟨none,0,none,0,b,Xv.nil _,hk⟩
def OZ{bs at_ n}(a:at_<0∨(bs.length:Int)<at_∨n<3∨258<n):Uy bs at_ n=([],[],0,2):=by unfold Uy;rw[Qg a]
def Qfq{w wr m j d i k s a q f b c h g C e T t}(y:Qh wr 51 (.slice a i c) e)(E:Zy wr (w.heap.size::d::fZ a) e T)(B:Bj wr (w.heap.size::d::fZ a) q k (Qi C))(r:Qe wr d 255 [.slice a i c,s])(u:Qe wr w.heap.size 255 [.slice none 0 0,.slice none 0 0])(hap:Qq (fZ a) [w.heap.size,d])(D:Qb [] w wr)(x:Qs w.heap.size (fZ a))(l:w.heap.size<d)(n:Qb [] wr m)(H:Qh m 3 (.slice b t.length g) (QM t))(F:Qs wr.heap.size (fZ b))(z:Qh j 51 (.slice f (e.length+1) h) (e++[.slice b t.length g]))(o:Qb (Qd<|.slice a i c) m j)(l:QP m.heap.size (Qd<|.slice a i c) (Qd<|.slice f (e.length+1) h)):
 Qh (j.setCell ⟨d,0,none⟩<|.slice f (i+1) h) 51 (.slice f (i+1) h) (e++[.slice b t.length g])∧Zy (j.setCell ⟨d,0,none⟩<|.slice f (i+1) h) (w.heap.size::d::fZ f) (e++[.slice b t.length g]) (T++[t])∧
  Bj (j.setCell ⟨d,0,none⟩<|.slice f (i+1) h) (w.heap.size::d::fZ f) q k (Qi C)∧Qe (j.setCell ⟨d,0,none⟩<|.slice f (i+1) h) d 255 [.slice f (i+1) h,s]∧
  Qe (j.setCell ⟨d,0,none⟩<|.slice f (i+1) h) w.heap.size 255 [.slice none 0 0,.slice none 0 0]∧Qq (fZ f) [w.heap.size,d]∧Qb [] w (j.setCell ⟨d,0,none⟩<|.slice f (i+1) h)∧Qs w.heap.size (fZ f):=by
 have e:=y.len;rw[e]at z l;rw[XK]at o l;rw[XK]at l;have s:=r.kept n (by simp);have v:=u.kept n (by simp);have q:d∉fZ a:=fun k=>hap d k (by simp)
 have G:w.heap.size∉fZ a:=fun k=>hap _ k (by simp)
 have hlt:∀g∈w.heap.size::d::fZ a,g<wr.heap.size:=by
  intro g e;rcases QE.1 e with rfl|e
  ·exact u.lt
  rcases QE.1 e with rfl|e
  ·exact r.lt
  exact y.lt g (by rwa[XK])
 have y:=s.kept o q;have A:=v.kept o G;have q:Qb [d] j (j.setCell ⟨d,0,none⟩<|.slice f (i+1) h):=(Qc [d] j).setCell (p:=d) (by simp) _;have u:Qb (w.heap.size::d::fZ a) m (j.setCell ⟨d,0,none⟩<|.slice f (i+1) h):=(o.mono (by intro g e;simp[e])).trans q (by intro g e;simp at e;subst e;left;simp);have r:QP m.heap.size (w.heap.size::d::fZ a) (w.heap.size::d::fZ f):=by
  intro g e;rcases QE.1 e with rfl|e
  ·left;simp
  rcases QE.1 e with rfl|e
  ·left;simp
  rcases l g e with h|h
  ·left;simp[h]
  exact .inr h
 have j:Qq (fZ f) [w.heap.size,d]:=by
  intro g e k;rcases l g e with h|h
  ·exact hap g h k
  simp at k;rcases k with rfl|rfl
  ·have:=v.lt;omega
  have:=s.lt;omega
 have d:=D.trans n (by simp);refine⟨z.kept q fun g e k=>?_,((E.kZ n).snoc hlt H F).step u r,(B.step (n.mono<|by simp)<|QP.refl _ _).step u r,y.set 0 _,A.kept q (by simp;omega),j,(d.new o x).trans q (by intro g e;simp at e;subst e;exact .inr<|by omega),x.grow l d.size⟩;rw[XK]at e;exact j g e (by simp at k;simp[k])
