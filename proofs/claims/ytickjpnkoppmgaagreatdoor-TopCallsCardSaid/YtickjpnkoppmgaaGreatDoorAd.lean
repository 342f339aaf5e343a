import Derived.BigQuiet
import Derived.Outline
import Derived.Deep.LoopGhost
import Derived.Deep.DeepCutAuto
import Derived.Laws.BitsAllLaws
import Derived.Laws.IdiomStrings
import Derived.Laws.IdiomCopy
import Derived.Deep.RegionLaw
import Derived.Laws.PanicsMore
import Derived.Test.YtickjpnkoppmgaaGreatDoorProg
import Derived.Test.YtickjpnkoppmgaaGreatDoorAc
import Derived.Test.YtickjpnkoppmgaaGreatDoorAb
set_option linter.all false
set_option maxHeartbeats 400000
set_option maxRecDepth 100000
namespace Go.Proofs.YtickjpnkoppmgaaGreatDoor
open Go.Proofs.Tryz Go.RowKit K
def YL:(prog.info? 5).map (fun i=>(i.zero,i.size,i.bytes))=some (some<|.int .u8 0,1,1):=by kernel_rfl
def Qm(l:List UInt8):List Value:=l.map fun a=>.int .u8 (a.toNat:Int)
def Wr(w:World)(b:Nat)(a:Value)(bs:List Bool):Prop:=
 w.heap[b]?=some (.cells #[a,bs.length] 262 (0,0))∧Qh w 5 a (Qm (Qu bs))∧b∉Qd a
def PS(w0:World)(b v n:Nat)(e:Value)(bs:List Bool)(k:Nat)(i:Value)(w:World):Prop:=
 ∃a d c,a≤n∧k=n-a∧i=.int .i64 ((n:Int)-1-a)∧c=bs++(K.low v n).take a∧Wr w b d c∧Qb (b::Qd e) w0 w∧(∀a∈Qd d,a∈Qd e∨w0.heap.size≤a)
def Qdu(b)(v n:Nat)(o0 bs w)(hn:n≤64)(hv:v<2^n)(hm:bs.length≤1000000000000)(hW:Wr w b o0 bs):
 Calls prog 119 #[.pointer b,.int .u64 v,n] w fun e w'=>e=.returned (0:Int)∧
  ∃o,Wr w' b o (bs++K.low v n)∧Qb (b::Qd o0) w w'∧(∀x∈Qd o,x∈Qd o0∨w.heap.size≤x):=by
 have g1:decide ((n:Int)<0)=false:=by simp
 have g2:decide (64<(n:Int))=false:=by simp;omega
 have hI:PS w b v n o0 bs n (.int .i64<|(n:Int)-1) w:=⟨0,o0,bs,by omega,by omega,by simp,by simp,hW,Qc _ _,fun x hx=>.inl hx⟩;have HW:=Qa hW;clear hW;have Hv:=Qa hv;clear hv;have g5:(decide ((n:Int)<64)&&((v/2^n:Int) != 0))=false:=by
  have:=Nat.div_eq_of_lt Hv.o;have:((v:Int)/2^n)=0:=by exact_mod_cast this
  simp[this]
 have g4:((v/2^n:Int) != 0)=false:=by
  have:=Nat.div_eq_of_lt Hv.o;have:((v:Int)/2^n)=0:=by exact_mod_cast this
  simp[this]
 clear g5;go_enter func119,ntmps119
 go_upto_region 3 with(fail)
 go_cut [26] (fun z6 wc=>z6=.bool false∧w=wc)
 ·rcases(by cases decide ((n:Int)<64)<;>simp:decide ((n:Int)<64)=true∨decide ((n:Int)<64)=false)with g3|g3
  all_goals
   go_wp2
   go_meet;exact⟨rfl,rfl⟩
 obtain⟨rfl,rfl⟩:=hcut
 go_wp2
 go_loopg [7] n (fun k i wr=>PS w b v n o0 bs k i wr)
 ·exact hI
 obtain⟨j,o,y,hj,hk,rfl,x0,⟨hb,h2,hne⟩,h3,h1⟩:=hrel
 by_cases hlt:j<n
 ·have hq:∃q,q=y.length:=⟨_,rfl⟩;obtain⟨q,hq⟩:=hq;have p3:q≤1000000000064:=by rw[hq,x0,Qo,Zn,XZ];omega
  have x2:=Qa x0;clear x0;rw[←hq]at hb;have c0:wr.cell? ⟨b,0,none⟩=some o:=Zt wr b 0 _ _ _ hb;have c1:wr.cell? ⟨b,1,none⟩=some (.int .i64 q):=Zt wr b 1 _ _ _ hb;have f0:=Uc wr b 0 _ _ hb;have f1:=Uc wr b 1 _ _ hb;have Hq:=Qa hq;clear hq;have Hk:=Qa hk;clear hk
  go_upto_if 38 with(fail)
  go_cut [] (fun wc=>∃o1,wc.heap[b]?=some (.cells #[o1,.int .i64 q] 262 (0,0))∧Qh wc 5 o1 (Qm<|Qu<|y++[false])∧b∉Qd o1∧Qb (b::Qd o0) w wc∧(∀x∈Qd o1,x∈Qd o0∨w.heap.size≤x))
  ·by_cases h8:q%8=0
   ·have t8:((q:Int)%8==0)=true:=(by simp;omega);have L0:(Qm<|Qu y).length≤1000000000064:=(by simp only[Qm,QG,J3];rw[←Hq.o];omega);have L1:(Qm<|Qu y).length+1≤maxLen:=(by simp only[maxLen];omega);have L2:((Qm<|Qu y).length+1)*1≤140737488355328:=(by omega);have p4:=h2;generalize y2:Qm (Qu y)=xs at h2 L0 L1 L2;have y4:=Qa y2;clear y2;go_wp2_with ((at_builtin;go_must (refine Fa wr rfl _ _ 88 rfl 5 (.int .u8 0) 1 ZW YL rfl o (.int .u8 0) xs rfl rfl rfl rfl h2 L1 L2 ?_);intro g cap w1 y9 h5 x5;have d0:=h5.cZ c0 hne;have d1:=h5.cZ c1 hne;have e0:=(h5.oZ c0 hne).trans f0;have e1:=(h5.oZ c1 hne).trans f1;have y5:=h5.heap hb hne));go_meet;have x3:¬b=g:=by
     rintro rfl;rcases x5 with h|h
     ·exact hne h
     have:=BB hb;omega
    refine⟨_,FV _ _ _ _ _ _ y5,?_,by simpa[Qd,qo]using x3,?_,?_⟩
    ·have e:Qm (Qu<|y++[false])=xs++[.int .u8 0]:=(by rw[eW,←Hq.o,Qg h8,←y4.o];simp[Qm]);rw[e];exact y9.setCell (by simpa[Qd,qo]using x3) _
    ·refine Qb.setCell (h3.trans h5 fun x hx=>?_) (by simp) _;rcases h1 x hx with h|h
     ·exact .inl (by simp[h])
     exact .inr h
    intro x hx;obtain rfl:x=g:=(by simpa[Qd,qo]using hx);rcases x5 with h|h
    ·exact h1 _ h
    exact .inr<|QU h3.size h
   have t8:((q:Int)%8==0)=false:=(by simp;omega);go_wp2_with (fail);go_meet;refine⟨o,hb,?_,hne,h3,h1⟩;rwa[eW,←Hq.o,Qe h8]
  obtain⟨o1,hb,h2,hne,h3,h1⟩:=hcut;have c0:wc.cell? ⟨b,0,none⟩=some o1:=Zt wc b 0 _ _ _ hb;have c1:wc.cell? ⟨b,1,none⟩=some (.int .i64 q):=Zt wc b 1 _ _ _ hb;have f0:=Uc wc b 0 _ _ hb;have f1:=Uc wc b 1 _ _ hb;have x1:bits BinOp.and IntKind.u64 ((v:Int)/2^(n-1-j)) 1=((v.testBit<|n-1-j).toNat:Int):=by have e:((v:Int)/2^(n-1-j))=((v/2^(n-1-j):Nat):Int):=(by norm_cast);rw[e,show(1:Int)=((1:Nat):Int)from rfl,u64_and_nat _ _ (by have:=DY v<|2^(n-1-j);have:=Hv.o;have:=Y7 (n:=2) (by omega) hn;omega)<|by omega,nat_mask1,Nat.testBit_eq_decide_div_mod_eq];have:=JF (v/2^(n-1-j)) (by decide:0<2);rcases(by omega:v/2^(n-1-j)%2=0∨v/2^(n-1-j)%2=1)with h|h<;>rw[h]<;>rfl
  have x9:(bs++(K.low v n).take (j+1)).length=q+1:=by
   have:=Hq.o;rw[x2.o]at this;rw[Qo,Zn,XZ]at*
   omega
  have y1:y++[v.testBit<|n-1-j]=bs++(K.low v n).take (j+1):=by rw[x2.o,Qal v n j hlt,QN]
  have HL:=Qa x9;clear x9;have HT:=Qa y1;clear y1
  by_cases h4:v.testBit (n-1-j)=true
  ·have tb:(bits BinOp.and IntKind.u64 ((v:Int)/2^(n-1-j)) 1==1)=true:=(by rw[x1,h4];rfl);clear x1;have x8:(Qm<|Qu<|y++[false]).length=(q+8)/8:=(by simp only[Qm,QG,J3,Qo,QZ,Yg];have:=Hq.o;omega);obtain⟨g,cap,rfl,z8,p0,x4,x6,y0⟩:=h2.open (by omega);have y6:wc.cell? ⟨g,q/8,none⟩=some (.int .u8 (Yw y (q/8):Nat)):=(by refine x4 _ _ ?_;have e:=Gm (y++[false]) (q/8) (by rw[Qo,←Hq.o];simp;omega);rw[Ic]at e;have hlt:=LX y<|q/8;simp only[Qm,ZJ,e,Av];simp[XQ hlt]);have hB:=LX y<|q/8;have h9:=Qcm y;rw[←Hq.o]at h9;have p2:(q:Int)/8<((Qm<|Qu<|y++[false]).length:Int):=(by omega);generalize Yw y (q/8)=x at y6 hB h9;have HP:=Qa h9;clear h9;clear x4;have y3:=Qa y0;clear y0;have z7:=Qa x8;clear x8;have p1:=x6<|q/8;clear x6;have x7:¬g=b:=(by rintro rfl;exact hne<|by simp[Qd,qo]);have w1:IntKind.i64.wrap ((q:Int)/8)=(q:Int)/8:=(by exact Q2 _<|by omega);obtain⟨w2,w3⟩:(0:Int)≤(q:Int)/8∧((q:Int)/8).toNat=q/8:=by omega
   go_wp2
   go_region
   all_goals
    go_wp2
    go_roundg (n-(j+1))
    case measure=>have:=Hk.o;omega
    have z1:Qu (y++[true])=(Qu<|y++[false]).set (q/8) (UInt8.ofNat<|x|||(128/2^(q%8))):=HP.o;have y7:(bits BinOp.or IntKind.u8 (x:Int)<|128/2^(q%8))=((x|||(128/2^(q%8)):Nat):Int):=(by have e:((128:Int)/2^(q%8))=((128/2^(q%8):Nat):Int):=(by norm_cast);rw[e,u8_or_nat _ _ hB (by have:=DY 128<|2^(q%8);omega)]);have y8:x|||(128/2^(q%8))<256:=Nat.or_lt_two_pow (n:=8) hB (by have:=DY 128<|2^(q%8);omega);refine⟨j+1,_,_,by omega,rfl,by go_num,rfl,⟨?_,?_,hne⟩,?_,h1⟩
    ·rw[HL.o];exact FV _ _ _ _ _ _<|(heap_setCell_other _ _ _ _ fun h=>x7 h.symm).trans hb
    ·rw[←HT.o,h4,z1,y7];have e:Qm ((Qu<|y++[false]).set (q/8)<|UInt8.ofNat<|x|||(128/2^(q%8)))=(Qm<|Qu<|y++[false]).set (q/8) (.int .u8 ((x|||(128/2^(q%8)):Nat):Int)):=(by have e8:(UInt8.ofNat<|x|||(128/2^(q%8))).toNat=x|||(128/2^(q%8)):=(by rw[US];exact XQ y8);simp only[Qm,Bj,e8]);rw[e];have:=y3.o (q/8)<|.int .u8 ((x|||(128/2^(q%8)):Nat):Int);exact(Qh.setCell (p:=⟨b,1,none⟩) (by simpa[Qh]using this) (by simp only[Qd,qo,Fr,Q8];exact fun h=>x7 h.symm) _).drew
    exact((h3.setCell (by rcases h1 g (by simp[Qd,qo])with h|h;exact .inl (by simp[h]);exact .inr h) _).setCell (by simp) _).drew
  have tb:(bits BinOp.and IntKind.u64 ((v:Int)/2^(n-1-j)) 1==1)=false:=by rw[x1];simp at h4;rw[h4];rfl
  go_wp2
  go_roundg (n-(j+1))
  ·simp only[Bool.not_eq_true]at h4;refine⟨j+1,_,_,by omega,rfl,by go_num,rfl,⟨?_,?_,hne⟩,h3.setCell (by simp) _,h1⟩
   ·rw[HL.o];exact FV _ _ _ _ _ _ hb
   rw[←HT.o,h4];exact h2.setCell hne _
  have:=Hk.o;omega
 obtain rfl:j=n:=by omega
 go_wp2
 go_ret;refine⟨rfl,o,?_,h3,h1⟩;have e:(K.low v j).take j=K.low v j:=Zd (by rw[XZ];omega);rw[←e,←x0];exact⟨hb,h2,hne⟩
def Qbi(w):Calls prog 118 #[] w fun e w'=>e=.returned (.pointer w.heap.size)∧w'=w.alloc (.cells #[.slice none 0 0,(0:Int)] 262):=by
 go_enter func118,ntmps118
 go_wp2
 go_ret;exact⟨rfl,rfl⟩
def Wr.new(w:World):Wr (w.alloc<|.cells #[.slice none 0 0,(0:Int)] 262) w.heap.size (.slice none 0 0) []:=
 ⟨Xe w _,Qh.nil _ _,by simp[Qd,qo]⟩
def Wr.kept{S w w' b c bs}(a:Wr w b c bs)(hk:Qb S w w')(ha:Qr (b::Qd c) S):Wr w' b c bs:=
 ⟨hk.heap a.1<|ha b<|by simp,a.2.1.kept hk fun d c=>ha d<|by simp[c],a.2.2⟩
def Wr.lt{w b a bs}(c:Wr w b a bs):∀x∈b::Qd a,x<w.heap.size:=by
 intro x a;rcases QB.1 a with rfl|a
 ·exact BB c.1
 exact c.2.1.lt x a
def nI(w:World)(e:Ending)(w':World):Prop:=∃a,e=.returned (.pointer (some ⟨a,0,none⟩))∧Wr w' a (.slice none 0 0) []∧Qb [] w w'∧Qs w.heap.size (a::Qd (.slice none 0 0))
def Dv(w):Calls prog 118 #[] w (nI w):=
 (Qbi w).mono fun a a ⟨a,hw⟩=>⟨_,a,by rw[hw];exact Wr.new w,by rw[hw];exact(Qc _ _).alloc _,by simp[Qs,Qd,qo]⟩
def oF(w:World)(b:Nat)(c:Value)(bs:List Bool)(e:Ending)(w':World):Prop:=
 e=.returned (0:Int)∧∃a,Wr w' b a bs∧Qb (b::Qd c) w w'∧QT w.heap.size (b::Qd c) (b::Qd a)
def V7(b)(v n:Int)(q bs w)(h4:0≤n)(hn:n≤64)(h5:0≤v)(hv:v.toNat<2^n.toNat)(hm:bs.length≤1000000000000)(hW:Wr w b q bs):
 Calls prog 119 #[.pointer b,.int .u64 v,n] w (oF w b q<|bs++K.low v.toNat n.toNat):=by
 obtain⟨n,rfl⟩:=X5 h4;obtain⟨v,rfl⟩:=X5 h5;refine(Qdu b v n q bs w (by omega) (by simpa using hv) hm hW).mono fun e w' ⟨he,o,y,h2,h3⟩=>⟨he,o,by simpa using y,h2,fun x h=>?_⟩
 rcases QB.1 h with rfl|h
 ·exact .inl (by simp)
 exact(h3 x h).imp (X6 _) id
def Dr(w b c bs)(a:Wr w b c bs):Calls prog 123 #[.pointer b] w fun e w'=>e=.returned bs.length∧w=w':=by
 have c1:w.cell? ⟨b,1,none⟩=some (.int .i64 bs.length):=Zt w b 1 _ _ _ a.1;clear a;go_enter func123,ntmps123
 go_wp2
 go_ret;exact⟨rfl,rfl⟩
def Qg9(w):(convert 88 9<|.slice none 0 0).run prog w=.ok (.string ⟨#[]⟩) w:=by kernel_rfl
def Qh.text{w v l}(h:Qh w 5 v (Qm l)):(convert 88 9 v).run prog w=.ok (.string ⟨l.toArray⟩) w:=by
 rcases h.2 with⟨rfl,q⟩|⟨g,cap,h1,rfl,hb,hg,h5,h3,h4,ht⟩
 ·have:l=[]:=by simpa[Qm]using q
  subst this;exact Qg9 w
 have o:w.ownsRow 0 5 1 (.slice g (Qm l).length cap) (Qm l).length (Qm l):=h;have hl:(Qm l).length=l.length:=by simp[Qm]
 rw[hl]at o ⊢;refine gU w _ _ _ ⟨g,0,none⟩ cap l ZW Uu Xc fun j y=>?_
 rw[YK,Zz,o.cellAt j<|by omega];simp[Qm,y]
def DC(w b c bs)(a:Wr w b c bs):Calls prog 122 #[.pointer b] w fun e w'=>e=.returned (.string ⟨(Qu bs).toArray⟩)∧w=w':=by
 have c0:w.cell? ⟨b,0,none⟩=some c:=Zt w b 0 _ _ _ a.1;have:=Qh.text a.2.1;clear a;go_enter func122,ntmps122
 go_wp2
 go_ret;exact⟨rfl,rfl⟩
def put_nil(v n:Int)(w):Calls prog 119 #[.pointer none,.int .u64 v,n] w fun e w'=>e=.returned (1:Int)∧w=w':=by
 go_enter func119,ntmps119
 go_wp2
 go_ret;exact⟨rfl,rfl⟩
def Rd(w:World)(r a:Nat)(s:ByteArray)(i:Nat):Prop:=
 w.heap[r]?=some (.cells #[.func (.func 213) #[] #[.pointer a],i,(8*s.size:Nat)] 305 (0,0))∧
  w.heap[a]?=some (.cells #[s] 9 (0,0))∧r≠a
def Qbh(s:ByteArray)(i w)(hs:s.size≤1125899906842624)(hi:i≤8*s.size):
 Calls prog 170 #[s,i] w fun e w'=>e=.returned (.pointer (w.heap.size+1:Nat))∧
  w'=(w.alloc<|.cells #[s] 9).alloc (.cells #[.func (.func 213) #[] #[.pointer w.heap.size],i,(8*s.size:Nat)] 305):=by
 have g1:decide ((i:Int)<0)=false:=by simp
 have:decide (8*(s.size:Int)<i)=false:=by simp;omega
 go_enter func170,Sj
 go_wp2
 go_ret;refine⟨rfl,by simp⟩
def Rd.kept{S w w' r a s i}(b:Rd w r a s i)(hk:Qb S w w')(ha:Qr [r,a] S):Rd w' r a s i:=
 ⟨hk.heap b.1<|ha r<|by simp,hk.heap b.2.1<|ha a<|by simp,b.2.2⟩
def Rd.lt{w r a s i}(b:Rd w r a s i):∀x∈[r,a],x<w.heap.size:=by
 intro x a;rcases QB.1 a with rfl|a
 ·exact BB b.1
 rw[Q8.1 a];exact BB b.2.1
def nH(w:World)(s:ByteArray)(i:Nat)(e:Ending)(w':World):Prop:=
 ∃a b,e=.returned (.pointer (some ⟨a,0,none⟩))∧Rd w' a b s i∧Qb [] w w'∧Qs w.heap.size [a,b]
def BD(s:ByteArray)(i:Int)(w:World)(hs:s.size≤1125899906842624)(h0:0≤i)(hi:i.toNat≤8*s.size):
 Calls prog 170 #[s,i] w (nH w s i.toNat):=by
 obtain⟨i,rfl⟩:=X5 h0;simp only[Zw]at hi ⊢;refine(Qbh s i w hs hi).mono fun a a ⟨a,hw⟩=>⟨_,w.heap.size,a,?_,by rw[hw];exact((Qc _ _).alloc _).alloc _,by simp[Qs]⟩
 rw[hw];refine⟨?_,heap_alloc2_old w _ _,by omega⟩;exact heap_alloc2_new w _ _
def IU(s:ByteArray)(i:Int)(w:World)(hs:s.size≤1125899906842624)(hi:i<0∨(8*s.size:Nat)<i):
 Calls prog 170 #[s,i] w fun e w'=>e=.returned (.pointer none)∧w'=w.alloc (.cells #[s] 9):=by
 by_cases a:i<0
 ·have g1:decide ((i:Int)<0)=true:=by simpa using a
  go_enter func170,Sj
  go_wp2
  go_ret;exact⟨rfl,rfl⟩
 have g1:decide ((i:Int)<0)=false:=by simpa using a
 have:decide (8*(s.size:Int)<i)=true:=by simp;omega
 go_enter func170,Sj
 go_wp2
 go_ret;exact⟨rfl,rfl⟩
def rJ(s:ByteArray)(i a:Nat)(w:World)(hs:s.size≤1125899906842624)(hi:i<8*s.size)(b:w.cell? ⟨a,0,none⟩=some (.string s)):
 Calls prog 213 #[i,.pointer a] w fun e w'=>e=.returned (.int .u64 ((X3 s.data.toList i).toNat:Nat))∧w=w':=by
 have a:i/8<s.size:=by omega
 have:(i:Int)/8<(s.size:Int):=by omega
 go_enter func213,ntmps213
 go_wp2
 go_ret;refine⟨fY ?_,rfl⟩;have hb:((s[i/8]'a).toNat:Nat)<256:=(s[i/8]'a).toNat_lt;have b:IntKind.u64.wrap ((s[i/8]'a).toNat:Int)=((s[i/8]'a).toNat:Int):=by rw[JA];omega
 have c:(s.data.toList.getD (i/8) 0)=s[i/8]'a:=by
  have:i/8<s.data.toList.length:=by simpa using a
  rw[List.getD,Qj this];rfl
 unfold X3;rw[b,c,Gz,show((s[i/8]'a).toNat:Int)/2^(7-i%8)=(((s[i/8]'a).toNat/2^(7-i%8):Nat):Int)by norm_cast,show(1:Int)=((1:Nat):Int)from rfl,
  u64_and_nat _ _ (by have:=DY (s[i/8]'a).toNat<|2^(7-i%8);omega) (by omega),nat_mask1]
def Ib(s:ByteArray)(i a:Nat)(x:Int)(w:World)(c:x=(i:Nat))(hs:s.size≤1125899906842624)(hi:i<8*s.size)(b:w.cell? ⟨a,0,none⟩=some (.string s)):
 Calls prog 213 #[x,.pointer a] w fun e w'=>e=.returned (.int .u64 ((X3 s.data.toList i).toNat:Nat))∧w=w':=by
 subst c;exact rJ s i a w hs hi b
def Ei(r b:Nat)(s:ByteArray)(i:Nat)(w:World)(a:Rd w r b s i):Calls prog 222 #[.pointer r] w fun e w'=>e=.returned i∧w=w':=by
 have c1:w.cell? ⟨r,1,none⟩=some (.int .i64 i):=Zt w r 1 _ _ _ a.1;clear a;go_enter func222,ntmps222
 go_wp2
 go_ret;exact⟨rfl,rfl⟩
def FL(c:Array Value)(w:World):(binOp BinOp.eql 303 (.func (.func 213) #[] c) .nilFunc).run prog w=.ok (.bool false) w:=by kernel_rfl
def Qg6(r b:Nat)(s:ByteArray)(i:Nat)(n:Int)(w:World)(a:Rd w r b s i)(c:n<0∨64<n):
 Calls prog 171 #[.pointer r,n] w fun e w'=>e=.returned (.tuple #[.int .u64 0,(2:Int)])∧w=w':=by
 have c0:w.cell? ⟨r,0,none⟩=some (.func (.func 213) #[] #[.pointer b]):=Zt w r 0 _ _ _ a.1;clear a;have:=FL #[.pointer b] w
 by_cases a:n<0
 ·have g1:decide (n<0)=true:=by simpa using a
  go_enter func171,LA
  go_wp2
  go_ret2;exact⟨rfl,rfl⟩
 have g1:decide (n<0)=false:=by simpa using a
 have:decide (64<n)=true:=by simp;omega
 go_enter func171,LA
 go_wp2
 go_ret2;exact⟨rfl,rfl⟩
def Qg8(r b:Nat)(s:ByteArray)(i n:Nat)(w:World)(a:Rd w r b s i)(hs:s.size≤1125899906842624)(hi:i≤8*s.size)(c:n≤64)(c:8*s.size<i+n):
 Calls prog 171 #[.pointer r,n] w fun e w'=>e=.returned (.tuple #[.int .u64 0,(10:Int)])∧∃m,w'=w.drewN m:=by
 have c0:w.cell? ⟨r,0,none⟩=some (.func (.func 213) #[] #[.pointer b]):=Zt w r 0 _ _ _ a.1;have c1:w.cell? ⟨r,1,none⟩=some (.int .i64 i):=Zt w r 1 _ _ _ a.1;have c2:w.cell? ⟨r,2,none⟩=some (.int .i64 (8*s.size:Nat)):=Zt w r 2 _ _ _ a.1;clear a;have:=FL #[.pointer b] w;have g1:decide ((n:Int)<0)=false:=by simp
 have:decide (64<(n:Int))=false:=by simp;omega
 have:IntKind.i64.wrap (8*(s.size:Int)-i)=8*(s.size:Int)-i:=Q2 _ (by omega);have g3:8*(s.size:Int)-i<n:=by omega
 go_enter func171,LA
 go_wp2
 go_quiet (fail)
 go_wp2
 go_ret2;exact⟨rfl,_,rfl⟩
def pH(w:World)(s:ByteArray)(i n:Nat)(k:Nat)(v c:Value)(wr:World):Prop:=
 ∃a b,a≤n∧k=n-a∧c=.int .i64 a∧v=.int .u64 (K.num (QS (Qk s.data.toList) i a):Nat)∧wr=w.drewN b
def Qg7(r q:Nat)(s:ByteArray)(i n:Nat)(w:World)(h:Rd w r q s i)(hs:s.size≤1125899906842624)(hn:n≤64)(hl:i+n≤8*s.size):
 Calls prog 171 #[.pointer r,n] w fun e w'=>e=.returned (.tuple #[.int .u64 (K.num (QS (Qk s.data.toList) i n):Nat),(0:Int)])∧
  Rd w' r q s (i+n)∧Qb [r] w w':=by
 have c0:w.cell? ⟨r,0,none⟩=some (.func (.func 213) #[] #[.pointer q]):=Zt w r 0 _ _ _ h.1;have c1:w.cell? ⟨r,1,none⟩=some (.int .i64 i):=Zt w r 1 _ _ _ h.1;have c2:w.cell? ⟨r,2,none⟩=some (.int .i64 (8*s.size:Nat)):=Zt w r 2 _ _ _ h.1;have cq:w.cell? ⟨q,0,none⟩=some (.string s):=Zt w q 0 _ _ _ h.2.1;have f1:=Uc w r 1 _ _ h.1;have H:=Qa h;clear h;have x1:=FL #[.pointer q] w;have g1:decide ((n:Int)<0)=false:=by simp
 have g2:decide (64<(n:Int))=false:=by simp;omega
 have w1:IntKind.i64.wrap (8*(s.size:Int)-i)=8*(s.size:Int)-i:=Q2 _ (by omega);have g3:(n:Int)≤8*(s.size:Int)-i:=by omega
 go_enter func171,LA
 go_wp2
 go_quiet (fail)
 go_wp2
 go_loopg [6,35] n (fun k v c wr=>pH w s i n k v c wr)
 ·exact⟨0,_,by omega,by omega,rfl,by rw[NF];rfl,rfl⟩
 obtain⟨j,m,hj,hk,rfl,rfl,rfl⟩:=hrel;have Hk:=Qa hk;clear hk
 by_cases hlt:j<n
 ·have h8:=fJ s.data.toList i j (by simp only[Rf];show i+j<8*s.size;omega);have h4:=Ke (Qk s.data.toList) i j (by rw[Yq];simp only[Rf];show i+j≤8*s.size;omega);have h5:=Dw<|QS (Qk s.data.toList) i j;rw[h4]at h5;have h9:K.num (QS (Qk s.data.toList) i j)≤9223372036854775807:=by have:2^j≤2^63:=Y7 (by decide) (by omega);omega
  have o:K.num (QS (Qk s.data.toList) i<|j+1)=2*K.num (QS (Qk s.data.toList) i j)+(X3 s.data.toList<|i+j).toNat:=by rw[h8,Gj]
  have x0:=DK<|X3 s.data.toList<|i+j;have y:=Qfi (K.num<|QS (Qk s.data.toList) i j)<|X3 s.data.toList<|i+j;generalize K.num (QS (Qk s.data.toList) i j)=V at o h9 y;have⟨HX,HO⟩:=qb o y;clear o h8 h4 h5 y
  go_wp2
  go_quiet ((go_at_call 213;exact Kf<|Ib s (i+j) q _ _ (by omega) hs (by omega) cq))
  go_wp2
  go_roundg (n-(j+1))
  ·have hV:V<18446744073709551616:=(by omega);have e:bits BinOp.or IntKind.u64 ((V:Int)*2) ((X3 s.data.toList<|i+j).toNat:Int)=((2*V+(X3 s.data.toList<|i+j).toNat:Nat):Int):=(by rw[show(V:Int)*2=((V*2:Nat):Int)by omega,u64_or_nat _ _ (by omega)<|by omega,HO.o]);exact⟨j+1,_,by omega,rfl,by go_num,by rw[e,HX.o],rfl⟩
  have:=Hk.o;omega
 obtain rfl:j=n:=by omega
 go_wp2
 go_ret2;obtain⟨h1,h2,h3⟩:=H.o;refine⟨rfl,⟨?_,?_,h3⟩,?_⟩
 ·have:=FV (w.drewN m) r 1 _ _ (i+j:Nat) h1;simpa using this
 ·exact(heap_setCell_other (w.drewN m) ⟨r,1,none⟩ q _ fun h=>h3 h.symm).trans h2
 exact((Qc _ _).drewN m).setCell (by simp) _
def Qhp(r a:Nat)(s:ByteArray)(i:Nat)(n:Int)(w:World)(b:Rd w r a s i)(c:n<0):
 Calls prog 223 #[.pointer r,n] w fun e w'=>e=.returned (.tuple #[(0:Int),(2:Int)])∧w=w':=by
 have c0:w.cell? ⟨r,0,none⟩=some (.func (.func 213) #[] #[.pointer a]):=Zt w r 0 _ _ _ b.1;clear b;have:=FL #[.pointer a] w;have g1:decide (n<0)=true:=by simpa using c
 go_enter func223,ntmps223
 go_wp2
 go_ret2;exact⟨rfl,rfl⟩
def qG(w:World)(s:ByteArray)(i:Nat)(b:Int)(k:Nat)(c:Value)(wr:World):Prop:=
 ∃a d,i+a≤8*s.size∧k=8*s.size-i-a∧c=.int .i64 a∧wr=w.drewN d∧ZR b 0 ((Qk s.data.toList).drop i)=ZR b a ((Qk s.data.toList).drop (i+a))
def Tf(r a:Nat)(s:ByteArray)(i:Nat)(w:World)(p:Nat × Nat)(e:Ending)(w':World):Prop:=
 e=.returned (.tuple #[p.1,p.2])∧Rd w' r a s (if p.2=0 then i+p.1+1 else i)∧Qb [r] w w'
def Qhr(r c:Nat)(s:ByteArray)(i:Nat)(e:Int)(w:World)(d:Rd w r c s i)(hs:s.size≤1125899906842624)(hi:i≤8*s.size)(h0:0≤e):
 Calls prog 223 #[.pointer r,e] w (Tf r c s i w<|ZR e 0<|(Qk s.data.toList).drop i):=by
 have c0:w.cell? ⟨r,0,none⟩=some (.func (.func 213) #[] #[.pointer c]):=Zt w r 0 _ _ _ d.1;have c1:w.cell? ⟨r,1,none⟩=some (.int .i64 i):=Zt w r 1 _ _ _ d.1;have c2:w.cell? ⟨r,2,none⟩=some (.int .i64 (8*s.size:Nat)):=Zt w r 2 _ _ _ d.1;have k:w.cell? ⟨c,0,none⟩=some (.string s):=Zt w c 0 _ _ _ d.2.1;have:=Uc w r 1 _ _ d.1;have g:=Qa d;clear d;have:=FL #[.pointer c] w;have a:s.data.toList.length=s.size:=by simp only[Rf];rfl
 have h:=Qa a;clear a;go_enter func223,ntmps223
 go_wp2
 go_loopg [6] (8*s.size-i) (fun b a wr=>qG w s i e b a wr)
 ·exact⟨0,0,by omega,by omega,rfl,rfl,rfl⟩
 obtain⟨a,b,b,hk,rfl,rfl,b⟩:=hrel;have⟨m,j⟩:=qb hk b;clear hk b;have:IntKind.i64.wrap ((i:Int)+a)=(i:Int)+a:=Q2 _ (by omega)
 by_cases hlt:i+a<8*s.size
 ·have o:(i:Int)+a<8*(s.size:Int):=by omega
  go_wp2
  go_quiet (fail)
  go_wp2
  by_cases hb:X3 s.data.toList (i+a)=true
  ·have n:(((X3 s.data.toList<|i+a).toNat:Int)==0)=false:=(by rw[hb];rfl);have b:=Qhs e a (i+a) s.data.toList (by rw[h.o];exact hlt) hb;rw[←j.o]at b;have f:=Qa b;clear b hb
   by_cases l:(a:Int)=e
   ·subst l;go_quiet ((go_at_call 213;exact Kf<|Ib s (i+a) c _ _ (by omega) hs (by omega) k))
    go_wp2
    go_ret2;have:=f.o;simp only[Co]at this;rw[this];exact⟨rfl,g.o,(Qc _ _).drewN _⟩
   have:((a:Int)==e)=false:=(by simpa using l);go_quiet ((go_at_call 213;exact Kf<|Ib s (i+a) c _ _ (by omega) hs (by omega) k))
   go_wp2
   go_roundg (8*s.size-i-(a+1))
   ·exact⟨a+1,_,by omega,rfl,by go_num,rfl,by have:=f.o;rw[Qe l]at this;exact this⟩
   have:=m.o;omega
  have hb:X3 s.data.toList (i+a)=false:=by simpa using hb
  have n:(((X3 s.data.toList<|i+a).toNat:Int)==0)=true:=by rw[hb];rfl
  have b:=Qht e a (i+a) s.data.toList (by rw[h.o];exact hlt) hb;rw[←j.o]at b;have f:=Qa b;clear b hb;go_quiet ((go_at_call 213;exact Kf<|Ib s (i+a) c _ _ (by omega) hs (by omega) k))
  go_wp2
  go_ret2;rw[f.o];obtain⟨m,n,k⟩:=g.o;refine⟨rfl,⟨?_,?_,k⟩,?_⟩
  ·have l:Value.int .i64 ((i:Int)+(a+1))=.int .i64 ((i+a+1:Nat):Int):=(by first|go_num|(congr 1;omega));rw[l];exact FV (w.drewN _) r 1 _ _ ((i+a+1:Nat):Int) m
  ·exact(heap_setCell_other (w.drewN _) ⟨r,1,none⟩ c _ fun d=>k d.symm).trans n
  exact((Qc _ _).drewN _).setCell (by simp) _
 have o:8*(s.size:Int)≤i+a:=by omega
 have b:=Qhq e a (i+a) s.data.toList (by rw[h.o];omega);rw[←j.o]at b;have f:=Qa b;clear b
 go_wp2
 go_quiet (fail)
 go_wp2
 go_ret2;rw[f.o];exact⟨rfl,g.o,((Qc _ _).drewN _).drewN _⟩
def XR:(prog.info? 3).map (fun i=>(i.zero,i.size,i.bytes))=some (some<|.int .i64 0,1,8):=by kernel_rfl
def FC(l:List Bool):List Value:=l.map fun a=>.int .i64 (a.toNat:Nat)

def Qn.part{w:World}{a:Option Addr}{n:Nat}{xs:List Value}(e:Qn w 1 a n xs)(i m:Nat)(hi:i+m≤n){a':Option Addr}(ha:0<m→∀b c,a=some ⟨b,c,none⟩→a'=some ⟨b,c+i,none⟩):
 Qn w 1 a' m ((xs.drop i).take m):=by
 have:=e.1;refine⟨by simp;omega,fun f j d=>?_⟩;have g:f<m:=by have:=(Qz.1 d).1;simp at this;omega
 rw[Bi,Qg g,Uq]at d;obtain⟨b,c,h,g⟩:=e.2 (i+f) j d;exact⟨b,c+i,ha (by omega) b c h,by rwa[Jj]⟩
def QK(xs:List Int):List Value:=xs.map (Value.int .i64)
def Xk(xs:List Int):(QK xs).length=xs.length:=by simp[QK]
def ED(xs:List Int)(i:Nat)(x:Int)(a:xs[i]?=some x):(QK xs)[i]?=some (.int .i64 x):=by simp[QK,a]
def Qn.lit{w0:World}{news:List Value}{e:TypeId}{m:Nat}(a:news.length=m):Qn (w0.alloc<|.cells news.toArray e) 1 w0.heap.size m news:=by refine⟨by omega,fun d a c=>⟨_,_,rfl,?_⟩⟩;have a:=Xe w0<|.cells news.toArray e;have b:=Zt _ w0.heap.size d _ _ _ a;rw[Zz,b];simpa using c
def Qn.int{w:World}{b a n i:Nat}{x:Int}{xs:List Int}(c:Qn w 1 (some ⟨b,a,none⟩) n (QK xs))(e:xs[i]?=some x):w.cell? ⟨b,a+i,none⟩=some (.int .i64 x):=by obtain⟨a,a,a,d⟩:=c.2 i _<|ED xs i x e;injection a with a;injection a with a h2;subst a h2;exact d
def UL{P:Program}(w0:World){w:World}{g:Array Oper}{h:List Oper}{d:Oper}{a:Act}{f:Exit→Act→World→Prop}
 (k:d.guard=none)(s x:Operand)(t:TypeId)(p:d.op=Op.call {callee:=Callee.builtin Builtin.append,args:=#[s,x],argTypes:=#[t,t]})
 (e:TypeId)(z:Value)(bytes:Nat)(r:P.underlying t=some (.slice e))(T:(P.info? e).map (fun i=>(i.zero,i.size,i.bytes))=some (some z,1,bytes))(hz:z.cells.size=1)
 (v:Value)(xs news:List Value)(m:Nat)(hs:a.eval s=v)(c:a.eval x=.slice w0.heap.size m m)(hw:w=w0.alloc (.cells news.toArray e))(l:news.length=m)
 (o:∀u∈news,u.oneCell'=true)
 (q:Qh w0 e v xs)(n:xs.length+m≤maxLen)(hb:(xs.length+m)*bytes≤140737488355328)
 (j:∀a' b w',Qh w' e (.slice a' (xs.length+m) b) (xs++news)→Qb (Qd v) w0 w'→QT w0.heap.size (Qd v) (Qd<|.slice a' (xs.length+m) b)→
  wpList P g f h (a.put d.dst<|.slice a' (xs.length+m) b) w'):
 wpList P g f (d::h) a w:=by
 subst hw;have h:Qb (Qd v) w0 (w0.alloc<|.cells news.toArray e):=(Qc _ _).alloc _;refine CH k s x t p e z bytes r T hz v xs news _ m m hs c o (World.ownsRow.alloc q _) (Qn.lit l) (fun d=>by cases d) n hb fun a' b w' d f g=>j a' b w' d ?_ ?_
 ·exact h.trans f fun x c=>.inl c
 intro x c;rcases g x c with b|b
 ·exact .inl b
 exact .inr (by simp at b;omega)
def QI(w:World)(g:Nat)(xs:List Value):Prop:=
 ∃(b:Array Value)(a:TypeId)(c:Nat × Nat),w.heap[g]?=some (.cells b a c)∧xs.length≤b.size∧(∀(a:Nat)(d:Value),xs[a]?=some d→b[a]?=some d)∧(∀a,a<xs.length→¬(c.1≤a∧a<c.2))
def QI.cell{w:World}{g:Nat}{xs:List Value}(c:QI w g xs){i:Nat}{u:Value}(hi:xs[i]?=some u):w.cell? ⟨g,i,none⟩=some u:=by obtain⟨a,f,b,e,d,d,hf⟩:=c;rw[Zt w g i a f b e];exact d i u hi
def QI.free{w:World}{g:Nat}{xs:List Value}(a:QI w g xs){i:Nat}(hi:i<xs.length):w.frozen? ⟨g,i,none⟩=false:=by obtain⟨b,b,⟨lo,up⟩,b,c,c,hf⟩:=a;have:=hf i hi;simp only[World.frozen?,b];simp at this ⊢;omega
def QI.set{w:World}{g:Nat}{xs:List Value}(h:QI w g xs)(i:Nat)(u:Value)(hi:i<xs.length):QI (w.setCell ⟨g,i,none⟩ u) g (xs.set i u):=by
 obtain⟨q,t,fr,hg,hl,hc,hf⟩:=h;refine⟨q.setIfInBounds i u,t,fr,?_,by simpa using hl,?_,by simpa using hf⟩
 ·rw[setCell_eq_setRow w g i q t fr u hg];exact Ks w g q _ t _ hg
 intro j x o;rw[YV]at o;rw[KH]
 split at o
 ·rename_i y;subst y;rw[Qg rfl,Qg<|by omega];simpa[hi]using o
 rename_i y;rw[Qe y];exact hc j x o
def QI.kept{S:List Nat}{w w':World}{g:Nat}{xs:List Value}(c:QI w g xs)(hk:Qb S w w')(e:g∉S):QI w' g xs:=by obtain⟨a,h,b,d,f⟩:=c;exact⟨a,h,b,hk.heap d e,f⟩
def QI.lt{w:World}{g:Nat}{xs:List Value}(a:QI w g xs):g<w.heap.size:=by obtain⟨b,b,b,b,c⟩:=a;exact BB b
def QI.sees{w:World}{g:Nat}{xs:List Value}(a:QI w g xs):Qn w 1 g xs.length xs:=
 ⟨by omega,fun b b b=>⟨g,0,rfl,by rw[Zz];exact a.cell b⟩⟩
def QI.of_block{w:World}{g:Nat}{xs:List Value}{t:TypeId}(a:w.heap[g]?=some (.cells xs.toArray t (0,0))):QI w g xs:=
 ⟨xs.toArray,t,(0,0),a,by simp,fun a b hi=>by simpa using hi,fun a hi=>by simp⟩
def QI.new(w:World)(xs:List Value)(t:TypeId):QI (w.alloc<|.cells xs.toArray t) w.heap.size xs:=.of_block<|Xe w _
def Qh.blk{w:World}{e:TypeId}{g n cap:Nat}{xs:List Value}(a:Qh w e (.slice g n cap) xs):QI w g xs:=by
 rcases a.2 with⟨a,f⟩|⟨b,b,c,d,hb,h,b,b,b,b⟩
 ·cases a
 injection d with a f h3;injection a with a;injection a with a;subst a;rw[RS]at b;refine⟨c,e,(0,0),h,by omega,fun a c hi=>?_,fun a hi=>by simp⟩;have a:=(Qz.1 hi).1;rw[←b,Bi,Qg a]at hi;simpa using hi
def Qh.empty(w:World)(e:TypeId):Qh (w.alloc<|.cells #[] e) e (.slice w.heap.size 0 0) []:=
 ⟨by simp,.inr ⟨w.heap.size,0,#[],rfl,ZF _,Xe w _,by simp,by simp[maxLen],by simp,by simp⟩⟩
def Qh.sZ{w:World}{e:TypeId}{a:Option Addr}{n c:Nat}{xs:List Value}(b:Qh w e (.slice a n c) xs):Qn w 1 a n xs:=by have f:=b.len;obtain⟨d,d,g,-,-,d,-⟩:=b.sees;injection g with b h2 h3;subst b;rwa[f]at d
def TF(w:World)(s:ByteArray):∃cap,(convert 9 88<|.string s).run prog w=.ok (.slice w.heap.size s.size cap)
 (w.drew.alloc<|.cells (bytesRow s cap) 5 ((bytesRow s cap).size,(bytesRow s cap).size+1))∧s.size≤cap:=
 ⟨_,run_bytes_of_string w 9 88 5 s Xc ZW Uu,grownCap_ge _ _ _ _⟩
def QI.bytes(w:World)(s:ByteArray)(cap:Nat)(a:s.size≤cap):QI (w.alloc<|.cells (bytesRow s cap) 5 ((bytesRow s cap).size,(bytesRow s cap).size+1)) w.heap.size (Qm s.data.toList):=by
 have:(bytesRow s cap).size=cap:=by have:s.data.size=s.size:=rfl;simp[bytesRow];omega
 have b:(Qm s.data.toList).length=s.size:=by simp[Qm]
 refine⟨_,_,_,Xe w _,by omega,fun a c hi=>?_,fun a hi=>by simp only;omega⟩;have hlt:=(Qz.1 hi).1;rw[b]at hlt;have b:a<s.data.size:=hlt;rw[bytesRow_at s cap a b,←hi];simp[Qm,RJ b]
def Ko{P:Program}(g a:Nat):∀(b:List Value)(i:Nat)(xs:List Value)(w:World),QI w g xs→a+i+b.length≤xs.length→(∀v∈b,v.oneCell'=true)→
 ∃w',(storeCells ⟨g,a,none⟩ b i).run P w=.ok () w'∧QI w' g (xs.take (a+i)++b++xs.drop (a+i+b.length))∧Qb [g] w w'
 | [],i,xs,w,h,_,_=>⟨w,rfl,by simpa using h,Qc _ _⟩
 |v::rest,i,xs,w,h,hl,h1=>by
  have hi:a+i<xs.length:=by simp at hl;omega
  have b:(⟨g,a,none⟩:Addr).add i=⟨g,a+i,none⟩:=YK _ _ _;have c:=h.cell<|Qj hi;have d:=h.free hi;have e:(store ((⟨g,a,none⟩:Addr).add i) v).run P w=.ok () (w.setCell ⟨g,a+i,none⟩ v):=by rw[b,run_store P w _ v _<|h1 v<|by simp,c];simp[d]
  obtain⟨w',d,hb,hk⟩:=Ko (P:=P) g a rest (i+1) (xs.set (a+i) v) _ (h.set (a+i) v hi) (by simp at hl ⊢;omega) (fun c b=>h1 c<|by simp[b]);refine⟨w',?_,?_,((Qc _ _).setCell (by simp) _).trans hk fun c b=>.inl b⟩
  ·simp only[storeCells,Sem.run_bind,e,Ut];exact d
  have b:=list_seg_step xs (a+i) v rest (by simp at hl;omega);rwa[show a+(i+1)=a+i+1 by omega,b]at hb
def Qe8{P:Program}(w:World)(f r s c:TypeId)(g d e m:Nat)(h l:Option Addr)(k q:Nat)(xs a:List Value)
 (p:P.underlying f=some (.slice c))(hs:(P.info? c).map (·.size)=some 1)
 (n:QI w g xs)(o:a.length=Nat.min k e)(x:0<a.length→h=some ⟨g,d,none⟩∧∃b,l=some b∧∀j v,a[j]?=some v→w.cell? (b.add j)=some v)
 (u:d+a.length≤xs.length)(t:∀v∈a,v.oneCell'=true):
 ∃w',(Builtin.copy_ #[f,r] s #[.slice h e m,.slice l k q]).run P w=.ok (goInt a.length) w'∧QI w' g (splice xs d a)∧Qb [g] w w':=by
 by_cases h0:a.length=0
 ·obtain rfl:a=[]:=JW h0;exact⟨w,run_copy_none (P:=P) w f r s c h l e m k q p hs<|by simpa using o.symm,by simpa[splice]using n,Qc _ _⟩
 obtain⟨rfl,b,rfl,f⟩:=x (by omega);have e:=run_loadCells_list (P:=P) w b a f;obtain⟨w',b,hb,hk⟩:=Ko (P:=P) g d a 0 xs w n (by simpa using u) t;refine⟨w',?_,by simpa[splice]using hb,hk⟩;cases hq:P.info? c with
 |none=>simp[hq]at hs
 |some i=>
  have hi:i.size=1:=by simpa[hq]using hs
  simp[Builtin.copy_,YR p,Builtin.lenOf,Builtin.firstCells,sizeOf,typeInfo,hq,hi,←o,e,b]
def Kv{P:Program}{p:Array Oper}{c:Oper}{a:Act}{w:World}{K:Act→World→Prop}{u:Exit→Act→World→Prop}{t:Prop}(A:c.guard=none)(d s:Operand)(h r:TypeId)
 (C:c.op=.call {callee:=.builtin .copy,args:=#[d,s],argTypes:=#[h,r]})(k:TypeId)(F:P.underlying h=some (.slice k))(E:(P.info? k).map (·.size)=some 1)
 (i m:Option Addr)(f o l q:Nat)(y:a.eval d=.slice i f o)(hs:a.eval s=.slice m l q)
 (g e:Nat)(xs b:List Value)(hb:QI w g xs)(B:b.length=Nat.min l f)
 (D:0<b.length→i=some ⟨g,e,none⟩∧∃n,m=some n∧∀j v,b[j]?=some v→w.cell? (n.add j)=some v)
 (z:e+b.length≤xs.length)(x:∀v∈b,v.oneCell'=true)
 (n:∀w',QI w' g (splice xs e b)→Qb [g] w w'→K (a.put c.dst<|goInt b.length) w'):
 if Region.wanted c (yielded p a.tmps)=true then Oper.wp P c a w K u else t:=by
 have hw:Region.wanted c (yielded p a.tmps)=true:=by simp[Region.wanted,A]
 rw[Qg hw];obtain⟨w',QP,p,hk⟩:=Qe8 (P:=P) w h r c.type k g e f o i m l q xs b F E hb B D z x;unfold Oper.wp;simp[execOp,C,resolve,invoke,builtin,y,hs,QP,Result.andThen];exact n w' p hk
def iR{α:Type}[Inhabited α](f:α→Value)(l:List α)(p:Nat)(a:p<l.length):(splice (l.map f) 1<|(l.map f).take p).set 0 (f<|l.getD p default)=(K.turned l p).map f:=by
 rw[Qhj];apply Xu;intro b;rw[YV];have a:(splice (l.map f) 1<|(l.map f).take p).length=l.length:=by rw[MZ _ _ _ (by simp;omega)];simp
 cases b with
 |zero=>rw[Qg rfl,Qg (by rw[a];omega)];rfl
 |succ b=>
  rw[Qe<|by omega];clear a;unfold splice;rw[QO,VL,Xh,Zy (by simp;omega),←DQ,←List.map_drop];have a:(List.take 1<|l.map f).length=1:=by simp;omega
  have b:((l.take p).map f).length=p:=by simp;omega
  rw[a,b,Us,BT 1 p]
def Qf(w:World)(g:Nat)(t:TypeId)(xs:List Value):Prop:=w.heap[g]?=some (.cells xs.toArray t (0,0))
def Qx(w:World)(xs:List Value)(t:TypeId):Qf (w.alloc<|.cells xs.toArray t) w.heap.size t xs:=Xe w _
def Qf.cell{w:World}{g:Nat}{t:TypeId}{xs:List Value}(a:Qf w g t xs){i:Nat}{u:Value}(hi:xs[i]?=some u):w.cell? ⟨g,i,none⟩=some u:=by rw[Zt w g i _ t _ a];simpa using hi
def Qf.free{w:World}{g:Nat}{t:TypeId}{xs:List Value}(a:Qf w g t xs)(i:Nat):w.frozen? ⟨g,i,none⟩=false:=Uc w g i _ t a
def Qf.set{w:World}{g:Nat}{t:TypeId}{xs:List Value}(a:Qf w g t xs)(i:Nat)(u:Value):Qf (w.setCell ⟨g,i,none⟩ u) g t (xs.set i u):=by have:=FV w g i _ t u a;unfold Qf;rw[this,RQ]
def Qf.six{w:World}{g:Nat}{t:TypeId}{u v:Value}(a:Qf w g t [u,v])(x b:Value):w.cell? ⟨g,0,none⟩=some u∧w.cell? ⟨g,1,none⟩=some v∧w.frozen? ⟨g,0,none⟩=false∧w.frozen? ⟨g,1,none⟩=false∧
 ((w.setCell ⟨g,0,none⟩ x).setCell ⟨g,1,none⟩ b).cell? ⟨g,0,none⟩=some x∧((w.setCell ⟨g,0,none⟩ x).setCell ⟨g,1,none⟩ b).cell? ⟨g,1,none⟩=some b:=
 ⟨a.cell rfl,a.cell rfl,a.free 0,a.free 1,((a.set 0 x).set 1 b).cell rfl,((a.set 0 x).set 1 b).cell rfl⟩
def Qf.kept{S:List Nat}{w w':World}{g:Nat}{t:TypeId}{xs:List Value}(a:Qf w g t xs)(hk:Qb S w w')(b:g∉S):Qf w' g t xs:=hk.heap a b
def Qf.lt{w:World}{g:Nat}{t:TypeId}{xs:List Value}(a:Qf w g t xs):g<w.heap.size:=BB a
def Qf.blk{w:World}{g:Nat}{t:TypeId}{xs:List Value}(a:Qf w g t xs):QI w g xs:=.of_block a
def gV{P:Program}(t e:TypeId)(n:Nat)(xs:List Value)(k:IntKind)(i:Nat)(u:Value)(w:World)(a:P.underlying t=some (.array n e))(hs:(P.info? e).map (·.size)=some 1)
 (ha:(isAgg e).run P w=.ok false w)(b:xs.length=n)(hi:xs[i]?=some u):
 (Instr.index t (.agg xs.toArray)<|.int k i).run P w=.ok u w:=by
 have hlt:=(Qz.1 hi).1;cases hq:P.info? e with
 |none=>simp[hq]at hs
 |some j=>
  have c:j.size=1:=by simpa[hq]using hs
  have b:i<n:=by omega
  simp[Instr.index,YR a,asIntOf,sizeOf,typeInfo,hq,c,go_sem,ha,hi,b]
def Qn.keptF{S:List Nat}{w w':World}{size:Nat}{a:Option Addr}{n:Nat}{xs:List Value}(c:Qn w size a n xs)(hk:Qb S w w')(e:Qs w.heap.size S):Qn w' size a n xs:=by refine⟨c.1,fun h j g=>?_⟩;obtain⟨b,i,f,d⟩:=c.2 h j g;refine⟨b,i,f,hk.cZ d fun c=>?_⟩;have:=e b c;have:b<w.heap.size:=Ro w _ d;omega
def Qn.keptB{S:List Nat}{w w':World}{size:Nat}{a:Option Addr}{n:Nat}{xs:List Value}(b:Qn w size a n xs)(hk:Qb S w w')(c:0<xs.length→Qr (fZ a) S):Qn w' size a n xs:=by
 rcases VR xs.length with h0|h0
 ·exact⟨b.1,fun d d d=>by have:=(Qz.1 d).1;omega⟩
 exact b.kept hk<|c h0
def Vu(w:World)(e:List Value)(c:List (List Value)):Prop:=
 e.length=c.length∧∀(b:Nat)(d:Value)(a:List Value),e[b]?=some d→c[b]?=some a→∃c b,d=.slice c a.length b∧Qn w 1 c a.length a∧a.length≤b∧b≤maxLen
def Xw(w:World)(a:Option Addr)(n:Nat)(c:List (List Value)):Prop:=∃b,Qn w 1 a n b∧Vu w b c
def Vu.keptF{S:List Nat}{w w':World}{c:List Value}{b:List (List Value)}(a:Vu w c b)(hk:Qb S w w')(i:Qs w.heap.size S):Vu w' c b:=
 ⟨a.1,fun j l k d e=>by obtain⟨b,c,f,g,h⟩:=a.2 j l k d e;exact⟨b,c,f,g.keptF hk i,h⟩⟩
def Vu.kZ{w w':World}{b:List Value}{a:List (List Value)}(c:Vu w b a)(hk:Qb [] w w'):Vu w' b a:=c.keptF hk (by simp[Qs])
def Xw.keptF{S:List Nat}{w w':World}{a:Option Addr}{n:Nat}{c:List (List Value)}(d:Xw w a n c)(hk:Qb S w w')(b:Qs w.heap.size S):Xw w' a n c:=by obtain⟨f,c,e⟩:=d;exact⟨f,c.keptF hk b,e.keptF hk b⟩
def Xw.kZ{w w':World}{a:Option Addr}{n:Nat}{b:List (List Value)}(c:Xw w a n b)(hk:Qb [] w w'):Xw w' a n b:=c.keptF hk (by simp[Qs])
def Xw.len{w:World}{a:Option Addr}{n:Nat}{b:List (List Value)}(c:Xw w a n b):b.length=n:=by obtain⟨b,b,d⟩:=c;have:=b.1;have:=d.1;omega
def Xw.at{w:World}{a:Option Addr}{n:Nat}{d:List (List Value)}(f:Xw w a n d)(i:Nat)(r:List Value)(hi:d[i]?=some r):
 ∃b e d c,a=some ⟨b,e,none⟩∧w.cell? ⟨b,e+i,none⟩=some (.slice d r.length c)∧Qn w 1 d r.length r∧r.length≤c∧c≤maxLen:=by
 obtain⟨l,j,g⟩:=f;have k:=(Qz.1 hi).1;have⟨f,h⟩:=qy l i (by rwa[g.1]);obtain⟨b,e,ha,m⟩:=j.2 i f h;obtain⟨d,c,rfl,j,k,l⟩:=g.2 i f r h hi;exact⟨b,e,d,c,ha,m,j,k,l⟩
