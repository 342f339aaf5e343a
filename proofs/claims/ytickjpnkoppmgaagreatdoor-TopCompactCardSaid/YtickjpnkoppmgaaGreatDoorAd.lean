import Derived.BigQuiet
import Derived.Outline
import Derived.Deep.LoopGhost
import Derived.Deep.DeepCutAuto
import Derived.Laws.BitsAllLaws
import Derived.Laws.IdiomStrings
import Derived.Laws.IdiomCopy
import Derived.Deep.RegionLaw
import Derived.Laws.PanicsMore
import Derived.Test.YtickjpnkoppmgaaGreatDoorProg
import Derived.Test.YtickjpnkoppmgaaGreatDoorAc
import Derived.Test.YtickjpnkoppmgaaGreatDoorAb
set_option linter.all false
set_option maxHeartbeats 400000
set_option maxRecDepth 100000
namespace Go.Proofs.YtickjpnkoppmgaaGreatDoor
open Go.Proofs.Tryz Go.RowKit K
def YQ:(prog.info? 5).map (fun i=>(i.zero,i.size,i.bytes))=some (some<|.int .u8 0,1,1):=by kernel_rfl
def Qm(l:LU):LV:=l.map fun a=>.int .u8 (a.toNat:Int)
def Wr(w:WD)(b:Nat)(a:VL)(bs:LB):Prop:=
 w.heap[b]?=some (.cells #[a,bs.length] 262 (0,0))∧Qh w 5 a (Qm (Qv bs))∧b∉Qd a
def Sr(w0:WD)(b v n:Nat)(e:VL)(bs:LB)(k:Nat)(i:VL)(w:WD):Prop:=
 ∃a d c,a≤n∧k=n-a∧i=.int .i64 ((n:Int)-1-a)∧c=bs++(K.low v n).take a∧Wr w b d c∧Qb (b::Qd e) w0 w∧(∀a∈Qd d,a∈Qd e∨w0.heap.size≤a)
def Qeg(b)(v n:Nat)(o0 bs w)(hn:n≤64)(hv:v<2^n)(hm:bs.length≤1000000000000)(hW:Wr w b o0 bs):
 Calls prog 119 #[.pointer b,.int .u64 v,n] w fun e w'=>e=.returned (0:Int)∧
  ∃o,Wr w' b o (bs++K.low v n)∧Qb (b::Qd o0) w w'∧(∀x∈Qd o,x∈Qd o0∨w.heap.size≤x):=by
 have g1:decide ((n:Int)<0)=false:=by simp
 have g2:decide (64<(n:Int))=false:=by simp;omega
 have hI:Sr w b v n o0 bs n (.int .i64<|(n:Int)-1) w:=⟨0,o0,bs,by omega,by omega,by simp,by simp,hW,Qc _ _,fun x hx=>.inl hx⟩;have HW:=Qa hW;clear hW;have Hv:=Qa hv;clear hv;have g5:(decide ((n:Int)<64)&&((v/2^n:Int) != 0))=false:=by
  have:=Nat.div_eq_of_lt Hv.o;have:((v:Int)/2^n)=0:=by exact_mod_cast this
  simp[this]
 have g4:((v/2^n:Int) != 0)=false:=by
  have:=Nat.div_eq_of_lt Hv.o;have:((v:Int)/2^n)=0:=by exact_mod_cast this
  simp[this]
 clear g5;go_enter func119,ntmps119
 go_upto_region 3 with(fail)
 go_cut [26] (fun z6 wc=>z6=.bool false∧w=wc)
 ·rcases(by cases decide ((n:Int)<64)<;>simp:decide ((n:Int)<64)=true∨decide ((n:Int)<64)=false)with g3|g3
  all_goals
   go_wp2
   go_meet;exact⟨rfl,rfl⟩
 obtain⟨rfl,rfl⟩:=hcut
 go_wp2
 go_loopg [7] n (fun k i wr=>Sr w b v n o0 bs k i wr)
 ·exact hI
 obtain⟨j,o,y,hj,hk,rfl,x0,⟨hb,h2,hne⟩,h3,h1⟩:=hrel
 by_cases hlt:j<n
 ·have hq:∃q,q=y.length:=⟨_,rfl⟩;obtain⟨q,hq⟩:=hq;have p3:q≤1000000000064:=by rw[hq,x0,Qo,Zl,X0];omega
  have x2:=Qa x0;clear x0;rw[←hq]at hb;have c0:wr.cell? b=some o:=Zu wr b 0 _ _ _ hb;have c1:wr.cell? ⟨b,1,none⟩=some (.int .i64 q):=Zu wr b 1 _ _ _ hb;have f0:=Ur wr b 0 _ _ hb;have f1:=Ur wr b 1 _ _ hb;have Hq:=Qa hq;clear hq;have Hk:=Qa hk;clear hk
  go_upto_if 38 with(fail)
  go_cut [] (fun wc=>∃o1,wc.heap[b]?=some (.cells #[o1,.int .i64 q] 262 (0,0))∧Qh wc 5 o1 (Qm<|Qv<|y++[false])∧b∉Qd o1∧Qb (b::Qd o0) w wc∧(∀x∈Qd o1,x∈Qd o0∨w.heap.size≤x))
  ·by_cases h8:q%8=0
   ·have t8:((q:Int)%8==0)=true:=(by simp;omega);have L0:(Qm<|Qv y).length≤1000000000064:=(by simp only[Qm,QH,Ub];rw[←Hq.o];omega);have L1:(Qm<|Qv y).length+1≤maxLen:=(by simp only[maxLen];omega);have L2:((Qm<|Qv y).length+1)*1≤140737488355328:=(by omega);have p4:=h2;generalize y2:Qm (Qv y)=xs at h2 L0 L1 L2;have y4:=Qa y2;clear y2;go_wp2_with ((at_builtin;go_must (refine ES wr rfl _ _ 88 rfl 5 (.int .u8 0) 1 Xb YQ rfl o (.int .u8 0) xs rfl rfl rfl rfl h2 L1 L2 ?_);intro g cap w1 y9 h5 x5;have d0:=h5.cZ c0 hne;have d1:=h5.cZ c1 hne;have e0:=(h5.oZ c0 hne).trans f0;have e1:=(h5.oZ c1 hne).trans f1;have y5:=h5.heap hb hne));go_meet;have x3:¬b=g:=by
     rintro rfl;rcases x5 with h|h
     ·exact hne h
     have:=BF hb;omega
    refine⟨_,FR _ _ _ _ _ _ y5,?_,by simpa[Qd,qo]using x3,?_,?_⟩
    ·have e:Qm (Qv<|y++[false])=xs++[.int .u8 0]:=(by rw[fH,←Hq.o,Qg h8,←y4.o];simp[Qm]);rw[e];exact y9.setCell (by simpa[Qd,qo]using x3) _
    ·refine Qb.setCell (h3.trans h5 fun x hx=>?_) (by simp) _;rcases h1 x hx with h|h
     ·exact .inl (by simp[h])
     exact .inr h
    intro x hx;obtain rfl:x=g:=(by simpa[Qd,qo]using hx);rcases x5 with h|h
    ·exact h1 _ h
    exact .inr<|QS h3.size h
   have t8:((q:Int)%8==0)=false:=(by simp;omega);go_wp2_with (fail);go_meet;refine⟨o,hb,?_,hne,h3,h1⟩;rwa[fH,←Hq.o,Qf h8]
  obtain⟨o1,hb,h2,hne,h3,h1⟩:=hcut;have c0:wc.cell? b=some o1:=Zu wc b 0 _ _ _ hb;have c1:wc.cell? ⟨b,1,none⟩=some (.int .i64 q):=Zu wc b 1 _ _ _ hb;have f0:=Ur wc b 0 _ _ hb;have f1:=Ur wc b 1 _ _ hb;have x1:bits BinOp.and IntKind.u64 ((v:Int)/2^(n-1-j)) 1=((v.testBit<|n-1-j).toNat:Int):=by have e:((v:Int)/2^(n-1-j))=((v/2^(n-1-j):Nat):Int):=(by norm_cast);rw[e,show(1:Int)=((1:Nat):Int)from rfl,u64_and_nat _ _ (by have:=DV v<|2^(n-1-j);have:=Hv.o;have:=Jc (n:=2) (by omega) hn;omega)<|by omega,nat_mask1,Nat.testBit_eq_decide_div_mod_eq];have:=JL (v/2^(n-1-j)) (by decide:0<2);rcases(by omega:v/2^(n-1-j)%2=0∨v/2^(n-1-j)%2=1)with h|h<;>rw[h]<;>rfl
  have x9:(bs++(K.low v n).take (j+1)).length=q+1:=by
   have:=Hq.o;rw[x2.o]at this;rw[Qo,Zl,X0]at*
   omega
  have y1:y++[v.testBit<|n-1-j]=bs++(K.low v n).take (j+1):=by rw[x2.o,Qa3 v n j hlt,QQ]
  have HL:=Qa x9;clear x9;have HT:=Qa y1;clear y1
  by_cases h4:v.testBit (n-1-j)=true
  ·have tb:(bits BinOp.and IntKind.u64 ((v:Int)/2^(n-1-j)) 1==1)=true:=(by rw[x1,h4];rfl);clear x1;have x8:(Qm<|Qv<|y++[false]).length=(q+8)/8:=(by simp only[Qm,QH,Ub,Qo,Q0,Yg];have:=Hq.o;omega);obtain⟨g,cap,rfl,z8,p0,x4,x6,y0⟩:=h2.open (by omega);have y6:wc.cell? ⟨g,q/8,none⟩=some (.int .u8 (Yz y (q/8):Nat)):=(by refine x4 _ _ ?_;have e:=Gh (y++[false]) (q/8) (by rw[Qo,←Hq.o];simp;omega);rw[Iv]at e;have hlt:=Mv y<|q/8;simp only[Qm,ZD,e,AC];simp[XP hlt]);have hB:=Mv y<|q/8;have h9:=Qc8 y;rw[←Hq.o]at h9;have p2:(q:Int)/8<((Qm<|Qv<|y++[false]).length:Int):=(by omega);generalize Yz y (q/8)=x at y6 hB h9;have HP:=Qa h9;clear h9;clear x4;have y3:=Qa y0;clear y0;have z7:=Qa x8;clear x8;have p1:=x6<|q/8;clear x6;have x7:¬g=b:=(by rintro rfl;exact hne<|by simp[Qd,qo]);have w1:IntKind.i64.wrap ((q:Int)/8)=(q:Int)/8:=(by exact Q3 _<|by omega);obtain⟨w2,w3⟩:(0:Int)≤(q:Int)/8∧((q:Int)/8).toNat=q/8:=by omega
   go_wp2
   go_region
   all_goals
    go_wp2
    go_roundg (n-(j+1))
    case measure=>have:=Hk.o;omega
    have z1:Qv (y++[true])=(Qv<|y++[false]).set (q/8) (UInt8.ofNat<|x|||(128/2^(q%8))):=HP.o;have y7:(bits BinOp.or IntKind.u8 (x:Int)<|128/2^(q%8))=((x|||(128/2^(q%8)):Nat):Int):=(by have e:((128:Int)/2^(q%8))=((128/2^(q%8):Nat):Int):=(by norm_cast);rw[e,u8_or_nat _ _ hB (by have:=DV 128<|2^(q%8);omega)]);have y8:x|||(128/2^(q%8))<256:=Nat.or_lt_two_pow (n:=8) hB (by have:=DV 128<|2^(q%8);omega);refine⟨j+1,_,_,by omega,rfl,by go_num,rfl,⟨?_,?_,hne⟩,?_,h1⟩
    ·rw[HL.o];exact FR _ _ _ _ _ _<|(heap_setCell_other _ _ _ _ fun h=>x7 h.symm).trans hb
    ·rw[←HT.o,h4,z1,y7];have e:Qm ((Qv<|y++[false]).set (q/8)<|UInt8.ofNat<|x|||(128/2^(q%8)))=(Qm<|Qv<|y++[false]).set (q/8) (.int .u8 ((x|||(128/2^(q%8)):Nat):Int)):=(by have e8:(UInt8.ofNat<|x|||(128/2^(q%8))).toNat=x|||(128/2^(q%8)):=(by rw[U7];exact XP y8);simp only[Qm,Bp,e8]);rw[e];have:=y3.o (q/8)<|.int .u8 ((x|||(128/2^(q%8)):Nat):Int);exact(Qh.setCell (p:=⟨b,1,none⟩) (by simpa[Qh]using this) (by simp only[Qd,qo,Fk,Za];exact fun h=>x7 h.symm) _).drew
    exact((h3.setCell (by rcases h1 g (by simp[Qd,qo])with h|h;exact .inl (by simp[h]);exact .inr h) _).setCell (by simp) _).drew
  have tb:(bits BinOp.and IntKind.u64 ((v:Int)/2^(n-1-j)) 1==1)=false:=by rw[x1];simp at h4;rw[h4];rfl
  go_wp2
  go_roundg (n-(j+1))
  ·simp only[Bool.not_eq_true]at h4;refine⟨j+1,_,_,by omega,rfl,by go_num,rfl,⟨?_,?_,hne⟩,h3.setCell (by simp) _,h1⟩
   ·rw[HL.o];exact FR _ _ _ _ _ _ hb
   rw[←HT.o,h4];exact h2.setCell hne _
  have:=Hk.o;omega
 obtain rfl:j=n:=by omega
 go_wp2
 go_ret;refine⟨rfl,o,?_,h3,h1⟩;have e:(K.low v j).take j=K.low v j:=Q8 (by rw[X0];omega);rw[←e,←x0];exact⟨hb,h2,hne⟩
def Qb3(w):Calls prog 118 #[] w fun e w'=>e=.returned (.pointer w)∧w'=w.alloc (.cells #[.slice none 0 0,(0:Int)] 262):=by
 go_enter func118,ntmps118
 go_wp2
 go_ret;exact⟨rfl,rfl⟩
def Wr.new(w:WD):Wr (w.alloc<|.cells #[.slice none 0 0,(0:Int)] 262) w.heap.size (.slice none 0 0) []:=
 ⟨Xf w _,Qh.nil _ _,by simp[Qd,qo]⟩
def Wr.kept{S w w' b c bs}(a:Wr w b c bs)(hk:Qb S w w')(ha:Qq (b::Qd c) S):Wr w' b c bs:=
 ⟨hk.heap a.1<|ha b<|by simp,a.2.1.kept hk fun d c=>ha d<|by simp[c],a.2.2⟩
def Wr.lt{w b a bs}(c:Wr w b a bs):∀x∈b::Qd a,x<w.heap.size:=by
 intro x a;rcases QE.1 a with rfl|a
 ·exact BF c.1
 exact c.2.1.lt x a
def nV(w:WD)(e:Ending)(w':WD):Prop:=∃a,e=.returned (.pointer (some ⟨a,0,none⟩))∧Wr w' a (.slice none 0 0) []∧Qb [] w w'∧Qs w.heap.size (a::Qd (.slice none 0 0))
def Dq(w):Calls prog 118 #[] w (nV w):=
 (Qb3 w).mono fun a a ⟨a,hw⟩=>⟨_,a,by rw[hw];exact Wr.new w,by rw[hw];exact(Qc _ _).alloc _,by simp[Qs,Qd,qo]⟩
def oU(w:WD)(b:Nat)(c:VL)(bs:LB)(e:Ending)(w':WD):Prop:=
 e=.returned (0:Int)∧∃a,Wr w' b a bs∧Qb (b::Qd c) w w'∧QP w.heap.size (b::Qd c) (b::Qd a)
def Rk(b)(v n:Int)(q bs w)(h4:0≤n)(hn:n≤64)(h5:0≤v)(hv:v.toNat<2^n.toNat)(hm:bs.length≤1000000000000)(hW:Wr w b q bs):
 Calls prog 119 #[.pointer b,.int .u64 v,n] w (oU w b q<|bs++K.low v.toNat n.toNat):=by
 obtain⟨n,rfl⟩:=X7 h4;obtain⟨v,rfl⟩:=X7 h5;refine(Qeg b v n q bs w (by omega) (by simpa using hv) hm hW).mono fun e w' ⟨he,o,y,h2,h3⟩=>⟨he,o,by simpa using y,h2,fun x h=>?_⟩
 rcases QE.1 h with rfl|h
 ·exact .inl (by simp)
 exact(h3 x h).imp (XW _) id
def Dj(w b c bs)(a:Wr w b c bs):Calls prog 123 #[.pointer b] w fun e w'=>e=.returned bs.length∧w=w':=by
 have c1:w.cell? ⟨b,1,none⟩=some (.int .i64 bs.length):=Zu w b 1 _ _ _ a.1;clear a;go_enter func123,ntmps123
 go_wp2
 go_ret;exact⟨rfl,rfl⟩
def Qh0(w):(convert 88 9<|.slice none 0 0).run prog w=.ok (.string ⟨#[]⟩) w:=by kernel_rfl
def Qh.text{w v l}(h:Qh w 5 v (Qm l)):(convert 88 9 v).run prog w=.ok (.string ⟨l.toArray⟩) w:=by
 rcases h.2 with⟨rfl,q⟩|⟨g,cap,h1,rfl,hb,hg,h5,h3,h4,ht⟩
 ·have:l=[]:=by simpa[Qm]using q
  subst this;exact Qh0 w
 have o:w.ownsRow 0 5 1 (.slice g (Qm l).length cap) (Qm l).length (Qm l):=h;have hl:(Qm l).length=l.length:=by simp[Qm]
 rw[hl]at o ⊢;refine iE w _ _ _ ⟨g,0,none⟩ cap l Xb AE Yj fun j y=>?_
 rw[YM,ZE,o.cellAt j<|by omega];simp[Qm,y]
def Dx(w b c bs)(a:Wr w b c bs):Calls prog 122 #[.pointer b] w fun e w'=>e=.returned (.string ⟨(Qv bs).toArray⟩)∧w=w':=by
 have c0:w.cell? b=some c:=Zu w b 0 _ _ _ a.1;have:=Qh.text a.2.1;clear a;go_enter func122,ntmps122
 go_wp2
 go_ret;exact⟨rfl,rfl⟩
def put_nil(v n:Int)(w):Calls prog 119 #[.pointer none,.int .u64 v,n] w fun e w'=>e=.returned (1:Int)∧w=w':=by
 go_enter func119,ntmps119
 go_wp2
 go_ret;exact⟨rfl,rfl⟩
def Rd(w:WD)(r a:Nat)(s:BA)(i:Nat):Prop:=
 w.heap[r]?=some (.cells #[.func (.func 213) #[] #[.pointer a],i,(8*s.size:Nat)] 305 (0,0))∧
  w.heap[a]?=some (.cells #[s] 9 (0,0))∧r≠a
def Qb2(s:BA)(i w)(hs:s.size≤1125899906842624)(hi:i≤8*s.size):
 Calls prog 170 #[s,i] w fun e w'=>e=.returned (.pointer (w.heap.size+1:Nat))∧
  w'=(w.alloc<|.cells #[s] 9).alloc (.cells #[.func (.func 213) #[] #[.pointer w],i,(8*s.size:Nat)] 305):=by
 have g1:decide ((i:Int)<0)=false:=by simp
 have:decide (8*(s.size:Int)<i)=false:=by simp;omega
 go_enter func170,SE
 go_wp2
 go_ret;refine⟨rfl,by simp⟩
def Rd.kept{S w w' r a s i}(b:Rd w r a s i)(hk:Qb S w w')(ha:Qq [r,a] S):Rd w' r a s i:=
 ⟨hk.heap b.1<|ha r<|by simp,hk.heap b.2.1<|ha a<|by simp,b.2.2⟩
def Rd.lt{w r a s i}(b:Rd w r a s i):∀x∈[r,a],x<w.heap.size:=by
 intro x a;rcases QE.1 a with rfl|a
 ·exact BF b.1
 rw[Za.1 a];exact BF b.2.1
def nU(w:WD)(s:BA)(i:Nat)(e:Ending)(w':WD):Prop:=
 ∃a b,e=.returned (.pointer (some ⟨a,0,none⟩))∧Rd w' a b s i∧Qb [] w w'∧Qs w.heap.size [a,b]
def BH(s:BA)(i:Int)(w:WD)(hs:s.size≤1125899906842624)(h0:0≤i)(hi:i.toNat≤8*s.size):
 Calls prog 170 #[s,i] w (nU w s i.toNat):=by
 obtain⟨i,rfl⟩:=X7 h0;simp only[Zs]at hi ⊢;refine(Qb2 s i w hs hi).mono fun a a ⟨a,hw⟩=>⟨_,w.heap.size,a,?_,by rw[hw];exact((Qc _ _).alloc _).alloc _,by simp[Qs]⟩
 rw[hw];refine⟨?_,heap_alloc2_old w _ _,by omega⟩;exact heap_alloc2_new w _ _
def Kn(s:BA)(i:Int)(w:WD)(hs:s.size≤1125899906842624)(hi:i<0∨(8*s.size:Nat)<i):
 Calls prog 170 #[s,i] w fun e w'=>e=.returned (.pointer none)∧w'=w.alloc (.cells #[s] 9):=by
 by_cases a:i<0
 ·have g1:decide ((i:Int)<0)=true:=by simpa using a
  go_enter func170,SE
  go_wp2
  go_ret;exact⟨rfl,rfl⟩
 have g1:decide ((i:Int)<0)=false:=by simpa using a
 have:decide (8*(s.size:Int)<i)=true:=by simp;omega
 go_enter func170,SE
 go_wp2
 go_ret;exact⟨rfl,rfl⟩
def rU(s:BA)(i a:Nat)(w:WD)(hs:s.size≤1125899906842624)(hi:i<8*s.size)(b:w.cell? a=some (.string s)):
 Calls prog 213 #[i,.pointer a] w fun e w'=>e=.returned (.int .u64 ((X4 s i).toNat:Nat))∧w=w':=by
 have a:i/8<s.size:=by omega
 have:(i:Int)/8<(s.size:Int):=by omega
 go_enter func213,ntmps213
 go_wp2
 go_ret;refine⟨gM ?_,rfl⟩;have hb:((s[i/8]'a).toNat:Nat)<256:=(s[i/8]'a).toNat_lt;have b:IntKind.u64.wrap ((s[i/8]'a).toNat:Int)=((s[i/8]'a).toNat:Int):=by rw[JH];omega
 have c:(s.data.toList.getD (i/8) 0)=s[i/8]'a:=by
  have:i/8<s.data.toList.length:=by simpa using a
  rw[List.getD,Qj this];rfl
 unfold X4;rw[b,c,Gx,show((s[i/8]'a).toNat:Int)/2^(7-i%8)=(((s[i/8]'a).toNat/2^(7-i%8):Nat):Int)by norm_cast,show(1:Int)=((1:Nat):Int)from rfl,
  u64_and_nat _ _ (by have:=DV (s[i/8]'a).toNat<|2^(7-i%8);omega) (by omega),nat_mask1]
def Iu(s:BA)(i a:Nat)(x:Int)(w:WD)(c:x=(i:Nat))(hs:s.size≤1125899906842624)(hi:i<8*s.size)(b:w.cell? a=some (.string s)):
 Calls prog 213 #[x,.pointer a] w fun e w'=>e=.returned (.int .u64 ((X4 s i).toNat:Nat))∧w=w':=by
 subst c;exact rU s i a w hs hi b
def at_ok(r b:Nat)(s:BA)(i:Nat)(w:WD)(a:Rd w r b s i):Calls prog 222 #[.pointer r] w fun e w'=>e=.returned i∧w=w':=by
 have c1:w.cell? ⟨r,1,none⟩=some (.int .i64 i):=Zu w r 1 _ _ _ a.1;clear a;go_enter func222,ntmps222
 go_wp2
 go_ret;exact⟨rfl,rfl⟩
def FJ(c:Array VL)(w:WD):(binOp BinOp.eql 303 (.func (.func 213) #[] c) .nilFunc).run prog w=.ok (.bool false) w:=by kernel_rfl
def Qhx(r b:Nat)(s:BA)(i:Nat)(n:Int)(w:WD)(a:Rd w r b s i)(c:n<0∨64<n):
 Calls prog 171 #[.pointer r,n] w fun e w'=>e=.returned (.tuple #[.int .u64 0,(2:Int)])∧w=w':=by
 have c0:w.cell? r=some (.func (.func 213) #[] #[.pointer b]):=Zu w r 0 _ _ _ a.1;clear a;have:=FJ #[.pointer b] w
 by_cases a:n<0
 ·have g1:decide (n<0)=true:=by simpa using a
  go_enter func171,Mc
  go_wp2
  go_ret2;exact⟨rfl,rfl⟩
 have g1:decide (n<0)=false:=by simpa using a
 have:decide (64<n)=true:=by simp;omega
 go_enter func171,Mc
 go_wp2
 go_ret2;exact⟨rfl,rfl⟩
def Qhz(r b:Nat)(s:BA)(i n:Nat)(w:WD)(a:Rd w r b s i)(hs:s.size≤1125899906842624)(hi:i≤8*s.size)(c:n≤64)(c:8*s.size<i+n):
 Calls prog 171 #[.pointer r,n] w fun e w'=>e=.returned (.tuple #[.int .u64 0,(10:Int)])∧∃m,w'=w.drewN m:=by
 have c0:w.cell? r=some (.func (.func 213) #[] #[.pointer b]):=Zu w r 0 _ _ _ a.1;have c1:w.cell? ⟨r,1,none⟩=some (.int .i64 i):=Zu w r 1 _ _ _ a.1;have c2:w.cell? ⟨r,2,none⟩=some (.int .i64 (8*s.size:Nat)):=Zu w r 2 _ _ _ a.1;clear a;have:=FJ #[.pointer b] w;have g1:decide ((n:Int)<0)=false:=by simp
 have:decide (64<(n:Int))=false:=by simp;omega
 have:IntKind.i64.wrap (8*(s.size:Int)-i)=8*(s.size:Int)-i:=Q3 _ (by omega);have g3:8*(s.size:Int)-i<n:=by omega
 go_enter func171,Mc
 go_wp2
 go_quiet (fail)
 go_wp2
 go_ret2;exact⟨rfl,_,rfl⟩
def pT(w:WD)(s:BA)(i n:Nat)(k:Nat)(v c:VL)(wr:WD):Prop:=
 ∃a b,a≤n∧k=n-a∧c=.int .i64 a∧v=.int .u64 (K.num (QW (Qk s) i a):Nat)∧wr=w.drewN b
def Qhy(r q:Nat)(s:BA)(i n:Nat)(w:WD)(h:Rd w r q s i)(hs:s.size≤1125899906842624)(hn:n≤64)(hl:i+n≤8*s.size):
 Calls prog 171 #[.pointer r,n] w fun e w'=>e=.returned (.tuple #[.int .u64 (K.num (QW (Qk s) i n):Nat),(0:Int)])∧
  Rd w' r q s (i+n)∧Qb [r] w w':=by
 have c0:w.cell? r=some (.func (.func 213) #[] #[.pointer q]):=Zu w r 0 _ _ _ h.1;have c1:w.cell? ⟨r,1,none⟩=some (.int .i64 i):=Zu w r 1 _ _ _ h.1;have c2:w.cell? ⟨r,2,none⟩=some (.int .i64 (8*s.size:Nat)):=Zu w r 2 _ _ _ h.1;have cq:w.cell? q=some (.string s):=Zu w q 0 _ _ _ h.2.1;have f1:=Ur w r 1 _ _ h.1;have H:=Qa h;clear h;have x1:=FJ #[.pointer q] w;have g1:decide ((n:Int)<0)=false:=by simp
 have g2:decide (64<(n:Int))=false:=by simp;omega
 have w1:IntKind.i64.wrap (8*(s.size:Int)-i)=8*(s.size:Int)-i:=Q3 _ (by omega);have g3:(n:Int)≤8*(s.size:Int)-i:=by omega
 go_enter func171,Mc
 go_wp2
 go_quiet (fail)
 go_wp2
 go_loopg [6,35] n (fun k v c wr=>pT w s i n k v c wr)
 ·exact⟨0,_,by omega,by omega,rfl,by rw[Oi];rfl,rfl⟩
 obtain⟨j,m,hj,hk,rfl,rfl,rfl⟩:=hrel;have Hk:=Qa hk;clear hk
 by_cases hlt:j<n
 ·have h8:=fT s i j (by simp only[Rr];show i+j<8*s.size;omega);have h4:=Kw (Qk s) i j (by rw[Yt];simp only[Rr];show i+j≤8*s.size;omega);have h5:=Dr<|QW (Qk s) i j;rw[h4]at h5;have h9:K.num (QW (Qk s) i j)≤9223372036854775807:=by have:2^j≤2^63:=Jc (by decide) (by omega);omega
  have o:K.num (QW (Qk s) i<|j+1)=2*K.num (QW (Qk s) i j)+(X4 s<|i+j).toNat:=by rw[h8,Ge]
  have x0:=DF<|X4 s<|i+j;have y:=Qf6 (K.num<|QW (Qk s) i j)<|X4 s<|i+j;generalize K.num (QW (Qk s) i j)=V at o h9 y;have⟨HX,HO⟩:=qb o y;clear o h8 h4 h5 y
  go_wp2
  go_quiet ((go_at_call 213;exact Kx<|Iu s (i+j) q _ _ (by omega) hs (by omega) cq))
  go_wp2
  go_roundg (n-(j+1))
  ·have hV:V<18446744073709551616:=(by omega);have e:bits BinOp.or IntKind.u64 ((V:Int)*2) ((X4 s<|i+j).toNat:Int)=((2*V+(X4 s<|i+j).toNat:Nat):Int):=(by rw[show(V:Int)*2=((V*2:Nat):Int)by omega,u64_or_nat _ _ (by omega)<|by omega,HO.o]);exact⟨j+1,_,by omega,rfl,by go_num,by rw[e,HX.o],rfl⟩
  have:=Hk.o;omega
 obtain rfl:j=n:=by omega
 go_wp2
 go_ret2;obtain⟨h1,h2,h3⟩:=H.o;refine⟨rfl,⟨?_,?_,h3⟩,?_⟩
 ·have:=FR (w.drewN m) r 1 _ _ (i+j:Nat) h1;simpa using this
 ·exact(heap_setCell_other (w.drewN m) ⟨r,1,none⟩ q _ fun h=>h3 h.symm).trans h2
 exact((Qc _ _).drewN m).setCell (by simp) _
def Qig(r a:Nat)(s:BA)(i:Nat)(n:Int)(w:WD)(b:Rd w r a s i)(c:n<0):
 Calls prog 223 #[.pointer r,n] w fun e w'=>e=.returned (.tuple #[(0:Int),(2:Int)])∧w=w':=by
 have c0:w.cell? r=some (.func (.func 213) #[] #[.pointer a]):=Zu w r 0 _ _ _ b.1;clear b;have:=FJ #[.pointer a] w;have g1:decide (n<0)=true:=by simpa using c
 go_enter func223,ntmps223
 go_wp2
 go_ret2;exact⟨rfl,rfl⟩
def qS(w:WD)(s:BA)(i:Nat)(b:Int)(k:Nat)(c:VL)(wr:WD):Prop:=
 ∃a d,i+a≤8*s.size∧k=8*s.size-i-a∧c=.int .i64 a∧wr=w.drewN d∧ZU b 0 ((Qk s).drop i)=ZU b a ((Qk s).drop (i+a))
def Tn(r a:Nat)(s:BA)(i:Nat)(w:WD)(p:Nat × Nat)(e:Ending)(w':WD):Prop:=
 e=.returned (.tuple #[p.1,p.2])∧Rd w' r a s (if p.2=0 then i+p.1+1 else i)∧Qb [r] w w'
def Qii(r c:Nat)(s:BA)(i:Nat)(e:Int)(w:WD)(d:Rd w r c s i)(hs:s.size≤1125899906842624)(hi:i≤8*s.size)(h0:0≤e):
 Calls prog 223 #[.pointer r,e] w (Tn r c s i w<|ZU e 0<|(Qk s).drop i):=by
 have c0:w.cell? r=some (.func (.func 213) #[] #[.pointer c]):=Zu w r 0 _ _ _ d.1;have c1:w.cell? ⟨r,1,none⟩=some (.int .i64 i):=Zu w r 1 _ _ _ d.1;have c2:w.cell? ⟨r,2,none⟩=some (.int .i64 (8*s.size:Nat)):=Zu w r 2 _ _ _ d.1;have k:w.cell? c=some (.string s):=Zu w c 0 _ _ _ d.2.1;have:=Ur w r 1 _ _ d.1;have g:=Qa d;clear d;have:=FJ #[.pointer c] w;have a:s.data.toList.length=s.size:=by simp only[Rr];rfl
 have h:=Qa a;clear a;go_enter func223,ntmps223
 go_wp2
 go_loopg [6] (8*s.size-i) (fun b a wr=>qS w s i e b a wr)
 ·exact⟨0,0,by omega,by omega,rfl,rfl,rfl⟩
 obtain⟨a,b,b,hk,rfl,rfl,b⟩:=hrel;have⟨m,j⟩:=qb hk b;clear hk b;have:IntKind.i64.wrap ((i:Int)+a)=(i:Int)+a:=Q3 _ (by omega)
 by_cases hlt:i+a<8*s.size
 ·have o:(i:Int)+a<8*(s.size:Int):=by omega
  go_wp2
  go_quiet (fail)
  go_wp2
  by_cases hb:X4 s (i+a)=true
  ·have n:(((X4 s<|i+a).toNat:Int)==0)=false:=(by rw[hb];rfl);have b:=Qij e a (i+a) s (by rw[h.o];exact hlt) hb;rw[←j.o]at b;have f:=Qa b;clear b hb
   by_cases l:(a:Int)=e
   ·subst l;go_quiet ((go_at_call 213;exact Kx<|Iu s (i+a) c _ _ (by omega) hs (by omega) k))
    go_wp2
    go_ret2;have:=f.o;simp only[Co]at this;rw[this];exact⟨rfl,g.o,(Qc _ _).drewN _⟩
   have:((a:Int)==e)=false:=(by simpa using l);go_quiet ((go_at_call 213;exact Kx<|Iu s (i+a) c _ _ (by omega) hs (by omega) k))
   go_wp2
   go_roundg (8*s.size-i-(a+1))
   ·exact⟨a+1,_,by omega,rfl,by go_num,rfl,by have:=f.o;rw[Qf l]at this;exact this⟩
   have:=m.o;omega
  have hb:X4 s (i+a)=false:=by simpa using hb
  have n:(((X4 s<|i+a).toNat:Int)==0)=true:=by rw[hb];rfl
  have b:=Qik e a (i+a) s (by rw[h.o];exact hlt) hb;rw[←j.o]at b;have f:=Qa b;clear b hb;go_quiet ((go_at_call 213;exact Kx<|Iu s (i+a) c _ _ (by omega) hs (by omega) k))
  go_wp2
  go_ret2;rw[f.o];obtain⟨m,n,k⟩:=g.o;refine⟨rfl,⟨?_,?_,k⟩,?_⟩
  ·have l:Value.int .i64 ((i:Int)+(a+1))=.int .i64 ((i+a+1:Nat):Int):=(by first|go_num|(congr 1;omega));rw[l];exact FR (w.drewN _) r 1 _ _ ((i+a+1:Nat):Int) m
  ·exact(heap_setCell_other (w.drewN _) ⟨r,1,none⟩ c _ fun d=>k d.symm).trans n
  exact((Qc _ _).drewN _).setCell (by simp) _
 have o:8*(s.size:Int)≤i+a:=by omega
 have b:=Qih e a (i+a) s (by rw[h.o];omega);rw[←j.o]at b;have f:=Qa b;clear b
 go_wp2
 go_quiet (fail)
 go_wp2
 go_ret2;rw[f.o];exact⟨rfl,g.o,((Qc _ _).drewN _).drewN _⟩
def XJ:(prog.info? 3).map (fun i=>(i.zero,i.size,i.bytes))=some (some<|.int .i64 0,1,8):=by kernel_rfl
def FB(l:LB):LV:=l.map fun a=>.int .i64 (a.toNat:Nat)

def Qp.part{w:WD}{a:OA}{n:Nat}{xs:LV}(d:Qp w 1 a n xs)(i m:Nat)(hi:i+m≤n){a':OA}(ha:0<m→∀b off,a=some ⟨b,off,none⟩→a'=some ⟨b,off+i,none⟩):
 Qp w 1 a' m ((xs.drop i).take m):=by
 have:=d.1;refine⟨by simp;omega,fun e h c=>?_⟩;have f:e<m:=by have:=(Qz.1 c).1;simp at this;omega
 rw[Bm,Qg f,J4]at c;obtain⟨b,off,g,f⟩:=d.2 (i+e) h c;exact⟨b,off+i,ha (by omega) b off g,by rwa[Ja]⟩
def QM(xs:LI):LV:=xs.map (Value.int .i64)
def Xk(xs:LI):(QM xs).length=xs.length:=by simp[QM]
def Ex(xs:LI)(i:Nat)(x:Int)(a:xs[i]?=some x):(QM xs)[i]?=some (.int .i64 x):=by simp[QM,a]
def Qp.lit{w0:WD}{news:LV}{e:TypeId}{m:Nat}(a:news.length=m):Qp (w0.alloc<|.cells news.toArray e) 1 w0.heap.size m news:=by refine⟨by omega,fun d a c=>⟨_,_,rfl,?_⟩⟩;have a:=Xf w0<|.cells news.toArray e;have b:=Zu _ w0.heap.size d _ _ _ a;rw[ZE,b];simpa using c
def Qp.int{w:WD}{b off n i:Nat}{x:Int}{xs:LI}(c:Qp w 1 (some ⟨b,off,none⟩) n (QM xs))(e:xs[i]?=some x):w.cell? ⟨b,off+i,none⟩=some (.int .i64 x):=by obtain⟨a,a,a,d⟩:=c.2 i _<|Ex xs i x e;injection a with a;injection a with a h2;subst a h2;exact d
def UW{P:Program}(w0:WD){w:WD}{g:Array Oper}{h:List Oper}{d:Oper}{a:Act}{f:Exit→Act→WD→Prop}
 (k:d.guard=none)(s x:Operand)(t:TypeId)(p:d.op=Op.call {callee:=Callee.builtin Builtin.append,args:=#[s,x],argTypes:=#[t,t]})
 (e:TypeId)(z:VL)(bytes:Nat)(r:P.underlying t=some (.slice e))(T:(P.info? e).map (fun i=>(i.zero,i.size,i.bytes))=some (some z,1,bytes))(hz:z.cells.size=1)
 (v:VL)(xs news:LV)(m:Nat)(hs:a.eval s=v)(c:a.eval x=.slice w0.heap.size m m)(hw:w=w0.alloc (.cells news.toArray e))(l:news.length=m)
 (o:∀u∈news,u.oneCell'=true)
 (q:Qh w0 e v xs)(n:xs.length+m≤maxLen)(hb:(xs.length+m)*bytes≤140737488355328)
 (j:∀a' b w',Qh w' e (.slice a' (xs.length+m) b) (xs++news)→Qb (Qd v) w0 w'→QP w0.heap.size (Qd v) (Qd<|.slice a' (xs.length+m) b)→
  wpList P g f h (a.put d.dst<|.slice a' (xs.length+m) b) w'):
 wpList P g f (d::h) a w:=by
 subst hw;have h:Qb (Qd v) w0 (w0.alloc<|.cells news.toArray e):=(Qc _ _).alloc _;refine CI k s x t p e z bytes r T hz v xs news _ m m hs c o (World.ownsRow.alloc q _) (Qp.lit l) (fun d=>by cases d) n hb fun a' b w' d f g=>j a' b w' d ?_ ?_
 ·exact h.trans f fun x c=>.inl c
 intro x c;rcases g x c with b|b
 ·exact .inl b
 exact .inr (by simp at b;omega)
def QK(w:WD)(g:Nat)(xs:LV):Prop:=
 ∃(b:Array VL)(a:TypeId)(c:Nat × Nat),w.heap[g]?=some (.cells b a c)∧xs.length≤b.size∧(∀(a:Nat)(d:VL),xs[a]?=some d→b[a]?=some d)∧(∀a,a<xs.length→¬(c.1≤a∧a<c.2))
def QK.cell{w:WD}{g:Nat}{xs:LV}(c:QK w g xs){i:Nat}{u:VL}(hi:xs[i]?=some u):w.cell? ⟨g,i,none⟩=some u:=by obtain⟨a,f,b,e,d,d,hf⟩:=c;rw[Zu w g i a f b e];exact d i u hi
def QK.free{w:WD}{g:Nat}{xs:LV}(a:QK w g xs){i:Nat}(hi:i<xs.length):w.frozen? ⟨g,i,none⟩=false:=by obtain⟨b,b,⟨lo,up⟩,b,c,c,hf⟩:=a;have:=hf i hi;simp only[World.frozen?,b];simp at this ⊢;omega
def QK.set{w:WD}{g:Nat}{xs:LV}(h:QK w g xs)(i:Nat)(u:VL)(hi:i<xs.length):QK (w.setCell ⟨g,i,none⟩ u) g (xs.set i u):=by
 obtain⟨q,t,fr,hg,hl,hc,hf⟩:=h;refine⟨q.setIfInBounds i u,t,fr,?_,by simpa using hl,?_,by simpa using hf⟩
 ·rw[setCell_eq_setRow w g i q t fr u hg];exact KL w g q _ t _ hg
 intro j x o;rw[YO]at o;rw[Lb]
 split at o
 ·rename_i y;subst y;rw[Qg rfl,Qg<|by omega];simpa[hi]using o
 rename_i y;rw[Qf y];exact hc j x o
def QK.kept{S:LN}{w w':WD}{g:Nat}{xs:LV}(c:QK w g xs)(hk:Qb S w w')(e:g∉S):QK w' g xs:=by obtain⟨a,h,b,d,f⟩:=c;exact⟨a,h,b,hk.heap d e,f⟩
def QK.lt{w:WD}{g:Nat}{xs:LV}(a:QK w g xs):g<w.heap.size:=by obtain⟨b,b,b,b,c⟩:=a;exact BF b
def QK.sees{w:WD}{g:Nat}{xs:LV}(a:QK w g xs):Qp w 1 g xs.length xs:=
 ⟨by omega,fun b b b=>⟨g,0,rfl,by rw[ZE];exact a.cell b⟩⟩
def QK.of_block{w:WD}{g:Nat}{xs:LV}{t:TypeId}(a:w.heap[g]?=some (.cells xs.toArray t (0,0))):QK w g xs:=
 ⟨xs.toArray,t,(0,0),a,by simp,fun a b hi=>by simpa using hi,fun a hi=>by simp⟩
def QK.new(w:WD)(xs:LV)(t:TypeId):QK (w.alloc<|.cells xs.toArray t) w.heap.size xs:=.of_block<|Xf w _
def Qh.blk{w:WD}{e:TypeId}{g n cap:Nat}{xs:LV}(a:Qh w e (.slice g n cap) xs):QK w g xs:=by
 rcases a.2 with⟨a,f⟩|⟨b,b,c,d,hb,h,b,b,b,b⟩
 ·cases a
 injection d with a f h3;injection a with a;injection a with a;subst a;rw[RY]at b;refine⟨c,e,(0,0),h,by omega,fun a c hi=>?_,fun a hi=>by simp⟩;have a:=(Qz.1 hi).1;rw[←b,Bm,Qg a]at hi;simpa using hi
def Qh.empty(w:WD)(e:TypeId):Qh (w.alloc<|.cells #[] e) e (.slice w.heap.size 0 0) []:=
 ⟨by simp,.inr ⟨w.heap.size,0,#[],rfl,ZF _,Xf w _,by simp,by simp[maxLen],by simp,by simp⟩⟩
def Qh.sZ{w:WD}{e:TypeId}{a:OA}{n c:Nat}{xs:LV}(b:Qh w e (.slice a n c) xs):Qp w 1 a n xs:=by have f:=b.len;obtain⟨d,d,g,-,-,d,-⟩:=b.sees;injection g with b h2 h3;subst b;rwa[f]at d
def TN(w:WD)(s:BA):∃cap,(convert 9 88<|.string s).run prog w=.ok (.slice w.heap.size s.size cap)
 (w.drew.alloc<|.cells (bytesRow s cap) 5 ((bytesRow s cap).size,(bytesRow s cap).size+1))∧s.size≤cap:=
 ⟨_,run_bytes_of_string w 9 88 5 s Yj Xb AE,grownCap_ge _ _ _ _⟩
def QK.bytes(w:WD)(s:BA)(cap:Nat)(a:s.size≤cap):QK (w.alloc<|.cells (bytesRow s cap) 5 ((bytesRow s cap).size,(bytesRow s cap).size+1)) w.heap.size (Qm s):=by
 have:(bytesRow s cap).size=cap:=by have:s.data.size=s.size:=rfl;simp[bytesRow];omega
 have b:(Qm s).length=s.size:=by simp[Qm]
 refine⟨_,_,_,Xf w _,by omega,fun a c hi=>?_,fun a hi=>by simp only;omega⟩;have hlt:=(Qz.1 hi).1;rw[b]at hlt;have b:a<s.data.size:=hlt;rw[bytesRow_at s cap a b,←hi];simp[Qm,RP b]
def KH{P:Program}(g a:Nat):∀(b:LV)(i:Nat)(xs:LV)(w:WD),QK w g xs→a+i+b.length≤xs.length→(∀v∈b,v.oneCell'=true)→
 ∃w',(storeCells ⟨g,a,none⟩ b i).run P w=.ok () w'∧QK w' g (xs.take (a+i)++b++xs.drop (a+i+b.length))∧Qb [g] w w'
 | [],i,xs,w,h,_,_=>⟨w,rfl,by simpa using h,Qc _ _⟩
 |v::rest,i,xs,w,h,hl,h1=>by
  have hi:a+i<xs.length:=by simp at hl;omega
  have b:(⟨g,a,none⟩:Addr).add i=⟨g,a+i,none⟩:=YM _ _ _;have c:=h.cell<|Qj hi;have d:=h.free hi;have e:(store ((⟨g,a,none⟩:Addr).add i) v).run P w=.ok () (w.setCell ⟨g,a+i,none⟩ v):=by rw[b,run_store P w _ v _<|h1 v<|by simp,c];simp[d]
  obtain⟨w',d,hb,hk⟩:=KH (P:=P) g a rest (i+1) (xs.set (a+i) v) _ (h.set (a+i) v hi) (by simp at hl ⊢;omega) (fun c b=>h1 c<|by simp[b]);refine⟨w',?_,?_,((Qc _ _).setCell (by simp) _).trans hk fun c b=>.inl b⟩
  ·simp only[storeCells,Sem.run_bind,e,UF];exact d
  have b:=list_seg_step xs (a+i) v rest (by simp at hl;omega);rwa[show a+(i+1)=a+i+1 by omega,b]at hb
def Qfw{P:Program}(w:WD)(f r s c:TypeId)(g d e m:Nat)(h l:OA)(k q:Nat)(xs a:LV)
 (p:P.underlying f=some (.slice c))(hs:(P.info? c).map (·.size)=some 1)
 (n:QK w g xs)(o:a.length=Nat.min k e)(x:0<a.length→h=some ⟨g,d,none⟩∧∃b,l=some b∧∀j v,a[j]?=some v→w.cell? (b.add j)=some v)
 (u:d+a.length≤xs.length)(t:∀v∈a,v.oneCell'=true):
 ∃w',(Builtin.copy_ #[f,r] s #[.slice h e m,.slice l k q]).run P w=.ok (goInt a.length) w'∧QK w' g (splice xs d a)∧Qb [g] w w':=by
 by_cases h0:a.length=0
 ·obtain rfl:a=[]:=J3 h0;exact⟨w,run_copy_none (P:=P) w f r s c h l e m k q p hs<|by simpa using o.symm,by simpa[splice]using n,Qc _ _⟩
 obtain⟨rfl,b,rfl,f⟩:=x (by omega);have e:=run_loadCells_list (P:=P) w b a f;obtain⟨w',b,hb,hk⟩:=KH (P:=P) g d a 0 xs w n (by simpa using u) t;refine⟨w',?_,by simpa[splice]using hb,hk⟩;cases hq:P.info? c with
 |none=>simp[hq]at hs
 |some i=>
  have hi:i.size=1:=by simpa[hq]using hs
  simp[Builtin.copy_,YX p,Builtin.lenOf,Builtin.firstCells,sizeOf,typeInfo,hq,hi,←o,e,b]
def KO{P:Program}{o:Array Oper}{c:Oper}{a:Act}{w:WD}{K:Act→WD→Prop}{t:Exit→Act→WD→Prop}{r:Prop}(z:c.guard=none)(d s:Operand)(f q:TypeId)
 (B:c.op=.call {callee:=.builtin .copy,args:=#[d,s],argTypes:=#[f,q]})(i:TypeId)(E:P.underlying f=some (.slice i))(D:(P.info? i).map (·.size)=some 1)
 (h l:OA)(e n k p:Nat)(x:a.eval d=.slice h e n)(hs:a.eval s=.slice l k p)
 (g off:Nat)(xs b:LV)(hb:QK w g xs)(A:b.length=Nat.min k e)
 (C:0<b.length→h=some ⟨g,off,none⟩∧∃m,l=some m∧∀j v,b[j]?=some v→w.cell? (m.add j)=some v)
 (y:off+b.length≤xs.length)(u:∀v∈b,v.oneCell'=true)
 (m:∀w',QK w' g (splice xs off b)→Qb [g] w w'→K (a.put c.dst<|goInt b.length) w'):
 if Region.wanted c (yielded o a.tmps)=true then Oper.wp P c a w K t else r:=by
 have hw:Region.wanted c (yielded o a.tmps)=true:=by simp[Region.wanted,z]
 rw[Qg hw];obtain⟨w',QU,o,hk⟩:=Qfw (P:=P) w f q c.type i g off e n h l k p xs b E D hb A C y u;unfold Oper.wp;simp[execOp,B,resolve,invoke,builtin,x,hs,QU,Result.andThen];exact m w' o hk
def jB{α:Type}[Inhabited α](f:α→VL)(l:List α)(p:Nat)(a:p<l.length):(splice (l.map f) 1<|(l.map f).take p).set 0 (f<|l.getD p default)=(K.turned l p).map f:=by
 rw[Qia];apply Xo;intro b;rw[YO];have a:(splice (l.map f) 1<|(l.map f).take p).length=l.length:=by rw[Nz _ _ _ (by simp;omega)];simp
 cases b with
 |zero=>rw[Qg rfl,Qg (by rw[a];omega)];rfl
 |succ b=>
  rw[Qf<|by omega];clear a;unfold splice;rw[QR,V3,Xi,Zx (by simp;omega),←DN,←List.map_drop];have a:(List.take 1<|l.map f).length=1:=by simp;omega
  have b:((l.take p).map f).length=p:=by simp;omega
  rw[a,b,UE,BY 1 p]
def Qe(w:WD)(g:Nat)(t:TypeId)(xs:LV):Prop:=w.heap[g]?=some (.cells xs.toArray t (0,0))
def Qy(w:WD)(xs:LV)(t:TypeId):Qe (w.alloc<|.cells xs.toArray t) w.heap.size t xs:=Xf w _
def Qe.cell{w:WD}{g:Nat}{t:TypeId}{xs:LV}(a:Qe w g t xs){i:Nat}{u:VL}(hi:xs[i]?=some u):w.cell? ⟨g,i,none⟩=some u:=by rw[Zu w g i _ t _ a];simpa using hi
def Qe.free{w:WD}{g:Nat}{t:TypeId}{xs:LV}(a:Qe w g t xs)(i:Nat):w.frozen? ⟨g,i,none⟩=false:=Ur w g i _ t a
def Qe.set{w:WD}{g:Nat}{t:TypeId}{xs:LV}(a:Qe w g t xs)(i:Nat)(u:VL):Qe (w.setCell ⟨g,i,none⟩ u) g t (xs.set i u):=by have:=FR w g i _ t u a;unfold Qe;rw[this,RW]
def Qe.six{w:WD}{g:Nat}{t:TypeId}{u v:VL}(a:Qe w g t [u,v])(x b:VL):w.cell? g=some u∧w.cell? ⟨g,1,none⟩=some v∧w.frozen? g=false∧w.frozen? ⟨g,1,none⟩=false∧
 ((w.setCell ⟨g,0,none⟩ x).setCell ⟨g,1,none⟩ b).cell? g=some x∧((w.setCell ⟨g,0,none⟩ x).setCell ⟨g,1,none⟩ b).cell? ⟨g,1,none⟩=some b:=
 ⟨a.cell rfl,a.cell rfl,a.free 0,a.free 1,((a.set 0 x).set 1 b).cell rfl,((a.set 0 x).set 1 b).cell rfl⟩
def Qe.kept{S:LN}{w w':WD}{g:Nat}{t:TypeId}{xs:LV}(a:Qe w g t xs)(hk:Qb S w w')(b:g∉S):Qe w' g t xs:=hk.heap a b
def Qe.lt{w:WD}{g:Nat}{t:TypeId}{xs:LV}(a:Qe w g t xs):g<w.heap.size:=BF a
def Qe.blk{w:WD}{g:Nat}{t:TypeId}{xs:LV}(a:Qe w g t xs):QK w g xs:=.of_block a
def iF{P:Program}(t e:TypeId)(n:Nat)(xs:LV)(k:IntKind)(i:Nat)(u:VL)(w:WD)(a:P.underlying t=some (.array n e))(hs:(P.info? e).map (·.size)=some 1)
 (ha:(isAgg e).run P w=.ok false w)(b:xs.length=n)(hi:xs[i]?=some u):
 (Instr.index t (.agg xs.toArray)<|.int k i).run P w=.ok u w:=by
 have hlt:=(Qz.1 hi).1;cases hq:P.info? e with
 |none=>simp[hq]at hs
 |some j=>
  have c:j.size=1:=by simpa[hq]using hs
  have b:i<n:=by omega
  simp[Instr.index,YX a,asIntOf,sizeOf,typeInfo,hq,c,go_sem,ha,hi,b]
def Qp.keptF{S:LN}{w w':WD}{size:Nat}{a:OA}{n:Nat}{xs:LV}(c:Qp w size a n xs)(hk:Qb S w w')(e:Qs w.heap.size S):Qp w' size a n xs:=by refine⟨c.1,fun h i g=>?_⟩;obtain⟨b,off,f,d⟩:=c.2 h i g;refine⟨b,off,f,hk.cZ d fun c=>?_⟩;have:=e b c;have:b<w.heap.size:=JN w _ d;omega
def Qp.keptB{S:LN}{w w':WD}{size:Nat}{a:OA}{n:Nat}{xs:LV}(b:Qp w size a n xs)(hk:Qb S w w')(c:0<xs.length→Qq (fZ a) S):Qp w' size a n xs:=by
 rcases V9 xs.length with h0|h0
 ·exact⟨b.1,fun d d d=>by have:=(Qz.1 d).1;omega⟩
 exact b.kept hk<|c h0
def VJ(w:WD)(e:LV)(c:List LV):Prop:=
 e.length=c.length∧∀(b:Nat)(d:VL)(a:LV),e[b]?=some d→c[b]?=some a→∃c b,d=.slice c a.length b∧Qp w 1 c a.length a∧a.length≤b∧b≤maxLen
def Xw(w:WD)(a:OA)(n:Nat)(c:List LV):Prop:=∃b,Qp w 1 a n b∧VJ w b c
def VJ.keptF{S:LN}{w w':WD}{c:LV}{b:List LV}(a:VJ w c b)(hk:Qb S w w')(i:Qs w.heap.size S):VJ w' c b:=
 ⟨a.1,fun j l k d e=>by obtain⟨b,c,f,g,h⟩:=a.2 j l k d e;exact⟨b,c,f,g.keptF hk i,h⟩⟩
def VJ.kZ{w w':WD}{b:LV}{a:List LV}(c:VJ w b a)(hk:Qb [] w w'):VJ w' b a:=c.keptF hk (by simp[Qs])
def Xw.keptF{S:LN}{w w':WD}{a:OA}{n:Nat}{c:List LV}(d:Xw w a n c)(hk:Qb S w w')(b:Qs w.heap.size S):Xw w' a n c:=by obtain⟨f,c,e⟩:=d;exact⟨f,c.keptF hk b,e.keptF hk b⟩
def Xw.kZ{w w':WD}{a:OA}{n:Nat}{b:List LV}(c:Xw w a n b)(hk:Qb [] w w'):Xw w' a n b:=c.keptF hk (by simp[Qs])
def Xw.len{w:WD}{a:OA}{n:Nat}{b:List LV}(c:Xw w a n b):b.length=n:=by obtain⟨b,b,d⟩:=c;have:=b.1;have:=d.1;omega
def Xw.at{w:WD}{a:OA}{n:Nat}{d:List LV}(e:Xw w a n d)(i:Nat)(r:LV)(hi:d[i]?=some r):
 ∃b off d c,a=some ⟨b,off,none⟩∧w.cell? ⟨b,off+i,none⟩=some (.slice d r.length c)∧Qp w 1 d r.length r∧r.length≤c∧c≤maxLen:=by
 obtain⟨k,h,f⟩:=e;have j:=(Qz.1 hi).1;have⟨e,g⟩:=qy k i (by rwa[f.1]);obtain⟨b,off,ha,l⟩:=h.2 i e g;obtain⟨d,c,rfl,h,j,k⟩:=f.2 i e r g hi;exact⟨b,off,d,c,ha,l,h,j,k⟩
