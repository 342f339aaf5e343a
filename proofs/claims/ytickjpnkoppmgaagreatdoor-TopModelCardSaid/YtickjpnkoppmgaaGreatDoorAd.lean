import Derived.BigQuiet
import Derived.Outline
import Derived.Deep.LoopGhost
import Derived.Deep.DeepCutAuto
import Derived.Laws.BitsAllLaws
import Derived.Laws.IdiomStrings
import Derived.Laws.IdiomCopy
import Derived.Deep.RegionLaw
import Derived.Laws.PanicsMore
import Derived.Test.YtickjpnkoppmgaaGreatDoorProg
import Derived.Test.YtickjpnkoppmgaaGreatDoorAc
import Derived.Test.YtickjpnkoppmgaaGreatDoorAb
set_option linter.all false
set_option maxHeartbeats 400000
set_option maxRecDepth 100000
namespace Go.Proofs.YtickjpnkoppmgaaGreatDoor
open Go.Proofs.Tryz Go.RowKit K
def Jg:(prog.info? 5).map (fun i=>(i.zero,i.size,i.bytes))=some (some<|.int .u8 0,1,1):=by kernel_rfl
def Qn(l:LU):LV:=l.map fun b=>.int .u8 (b.toNat:Int)
def Wr(w:WD)(b:Nat)(c:VL)(bs:LB):Prop:=
 w.heap[b]?=some (.cells #[c,bs.length] 262 (0,0))/\Qh w 5 c (Qn (Qw bs))/\b∉Qd c
def TG(w0:WD)(b v n:Nat)(g:VL)(bs:LB)(k:Nat)(i:VL)(w:WD):Prop:=
 ∃c e d,c<=n/\k=n-c/\i=.int .i64 ((n:Int)-1-c)/\d=bs++(K.low v n).take c/\Wr w b e d/\Qb (b::Qd g) w0 w/\(∀c∈Qd e,c∈Qd g\/w0.heap.size<=c)
def Qgs(b)(v n:Nat)(o0 bs w)(hn:n<=64)(hv:v<2^n)(hm:bs.length<=1000000000000)(hW:Wr w b o0 bs):
 Calls prog 119 #[.pointer b,.int .u64 v,n] w fun e w'=>e=.returned (0:Int)/\
  ∃o,Wr w' b o (bs++K.low v n)/\Qb (b::Qd o0) w w'/\(∀x∈Qd o,x∈Qd o0\/w.heap.size<=x):=by
 have g1:decide ((n:Int)<0)=false:=sx
 have g2:decide (64<(n:Int))=false:=zx
 have hI:TG w b v n o0 bs n (.int .i64<|(n:Int)-1) w:=⟨0,o0,bs,ox,ox,sx,sx,hW,Qc _ _,fun x hx=>.inl hx⟩;have HW:=Qa hW;clear hW;have Hv:=Qa hv;clear hv;have g5:(decide ((n:Int)<64)&&((v/2^n:Int) != 0))=false:=by
  have:=Nat.div_eq_of_lt Hv.o;have:((v:Int)/2^n)=0:=by exact_mod_cast this
  simp[this]
 have g4:((v/2^n:Int) != 0)=false:=by
  have:=Nat.div_eq_of_lt Hv.o;have:((v:Int)/2^n)=0:=by exact_mod_cast this
  simp[this]
 clear g5;go_enter func119,ntmps119
 go_upto_region 3 with(fail)
 go_cut [26] (fun z6 wc=>z6=.bool false/\w=wc)
 ·rcases(by cases decide ((n:Int)<64)<;>simp:decide ((n:Int)<64)=true\/decide ((n:Int)<64)=false)with g3|g3
  all_goals
   go_wp2
   go_meet;exact⟨rfl,rfl⟩
 obtain⟨rfl,rfl⟩:=hcut
 go_wp2
 go_loopg [7] n (fun k i wr=>TG w b v n o0 bs k i wr)
 ·exact hI
 obtain⟨j,o,y,hj,hk,rfl,x0,⟨hb,h2,hne⟩,h3,h1⟩:=hrel
 by_cases hlt:j<n
 ·have hq:∃q,q=y.length:=⟨_,rfl⟩;obtain⟨q,hq⟩:=hq;have p3:q<=1000000000064:=by rw[hq,x0,Qo,Zd,Yl];omega
  have x2:=Qa x0;clear x0;rw[<-hq]at hb;have c0:wr.cell? b=some o:=ZD wr b 0 _ _ _ hb;have c1:wr.cell? ⟨b,1,none⟩=some (.int .i64 q):=ZD wr b 1 _ _ _ hb;have f0:=UN wr b 0 _ _ hb;have f1:=UN wr b 1 _ _ hb;have Hq:=Qa hq;clear hq;have Hk:=Qa hk;clear hk
  go_upto_if 38 with(fail)
  go_cut [] (fun wc=>∃o1,wc.heap[b]?=some (.cells #[o1,.int .i64 q] 262 (0,0))/\Qh wc 5 o1 (Qn<|Qw<|y++[false])/\b∉Qd o1/\Qb (b::Qd o0) w wc/\(∀x∈Qd o1,x∈Qd o0\/w.heap.size<=x))
  ·by_cases h8:q%8=0
   ·have t8:((q:Int)%8==0)=true:=zx;have L0:(Qn<|Qw y).length<=1000000000064:=(by simp only[Qn,QH,UD];rw[<-Hq.o];omega);have L1:(Qn<|Qw y).length+1<=maxLen:=(by simp only[maxLen];omega);have L2:((Qn<|Qw y).length+1)*1<=140737488355328:=ox;have p4:=h2;generalize y2:Qn (Qw y)=xs at h2 L0 L1 L2;have y4:=Qa y2;clear y2;go_wp2_with ((at_builtin;go_must (refine Dt wr rfl _ _ 88 rfl 5 (.int .u8 0) 1 Xo Jg rfl o (.int .u8 0) xs rfl rfl rfl rfl h2 L1 L2 ?_);intro g cap w1 y9 h5 x5;have d0:=h5.cZ c0 hne;have d1:=h5.cZ c1 hne;have e0:=(h5.oZ c0 hne).trans f0;have e1:=(h5.oZ c1 hne).trans f1;have y5:=h5.heap hb hne));go_meet;have x3:¬b=g:=by
     rintro rfl;rcases x5 with h|h
     ·exact hne h
     have:=Ci hb;omega
    refine⟨_,GJ _ _ _ _ _ _ y5,?_,by simpa[Qd,qo]using x3,?_,?_⟩
    ·have e:Qn (Qw<|y++[false])=xs++[.int .u8 0]:=(by rw[jK,<-Hq.o,Qg h8,<-y4.o];simp[Qn]);rw[e];exact y9.setCell (by simpa[Qd,qo]using x3) _
    ·refine Qb.setCell (h3.trans h5 fun x hx=>?_) sx _;rcases h1 x hx with h|h
     ·exact .inl (by simp[h])
     exact .inr h
    intro x hx;obtain rfl:x=g:=(by simpa[Qd,qo]using hx);rcases x5 with h|h
    ·exact h1 _ h
    exact .inr<|QS h3.size h
   have t8:((q:Int)%8==0)=false:=zx;go_wp2_with (fail);go_meet;refine⟨o,hb,?_,hne,h3,h1⟩;rwa[jK,<-Hq.o,Qf h8]
  obtain⟨o1,hb,h2,hne,h3,h1⟩:=hcut;have c0:wc.cell? b=some o1:=ZD wc b 0 _ _ _ hb;have c1:wc.cell? ⟨b,1,none⟩=some (.int .i64 q):=ZD wc b 1 _ _ _ hb;have f0:=UN wc b 0 _ _ hb;have f1:=UN wc b 1 _ _ hb;have x1:bits BinOp.and IntKind.u64 ((v:Int)/2^(n-1-j)) 1=((v.testBit<|n-1-j).toNat:Int):=by have e:((v:Int)/2^(n-1-j))=((v/2^(n-1-j):Nat):Int):=(by norm_cast);rw[e,show(1:Int)=((1:Nat):Int)from rfl,u64_and_nat _ _ (by have:=EI v<|2^(n-1-j);have:=Hv.o;have:=Ju (n:=2) ox hn;omega) ox,nat_mask1,Nat.testBit_eq_decide_div_mod_eq];have:=J8 (v/2^(n-1-j)) (dx:0<2);rcases(ox:v/2^(n-1-j)%2=0\/v/2^(n-1-j)%2=1)with h|h<;>rw[h]<;>rfl
  have x9:(bs++(K.low v n).take (j+1)).length=q+1:=by
   have:=Hq.o;rw[x2.o]at this;rw[Qo,Zd,Yl]at*
   omega
  have y1:y++[v.testBit<|n-1-j]=bs++(K.low v n).take (j+1):=by rw[x2.o,Qdl v n j hlt,QR]
  have HL:=Qa x9;clear x9;have HT:=Qa y1;clear y1
  by_cases h4:v.testBit (n-1-j)=true
  ·have tb:(bits BinOp.and IntKind.u64 ((v:Int)/2^(n-1-j)) 1==1)=true:=(by rw[x1,h4];rfl);clear x1;have x8:(Qn<|Qw<|y++[false]).length=(q+8)/8:=(by simp only[Qn,QH,UD,Qo,QW,YE];have:=Hq.o;omega);obtain⟨g,cap,rfl,z8,p0,x4,x6,y0⟩:=h2.open ox;have y6:wc.cell? ⟨g,q/8,none⟩=some (.int .u8 (YW y (q/8):Nat)):=(by refine x4 _ _ ?_;have e:=GY (y++[false]) (q/8) (by rw[Qo,<-Hq.o];simp;omega);rw[Kp]at e;have hlt:=NA y<|q/8;simp only[Qn,Zz,e,Bg];simp[XH hlt]);have hB:=NA y<|q/8;have h9:=Qfq y;rw[<-Hq.o]at h9;have p2:(q:Int)/8<((Qn<|Qw<|y++[false]).length:Int):=ox;generalize YW y (q/8)=x at y6 hB h9;have HP:=Qa h9;clear h9;clear x4;have y3:=Qa y0;clear y0;have z7:=Qa x8;clear x8;have p1:=x6<|q/8;clear x6;have x7:¬g=b:=(by rintro rfl;exact hne<|by simp[Qd,qo]);have w1:IntKind.i64.wrap ((q:Int)/8)=(q:Int)/8:=(by exact Za _ ox);obtain⟨w2,w3⟩:(0:Int)<=(q:Int)/8/\((q:Int)/8).toNat=q/8:=ox
   go_wp2
   go_region
   all_goals
    go_wp2
    go_roundg (n-(j+1))
    case measure=>have:=Hk.o;omega
    have z1:Qw (y++[true])=(Qw<|y++[false]).set (q/8) (UInt8.ofNat<|x|||(128/2^(q%8))):=HP.o;have y7:(bits BinOp.or IntKind.u8 (x:Int)<|128/2^(q%8))=((x|||(128/2^(q%8)):Nat):Int):=(by have e:((128:Int)/2^(q%8))=((128/2^(q%8):Nat):Int):=(by norm_cast);rw[e,u8_or_nat _ _ hB (yx (EI 128<|2^(q%8)))]);have y8:x|||(128/2^(q%8))<256:=Nat.or_lt_two_pow (n:=8) hB (yx (EI 128<|2^(q%8)));refine⟨j+1,_,_,ox,rfl,by go_num,rfl,⟨?_,?_,hne⟩,?_,h1⟩
    ·rw[HL.o];exact GJ _ _ _ _ _ _<|(heap_setCell_other _ _ _ _ fun h=>x7 h.symm).trans hb
    ·rw[<-HT.o,h4,z1,y7];have e:Qn ((Qw<|y++[false]).set (q/8)<|UInt8.ofNat<|x|||(128/2^(q%8)))=(Qn<|Qw<|y++[false]).set (q/8) (.int .u8 ((x|||(128/2^(q%8)):Nat):Int)):=(by have e8:(UInt8.ofNat<|x|||(128/2^(q%8))).toNat=x|||(128/2^(q%8)):=(by rw[U6];exact XH y8);simp only[Qn,BU,e8]);rw[e];have:=y3.o (q/8)<|.int .u8 ((x|||(128/2^(q%8)):Nat):Int);exact(Qh.setCell (p:=⟨b,1,none⟩) (by simpa[Qh]using this) (by simp only[Qd,qo,EL,Zb];exact fun h=>x7 h.symm) _).drew
    exact((h3.setCell (by rcases h1 g (by simp[Qd,qo])with h|h;exact .inl (by simp[h]);exact .inr h) _).setCell sx _).drew
  have tb:(bits BinOp.and IntKind.u64 ((v:Int)/2^(n-1-j)) 1==1)=false:=by rw[x1];simp at h4;rw[h4];rfl
  go_wp2
  go_roundg (n-(j+1))
  ·simp only[Bool.not_eq_true]at h4;refine⟨j+1,_,_,ox,rfl,by go_num,rfl,⟨?_,?_,hne⟩,h3.setCell sx _,h1⟩
   ·rw[HL.o];exact GJ _ _ _ _ _ _ hb
   rw[<-HT.o,h4];exact h2.setCell hne _
  have:=Hk.o;omega
 obtain rfl:j=n:=ox
 go_wp2
 go_ret;refine⟨rfl,o,?_,h3,h1⟩;have e:(K.low v j).take j=K.low v j:=Q5 (by rw[Yl];omega);rw[<-e,<-x0];exact⟨hb,h2,hne⟩
def Qek(w):Calls prog 118 #[] w fun e w'=>e=.returned (.pointer w)/\w'=w.alloc (.cells #[.slice none 0 0,(0:Int)] 262):=by
 go_enter func118,ntmps118
 go_wp2
 go_ret;exact⟨rfl,rfl⟩
def Wr.new(w:WD):Wr (w.alloc<|.cells #[.slice none 0 0,(0:Int)] 262) w.heap.size (.slice none 0 0) []:=
 ⟨Xq w _,Qh.nil _ _,by simp[Qd,qo]⟩
def Wr.kept{S w w' b c bs}(h:Wr w b c bs)(hk:Qb S w w')(ha:Qq (b::Qd c) S):Wr w' b c bs:=
 ⟨hk.heap h.1<|ha b sx,h.2.1.kept hk fun d c=>ha d<|by simp[c],h.2.2⟩
def Wr.lt{w b c bs}(h:Wr w b c bs):∀x∈b::Qd c,x<w.heap.size:=by
 intro x c;rcases QD.1 c with rfl|c
 ·exact Ci h.1
 exact h.2.1.lt x c
def rF(w:WD)(e:Ending)(w':WD):Prop:=∃b,e=.returned (.pointer (some ⟨b,0,none⟩))/\Wr w' b (.slice none 0 0) []/\Qb [] w w'/\Qu w.heap.size (b::Qd (.slice none 0 0))
def DX(w):Calls prog 118 #[] w (rF w):=
 (Qek w).mono fun c c ⟨c,hw⟩=>⟨_,c,by rw[hw];exact Wr.new w,by rw[hw];exact(Qc _ _).alloc _,by simp[Qu,Qd,qo]⟩
def rZ(w:WD)(b:Nat)(d:VL)(bs:LB)(e:Ending)(w':WD):Prop:=
 e=.returned (0:Int)/\∃c,Wr w' b c bs/\Qb (b::Qd d) w w'/\QQ w (b::Qd d) (b::Qd c)
def RH(b)(v n:Int)(y bs w)(h4:0<=n)(hn:n<=64)(h5:0<=v)(hv:v.toNat<2^n.toNat)(hm:bs.length<=1000000000000)(hW:Wr w b y bs):
 Calls prog 119 #[.pointer b,.int .u64 v,n] w (rZ w b y<|bs++K.low v.toNat n.toNat):=by
 obtain⟨n,rfl⟩:=Yu h4;obtain⟨v,rfl⟩:=Yu h5;refine(Qgs b v n y bs w ox (by simpa using hv) hm hW).mono fun e w' ⟨he,o,h1,h2,h3⟩=>⟨he,o,by simpa using h1,h2,fun x q=>?_⟩
 rcases QD.1 q with rfl|q
 ·exact .inl sx
 exact(h3 x q).imp (XO _) id
def DT(w b c bs)(h:Wr w b c bs):Calls prog 123 #[.pointer b] w fun e w'=>e=.returned bs.length/\w=w':=by
 have c1:w.cell? ⟨b,1,none⟩=some (.int .i64 bs):=ZD w b 1 _ _ _ h.1;clear h;go_enter func123,ntmps123
 go_wp2
 go_ret;exact⟨rfl,rfl⟩
def Qke(w):(convert 88 9<|.slice none 0 0).run prog w=.ok (.string ⟨#[]⟩) w:=by kernel_rfl
def Qh.text{w v l}(h:Qh w 5 v (Qn l)):(convert 88 9 v).run prog w=.ok (.string ⟨l.toArray⟩) w:=by
 rcases h.2 with⟨rfl,q⟩|⟨g,cap,h1,rfl,hb,hg,h5,h3,h4,ht⟩
 ·have:l=[]:=by simpa[Qn]using q
  subst this;exact Qke w
 have o:w.ownsRow 0 5 1 (.slice g (Qn l).length cap) (Qn l).length (Qn l):=h;have hl:(Qn l).length=l.length:=by simp[Qn]
 rw[hl]at o ⊢;refine lK w _ _ _ ⟨g,0,none⟩ cap l Xo Bi Yw fun j y=>?_
 rw[Jc,Zu,o.cellAt j ox];simp[Qn,y]
def Eg(w b c bs)(h:Wr w b c bs):Calls prog 122 #[.pointer b] w fun e w'=>e=.returned (.string ⟨(Qw bs).toArray⟩)/\w=w':=by
 have c0:w.cell? b=some c:=ZD w b 0 _ _ _ h.1;have:=Qh.text h.2.1;clear h;go_enter func122,ntmps122
 go_wp2
 go_ret;exact⟨rfl,rfl⟩
def put_nil(v n:Int)(w):Calls prog 119 #[.pointer none,.int .u64 v,n] w fun e w'=>e=.returned (1:Int)/\w=w':=by
 go_enter func119,ntmps119
 go_wp2
 go_ret;exact⟨rfl,rfl⟩
def Rd(w:WD)(r c:Nat)(s:BA)(i:Nat):Prop:=
 w.heap[r]?=some (.cells #[.func (.func 213) #[] #[.pointer c],i,(8*s.size:Nat)] 305 (0,0))/\
  w.heap[c]?=some (.cells #[s] 9 (0,0))/\r≠c
def Qej(s:BA)(i w)(hs:s.size<=1125899906842624)(hi:i<=8*s.size):
 Calls prog 170 #[s,i] w fun e w'=>e=.returned (.pointer (w.heap.size+1:Nat))/\
  w'=(w.alloc<|.cells #[s] 9).alloc (.cells #[.func (.func 213) #[] #[.pointer w],i,(8*s.size:Nat)] 305):=by
 have g1:decide ((i:Int)<0)=false:=sx
 have:decide (8*(s.size:Int)<i)=false:=zx
 go_enter func170,TU
 go_wp2
 go_ret;refine⟨rfl,sx⟩
def Rd.kept{S w w' r c s i}(h:Rd w r c s i)(hk:Qb S w w')(ha:Qq [r,c] S):Rd w' r c s i:=
 ⟨hk.heap h.1<|ha r sx,hk.heap h.2.1<|ha c sx,h.2.2⟩
def Rd.lt{w r c s i}(h:Rd w r c s i):∀x∈[r,c],x<w.heap.size:=by
 intro x c;rcases QD.1 c with rfl|c
 ·exact Ci h.1
 rw[Zb.1 c];exact Ci h.2.1
def rE(w:WD)(s:BA)(i:Nat)(e:Ending)(w':WD):Prop:=
 ∃r c,e=.returned (.pointer (some ⟨r,0,none⟩))/\Rd w' r c s i/\Qb [] w w'/\Qu w [r,c]
def DW(s:BA)(i:Int)(w:WD)(hs:s.size<=1125899906842624)(h0:0<=i)(hi:i.toNat<=8*s.size):
 Calls prog 170 #[s,i] w (rE w s i.toNat):=by
 obtain⟨i,rfl⟩:=Yu h0;simp only[ZH]at hi ⊢;refine(Qej s i w hs hi).mono fun c c ⟨c,hw⟩=>⟨_,w.heap.size,c,?_,by rw[hw];exact((Qc _ _).alloc _).alloc _,by simp[Qu]⟩
 rw[hw];refine⟨?_,heap_alloc2_old w _ _,ox⟩;exact heap_alloc2_new w _ _
def iP(s:BA)(i:Int)(w:WD)(hs:s.size<=1125899906842624)(hi:i<0\/(8*s.size:Nat)<i):
 Calls prog 170 #[s,i] w fun e w'=>e=.returned (.pointer none)/\w'=w.alloc (.cells #[s] 9):=by
 by_cases c:i<0
 ·have g1:decide ((i:Int)<0)=true:=by simpa using c
  go_enter func170,TU
  go_wp2
  go_ret;exact⟨rfl,rfl⟩
 have g1:decide ((i:Int)<0)=false:=by simpa using c
 have:decide (8*(s.size:Int)<i)=true:=zx
 go_enter func170,TU
 go_wp2
 go_ret;exact⟨rfl,rfl⟩
def vC(s:BA)(i c:Nat)(w:WD)(hs:s.size<=1125899906842624)(hi:i<8*s.size)(d:w.cell? c=some (.string s)):
 Calls prog 213 #[i,.pointer c] w fun e w'=>e=.returned (.int .u64 ((Yq s i).toNat:Nat))/\w=w':=by
 have c:i/8<s.size:=ox
 have:(i:Int)/8<(s.size:Int):=ox
 go_enter func213,ntmps213
 go_wp2
 go_ret;refine⟨kS ?_,rfl⟩;have hb:((s[i/8]'c).toNat:Nat)<256:=(s[i/8]'c).toNat_lt;have d:IntKind.u64.wrap ((s[i/8]'c).toNat:Int)=((s[i/8]'c).toNat:Int):=by rw[J3];omega
 have g:(s.data.toList.getD (i/8) 0)=s[i/8]'c:=by
  have:i/8<s.data.toList.length:=by simpa using c
  rw[List.getD,Qj this];rfl
 unfold Yq;rw[d,g,Hr,show((s[i/8]'c).toNat:Int)/2^(7-i%8)=(((s[i/8]'c).toNat/2^(7-i%8):Nat):Int)by norm_cast,show(1:Int)=((1:Nat):Int)from rfl,
  u64_and_nat _ _ (yx (EI (s[i/8]'c).toNat<|2^(7-i%8))) ox,nat_mask1]
def Ko(s:BA)(i c:Nat)(x:Int)(w:WD)(g:x=(i:Nat))(hs:s.size<=1125899906842624)(hi:i<8*s.size)(d:w.cell? c=some (.string s)):
 Calls prog 213 #[x,.pointer c] w fun e w'=>e=.returned (.int .u64 ((Yq s i).toNat:Nat))/\w=w':=by
 subst g;exact vC s i c w hs hi d
def at_ok(r c:Nat)(s:BA)(i:Nat)(w:WD)(h:Rd w r c s i):Calls prog 222 #[.pointer r] w fun e w'=>e=.returned i/\w=w':=by
 have c1:w.cell? ⟨r,1,none⟩=some (.int .i64 i):=ZD w r 1 _ _ _ h.1;clear h;go_enter func222,ntmps222
 go_wp2
 go_ret;exact⟨rfl,rfl⟩
def take_nil(n:Int)(w:WD):Calls prog 171 #[.pointer none,n] w fun e w'=>e=.returned (.tuple #[.int .u64 0,(1:Int)])/\w=w':=by
 go_enter func171,IT
 go_wp2
 go_ret2;exact⟨rfl,rfl⟩
def GA(c:Array VL)(w:WD):(binOp BinOp.eql 303 (.func (.func 213) #[] c) .nilFunc).run prog w=.ok (.bool false) w:=by kernel_rfl
def Qkb(r c:Nat)(s:BA)(i:Nat)(n:Int)(w:WD)(h:Rd w r c s i)(d:n<0\/64<n):
 Calls prog 171 #[.pointer r,n] w fun e w'=>e=.returned (.tuple #[.int .u64 0,(2:Int)])/\w=w':=by
 have c0:w.cell? r=some (.func (.func 213) #[] #[.pointer c]):=ZD w r 0 _ _ _ h.1;clear h;have:=GA #[.pointer c] w
 by_cases h:n<0
 ·have g1:decide (n<0)=true:=by simpa using h
  go_enter func171,IT
  go_wp2
  go_ret2;exact⟨rfl,rfl⟩
 have g1:decide (n<0)=false:=by simpa using h
 have:decide (64<n)=true:=zx
 go_enter func171,IT
 go_wp2
 go_ret2;exact⟨rfl,rfl⟩
def Qkd(r c:Nat)(s:BA)(i n:Nat)(w:WD)(h:Rd w r c s i)(hs:s.size<=1125899906842624)(hi:i<=8*s.size)(d:n<=64)(d:8*s.size<i+n):
 Calls prog 171 #[.pointer r,n] w fun e w'=>e=.returned (.tuple #[.int .u64 0,(10:Int)])/\∃m,w'=w.drewN m:=by
 have c0:w.cell? r=some (.func (.func 213) #[] #[.pointer c]):=ZD w r 0 _ _ _ h.1;have c1:w.cell? ⟨r,1,none⟩=some (.int .i64 i):=ZD w r 1 _ _ _ h.1;have c2:w.cell? ⟨r,2,none⟩=some (.int .i64 (8*s.size:Nat)):=ZD w r 2 _ _ _ h.1;clear h;have:=GA #[.pointer c] w;have g1:decide ((n:Int)<0)=false:=sx
 have:decide (64<(n:Int))=false:=zx
 have:IntKind.i64.wrap (8*(s.size:Int)-i)=8*(s.size:Int)-i:=Za _ ox;have g3:8*(s.size:Int)-i<n:=ox
 go_enter func171,IT
 go_wp2
 go_quiet (fail)
 go_wp2
 go_ret2;exact⟨rfl,_,rfl⟩
def tC(w:WD)(s:BA)(i n:Nat)(k:Nat)(v c:VL)(wr:WD):Prop:=
 ∃d e,d<=n/\k=n-d/\c=.int .i64 d/\v=.int .u64 (K.num (QZ (Ql s) i d):Nat)/\wr=w.drewN e
def Qkc(r q:Nat)(s:BA)(i n:Nat)(w:WD)(h:Rd w r q s i)(hs:s.size<=1125899906842624)(hn:n<=64)(hl:i+n<=8*s.size):
 Calls prog 171 #[.pointer r,n] w fun e w'=>e=.returned (.tuple #[.int .u64 (K.num (QZ (Ql s) i n):Nat),(0:Int)])/\
  Rd w' r q s (i+n)/\Qb [r] w w':=by
 have c0:w.cell? r=some (.func (.func 213) #[] #[.pointer q]):=ZD w r 0 _ _ _ h.1;have c1:w.cell? ⟨r,1,none⟩=some (.int .i64 i):=ZD w r 1 _ _ _ h.1;have c2:w.cell? ⟨r,2,none⟩=some (.int .i64 (8*s.size:Nat)):=ZD w r 2 _ _ _ h.1;have cq:w.cell? q=some (.string s):=ZD w q 0 _ _ _ h.2.1;have f1:=UN w r 1 _ _ h.1;have H:=Qa h;clear h;have x1:=GA #[.pointer q] w;have g1:decide ((n:Int)<0)=false:=sx
 have g2:decide (64<(n:Int))=false:=zx
 have w1:IntKind.i64.wrap (8*(s.size:Int)-i)=8*(s.size:Int)-i:=Za _ ox;have g3:(n:Int)<=8*(s.size:Int)-i:=ox
 go_enter func171,IT
 go_wp2
 go_quiet (fail)
 go_wp2
 go_loopg [6,35] n (fun k v c wr=>tC w s i n k v c wr)
 ·exact⟨0,_,ox,ox,rfl,by rw[PC];rfl,rfl⟩
 obtain⟨j,m,hj,hk,rfl,rfl,rfl⟩:=hrel;have Hk:=Qa hk;clear hk
 by_cases hlt:j<n
 ·have h8:=jV s i j (by simp only[RS];show i+j<8*s.size;omega);have h4:=Lu (Ql s) i j (by rw[YP];simp only[RS];show i+j<=8*s.size;omega);have h5:=DY<|QZ (Ql s) i j;rw[h4]at h5;have h9:K.num (QZ (Ql s) i j)<=9223372036854775807:=by have:2^j<=2^63:=Ju dx ox;omega
  have o:K.num (QZ (Ql s) i<|j+1)=2*K.num (QZ (Ql s) i j)+(Yq s<|i+j).toNat:=by rw[h8,GV]
  have x0:=Eo<|Yq s<|i+j;have y:=Qim (K.num<|QZ (Ql s) i j)<|Yq s<|i+j;generalize K.num (QZ (Ql s) i j)=V at o h9 y;have⟨HX,HO⟩:=qb o y;clear o h8 h4 h5 y
  go_wp2
  go_quiet ((go_at_call 213;exact Lv<|Ko s (i+j) q _ _ ox hs ox cq))
  go_wp2
  go_roundg (n-(j+1))
  ·have hV:V<18446744073709551616:=ox;have e:bits BinOp.or IntKind.u64 ((V:Int)*2) ((Yq s<|i+j).toNat:Int)=((2*V+(Yq s<|i+j).toNat:Nat):Int):=(by rw[show(V:Int)*2=((V*2:Nat):Int)by omega,u64_or_nat _ _ ox ox,HO.o]);exact⟨j+1,_,ox,rfl,by go_num,by rw[e,HX.o],rfl⟩
  have:=Hk.o;omega
 obtain rfl:j=n:=ox
 go_wp2
 go_ret2;obtain⟨h1,h2,h3⟩:=H.o;refine⟨rfl,⟨?_,?_,h3⟩,?_⟩
 ·have:=GJ (w.drewN m) r 1 _ _ (i+j:Nat) h1;simpa using this
 ·exact(heap_setCell_other (w.drewN m) ⟨r,1,none⟩ q _ fun h=>h3 h.symm).trans h2
 exact((Qc _ _).drewN m).setCell sx _
def Qku(r c:Nat)(s:BA)(i:Nat)(n:Int)(w:WD)(h:Rd w r c s i)(d:n<0):
 Calls prog 223 #[.pointer r,n] w fun e w'=>e=.returned (.tuple #[(0:Int),(2:Int)])/\w=w':=by
 have c0:w.cell? r=some (.func (.func 213) #[] #[.pointer c]):=ZD w r 0 _ _ _ h.1;clear h;have:=GA #[.pointer c] w;have g1:decide (n<0)=true:=by simpa using d
 go_enter func223,ntmps223
 go_wp2
 go_ret2;exact⟨rfl,rfl⟩
def uA(w:WD)(s:BA)(i:Nat)(e:Int)(k:Nat)(c:VL)(wr:WD):Prop:=
 ∃d g,i+d<=8*s.size/\k=8*s.size-i-d/\c=.int .i64 d/\wr=w.drewN g/\Xa e 0 ((Ql s).drop i)=Xa e d ((Ql s).drop (i+d))
def WK(r c:Nat)(s:BA)(i:Nat)(w:WD)(p:Nat × Nat)(e:Ending)(w':WD):Prop:=
 e=.returned (.tuple #[p.1,p.2])/\Rd w' r c s (if p.2=0 then i+p.1+1 else i)/\Qb [r] w w'
def Qkw(r e:Nat)(s:BA)(i:Nat)(g:Int)(w:WD)(h:Rd w r e s i)(hs:s.size<=1125899906842624)(hi:i<=8*s.size)(h0:0<=g):
 Calls prog 223 #[.pointer r,g] w (WK r e s i w<|Xa g 0<|(Ql s).drop i):=by
 have c0:w.cell? r=some (.func (.func 213) #[] #[.pointer e]):=ZD w r 0 _ _ _ h.1;have c1:w.cell? ⟨r,1,none⟩=some (.int .i64 i):=ZD w r 1 _ _ _ h.1;have c2:w.cell? ⟨r,2,none⟩=some (.int .i64 (8*s.size:Nat)):=ZD w r 2 _ _ _ h.1;have cq:w.cell? e=some (.string s):=ZD w e 0 _ _ _ h.2.1;have:=UN w r 1 _ _ h.1;have l:=Qa h;clear h;have:=GA #[.pointer e] w;have c:s.data.toList=s.size:=by simp only[RS];rfl
 have m:=Qa c;clear c;go_enter func223,ntmps223
 go_wp2
 go_loopg [6] (8*s.size-i) (fun k c wr=>uA w s i g k c wr)
 ·exact⟨0,0,ox,ox,rfl,rfl,rfl⟩
 obtain⟨c,d,d,hk,rfl,rfl,d⟩:=hrel;have⟨p,n⟩:=qb hk d;clear hk d;have:IntKind.i64.wrap ((i:Int)+c)=(i:Int)+c:=Za _ ox
 by_cases hlt:i+c<8*s.size
 ·have u:(i:Int)+c<8*(s.size:Int):=ox
  go_wp2
  go_quiet (fail)
  go_wp2
  by_cases hb:Yq s (i+c)=true
  ·have q:(((Yq s<|i+c).toNat:Int)==0)=false:=(by rw[hb];rfl);have d:=Qkx g c (i+c) s (by rw[m.o];exact hlt) hb;rw[<-n.o]at d;have j:=Qa d;clear d hb
   by_cases o:(c:Int)=g
   ·subst o;go_quiet ((go_at_call 213;exact Lv<|Ko s (i+c) e _ _ ox hs ox cq))
    go_wp2
    go_ret2;have:=j.o;simp only[Cg]at this;rw[this];exact⟨rfl,l.o,(Qc _ _).drewN _⟩
   have:((c:Int)==g)=false:=(by simpa using o);go_quiet ((go_at_call 213;exact Lv<|Ko s (i+c) e _ _ ox hs ox cq))
   go_wp2
   go_roundg (8*s.size-i-(c+1))
   ·exact⟨c+1,_,ox,rfl,by go_num,rfl,by have:=j.o;rw[Qf o]at this;exact this⟩
   have:=p.o;omega
  have hb:Yq s (i+c)=false:=by simpa using hb
  have q:(((Yq s<|i+c).toNat:Int)==0)=true:=by rw[hb];rfl
  have d:=Qky g c (i+c) s (by rw[m.o];exact hlt) hb;rw[<-n.o]at d;have j:=Qa d;clear d hb;go_quiet ((go_at_call 213;exact Lv<|Ko s (i+c) e _ _ ox hs ox cq))
  go_wp2
  go_ret2;rw[j.o];obtain⟨q,t,o⟩:=l.o;refine⟨rfl,⟨?_,?_,o⟩,?_⟩
  ·have p:Value.int .i64 ((i:Int)+(c+1))=.int .i64 ((i+c+1:Nat):Int):=(by first|go_num|(congr 1;omega));rw[p];exact GJ (w.drewN _) r 1 _ _ ((i+c+1:Nat):Int) q
  ·exact(heap_setCell_other (w.drewN _) ⟨r,1,none⟩ e _ fun h=>o h.symm).trans t
  exact((Qc _ _).drewN _).setCell sx _
 have u:8*(s.size:Int)<=i+c:=ox
 have d:=Qkv g c (i+c) s (by rw[m.o];omega);rw[<-n.o]at d;have j:=Qa d;clear d
 go_wp2
 go_quiet (fail)
 go_wp2
 go_ret2;rw[j.o];exact⟨rfl,l.o,((Qc _ _).drewN _).drewN _⟩
def XZ:(prog.info? 3).map (fun i=>(i.zero,i.size,i.bytes))=some (some<|.int .i64 0,1,8):=by kernel_rfl
def Gs(l:LB):LV:=l.map fun b=>.int .i64 (b.toNat:Nat)

def Qp.part{w:WD}{a:OA}{n:Nat}{xs:LV}(h:Qp w 1 a n xs)(i m:Nat)(hi:i+m<=n){a':OA}(ha:0<m->∀b off,a=some ⟨b,off,none⟩->a'=some ⟨b,off+i,none⟩):
 Qp w 1 a' m ((xs.drop i).take m):=by
 have:=h.1;refine⟨zx,fun d j c=>?_⟩;have e:d<m:=by have:=(Qy.1 c).1;simp at this;omega
 rw[BT,Qg e,Ut]at c;obtain⟨b,off,g,e⟩:=h.2 (i+d) j c;exact⟨b,off+i,ha ox b off g,by rwa[Y7]⟩
def QO(xs:LI):LV:=xs.map (Value.int .i64)
def Xx(xs:LI):(QO xs).length=xs.length:=by simp[QO]
def Fk(xs:LI)(i:Nat)(x:Int)(h:xs[i]?=some x):(QO xs)[i]?=some (.int .i64 x):=by simp[QO,h]
def Qp.lit{w0:WD}{news:LV}{e:TypeId}{m:Nat}(c:news.length=m):Qp (w0.alloc<|.cells news.toArray e) 1 w0.heap.size m news:=by refine⟨ox,fun h c g=>⟨_,_,rfl,?_⟩⟩;have c:=Xq w0<|.cells news.toArray e;have d:=ZD _ w0.heap.size h _ _ _ c;rw[Zu,d];simpa using g
def Qp.int{w:WD}{b off n i:Nat}{x:Int}{xs:LI}(h:Qp w 1 (some ⟨b,off,none⟩) n (QO xs))(e:xs[i]?=some x):w.cell? ⟨b,off+i,none⟩=some (.int .i64 x):=by obtain⟨c,c,c,d⟩:=h.2 i _<|Fk xs i x e;injection c with c;injection c with c h2;subst c h2;exact d
def Vn{P:Program}(w0:WD){w:WD}{j:Array Oper}{l:List Oper}{g:Oper}{a:Act}{h:Exit->Act->WD->Prop}
 (o:g.guard=none)(s x:Operand)(t:TypeId)(A:g.op=Op.call {callee:=Callee.builtin Builtin.append,args:=#[s,x],argTypes:=#[t,t]})
 (e:TypeId)(z:VL)(bytes:Nat)(hu:P.underlying t=some (.slice e))(T:(P.info? e).map (fun i=>(i.zero,i.size,i.bytes))=some (some z,1,bytes))(hz:z.cells.size=1)
 (v:VL)(xs news:LV)(m:Nat)(hs:a.eval s=v)(d:a.eval x=.slice w0 m m)(hw:w=w0.alloc (.cells news.toArray e))(p:news=m)
 (y:∀u∈news,u.oneCell'=true)
 (B:Qh w0 e v xs)(q:xs.length+m<=maxLen)(hb:(xs.length+m)*bytes<=140737488355328)
 (n:∀a' c w',Qh w' e (.slice a' (xs.length+m) c) (xs++news)->Qb (Qd v) w0 w'->QQ w0 (Qd v) (Qd<|.slice a' (xs.length+m) c)->
  wpList P j h l (a.put g.dst<|.slice a' (xs.length+m) c) w'):
 wpList P j h (g::l) a w:=by
 subst hw;have l:Qb (Qd v) w0 (w0.alloc<|.cells news.toArray e):=(Qc _ _).alloc _;refine Du o s x t A e z bytes hu T hz v xs news _ m m hs d y (World.ownsRow.alloc B _) (Qp.lit p) (fun g=>by cases g) q hb fun a' c w' g h j=>n a' c w' g ?_ ?_
 ·exact l.trans h fun x d=>.inl d
 intro x d;rcases j x d with c|c
 ·exact .inl c
 exact .inr (by simp at c;omega)
def QJ(w:WD)(g:Nat)(xs:LV):Prop:=
 ∃(d:Array VL)(c:TypeId)(e:Nat × Nat),w.heap[g]?=some (.cells d c e)/\xs<=d.size/\(∀(c:Nat)(h:VL),xs[c]?=some h->d[c]?=some h)/\(∀c,c<xs.length->¬(e.1<=c/\c<e.2))
def QJ.cell{w:WD}{g:Nat}{xs:LV}(h:QJ w g xs){i:Nat}{u:VL}(hi:xs[i]?=some u):w.cell? ⟨g,i,none⟩=some u:=by obtain⟨c,l,d,j,e,e,hf⟩:=h;rw[ZD w g i c l d j];exact e i u hi
def QJ.free{w:WD}{g:Nat}{xs:LV}(h:QJ w g xs){i:Nat}(hi:i<xs.length):w.frozen? ⟨g,i,none⟩=false:=by obtain⟨c,c,⟨lo,up⟩,c,d,d,hf⟩:=h;have:=hf i hi;simp only[World.frozen?,c];simp at this ⊢;omega
def QJ.set{w:WD}{g:Nat}{xs:LV}(h:QJ w g xs)(i:Nat)(u:VL)(hi:i<xs.length):QJ (w.setCell ⟨g,i,none⟩ u) g (xs.set i u):=by
 obtain⟨q,t,fr,hg,hl,hc,hf⟩:=h;refine⟨q.setIfInBounds i u,t,fr,?_,by simpa using hl,?_,by simpa using hf⟩
 ·rw[setCell_eq_setRow w g i q t fr u hg];exact LR w g q _ t _ hg
 intro j x o;rw[Je]at o;rw[Mk]
 split at o
 ·rename_i y;subst y;rw[Qg rfl,Qg ox];simpa[hi]using o
 rename_i y;rw[Qf y];exact hc j x o
def QJ.kept{S:LN}{w w':WD}{g:Nat}{xs:LV}(h:QJ w g xs)(hk:Qb S w w')(i:g∉S):QJ w' g xs:=by obtain⟨c,j,d,e,r⟩:=h;exact⟨c,j,d,hk.heap e i,r⟩
def QJ.lt{w:WD}{g:Nat}{xs:LV}(h:QJ w g xs):g<w.heap.size:=by obtain⟨c,c,c,c,r⟩:=h;exact Ci c
def QJ.sees{w:WD}{g:Nat}{xs:LV}(h:QJ w g xs):Qp w 1 g xs.length xs:=
 ⟨ox,fun c c c=>⟨g,0,rfl,by rw[Zu];exact h.cell c⟩⟩
def QJ.of_block{w:WD}{g:Nat}{xs:LV}{t:TypeId}(h:w.heap[g]?=some (.cells xs.toArray t (0,0))):QJ w g xs:=
 ⟨xs.toArray,t,(0,0),h,sx,fun c d hi=>by simpa using hi,fun c hi=>sx⟩
def QJ.new(w:WD)(xs:LV)(t:TypeId):QJ (w.alloc<|.cells xs.toArray t) w.heap.size xs:=.of_block<|Xq w _
def Qh.blk{w:WD}{e:TypeId}{g n cap:Nat}{xs:LV}(h:Qh w e (.slice g n cap) xs):QJ w g xs:=by
 rcases h.2 with⟨c,l⟩|⟨d,d,i,j,hb,m,d,d,d,d⟩
 ·cases c
 injection j with c l h3;injection c with c;injection c with c;subst c;rw[RW]at d;refine⟨i,e,(0,0),m,ox,fun c i hi=>?_,fun c hi=>sx⟩;have c:=(Qy.1 hi).1;rw[<-d,BT,Qg c]at hi;simpa using hi
def Qh.empty(w:WD)(e:TypeId):Qh (w.alloc<|.cells #[] e) e (.slice w.heap.size 0 0) []:=
 ⟨sx,.inr ⟨w.heap.size,0,#[],rfl,Zv _,Xq w _,sx,by simp[maxLen],sx,sx⟩⟩
def Qh.sZ{w:WD}{e:TypeId}{a:OA}{n c:Nat}{xs:LV}(h:Qh w e (.slice a n c) xs):Qp w 1 a n xs:=by have i:=h.len;obtain⟨d,d,g,-,-,d,-⟩:=h.sees;injection g with g h2 h3;subst g;rwa[i]at d
def NC(w:WD)(s:BA):∃cap,(convert 9 88<|.string s).run prog w=.ok (.slice w.heap.size s.size cap)
 (w.drew.alloc<|.cells (bytesRow s cap) 5 ((bytesRow s cap).size,(bytesRow s cap).size+1))/\s.size<=cap:=
 ⟨_,run_bytes_of_string w 9 88 5 s Yw Xo Bi,grownCap_ge _ _ _ _⟩
def QJ.bytes(w:WD)(s:BA)(cap:Nat)(h:s.size<=cap):QJ (w.alloc<|.cells (bytesRow s cap) 5 ((bytesRow s cap).size,(bytesRow s cap).size+1)) w.heap.size (Qn s):=by
 have:(bytesRow s cap).size=cap:=by have:s.data.size=s.size:=rfl;simp[bytesRow];omega
 have d:(Qn s).length=s.size:=by simp[Qn]
 refine⟨_,_,_,Xq w _,ox,fun c e hi=>?_,fun c hi=>by simp only;omega⟩;have hlt:=(Qy.1 hi).1;rw[d]at hlt;have d:c<s.data.size:=hlt;rw[bytesRow_at s cap c d,<-hi];simp[Qn,Al d]
def LM{P:Program}(g c:Nat):∀(d:LV)(i:Nat)(xs:LV)(w:WD),QJ w g xs->c+i+d.length<=xs.length->(∀v∈d,v.oneCell'=true)->
 ∃w',(storeCells ⟨g,c,none⟩ d i).run P w=.ok () w'/\QJ w' g (xs.take (c+i)++d++xs.drop (c+i+d.length))/\Qb [g] w w'
 | [],i,xs,w,h,_,_=>⟨w,rfl,by simpa using h,Qc _ _⟩
 |v::rest,i,xs,w,h,hl,h1=>by
  have hi:c+i<xs.length:=by simp at hl;omega
  have d:(⟨g,c,none⟩:Addr).add i=⟨g,c+i,none⟩:=Jc _ _ _;have e:=h.cell<|Qj hi;have j:=h.free hi;have l:(store ((⟨g,c,none⟩:Addr).add i) v).run P w=.ok () (w.setCell ⟨g,c+i,none⟩ v):=by rw[d,run_store P w _ v _<|h1 v sx,e];simp[j]
  obtain⟨w',j,hb,hk⟩:=LM (P:=P) g c rest (i+1) (xs.set (c+i) v) _ (h.set (c+i) v hi) (by simp at hl ⊢;omega) (fun e d=>h1 e<|by simp[d]);refine⟨w',?_,?_,((Qc _ _).setCell sx _).trans hk fun e d=>.inl d⟩
  ·simp only[storeCells,Sem.run_bind,l,Ua];exact j
  have d:=list_seg_step xs (c+i) v rest (by simp at hl;omega);rwa[(ox:c+(i+1)=c+i+1),d]at hb
def Qic{P:Program}(w:WD)(n x y e:TypeId)(g l m s:Nat)(o q:OA)(p u:Nat)(xs c:LV)
 (hu:P.underlying n=some (.slice e))(hs:(P.info? e).map (·.size)=some 1)
 (h:QJ w g xs)(t:c.length=Nat.min p m)(B:0<c.length->o=some ⟨g,l,none⟩/\∃d,q=some d/\∀j v,c[j]?=some v->w.cell? (d.add j)=some v)
 (A:l+c.length<=xs.length)(z:∀v∈c,v.oneCell'=true):
 ∃w',(Builtin.copy_ #[n,x] y #[.slice o m s,.slice q p u]).run P w=.ok (goInt c.length) w'/\QJ w' g (splice xs l c)/\Qb [g] w w':=by
 by_cases h0:c.length=0
 ·obtain rfl:c=[]:=J4 h0;exact⟨w,run_copy_none (P:=P) w n x y e o q m s p u hu hs<|by simpa using t.symm,by simpa[splice]using h,Qc _ _⟩
 obtain⟨rfl,d,rfl,n⟩:=B ox;have m:=run_loadCells_list (P:=P) w d c n;obtain⟨w',d,hb,hk⟩:=LM (P:=P) g l c 0 xs w h (by simpa using A) z;refine⟨w',?_,by simpa[splice]using hb,hk⟩;cases hq:P.info? e with
 |none=>simp[hq]at hs
 |some i=>
  have hi:i.size=1:=by simpa[hq]using hs
  simp[Builtin.copy_,Jn hu,Builtin.lenOf,Builtin.firstCells,sizeOf,typeInfo,hq,hi,<-t,m,d]
def Ma{P:Program}{u:Array Oper}{e:Oper}{a:Act}{w:WD}{K:Act->WD->Prop}{A:Exit->Act->WD->Prop}{z:Prop}(D:e.guard=none)(d s:Operand)(l y:TypeId)
 (F:e.op=.call {callee:=.builtin .copy,args:=#[d,s],argTypes:=#[l,y]})(n:TypeId)(hu:P.underlying l=some (.slice n))(H:(P.info? n).map (·.size)=some 1)
 (m p:OA)(i t o x:Nat)(B:a.eval d=.slice m i t)(hs:a.eval s=.slice p o x)
 (g off:Nat)(xs c:LV)(hb:QJ w g xs)(E:c=Nat.min o i)
 (G:0<c.length->m=some ⟨g,off,none⟩/\∃q,p=some q/\∀j v,c[j]?=some v->w.cell? (q.add j)=some v)
 (C:off+c.length<=xs.length)(q:∀v∈c,v.oneCell'=true)
 (h:∀w',QJ w' g (splice xs off c)->Qb [g] w w'->K (a.put e.dst<|goInt c) w'):
 if Region.wanted e (yielded u a.tmps)=true then Oper.wp P e a w K A else z:=by
 have hw:Region.wanted e (yielded u a.tmps)=true:=by simp[Region.wanted,D]
 rw[Qg hw];obtain⟨w',QX,u,hk⟩:=Qic (P:=P) w l y e.type n g off i t m p o x xs c hu H hb E G C q;unfold Oper.wp;simp[execOp,F,resolve,invoke,builtin,B,hs,QX,Result.andThen];exact h w' u hk
def mH{α:Type}[Inhabited α](f:α->VL)(l:List α)(p:Nat)(h:p<l.length):(splice (l.map f) 1<|(l.map f).take p).set 0 (f<|l.getD p default)=(K.turned l p).map f:=by
 rw[Qko];apply XB;intro d;rw[Je];have c:(splice (l.map f) 1<|(l.map f).take p).length=l.length:=by rw[OL _ _ _ zx];simp
 cases d with
 |zero=>rw[Qg rfl,Qg (by rw[c];omega)];rfl
 |succ d=>
  rw[Qf ox];clear c;unfold splice;rw[QV,Ru,XC,Zm zx,<-Ey,<-List.map_drop];have c:(List.take 1<|l.map f).length=1:=zx
  have d:((l.take p).map f).length=p:=zx
  rw[c,d,U3,CD 1 p]
def Qe(w:WD)(g:Nat)(t:TypeId)(xs:LV):Prop:=w.heap[g]?=some (.cells xs.toArray t (0,0))
def Qx(w:WD)(xs:LV)(t:TypeId):Qe (w.alloc<|.cells xs.toArray t) w.heap.size t xs:=Xq w _
def Qe.cell{w:WD}{g:Nat}{t:TypeId}{xs:LV}(h:Qe w g t xs){i:Nat}{u:VL}(hi:xs[i]?=some u):w.cell? ⟨g,i,none⟩=some u:=by rw[ZD w g i _ t _ h];simpa using hi
def Qe.cq{w:WD}{g:Nat}{t:TypeId}{xs:LV}(h:Qe w g t xs)(i:Nat){u:VL}(hi:xs[i]?=some u:=by rfl):w.cell? ⟨g,i,none⟩=some u:=h.cell hi
def Qe.free{w:WD}{g:Nat}{t:TypeId}{xs:LV}(h:Qe w g t xs)(i:Nat):w.frozen? ⟨g,i,none⟩=false:=UN w g i _ t h
def Qe.set{w:WD}{g:Nat}{t:TypeId}{xs:LV}(h:Qe w g t xs)(i:Nat)(u:VL):Qe (w.setCell ⟨g,i,none⟩ u) g t (xs.set i u):=by have:=GJ w g i _ t u h;unfold Qe;rw[this,Au]
def Qe.six{w:WD}{g:Nat}{t:TypeId}{u v:VL}(h:Qe w g t [u,v])(x c:VL):w.cell? g=some u/\w.cell? ⟨g,1,none⟩=some v/\w.frozen? g=false/\w.frozen? ⟨g,1,none⟩=false/\
 ((w.setCell ⟨g,0,none⟩ x).setCell ⟨g,1,none⟩ c).cell? g=some x/\((w.setCell ⟨g,0,none⟩ x).setCell ⟨g,1,none⟩ c).cell? ⟨g,1,none⟩=some c:=
 ⟨h.cell rfl,h.cell rfl,h.free 0,h.free 1,((h.set 0 x).set 1 c).cell rfl,((h.set 0 x).set 1 c).cell rfl⟩
def Qe.kept{S:LN}{w w':WD}{g:Nat}{t:TypeId}{xs:LV}(h:Qe w g t xs)(hk:Qb S w w')(c:g∉S):Qe w' g t xs:=hk.heap h c
def Qe.lt{w:WD}{g:Nat}{t:TypeId}{xs:LV}(h:Qe w g t xs):g<w.heap.size:=Ci h
def Qe.blk{w:WD}{g:Nat}{t:TypeId}{xs:LV}(h:Qe w g t xs):QJ w g xs:=.of_block h
def lL{P:Program}(t e:TypeId)(n:Nat)(xs:LV)(k:IntKind)(i:Nat)(u:VL)(w:WD)(h:P.underlying t=some (.array n e))(hs:(P.info? e).map (·.size)=some 1)
 (ha:(isAgg e).run P w=.ok false w)(c:xs.length=n)(hi:xs[i]?=some u):
 (Instr.index t (.agg xs.toArray)<|.int k i).run P w=.ok u w:=by
 have hlt:=(Qy.1 hi).1;cases hq:P.info? e with
 |none=>simp[hq]at hs
 |some j=>
  have d:j.size=1:=by simpa[hq]using hs
  have c:i<n:=ox
  simp[Instr.index,Jn h,asIntOf,sizeOf,typeInfo,hq,d,go_sem,ha,hi,c]
def Qp.keptF{S:LN}{w w':WD}{size:Nat}{a:OA}{n:Nat}{xs:LV}(h:Qp w size a n xs)(hk:Qb S w w')(d:Qu w.heap.size S):Qp w' size a n xs:=by refine⟨h.1,fun i j g=>?_⟩;obtain⟨b,off,e,c⟩:=h.2 i j g;refine⟨b,off,e,hk.cZ c fun e=>?_⟩;have:=d b e;have:b<w.heap.size:=Uc w _ c;omega
def Qp.keptB{S:LN}{w w':WD}{size:Nat}{a:OA}{n:Nat}{xs:LV}(h:Qp w size a n xs)(hk:Qb S w w')(c:0<xs.length->Qq (fZ a) S):Qp w' size a n xs:=by
 rcases Rx xs with h0|h0
 ·exact⟨h.1,fun d d d=>by have:=(Qy.1 d).1;omega⟩
 exact h.kept hk<|c h0
def Ra(w:WD)(g:LV)(d:List LV):Prop:=
 g.length=d.length/\∀(c:Nat)(e:VL)(r:LV),g[c]?=some e->d[c]?=some r->∃b c,e=.slice b r c/\Qp w 1 b r r/\r.length<=c/\c<=maxLen
def XJ(w:WD)(a:OA)(n:Nat)(d:List LV):Prop:=∃c,Qp w 1 a n c/\Ra w c d
def Ra.keptF{S:LN}{w w':WD}{d:LV}{c:List LV}(h:Ra w d c)(hk:Qb S w w')(l:Qu w.heap.size S):Ra w' d c:=
 ⟨h.1,fun m n r d e=>by obtain⟨b,c,g,i,j⟩:=h.2 m n r d e;exact⟨b,c,g,i.keptF hk l,j⟩⟩
def Ra.kZ{w w':WD}{d:LV}{c:List LV}(h:Ra w d c)(hk:Qb [] w w'):Ra w' d c:=h.keptF hk (by simp[Qu])
def XJ.keptF{S:LN}{w w':WD}{a:OA}{n:Nat}{d:List LV}(h:XJ w a n d)(hk:Qb S w w')(c:Qu w.heap.size S):XJ w' a n d:=by obtain⟨g,d,e⟩:=h;exact⟨g,d.keptF hk c,e.keptF hk c⟩
def XJ.kZ{w w':WD}{a:OA}{n:Nat}{c:List LV}(h:XJ w a n c)(hk:Qb [] w w'):XJ w' a n c:=h.keptF hk (by simp[Qu])
def XJ.len{w:WD}{a:OA}{n:Nat}{c:List LV}(h:XJ w a n c):c.length=n:=by obtain⟨c,c,d⟩:=h;have:=c.1;have:=d.1;omega
def XJ.at{w:WD}{a:OA}{n:Nat}{d:List LV}(h:XJ w a n d)(i:Nat)(r:LV)(hi:d[i]?=some r):
 ∃b off ar c,a=some ⟨b,off,none⟩/\w.cell? ⟨b,off+i,none⟩=some (.slice ar r.length c)/\Qp w 1 ar r.length r/\r.length<=c/\c<=maxLen:=by
 obtain⟨m,j,e⟩:=h;have l:=(Qy.1 hi).1;have⟨d,g⟩:=qy m i (by rwa[e.1]);obtain⟨b,off,ha,o⟩:=j.2 i d g;obtain⟨ar,c,rfl,j,l,m⟩:=e.2 i d r g hi;exact⟨b,off,ar,c,ha,o,j,l,m⟩
