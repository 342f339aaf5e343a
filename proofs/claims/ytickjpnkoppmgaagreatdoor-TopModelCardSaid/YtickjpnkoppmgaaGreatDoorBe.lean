import Derived.Test.YtickjpnkoppmgaaGreatDoorBd
import Derived.Test.YtickjpnkoppmgaaGreatDoorBb
set_option linter.all false
set_option maxHeartbeats 4000000
set_option maxRecDepth 20000
namespace Go.Proofs.YtickjpnkoppmgaaGreatDoor
open Go.Proofs.Tryz Go.RowKit K
def CP(p:BA)(w)(hs:p.size<=1000000):Calls prog 17 #[p] w (RK (.int .i64<|X1 p) w):=by
 have⟨j,l⟩:=qb (wN p w hs)<|show Xr p=true↔Rh p=(p.data.toList,0)from jD;obtain⟨g,c,d⟩:∃g c,Rh p=(g,c):=⟨_,_,rfl⟩;have h:c=0\/c=140:=by
  have:=d;unfold Rh at this
  split at this
  ·split at this<;>injection this with c h2<;>simp[<-h2]
  injection this with c h2;simp[<-h2]
 have:(str g).toList=g:=by rw[Xk,XW]
 have c:p.toList=p.data.toList:=Xk _;rw[d]at j l;have m:=Qa c;clear d c;go_enter func17,ntmps17;rcases h with rfl|rfl
 ·by_cases c:g=p.data.toList
  ·have o:(g==p.toList)=true:=(by rw[m.o,c];exact beq_self_eq_true _);have d:Xr p=true:=l.o.2 (by rw[c]);have h:=Qa d;clear c d;go_wp2_with (go_fit j.o;rintro e n⟨rfl,i⟩);go_ret;exact⟨by unfold X1;rw[h.o];rfl,i⟩
  have o:(g==p.toList)=false:=by rw[m.o];exact Ze.2 c
  have q2:¬g=p.toList:=by rwa[m.o]
  have d:Xr p=false:=BN.2 fun hh=>c (by have:=l.o.1 hh;injection this)
  have h:=Qa d;clear c d;go_wp2_with (go_fit j.o;rintro e n⟨rfl,i⟩);go_ret;exact⟨by unfold X1;rw[h.o];rfl,i⟩
 have d:Xr p=false:=BN.2 fun hh=>by have:=l.o.1 hh;injection this with _ c;cases c
 have h:=Qa d;clear d;go_wp2_with (go_fit j.o;rintro e n⟨rfl,i⟩);go_ret;exact⟨by unfold X1;rw[h.o];rfl,i⟩
def BH(s)(i:Nat)(x)(h:i<=s.size)(c:x=(i:Int))(W):(Instr.slice 9 (.string s) none (some<|.int .i64 x) none).run prog W=.ok (.string<|s.extract 0 i) W:=by subst c;simp[Instr.slice,Jn Yw,Instr.sliceBounds,Instr.sliceBound,asIntOf,h]
def Ee(s)(i:Nat)(x)(h:i<=s.size)(c:x=(i:Int))(W):(Instr.slice 9 (.string s) (some<|.int .i64 x) none none).run prog W=.ok (.string<|s.extract i s.size) W:=by subst c;simp[Instr.slice,Jn Yw,Instr.sliceBounds,Instr.sliceBound,asIntOf,h]
def Se(s)(i j:Nat)(x c)(h:i<=j)(d:j<=s.size)(e:x=(i:Int))(g:c=(j:Int))(W):(Instr.slice 9 (.string s) (some<|.int .i64 x) (some<|.int .i64 c) none).run prog W=.ok (.string<|s.extract i j) W:=by subst e g;simp[Instr.slice,Jn Yw,Instr.sliceBounds,Instr.sliceBound,asIntOf,h,d]
def RL(l:LU):VL:=match UE l with
 |some (a,b)=>.tuple #[str a,str b,.bool true]
 |none=>.tuple #["","",.bool false]
def mK(p:ByteArray)(w)(hs:p.size<=1000000):Calls prog 111 #[p] w (RK (RL p.data.toList) w):=by
 have d:=Qa<|Zr p
 by_cases c:p.size<=100
 ·have h:=Qa (show RL p.data.toList=.tuple #["",p,.bool true]from by unfold RL UE;rw[Qg<|by rwa[d.o]];show Value.tuple #["",str p.data.toList,.bool true]=_;rw[Rp]);have g:(p.size:Int)<=100:=ox
  go_enter func111,ntmps111
  go_wp2
  go_ret3
  exact⟨by rw[h.o];rfl,Qc _ _⟩
 have g:¬(p.size:Int)<=100:=ox
 have h:=Qa (show UE p.data.toList=Dm p.data.toList p.size 1 from by unfold UE;rw[Qf<|by rwa[d.o],d.o]);have:=Qa c;clear c;go_enter func111,ntmps111
 go_wp2
 go_loopg [5] 159 (fun k i wr=>(∃c g:Nat,1<=c/\c<=156/\k=160-c/\i=.int .i64 (c:Nat)/\Hid (p.size<=g+c-1/\UE p.data.toList=Dm p.data.toList g c))/\Hid (Qb [] w wr))
 ·exact⟨⟨1,p.size,ox,ox,rfl,rfl,Qa ⟨ox,h.o⟩⟩,Qa<|Qc _ _⟩
 obtain⟨⟨c,g,h,h,hk,rfl,h⟩,i⟩:=hrel
 by_cases t:c+1<p.size/\c<=155
 ·obtain⟨c1,c2⟩:=t;obtain⟨j,rfl⟩:∃j,g=j+1:=⟨g-1,yx h.o.1⟩;obtain⟨hlt,g1,u⟩:c<p.size/\(c:Int)<p.size-1/\(c:Int)<=155:=ox
  have i0:=UV p c (c:Int) hlt rfl;have⟨b,hb⟩:=qx<|p[c]'hlt;rw[hb]at i0;have m:p.data.toList.getD c 0=b:=by rw[Ar,Qj (by rw[d.o];exact hlt)];exact hb
  have hf:=h.o.2;rw[Dm,Qg ⟨by rwa[d.o],c2⟩,d.o,m]at hf;have q:=Qa hf;clear hf hb m
  by_cases c3:b=47
  ·subst c3
   by_cases s:p.size-c-1<=100
   ·have g3:(p.size:Int)-c-1<=100:=ox;have s1:=BH p c (c:Int) ox rfl;have:=Ee p (c+1) ((c:Int)+1) ox ox;have m:RL p.data.toList=.tuple #[.string<|p.extract 0 c,.string<|p.extract (c+1) p.size,.bool true]:=(by unfold RL;rw[q.o,Qg ⟨rfl,s⟩];show Value.tuple #[str<|p.data.toList.take c,str<|p.data.toList.drop<|c+1,.bool true]=_;rw[JS p 0 c ox,JS p (c+1) p.size<|Qk _,VJ,Aw,Q5 (l:=p.data.toList.drop<|c+1) (by rw[YN,d.o];omega)]);have n:=Qa m;clear m;go_wp2_with fail
    go_region
    all_goals
     go_wp2
     go_ret3
     exact⟨by rw[n.o];rfl,i.o.trans ((Qc [] wr).drewN _) fun o o=>.inl o⟩
   have g3:¬(p.size:Int)-c-1<=100:=ox
   go_wp2
   go_roundg (159-c)
   ·refine⟨⟨c+1,j,ox,ox,ox,by go_num,Qa ⟨yx h.o.1,?_⟩⟩,i⟩;rw[q.o,Qf fun o=>s o.2]
   omega
  have g3:¬(b.toNat:Int)=47:=by intro o;exact c3<|DK.1 (by show b.toNat=47;omega)
  have g4:((b.toNat:Int)==47)=false:=Ze.2 g3
  go_wp2
  go_roundg (159-c)
  ·refine⟨⟨c+1,j,ox,ox,ox,by go_num,Qa ⟨yx h.o.1,?_⟩⟩,i⟩;rw[q.o,Qf fun o=>c3 o.1]
  omega
 have m:RL p.data.toList=.tuple #["","",.bool false]:=by
  unfold RL;rw[h.o.2];cases g with
  |zero=>rfl
  |succ j=>rw[Dm,Qf<|by rwa[d.o]]
 have n:=Qa m;clear m
 by_cases c1:c+1<p.size
 ·obtain⟨g1,u⟩:(c:Int)<p.size-1/\¬(c:Int)<=155:=ox
  go_wp2
  go_ret3
  exact⟨by rw[n.o];rfl,i.o⟩
 have g1:¬(c:Int)<p.size-1:=ox
 go_wp2
 go_ret3
 exact⟨by rw[n.o];rfl,i.o⟩
def uP(x:Nat)(h:x<2^62):bits .and .i64 (x:Int) 7=((x%8:Nat):Int):=by have:=bits_mask .i64 62 dx wraps_i64' 3 dx (x:Int) ox (by exact_mod_cast h);rw[show(2:Int)^3-1=7 from rfl,show(2:Int)^3=8 from rfl]at this;rw[this];omega
def V8(n c:Nat)(t:Nat):LU:=Q3 (c-1-t)++(VD t n++[0])
def V8.next(n c t)(h:t<c-1):(Qn<|V8 n c t).set (c-2-t) (.int .u8 ((48+n/8^t%8:Nat):Int))=Qn (V8 n c<|t+1):=by
 have e:n/8^t%8<8:=J8 _ dx;have d:Value.int .u8 ((48+n/8^t%8:Nat):Int)=(fun b:UInt8=>Value.int .u8 (b.toNat:Int)) (UInt8.ofNat<|48+n/8^t%8):=by show _=Value.int .u8 _;rw[U6,XH (a:=48+n/8^t%8) (b:=2^8) ox]
 unfold Qn;rw[d,<-BU]
 congr 1
 unfold V8;obtain⟨d,e⟩:∃d,c-1-t=d+1:=⟨c-2-t,ox⟩;rw[e,(ox:c-2-t=d),(ox:c-1-(t+1)=d),VD,MI _ _ (by rw[VY];omega)];have:(Q3<|d+1).set d (UInt8.ofNat<|48+n/8^t%8)=Q3 d++[UInt8.ofNat<|48+n/8^t%8]:=by unfold Q3;rw[FV,V2 _ _ sx];simp
 rw[this];simp
def jC(n c:Nat)(w)(d:2<=c)(d:c<=20)(g:n<8^(c-1))(m:n<1000000000):
 Calls prog 196 #[n,c] w (RK (.tuple #[str<|Zg n c,(0:Int)]) w):=by
 have g1:¬(c:Int)<2:=ox
 have:¬(20:Int)<c:=ox
 have g3:¬(n:Int)<0:=ox
 have g4:(n:Int)/2^(3*(c-1))=0:=by
  refine Int.ediv_eq_zero_of_lt ox ?_;have:(2:Nat)^(3*(c-1))=8^(c-1):=by rw[Nat.pow_mul]
  have d:n<2^(3*(c-1)):=by rwa[this]
  exact_mod_cast d
 go_enter func196,ntmps196;go_wp2_with ((at_make;refine Jp rfl _ _ 88 rfl 5 (.int .u8 0) 1 Xo Jg rfl .i64 .i64 _ _ c c rfl rfl rfl rfl (Qk _) ox (by simp only[maxLen];omega) ?_;intro i h d));have g:Qh i 5 (.slice w c c) (Qn<|V8 n c 0):=by
  have:Qn (V8 n c 0)=List.replicate c (.int .u8 0):=by unfold V8 VD Qn Q3;rw[YU,<-FV,(ox:c-1-0+1=c),Io];rfl
  rwa[this]
 have⟨j,i⟩:=qb g d
 go_loopg [0,7] (c-1) (fun k g h wr=>(∃d:Nat,d<=c-1/\k=c-1-d/\g=.int .i64 ((n/8^d:Nat):Int)/\h=.int .i64 ((c:Int)-2-d)/\Hid (Qh wr 5 (.slice w c c)<|Qn<|V8 n c d))/\Hid (Qb [] w wr))
 ·exact⟨⟨0,ox,ox,sx,sx,j⟩,i⟩
 obtain⟨⟨d,q,hk,rfl,rfl,i⟩,l⟩:=hrel
 by_cases hlt:d<c-1
 ·have⟨g,j⟩:=qx<|n/8^d;have:g<1000000000:=by rw[<-j];exact Iw (EI _ _) m
  obtain⟨h,hi⟩:∃h:Nat,c-2-d=h:=⟨_,rfl⟩;have m:(c:Int)-2-d=(h:Int):=ox
  rw[j,m];have:g%8<8:=J8 _ dx;have:=uP g ox;have:IntKind.u8.wrap (48+((g%8:Nat):Int))=48+((g%8:Nat):Int):=by rw[Cz];omega
  have:(g:Int)/2^3=((g/8:Nat):Int):=ox
  have:(0:Int)<=h:=ox
  obtain⟨o,m⟩:∃o,(Qn<|V8 n c d)[h]?=some o:=⟨_,Qj (yx i.o.len)⟩;have:=i.o.aZ m;have hf:=i.o.free h;have o:=Qa<|V8.next n c d hlt
  go_wp2
  go_roundg (c-1-(d+1))
  ·have m:=o.o;rw[hi,j]at m;have hp:=i.o.put h<|.int .u8<|48+((g%8:Nat):Int);rw[show(48+((g%8:Nat):Int))=((48+g%8:Nat):Int)by push_cast;rfl,m]at hp;refine⟨⟨d+1,ox,rfl,?_,?_,Qa ?_⟩,Qa<|l.o.setCell (p:=⟨w.heap.size,h,none⟩) (.inr<|Qk _) _⟩
   ·rw[J9,<-Tw,j];push_cast;rfl
   ·congr 1;omega
   exact hp
  omega
 obtain rfl:d=c-1:=ox
 have:¬(0:Int)<=c-2-((c-1:Nat):Int):=ox
 have q:=Qh.text i.o
 go_wp2
 go_ret2;refine⟨?_,l.o⟩;have:V8 n c (c-1)=Zg n c:=by unfold V8 Zg;rw[ZM];rfl
 rw[this];rfl
def Qar(s:ByteArray)(c w)(hs:s.size<=c)(hw:c<=512)(h0:Lib.indexByte s.data.toList 0= -1):
 Calls prog 243 #[s,c] w (RK (.tuple #[str<|Zt s.data.toList c,(0:Int)]) w):=by
 have g1:¬(c:Int)<0:=ox
 have:¬(512:Int)<c:=ox
 have g3:¬(c:Int)<s.size:=ox
 have g:=Qa<|Tryz.strByte s 0 w;obtain⟨d,h⟩:∃d:Nat,c=s.size+d:=⟨c-s.size,ox⟩;have:(c:Int)-s.size=(d:Int):=ox
 have i:=Qa h;clear h;rw[show((0:Int).toNat.toUInt8)=(0:UInt8)from rfl,h0]at g;have:¬9223372036854775807<s.size+(Q3 d).length:=by rw[VY];omega
 go_enter func243,ntmps243;go_wp2_with (first
  |(go_fit g.o;rintro e n⟨rfl,rfl⟩)
  |(at_make;refine Jp rfl _ _ 88 rfl 5 (.int .u8 0) 1 Xo Jg rfl .i64 .i64 _ _ d d rfl rfl rfl rfl (Qk _) ox (by simp only[maxLen];omega) ?_;intro o j h;have:=Qh.text (l:=Q3 d) (by rw[show Qn (Q3 d)=List.replicate d (.int .u8 0)by simp[Qn,Q3]];exact j)))
 go_ret2;refine⟨?_,h⟩;have:s++(⟨(Q3 d).toArray⟩:ByteArray)=str (Zt s.data.toList c):=by
  rw[<-Rp (s++_),Zt,Zr,show c-s.size=d by have:=i.o;omega]
  congr 1
 rw[<-this];rfl
def dP(s:BA)(w)(hs:s.size=512):Calls prog 177 #[s] w (RK (.tuple #[.int .i64<|Vl s 512,(0:Int)]) w):=by
 have:=Qa<|Zr s;go_enter func177,ntmps177
 go_wp2
 go_loopg [4,5,11] 512 (fun k g c d wr=>(∃c:Nat,c<=512/\k=512-c/\g=.int .i64 (Vl s c:Nat)/\d=.int .i64 (c:Nat))/\Hid (Qb [] w wr))
 ·exact⟨⟨0,ox,rfl,rfl,rfl⟩,Qa<|Qc _ _⟩
 obtain⟨⟨c,hi,hk,rfl,rfl⟩,d⟩:=hrel;have h:=Mb s c
 by_cases hlt:c<512
 ·have⟨i,g⟩:=qx<|Vl s c;rw[g]at h ⊢;have p:(c:Int)<512:=ox
  have h:Vl s (c+1)=i+if 148<=c/\c<156 then 32 else(s.data.toList.getD c 0).toNat:=by rw[Vl,g]
  have l:=Qa h
  by_cases g:148<=c/\c<156
  ·obtain⟨g1,q⟩:(148:Int)<=c/\(c:Int)<156:=ox;have j:=Qa g
   go_wp2
   go_roundg (512-(c+1))
   ·refine⟨⟨c+1,ox,rfl,?_,by go_num⟩,d⟩;rw[l.o,Qg j.o];go_num
   omega
  have i0:=UV s c (c:Int) ox rfl;have hb:=CM s c ox;have⟨b,h⟩:=qx<|s[c]' ox;rw[h]at i0 hb;have:b.toNat<256:=b.toNat_lt;have⟨o,j⟩:=qb hb g;have n:∀m,Qb [] w m->∃h:Nat,h<=512/\512-(c+1)=512-h/\(.int .i64 ((i:Int)+b.toNat):VL)=.int .i64 (Vl s h:Nat)/\(.int .i64 ((c:Int)+1):VL)=.int .i64 (h:Nat):=fun m _=>
   ⟨c+1,ox,rfl,by rw[l.o,Qf j.o,o.o];go_num,by go_num⟩
  have h:=Qa n
  by_cases i:148<=c
  ·obtain⟨g1,q⟩:(148:Int)<=c/\¬(c:Int)<156:=ox
   go_wp2
   go_roundg (512-(c+1))
   ·exact⟨h.o _ d.o,d⟩
   omega
  have g1:¬(148:Int)<=c:=ox
  go_wp2
  go_roundg (512-(c+1))
  ·exact⟨h.o _ d.o,d⟩
  omega
 obtain rfl:c=512:=ox
 have p:¬((512:Nat):Int)<512:=ox
 go_wp2
 go_ret2;exact⟨rfl,d.o⟩
def bY{W}{g:Nat}{b}(h:W.cell? g=some (.int .u8 (b.toNat:Int))):(convert 88 9<|.slice g 1 1).run prog W=.ok (.string ⟨#[b]⟩) W:=
 lK W _ _ _ ⟨g,0,none⟩ 1 [b] Xo Bi Yw (fun d c=>by
  have:d=0:=by simpa using c
  subst this;exact h)
def iQ(W:WD)(x t):(W.alloc<|.cells #[x] t).cell? W=some x:=(Qx W [x] t).cq 0
def Qel(W:WD)(x t):(W.alloc<|.cells #[x] t).drew.cell? W=some x:=(Qx W [x] t).cq 0
abbrev KM(x:LU):VL:=.agg #[str x,(0:Int)]
def Qk0(n c:Nat)(w)(h:2<=c)(j:c<=20)(l:n<8^(c-1))(m:n<1000000000):
 Calls prog 195 #[n,c] w (RK (KM<|Zg n c) w):=by
 have g:=Qa fun d=>jC n c d h j l m;go_enter func195,ntmps195;go_wp2_with (go_fit(g.o _);rintro e m⟨rfl,h⟩;have d:=(Qx w ["",(0:Int)] 290).kept h sx;have c0:=d.cq 0 (u:=.string ⟨#[]⟩);have c1:=d.cq 1 (u:=.int .i64 0);have:=d.free 0;have:=d.free 1);have g:=(d.set 0<|.string<|str<|Zg n c).set 1 (0:Int);have d:=g.cq 0 (u:=.string<|str<|Zg n c);have j:=g.cq 1 (u:=.int .i64 0);refine Zj (v:=KM<|Zg n c) (by simp[results,results195,go_sem,d,j]) rfl ⟨rfl,?_⟩;exact(((Qc [] w).alloc _).trans h fun c c=>.inl c).setCell (p:=w) (.inr<|Qk _) _|>.setCell (p:=⟨w.heap.size,1,none⟩) (.inr<|Qk _) _
def Qk4(s:BA)(c m w)(hs:s.size<=m)(d:m<=c)(hw:c<=512)(h0:Lib.indexByte s 0= -1):
 Calls prog 194 #[s,c,m] w (RK (KM<|Zt s c) w):=by
 have g:=Qa fun d=>Qar s c d ox hw h0;have:¬(m:Int)<s.size:=ox
 go_enter func194,ntmps194;go_wp2_with (go_fit(g.o _);rintro e n⟨rfl,h⟩;have d:=(Qx w ["",(0:Int)] 290).kept h sx;have c0:=d.cq 0 (u:=.string ⟨#[]⟩);have c1:=d.cq 1 (u:=.int .i64 0);have:=d.free 0;have:=d.free 1);have g:=(d.set 0<|.string<|str<|Zt s c).set 1 (0:Int);have d:=g.cq 0 (u:=.string<|str<|Zt s c);have j:=g.cq 1 (u:=.int .i64 0);refine Zj (v:=KM<|Zt s c) (by simp[results,results194,go_sem,d,j]) rfl ⟨rfl,?_⟩;exact(((Qc [] w).alloc _).trans h fun c c=>.inl c).setCell (p:=w) (.inr<|Qk _) _|>.setCell (p:=⟨w.heap.size,1,none⟩) (.inr<|Qk _) _
def YD(w:WD)(b:Nat)(l:LU)(w':WD):Prop:=Lib.IsBuilder 115 5 w.heap.size b (Lib.byteCells l) w'/\Qb [] w w'
def YD.kept{w w1 d b l}(h:YD w b l w1)(hk:Qb [] w1 d):YD w b l d:=by
 obtain⟨g,i⟩:=h;have hb:∀c,Lib.BuilderAt 115 5 w.heap.size b c (Lib.byteCells l) w1->Lib.BuilderAt 115 5 w.heap.size b c (Lib.byteCells l) d:=by
  rintro c⟨c,d,a2,a3,a4⟩;refine⟨c,d,hk.heap a2 sx,⟨a3.1,?_⟩,a4⟩;rcases a3.2 with c|⟨e,cap,d,m,j,hh,r⟩
  ·exact .inl c
  exact .inr ⟨e,cap,d,m,j,hk.heap hh sx,r⟩
 exact⟨g.imp (hb _)<|hb _,i.trans hk fun c c=>.inl c⟩
def YD.new(w):YD w w.heap.size [] (w.alloc<|.cells #[.pointer none,.slice none 0 0] 115):=
 ⟨.inl ⟨Qk _,(),Xq w _,⟨rfl,.inl ⟨rfl,rfl⟩⟩,by simp[qo]⟩,(Qc _ _).alloc _⟩
def YD.write{w w1 b l}(h:YD w b l w1)(s:BA)(c:l.length+s.size<=100000000):
 Calls prog 58 #[.pointer b,s] w1 fun e c=>e=.returned (.tuple #[s.size,.nilIface])/\YD w b (l++s.data.toList) c:=by
 have d:(Lib.byteCells l).length=l.length:=by simp[Lib.byteCells]
 go_fit(Tryz.strWrite w b (Lib.byteCells l) s w1 h.1 (by rw[d];omega) h.2.size);rintro e c⟨i,d,c⟩;have g:Lib.byteCells l++Lib.strCells s=Lib.byteCells (l++s.data.toList):=by simp[Lib.byteCells,Lib.strCells]
 rw[g]at d;exact⟨i,.inr d,⟨c.os.trans h.2.os,c.tape.trans h.2.tape,c.output.trans h.2.output,QS h.2.size c.size,fun k hk _=>(c.block k hk).trans<|h.2.block k hk sx⟩⟩
def YD.str{w w1 b l}(h:YD w b l w1):
 Calls prog 60 #[.pointer b] w1 fun e c=>e=.returned (str l)/\Qb [] w c:=by
 go_fit(Tryz.strBuilt w b l w1 h.1 h.2.size);rintro e c⟨d,c⟩;exact⟨d,⟨c.os.trans h.2.os,c.tape.trans h.2.tape,c.output.trans h.2.output,QS h.2.size c.size,fun k hk _=>(c.block k hk).trans<|h.2.block k hk sx⟩⟩
def Aa(xs:LY):LV:=xs.flatMap fun c=>[.string (str c),.int .i64 0]
def Qah(xs):(Aa xs).length=xs.length*2:=by
 induction xs with
 |nil=>rfl
 |cons x xs ih=>unfold Aa at ih ⊢;rw[Jd,Qo,ih];simp;omega
def dL:∀(xs:LY)(i:Nat)(x:LU),xs[i]?=some x->(Aa xs)[i*2]?=some (.string<|str x)/\(Aa xs)[i*2+1]?=some (.int .i64 0)
 | [],i,x,h=>by simp at h
 |y::xs,0,x,h=>by simp at h;subst h;simp[Aa]
 |y::xs,i+1,x,h=>by have c:=dL xs i x (by simpa using h);unfold Aa at c ⊢;rw[Jd,show(i+1)*2=i*2+1+1 by omega];simpa using c
def fF(g n c:Nat)(xs w)(h:Qp w 2 g n (Aa xs))(hl:xs.flatten.length<=100000)(hg:g<w.heap.size)(hn:n<=1000):
 Calls prog 193 #[.slice g n c] w (RK (.tuple #[str xs.flatten,.bool true]) w):=by
 have h9:xs=n:=by have:=h.1;rw[Qah]at this;omega
 have⟨HC,h4,HL⟩:=qc (show ∀j x,xs[j]?=some x->w.cell? ⟨g,j*2,none⟩=some (.string<|str x)/\w.cell? ⟨g,j*2+1,none⟩=some (.int .i64 0)from fun j x y=>by obtain⟨h1,h2⟩:=dL xs j x y;obtain⟨b,off,o,c1⟩:=h.2 _ _ h1;obtain⟨b',x2,q,c2⟩:=h.2 _ _ h2;injection o with o;injection o with o e3;injection q with q;injection q with q e4;subst o q e3 e4;rw[Zu]at c1 c2;exact⟨c1,c2⟩) h9 hl;go_enter func193,ntmps193
 go_wp2
 go_loopg [6,9] n (fun k x6 x9 wr=>(∃i:Nat,i<=n/\k=n-i/\x9=.int .i64 (i:Nat)/\Hid (YD w w (xs.take i).flatten wr)))
 ·exact⟨0,ox,rfl,rfl,Qa<|YD.new w⟩
 obtain⟨i,hi,hk,rfl,HB⟩:=hrel
 by_cases hlt:i<n
 ·have g0:(i:Int)<n:=ox
  have⟨x,y⟩:=qy xs i (yx h4.o);obtain⟨c0,c1⟩:=HC.o i x y;have d0:wr.cell? ⟨g,i*2,none⟩=some (.string<|str x):=HB.o.2.cZ c0 sx;have d1:wr.cell? ⟨g,i*2+1,none⟩=some (.int .i64 0):=HB.o.2.cZ c1 sx;have h5:=(Qc [] wr).alloc<|.cells #[.string<|str x,(0:Int)] 290;have h3:(xs.take<|i+1).flatten=(xs.take i).flatten++x:=by rw[Zh,y];simp
  have h8:(xs.take i).flatten.length+(str x).size<=100000000:=by
   have:(xs.take<|i+1).flatten.length<=xs.flatten.length:=by
    conv=>rhs;rw[<-V3 (i+1) xs,List.flatten_append,Qo]
    omega
   rw[h3,Qo]at this;have:=HL.o;rw[Cr];omega
  have⟨HW,HT⟩:=qb ((HB.o.kept h5).write (str x) h8) h3;go_wp2_with (go_fit HW.o;rintro e w2⟨rfl,x0⟩)
  go_roundg (n-(i+1))
  ·exact⟨i+1,ox,rfl,by go_num,Qa<|by rwa[HT.o]⟩
  omega
 obtain rfl:i=n:=ox
 have g0:¬(i:Int)<i:=ox
 have HS:=Qa HB.o.str;go_wp2_with (go_fit HS.o;rintro e w2⟨rfl,x1⟩);go_ret2;refine⟨?_,x1⟩;rw[Q5 (by rw[h4.o];exact Qk _)];rfl
def K.WY:∀(k n i:Nat),i<k->(QK k n)[i]?=some (UInt8.ofNat<|n/256^(k-1-i))
 |0,n,i,h=>by omega
 |k+1,n,0,h=>by rw[QK,List.getElem?_cons_zero,(ox:k+1-1-0=k)]
 |k+1,n,i+1,h=>by rw[QK,Ru,WY k n i ox,(ox:k+1-1-(i+1)=k-1-i)]
def VZ(c n i:Nat):LU:=(QK c n).take i++Q3 (c-i)
def VZ.next(c n i)(h:i<c):(Qn<|VZ c n i).set i (.int .u8 ((n/256^(c-1-i)%256:Nat):Int))=Qn (VZ c n<|i+1):=by
 have d:Value.int .u8 ((n/256^(c-1-i)%256:Nat):Int)=(fun b:UInt8=>Value.int .u8 (b.toNat:Int)) (UInt8.ofNat<|n/256^(c-1-i)):=by show _=Value.int .u8 _;rw[U6]
 have e:((QK c n).take i).length=i:=by rw[Zd,U7];omega
 unfold Qn;rw[d,<-BU]
 congr 1
 unfold VZ;obtain⟨d,g⟩:∃d,c-i=d+1:=⟨c-i-1,ox⟩;rw[g,(ox:c-(i+1)=d),V2 _ _ ox,e,ZM,Zh,WY c n i h];simp[Q3,JB]
def Qhn(n o:Nat)(w)(h1:1<=o)(h8:o<=8)(hn:n<2^63):
 Calls prog 136 #[.int .u64 n,o] w (RK (str<|QK o n) w):=by
 go_enter func136,ntmps136;go_wp2_with ((at_make;refine Jp rfl _ _ 88 rfl 5 (.int .u8 0) 1 Xo Jg rfl .i64 .i64 _ _ o o rfl rfl rfl rfl (Qk _) ox (by simp only[maxLen];omega) ?_;intro w1 h4 h2));have x0:=Qa (show Qh w1 5 (.slice w o o) (Qn<|VZ o n 0)from by
  have:Qn (VZ o n 0)=List.replicate o (.int .u8 0):=by simp[VZ,Qn,Q3]
  rwa[this])
 have h5:=Qa h2
 go_loopg [6,11] o (fun k x6 x1 wr=>(∃i:Nat,i<=o/\k=o-i/\x1=.int .i64 (i:Nat)/\Hid (Qh wr 5 (.slice w o o)<|Qn<|VZ o n i))/\Hid (Qb [] w wr))
 ·exact⟨⟨0,ox,ox,rfl,x0⟩,h5⟩
 obtain⟨⟨i,hi,hk,rfl,q⟩,y⟩:=hrel
 by_cases hlt:i<o
 ·obtain⟨j,hj⟩:∃j:Nat,o-1-i=j:=⟨_,rfl⟩;obtain⟨g0,g1⟩:(i:Int)<o/\8*((o:Int)-1-(i:Int))=((8*j:Nat):Int):=ox
  have g2:(n:Int)/2^(8*j)=((n/256^j:Nat):Int):=by rw[show(256:Nat)=2^8 from rfl,<-Nat.pow_mul];push_cast;rfl
  have g3:IntKind.u8.wrap ((n/256^j:Nat):Int)=((n/256^j%256:Nat):Int):=by rw[Cz];omega
  obtain⟨u,hu⟩:∃u,(Qn<|VZ o n i)[i]?=some u:=⟨_,Qj (yx q.o.len)⟩;have hc:=q.o.aZ hu;have hf:=q.o.free i;have⟨h9,HJ⟩:=qb (VZ.next o n i hlt) hj
  go_wp2
  go_roundg (o-(i+1))
  ·have hp:=q.o.put i<|.int .u8 ((n/256^j%256:Nat):Int);have h3:=h9.o;rw[HJ.o]at h3;rw[h3]at hp;exact⟨⟨i+1,ox,rfl,by go_num,Qa<|by simpa using hp⟩,Qa<|y.o.setCell (p:=⟨w.heap.size,i,none⟩) (.inr<|Qk _) _⟩
  omega
 obtain rfl:i=o:=ox
 have ht:=Qh.text q.o
 go_wp2
 go_ret;refine⟨?_,y.o⟩;have:VZ i n i=QK i n:=by unfold VZ;rw[Q5 (by rw[U7];exact Qk _),ZM];simp[Q3]
 rw[this];rfl
def Vg(m:RM):VL:=.agg #[str m.path,m.start,m.eZ,m.size,.int .u32 m.sum]
structure UH(m:RM):Prop where
 ok:Xr m.path=true
 st:30<=m.start/\1<=m.eZ/\m.start+m.eZ<=4096
 sz:0<=m.size/\m.size<=8192
 sm:0<=m.sum/\m.sum<4294967296
def PJ(m w)(h:UH m):Calls prog 71 #[Vg m] w (RK (0:Int) w):=by
 obtain⟨c,⟨d,d,d⟩,⟨d,h6⟩,h7,d⟩:=h;have hp:=(XU c).2;have g:X1 m.path=0:=by unfold X1;rw[c];rfl
 have d:=Qa (fun j=>CP (str m.path) j (by have:(str m.path).size=m.path:=rfl
                                          omega))
 rw[show(str m.path).data.toList=m.path from rfl,g]at d;have j:=Qa<|Qx w [str m.path,m.start,m.eZ,m.size,.int .u32 m.sum] 69;have g1:decide (m.start<30)=false:=zx
 have:decide (m.eZ<1)=false:=zx
 have g3:decide (4096<m.eZ)=false:=zx
 have g4:decide (4096-m.eZ<m.start)=false:=zx
 have:decide (m.size<0)=false:=zx
 have:decide (8192<m.size)=false:=zx
 unfold Vg;go_enter func71,ntmps71;go_wp2_with (go_fit(d.o _);rintro e l⟨rfl,g⟩;have c:=j.o.kept g sx;have c1:=c.cq 1 (u:=.int .i64 m.start);have c2:=c.cq 2 (u:=.int .i64 m.eZ);have c3:=c.cq 3 (u:=.int .i64 m.size));go_ret;exact⟨rfl,((Qc [] w).alloc _).trans g sx⟩
def Bf(x c:Int):Prop:=0<=x/\x<9223372036854775808/\1<=c/\c<=8
def PS(x c W)(h:Bf x c):Calls prog 136 #[.int .u64 x,c] W (RK (str<|QK c.toNat x.toNat) W):=by obtain⟨d,g,g,g⟩:=h;have:=Qhn x.toNat c.toNat W ox ox ox;rwa[RT d,RT ox]at this
def lB(m w)(h:UH m):Calls prog 108 #[Vg m] w (RK (.tuple #[str<|Xi m,(0:Int)]) w):=by
 have HC:=Qa fun W=>PJ m W h;obtain⟨h1,⟨h2,h3,h4⟩,⟨h5,h6⟩,h7,h8⟩:=h;have hp:=(XU h1).2.2;have n1:Bf m.path 1:=⟨ox,ox,ox,ox⟩;have n2:Bf m.start 2:=⟨ox,ox,ox,ox⟩;have n3:Bf m.eZ 2:=⟨ox,ox,ox,ox⟩;have n4:Bf m.size 2:=⟨ox,ox,ox,ox⟩;have n5:Bf m.sum 4:=⟨ox,ox,ox,ox⟩;have y:=Qa<|Qx w [str m.path,m.start,m.eZ,m.size,.int .u32 m.sum] 69;have w0:IntKind.u64.wrap (m.path:Int)=m.path.length:=by rw[J3];omega
 have w1:IntKind.u64.wrap m.start=m.start:=by rw[J3];omega
 have w2:IntKind.u64.wrap m.eZ=m.eZ:=by rw[J3];omega
 have w3:IntKind.u64.wrap m.size=m.size:=by rw[J3];omega
 have w4:IntKind.u64.wrap m.sum=m.sum:=by rw[J3];omega
 have x4:∀l:List UInt8,(str l).size=l:=fun _=>rfl
 have x3:∀k n,(QK k n).length=k:=U7;obtain⟨z1,z2,z3,z4,z5⟩: ¬9223372036854775807<1+m.path.length/\¬9223372036854775807<1+m.path.length+2/\¬9223372036854775807<1+m.path.length+2+2/\¬9223372036854775807<1+m.path.length+2+2+2/\¬9223372036854775807<1+m.path.length+2+2+2+4:=ox
 have x2:=Qa h1;unfold Vg at HC ⊢;go_enter func108,ntmps108;have b0:=y.o.cq 0 (u:=.string<|str m.path);have b1:=y.o.cq 1 (u:=.int .i64 m.start);have b2:=y.o.cq 2 (u:=.int .i64 m.eZ);have b3:=y.o.cq 3 (u:=.int .i64 m.size);have b4:=y.o.cq 4 (u:=.int .u32 m.sum);go_wp2_with (go_fit(HC.o _);rintro e w5⟨rfl,x0⟩);have q:=y.o.kept x0 sx;have h9:Qb [] w5 w5:=Qc _ _;have x1:=Qa (((Qc [] w).alloc _).trans x0 sx);have e1:=q.cq 0 (u:=.string<|str m.path);have e2:=q.cq 1 (u:=.int .i64 m.start);have e3:=q.cq 2 (u:=.int .i64 m.eZ);have e4:=q.cq 3 (u:=.int .i64 m.size);have e5:=q.cq 4 (u:=.int .u32 m.sum)
 go_region_held3 (fun w'=>w'.cell? ⟨w.heap.size,0,none⟩=some (.string<|str m.path)/\w'.cell? ⟨w.heap.size,1,none⟩=some (.int .i64 m.start)/\w'.cell? ⟨w.heap.size,2,none⟩=some (.int .i64 m.eZ)/\w'.cell? ⟨w.heap.size,3,none⟩=some (.int .i64 m.size)/\w'.cell? ⟨w.heap.size,4,none⟩=some (.int .u32 m.sum))
  (first|exact⟨e1,e2,e3,e4,e5⟩|go_keep)
  (first
    |(go_fit(PS _ _ _<|by assumption)
      rintro e w9⟨rfl,o⟩;first|replace h9:=h9.trans o sx|replace h9:=h9.drew.trans o sx
      replace e1:=o.cZ e1 sx;replace e2:=o.cZ e2 sx;replace e3:=o.cZ e3 sx;replace e4:=o.cZ e4 sx;replace e5:=o.cZ e5 sx))
 go_wp2
 go_ret2;refine⟨?_,x1.o.trans h9 sx⟩;have:str (QK 1 m.path)++str m.path++str (QK 2 m.start.toNat)++str (QK 2 m.eZ.toNat)++str (QK 2 m.size.toNat)++str (QK 4 m.sum.toNat)=str (Xi m):=by
  rw[<-Rp (_++_),Xi]
  congr 1
  simp[str]
 rw[<-this];rfl
