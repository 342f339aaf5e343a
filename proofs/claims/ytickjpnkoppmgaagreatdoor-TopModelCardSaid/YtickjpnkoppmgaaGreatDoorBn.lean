import Derived.Test.YtickjpnkoppmgaaGreatDoorBm
set_option linter.all false
namespace Go.Proofs.YtickjpnkoppmgaaGreatDoor
open Go.Proofs.Tryz Go.RowKit K
def iT{l}(h:(0:UInt8)∉l):Lib.indexByte l 0= -1:=by
 induction l with
 |nil=>rfl
 |cons b l ih=>simp only[QD,Uj]at h;rw[Lib.indexByte,Qf<|by simpa using fun c=>h.1 c.symm,ih h.2];rfl
def Ae(path:BA)(kind:UInt8)(size:Nat):VL:=
 .agg #[path,size,.int .u8 kind.toNat,(420:Int),(0:Int),"","","",(0:Int),(0:Int)]
def Sj{p a b}(h:UE p=some (a,b))(h0:(0:UInt8)∉p):(0:UInt8)∉a/\(0:UInt8)∉b/\a.length<=155/\b.length<=100:=by
 rcases LX h with⟨rfl,rfl,c⟩|⟨c,d,e,e,rfl⟩
 ·exact⟨sx,h0,sx,c⟩
 simp only[Q4,QD,Uj]at h0;exact⟨h0.1,h0.2.2,d,e⟩
def CG(x c:Int):Prop:=0<=x/\x<1000000000/\2<=c/\c<=20/\x.toNat<8^(c.toNat-1)
def Sy(x c W)(h:CG x c):Calls prog 195 #[x,c] W (RK (.agg #[str<|Zg x.toNat c.toNat,(0:Int)]) W):=by obtain⟨d,g,g,g,g⟩:=h;have:=Qk0 x.toNat c.toNat W ox ox g ox;rwa[RT d,RT ox]at this
def Gp(s:BA)(x c:Int):Prop:=(s.size:Int)<=c/\c<=x/\x<=512/\(0:UInt8)∉s.data.toList
def FH(s x c W)(h:Gp s x c):Calls prog 194 #[s,x,c] W (RK (.agg #[str<|Zt s x.toNat,(0:Int)]) W):=by obtain⟨d,d,d,d⟩:=h;have:=Qk4 s x.toNat c.toNat W ox ox ox<|iT d;rwa[RT ox,RT ox]at this
def Cv(a:LU)(kind:UInt8):LY:=[[kind],Zt [] 100,DU,Zt [] 32,Zt [] 32,Zg 0 8,Zg 0 8,Zt a 155,Zt [] 12]
def tl(a:LU)(kind:UInt8):LU:=([kind]++(Zt [] 100++(DU++(Zt [] 32++(Zt [] 32++(Zg 0 8++(Zg 0 8++(Zt a 155++(Zt [] 12)))))))))
def G7(c:Nat)(a:LU)(kind:UInt8):Nat->VL->WD->Prop
 |0,v,_=>v=.pointer (some ⟨c,2,none⟩)
 |1,v,_=>v=.int .u8 kind.toNat
 |2,v,w=>∃d,v=.slice (some ⟨d,0,none⟩) 1 1/\w.cell? d=some (.int .u8 kind.toNat)
 |3,v,_=>v=.string ⟨#[kind]⟩
 |4,v,_=>v=.agg #[.string ⟨#[kind]⟩,(0:Int)]
 |5,v,_=>v=.pointer (some ⟨c,5,none⟩)
 |6,v,_=>v=.string ⟨#[]⟩
 |7,v,_=>v=.agg #[str (Zt [] 100),(0:Int)]
 |8,v,_=>v=.agg #[.string ⟨#[117,115,116,97,114,0,48,48]⟩,(0:Int)]
 |9,v,_=>v=.pointer (some ⟨c,6,none⟩)
 |10,v,_=>v=.pointer (some ⟨c,6,none⟩)
 |11,v,_=>v=.string ⟨#[]⟩
 |12,v,_=>v=.agg #[str (Zt [] 32),(0:Int)]
 |13,v,_=>v=.pointer (some ⟨c,6,none⟩)
 |14,v,_=>v=.pointer (some ⟨c,7,none⟩)
 |15,v,_=>v=.string ⟨#[]⟩
 |16,v,_=>v=.agg #[str (Zt [] 32),(0:Int)]
 |17,v,_=>v=.agg #[str (Zg 0 8),(0:Int)]
 |18,v,_=>v=.agg #[str (Zg 0 8),(0:Int)]
 |19,v,_=>v=.string (str a)
 |20,v,_=>v=.agg #[str (Zt a 155),(0:Int)]
 |21,v,_=>v=.agg #[str (Zt [] 12),(0:Int)]
 |22,v,w=>∃d,v=.slice (some ⟨d,0,none⟩) 9 9/\Qp w 2 (some ⟨d,0,none⟩) 9 (Aa (Cv a kind))/\d<w.heap.size
 |23,v,_=>v=.tuple #[str (tl a kind),.bool true]
 |24,v,_=>v=.tuple #[str (tl a kind),.bool true]
 |25,v,_=>v=.string (str (tl a kind))
 |26,v,_=>v=.bool true
 |27,v,_=>v=.string (str (tl a kind))
 |28,v,_=>v=.bool true
 |_,_,_=>True
def Qkg(a kind):(Cv a kind).flatten=tl a kind:=by simp[Cv,tl]
def G7.mono{c a kind w w'}(hk:Qb [] w w'):∀(j:Nat)(v:VL),G7 c a kind j v w->G7 c a kind j v w'
 |2,v,⟨g,h1,h2⟩=>⟨g,h1,hk.cZ h2 sx⟩
 |22,v,⟨g,h1,h2,h3⟩=>⟨g,h1,h2.kZ hk,Av h3 hk.size⟩
 |0,_,h=>h
 |1,_,h=>h
 |3,_,h=>h
 |4,_,h=>h
 |5,_,h=>h
 |6,_,h=>h
 |7,_,h=>h
 |8,_,h=>h
 |9,_,h=>h
 |10,_,h=>h
 |11,_,h=>h
 |12,_,h=>h
 |13,_,h=>h
 |14,_,h=>h
 |15,_,h=>h
 |16,_,h=>h
 |17,_,h=>h
 |18,_,h=>h
 |19,_,h=>h
 |20,_,h=>h
 |21,_,h=>h
 |23,_,h=>h
 |24,_,h=>h
 |25,_,h=>h
 |26,_,h=>h
 |27,_,h=>h
 |28,_,h=>h
 |_+29,_,_=>trivial
set_option maxRecDepth 100000 in
set_option maxHeartbeats 40000000 in
def Qks(p a b kind size w)(hk:kind=48\/kind=120)(hp:UE p.data.toList=some (a,b))(h1:0<p.size)(h2:p.size<=1000000)(h0:(0:UInt8)∉p.data.toList)(hs:size<1000000000):
 Calls prog 153 #[Ae p kind size] w (RK (.tuple #[.string<|str<|X8 a b kind size,(0:Int)]) w):=by
 have p5:RL p.data.toList=.tuple #[str a,.string<|str b,.bool true]:=by unfold RL;rw[hp]
 have z7:=Qa fun W=>mK p W h2;rw[p5]at z7;obtain⟨z1,z2,z3,z4⟩:=Sj hp h0;have y9:=Qa fun W=>Tryz.strByte p 0 W;rw[show((0:Int).toNat.toUInt8)=(0:UInt8)from rfl,iT h0]at y9;have p2:decide (0<=Lib.indexByte [48,53,120,103] kind)=true:=by rcases hk with rfl|rfl<;>decide
 have y8:=Qa fun W=>Tryz.strHas1 ⟨#[48,53,120,103]⟩ kind W;rw[show(⟨#[48,53,120,103]⟩:ByteArray).data.toList=[48,53,120,103]from rfl,p2]at y8;have q1:p.toList.isEmpty=false:=Do p h1;unfold Ae;have HA:=Qa<|Qx w [p,size,.int .u8 kind.toNat,(420:Int),(0:Int),"","","",(0:Int),(0:Int)] 165;have n1:=XW
 have t1:Gp (str b) 100 100:=⟨by have:(str b).size=b:=rfl
                                 omega,dx,dx,z2⟩
 have t2:∀x:Int,0<=x->x<=512->Gp ⟨#[]⟩ x x:=fun x h h2=>⟨h,AZ _,h2,sx⟩
 have⟨q4,q5⟩:=qb (show([Zt b 100,Zg 420 8,Zg 0 8,Zg 0 8,Zg size 12,Zg 0 12,Zt [] 8]:List (List UInt8)).flatten.length=156 by simp only[Ev,List.flatten_nil,Qo,YE,Ct b 100 z4,Ct [] 8 dx,Cl _ 8 dx,Cl _ 12 dx]) (show([[kind],Zt [] 100,DU,Zt [] 32,Zt [] 32,Zg 0 8,Zg 0 8,Zt a 155,Zt [] 12]:List (List UInt8)).flatten.length=356 by simp only[Ev,List.flatten_nil,Qo,YE,QW,DU,Ct a 155 z3,Ct [] _<|Zv _,Cl _ 8 dx])
 have t3:Gp (str a) 155 155:=⟨by have:(str a).size=a:=rfl
                                 omega,dx,dx,z1⟩
 have t4:Gp ⟨#[]⟩ 32 31:=⟨dx,dx,dx,sx⟩;have u1:CG 420 8:=by unfold CG;decide
 have u2:CG 0 8:=by unfold CG;decide
 have u3:CG size 12:=⟨ox,ox,dx,dx,Nat.lt_trans (by simpa using hs) (dx:1000000000<8^(Int.toNat 12-1))⟩;have u4:CG 0 12:=by unfold CG;decide
 clear p2 hk hp p5 n1;go_enter func153,ntmps153;go_wp2_with (first
  |(go_fit(z7.o _);rintro e w1⟨rfl,p3⟩;have A1:=HA.o.kept p3 sx;have c0:=A1.cq 0 (u:=.string p);have c2:=A1.cq 2 (u:=.int .u8 kind.toNat);have p0:=CN w1 kind;have B1:=A1.kept ((Qc [] w1).alloc<|.cells #[.int .u8 kind.toNat] 5) sx;have e0:=B1.cq 0 (u:=.string p))
  |(go_fit(y8.o _);rintro e w2⟨rfl,rfl⟩)
  |(go_fit(y9.o _);rintro e w2⟨rfl,rfl⟩))
 have⟨W,hW⟩:=qx<|w1.alloc<|.cells #[.int .u8 kind.toNat] 5;rw[hW]at B1 ⊢;have HB:=Qa B1;have h5:Qb [] W W:=Qc _ _;have e1:=B1.cq 3 (u:=.int .i64 420);have e2:=B1.cq 8 (u:=.int .i64 0);have e3:=B1.cq 9 (u:=.int .i64 0);have e4:=B1.cq 1 (u:=.int .i64 size);have e5:=B1.cq 4 (u:=.int .i64 0);have q3:=Qa (by rw[<-hW];exact(((Qc [] w).alloc _).trans p3 sx).alloc _:Qb [] w W);clear e0 c0 c2 A1 B1 p0 hW;have y6:∀W:World,(Instr.indexAt 163 (.pointer<|some ⟨w.heap.size,8,none⟩) (0:Int)).run prog W=.ok (.pointer<|some ⟨w.heap.size,8,none⟩) W:=fun W=>by simp[Instr.indexAt,go_sem]
 have y7:∀W:World,(Instr.indexAt 163 (.pointer<|some ⟨w.heap.size,8,none⟩) (1:Int)).run prog W=.ok (.pointer<|some ⟨w.heap.size,9,none⟩) W:=fun W=>by simp[Instr.indexAt,go_sem]
 go_region_held3 (fun w'=>w'.cell? ⟨w.heap.size,3,none⟩=some (.int .i64 420)/\w'.cell? ⟨w.heap.size,8,none⟩=some (.int .i64 0)/\w'.cell? ⟨w.heap.size,9,none⟩=some (.int .i64 0)/\w'.cell? ⟨w.heap.size,1,none⟩=some (.int .i64 size)/\w'.cell? ⟨w.heap.size,4,none⟩=some (.int .i64 0))
  (first|exact⟨e1,e2,e3,e4,e5⟩|go_keep)
  (first
    |(go_fit(FH _ _ _ _<|by first|exact t1|exact t2 8 dx dx)
      rintro e w9⟨rfl,q⟩;first|replace h5:=h5.trans q sx|replace h5:=h5.drew.trans q sx
      replace e1:=q.cZ e1 sx;replace e2:=q.cZ e2 sx;replace e3:=q.cZ e3 sx;replace e4:=q.cZ e4 sx;replace e5:=q.cZ e5 sx;clear q)
    |(go_fit(Sy _ _ _<|by assumption)
      rintro e w9⟨rfl,q⟩;first|replace h5:=h5.trans q sx|replace h5:=h5.drew.trans q sx
      replace e1:=q.cZ e1 sx;replace e2:=q.cZ e2 sx;replace e3:=q.cZ e3 sx;replace e4:=q.cZ e4 sx;replace e5:=q.cZ e5 sx;clear q)
    |(go_fit(fF _ 7 7 [Zt b 100,Zg 420 8,Zg 0 8,Zg 0 8,Zg size 12,Zg 0 12,Zt [] 8] _ ((Qx w9 (Aa [Zt b 100,Zg 420 8,Zg 0 8,Zg 0 8,Zg size 12,Zg 0 12,Zt [] 8]) 290).sees (size:=2) (n:=7) rfl) (by rw[q4.o];decide) sx dx)
      rintro e w8⟨rfl,h8⟩;replace h5:=h5.trans (((Qc [] w9).alloc _).trans h8 sx) sx;replace e1:=h8.cZ (((Qc [] w9).alloc _).cZ e1 sx) sx;replace e2:=h8.cZ (((Qc [] w9).alloc _).cZ e2 sx) sx;replace e3:=h8.cZ (((Qc [] w9).alloc _).cZ e3 sx) sx;replace e4:=h8.cZ (((Qc [] w9).alloc _).cZ e4 sx) sx;replace e5:=h8.cZ (((Qc [] w9).alloc _).cZ e5 sx) sx;clear h8))
 obtain⟨W2,b3⟩:∃W2,W2=w8:=⟨_,rfl⟩;subst b3;have h9:=HB.o.kept h5 sx;have z6:=Qa h5;clear e1 e2 e3 e4 e5 h5;have h5:Qb [] W2 W2:=Qc _ _;have e1:=h9.cq 2 (u:=.int .u8 kind.toNat);have e2:=h9.cq 5 (u:=.string ⟨#[]⟩);have e3:=h9.cq 6 (u:=.string ⟨#[]⟩);have e4:=h9.cq 7 (u:=.string ⟨#[]⟩);have p0:=fun W=>CN W kind
 have c7:∀W:World,(convert 88 9<|.slice (some ⟨W.heap.size,0,none⟩) 1 1).run prog (W.alloc<|.cells #[.int .u8 (kind.toNat:Int)] 5).drew=.ok (.string ⟨#[kind]⟩) (W.alloc<|.cells #[.int .u8 (kind.toNat:Int)] 5).drew:=fun W=>CN W.drew kind
 have⟨hd,y3⟩:=qx<|(Zt b 100++(Zg 420 8++(Zg 0 8++(Zg 0 8++(Zg size 12++(Zg 0 12++Zt [] 8))))));rw[y3];have p8:=Qa y3;clear y3 y6 y7 u1 u3 u4 h9;have y6:∀W:World,(Instr.indexAt 162 (.pointer<|some ⟨w.heap.size,6,none⟩) (0:Int)).run prog W=.ok (.pointer<|some ⟨w.heap.size,6,none⟩) W:=fun W=>by simp[Instr.indexAt,go_sem]
 have y7:∀W:World,(Instr.indexAt 162 (.pointer<|some ⟨w.heap.size,6,none⟩) (1:Int)).run prog W=.ok (.pointer<|some ⟨w.heap.size,7,none⟩) W:=fun W=>by simp[Instr.indexAt,go_sem]
 go_wp2_with fail
 go_cut [8,9]from 65 to 91 (fun x8 x9 w'=>x8=.string (str<|tl a kind)/\x9=.bool true/\Hid (Qb [] W2 w'))
 ·rename_i hJ hM;have z8:=HB.o.kept z6.o sx;refine Qha (S:=fun w'=>Qb [] W2 w') (Good:=G7 w a kind) kx kx ((Qc [] W2).drew) (fun i o ho b w' y p1 x6 h3=>?_) (fun b w' y p1 b8 x6 p4=>?_)
  ·have hi:=(RR.1 ho).1;simp only[Ir,QW,YE]at hi;have b4:i=0\/i=1\/i=2\/i=3\/i=4\/i=5\/i=6\/i=7\/i=8\/i=9\/i=10\/i=11\/i=12\/i=13\/i=14\/i=15\/i=16\/i=17\/i=18\/i=19\/i=20\/i=21\/i=22\/i=23\/i=24\/i=25\/i=26\/i=27\/i=28:=ox;have h1:b.tmps[1]?=some (.pointer w):=(x6 1<|iV kx).trans rfl;have h4:b.tmps[4]?=some (.string<|str a):=(x6 4<|iV kx).trans rfl;have x5:=z8.kept y sx;rcases b4 with rfl|rfl|rfl|rfl|rfl|rfl|rfl|rfl|rfl|rfl|rfl|rfl|rfl|rfl|rfl|rfl|rfl|rfl|rfl|rfl|rfl|rfl|rfl|rfl|rfl|rfl|rfl|rfl|rfl<;>(injection ho with ho;subst ho)
   ·exact UC rfl (by simp[execOp,go_sem,h1]) y rfl
   ·have e0:=YX<|h3 ⟨0,.data⟩ sx rfl _ 66 rfl rfl;have c0:=x5.cq 2 (u:=.int .u8 kind.toNat);exact UC rfl (by simp[execOp,go_sem,e0,c0]) y rfl
   ·have e1:=YX<|h3 ⟨1,.data⟩ sx rfl _ 67 rfl rfl;refine AO rfl<|Pr (v:=.slice (some ⟨w'.heap.size,0,none⟩) 1 1) (w':=w'.alloc<|.cells #[.int .u8 kind.toNat] 5) ?_ ⟨_,rfl,y.alloc _,⟨_,rfl,iQ _ _ _⟩,G7.mono<|(Qc [] _).alloc _⟩;simp[execOp,e1,go_sem]
   ·obtain⟨v2,e2,g2⟩:=h3 ⟨2,.data⟩ sx rfl _ 68 rfl rfl;obtain⟨g,g2,c2⟩:=g2;subst g2;have b5:=bY c2;exact UC rfl (by simp[execOp,go_sem,e2,b5]) y rfl
   ·have e3:=YX<|h3 ⟨3,.data⟩ sx rfl _ 69 rfl rfl;exact UC rfl (by simp[execOp,go_sem,e3]) y rfl
   ·exact UC rfl (by simp[execOp,go_sem,h1]) y rfl
   ·have e5:=YX<|h3 ⟨5,.data⟩ sx rfl _ 71 rfl rfl;have c0:=x5.cq 5 (u:=.string ⟨#[]⟩);exact UC rfl (by simp[execOp,go_sem,e5,c0]) y rfl
   ·have e6:=YX<|h3 ⟨6,.data⟩ sx rfl _ 72 rfl rfl;refine AO rfl<|Dg (by simp[execOp,go_sem,e6])<|(FH ⟨#[]⟩ 100 100 w'<|t2 100 dx dx).mono ?_;rintro e w9⟨rfl,q⟩;exact⟨_,rfl,_,rfl,y.trans q sx,rfl,G7.mono q⟩
   ·exact UC rfl (by simp[execOp,go_sem]) y rfl
   ·exact UC rfl (by simp[execOp,go_sem,h1]) y rfl
   ·have e9:=YX<|h3 ⟨9,.data⟩ sx rfl _ 75 rfl rfl;exact UC rfl (by simp[execOp,go_sem,e9,y6]) y rfl
   ·have q7:=YX<|h3 ⟨10,.data⟩ sx rfl _ 76 rfl rfl;have c0:=x5.cq 6 (u:=.string ⟨#[]⟩);exact UC rfl (by simp[execOp,go_sem,q7,c0]) y rfl
   ·have q8:=YX<|h3 ⟨11,.data⟩ sx rfl _ 77 rfl rfl;refine AO rfl<|Dg (by simp[execOp,go_sem,q8])<|(FH ⟨#[]⟩ 32 31 w' t4).mono ?_;rintro e w9⟨rfl,q⟩;exact⟨_,rfl,_,rfl,y.trans q sx,rfl,G7.mono q⟩
   ·exact UC rfl (by simp[execOp,go_sem,h1]) y rfl
   ·have r0:=YX<|h3 ⟨13,.data⟩ sx rfl _ 79 rfl rfl;exact UC rfl (by simp[execOp,go_sem,r0,y7]) y rfl
   ·have r1:=YX<|h3 ⟨14,.data⟩ sx rfl _ 80 rfl rfl;have c0:=x5.cq 7 (u:=.string ⟨#[]⟩);exact UC rfl (by simp[execOp,go_sem,r1,c0]) y rfl
   ·have r2:=YX<|h3 ⟨15,.data⟩ sx rfl _ 81 rfl rfl;refine AO rfl<|Dg (by simp[execOp,go_sem,r2])<|(FH ⟨#[]⟩ 32 31 w' t4).mono ?_;rintro e w9⟨rfl,q⟩;exact⟨_,rfl,_,rfl,y.trans q sx,rfl,G7.mono q⟩
   ·refine AO rfl<|Dg (by simp[execOp,go_sem])<|(Sy 0 8 w' u2).mono ?_;rintro e w9⟨rfl,q⟩;exact⟨_,rfl,_,rfl,y.trans q sx,rfl,G7.mono q⟩
   ·refine AO rfl<|Dg (by simp[execOp,go_sem])<|(Sy 0 8 w' u2).mono ?_;rintro e w9⟨rfl,q⟩;exact⟨_,rfl,_,rfl,y.trans q sx,rfl,G7.mono q⟩
   ·exact UC rfl (by simp[execOp,go_sem,h4]) y rfl
   ·have r6:=YX<|h3 ⟨19,.data⟩ sx rfl _ 85 rfl rfl;refine AO rfl<|Dg (by simp[execOp,go_sem,r6])<|(FH (str a) 155 155 w' t3).mono ?_;rintro e w9⟨rfl,q⟩;exact⟨_,rfl,_,rfl,y.trans q sx,rfl,G7.mono q⟩
   ·refine AO rfl<|Dg (by simp[execOp,go_sem])<|(FH ⟨#[]⟩ 12 12 w'<|t2 12 dx dx).mono ?_;rintro e w9⟨rfl,q⟩;exact⟨_,rfl,_,rfl,y.trans q sx,rfl,G7.mono q⟩
   ·have e4:=YX<|h3 ⟨4,.data⟩ sx rfl _ 70 rfl rfl;have e7:=YX<|h3 ⟨7,.data⟩ sx rfl _ 73 rfl rfl;have e8:=YX<|h3 ⟨8,.data⟩ sx rfl _ 74 rfl rfl;have q9:=YX<|h3 ⟨12,.data⟩ sx rfl _ 78 rfl rfl;have r3:=YX<|h3 ⟨16,.data⟩ sx rfl _ 82 rfl rfl;have r4:=YX<|h3 ⟨17,.data⟩ sx rfl _ 83 rfl rfl;have r5:=YX<|h3 ⟨18,.data⟩ sx rfl _ 84 rfl rfl;have r7:=YX<|h3 ⟨20,.data⟩ sx rfl _ 86 rfl rfl;have r9:=YX<|h3 ⟨21,.data⟩ sx rfl _ 87 rfl rfl;refine AO rfl<|Pr (v:=.slice (some ⟨w'.heap.size,0,none⟩) 9 9) (w':=w'.alloc<|.cells (Aa<|Cv a kind).toArray 290) ?_ ⟨_,rfl,y.alloc _,⟨_,rfl,(Qx w' (Aa<|Cv a kind) 290).sees (size:=2) (n:=9) rfl,sx⟩,G7.mono<|(Qc [] _).alloc _⟩;simp[execOp,go_sem,Aa,Cv,e4,e7,e8,q9,r3,r4,r5,r7,r9];rfl
   ·obtain⟨v22,a1,y0⟩:=h3 ⟨22,.data⟩ sx rfl _ 88 rfl rfl;obtain⟨g,y0,c4,b9⟩:=y0;subst y0;refine AO rfl<|Dg (by simp[execOp,go_sem,a1])<|(fF g 9 9 (Cv a kind) w' c4 (by show(Cv a kind).flatten.length<=_;unfold Cv;rw[q5.o];decide) b9 dx).mono ?_;rintro e w9⟨rfl,q⟩;exact⟨_,rfl,_,rfl,y.trans q sx,Qt (fun x=>Value.tuple #[.string<|str x,.bool true])<|Qkg a kind,G7.mono q⟩
   ·have a6:=YX<|h3 ⟨23,.data⟩ sx rfl _ 89 rfl rfl;exact UC rfl (by simp[execOp,go_sem,a6]) y rfl
   ·have x7:=YX<|h3 ⟨24,.data⟩ sx rfl _ 65 rfl rfl;exact UC rfl (by simp[execOp,go_sem,x7]) y rfl
   ·have x7:=YX<|h3 ⟨24,.data⟩ sx rfl _ 65 rfl rfl;exact UC rfl (by simp[execOp,go_sem,x7]) y rfl
   ·have a7:=YX<|h3 ⟨25,.data⟩ sx rfl _ 90 rfl rfl;exact UC rfl (by simp[execOp,go_sem,a7]) y rfl
   have a8:=YX<|h3 ⟨26,.data⟩ sx rfl _ 91 rfl rfl;exact UC rfl (by simp[execOp,go_sem,a8]) y rfl
  clear z8;obtain⟨c5,b1,y1⟩:=p4 27 _ 8 rfl rfl;have y1:c5=_:=y1;subst y1;obtain⟨c6,b2,y2⟩:=p4 28 _ 9 rfl rfl;have y2:c6=_:=y2;subst y2;refine hM _ _<|Met.intro<|hJ _ _ ?_
  repeat apply Exists.intro
  exact⟨⟨dS b1,dS b2,Qa y⟩,uB p1 b8 x6 rfl⟩
 obtain⟨rfl,rfl,p9⟩:=hcut;have⟨H0,x0⟩:=qx<|CV b size;have⟨T,hT⟩:=qx<|tl a kind;have⟨n,hn⟩:=qx<|Dp a b kind size;have l0:=Oj b size z4;have l1:=nK kind a z3;have eT:FD kind a=T:=hT;have e0:hd=H0++Q3 8:=by rw[<-p8.o,<-x0];simp[CV,Zt,QR]
 have p6:(str hd++str T).data.toList=H0++(Q3 8++T):=by rw[e0];simp only[ByteArray.data_append,Mn];rw[<-QR];rfl
 have y5:Vl (H0++(Q3 8++T)) 512=n:=by rw[<-hn,Dp,x0,eT]
 have y4:=Mb (H0++(Q3 8++T)) 512;have q6:=Qa (show str H0++str (Zg n 7)++⟨#[32]⟩++str T=str (X8 a b kind size)by
  rw[<-Rp (_++_),X8,hn,x0,eT]
  congr 1
  simp;rfl)
 rw[y5]at y4;rw[x0]at l0;rw[eT]at l1;have x1:(str hd).size=156:=by show hd.length=156;rw[e0,Qo,l0,VY]
 have x2:(str T).size=356:=l1;have x3:(str H0).size=148:=l0;have x4:(str<|Zg n 7).size=7:=Cl n 7 dx;have HS:=Qa (fun W=>dP (str hd++str T) W<|by rw[ByteArray.size_append,x1,x2]);rw[p6,y5]at HS;have HO:=Qa (fun W=>jC n 7 W dx dx (Iw y4 dx) ox);have s1:=BH (str hd) 148 148 ox rfl;have p7:hd.take 148=H0:=by rw[e0,<-l0];exact DA
 rw[JS (str hd) 0 148 ox,VJ,Aw,show(str hd).data.toList=hd from rfl,p7]at s1;have q0:=Qa (z6.o.trans p9.o sx);rw[hT];clear hT x0 hn p6 y5 e0 eT y4 p7;go_wp2_with (first
  |(go_fit(HS.o _);rintro e w5⟨rfl,b6⟩)
  |(go_fit(HO.o _);rintro e w6⟨rfl,b7⟩))
 go_ret2;exact⟨by rw[<-q6.o];rfl,((q3.o.trans q0.o sx).trans b6 sx).trans b7 sx⟩
