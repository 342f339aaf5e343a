import Derived.Test.YtickjpnkoppmgaaGreatDoorBn
set_option linter.all false
namespace Go.Proofs.YtickjpnkoppmgaaGreatDoor
open Go.Proofs.Tryz Go.RowKit K
def eR{l}(a:(0:UInt8)∉l):Lib.indexByte l 0= -1:=by
 induction l with
 |nil=>rfl
 |cons b l ih=>simp only[QE,JU]at a;rw[Lib.indexByte,Qf<|by simpa using fun c=>a.1 c.symm,ih a.2];rfl
def RF(path:BA)(kind:UInt8)(size:Nat):VL:=
 .agg #[path,size,.int .u8 kind.toNat,(420:Int),(0:Int),.string ⟨#[]⟩,.string ⟨#[]⟩,.string ⟨#[]⟩,(0:Int),(0:Int)]
def OT{p a b}(c:Uc p=some (a,b))(h0:(0:UInt8)∉p):(0:UInt8)∉a∧(0:UInt8)∉b∧a.length≤155∧b.length≤100:=by
 rcases KM c with⟨rfl,rfl,c⟩|⟨c,d,e,e,rfl⟩
 ·exact⟨by simp,h0,by simp,c⟩
 simp only[Q6,QE,JU]at h0;exact⟨h0.1,h0.2.2,d,e⟩
def Ca(x a:Int):Prop:=0≤x∧x<1000000000∧2≤a∧a≤20∧x.toNat<8^(a.toNat-1)
def Ph(x a W)(b:Ca x a):Calls prog 195 #[x,a] W fun e w'=>e=.returned (.agg #[str<|Zc x.toNat a.toNat,(0:Int)])∧Qb [] W w':=by obtain⟨c,d,d,d,d⟩:=b;have:=Qim x.toNat a.toNat W (by omega) (by omega) d (by omega);rwa[Rs c,Rs<|by omega]at this
def Fy(s:BA)(x a:Int):Prop:=(s.size:Int)≤a∧a≤x∧x≤512∧(0:UInt8)∉s.data.toList
def ER(s x a W)(b:Fy s x a):Calls prog 194 #[s,x,a] W fun e w'=>e=.returned (.agg #[str<|Zp s x.toNat,(0:Int)])∧Qb [] W w':=by obtain⟨c,c,c,c⟩:=b;have:=Qiq s x.toNat a.toNat W (by omega) (by omega) (by omega)<|eR c;rwa[Rs<|by omega,Rs<|by omega]at this
def BS(a:LU)(kind:UInt8):LY:=[[kind],Zp [] 100,Dl,Zp [] 32,Zp [] 32,Zc 0 8,Zc 0 8,Zp a 155,Zp [] 12]
def tl(a:LU)(kind:UInt8):LU:=([kind]++(Zp [] 100++(Dl++(Zp [] 32++(Zp [] 32++(Zc 0 8++(Zc 0 8++(Zp a 155++(Zp [] 12)))))))))
def G7(b:Nat)(a:LU)(kind:UInt8):Nat→VL→WD→Prop
 |0,v,_=>v=.pointer (some ⟨b,2,none⟩)
 |1,v,_=>v=.int .u8 kind.toNat
 |2,v,w=>∃c,v=.slice (some ⟨c,0,none⟩) 1 1∧w.cell? c=some (.int .u8 kind.toNat)
 |3,v,_=>v=.string ⟨#[kind]⟩
 |4,v,_=>v=.agg #[.string ⟨#[kind]⟩,(0:Int)]
 |5,v,_=>v=.pointer (some ⟨b,5,none⟩)
 |6,v,_=>v=.string ⟨#[]⟩
 |7,v,_=>v=.agg #[str (Zp [] 100),(0:Int)]
 |8,v,_=>v=.agg #[.string ⟨#[117,115,116,97,114,0,48,48]⟩,(0:Int)]
 |9,v,_=>v=.pointer (some ⟨b,6,none⟩)
 |10,v,_=>v=.pointer (some ⟨b,6,none⟩)
 |11,v,_=>v=.string ⟨#[]⟩
 |12,v,_=>v=.agg #[str (Zp [] 32),(0:Int)]
 |13,v,_=>v=.pointer (some ⟨b,6,none⟩)
 |14,v,_=>v=.pointer (some ⟨b,7,none⟩)
 |15,v,_=>v=.string ⟨#[]⟩
 |16,v,_=>v=.agg #[str (Zp [] 32),(0:Int)]
 |17,v,_=>v=.agg #[str (Zc 0 8),(0:Int)]
 |18,v,_=>v=.agg #[str (Zc 0 8),(0:Int)]
 |19,v,_=>v=.string (str a)
 |20,v,_=>v=.agg #[str (Zp a 155),(0:Int)]
 |21,v,_=>v=.agg #[str (Zp [] 12),(0:Int)]
 |22,v,w=>∃c,v=.slice (some ⟨c,0,none⟩) 9 9∧Qp w 2 (some ⟨c,0,none⟩) 9 (RB (BS a kind))∧c<w.heap.size
 |23,v,_=>v=.tuple #[str (tl a kind),.bool true]
 |24,v,_=>v=.tuple #[str (tl a kind),.bool true]
 |25,v,_=>v=.string (str (tl a kind))
 |26,v,_=>v=.bool true
 |27,v,_=>v=.string (str (tl a kind))
 |28,v,_=>v=.bool true
 |_,_,_=>True
def Qh2(a kind):(BS a kind).flatten=tl a kind:=by simp[BS,tl]
def G7.mono{b a kind w w'}(hk:Qb [] w w'):∀(j:Nat)(v:VL),G7 b a kind j v w→G7 b a kind j v w'
 |2,v,⟨g,h1,h2⟩=>⟨g,h1,hk.cZ h2<|by simp⟩
 |22,v,⟨g,h1,h2,h3⟩=>⟨g,h1,h2.kZ hk,Az h3 hk.size⟩
 |0,_,h=>h
 |1,_,h=>h
 |3,_,h=>h
 |4,_,h=>h
 |5,_,h=>h
 |6,_,h=>h
 |7,_,h=>h
 |8,_,h=>h
 |9,_,h=>h
 |10,_,h=>h
 |11,_,h=>h
 |12,_,h=>h
 |13,_,h=>h
 |14,_,h=>h
 |15,_,h=>h
 |16,_,h=>h
 |17,_,h=>h
 |18,_,h=>h
 |19,_,h=>h
 |20,_,h=>h
 |21,_,h=>h
 |23,_,h=>h
 |24,_,h=>h
 |25,_,h=>h
 |26,_,h=>h
 |27,_,h=>h
 |28,_,h=>h
 |_+29,_,_=>trivial
set_option maxRecDepth 100000 in
set_option maxHeartbeats 40000000 in
def Qie(p a b kind size w)(hk:kind=48∨kind=120)(hp:Uc p.data.toList=some (a,b))(h1:0<p.size)(h2:p.size≤1000000)(h0:(0:UInt8)∉p.data.toList)(hs:size<1000000000):
 Calls prog 153 #[RF p kind size] w fun e w'=>e=.returned (.tuple #[.string<|str<|XL a b kind size,(0:Int)])∧Qb [] w w':=by
 have r1:Rm p.data.toList=.tuple #[str a,.string<|str b,.bool true]:=by unfold Rm;rw[hp]
 have q4:=Qa fun W=>jE p W h2;rw[r1]at q4;obtain⟨z1,z2,z3,z4⟩:=OT hp h0;have q0:=Qa fun W=>Tryz.strByte p 0 W;rw[show((0:Int).toNat.toUInt8)=(0:UInt8)from rfl,eR h0]at q0;have q8:decide (0≤Lib.indexByte [48,53,120,103] kind)=true:=by rcases hk with rfl|rfl<;>decide
 have p9:=Qa fun W=>Tryz.strHas1 ⟨#[48,53,120,103]⟩ kind W;rw[show(⟨#[48,53,120,103]⟩:ByteArray).data.toList=[48,53,120,103]from rfl,q8]at p9;have q1:p.toList.isEmpty=false:=CD p h1;unfold RF;have HA:=Qa<|Qy w [p,size,.int .u8 kind.toNat,(420:Int),(0:Int),.string ⟨#[]⟩,.string ⟨#[]⟩,.string ⟨#[]⟩,(0:Int),(0:Int)] 165;have n1:=Jz
 have t1:Fy (str b) 100 100:=⟨by have:(str b).size=b.length:=rfl
                                 omega,by decide,by decide,z2⟩
 have t2:∀x:Int,0≤x→x≤512→Fy ⟨#[]⟩ x x:=fun x h h2=>⟨h,Av _,h2,by simp⟩
 have⟨r9,a1⟩:=qb (show([Zp b 100,Zc 420 8,Zc 0 8,Zc 0 8,Zc size 12,Zc 0 12,Zp [] 8]:List (List UInt8)).flatten.length=156 by simp only[DJ,List.flatten_nil,Qo,Yg,BR b 100 z4,BR [] 8<|by decide,BJ _ 8<|by decide,BJ _ 12<|by decide]) (show([[kind],Zp [] 100,Dl,Zp [] 32,Zp [] 32,Zc 0 8,Zc 0 8,Zp a 155,Zp [] 12]:List (List UInt8)).flatten.length=356 by simp only[DJ,List.flatten_nil,Qo,Yg,Q0,Dl,BR a 155 z3,BR [] _<|ZF _,BJ _ 8<|by decide])
 have t3:Fy (str a) 155 155:=⟨by have:(str a).size=a.length:=rfl
                                 omega,by decide,by decide,z1⟩
 have t4:Fy ⟨#[]⟩ 32 31:=⟨by decide,by decide,by decide,by simp⟩;have u1:Ca 420 8:=by unfold Ca;decide
 have u2:Ca 0 8:=by unfold Ca;decide
 have u3:Ca size 12:=⟨by omega,by omega,by decide,by decide,Nat.lt_trans (by simpa using hs) (by decide:1000000000<8^(Int.toNat 12-1))⟩;have u4:Ca 0 12:=by unfold Ca;decide
 clear q8 hk hp r1 n1;go_enter func153,ntmps153;go_wp2_with (first
  |(go_at_call 111;refine(q4.o _).mono ?_;rintro e w1⟨rfl,q9⟩;have A1:=HA.o.kept q9 (by simp);have c0:=A1.cell (i:=0) (u:=.string p) rfl;have c2:=A1.cell (i:=2) (u:=.int .u8 kind.toNat) rfl;have q6:=Db w1 kind;have B1:=A1.kept ((Qc [] w1).alloc<|.cells #[.int .u8 kind.toNat] 5) (by simp);have e0:=B1.cell (i:=0) (u:=.string p) rfl)
  |(go_at_call 155;refine(p9.o _).mono ?_;rintro e w2⟨rfl,rfl⟩)
  |(go_at_call 192;refine(q0.o _).mono ?_;rintro e w2⟨rfl,rfl⟩))
 have⟨W,hW⟩:=qx<|w1.alloc<|.cells #[.int .u8 kind.toNat] 5;rw[hW]at B1 ⊢;have HB:=Qa B1;have h5:Qb [] W W:=Qc _ _;have e1:=B1.cell (i:=3) (u:=.int .i64 420) rfl;have e2:=B1.cell (i:=8) (u:=.int .i64 0) rfl;have e3:=B1.cell (i:=9) (u:=.int .i64 0) rfl;have e4:=B1.cell (i:=1) (u:=.int .i64 size) rfl;have e5:=B1.cell (i:=4) (u:=.int .i64 0) rfl;have r7:=Qa (by rw[←hW];exact(((Qc [] w).alloc _).trans q9<|by simp).alloc _:Qb [] w W);clear e0 c0 c2 A1 B1 q6 hW;have p6:∀W:World,(Instr.indexAt 163 (.pointer<|some ⟨w.heap.size,8,none⟩) (0:Int)).run prog W=.ok (.pointer<|some ⟨w.heap.size,8,none⟩) W:=fun W=>by simp[Instr.indexAt,go_sem]
 have p7:∀W:World,(Instr.indexAt 163 (.pointer<|some ⟨w.heap.size,8,none⟩) (1:Int)).run prog W=.ok (.pointer<|some ⟨w.heap.size,9,none⟩) W:=fun W=>by simp[Instr.indexAt,go_sem]
 go_region_held3 (fun w'=>w'.cell? ⟨w.heap.size,3,none⟩=some (.int .i64 420)∧w'.cell? ⟨w.heap.size,8,none⟩=some (.int .i64 0)∧w'.cell? ⟨w.heap.size,9,none⟩=some (.int .i64 0)∧w'.cell? ⟨w.heap.size,1,none⟩=some (.int .i64 size)∧w'.cell? ⟨w.heap.size,4,none⟩=some (.int .i64 0))
  (first|exact⟨e1,e2,e3,e4,e5⟩|go_keep)
  (first
    |(go_at_call 194;refine(ER _ _ _ _<|by first|exact t1|exact t2 8 (by decide)<|by decide).mono ?_
      rintro e w9⟨rfl,y⟩;first|replace h5:=h5.trans y (by simp)|replace h5:=h5.drew.trans y (by simp)
      replace e1:=y.cZ e1 (by simp);replace e2:=y.cZ e2 (by simp);replace e3:=y.cZ e3 (by simp);replace e4:=y.cZ e4 (by simp);replace e5:=y.cZ e5 (by simp);clear y)
    |(go_at_call 195;refine(Ph _ _ _<|by assumption).mono ?_
      rintro e w9⟨rfl,y⟩;first|replace h5:=h5.trans y (by simp)|replace h5:=h5.drew.trans y (by simp)
      replace e1:=y.cZ e1 (by simp);replace e2:=y.cZ e2 (by simp);replace e3:=y.cZ e3 (by simp);replace e4:=y.cZ e4 (by simp);replace e5:=y.cZ e5 (by simp);clear y)
    |(go_at_call 193;refine(cD _ 7 7 [Zp b 100,Zc 420 8,Zc 0 8,Zc 0 8,Zc size 12,Zc 0 12,Zp [] 8] _ ((Qy w9 (RB [Zp b 100,Zc 420 8,Zc 0 8,Zc 0 8,Zc size 12,Zc 0 12,Zp [] 8]) 290).sees (size:=2) (n:=7) rfl) (by rw[r9.o];decide) (by simp)<|by decide).mono ?_
      rintro e w8⟨rfl,h9⟩;replace h5:=h5.trans (((Qc [] w9).alloc _).trans h9<|by simp) (by simp);replace e1:=h9.cZ (((Qc [] w9).alloc _).cZ e1<|by simp) (by simp);replace e2:=h9.cZ (((Qc [] w9).alloc _).cZ e2<|by simp) (by simp);replace e3:=h9.cZ (((Qc [] w9).alloc _).cZ e3<|by simp) (by simp);replace e4:=h9.cZ (((Qc [] w9).alloc _).cZ e4<|by simp) (by simp);replace e5:=h9.cZ (((Qc [] w9).alloc _).cZ e5<|by simp) (by simp);clear h9))
 obtain⟨W2,d1⟩:∃W2,W2=w8:=⟨_,rfl⟩;subst d1;have x0:=HB.o.kept h5 (by simp);have q3:=Qa h5;clear e1 e2 e3 e4 e5 h5;have h5:Qb [] W2 W2:=Qc _ _;have e1:=x0.cell (i:=2) (u:=.int .u8 kind.toNat) rfl;have e2:=x0.cell (i:=5) (u:=.string ⟨#[]⟩) rfl;have e3:=x0.cell (i:=6) (u:=.string ⟨#[]⟩) rfl;have e4:=x0.cell (i:=7) (u:=.string ⟨#[]⟩) rfl;have q6:=fun W=>Db W kind
 have j0:∀W:World,(convert 88 9<|.slice (some ⟨W.heap.size,0,none⟩) 1 1).run prog (W.alloc<|.cells #[.int .u8 (kind.toNat:Int)] 5).drew=.ok (.string ⟨#[kind]⟩) (W.alloc<|.cells #[.int .u8 (kind.toNat:Int)] 5).drew:=fun W=>Db W.drew kind
 have⟨hd,p3⟩:=qx<|(Zp b 100++(Zc 420 8++(Zc 0 8++(Zc 0 8++(Zc size 12++(Zc 0 12++Zp [] 8))))));rw[p3];have r4:=Qa p3;clear p3 p6 p7 u1 u3 u4 x0;have p6:∀W:World,(Instr.indexAt 162 (.pointer<|some ⟨w.heap.size,6,none⟩) (0:Int)).run prog W=.ok (.pointer<|some ⟨w.heap.size,6,none⟩) W:=fun W=>by simp[Instr.indexAt,go_sem]
 have p7:∀W:World,(Instr.indexAt 162 (.pointer<|some ⟨w.heap.size,6,none⟩) (1:Int)).run prog W=.ok (.pointer<|some ⟨w.heap.size,7,none⟩) W:=fun W=>by simp[Instr.indexAt,go_sem]
 go_wp2_with fail
 go_cut [8,9]from 65 to 91 (fun x8 x9 w'=>x8=.string (str<|tl a kind)∧x9=.bool true∧Hid (Qb [] W2 w'))
 ·rename_i hJ hM;have q5:=HB.o.kept q3.o (by simp);refine Qev (S:=fun w'=>Qb [] W2 w') (Good:=G7 w.heap.size a kind) (by kernel_rfl) (by kernel_rfl) ((Qc [] W2).drew) (fun i o q b w' hS q7 x7 h3=>?_) (fun b w' hS q7 d6 x7 r0=>?_)
  ·have hi:=(Rq.1 q).1;simp only[GT,Q0,Yg]at hi;have d2:i=0∨i=1∨i=2∨i=3∨i=4∨i=5∨i=6∨i=7∨i=8∨i=9∨i=10∨i=11∨i=12∨i=13∨i=14∨i=15∨i=16∨i=17∨i=18∨i=19∨i=20∨i=21∨i=22∨i=23∨i=24∨i=25∨i=26∨i=27∨i=28:=(by omega);have h1:b.tmps[1]?=some (.pointer w.heap.size):=(x7 1 (by intro j oj hj hd;have:=PD hj;simp at this;rcases this with rfl|rfl|rfl|rfl|rfl|rfl|rfl|rfl|rfl|rfl|rfl|rfl|rfl|rfl|rfl|rfl|rfl|rfl|rfl|rfl|rfl|rfl|rfl|rfl|rfl|rfl|rfl|rfl|rfl<;>simp at hd)).trans rfl;have h4:b.tmps[4]?=some (.string<|str a):=(x7 4 (by intro j oj hj hd;have:=PD hj;simp at this;rcases this with rfl|rfl|rfl|rfl|rfl|rfl|rfl|rfl|rfl|rfl|rfl|rfl|rfl|rfl|rfl|rfl|rfl|rfl|rfl|rfl|rfl|rfl|rfl|rfl|rfl|rfl|rfl|rfl|rfl<;>simp at hd)).trans rfl;have x6:=q5.kept hS (by simp);rcases d2 with rfl|rfl|rfl|rfl|rfl|rfl|rfl|rfl|rfl|rfl|rfl|rfl|rfl|rfl|rfl|rfl|rfl|rfl|rfl|rfl|rfl|rfl|rfl|rfl|rfl|rfl|rfl|rfl|rfl
   ·injection q with q;subst q;refine Yb rfl<|Jv (v:=.pointer<|some ⟨w.heap.size,2,none⟩) (w':=w') ?_ ⟨_,rfl,hS,rfl,fun _ _ h=>h⟩;simp[execOp,go_sem,h1]
   ·injection q with q;subst q;obtain⟨v0,e0,g0⟩:=h3 ⟨0,.data⟩ (by simp) rfl _ 66 rfl rfl;have g0:v0=_:=g0;subst g0;have c0:=x6.cell (i:=2) (u:=.int .u8 kind.toNat) rfl;refine Yb rfl<|Jv (v:=.int .u8 kind.toNat) (w':=w') ?_ ⟨_,rfl,hS,rfl,fun _ _ h=>h⟩;simp[execOp,go_sem,e0,c0]
   ·injection q with q;subst q;obtain⟨v1,e1,g1⟩:=h3 ⟨1,.data⟩ (by simp) rfl _ 67 rfl rfl;have g1:v1=_:=g1;subst g1;refine Yb rfl<|Jv (v:=.slice (some ⟨w'.heap.size,0,none⟩) 1 1) (w':=w'.alloc<|.cells #[.int .u8 kind.toNat] 5) ?_ ⟨_,rfl,hS.alloc _,⟨_,rfl,eO _ _ _⟩,G7.mono<|(Qc [] _).alloc _⟩;simp[execOp,e1,go_sem]
   ·injection q with q;subst q;obtain⟨v2,e2,g2⟩:=h3 ⟨2,.data⟩ (by simp) rfl _ 68 rfl rfl;obtain⟨g,g2,c2⟩:=g2;subst g2;have d3:=Wy c2;refine Yb rfl<|Jv (v:=.string ⟨#[kind]⟩) (w':=w') ?_ ⟨_,rfl,hS,rfl,fun _ _ h=>h⟩;simp[execOp,go_sem,e2,d3]
   ·injection q with q;subst q;obtain⟨v3,e3,g3⟩:=h3 ⟨3,.data⟩ (by simp) rfl _ 69 rfl rfl;have g3:v3=_:=g3;subst g3;refine Yb rfl<|Jv (v:=.agg #[.string ⟨#[kind]⟩,(0:Int)]) (w':=w') ?_ ⟨_,rfl,hS,rfl,fun _ _ h=>h⟩;simp[execOp,go_sem,e3]
   ·injection q with q;subst q;refine Yb rfl<|Jv (v:=.pointer<|some ⟨w.heap.size,5,none⟩) (w':=w') ?_ ⟨_,rfl,hS,rfl,fun _ _ h=>h⟩;simp[execOp,go_sem,h1]
   ·injection q with q;subst q;obtain⟨v5,e5,g5⟩:=h3 ⟨5,.data⟩ (by simp) rfl _ 71 rfl rfl;have g5:v5=_:=g5;subst g5;have c0:=x6.cell (i:=5) (u:=.string ⟨#[]⟩) rfl;refine Yb rfl<|Jv (v:=.string ⟨#[]⟩) (w':=w') ?_ ⟨_,rfl,hS,rfl,fun _ _ h=>h⟩;simp[execOp,go_sem,e5,c0]
   ·injection q with q;subst q;obtain⟨v6,e6,g6⟩:=h3 ⟨6,.data⟩ (by simp) rfl _ 72 rfl rfl;have g6:v6=_:=g6;subst g6;refine Yb rfl<|Cv (by simp[execOp,go_sem,e6])<|(ER ⟨#[]⟩ 100 100 w'<|t2 100 (by decide)<|by decide).mono ?_;rintro e w9⟨rfl,y⟩;exact⟨_,rfl,_,rfl,hS.trans y<|by simp,rfl,G7.mono y⟩
   ·injection q with q;subst q;refine Yb rfl<|Jv (v:=.agg #[.string ⟨#[117,115,116,97,114,0,48,48]⟩,(0:Int)]) (w':=w') ?_ ⟨_,rfl,hS,rfl,fun _ _ h=>h⟩;simp[execOp,go_sem]
   ·injection q with q;subst q;refine Yb rfl<|Jv (v:=.pointer<|some ⟨w.heap.size,6,none⟩) (w':=w') ?_ ⟨_,rfl,hS,rfl,fun _ _ h=>h⟩;simp[execOp,go_sem,h1]
   ·injection q with q;subst q;obtain⟨v9,e9,g9⟩:=h3 ⟨9,.data⟩ (by simp) rfl _ 75 rfl rfl;have g9:v9=_:=g9;subst g9;refine Yb rfl<|Jv (v:=.pointer<|some ⟨w.heap.size,6,none⟩) (w':=w') ?_ ⟨_,rfl,hS,rfl,fun _ _ h=>h⟩;simp[execOp,go_sem,e9,p6]
   ·injection q with q;subst q;obtain⟨d9,a7,y1⟩:=h3 ⟨10,.data⟩ (by simp) rfl _ 76 rfl rfl;have y1:d9=_:=y1;subst y1;have c0:=x6.cell (i:=6) (u:=.string ⟨#[]⟩) rfl;refine Yb rfl<|Jv (v:=.string ⟨#[]⟩) (w':=w') ?_ ⟨_,rfl,hS,rfl,fun _ _ h=>h⟩;simp[execOp,go_sem,a7,c0]
   ·injection q with q;subst q;obtain⟨f0,a8,y2⟩:=h3 ⟨11,.data⟩ (by simp) rfl _ 77 rfl rfl;have y2:f0=_:=y2;subst y2;refine Yb rfl<|Cv (by simp[execOp,go_sem,a8])<|(ER ⟨#[]⟩ 32 31 w' t4).mono ?_;rintro e w9⟨rfl,y⟩;exact⟨_,rfl,_,rfl,hS.trans y<|by simp,rfl,G7.mono y⟩
   ·injection q with q;subst q;refine Yb rfl<|Jv (v:=.pointer<|some ⟨w.heap.size,6,none⟩) (w':=w') ?_ ⟨_,rfl,hS,rfl,fun _ _ h=>h⟩;simp[execOp,go_sem,h1]
   ·injection q with q;subst q;obtain⟨f2,b2,y4⟩:=h3 ⟨13,.data⟩ (by simp) rfl _ 79 rfl rfl;have y4:f2=_:=y4;subst y4;refine Yb rfl<|Jv (v:=.pointer<|some ⟨w.heap.size,7,none⟩) (w':=w') ?_ ⟨_,rfl,hS,rfl,fun _ _ h=>h⟩;simp[execOp,go_sem,b2,p7]
   ·injection q with q;subst q;obtain⟨f3,b3,y5⟩:=h3 ⟨14,.data⟩ (by simp) rfl _ 80 rfl rfl;have y5:f3=_:=y5;subst y5;have c0:=x6.cell (i:=7) (u:=.string ⟨#[]⟩) rfl;refine Yb rfl<|Jv (v:=.string ⟨#[]⟩) (w':=w') ?_ ⟨_,rfl,hS,rfl,fun _ _ h=>h⟩;simp[execOp,go_sem,b3,c0]
   ·injection q with q;subst q;obtain⟨f4,b4,y6⟩:=h3 ⟨15,.data⟩ (by simp) rfl _ 81 rfl rfl;have y6:f4=_:=y6;subst y6;refine Yb rfl<|Cv (by simp[execOp,go_sem,b4])<|(ER ⟨#[]⟩ 32 31 w' t4).mono ?_;rintro e w9⟨rfl,y⟩;exact⟨_,rfl,_,rfl,hS.trans y<|by simp,rfl,G7.mono y⟩
   ·injection q with q;subst q;refine Yb rfl<|Cv (by simp[execOp,go_sem])<|(Ph 0 8 w' u2).mono ?_;rintro e w9⟨rfl,y⟩;exact⟨_,rfl,_,rfl,hS.trans y<|by simp,rfl,G7.mono y⟩
   ·injection q with q;subst q;refine Yb rfl<|Cv (by simp[execOp,go_sem])<|(Ph 0 8 w' u2).mono ?_;rintro e w9⟨rfl,y⟩;exact⟨_,rfl,_,rfl,hS.trans y<|by simp,rfl,G7.mono y⟩
   ·injection q with q;subst q;refine Yb rfl<|Jv (v:=.string<|str a) (w':=w') ?_ ⟨_,rfl,hS,rfl,fun _ _ h=>h⟩;simp[execOp,go_sem,h4]
   ·injection q with q;subst q;obtain⟨f9,b8,g19⟩:=h3 ⟨19,.data⟩ (by simp) rfl _ 85 rfl rfl;have g19:f9=_:=g19;subst g19;refine Yb rfl<|Cv (by simp[execOp,go_sem,b8])<|(ER (str a) 155 155 w' t3).mono ?_;rintro e w9⟨rfl,y⟩;exact⟨_,rfl,_,rfl,hS.trans y<|by simp,rfl,G7.mono y⟩
   ·injection q with q;subst q;refine Yb rfl<|Cv (by simp[execOp,go_sem])<|(ER ⟨#[]⟩ 12 12 w'<|t2 12 (by decide)<|by decide).mono ?_;rintro e w9⟨rfl,y⟩;exact⟨_,rfl,_,rfl,hS.trans y<|by simp,rfl,G7.mono y⟩
   ·injection q with q;subst q;obtain⟨v4,e4,g4⟩:=h3 ⟨4,.data⟩ (by simp) rfl _ 70 rfl rfl;have g4:v4=_:=g4;subst g4;obtain⟨v7,e7,g7⟩:=h3 ⟨7,.data⟩ (by simp) rfl _ 73 rfl rfl;have g7:v7=_:=g7;subst g7;obtain⟨v8,e8,g8⟩:=h3 ⟨8,.data⟩ (by simp) rfl _ 74 rfl rfl;have g8:v8=_:=g8;subst g8;obtain⟨f1,b1,y3⟩:=h3 ⟨12,.data⟩ (by simp) rfl _ 78 rfl rfl;have y3:f1=_:=y3;subst y3;obtain⟨f5,b5,y7⟩:=h3 ⟨16,.data⟩ (by simp) rfl _ 82 rfl rfl;have y7:f5=_:=y7;subst y7;obtain⟨f7,b6,g17⟩:=h3 ⟨17,.data⟩ (by simp) rfl _ 83 rfl rfl;have g17:f7=_:=g17;subst g17;obtain⟨f8,b7,g18⟩:=h3 ⟨18,.data⟩ (by simp) rfl _ 84 rfl rfl;have g18:f8=_:=g18;subst g18;obtain⟨v20,b9,y8⟩:=h3 ⟨20,.data⟩ (by simp) rfl _ 86 rfl rfl;have y8:v20=_:=y8;subst y8;obtain⟨v21,c4,y9⟩:=h3 ⟨21,.data⟩ (by simp) rfl _ 87 rfl rfl;have y9:v21=_:=y9;subst y9;refine Yb rfl<|Jv (v:=.slice (some ⟨w'.heap.size,0,none⟩) 9 9) (w':=w'.alloc<|.cells (RB<|BS a kind).toArray 290) ?_ ⟨_,rfl,hS.alloc _,⟨_,rfl,(Qy w' (RB<|BS a kind) 290).sees (size:=2) (n:=9) rfl,by simp⟩,G7.mono<|(Qc [] _).alloc _⟩;simp[execOp,go_sem,RB,BS,e4,e7,e8,b1,b5,b6,b7,b9,c4];rfl
   ·injection q with q;subst q;obtain⟨v22,c5,z6⟩:=h3 ⟨22,.data⟩ (by simp) rfl _ 88 rfl rfl;obtain⟨g,z6,d8,d7⟩:=z6;subst z6;refine Yb rfl<|Cv (by simp[execOp,go_sem,c5])<|(cD g 9 9 (BS a kind) w' d8 (by show(BS a kind).flatten.length≤_;unfold BS;rw[a1.o];decide) d7<|by decide).mono ?_;rintro e w9⟨rfl,y⟩;exact⟨_,rfl,_,rfl,hS.trans y<|by simp,Qu (fun x=>Value.tuple #[.string<|str x,.bool true])<|Qh2 a kind,G7.mono y⟩
   ·injection q with q;subst q;obtain⟨i1,c6,z7⟩:=h3 ⟨23,.data⟩ (by simp) rfl _ 89 rfl rfl;have z7:i1=_:=z7;subst z7;refine Yb rfl<|Jv (v:=.tuple #[str<|tl a kind,.bool true]) (w':=w') ?_ ⟨_,rfl,hS,rfl,fun _ _ h=>h⟩;simp[execOp,go_sem,c6]
   ·injection q with q;subst q;obtain⟨p8,y0,h8⟩:=h3 ⟨24,.data⟩ (by simp) rfl _ 65 rfl rfl;have h8:p8=_:=h8;subst h8;refine Yb rfl<|Jv (v:=.string<|str<|tl a kind) (w':=w') ?_ ⟨_,rfl,hS,rfl,fun _ _ h=>h⟩;simp[execOp,go_sem,y0]
   ·injection q with q;subst q;obtain⟨p8,y0,h8⟩:=h3 ⟨24,.data⟩ (by simp) rfl _ 65 rfl rfl;have h8:p8=_:=h8;subst h8;refine Yb rfl<|Jv (v:=.bool true) (w':=w') ?_ ⟨_,rfl,hS,rfl,fun _ _ h=>h⟩;simp[execOp,go_sem,y0]
   ·injection q with q;subst q;obtain⟨v25,c7,z8⟩:=h3 ⟨25,.data⟩ (by simp) rfl _ 90 rfl rfl;have z8:v25=_:=z8;subst z8;refine Yb rfl<|Jv (v:=.string<|str<|tl a kind) (w':=w') ?_ ⟨_,rfl,hS,rfl,fun _ _ h=>h⟩;simp[execOp,go_sem,c7]
   injection q with q;subst q;obtain⟨i6,c8,p0⟩:=h3 ⟨26,.data⟩ (by simp) rfl _ 91 rfl rfl;have p0:i6=_:=p0;subst p0;refine Yb rfl<|Jv (v:=.bool true) (w':=w') ?_ ⟨_,rfl,hS,rfl,fun _ _ h=>h⟩;simp[execOp,go_sem,c8]
  clear q5;obtain⟨i7,c9,p1⟩:=r0 27 _ 8 rfl rfl;have p1:i7=_:=p1;subst p1;obtain⟨i8,d0,p2⟩:=r0 28 _ 9 rfl rfl;have p2:i8=_:=p2;subst p2;refine hM _ _<|Met.intro<|hJ _ _ ?_
  repeat apply Exists.intro
  exact⟨⟨aO c9,aO d0,Qa hS⟩,qT q7 d6 x7 rfl⟩
 obtain⟨rfl,rfl,r5⟩:=hcut;have⟨H0,x5⟩:=qx<|Cm b size;have⟨T,hT⟩:=qx<|tl a kind;have⟨n,hn⟩:=qx<|CE a b kind size;have l0:=Nf b size z4;have l1:=kG kind a z3;have eT:EN kind a=T:=hT;have e0:hd=H0++Ze 8:=by rw[←r4.o,←x5];simp[Cm,Zp,QQ]
 have r2:(str hd++str T).data.toList=H0++(Ze 8++T):=by rw[e0];simp only[ByteArray.data_append,Le];rw[←QQ];rfl
 have p5:UU (H0++(Ze 8++T)) 512=n:=by rw[←hn,CE,x5,eT]
 have p4:=KP (H0++(Ze 8++T)) 512;have a6:=Qa (show str H0++str (Zc n 7)++⟨#[32]⟩++str T=str (XL a b kind size)by
  rw[←VY (_++_),XL,hn,x5,eT]
  congr 1
  simp;rfl)
 rw[p5]at p4;rw[x5]at l0;rw[eT]at l1;have x1:(str hd).size=156:=by show hd.length=156;rw[e0,Qo,l0,VA]
 have x2:(str T).size=356:=l1;have x3:(str H0).size=148:=l0;have x4:(str<|Zc n 7).size=7:=BJ n 7 (by decide);have HS:=Qa (fun W=>aK (str hd++str T) W<|by rw[ByteArray.size_append,x1,x2]);rw[r2,p5]at HS;have HO:=Qa (fun W=>eX n 7 W (by decide) (by decide) (GV p4<|by decide)<|by omega);have s1:=CA (str hd) 148 148 (by omega) rfl;have r3:hd.take 148=H0:=by rw[e0,←l0];exact CQ
 rw[Uo (str hd) 0 148<|by omega,VD,Br,show(str hd).data.toList=hd from rfl,r3]at s1;have r6:=Qa (q3.o.trans r5.o<|by simp);rw[hT];clear hT x5 hn r2 p5 e0 eT p4 r3;go_wp2_with (first
  |(go_at_call 177;refine(HS.o _).mono ?_;rintro e w5⟨rfl,d4⟩)
  |(go_at_call 196;refine(HO.o _).mono ?_;rintro e w6⟨rfl,d5⟩))
 go_ret2;exact⟨by rw[←a6.o];rfl,((r7.o.trans r6.o<|by simp).trans d4<|by simp).trans d5<|by simp⟩
