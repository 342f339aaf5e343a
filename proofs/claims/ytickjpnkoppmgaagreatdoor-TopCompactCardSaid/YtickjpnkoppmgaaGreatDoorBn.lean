import Derived.Orders
import Derived.RegionTactic
import Derived.Test.YtickjpnkoppmgaaGreatDoorBm
set_option linter.all false
namespace Go.Proofs.YtickjpnkoppmgaaGreatDoor
open Go.Proofs.Tryz Go.RowKit K
section
open Go.Sort Go.Shelf
def vE{d b c s w w1}(f:Q9 w d b c s w1)(hs:s.Ok){i:Nat}{x}(a:s.img[i]?=some x):
 Calls prog 57 #[.pointer d,i] w1 fun e w'=>e=.returned (.tuple #[str x,(0:Int)])∧Q9 w d b c {s with lZ:=s.lZ+1} w':=
 f.on fun g h b=>(gE b hs i x a).mono fun e w' ⟨f,b,c⟩=>⟨f,g,h,b,c.mono (by intro x a;rw[Za]at a;subst a;simp),QP.refl _ _⟩
def JC(S:LN)(w:WD)(b:Nat)(l:LU)(w':WD):Prop:=Lib.IsBuilder 115 5 w.heap.size b (Lib.byteCells l) w'∧Qb S w w'
def JC.kept{S T w w1 d b l}(c:JC S w b l w1)(hk:Qb T w1 d)(a:∀x∈T,x∈S)(e:∀x∈S,x<w.heap.size):JC S w b l d:=by
 obtain⟨i,j⟩:=c;have hb:∀c,Lib.BuilderAt 115 5 w.heap.size b c (Lib.byteCells l) w1→Lib.BuilderAt 115 5 w.heap.size b c (Lib.byteCells l) d:=by
  rintro c⟨c,d,a2,a3,a4⟩;refine⟨c,d,hk.heap a2 (fun c=>by have:=e _<|a _ c;omega),⟨a3.1,?_⟩,a4⟩;rcases a3.2 with f|⟨h,cap,g,m,k,hh,d⟩
  ·exact .inl f
  exact .inr ⟨h,cap,g,m,k,hk.heap hh (fun c=>by have:=e _<|a _ c;have:=d.1;omega),d⟩
 exact⟨i.imp (hb _)<|hb _,j.trans hk fun x c=>.inl<|a x c⟩
def JC.new(S w):JC S w w.heap.size [] (w.alloc<|.cells #[.pointer none,.slice none 0 0] 115):=
 ⟨(Ye.new w).1,(Qc _ _).alloc _⟩
def JC.write{S w w1 b l}(a:JC S w b l w1)(s:BA)(c:l.length+s.size≤100000000):
 Calls prog 58 #[.pointer b,s] w1 fun e c=>e=.returned (.tuple #[s.size,.nilIface])∧JC S w b (l++s.data.toList) c:=by
 have d:(Lib.byteCells l).length=l.length:=by simp[Lib.byteCells]
 refine(Tryz.strWrite w.heap.size b (Lib.byteCells l) s w1 a.1 (by rw[d];omega) a.2.size).mono ?_;rintro e c⟨g,d,c⟩;have f:Lib.byteCells l++Lib.strCells s=Lib.byteCells (l++s.data.toList):=by simp[Lib.byteCells,Lib.strCells]
 rw[f]at d;exact⟨g,.inr d,⟨c.os.trans a.2.os,c.tape.trans a.2.tape,c.output.trans a.2.output,QS a.2.size c.size,fun d hk f=>(c.block d hk).trans<|a.2.block d hk f⟩⟩
def JC.str{S w w1 b l}(a:JC S w b l w1):
 Calls prog 60 #[.pointer b] w1 fun e c=>e=.returned (str l)∧Qb S w c:=by
 refine(Tryz.strBuilt w.heap.size b l w1 a.1 a.2.size).mono ?_;rintro e c⟨d,c⟩;exact⟨d,⟨c.os.trans a.2.os,c.tape.trans a.2.tape,c.output.trans a.2.output,QS a.2.size c.size,fun d hk f=>(c.block d hk).trans<|a.2.block d hk f⟩⟩
end
section
open Go.Sort Go.Shelf
def QI.mv(D:QI)(T:Nat)(L:LY)(i:Nat):QI:=(D.wr T (L.take i)).tick i
def Qbw(D:QI)(T L i):({D.mv T L i with lZ:=(D.mv T L i).lZ+1}:QI)=(D.tick<|i+1).wr T (L.take i):=by unfold QI.mv QI.wr QI.tick;simp only[QI.mk.injEq,EP];omega
def Qbx(D:QI)(T){L i}(a:i<L.length):(D.tick<|i+1).wr T (L.take<|i+1)=D.mv T L (i+1):=by unfold QI.mv QI.wr QI.tick;simp only[QI.mk.injEq,EP];omega
def NQ{D:QI}(a:D.Ok){T L}(b:T+L.length≤D.cap)(b:∀x∈L,x.length=512)(c:D.lZ+2*L.length+2≤1000000000){i}(hi:i≤L.length):(D.mv T L i).Ok∧(D.tick<|i+1).Ok:=
 ⟨a.wrL (by rw[Zl];omega) (fun x c=>b x<|VE c) i (by rw[Zl];omega),⟨a.c1,a.c2,a.len,a.sec,by show D.lZ+(i+1)≤_;omega⟩⟩
def Qbv{D:QI}{st T L}(a:UC D.img st L)(ha:st+L.length≤T∨T+L.length≤st){i x}(b:L[i]?=some x):(D.mv T L i).img[st+i]?=some x:=
 (a.wr (L.take i) (by rw[Zl];omega)) i x b
def Zj.keptS{S a d c f mv s w w1}(b:Zj w a d c f mv s)(hk:Qb S w w1)(e:∀x∈S,x∉QT a d c f mv)(g:∀x∈S,10≤x):Zj w1 a d c f mv s:=
 ⟨⟨b.vt.arr.kept hk fun c=>e a c<|by simp,b.vt.dk.kept hk fun x f c=>e x c (by simp only[QT,QE,Q6];exact .inr<|.inr<|by simpa[Q7]using f),b.vt.mem.kept hk fun x f c=>e x c<|by simp[f],b.vt.apart⟩,b.env.kept hk g,b.low⟩
def Qn.block{w e size v n xs}(a:Qn w e size v n xs)(b:0<n)(hs:0<size):∃g cap,v=.slice (some ⟨g,0,none⟩) n cap:=by
 rcases a.2 with⟨rfl,c⟩|⟨g,cap,c,rfl,-⟩
 ·exfalso;have:=a.1;have:0<n*size:=Nat.mul_pos b hs
  simp_all
 exact⟨g,cap,rfl⟩
def eP(w:WD)(a b e):∀j v,[a,b][j]?=some v→(w.alloc<|.cells #[a,b] e).cell? ((⟨w.heap.size,0,none⟩:Addr).add j)=some v:=by
 intro j v a
 match j,a with
 |0,a=>simp at a;subst a;simp[Addr.add]
 |1,a=>simp at a;subst a;simp[Addr.add]
def WQ{w}{g cap n:Nat}{a x b}(c:a.length=n)(d:Qn w 109 2 (.slice g (n+1) cap) (n+1) (Qx Q4 a++[.int .i64 x,.int .i64 b])):RS w (.slice g (n+1) cap) (a++[(x,b)]):=by
 subst c;have c:Qx Q4 (a++[(x,b)])=Qx Q4 a++[.int .i64 x,.int .i64 b]:=by simp[Qx,Q4]
 have e:Qn w 109 2 (.slice g (a.length+1) cap) (a++[(x,b)]).length (Qx Q4<|a++[(x,b)]):=by rwa[c,Qo]
 exact e.exA
section
variable {a d:Nat} {nv pv mv:VL} {s:Vst} {w w1 w2:WD}
set_option maxRecDepth 20000 in
set_option maxHeartbeats 2000000 in
def eG{c}(h:Zj w a d nv pv mv s)(o:Vok s c)(p)(hp:p.length≤1000000)(tg:Int)(hc:s.dev.lZ+10000≤1000000000):
 Calls prog 42 #[.pointer a,str p,tg] w fun e w'=>e=.returned (.int .i64 (s.move p tg).1)∧ZQ w a d nv pv mv (s.move p tg).2 w':=by
 obtain⟨h9,HH⟩:=qb (NP h o.dev (by have:=o.few;omega) p hp) h
 by_cases h0:(s.find p).1=0
 ·obtain⟨f5,h4,x7⟩:=Vst.find_zero h0;obtain⟨m,hm⟩:=qx<|(s.find p).2;rw[hm]at h4 x7;have HF:=Qa<|Qr h0<|Qr hm<|Qr h4<|Qr x7 f5;rw[h0,hm]at h9;clear h4 x7 f5;unfold Zi at h9;have q6:=Qa (by unfold Vst.exts;rw[QH];have:=o.few;omega:s.exts.length≤1000);have q4:=Qa fun W (hW:Qb [] w W)=>MY (h.vt.kZ hW) (by have:=o.few;omega);have d4:=Qa fun W (hW:Qb [] w W)=>Cg (h.vt.dk.kZ hW) o.dev;have p2:=Qa fun v W hA=>KK v (s.exts++[(tg,m.eZ)]) s.dev.cap W hA (by rw[Qo];have:=q6.o;simp;omega) (by have:=o.pZ;omega) (by have:=o.dev.c2;omega);have p1:=Qa fun W (hW:Qb [] w W)=>(h.vt.kZ hW).arr.cell (i:=0) (u:=.pointer d) rfl;obtain⟨ok,z8⟩:=qx<|ZX s.dev.cap<|s.exts++[(tg,m.eZ)];rw[z8]at p2;have HV:=Qa o;clear h o h0;go_enter func42,ntmps42;go_wp2_with (first
   |(go_at_call 49;refine h9.o.mono ?_;rintro e w1⟨rfl,r0⟩))
  have y9:=r0.alloc<|.cells #[.string<|str m.path,.int .i64 m.start,.int .i64 m.eZ,.int .i64 m.size,.int .u32 m.sum] 69;have A1:=Qy w1 [.string<|str m.path,.int .i64 m.start,.int .i64 m.eZ,.int .i64 m.size,.int .u32 m.sum] 69;obtain⟨r6,d3⟩:=qb A1 y9;have b7:w.heap.size≤w1.heap.size:=r0.size;obtain⟨b,hb⟩:=qx w1.heap.size;rw[hb]at r6 A1 b7 ⊢;obtain⟨W1,hW⟩:=qx<|w1.alloc<|.cells #[.string<|str m.path,.int .i64 m.start,.int .i64 m.eZ,.int .i64 m.size,.int .u32 m.sum] 69;rw[hW]at d3 y9 r6 A1 ⊢;have c2:=A1.cell (i:=2) (u:=.int .i64 m.eZ) rfl;have c0:=p1.o _ y9;clear hW A1;have hD:Qb [] w W1.drew:=y9.trans (Qc [] W1).drew (by simp);obtain⟨E,hE⟩:=qx s.exts;obtain⟨n,hn⟩:=qx E.length;rw[hE]at q4 p2 q6;rw[hn]at q6;have d8:0<n:=by rw[←hn,←hE];unfold Vst.exts;rw[QH];exact PU HF.o.2.2.1
  have l7:=q6.o;obtain⟨rr,r2⟩:∃rr:Int,(if ok=true then 0 else 220)=rr:=⟨_,rfl⟩;rw[r2]at p2;have hq:(rr==0)=ok:=by cases ok<;>(subst r2;rfl)
  go_cut [41]from 24 to 41 (fun l5 w'=>l5=.bool (!ok)∧Hid (Qb [] W1 w'))
  ·go_region_held3 (fun w'=>w'.cell? a=some (.pointer d)∧w'.cell? ⟨b,2,none⟩=some (.int .i64 m.eZ))
    (first|exact⟨c0,c2⟩|exact⟨d0,d2⟩|exact⟨((Qc [] _).alloc _).cZ d0<|by simp,((Qc [] _).alloc _).cZ d2<|by simp⟩|exact⟨e0,e2⟩|exact⟨f0,f2⟩|exact⟨((Qc [] W1).drew.alloc _).cZ c0<|by simp,((Qc [] W1).drew.alloc _).cZ c2<|by simp⟩|go_keep)
    (first
      |(go_at_call 77;refine(q4.o _ hD).mono ?_;rintro e w3⟨v3,rfl,x8,z7,p8⟩;have p4:=(Qc [] W1).drew.trans z7 (by simp);have d0:=z7.cZ c0 (by simp);have d2:=z7.cZ c2 (by simp);rw[hn]at x8;obtain⟨g3,a8,rfl⟩:=x8.block d8<|by decide)
      |(go_at_call 77;refine(q4.o _<|hD.alloc<|.cells #[tg,.int .i64 m.eZ] 109).mono ?_;rintro e w3⟨v3,rfl,x8,z7,p8⟩;have p4:=((Qc [] W1).drew.alloc<|.cells #[tg,.int .i64 m.eZ] 109).trans z7 (by simp);have d0:=p4.cZ c0 (by simp);have d2:=p4.cZ c2 (by simp);rw[hn]at x8;obtain⟨g3,a8,rfl⟩:=x8.block d8 (by decide)
        have p8:=fun x q=>QS (by rw[Vo];exact DW _) (p8 x q))
      |(refine jJ rfl _ _ 106 rfl 109 (.agg #[(0:Int),(0:Int)]) 2 16 R9 Bt rfl (by decide) g3 n a8 (Qx Q4 E) [tg,.int .i64 m.eZ] ⟨w3.heap.size,0,none⟩ 1 1 rfl rfl (by simp[Value.oneCell']) (World.ownsRow.alloc x8 _) rfl (eP _ _ _ _) (by simp only[maxLen];omega) (by omega) ?_
        intro g4 b1 w4 c8 b8 j5 j8;have x6:Qb [] W1 w4:=Qb.trans (p4.alloc _) b8 (fun x q=>.inr<|p8 x<|by simpa[Qd,qo]using q);have e0:=x6.cZ c0 (by simp);have e2:=x6.cZ c2 (by simp);have d9:=y9.trans x6 (by simp);have f8:RS w4 (.slice g4 (n+1) b1) (E++[(tg,m.eZ)]):=WQ hn c8)
      |(refine jJ rfl _ _ 106 rfl 109 (.agg #[(0:Int),(0:Int)]) 2 16 R9 Bt rfl (by decide) g3 n a8 (Qx Q4 E) [tg,.int .i64 m.eZ] ⟨W1.heap.size,0,none⟩ 1 1 rfl rfl (by simp[Value.oneCell']) (x8) rfl (fun j v hj=>z7.cZ (eP W1.drew _ _ _ j v hj)<|by simp) (by simp only[maxLen];omega) (by omega) ?_
        intro g4 b1 w4 c8 b8 j5 j8;have x6:Qb [] W1 w4:=Qb.trans (p4) b8 (fun x q=>.inr<|p8 x<|by simpa[Qd,qo]using q);have e0:=x6.cZ c0 (by simp);have e2:=x6.cZ c2 (by simp);have d9:=y9.trans x6 (by simp);have f8:RS w4 (.slice g4 (n+1) b1) (E++[(tg,m.eZ)]):=WQ hn c8)
      |(go_at_call 14;refine(d4.o _ d9).mono ?_;rintro e w5⟨rfl,rfl⟩)
      |(go_at_call 72;refine(p2.o _ _ f8).mono ?_;rintro e w6⟨rfl,b9⟩;have f0:=b9.cZ e0 (by simp);have f2:=b9.cZ e2 (by simp);have q8:=x6.trans b9<|by simp))
   all_goals
    go_wp2
    go_meet
    case rel=>exact⟨by simp only[bne,hq],Qa q8⟩
  obtain⟨rfl,d7⟩:=hcut;obtain⟨f0,fm,-⟩:=HF.o;have q7:=d3.o.trans d7.o (by simp);cases ok with
  |false=>
   have e:s.move p tg=(2,s):=(by unfold Vst.move;rw[Qf<|by simp[f0],fm,Qg z8]);have a6:=Qa e;clear e r2 hq hE hn z8 f0 fm
   go_wp2
   go_ret;rw[a6.o];exact⟨rfl,HH.o.refl.kept q7⟩
  |true=>
   obtain⟨-,-,h4,x7,c5⟩:=HF.o;have o:=HV.o;have q:=((YD _ _).1 z8);have l3:=q.1 (tg,m.eZ) (by simp);have hap:=(DR.1 q.2).2.2 (Xe m) (by rw[show s.exts=s.mem.map Xe from rfl];exact Ue h4) (tg,m.eZ) (by simp);obtain⟨x1,x2,x3⟩:=l3;have j6:=o.inX h4;have c4:=o.mems m h4;have h5:=o.room 2 (by omega);have hrs:=s.room_same 2;have c9:=s.room_calls 2;obtain⟨N,hN⟩:=qx m.eZ.toNat;obtain⟨T,hT⟩:=qx tg.toNat;obtain⟨st,f7⟩:=qx m.start.toNat;obtain⟨L,hL⟩:=qx<|Y7 (m.path,c m.path);have h8:L.length=N:=(by rw[←hL,Ap,←hN,c4.eZ];rfl);have x4:∀x∈L,x.length=512:=(by rw[←hL];exact Gm (o.plen h4) c4.big);obtain⟨D,hD⟩:=qx<|(s.room 2).dev;have hH:UC D.img st L:=(by rw[←hD,←f7,←hL];exact(h5.mems m<|by rwa[hrs.1]).holds);have z6:st+L.length≤T∨T+L.length≤st:=(by rw[h8];have hap:m.start+m.eZ≤tg∨tg+m.eZ≤m.start:=hap;omega);have x0:D.Ok:=(by rw[←hD];exact h5.dev);have j1:D.cap=s.dev.cap:=(by rw[←hD];exact hrs.2.1);have j4:=x0.c2;have p5:D.lZ+9000≤1000000000:=(by rw[←hD];omega);have x5:T+L.length≤D.cap:=(by rw[h8];omega);obtain⟨j2,l8⟩:(0≤m.start∧m.start≤4096∧30≤tg∧tg≤4096∧m.eZ=(N:Int)∧tg=(T:Int)∧m.start=(st:Int))∧N≤4096:=(by omega);have e:s.move p tg=(0,Vst.commit {s.room 2 with dev:=(D.mv T L N).tick 1} [(true,{m with start:=tg})]):=by
    unfold Vst.move;rw[Qf<|by simp[f0],fm,Qf (by rw[z8];simp),o.sct h4,hL,hD,hN,hT]
    congr 3
    unfold QI.mv QI.wr QI.tick;rw[←h8,VG];rfl
   obtain⟨a6,HR⟩:=qb e (OE (HH.o.kZ q7) o 2 (by decide)<|by omega);obtain⟨y1,y2,y3,y4,y5,y6,y7⟩:=j2;obtain⟨d5,y8,q1,q5⟩:=qd hD (Qr h5<|Qr x0<|Qr x5<|Qr x4<|Qr hH<|Qr z6<|Qr h8 p5) (r6.o.kept d7.o<|by simp) q7;clear e r2 hq hE hn z8 f0 fm h4 x7 c5 o q hap x1 x2 x3 j6 c4 h5 hrs c9 hN hT f7 hL h8 x4 hD hH z6 x0 j1 j4 p5 x5 q7 c0 c2 h9 q4 d4 p2;subst y6;rw[y5,y7]at q1 ⊢;have HY:=Qa<|Qr y5 y7;rw[y7]at y1 y2;clear y5 y7;go_wp2_with (go_at_call 50;refine HR.o.mono ?_;rintro e w2⟨rfl,j9⟩;obtain⟨x9,y0,l4,p7,b6,b4⟩:=j9;have q9:b∉QT a d nv pv mv:=(fun hm=>absurd (HH.o.vt.lt _ hm)<|by omega);have A2:=q1.o.kept b6 q9;have c1:=A2.cell (i:=1) rfl;have c2:=A2.cell (i:=2) rfl);obtain⟨i8,d6,a7,q3,f9⟩:=qe p7 b6 b4 A2 q9;have e6:a∉Q7 d x9 y0:=p7.vt.apart.1;have r7:=Qa e6;have e9:b∉Q7 d x9 y0:=fun hm=>by
    rcases b4 b (by simp only[QT,QE,Q6];exact .inr<|.inr<|by simpa[Q7]using hm)with h1|h1
    ·exact q9 h1
    have:=q1.o.lt;omega
   have r9:=Qa e9;have f3:Q9 w2 d x9 y0 (D.mv T L 0) w2:=(by have:=p7.vt.dk;rw[d5.o]at this;exact Q9.refl this);obtain⟨p1,g6⟩:=qb (p7.vt.arr.cell (i:=0) (u:=.pointer d) rfl) f3;clear p7 b6 b4 A2 q9 e6 e9 f3 c1
   go_loopg [10,11,12,13,51] N (fun k l9 m0 m1 m2 l6 wr=>∃i:Nat,i≤N∧k=N-i∧l6=.int .i64 (i:Nat)∧Hid (Q9 w2 d x9 y0 (D.mv T L i) wr))
   ·exact⟨0,by omega,by omega,rfl,g6⟩
   obtain⟨i,hi,hk,rfl,HD⟩:=hrel;obtain⟨h5,x0,x5,x4,hH,z6,h8,p5⟩:=y8.o
   by_cases hlt:i<N
   ·have q0:(i:Int)<N:=(by omega);obtain⟨y,hy⟩:=qy L i (by omega);obtain⟨p9,ok2⟩:=NQ x0 x5 x4 (by omega) (i:=i) (by omega);have hg:=Qbv hH z6 hy;obtain⟨g9,i6⟩:=qb (fun W (h:Q9 w2 d x9 y0 (D.mv T L i) W)=>by have:=vE h p9 hg;rw[Qbw,show((st+i:Nat):Int)=st+(i:Int)by omega]at this;exact this) (fun W (h:Q9 w2 d x9 y0 ((D.tick<|i+1).wr T<|L.take i) W)=>by have:=II h ok2 hy x4 x5 (by show D.lZ+(i+1)+_≤_;omega);rw[Qbx D T<|by omega,show((T+i:Nat):Int)=T+(i:Int)by omega]at this;exact this);have w5:IntKind.i64.wrap ((st:Int)+i)=(st:Int)+i:=(by rw[Zz];omega);have w6:IntKind.i64.wrap ((T:Int)+i)=(T:Int)+i:=(by rw[Zz];omega);have e0:=HD.o.cell p1.o r7.o;have e1:=HD.o.cell (q3.o.cell (i:=1) rfl) r9.o;clear h5 x0 x5 x4 hH z6 h8 p5 hy p9 ok2 hg c2;go_wp2_with fail
    go_region_held3 (fun w'=>w'.cell? a=some (.pointer d)∧w'.cell? ⟨b,1,none⟩=some (.int .i64 st)) (first|exact⟨e0,e1⟩|exact⟨d0,d1⟩|go_keep)
     ((go_at_call 57;refine(g9.o _<|HD.o.kept (Qc [] wr).drew).mono ?_;rintro e w3⟨rfl,c6⟩;have d0:=c6.cell p1.o r7.o;have d1:=c6.cell (q3.o.cell (i:=1) rfl) r9.o))
    go_wp2_with (go_at_call 74;refine(i6.o _ c6).mono ?_;rintro e w4⟨rfl,l0⟩)
    go_roundg (N-(i+1))
    ·exact⟨i+1,by omega,rfl,by go_num,Qa l0⟩
    omega
   obtain rfl:i=N:=(by omega);have q0:¬(i:Int)<i:=(by omega);obtain⟨p9,-⟩:=NQ x0 x5 x4 (by omega) (i:=i) (by omega);have i7:=Qa<|IJ HD.o p9;have e0:=HD.o.cell p1.o r7.o;obtain⟨a1,p3⟩:=qb (by omega:D.lZ+2*i+100≤1000000000) h8;clear x0 x5 x4 hH z6 h8 p5 h5 p9;go_wp2_with (go_at_call 75;refine i7.o.mono ?_;rintro e w5⟨rfl,c7⟩;have A5:Qe w5 b 69 [.string<|str m.path,.int .i64 st,i,.int .i64 m.size,.int .u32 m.sum]:=(by obtain⟨_,_,_,j7,_⟩:=c7;exact q3.o.kept j7 r9.o);have r1:=A5.free 1;have s1:=A5.cell (i:=1) rfl);obtain⟨r4,r5,r3,e5,f4,b5⟩:=i8.o.dev c7;have e7:b∉QT a d x9 y0 l4:=fun hm=>(a7.o b hm).elim f9.o (fun h=>by have:=q1.o.lt;omega)
   have e8:b∉QT a d r4 r5 r3:=fun hm=>(b5 b hm).elim e7 (fun h=>by have:=q3.o.lt;omega)
   have e4:Qb (QT a d nv pv mv) w w5:=((q5.o.mono (T:=QT a d nv pv mv)<|by simp).trans d6.o fun x q=>.inl q).trans f4 fun x q=>(a7.o x q).imp id<|QS q5.o.size;have e3:QP w.heap.size (QT a d nv pv mv) (QT a d r4 r5 r3):=fun x q=>(b5 x q).elim (fun h=>(a7.o x h).imp id<|QS q5.o.size) fun h=>.inr<|QS (QS q5.o.size d6.o.size) h
   have b3:=e5.keptS (w1:=w5.setCell ⟨b,1,none⟩<|.int .i64 T) ((Qc [b] w5).setCell (.inl<|by simp) _) (fun x q=>by rw[Za]at q;subst q;exact e8) (fun x q=>by rw[Za]at q;subst q;have:=HH.o.low a (by simp);have:=HH.o.vt.lt a (by simp);omega);have b2:=e4.setCell (p:=⟨b,1,none⟩) (.inr b7)<|.int .i64 T;have A6:=A5.set 1<|.int .i64 T;obtain⟨W6,q8⟩:=qx<|w5.setCell ⟨b,1,none⟩<|.int .i64 T;rw[q8]at b3 b2 A6 ⊢;have g0:=A6.cell (i:=0) (u:=.string<|str m.path) rfl;have g1:=A6.cell (i:=1) (u:=.int .i64 T) rfl;have g2:=A6.cell (i:=2) (u:=.int .i64 i) rfl;have g3:=A6.cell (i:=3) (u:=.int .i64 m.size) rfl;have g4:=A6.cell (i:=4) (u:=.int .u32 m.sum) rfl;obtain⟨z1,z2⟩:=HY.o;obtain⟨-,-,h4,x7,c5⟩:=HF.o;have p0:=HV.o.rm m h4;have o:=HV.o;have l2:=Vst.room_next (s:=s) (n:=2) (by decide);have h5:=o.room 2 (by omega);have c9:=s.room_calls 2;have hrs:=(s.room_same 2).2.1;have j3:=o.dev.c2;have g7:=Qa (by rw[a6.o,←z1]:s.move p T=(0,Vst.commit {s.room 2 with dev:=(D.mv T L i).tick 1} [(true,⟨m.path,T,i,m.size,m.sum⟩)]));have p6:=NQ y8.o.2.1 y8.o.2.2.1 y8.o.2.2.2.1 (by have:=p3.o;have:=a1.o;omega) (i:=i) (by have:=p3.o;omega);have g5:=Qa (fun W (hV:Zj W a d r4 r5 r3 {s.room 2 with dev:=(D.mv T L i).tick 1}) g (hS:Qp W 6 (some ⟨g,0,none⟩) 1 (Qx Xj [(true,(⟨m.path,T,i,m.size,m.sum⟩:RM))]))(hg:g∉QT a d r4 r5 r3)=>
    MJ (cc:=1) (ns:=[(true,⟨m.path,T,i,m.size,m.sum⟩)]) hV ⟨p6.1.c1,p6.1.c2,p6.1.len,p6.1.sec,by have:=a1.o;have:=p3.o;show D.lZ+_+i+1≤_;rw[Zl];omega⟩ hS hg (by have:=h5.gen;show(s.room 2).gen≤_;omega)
     (by intro n hn;rw[Za]at hn;subst hn;exact .inl ⟨rfl,{ok:=p0.ok,st:=⟨y3,by rw[←z1];exact p0.st.2.1,by have h1:=y8.o.2.2.1;have h2:=y8.o.2.1.c2;have h3:=p3.o;show(T:Int)+i≤4096;omega⟩,sz:=p0.sz,sm:=p0.sm}⟩)
     (by intro n hn;rw[Za]at hn;subst hn;exact⟨p0.ms.1,by show(0:Int)≤T;omega,y4⟩) (by simp) (by simp;omega) h5.rise h5.rm h5.few (by have h1:=h5.pZ;rw[d5.o]at h1;show 30≤D.cap;omega) (by have h1:=a1.o;have h2:=p3.o;show D.lZ+_+i+1+30≤_;rw[Zl];omega))
   clear q8 p0 o h5 c9 hrs j3 p6 h4 x7 c5 z1 z2 l2 A5 r1 s1 e0 c2;obtain⟨j0,i1,g8⟩:=qc b3 b2 e3;clear b3 b2 e3 e5 f4 b5 e7 e8 e4 c7
   go_region_with (go_at_call 51;have hN:=(j0.o.kZ (Qc [] W6).drew).note (true,⟨m.path,T,i,m.size,m.sum⟩);refine(g5.o _ hN.1 _ hN.2.1 hN.2.2).mono ?_;rintro e w7⟨rfl,l1⟩)
   go_wp2
   go_ret;rw[g7.o];exact⟨rfl,.next i1.o g8.o<|.from (((Qc [] W6).drew).alloc _) l1⟩
 have e:s.move p tg=((s.find p).1,s):=by unfold Vst.move;rw[Qg h0]
 rw[e];obtain⟨m,hm⟩:=qx<|(s.find p).2;obtain⟨c1,f1⟩:=qx<|(s.find p).1;rw[hm]at h9;rw[f1]at h9 h0 ⊢;unfold Zi at h9;have g0:(c1==0)=false:=Zb.2 h0;clear h o e hm f1;go_enter func42,ntmps42;go_wp2_with (first
  |(go_at_call 49;refine h9.o.mono ?_;rintro e w1⟨rfl,r0⟩))
 go_ret;exact⟨rfl,HH.o.refl.kept<|r0.alloc _⟩
end
end
section
section
variable {P:Program} {ops:Array Oper} {Q:Exit→Act→WD→Prop} {md:Region.Mode}
def Kz{l i}:i∈Region.ready md ops l↔i<ops.size∧l.getD i true=false∧∃f,ops[i]?=some f∧∀e∈f.after,Region.binds md e=true→l.getD e.on false=true:=by
 unfold Region.ready;rw[DO,ZL];constructor
 ·rintro⟨a,b⟩;simp only[Xh,Bool.not_eq_true']at b;refine⟨a,b.1,ops[i],RP a,fun e d hb=>?_⟩;have c:=b.2;rw[RP a]at c;simp only[AC,VI,PC]at c;have:=c e d;simpa[hb]using this
 rintro⟨a,b,f,c,f⟩;refine⟨a,?_⟩;rw[b,c];simp only[Bool.not_false,V1,AC,VI,PC];intro e d;cases hb:Region.binds md e with
 |false=>rfl
 |true=>simp[f e d hb]
def Gz(n:Nat)(l:Array Bool):Nat:=((List.range n).filter fun a=>!l.getD a true).length
def lA{n i l}(hs:l.size=n)(hi:i<n)(c:l.getD i true=false):Gz n (l.setIfInBounds i true)<Gz n l:=by
 have d:∀a,(l.setIfInBounds i true).getD a true=if a=i then true else l.getD a true:=fun a=>by
  simp only[CL,Lb]
  by_cases hk:i=a
  ·subst hk;simp[hs,hi]
  rw[Qf hk,Qf fun b=>hk b.symm]
 unfold Gz;have e:((List.range n).filter fun a=>!(l.setIfInBounds i true).getD a true).Sublist (((List.range n).filter fun a=>!l.getD a true).filter fun a=>!(a==i)):=by
  rw[List.filter_filter];have b:((List.range n).filter fun a=>!(l.setIfInBounds i true).getD a true)=(List.range n).filter fun a=>(!(a==i))&&(!l.getD a true):=by
   refine List.filter_congr fun a _=>?_
   rw[d]
   by_cases hk:a=i<;>simp[hk]
  rw[b];exact List.Sublist.refl _
 have b:i∈(List.range n).filter fun a=>!l.getD a true:=DO.2 ⟨ZL.2 hi,by simp[c]⟩
 refine GV e.length_le ?_;refine List.length_filter_lt_length_iff_exists.2 ⟨i,b,by simp⟩
def gG{l}(hs:l.size=ops.size)(a:∀(i:Nat)(b:Oper),ops[i]?=some b→∀e∈b.after,Region.binds md e=true→e.on<i)(c:Region.ready md ops l=[]):∀i,i<ops.size→l.getD i false=true:=by
 intro i
 induction i using Nat.strongRecOn with
 |_ i ih=>
  intro hi;cases hg:l.getD i true with
  |true=>simpa[CL,RP (by omega:i<l.size)]using hg
  |false=>exfalso;have:i∈Region.ready md ops l:=Kz.2 ⟨hi,hg,ops[i],RP hi,fun e b hb=>ih e.on (a i _ (RP hi) e b hb) (by have:=a i _ (RP hi) e b hb;omega)⟩;rw[c]at this;cases this
def lL(b:Array Bool→Act→WD→Prop)(c:∀l a w,b l a w→l.size=ops.size)(j:∀(i:Nat)(d:Oper),ops[i]?=some d→∀e∈d.after,Region.binds md e=true→e.on<i)
 (Xu:∀l a w i,b l a w→i∈Region.ready md ops l→wpOp P ops Q i (b<|l.setIfInBounds i true) a w)
 (k:∀l a w,b l a w→(∀i,i<ops.size→l.getD i false=true)→Q .normal a w):
 ∀d l a w,b l a w→Gz ops.size l≤d→wpAny P md ops Q d l a w
 |0,l,a,w,hJ,hf=>by
  have f:Region.ready md ops l=[]:=by
   refine List.eq_nil_iff_forall_not_mem.2 fun i hi=>?_
   obtain⟨g,h,-⟩:=Kz.1 hi;have:=lA (c l a w hJ) g h;omega
  exact⟨f,k l a w hJ<|gG (c l a w hJ) j f⟩
 |d+1,l,a,w,hJ,hf=>by refine⟨fun f=>k l a w hJ<|gG (c l a w hJ) j f,fun i hi=>?_⟩;obtain⟨g,h,-⟩:=Kz.1 hi;have hlt:=lA (c l a w hJ) g h;exact wpOp_mono (fun f h g=>lL b c j Xu k d _ f h g<|by omega)<|Xu l a w i hJ hi
structure Eb(ops:Array Oper)(base:Array VL)(ds:List Deferred)(S:WD→Prop)(Good:Nat→VL→WD→Prop)(l:Array Bool)(a:Act)(w:WD):Prop where
 size:l.size=ops.size
 ds:a.defers=ds
 st:S w
 tz:a.tmps.size=base.size
 old:∀k,(∀(i:Nat)(o:Oper),ops[i]?=some o→l.getD i false=true→o.dst≠some k)→a.tmps[k]?=base[k]?
 new:∀(i:Nat)(o:Oper)(k:Nat),ops[i]?=some o→l.getD i false=true→o.dst=some k→∃v,a.tmps[k]?=some v∧Good i v w
variable {base:Array VL} {ds:List Deferred} {S:WD→Prop} {Good:Nat→VL→WD→Prop}
def Eb.step{l a w w' i o v}(h:Eb ops base ds S Good l a w)(ho:ops[i]?=some o)(hl:l.getD i true=false)(h8:∀(i j:Nat)(oi y:Oper)(k:Nat),ops[i]?=some oi→ops[j]?=some y→oi.dst=some k→y.dst=some k→i=j)(hlt:∀(i:Nat)(o:Oper)(k:Nat),ops[i]?=some o→o.dst=some k→k<base.size)(hS:S w')(hG:Good i v w')(hm:∀j v,Good j v w→Good j v w'):Eb ops base ds S Good (l.setIfInBounds i true) (a.put o.dst v) w':=by
 have hi:i<l.size:=by rw[h.size];exact(Rq.1 ho).1
 have hq:∀k,(l.setIfInBounds i true).getD k false=if k=i then true else l.getD k false:=fun k=>by
  simp only[CL,Lb]
  by_cases hk:i=k
  ·subst hk;simp[hi]
  rw[Qf hk,Qf fun e=>hk e.symm]
 have h5:∀k,(a.put o.dst v).tmps[k]?=if o.dst=some k∧k<base.size then some v else a.tmps[k]?:=fun k=>by
  unfold Act.put;cases hd:o.dst with
  |none=>simp
  |some d=>
   simp only[Lb,h.tz,Option.some.injEq]
   by_cases hk:d=k
   ·subst hk;have:=hlt i o d ho hd;simp[this]
   simp[hk]
 refine⟨by simpa using h.size,?_,hS,?_,fun k hk=>?_,fun j y k q h3 hd=>?_⟩
 ·rw[←h.ds];unfold Act.put;split<;>rfl
 ·rw[←h.tz];unfold Act.put;split<;>simp
 ·rw[h5,Qf fun hc=>hk i o ho (by rw[hq,Qg rfl]) hc.1];exact h.old k fun j y q h3=>hk j y q (by rw[hq];split<;>simp[h3])
 by_cases h4:j=i
 ·subst h4;rw[ho]at q;injection q with q;subst q;exact⟨v,by rw[h5,Qg ⟨hd,hlt _ _ _ ho hd⟩],hG⟩
 rw[hq,Qf h4]at h3;obtain⟨u,h1,h2⟩:=h.new j y k q h3 hd;exact⟨u,by rw[h5,Qf fun hc=>h4<|h8 j i y o k q ho hd hc.1,h1],hm j u h2⟩
def Qeu{g w}(f:P.follows .mixedOrders=true)(h:∀(i:Nat)(b:Oper),ops[i]?=some b→∀e∈b.after,Region.binds .any e=true→e.on<i)(q:∀(i j:Nat)(c d:Oper)(k:Nat),ops[i]?=some c→ops[j]?=some d→c.dst=some k→d.dst=some k→i=j)(hlt:∀(i:Nat)(b:Oper)(k:Nat),ops[i]?=some b→b.dst=some k→k<base.size)(h0:S {w with drawn:=w.drawn+1})(o:∀(i:Nat)(b:Oper),ops[i]?=some b→∀(a:Act)(w:WD),S w→a.defers=ds→(∀k,(∀(j:Nat)(d:Oper),ops[j]?=some d→d.dst≠some k)→a.tmps[k]?=base[k]?)→
  (∀e∈b.after,Region.binds .any e=true→∀(m:Oper)(k:Nat),ops[e.on]?=some m→m.dst=some k→∃v,a.tmps[k]?=some v∧Good e.on v w)→
  if Region.wanted b (yielded ops a.tmps)=true then Oper.wp P b a w (fun a' w'=>∃v,a'=a.put b.dst v∧S w'∧Good i v w'∧∀j v,Good j v w→Good j v w') Q else Good i undef w)(t:∀(a:Act)(w:WD),S w→a.defers=ds→a.tmps.size=base.size→(∀k,(∀(j:Nat)(d:Oper),ops[j]?=some d→d.dst≠some k)→a.tmps[k]?=base[k]?)→
  (∀(i:Nat)(b:Oper)(k:Nat),ops[i]?=some b→b.dst=some k→∃v,a.tmps[k]?=some v∧Good i v w)→Q .normal a w):
 (Code.region g ops true).wp P Q {tmps:=base,defers:=ds} w:=by
 refine wp_region_any f ?_;have:∀(f:Array Bool)(i:Nat),f.size=ops.size→f.getD i true=true→i<ops.size→f.getD i false=true:=fun f i hs g hi=>by simpa[CL,RP (by omega:i<f.size)]using g
 refine lL (Eb ops base ds S Good) (fun f a w g=>g.size) h (fun f a w i c hi=>?_) (fun f a w c n=>?_) ops.size _ _ _ ⟨by simp,rfl,h0,rfl,fun _ _=>rfl,fun i b k l r=>?_⟩ ?_
 ·obtain⟨h,p,b,h,s⟩:=Kz.1 hi;have hs:=o i b h a w c.st c.ds (fun k hk=>c.old k fun j d o _=>hk j d o) fun e u hb m k x n=>c.new e.on m k x (s e u hb) n;refine wpOp_mono (K:=fun a' w'=>Eb ops base ds S Good (f.setIfInBounds i true) a' w') (fun _ _ g=>g) ?_;unfold wpOp;rw[h];show if Region.wanted b (yielded ops a.tmps)=true then _ else _
  by_cases hw:Region.wanted b (yielded ops a.tmps)=true
  ·rw[Qg hw]at hs ⊢;left;refine Oper.wp_mono ?_ hs;rintro a' w'⟨v,rfl,f,m,s⟩;exact c.step h p q hlt f m s
  rw[Qf hw]at hs ⊢;exact c.step h p q hlt c.st hs fun _ _ g=>g
 ·exact t a w c.st c.ds c.tz (fun k hk=>c.old k fun j d o _=>hk j d o) fun i b k l hk=>c.new i b k l (n i (Rq.1 l).1) hk
 ·rw[CL]at r;have hi:=(Rq.1 l).1;simp[hi]at r
 unfold Gz;exact QS (DL _ _) (by simp)
def Jv{b a w w' v K}(c:(execOp a.eval b).run P w=.ok (.value v) w')(d:K (a.put b.dst v) w'):Oper.wp P b a w K Q:=by unfold Oper.wp;rwa[c]
def Cv{b a w}{f:FuncId}{args K}(c:(execOp a.eval b).run P w=.ok (.enter f args) w)(d:Calls P f args w fun e w'=>∃v,e=.returned v∧K (a.put b.dst v) w'):Oper.wp P b a w K Q:=by
 unfold Oper.wp;rw[c,Oper.upon_enter];exact d.mono fun e w' ⟨v,b,hk⟩=>by subst b;exact hk
def Yb{a t}{A b:Prop}(c:a.guard=none)(d:A):if Region.wanted a t=true then A else b:=by
 have hw:Region.wanted a t=true:=by simp[Region.wanted,c]
 rwa[Qg hw]
def AZ(a:Array Oper)(n:Nat):Bool:=
 (List.range a.size).all fun b=>match a[b]? with
  |none=>true
  |some o=>(o.after.all fun c=>!Region.binds .any c||decide (c.on<b))&&(match o.dst with
   |none=>true
   |some k=>decide (k<n)&&(List.range a.size).all fun c=>match a[c]? with
    |none=>true
    |some oj=>decide (b=c)||!(decide (oj.dst=some k)))
def AZ.all{b n}(f:AZ b n=true){i:Nat}{a}(d:b[i]?=some a):
 (∀e∈a.after,Region.binds .any e=true→e.on<i)∧∀k,a.dst=some k→k<n∧∀(j:Nat)(c:Oper),b[j]?=some c→c.dst=some k→i=j:=by
 have hi:=(Rq.1 d).1;have a:=XO.1 f i<|ZL.2 hi;rw[d]at a;simp only[Xh]at a;refine⟨fun e b hb=>by simpa[hb]using(PC.1 a.1) e b,fun k hk=>?_⟩;have b:=a.2;rw[hk]at b;simp only[Xh,Zv]at b;refine⟨b.1,fun j c c d=>?_⟩;have a:=XO.1 b.2 j<|ZL.2 (Rq.1 c).1;rw[c]at a;simpa[d]using a
def Qev{h w}(g:P.follows .mixedOrders=true)(f:AZ ops base.size=true)(h0:S {w with drawn:=w.drawn+1})(n:∀(i:Nat)(b:Oper),ops[i]?=some b→∀(a:Act)(w:WD),S w→a.defers=ds→(∀k,(∀(j:Nat)(c:Oper),ops[j]?=some c→c.dst≠some k)→a.tmps[k]?=base[k]?)→
  (∀e∈b.after,Region.binds .any e=true→∀(d:Oper)(k:Nat),ops[e.on]?=some d→d.dst=some k→∃v,a.tmps[k]?=some v∧Good e.on v w)→
  if Region.wanted b (yielded ops a.tmps)=true then Oper.wp P b a w (fun a' w'=>∃v,a'=a.put b.dst v∧S w'∧Good i v w'∧∀j v,Good j v w→Good j v w') Q else Good i undef w)(l:∀(a:Act)(w:WD),S w→a.defers=ds→a.tmps.size=base.size→(∀k,(∀(j:Nat)(c:Oper),ops[j]?=some c→c.dst≠some k)→a.tmps[k]?=base[k]?)→
  (∀(i:Nat)(b:Oper)(k:Nat),ops[i]?=some b→b.dst=some k→∃v,a.tmps[k]?=some v∧Good i v w)→Q .normal a w):
 (Code.region h ops true).wp P Q {tmps:=base,defers:=ds} w:=
 Qeu g (fun i b d=>(AZ.all f d).1) (fun i j g c k hi m g h=>((AZ.all f hi).2 k g).2 j c m h) (fun i b k d b=>((AZ.all f d).2 k b).1) h0 n l
def qT{b:Act}{L}(a:b.defers=ds)(hs:b.tmps.size=base.size)(f:∀k,(∀(j:Nat)(c:Oper),ops[j]?=some c→c.dst≠some k)→b.tmps[k]?=base[k]?)(e:L=(List.range base.size).map fun k=>bif (ops.toList.filterMap (·.dst)).contains k then b.tmps.getD k undef else base.getD k undef):b={tmps:=L.toArray,defers:=ds}:=by
 cases b with
 |mk t d=>
  simp only at a hs f e ⊢;subst a
  congr 1
  subst e;refine Array.ext_getElem? fun k=>?_
  simp only[List.getElem?_toArray,ZD]
  by_cases hk:k<base.size
  ·rw[Xa hk,AC];cases hc:(ops.toList.filterMap (·.dst)).contains k with
   |true=>simp[CL,RP (by omega:k<t.size)]
   |false=>
    rw[f k fun j c e a=>?_]
    ·simp[CL,RP hk]
    have:k∈ops.toList.filterMap (·.dst):=List.mem_filterMap.2 ⟨c,by simpa using PD e,a⟩;simp[this]at hc
  rw[QX (by simp;omega),Array.getElem?_eq_none<|by omega];rfl
def aO{b:Act}{k v}(a:b.tmps[k]?=some v):b.tmps.getD k undef=v:=by rw[CL,a];rfl
end
end
