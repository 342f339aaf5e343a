import Derived.Orders
import Derived.RegionTactic
import Derived.Test.YtickjpnkoppmgaaGreatDoorBl
set_option linter.all false
namespace Go.Proofs.YtickjpnkoppmgaaGreatDoor
open Go.Proofs.Tryz Go.RowKit K
section
open Go.Sort Go.Shelf
def QG.mv(D:QG)(T:Nat)(L:LY)(i:Nat):QG:=(D.wr T (L.take i)).tick i
def Qee(D:QG)(T L i):({D.mv T L i with lZ:=(D.mv T L i).lZ+1}:QG)=(D.tick<|i+1).wr T (L.take i):=by unfold QG.mv QG.wr QG.tick;simp only[QG.mk.injEq,FF];omega
def Qef(D:QG)(T){L i}(h:i<L.length):(D.tick<|i+1).wr T (L.take<|i+1)=D.mv T L (i+1):=by unfold QG.mv QG.wr QG.tick;simp only[QG.mk.injEq,FF];omega
def Pc{D:QG}(h:D.Ok){T L}(c:T+L.length<=D.cap)(c:∀x∈L,x.length=512)(d:D.lZ+2*L.length+2<=1000000000){i}(hi:i<=L.length):(D.mv T L i).Ok/\(D.tick<|i+1).Ok:=
 ⟨h.wrL (by rw[Zd];omega) (fun x d=>c x<|Rv d) i (by rw[Zd];omega),⟨h.c1,h.c2,h.len,h.sec,by show D.lZ+(i+1)<=_;omega⟩⟩
def Qed{D:QG}{st T L}(h:Xu D.img st L)(ha:st+L.length<=T\/T+L.length<=st){i x}(c:L[i]?=some x):(D.mv T L i).img[st+i]?=some x:=
 (h.wr (L.take i) (by rw[Zd];omega)) i x c
def Zn.keptS{S a d c g mv s w w1}(h:Zn w a d c g mv s)(hk:Qb S w w1)(e:∀x∈S,x∉QN a d c g mv)(i:∀x∈S,10<=x):Zn w1 a d c g mv s:=
 ⟨⟨h.vt.arr.kept hk fun c=>e a c sx,h.vt.dk.kept hk fun x g c=>e x c (by simp only[QN,QD,Q4];exact .inr<|.inr<|by simpa[Q2]using g),h.vt.mem.kept hk fun x g c=>e x c<|by simp[g],h.vt.apart⟩,h.env.kept hk i,h.low⟩
def Qm.block{w e size v n xs}(h:Qm w e size v n xs)(c:0<n)(hs:0<size):∃g cap,v=.slice (some ⟨g,0,none⟩) n cap:=by
 rcases h.2 with⟨rfl,d⟩|⟨g,cap,d,rfl,-⟩
 ·exfalso;have:=h.1;have:0<n*size:=Nat.mul_pos c hs
  simp_all
 exact⟨g,cap,rfl⟩
def iR(w:WD)(c d e):∀j v,[c,d][j]?=some v->(w.alloc<|.cells #[c,d] e).cell? ((⟨w.heap.size,0,none⟩:Addr).add j)=some v:=by
 intro j v c
 match j,c with
 |0,c=>simp at c;subst c;simp[Addr.add]
 |1,c=>simp at c;subst c;simp[Addr.add]
def cV{w}{g cap n:Nat}{c x d}(e:c.length=n)(h:Qm w 109 2 (.slice g (n+1) cap) (n+1) (Qs Zc c++[.int .i64 x,.int .i64 d])):Ao w (.slice g (n+1) cap) (c++[(x,d)]):=by
 subst e;have e:Qs Zc (c++[(x,d)])=Qs Zc c++[.int .i64 x,.int .i64 d]:=by simp[Qs,Zc]
 have i:Qm w 109 2 (.slice g (c.length+1) cap) (c++[(x,d)]).length (Qs Zc<|c++[(x,d)]):=by rwa[e,Qo]
 exact i.exA
section
variable {a d:Nat} {nv pv mv:VL} {s:Vst} {w w1 w2:WD}
set_option maxRecDepth 20000 in
set_option maxHeartbeats 2000000 in
def iH{c}(h:Zn w a d nv pv mv s)(o:Vok s c)(p)(hp:p.length<=1000000)(tg:Int)(hc:s.dev.lZ+10000<=1000000000):
 Calls prog 42 #[.pointer a,str p,tg] w fun e w'=>e=.returned (.int .i64 (s.move p tg).1)/\ZU w a d nv pv mv (s.move p tg).2 w':=by
 obtain⟨h9,HH⟩:=qb (Pb h o.dev (yx o.few) p hp) h
 by_cases h0:(s.find p).1=0
 ·obtain⟨f5,h4,x7⟩:=Vst.find_zero h0;obtain⟨m,hm⟩:=qx<|(s.find p).2;rw[hm]at h4 x7;have HF:=Qa<|Qr h0<|Qr hm<|Qr h4<|Qr x7 f5;rw[h0,hm]at h9;clear h4 x7 f5;unfold Q9 at h9;have q6:=Qa (by unfold Vst.exts;rw[QH];have:=o.few;omega:s.exts.length<=1000);have q4:=Qa fun W (hW:Qb [] w W)=>Oc (h.vt.kZ hW) (yx o.few);have d4:=Qa fun W (hW:Qb [] w W)=>Rg (h.vt.dk.kZ hW) o.dev;have p2:=Qa fun v W hA=>LQ v (s.exts++[(tg,m.eZ)]) s.dev.cap W hA (by rw[Qo];have:=q6.o;simp;omega) (yx o.pZ) (yx o.dev.c2);have p1:=Qa fun W (hW:Qb [] w W)=>(h.vt.kZ hW).arr.cq 0 (u:=.pointer d);obtain⟨ok,z8⟩:=qx<|ZZ s.dev.cap<|s.exts++[(tg,m.eZ)];rw[z8]at p2;have HV:=Qa o;clear h o h0;go_enter func42,ntmps42;go_wp2_with (first
   |(go_at_call 49;refine h9.o.mono ?_;rintro e w1⟨rfl,r0⟩))
  have y9:=r0.alloc<|.cells #[.string<|str m.path,.int .i64 m.start,.int .i64 m.eZ,.int .i64 m.size,.int .u32 m.sum] 69;have A1:=Qx w1 [.string<|str m.path,.int .i64 m.start,.int .i64 m.eZ,.int .i64 m.size,.int .u32 m.sum] 69;obtain⟨r6,d3⟩:=qb A1 y9;have b7:w.heap.size<=w1.heap.size:=r0.size;obtain⟨b,hb⟩:=qx w1.heap.size;rw[hb]at r6 A1 b7 ⊢;obtain⟨W1,hW⟩:=qx<|w1.alloc<|.cells #[.string<|str m.path,.int .i64 m.start,.int .i64 m.eZ,.int .i64 m.size,.int .u32 m.sum] 69;rw[hW]at d3 y9 r6 A1 ⊢;have c2:=A1.cq 2 (u:=.int .i64 m.eZ);have c0:=p1.o _ y9;clear hW A1;have hD:Qb [] w W1.drew:=y9.trans (Qc [] W1).drew sx;obtain⟨E,hE⟩:=qx s.exts;obtain⟨n,hn⟩:=qx E.length;rw[hE]at q4 p2 q6;rw[hn]at q6;have d8:0<n:=by rw[<-hn,<-hE];unfold Vst.exts;rw[QH];exact Ti HF.o.2.2.1
  have l8:=q6.o;obtain⟨rr,r2⟩:∃rr:Int,(if ok=true then 0 else 220)=rr:=⟨_,rfl⟩;rw[r2]at p2;have hq:(rr==0)=ok:=by cases ok<;>(subst r2;rfl)
  go_cut [41]from 24 to 41 (fun l6 w'=>l6=.bool (!ok)/\Hid (Qb [] W1 w'))
  ·go_region_held3 (fun w'=>w'.cell? a=some (.pointer d)/\w'.cell? ⟨b,2,none⟩=some (.int .i64 m.eZ))
    (first|exact⟨c0,c2⟩|exact⟨d0,d2⟩|exact⟨((Qc [] _).alloc _).cZ d0 sx,((Qc [] _).alloc _).cZ d2 sx⟩|exact⟨e0,e2⟩|exact⟨f0,f2⟩|exact⟨((Qc [] W1).drew.alloc _).cZ c0 sx,((Qc [] W1).drew.alloc _).cZ c2 sx⟩|go_keep)
    (first
      |(go_at_call 77;refine(q4.o _ hD).mono ?_;rintro e w3⟨v3,rfl,x8,z7,p8⟩;have p4:=(Qc [] W1).drew.trans z7 sx;have d0:=z7.cZ c0 sx;have d2:=z7.cZ c2 sx;rw[hn]at x8;obtain⟨g3,a8,rfl⟩:=x8.block d8 dx)
      |(go_at_call 77;refine(q4.o _<|hD.alloc<|.cells #[tg,.int .i64 m.eZ] 109).mono ?_;rintro e w3⟨v3,rfl,x8,z7,p8⟩;have p4:=((Qc [] W1).drew.alloc<|.cells #[tg,.int .i64 m.eZ] 109).trans z7 sx;have d0:=p4.cZ c0 sx;have d2:=p4.cZ c2 sx;rw[hn]at x8;obtain⟨g3,a8,rfl⟩:=x8.block d8 dx
        have p8:=fun x q=>QS (by rw[Ux];exact DF _) (p8 x q))
      |(refine mP rfl _ _ 106 rfl 109 (.agg #[(0:Int),(0:Int)]) 2 16 AC BW rfl dx g3 n a8 (Qs Zc E) [tg,.int .i64 m.eZ] ⟨w3.heap.size,0,none⟩ 1 1 rfl rfl (by simp[Value.oneCell']) (World.ownsRow.alloc x8 _) rfl (iR _ _ _ _) (by simp only[maxLen];omega) ox ?_
        intro g4 b1 w4 c8 b8 j6 j9;have x6:Qb [] W1 w4:=Qb.trans (p4.alloc _) b8 (fun x q=>.inr<|p8 x<|by simpa[Qd,qo]using q);have e0:=x6.cZ c0 sx;have e2:=x6.cZ c2 sx;have d9:=y9.trans x6 sx;have f8:Ao w4 (.slice g4 (n+1) b1) (E++[(tg,m.eZ)]):=cV hn c8)
      |(refine mP rfl _ _ 106 rfl 109 (.agg #[(0:Int),(0:Int)]) 2 16 AC BW rfl dx g3 n a8 (Qs Zc E) [tg,.int .i64 m.eZ] ⟨W1.heap.size,0,none⟩ 1 1 rfl rfl (by simp[Value.oneCell']) (x8) rfl (fun j v hj=>z7.cZ (iR W1.drew _ _ _ j v hj) sx) (by simp only[maxLen];omega) ox ?_
        intro g4 b1 w4 c8 b8 j6 j9;have x6:Qb [] W1 w4:=Qb.trans (p4) b8 (fun x q=>.inr<|p8 x<|by simpa[Qd,qo]using q);have e0:=x6.cZ c0 sx;have e2:=x6.cZ c2 sx;have d9:=y9.trans x6 sx;have f8:Ao w4 (.slice g4 (n+1) b1) (E++[(tg,m.eZ)]):=cV hn c8)
      |(go_at_call 14;refine(d4.o _ d9).mono ?_;rintro e w5⟨rfl,rfl⟩)
      |(go_at_call 72;refine(p2.o _ _ f8).mono ?_;rintro e w6⟨rfl,b9⟩;have f0:=b9.cZ e0 sx;have f2:=b9.cZ e2 sx;have q8:=x6.trans b9 sx))
   all_goals
    go_wp2
    go_meet
    case rel=>exact⟨by simp only[bne,hq],Qa q8⟩
  obtain⟨rfl,d7⟩:=hcut;obtain⟨f0,fm,-⟩:=HF.o;have q7:=d3.o.trans d7.o sx;cases ok with
  |false=>
   have e:s.move p tg=(2,s):=(by unfold Vst.move;rw[Qf<|by simp[f0],fm,Qg z8]);have a6:=Qa e;clear e r2 hq hE hn z8 f0 fm
   go_wp2
   go_ret;rw[a6.o];exact⟨rfl,HH.o.refl.kept q7⟩
  |true=>
   obtain⟨-,-,h4,x7,c5⟩:=HF.o;have o:=HV.o;have q:=((YL _ _).1 z8);have l4:=q.1 (tg,m.eZ) sx;have hap:=(ED.1 q.2).2.2 (ZW m) (by rw[show s.exts=s.mem.map ZW from rfl];exact JA h4) (tg,m.eZ) sx;obtain⟨x1,x2,x3⟩:=l4;have j7:=o.inX h4;have c4:=o.mems m h4;have h5:=o.room 2 ox;have hrs:=s.room_same 2;have c9:=s.room_calls 2;obtain⟨N,hN⟩:=qx m.eZ.toNat;obtain⟨T,hT⟩:=qx tg.toNat;obtain⟨st,f7⟩:=qx m.start.toNat;obtain⟨L,hL⟩:=qx<|Ja (m.path,c m.path);have h8:L=N:=(by rw[<-hL,AU,<-hN,c4.eZ];rfl);have x4:∀x∈L,x.length=512:=(by rw[<-hL];exact Hh (o.plen h4) c4.big);obtain⟨D,hD⟩:=qx<|(s.room 2).dev;have hH:Xu D.img st L:=(by rw[<-hD,<-f7,<-hL];exact(h5.mems m<|by rwa[hrs.1]).holds);have z6:st+L.length<=T\/T+L.length<=st:=(by rw[h8];have hap:m.start+m.eZ<=tg\/tg+m.eZ<=m.start:=hap;omega);have x0:D.Ok:=(by rw[<-hD];exact h5.dev);have j2:D.cap=s.dev.cap:=(by rw[<-hD];exact hrs.2.1);have j5:=x0.c2;have p5:D.lZ+9000<=1000000000:=(by rw[<-hD];omega);have x5:T+L.length<=D.cap:=(by rw[h8];omega);obtain⟨j3,l9⟩:(0<=m.start/\m.start<=4096/\30<=tg/\tg<=4096/\m.eZ=(N:Int)/\tg=(T:Int)/\m.start=(st:Int))/\N<=4096:=ox;have e:s.move p tg=(0,Vst.commit {s.room 2 with dev:=(D.mv T L N).tick 1} [(true,{m with start:=tg})]):=by
    unfold Vst.move;rw[Qf<|by simp[f0],fm,Qf (by rw[z8];simp),o.sct h4,hL,hD,hN,hT]
    congr 3
    unfold QG.mv QG.wr QG.tick;rw[<-h8,VM];rfl
   obtain⟨a6,HR⟩:=qb e (PT (HH.o.kZ q7) o 2 dx ox);obtain⟨y1,y2,y3,y4,y5,y6,y7⟩:=j3;obtain⟨d5,y8,q1,q5⟩:=qd hD (Qr h5<|Qr x0<|Qr x5<|Qr x4<|Qr hH<|Qr z6<|Qr h8 p5) (r6.o.kept d7.o sx) q7;clear e r2 hq hE hn z8 f0 fm h4 x7 c5 o q hap x1 x2 x3 j7 c4 h5 hrs c9 hN hT f7 hL h8 x4 hD hH z6 x0 j2 j5 p5 x5 q7 c0 c2 h9 q4 d4 p2;subst y6;rw[y5,y7]at q1 ⊢;have HY:=Qa<|Qr y5 y7;rw[y7]at y1 y2;clear y5 y7;go_wp2_with (go_at_call 50;refine HR.o.mono ?_;rintro e w2⟨rfl,l0⟩;obtain⟨x9,y0,l5,p7,b6,b4⟩:=l0;have q9:b∉QN a d nv pv mv:=(fun hm=>absurd (HH.o.vt.lt _ hm) ox);have A2:=q1.o.kept b6 q9;have c1:=A2.cq 1;have c2:=A2.cq 2);obtain⟨j0,d6,a7,q3,f9⟩:=qe p7 b6 b4 A2 q9;have e6:a∉Q2 d x9 y0:=p7.vt.apart.1;have r7:=Qa e6;have e9:b∉Q2 d x9 y0:=fun hm=>by
    rcases b4 b (by simp only[QN,QD,Q4];exact .inr<|.inr<|by simpa[Q2]using hm)with h1|h1
    ·exact q9 h1
    have:=q1.o.lt;omega
   have r9:=Qa e9;have f3:Zf w2 d x9 y0 (D.mv T L 0) w2:=(by have:=p7.vt.dk;rw[d5.o]at this;exact Zf.refl this);obtain⟨p1,g6⟩:=qb (p7.vt.arr.cq 0 (u:=.pointer d)) f3;clear p7 b6 b4 A2 q9 e6 e9 f3 c1
   go_loopg [10,11,12,13,51] N (fun k m0 m1 m2 m3 l7 wr=>∃i:Nat,i<=N/\k=N-i/\l7=.int .i64 (i:Nat)/\Hid (Zf w2 d x9 y0 (D.mv T L i) wr))
   ·exact⟨0,ox,ox,rfl,g6⟩
   obtain⟨i,hi,hk,rfl,HD⟩:=hrel;obtain⟨h5,x0,x5,x4,hH,z6,h8,p5⟩:=y8.o
   by_cases hlt:i<N
   ·have q0:(i:Int)<N:=ox;obtain⟨y,hy⟩:=qy L i ox;obtain⟨p9,ok2⟩:=Pc x0 x5 x4 ox (i:=i) ox;have hg:=Qed hH z6 hy;obtain⟨i1,i7⟩:=qb (fun W (h:Zf w2 d x9 y0 (D.mv T L i) W)=>by have:=yO h p9 hg;rw[Qee,show((st+i:Nat):Int)=st+(i:Int)by omega]at this;exact this) (fun W (h:Zf w2 d x9 y0 ((D.tick<|i+1).wr T<|L.take i) W)=>by have:=KC h ok2 hy x4 x5 (by show D.lZ+(i+1)+_<=_;omega);rw[Qef D T ox,show((T+i:Nat):Int)=T+(i:Int)by omega]at this;exact this);have w5:IntKind.i64.wrap ((st:Int)+i)=(st:Int)+i:=(by rw[Zq];omega);have w6:IntKind.i64.wrap ((T:Int)+i)=(T:Int)+i:=(by rw[Zq];omega);have e0:=HD.o.cell p1.o r7.o;have e1:=HD.o.cell (q3.o.cq 1) r9.o;clear h5 x0 x5 x4 hH z6 h8 p5 hy p9 ok2 hg c2;go_wp2_with fail
    go_region_held3 (fun w'=>w'.cell? a=some (.pointer d)/\w'.cell? ⟨b,1,none⟩=some (.int .i64 st)) (first|exact⟨e0,e1⟩|exact⟨d0,d1⟩|go_keep)
     ((go_at_call 57;refine(i1.o _<|HD.o.kept (Qc [] wr).drew).mono ?_;rintro e w3⟨rfl,c6⟩;have d0:=c6.cell p1.o r7.o;have d1:=c6.cell (q3.o.cq 1) r9.o))
    go_wp2_with (go_at_call 74;refine(i7.o _ c6).mono ?_;rintro e w4⟨rfl,l1⟩)
    go_roundg (N-(i+1))
    ·exact⟨i+1,ox,rfl,by go_num,Qa l1⟩
    omega
   obtain rfl:i=N:=ox;have q0:¬(i:Int)<i:=ox;obtain⟨p9,-⟩:=Pc x0 x5 x4 ox (i:=i) ox;have i8:=Qa<|KE HD.o p9;have e0:=HD.o.cell p1.o r7.o;obtain⟨a1,p3⟩:=qb (ox:D.lZ+2*i+100<=1000000000) h8;clear x0 x5 x4 hH z6 h8 p5 h5 p9;go_wp2_with (go_at_call 75;refine i8.o.mono ?_;rintro e w5⟨rfl,c7⟩;have A5:Qe w5 b 69 [.string<|str m.path,.int .i64 st,i,.int .i64 m.size,.int .u32 m.sum]:=(by obtain⟨_,_,_,j8,_⟩:=c7;exact q3.o.kept j8 r9.o);have r1:=A5.free 1;have s1:=A5.cq 1);obtain⟨r4,r5,r3,e5,f4,b5⟩:=j0.o.dev c7;have e7:b∉QN a d x9 y0 l5:=fun hm=>(a7.o b hm).elim f9.o (fun h=>by have:=q1.o.lt;omega)
   have e8:b∉QN a d r4 r5 r3:=fun hm=>(b5 b hm).elim e7 (fun h=>by have:=q3.o.lt;omega)
   have e4:Qb (QN a d nv pv mv) w w5:=((q5.o.mono (T:=QN a d nv pv mv) sx).trans d6.o fun x q=>.inl q).trans f4 fun x q=>(a7.o x q).imp id<|QS q5.o.size;have e3:QQ w (QN a d nv pv mv) (QN a d r4 r5 r3):=fun x q=>(b5 x q).elim (fun h=>(a7.o x h).imp id<|QS q5.o.size) fun h=>.inr<|QS (QS q5.o.size d6.o.size) h
   have b3:=e5.keptS (w1:=w5.setCell ⟨b,1,none⟩<|.int .i64 T) ((Qc [b] w5).setCell (.inl sx) _) (fun x q=>by rw[Zb]at q;subst q;exact e8) (fun x q=>by rw[Zb]at q;subst q;have:=HH.o.low a sx;have:=HH.o.vt.lt a sx;omega);have b2:=e4.setCell (p:=⟨b,1,none⟩) (.inr b7)<|.int .i64 T;have A6:=A5.set 1<|.int .i64 T;obtain⟨W6,q8⟩:=qx<|w5.setCell ⟨b,1,none⟩<|.int .i64 T;rw[q8]at b3 b2 A6 ⊢;have g0:=A6.cq 0 (u:=.string<|str m.path);have g1:=A6.cq 1 (u:=.int .i64 T);have g2:=A6.cq 2 (u:=.int .i64 i);have g3:=A6.cq 3 (u:=.int .i64 m.size);have g4:=A6.cq 4 (u:=.int .u32 m.sum);obtain⟨z1,z2⟩:=HY.o;obtain⟨-,-,h4,x7,c5⟩:=HF.o;have p0:=HV.o.rm m h4;have o:=HV.o;have l3:=Vst.room_next (s:=s) (n:=2) dx;have h5:=o.room 2 ox;have c9:=s.room_calls 2;have hrs:=(s.room_same 2).2.1;have j4:=o.dev.c2;have g7:=Qa (by rw[a6.o,<-z1]:s.move p T=(0,Vst.commit {s.room 2 with dev:=(D.mv T L i).tick 1} [(true,⟨m.path,T,i,m.size,m.sum⟩)]));have p6:=Pc y8.o.2.1 y8.o.2.2.1 y8.o.2.2.2.1 (wx p3.o a1.o) (i:=i) (yx p3.o);have g5:=Qa (fun W (hV:Zn W a d r4 r5 r3 {s.room 2 with dev:=(D.mv T L i).tick 1}) g (hS:Qp W 6 (some ⟨g,0,none⟩) 1 (Qs Zs [(true,(⟨m.path,T,i,m.size,m.sum⟩:RM))]))(hg:g∉QN a d r4 r5 r3)=>
    NQ (cc:=1) (ns:=[(true,⟨m.path,T,i,m.size,m.sum⟩)]) hV ⟨p6.1.c1,p6.1.c2,p6.1.len,p6.1.sec,by have:=a1.o;have:=p3.o;show D.lZ+_+i+1<=_;rw[Zd];omega⟩ hS hg (by have:=h5.gen;show(s.room 2).gen<=_;omega)
     (by intro n hn;rw[Zb]at hn;subst hn;exact .inl ⟨rfl,{ok:=p0.ok,st:=⟨y3,by rw[<-z1];exact p0.st.2.1,by have h1:=y8.o.2.2.1;have h2:=y8.o.2.1.c2;have h3:=p3.o;show(T:Int)+i<=4096;omega⟩,sz:=p0.sz,sm:=p0.sm}⟩)
     (by intro n hn;rw[Zb]at hn;subst hn;exact⟨p0.ms.1,by show(0:Int)<=T;omega,y4⟩) sx zx h5.rise h5.rm h5.few (by have h1:=h5.pZ;rw[d5.o]at h1;show 30<=D.cap;omega) (by have h1:=a1.o;have h2:=p3.o;show D.lZ+_+i+1+30<=_;rw[Zd];omega))
   clear q8 p0 o h5 c9 hrs j4 p6 h4 x7 c5 z1 z2 l3 A5 r1 s1 e0 c2;obtain⟨j1,i6,g9⟩:=qc b3 b2 e3;clear b3 b2 e3 e5 f4 b5 e7 e8 e4 c7
   go_region_with (go_at_call 51;have hN:=(j1.o.kZ (Qc [] W6).drew).note (true,⟨m.path,T,i,m.size,m.sum⟩);refine(g5.o _ hN.1 _ hN.2.1 hN.2.2).mono ?_;rintro e w7⟨rfl,l2⟩)
   go_wp2
   go_ret;rw[g7.o];exact⟨rfl,.next i6.o g9.o<|.from (((Qc [] W6).drew).alloc _) l2⟩
 have e:s.move p tg=((s.find p).1,s):=by unfold Vst.move;rw[Qg h0]
 rw[e];obtain⟨m,hm⟩:=qx<|(s.find p).2;obtain⟨c1,f1⟩:=qx<|(s.find p).1;rw[hm]at h9;rw[f1]at h9 h0 ⊢;unfold Q9 at h9;have g0:(c1==0)=false:=Ze.2 h0;clear h o e hm f1;go_enter func42,ntmps42;go_wp2_with (first
  |(go_at_call 49;refine h9.o.mono ?_;rintro e w1⟨rfl,r0⟩))
 go_ret;exact⟨rfl,HH.o.refl.kept<|r0.alloc _⟩
end
end
section
section
variable {P:Program} {ops:Array Oper} {Q:Exit->Act->WD->Prop} {md:Region.Mode}
def Ly{l i}:i∈Region.ready md ops l↔i<ops.size/\l.getD i true=false/\∃j,ops[i]?=some j/\∀e∈j.after,Region.binds md e=true->l.getD e.on false=true:=by
 unfold Region.ready;rw[Ez,ZR];constructor
 ·rintro⟨c,d⟩;simp only[Xt,Bool.not_eq_true']at d;refine⟨c,d.1,ops[i],Al c,fun e h hb=>?_⟩;have g:=d.2;rw[Al c]at g;simp only[Bg,V9,SP]at g;have:=g e h;simpa[hb]using this
 rintro⟨c,d,j,g,j⟩;refine⟨c,?_⟩;rw[d,g];simp only[Bool.not_false,Rt,Bg,V9,SP];intro e h;cases hb:Region.binds md e with
 |false=>rfl
 |true=>simp[j e h hb]
def Ht(n:Nat)(l:Array Bool):Nat:=((List.range n).filter fun c=>!l.getD c true).length
def oH{n i l}(hs:l.size=n)(hi:i<n)(h:l.getD i true=false):Ht n (l.setIfInBounds i true)<Ht n l:=by
 have d:∀k,(l.setIfInBounds i true).getD k true=if k=i then true else l.getD k true:=fun k=>by
  simp only[Dw,Mk]
  by_cases hk:i=k
  ·subst hk;simp[hs,hi]
  rw[Qf hk,Qf fun c=>hk c.symm]
 unfold Ht;have e:((List.range n).filter fun k=>!(l.setIfInBounds i true).getD k true).Sublist (((List.range n).filter fun k=>!l.getD k true).filter fun k=>!(k==i)):=by
  rw[List.filter_filter];have c:((List.range n).filter fun k=>!(l.setIfInBounds i true).getD k true)=(List.range n).filter fun k=>(!(k==i))&&(!l.getD k true):=by
   refine List.filter_congr fun k _=>?_
   rw[d]
   by_cases hk:k=i<;>simp[hk]
  rw[c];exact List.Sublist.refl _
 have c:i∈(List.range n).filter fun k=>!l.getD k true:=Ez.2 ⟨ZR.2 hi,by simp[h]⟩
 refine Iw e.length_le ?_;refine List.length_filter_lt_length_iff_exists.2 ⟨i,c,sx⟩
def kO{l}(hs:l.size=ops.size)(c:∀(i:Nat)(d:Oper),ops[i]?=some d->∀e∈d.after,Region.binds md e=true->e.on<i)(h:Region.ready md ops l=[]):∀i,i<ops.size->l.getD i false=true:=by
 intro i
 induction i using Nat.strongRecOn with
 |_ i ih=>
  intro hi;cases hg:l.getD i true with
  |true=>simpa[Dw,Al (ox:i<l.size)]using hg
  |false=>exfalso;have:i∈Region.ready md ops l:=Ly.2 ⟨hi,hg,ops[i],Al hi,fun e d hb=>ih e.on (c i _ (Al hi) e d hb) (yx (c i _ (Al hi) e d hb))⟩;rw[h]at this;cases this
def oU(c:Array Bool->Act->WD->Prop)(d:∀l a w,c l a w->l.size=ops.size)(n:∀(i:Nat)(g:Oper),ops[i]?=some g->∀e∈g.after,Region.binds md e=true->e.on<i)
 (XG:∀l a w i,c l a w->i∈Region.ready md ops l->wpOp P ops Q i (c<|l.setIfInBounds i true) a w)
 (o:∀l a w,c l a w->(∀i,i<ops.size->l.getD i false=true)->Q .normal a w):
 ∀g l a w,c l a w->Ht ops.size l<=g->wpAny P md ops Q g l a w
 |0,l,a,w,hJ,hf=>by
  have h:Region.ready md ops l=[]:=by
   refine List.eq_nil_iff_forall_not_mem.2 fun i hi=>?_
   obtain⟨j,m,-⟩:=Ly.1 hi;have:=oH (d l a w hJ) j m;omega
  exact⟨h,o l a w hJ<|kO (d l a w hJ) n h⟩
 |g+1,l,a,w,hJ,hf=>by refine⟨fun h=>o l a w hJ<|kO (d l a w hJ) n h,fun i hi=>?_⟩;obtain⟨j,m,-⟩:=Ly.1 hi;have hlt:=oH (d l a w hJ) j m;exact wpOp_mono (fun h m j=>oU c d n XG o g _ h m j ox)<|XG l a w i hJ hi
structure EN(ops:Array Oper)(base:Array VL)(ds:List Deferred)(S:WD->Prop)(Good:Nat->VL->WD->Prop)(l:Array Bool)(a:Act)(w:WD):Prop where
 size:l.size=ops.size
 ds:a.defers=ds
 st:S w
 tz:a.tmps.size=base.size
 old:∀k,(∀(i:Nat)(o:Oper),ops[i]?=some o->l.getD i false=true->o.dst≠some k)->a.tmps[k]?=base[k]?
 new:∀(i:Nat)(o:Oper)(k:Nat),ops[i]?=some o->l.getD i false=true->o.dst=some k->∃v,a.tmps[k]?=some v/\Good i v w
variable {base:Array VL} {ds:List Deferred} {S:WD->Prop} {Good:Nat->VL->WD->Prop}
def EN.step{l a w w' i o v}(h:EN ops base ds S Good l a w)(ho:ops[i]?=some o)(hl:l.getD i true=false)(h8:∀(i j:Nat)(oi y:Oper)(k:Nat),ops[i]?=some oi->ops[j]?=some y->oi.dst=some k->y.dst=some k->i=j)(hlt:∀(i:Nat)(o:Oper)(k:Nat),ops[i]?=some o->o.dst=some k->k<base.size)(hS:S w')(hG:Good i v w')(hm:∀j v,Good j v w->Good j v w'):EN ops base ds S Good (l.setIfInBounds i true) (a.put o.dst v) w':=by
 have hi:i<l.size:=by rw[h.size];exact(RR.1 ho).1
 have hq:∀k,(l.setIfInBounds i true).getD k false=if k=i then true else l.getD k false:=fun k=>by
  simp only[Dw,Mk]
  by_cases hk:i=k
  ·subst hk;simp[hi]
  rw[Qf hk,Qf fun e=>hk e.symm]
 have h5:∀k,(a.put o.dst v).tmps[k]?=if o.dst=some k/\k<base.size then some v else a.tmps[k]?:=fun k=>by
  unfold Act.put;cases hd:o.dst with
  |none=>simp
  |some d=>
   simp only[Mk,h.tz,Option.some.injEq]
   by_cases hk:d=k
   ·subst hk;have:=hlt i o d ho hd;simp[this]
   simp[hk]
 refine⟨by simpa using h.size,?_,hS,?_,fun k hk=>?_,fun j y k q h3 hd=>?_⟩
 ·rw[<-h.ds];unfold Act.put;split<;>rfl
 ·rw[<-h.tz];unfold Act.put;split<;>simp
 ·rw[h5,Qf fun hc=>hk i o ho (by rw[hq,Qg rfl]) hc.1];exact h.old k fun j y q h3=>hk j y q (by rw[hq];split<;>simp[h3])
 by_cases h4:j=i
 ·subst h4;rw[ho]at q;injection q with q;subst q;exact⟨v,by rw[h5,Qg ⟨hd,hlt _ _ _ ho hd⟩],hG⟩
 rw[hq,Qf h4]at h3;obtain⟨u,h1,h2⟩:=h.new j y k q h3 hd;exact⟨u,by rw[h5,Qf fun hc=>h4<|h8 j i y o k q ho hd hc.1,h1],hm j u h2⟩
def Qg9{l w}(h:P.follows .mixedOrders=true)(m:∀(i:Nat)(c:Oper),ops[i]?=some c->∀e∈c.after,Region.binds .any e=true->e.on<i)(t:∀(i j:Nat)(d g:Oper)(k:Nat),ops[i]?=some d->ops[j]?=some g->d.dst=some k->g.dst=some k->i=j)(hlt:∀(i:Nat)(c:Oper)(k:Nat),ops[i]?=some c->c.dst=some k->k<base.size)(h0:S {w with drawn:=w.drawn+1})(q:∀(i:Nat)(c:Oper),ops[i]?=some c->∀(a:Act)(w:WD),S w->a.defers=ds->(∀k,(∀(j:Nat)(g:Oper),ops[j]?=some g->g.dst≠some k)->a.tmps[k]?=base[k]?)->
  (∀e∈c.after,Region.binds .any e=true->∀(o:Oper)(k:Nat),ops[e.on]?=some o->o.dst=some k->∃v,a.tmps[k]?=some v/\Good e.on v w)->
  if Region.wanted c (yielded ops a.tmps)=true then Oper.wp P c a w (fun a' w'=>∃v,a'=a.put c.dst v/\S w'/\Good i v w'/\∀j v,Good j v w->Good j v w') Q else Good i undef w)(y:∀(a:Act)(w:WD),S w->a.defers=ds->a.tmps.size=base.size->(∀k,(∀(j:Nat)(g:Oper),ops[j]?=some g->g.dst≠some k)->a.tmps[k]?=base[k]?)->
  (∀(i:Nat)(c:Oper)(k:Nat),ops[i]?=some c->c.dst=some k->∃v,a.tmps[k]?=some v/\Good i v w)->Q .normal a w):
 (Code.region l ops true).wp P Q {tmps:=base,defers:=ds} w:=by
 refine wp_region_any h ?_;have:∀(h:Array Bool)(i:Nat),h.size=ops.size->h.getD i true=true->i<ops.size->h.getD i false=true:=fun h i hs l hi=>by simpa[Dw,Al (ox:i<h.size)]using l
 refine oU (EN ops base ds S Good) (fun h a w l=>l.size) m (fun h a w i d hi=>?_) (fun h a w d p=>?_) ops.size _ _ _ ⟨sx,rfl,h0,rfl,fun _ _=>rfl,fun i c k n u=>?_⟩ ?_
 ·obtain⟨m,s,c,m,x⟩:=Ly.1 hi;have hs:=q i c m a w d.st d.ds (fun k hk=>d.old k fun j g q _=>hk j g q) fun e z hb o k A p=>d.new e.on o k A (x e z hb) p;refine wpOp_mono (K:=fun a' w'=>EN ops base ds S Good (h.setIfInBounds i true) a' w') (fun _ _ l=>l) ?_;unfold wpOp;rw[m];show if Region.wanted c (yielded ops a.tmps)=true then _ else _
  by_cases hw:Region.wanted c (yielded ops a.tmps)=true
  ·rw[Qg hw]at hs ⊢;left;refine Oper.wp_mono ?_ hs;rintro a' w'⟨v,rfl,h,o,x⟩;exact d.step m s t hlt h o x
  rw[Qf hw]at hs ⊢;exact d.step m s t hlt d.st hs fun _ _ l=>l
 ·exact y a w d.st d.ds d.tz (fun k hk=>d.old k fun j g q _=>hk j g q) fun i c k n hk=>d.new i c k n (p i (RR.1 n).1) hk
 ·rw[Dw]at u;have hi:=(RR.1 n).1;simp[hi]at u
 unfold Ht;exact QS (Ew _ _) sx
def Pr{c a w w' v K}(h:(execOp a.eval c).run P w=.ok (.value v) w')(d:K (a.put c.dst v) w'):Oper.wp P c a w K Q:=by unfold Oper.wp;rwa[h]
def Dg{c a w}{f:FuncId}{args K}(h:(execOp a.eval c).run P w=.ok (.enter f args) w)(d:Calls P f args w fun e w'=>∃v,e=.returned v/\K (a.put c.dst v) w'):Oper.wp P c a w K Q:=by
 unfold Oper.wp;rw[h,Oper.upon_enter];exact d.mono fun e w' ⟨v,c,hk⟩=>by subst c;exact hk
def AO{c t}{A d:Prop}(h:c.guard=none)(e:A):if Region.wanted c t=true then A else d:=by
 have hw:Region.wanted c t=true:=by simp[Region.wanted,h]
 rwa[Qg hw]
def BD(c:Array Oper)(n:Nat):Bool:=
 (List.range c.size).all fun d=>match c[d]? with
  |none=>true
  |some o=>(o.after.all fun e=>!Region.binds .any e||decide (e.on<d))&&(match o.dst with
   |none=>true
   |some k=>decide (k<n)&&(List.range c.size).all fun e=>match c[e]? with
    |none=>true
    |some oj=>decide (d=e)||!(decide (oj.dst=some k)))
def BD.all{d n}(h:BD d n=true){i:Nat}{c}(l:d[i]?=some c):
 (∀e∈c.after,Region.binds .any e=true->e.on<i)/\∀k,c.dst=some k->k<n/\∀(j:Nat)(g:Oper),d[j]?=some g->g.dst=some k->i=j:=by
 have hi:=(RR.1 l).1;have c:=Yb.1 h i<|ZR.2 hi;rw[l]at c;simp only[Xt]at c;refine⟨fun e d hb=>by simpa[hb]using(SP.1 c.1) e d,fun k hk=>?_⟩;have d:=c.2;rw[hk]at d;simp only[Xt,ZE]at d;refine⟨d.1,fun j g g l=>?_⟩;have c:=Yb.1 d.2 j<|ZR.2 (RR.1 g).1;rw[g]at c;simpa[l]using c
def Qha{m w}(l:P.follows .mixedOrders=true)(h:BD ops base.size=true)(h0:S {w with drawn:=w.drawn+1})(p:∀(i:Nat)(c:Oper),ops[i]?=some c->∀(a:Act)(w:WD),S w->a.defers=ds->(∀k,(∀(j:Nat)(d:Oper),ops[j]?=some d->d.dst≠some k)->a.tmps[k]?=base[k]?)->
  (∀e∈c.after,Region.binds .any e=true->∀(g:Oper)(k:Nat),ops[e.on]?=some g->g.dst=some k->∃v,a.tmps[k]?=some v/\Good e.on v w)->
  if Region.wanted c (yielded ops a.tmps)=true then Oper.wp P c a w (fun a' w'=>∃v,a'=a.put c.dst v/\S w'/\Good i v w'/\∀j v,Good j v w->Good j v w') Q else Good i undef w)(n:∀(a:Act)(w:WD),S w->a.defers=ds->a.tmps.size=base.size->(∀k,(∀(j:Nat)(d:Oper),ops[j]?=some d->d.dst≠some k)->a.tmps[k]?=base[k]?)->
  (∀(i:Nat)(c:Oper)(k:Nat),ops[i]?=some c->c.dst=some k->∃v,a.tmps[k]?=some v/\Good i v w)->Q .normal a w):
 (Code.region m ops true).wp P Q {tmps:=base,defers:=ds} w:=
 Qg9 l (fun i c g=>(BD.all h g).1) (fun i j l d k hi o l m=>((BD.all h hi).2 k l).2 j d o m) (fun i c k g c=>((BD.all h g).2 k c).1) h0 p n
def uB{b:Act}{L}(c:b.defers=ds)(hs:b.tmps.size=base.size)(h:∀k,(∀(j:Nat)(e:Oper),ops[j]?=some e->e.dst≠some k)->b.tmps[k]?=base[k]?)(g:L=(List.range base.size).map fun k=>bif (ops.toList.filterMap (·.dst)).contains k then b.tmps.getD k undef else base.getD k undef):b={tmps:=L.toArray,defers:=ds}:=by
 cases b with
 |mk t d=>
  simp only at c hs h g ⊢;subst c
  congr 1
  subst g;refine Array.ext_getElem? fun k=>?_
  simp only[List.getElem?_toArray,Zz]
  by_cases hk:k<base.size
  ·rw[Xl hk,Bg];cases hc:(ops.toList.filterMap (·.dst)).contains k with
   |true=>simp[Dw,Al (ox:k<t.size)]
   |false=>
    rw[h k fun j e g c=>?_]
    ·simp[Dw,Al hk]
    have:k∈ops.toList.filterMap (·.dst):=List.mem_filterMap.2 ⟨e,by simpa using Array.mem_of_getElem? g,c⟩;simp[this]at hc
  rw[QU zx,Array.getElem?_eq_none ox];rfl
def dS{b:Act}{k v}(h:b.tmps[k]?=some v):b.tmps.getD k undef=v:=by rw[Dw,h];rfl
def YX{t:Array VL}{k:Nat}{X:VL}(h:∃v,t[k]?=some v/\v=X):t[k]?=some X:=by obtain⟨_,h,rfl⟩:=h;exact h
def iV{k:Nat}(h:(ops.toList.filterMap (·.dst)).contains k=false)(j:Nat)(c:Oper)(e:ops[j]?=some c):c.dst≠some k:=fun d=>by have:k∈ops.toList.filterMap (·.dst):=List.mem_filterMap.2 ⟨c,by simpa using Array.mem_of_getElem? e,d⟩;simp[this]at h
def UC{c:Oper}{a:Act}{w:WD}{i:Nat}{v:VL}{t:Nat->Option Bool}{d:Prop}(l:c.guard=none)(h:(execOp a.eval c).run P w=.ok (.value v) w)(g:S w)(e:Good i v w):
 if Region.wanted c t=true then Oper.wp P c a w (fun a' w'=>∃v,a'=a.put c.dst v/\S w'/\Good i v w'/\∀j v,Good j v w->Good j v w') Q else d:=
 AO l (Pr h ⟨v,rfl,g,e,fun _ _ h=>h⟩)
end
end
