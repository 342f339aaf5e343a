import Derived.Test.YtickjpnkoppmgaaGreatDoorBv
set_option linter.all false
namespace Go.Proofs.YtickjpnkoppmgaaGreatDoor
open Go.Proofs.Tryz Go.RowKit K Go.Shelf Go.Sort
set_option maxRecDepth 20000 in
set_option maxHeartbeats 4000000 in
def Qh3(n:Int)(v:VL)(l:List V0)(w:WD)(hE:JF w)(b8:10≤w.heap.size)(l7: -9223372036854775808≤n)(l8:n≤9223372036854775807)(hA:CK w v l):
 Calls prog 4 #[n,v] w fun e w'=>e=.returned (.bool true)∧Qb [] w w':=by
 obtain⟨al,cl,rfl,hs⟩:=hA.see;have⟨m,hm⟩:=qx l.length;have g2:=Qa (vU _ l w hA 30000<|by decide);have p4:=Qa hA;rw[hm]at hs g2 ⊢;have HS:=Qa hs;have HM:=Qa hm;have m3:=Qa hE;have n1:=Qa b8;have n0:=Qa<|Qge n w l7 l8;have f5:=Qa fun W (hW:Qb [] w W)=>rL W (hE.kZ hW)<|QS b8 hW.size;have m8:=Qa fun q (h1:31≤q)(h2:q≤231)=>fD q w h1 (by omega) hE b8;clear hA hs hm hE b8 l7 l8;go_enter func4,ntmps4;go_wp2_with (first
  |(go_at_call 6;refine g2.o.mono ?_;rintro e w1⟨⟨b,rfl,hb⟩,e1⟩;replace e1:=e1.symm;subst e1;have HB:=Qa hb;clear hb)
  |(go_at_call 7;refine(f5.o _<|Qc _ _).mono ?_;rintro e w2⟨rfl,o1⟩)
  |(go_at_call 9;refine n0.o.mono ?_;rintro e w2⟨⟨q,rfl,l9,o4⟩,e2⟩;replace e2:=e2.symm;subst e2)
  |(go_at_call 8;refine(m8.o q l9 o4).mono ?_;rintro e w3⟨d,a,nv,pv,rfl,hV,q8,l3⟩))
 ·go_ret;exact⟨rfl,o1⟩
 have hb:b=true:=by simpa using ‹(!b)=false›
 obtain⟨o2,l5⟩:=HB.o hb;have HG:=Qa l5;rw[HM.o]at o2;clear l5 hb;have⟨B,hB⟩:=qx w3.heap.size;have⟨W,hW⟩:=qx<|w3.alloc<|.cells #[.slice none 0 0] 32;have f0:Qb [] w3 W:=by rw[←hW];exact(Qc [] w3).alloc _
 have l1:UZ W B (QT a d nv pv<|.slice none 0 0) (.slice none 0 0) (Yn (Vst.fresh q) fun _=>[]):=
  ⟨by rw[←hW,←hB];exact Qy _ _ _,Qn.nil _ _ _,by simp[Qd,qo],fun hm=>by have:=hV.vt.lt B hm;omega⟩
 have⟨m7,HV,m6,m5,f7⟩:=qe l1 (hV.kZ f0) (q8.trans f0<|by simp) l3 (by rw[←hB];exact q8.size:w.heap.size≤B);rw[hB,hW];clear hV q8 l3 f0 l1 hB hW
 go_loopg [8,9,10,11,12,13,14,15] m (fun k x8 x9 s3 s4 s5 s6 s7 s8 wr=>∃(i:Nat)(s:Vst)(c:LU→LU)(nv pv mv:VL)(av:OA)(mo cv:Nat),i≤m∧k=m-i∧x8=.int .i64 (i:Nat)∧Hid (Zj wr a d nv pv mv s∧Vok s c∧s.dev.lZ≤10+70000*i∧∀x∈QT a d nv pv mv,w.heap.size≤x)∧Hid (UZ wr B (QT a d nv pv mv) (.slice av mo cv)<|Yn s c)∧Hid (Qb [] w wr))
 ·exact⟨0,_,fun _=>[],_,_,_,_,_,_,by omega,by omega,rfl,Qa ⟨HV.o,Vok.fresh q l9 (by omega) _,by show 0+(UT 0 []).length+1≤_;rw[CB];omega,m5.o⟩,m7,m6⟩
 obtain⟨i,s,c,o9,s0,o8,av,mo,cv,hi,hk,rfl,HI,d9,p0⟩:=hrel
 by_cases hlt:i<m
 ·have q0:(i:Int)<m:=by omega
  have⟨x,hx⟩:=qy l i (by have:=HM.o;omega);have x3:=QA hx;obtain⟨hV,hv,c6,p1⟩:=HI.o;obtain⟨g,off,rfl,x1⟩:=WL HS.o hx;have x1:=fun r u (hr:r<7)(hu:(J9 x)[r]?=some u)=>p0.o.cZ (x1 r u hr hu) (by simp)
  have y0:=x1 0 _ (by decide) rfl;have y1:=x1 1 _ (by decide) rfl;have y2:=x1 2 _ (by decide) rfl;have y3:=x1 3 _ (by decide) rfl;have y4:=x1 4 _ (by decide) rfl;have y5:=x1 5 _ (by decide) rfl;have y6:=x1 6 _ (by decide) rfl;rw[Jb]at y0;have e8:=HG.o x x3;obtain⟨t1,t2,t3,t4⟩:=p4.o.strs x x3;obtain⟨af,cf,x2,-⟩:=p4.o.ents x x3;obtain⟨ak,nk,ck,x6⟩:=p4.o.keep x x3;have⟨F0,p8⟩:=qx x.act.files.length;rw[p8]at x2;have⟨i6,g7,p5⟩:=qc (fun W' (hW:Qb [] wr W')=>Do (hV.kZ hW).vt (by have:=hv.few;omega)) (fun W' (hW:Qb [] wr W')=>bQ (hV.kZ hW).vt.dk hv.dev) (fun W (hW:Qb [] wr W)=>acts_ok (hV.kZ hW) hv x (((p4.o.ents x x3).kZ p0.o).kZ hW) e8 ⟨t2,fun f hf=>(t4 f hf).2⟩<|by omega);obtain⟨c',hd⟩:=hv.acts x.act (by omega);have q5:=hd.done.few hv (by have:=e8.2.1;omega);obtain⟨⟨r,s'⟩,hP⟩:∃P,s.does x.act=P:=⟨_,rfl⟩;rw[hP]at hd q5 p5;have l0:=Qy wr (J9 x) 37;have⟨p3,HD,j5⟩:=qc (Qr l0<|(Qc [] wr).alloc<|.cells (J9 x).toArray 37) (Qr hd<|Qr q5<|Qr hV<|Qr hv<|Qr p1 c6)<|Qr x3<|Qr x2<|Qr p8 x6;unfold J9 at p5 p3;rw[x2,x6]at p5 p3;rw[x2]at y4;rw[x6]at y6;clear hd q5 hP x1 t1 t2 t3 t4 e8 hV hv p1 c6 l0 hx x3 x2 p8 x6;have⟨rb,m2⟩:=qx<|(r==0)
  go_upto_if 47 with(first
   |(go_at_call 10;refine(i6.o _ p3.o.2).mono ?_;rintro e w4⟨v4,rfl,d1,q9,e7⟩;obtain⟨a4,c4,rfl,-⟩:=d1.memA;have A4:=p3.o.1.kept q9 (by simp);have z0:=A4.cell (i:=0) rfl;have z1:=A4.cell (i:=1) rfl;have z2:=A4.cell (i:=2) rfl;have z3:=A4.cell (i:=3) rfl;have z4:=A4.cell (i:=4) rfl;have z5:=A4.cell (i:=5) rfl;have z6:=A4.cell (i:=6) rfl;have p6:=Qa<|p3.o.2.trans q9<|by simp)
   |(go_at_call 21;refine(g7.o _ p6.o).mono ?_;rintro e w5⟨rfl,e5⟩;replace e5:=e5.symm;subst e5)
   |(go_at_call 15;refine(p5.o _ p6.o).mono ?_;rintro e w6⟨rfl,r5,r6,r4,p9,r0,q6⟩))
  obtain⟨hd,q5,hV,hv,p1,c6⟩:=HD.o;obtain⟨x3,x2,p8,x6⟩:=j5.o;have K6:Qb [] w w6:=(p0.o.trans p6.o<|by simp).trans r0 fun y hy=>.inr<|p1 y hy;have A6:=A4.kept r0 fun hm=>DX _<|hV.vt.lt _ hm;have M6:=(d9.o.kZ p6.o).kept r0 fun y hy=>q6 y hy;have b9:=yB (.slice av mo cv) (Yn s c) x w6 M6.row (KC hv.rise c) (by have:=hv.few;unfold Yn;rw[QH];omega) (fun f hf=>by obtain⟨mm,o3,rfl⟩:=QB.1 hf;have:=hv.plen o3;simp only[];omega) ((p4.o.ents x x3).kZ K6) (HG.o x x3) (m3.o.kZ K6).1;unfold J9 at b9;rw[x2,x6]at b9;have f6:∀y∈QT a d r5 r6 r4,w.heap.size≤y:=fun y hy=>(q6 y hy).elim (p1 y) fun h=>QS p0.o.size<|QS p6.o.size h
  have g5:=Qa b9;have H6:=Qa<|Qr p9<|Qr K6<|Qr A6<|Qr M6 f6;have l4:wr.heap.size<w4.heap.size:=A4.lt;have R6:=d1.kept r0 (fun y hy hm=>by have h1:=hV.vt.lt y hm;have h2:wr.heap.size+1≤y:=(by have:=e7 y hy;simpa using this);omega);have r7:=Qa (Qr R6 (Qr (show ∀y∈Qd (.slice a4 s.mem.length c4),y∉QT a d r5 r6 r4∧y≠B from fun y hy=>by
   have h2:wr.heap.size+1≤y:=(by have:=e7 y hy;simpa using this);have h3:=d1.lt y hy;exact⟨fun hm=>(q6 y hm).elim (fun h=>by have:=hV.vt.lt y h;omega) fun h=>by omega,fun e=>by have:=d9.o.arr.lt;omega⟩)
   (show wr.heap.size∉QT a d r5 r6 r4 from fun hm=>(q6 _ hm).elim (fun h=>DX _<|hV.vt.lt _ h) fun h=>by omega)))
  have p7:=Qa m2;clear m2 hd q5 hV hv p1 c6 x3 x2 p8 x6 b9 K6 A6 M6 p9 r0 q6 A4 z0 z1 z2 z3 z4 z5 z6 f6 R6 d1 e7 q9 l4
  go_cut []from 48 to 50 (fun w'=>∃(av:OA)(mo cv:Nat),Hid<|UZ w' B (QT a d r5 r6 r4) (.slice av mo cv) (Yn s' c')∧Qb [B] w6 w')
  ·obtain⟨p9,K6,A6,M6,f6⟩:=H6.o;cases rb with
   |true=>
    have hr:r=0:=(by simpa using p7.o);have z0:=A6.cell (i:=0) rfl;have z1:=A6.cell (i:=1) rfl;have z2:=A6.cell (i:=2) rfl;have z3:=A6.cell (i:=3) rfl;have z4:=A6.cell (i:=4) rfl;have z5:=A6.cell (i:=5) rfl;have z6:=A6.cell (i:=6) rfl;have c7:=M6.arr.cell (i:=0) (u:=.slice av mo cv) rfl;have d8:=Qa<|HD.o.1.files.trans<|Qg hr;clear p9 K6 A6 M6 f6 hr;go_wp2_with (go_at_call 18;refine g5.o.mono ?_;rintro e w7⟨v7,rfl,m1,f1,n8⟩;obtain⟨a7,o6,rfl,-⟩:=Y1.ent m1;have A7:=H6.o.2.2.2.1.arr.kept f1 (by simp);have d7:=A7.cell (i:=0) rfl;have x7:=A7.free 0);go_meet
    case rel=>exact⟨_,_,_,Qa ⟨by rw[d8.o];exact H6.o.2.2.2.1.set H6.o.1.vt.lt f1 m1 n8,(f1.mono<|by simp).setCell (.inl<|by simp) _⟩⟩
   |false=>
    have hr:r≠0:=(by simpa using p7.o);have d8:=Qa<|HD.o.1.files.trans<|Qf hr;clear p9 K6 A6 M6 f6 hr
    go_wp2
    go_meet
    case rel=>exact⟨_,_,_,Qa ⟨by rw[d8.o];exact H6.o.2.2.2.1,Qc _ _⟩⟩
  obtain⟨b6,d2,b7,y9⟩:=hcut;have V7:=H6.o.1.keptS y9.o.2 (fun y hy=>by simp at hy;subst hy;exact y9.o.1.bs) (fun y hy=>by simp at hy;subst hy;have:=f7.o;have:=n1.o;omega);have K7:Qb [] w wc:=H6.o.2.1.trans y9.o.2 fun y hy=>.inr (by simp at hy;subst hy;exact f7.o);have A7:=H6.o.2.2.1.kept y9.o.2 (fun hm=>by simp at hm;have:=d9.o.arr.lt;omega);have x0:=HD.o.1.done.ok;have n6:=HD.o.2.1;have n7:=HD.o.2.2.2.2.2;have i7:=Qa fun W (hW:Qb [] wc W)=>Do (V7.kZ hW).vt (by have:=x0.few;omega);have f9:=Qa fun W (hW:Qb [] wc W)=>Cg (V7.kZ hW).vt.dk x0.dev;have j4:=Qa fun v W (h:Uf W v s'.mem)=>Qc6 x0 v W h;have g6:=Qa (fun W (hW:Qb [] wc W)=>yY (V7.kZ hW) x0 (.slice b6 d2 b7) (y9.o.1.kZ hW).row (fun y hy=>(y9.o.1.off y hy).1)<|by omega);have g8:=Qa fun W nv pv mv k (hk:k≤3200)(h:Zj W a d nv pv mv (s'.more k))=>show Calls prog 21 #[.pointer d] W fun e w'=>e=.returned (str s'.dev.img.flatten)∧w'=W from bQ (s:=(s'.more k).dev) h.vt.dk (x0.more k<|by omega).dev;have b4:=Qa fun W (h:Uf W (.slice a4 s.mem.length c4) s.mem)=>Qg1 HD.o.2.2.2.1 x0.dev x (.slice a4 s.mem.length c4) W h HD.o.1.stay;have HX:=Qa<|Qr V7<|Qr K7<|Qr A7<|r7.o.1.kept y9.o.2 fun y hy hm=>(r7.o.2.1 y hy).2 (by simpa using hm);obtain⟨-,x2,-,x6⟩:=j5.o;unfold J9 at b4;rw[x2,x6]at b4;clear V7 K7 A7 x0 n6 n7 x2 x6 g5;go_wp2_with (first
   |(go_at_call 10;refine(i7.o _<|Qc _ _).mono ?_;rintro e w8⟨v8,rfl,f2,c9,o0⟩;obtain⟨a8,c8,rfl,-⟩:=f2.memA)
   |(go_at_call 14;refine(f9.o _ c9).mono ?_;rintro e w9⟨rfl,e9⟩;replace e9:=e9.symm;subst e9)
   |(go_at_call 19;refine(j4.o _ _ f2.memA).mono ?_;rintro e f3⟨o,n2,j9,rfl,ho,m0,l6,l2⟩))
  have b5:Qb [] wc f3:=c9.trans l6 (by simp);have y7:=HX.o.2.2.1.kept b5 (by simp);have e3:=y9.o.1.kZ b5;have c7:=e3.arr.cell (i:=0) (u:=.slice b6 d2 b7) rfl;have z0:=y7.cell (i:=0) rfl;have z1:=y7.cell (i:=1) rfl;have z2:=y7.cell (i:=2) rfl;have z3:=y7.cell (i:=3) rfl;have z4:=y7.cell (i:=4) rfl;have z5:=y7.cell (i:=5) rfl;have z6:=y7.cell (i:=6) rfl;have⟨m4,x4⟩:=qb (show ∀y∈Qd (.slice n2 s'.dev.cap j9),wc.heap.size≤y from fun y hy=>QS c9.size<|l2 y hy)<|Qr b5<|Qr y7<|Qr e3<|Qr ho m0;clear b5 y7 e3 ho m0 f2 c9 o0 l6 l2
  go_region_held3 (fun w'=>w'.cell? ⟨B,0,none⟩=some (.slice b6 d2 b7)∧w'.cell? ⟨wr.heap.size,0,none⟩=some (.int .i64 x.act.kind)∧w'.cell? ⟨wr.heap.size,1,none⟩=some (.string<|str x.act.path)∧w'.cell? ⟨wr.heap.size,2,none⟩=some (.string<|str x.act.text)∧w'.cell? ⟨wr.heap.size,3,none⟩=some (.int .i64 x.act.tg)∧w'.cell? ⟨wr.heap.size,4,none⟩=some (.slice af F0 cf)∧w'.cell? ⟨wr.heap.size,5,none⟩=some (.int .i64 x.fat)∧w'.cell? ⟨wr.heap.size,6,none⟩=some (.slice ak nk ck))
   (first|exact⟨c7,z0,z1,z2,z3,z4,z5,z6⟩|exact x5|exact e6|go_keep)
   (first
     |(go_at_call 20;refine(g6.o _<|x4.o.1.trans (Qc [] f3).drew<|by simp).mono ?_;rintro e s1⟨rfl,k,q8,d4,d5,d3,q1,h9,p2⟩
       replace h9:=(Qc (QT a d r5 r6 r4) f3).drew.trans h9 fun y hy=>.inl hy;have y8:=x4.o.2.1.kept h9 r7.o.2.2;have x5:=Qr (x4.o.2.2.1.arr.kept h9 y9.o.1.bs|>.cell (i:=0) rfl)<|Qr (y8.cell (i:=0) rfl)<|Qr (y8.cell (i:=1) rfl)<|Qr (y8.cell (i:=2) rfl)<|Qr (y8.cell (i:=3) rfl)<|Qr (y8.cell (i:=4) rfl)<|Qr (y8.cell (i:=5) rfl)<|y8.cell (i:=6) rfl;have j8:=(HX.o.2.2.2.kept x4.o.1<|ZM _).kept h9 fun y hy=>(r7.o.2.1 y hy).1;have d6:=Qa<|Qr q1<|Qr h9<|Qr p2<|Qr y8 j8;clear q1 h9 p2 y8 j8)
     |(go_at_call 21;refine(g8.o _ _ _ _ k q8 d6.o.1).mono ?_;rintro e s2⟨rfl,e4⟩;replace e4:=e4.symm;subst e4)
     |(go_at_call 22;refine(b4.o _ d6.o.2.2.2.2.memA).mono ?_;rintro e z7⟨rfl,h8⟩;have e6:=Qr (h8.cZ x5.1<|by simp)<|Qr (h8.cZ x5.2.1<|by simp)<|Qr (h8.cZ x5.2.2.1<|by simp)<|Qr (h8.cZ x5.2.2.2.1<|by simp)<|Qr (h8.cZ x5.2.2.2.2.1<|by simp)<|Qr (h8.cZ x5.2.2.2.2.2.1<|by simp)<|Qr (h8.cZ x5.2.2.2.2.2.2.1<|by simp)<|h8.cZ x5.2.2.2.2.2.2.2<|by simp))
  have z0:=e6.2.1;obtain⟨q1,h9,p2,-,-⟩:=d6.o;have c5:=q1.kZ h8;have f8:∀y∈QT a d d4 d5 d3,w.heap.size≤y:=fun y hy=>(p2 y hy).elim (H6.o.2.2.2.2 y) fun h=>QS HX.o.2.1.size<|QS x4.o.1.size h
  have x0:=HD.o.1.done.ok;have n5:=HD.o.2.1;have n4:=HD.o.2.2.2.2.2;have d0:=x0.more k (by omega);have j6:Qb [] w z7:=((HX.o.2.1.trans x4.o.1<|by simp).trans h9 fun y hy=>.inr<|H6.o.2.2.2.2 y hy).trans h8 (by simp);have j7:=(x4.o.2.2.1.kept h9 p2).kZ h8;have r9:=Qa (fun W (hW:Qb [] z7 W)=>show(Zj W a d d4 d5 d3 (s'.more k)∧Vok (s'.more k) c'∧(s'.more k).dev.lZ≤10+70000*(i+1)∧∀y∈QT a d d4 d5 d3,w.heap.size≤y)∧UZ W B (QT a d d4 d5 d3) (.slice b6 d2 b7) (Yn (s'.more k) c')∧Qb [] w W from
   ⟨⟨c5.kZ hW,d0,by show s'.dev.lZ+k≤_;omega,f8⟩,j7.kZ hW,j6.trans hW<|by simp⟩)
  have⟨i8,g9,a6⟩:=qc (Qb1 c5 d0) (fun W (hW:Qb [] z7 W)=>Ey (c5.kZ hW).vt.dk d0.dev) fun W (hW:Qb [] z7 W)=>Qfb _ j9 s'.dev.cap o 1 W x4.o.2.2.2.1.1 (Qh.sZ<|(x4.o.2.2.2.2.kept h9 (fun y hy hm=>by have h1:=m4.o y hy;have h2:=HX.o.1.vt.lt y hm;omega)).kept (h8.trans hW<|by simp)<|by simp) (by decide) (by decide) (by have:=x0.pZ;omega) (by have:=x0.dev.c2;omega);rename_i n3;clear n3 e6 x5 h8 q1 h9 p2 c5 f8 x0 n5 n4 d0 j6 j7 c7 z1 z2 z3 z4 z5 z6;clear y0 y1 y2 y3 y4 y5 y6 x1 i6 g7 p5 g6 g8 b4 j4 f9 i7
  by_cases k3:x.act.kind=3
  ·have q3:(x.act.kind==3)=true:=(by rw[k3];rfl);cases rb with
   |false=>
    have q4:(r==0)=false:=p7.o
    go_wp2
    go_roundg (m-(i+1))
    ·obtain⟨r1,r2,r3⟩:=r9.o _<|Qc _ _;exact⟨i+1,_,c',_,_,_,_,_,_,by omega,rfl,by go_num,Qa r1,Qa r2,Qa r3⟩
    omega
   |true=>
    have q4:(r==0)=true:=p7.o;obtain⟨u1,u2⟩:=HD.o.1.tile k3 (by simpa using p7.o);have⟨N,hN⟩:=qx<|Zd s'.mem;have j0:=Qa (by rw[←hN];exact i8.o:Calls prog 23 #[.pointer a] z7 fun e w'=>e=.returned (.int .i64 (N:Nat))∧Qb [] z7 w');rw[hN]at u2;have⟨L,hL⟩:=qx s'.dev.img.length;rw[hL]at u2;have hb:N≤4096:=(by have:=HD.o.1.done.ok.sum;have:=HD.o.1.done.ok.few;omega);have i1:=Qa (fun W hW=>show Calls prog 24 #[.pointer d] W fun e w'=>e=.returned (.int .i64 (L:Nat))∧w'=W by rw[←hL];exact g9.o W hW);have gl:¬(30:Int)+N<(L:Int):=(by omega);have w1:IntKind.i64.wrap (30+(N:Int))=30+N:=(by rw[Zz];omega);have m9:=Qa (fun r' (h:Fl o 1 r')=>show r'<0∨30+(N:Int)≤r' by rw[←hN];exact Qfa x4.o.2.2.2.1 h u1);clear hN hL u1 u2 i8 g9
    by_cases hz:∃b:Nat,30≤b∧b+1≤o.length∧o[b]?=some 0
    ·have e0:=Qa (fun W (hW:Qb [] z7 W)=>(a6.o W hW).mono (R':=fun e w'=>(∃r:Int,e=.returned (.int .i64 r)∧30+(N:Int)≤r)∧w'=W) (fun e w' h=>by
      obtain⟨⟨r,h1,h2⟩,h3⟩:=h;refine⟨⟨r,h1,(m9.o r h2).resolve_left fun hr=>?_⟩,h3⟩;obtain⟨b,b1,b2,b3⟩:=hz;rcases h2 with⟨-,h4⟩|⟨a,rfl,-⟩
      ·obtain⟨j,j1,j2,j3⟩:=h4 b b1 b2;exact j3 (by rwa[show j=b by omega])
      omega))
     clear hz a6;go_wp2_with (first
      |(go_at_call 23;refine j0.o.mono ?_;rintro e o5⟨rfl,q7⟩;have z8:=Qa q7;clear q7)
      |(go_at_call 24;refine(i1.o _ z8.o).mono ?_;rintro e f4⟨rfl,h5⟩;replace h5:=h5.symm;subst h5)
      |(go_at_call 25;refine(e0.o _ z8.o).mono ?_;rintro e f4⟨⟨r1,rfl,o7⟩,h5⟩;replace h5:=h5.symm;subst h5;have g0:(0:Int)≤r1:=(by omega);have g1:¬r1<30+(N:Int):=(by omega)))
     go_roundg (m-(i+1))
     ·obtain⟨r1,r2,r3⟩:=r9.o _ z8.o;exact⟨i+1,_,c',_,_,_,_,_,_,by omega,rfl,by go_num,Qa r1,Qa r2,Qa r3⟩
     omega
    have e0:=Qa (fun W (hW:Qb [] z7 W)=>(a6.o W hW).mono (R':=fun e w'=>e=.returned (.int .i64 (-1))∧w'=W) (fun e w' h=>by
     obtain⟨⟨r,h1,h2⟩,h3⟩:=h;refine⟨?_,h3⟩;rcases h2 with⟨rfl,-⟩|⟨a,rfl,a1,a2,a3⟩
     ·exact h1
     exact absurd ⟨a,a1,a2,a3 a (Ql _)<|by omega⟩ hz))
    clear hz a6;go_wp2_with (first
     |(go_at_call 23;refine j0.o.mono ?_;rintro e o5⟨rfl,q7⟩;have z8:=Qa q7;clear q7)
     |(go_at_call 24;refine(i1.o _ z8.o).mono ?_;rintro e f4⟨rfl,h5⟩;replace h5:=h5.symm;subst h5)
     |(go_at_call 25;refine(e0.o _ z8.o).mono ?_;rintro e f4⟨rfl,h5⟩;replace h5:=h5.symm;subst h5))
    go_roundg (m-(i+1))
    ·obtain⟨r1,r2,r3⟩:=r9.o _ z8.o;exact⟨i+1,_,c',_,_,_,_,_,_,by omega,rfl,by go_num,Qa r1,Qa r2,Qa r3⟩
    omega
  have q3:(x.act.kind==3)=false:=Zb.2 k3
  go_wp2
  go_roundg (m-(i+1))
  ·obtain⟨r1,r2,r3⟩:=r9.o _<|Qc _ _;exact⟨i+1,_,c',_,_,_,_,_,_,by omega,rfl,by go_num,Qa r1,Qa r2,Qa r3⟩
  omega
 obtain rfl:m=i:=by omega
 have q0:¬(m:Int)<m:=by omega
 go_wp2_with (go_at_call 7;refine(f5.o _ p0.o).mono ?_;rintro e w4⟨rfl,q9⟩);go_ret;exact⟨rfl,p0.o.trans q9<|by simp⟩
