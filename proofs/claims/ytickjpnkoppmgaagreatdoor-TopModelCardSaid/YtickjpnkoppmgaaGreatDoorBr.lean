import Derived.Defers
import Derived.Recover
import Derived.Deep.RegionWith
import Derived.Test.YtickjpnkoppmgaaGreatDoorBq
set_option linter.all false
set_option maxHeartbeats 2000000
set_option maxRecDepth 100000
namespace Go.Proofs.YtickjpnkoppmgaaGreatDoor
open Go.Proofs.Tryz Go.RowKit K
def Qbr(a b c d w):CallsD prog 219 #[a,b,c,d] .returning w fun e g w'=>e=.returned (.tuple #[])/\g=.returning/\w'=w:=by
 refine callsD_of_wpS func219 rfl fun g h h=>?_
 apply wpS_seq;apply wpS_region;simp[wpOpsS,go_sem,recoverD,h,ntmps219,Exit.thenS];apply wpS_seq;apply wpS_region;simp[wpOpsS,go_sem,Exit.thenS];refine wpS_cond (t:=false) (by simp[Act.eval,Array.replicate]) ?_;simp only[Hz,CX];refine wpS_of_wp<|wp_skip ?_;cases g
 simp_all [bodyPostS,results,results219]
def KV(d r c n v i:Nat)(s w)(hb:Qe w d 264 [.pointer r])(h:Rd w r c s i)(hs:s.size<=1000000)(hi:i<=8*s.size)(g:QL (Ql s) i (n:Nat)=(v,0)):
 Calls prog 220 #[(n:Int),.pointer d] w fun e w'=>e=.returned (.int .u64 (v:Int))/\Rd w' r c s (i+n)/\Qb [r] w w':=by
 have c0:=hb.cq 0 (u:=.pointer r);have⟨d,c⟩:=qb (Cs r c s i (n:Int) w h ox hi) g;go_enter func220,ntmps220;go_wp2_with fail;go_fit d.o;rw[c.o];rintro e c⟨rfl,c,hk⟩
 go_wp2
 go_ret;exact⟨rfl,by simpa using c,hk⟩
def eI(w):Calls prog 221 #[.bool true] w fun e w'=>e=.returned (.tuple #[])/\w'=w:=by
 go_enter func221,ntmps221
 go_wp2
 go_end0
 exact⟨rfl,rfl⟩
structure J2(w0:WD)(g br r q:Nat)(s:BA)(i:Nat)(a b:VL)(W:WD):Prop where
 c0:Qe W g 67 [a]
 c1:Qe W (g+1) 3 [b]
 c2:Qe W (g+2) 3 [(0:Int)]
 c3:Qe W (g+3) 40 [(0:Int)]
 rd:Rd W r q s i
 hb:Qe W br 264 [.pointer r]
 hk:Qb [] w0 W
 hz:w0.heap.size<=g/\g+4<=r/\g+4<=q/\g+4<=br/\r≠br
def J2.took{w0 A c g e r d i j s a b}(h:J2 w0 g e r d s i a b A)(k:Qb [r] A c)(l:Rd c r d s j):J2 w0 g e r d s j a b c:=by obtain⟨c,z2,z3,z4,z5⟩:=h.hz;exact⟨h.c0.kept k zx,h.c1.kept k zx,h.c2.kept k zx,h.c3.kept k zx,l,h.hb.kept k zx,h.hk.trans k zx,h.hz⟩
def J2.set0{w0 A g c r d i s a b}(h:J2 w0 g c r d s i a b A)(u):J2 w0 g c r d s i u b (A.setCell ⟨g,0,none⟩ u):=by obtain⟨c,z2,z3,z4,z5⟩:=h.hz;have k:Qb [g] A (A.setCell ⟨g,0,none⟩ u):=(Qc [g] A).setCell (p:=g) sx u;exact⟨h.c0.set 0 u,h.c1.kept k sx,h.c2.kept k sx,h.c3.kept k sx,⟨k.heap h.rd.1 zx,k.heap h.rd.2.1 zx,h.rd.2.2⟩,h.hb.kept k zx,h.hk.setCell (.inr c) u,h.hz⟩
def J2.set1{w0 A g c r d i s a b}(h:J2 w0 g c r d s i a b A)(u):J2 w0 g c r d s i a u (A.setCell ⟨g+1,0,none⟩ u):=by obtain⟨c,z2,z3,z4,z5⟩:=h.hz;have k:Qb [g+1] A (A.setCell ⟨g+1,0,none⟩ u):=(Qc [g+1] A).setCell (p:=⟨g+1,0,none⟩) sx u;exact⟨h.c0.kept k sx,h.c1.set 0 u,h.c2.kept k sx,h.c3.kept k sx,⟨k.heap h.rd.1 zx,k.heap h.rd.2.1 zx,h.rd.2.2⟩,h.hb.kept k zx,h.hk.setCell (.inr (by show w0.heap.size<=g+1;omega)) u,h.hz⟩
def J2.fin{w0 A g c r d i s a b}(h:J2 w0 g c r d s i a b A)(x c u v):
 ((((A.setCell ⟨g,0,none⟩ x).setCell ⟨g+1,0,none⟩ c).setCell ⟨g+1+1,0,none⟩ u).setCell ⟨g+1+1+1,0,none⟩ v).cell? g=some x/\((((A.setCell ⟨g,0,none⟩ x).setCell ⟨g+1,0,none⟩ c).setCell ⟨g+1+1,0,none⟩ u).setCell ⟨g+1+1+1,0,none⟩ v).cell? ⟨g+1,0,none⟩=some c/\
 ((((A.setCell ⟨g,0,none⟩ x).setCell ⟨g+1,0,none⟩ c).setCell ⟨g+1+1,0,none⟩ u).setCell ⟨g+1+1+1,0,none⟩ v).cell? ⟨g+1+1,0,none⟩=some u/\((((A.setCell ⟨g,0,none⟩ x).setCell ⟨g+1,0,none⟩ c).setCell ⟨g+1+1,0,none⟩ u).setCell ⟨g+1+1+1,0,none⟩ v).cell? ⟨g+1+1+1,0,none⟩=some v/\
 Qb [] w0 ((((A.setCell ⟨g,0,none⟩ x).setCell ⟨g+1,0,none⟩ c).setCell ⟨g+1+1,0,none⟩ u).setCell ⟨g+1+1+1,0,none⟩ v):=by
 obtain⟨j,z2,z3,z4,z5⟩:=h.hz;have k:∀(e:WD)(d:Nat)(u:VL),Qb [d] e (e.setCell ⟨d,0,none⟩ u):=fun e d u=>(Qc [d] e).setCell (p:=d) sx u
 have a0:=(((h.c0.set 0 x).kept (k _ (g+1) c) sx).kept (k _ (g+2) u) sx).kept (k _ (g+3) v) sx;have d:=(((h.c1.kept (k _ g x) sx).set 0 c).kept (k _ (g+2) u) sx).kept (k _ (g+3) v) sx;have a2:=(((h.c2.kept (k _ g x) sx).kept (k _ (g+1) c) sx).set 0 u).kept (k _ (g+3) v) sx;have a3:=(((h.c3.kept (k _ g x) sx).kept (k _ (g+1) c) sx).kept (k _ (g+2) u) sx).set 0 v;exact⟨a0.cell rfl,d.cell rfl,a2.cell rfl,a3.cell rfl,(((h.hk.setCell (.inr j) _).setCell (.inr (by show w0<=g+1;omega)) _).setCell (.inr (by show w0<=g+2;omega)) _).setCell (.inr (by show w0<=g+3;omega)) _⟩
def J2.drew{w0 A g c r d i s a b}(h:J2 w0 g c r d s i a b A):J2 w0 g c r d s i a b A.drew:=⟨h.c0,h.c1,h.c2,h.c3,h.rd,h.hb,h.hk.drew,h.hz⟩
def qO(sum row c:Nat)(w:WD)(e:Ending)(w':WD):Prop:=e=.returned (.tuple #[.int .u32 (sum:Int),(row:Int),(c:Int),(0:Int)])/\Qb [] w w'
def Qbx(s:BA)(p sum row w)(hs:s.size<=1000000)(hp:p+105<=8*s.size)(c:sum<2^32)(c:row<2^24)(c:QL (Ql s) p 48=(54156738319193,0))(t2:QL (Ql s) (p+48) 32=(sum,0))(t3:QL (Ql s) (p+80) 1=(0,0))(t4:QL (Ql s) (p+81) 24=(row,0)):
 Calls prog 179 #[s,(p:Int)] w (qO sum row (p+105) w):=by
 have:∀(fn:Fn)(first cap:Array VL)(w:WD),(Instr.makeFunc fn first cap).run prog w=.ok (.func fn first cap) w:=fun _ _ _ _=>rfl
 have⟨C,D,E,F⟩:=qd c t2 t3 t4;clear c t2 t3 t4
 go_enter_defers func179,ntmps179
 go_wp2_with fail;have⟨c,g⟩:=qx<|(((w.alloc<|.cells #[.int .u32 0] 67).alloc<|.cells #[(0:Int)] 3).alloc<|.cells #[(0:Int)] 3).alloc<|.cells #[(0:Int)] 40;have d:Qe c w 67 [.int .u32 0]/\Qe c (w.heap.size+1) 3 [(0:Int)]/\Qe c (w.heap.size+2) 3 [(0:Int)]/\Qe c (w.heap.size+3) 40 [(0:Int)]/\Qb [] w c/\c.heap.size=w.heap.size+4:=by rw[<-g];exact⟨(((Qx w [.int .u32 0] 67).alloc _).alloc _).alloc _,((Qe.newAt _ [(0:Int)] 3 _ sx).alloc _).alloc _,(Qe.newAt _ [(0:Int)] 3 _ sx).alloc _,Qe.newAt _ [(0:Int)] 40 _ sx,((((Qc _ _).alloc _).alloc _).alloc _).alloc _,sx⟩
 obtain⟨n,o,q,t,z,A⟩:=d;have⟨d,e⟩:=qx w.heap.size;rw[g,e];rw[e]at n o q t A;have J:w<=d:=ox
 clear g e;go_fit(DW s (p:Int) c ox ox zx);rintro l m⟨r,j,rfl,g,y,x⟩;have I:c<=r:=x r sx;have H:c<=j:=x j sx;have g:Rd m r j s p:=by simpa using g
 have⟨c,h⟩:=qx<|m.alloc<|.cells #[.pointer r] 264;obtain⟨e,v⟩:∃b,m.heap.size=b:=⟨_,rfl⟩;have hi:J2 w d e r j s (p+0) (.int .u32 0) (0:Int) c:=by
  have k5:Qb [] m c:=by rw[<-h];exact(Qc _ _).alloc _
  have k:=y.trans k5 sx;have:=Ci g.1;have:=y.size;exact⟨n.kept k sx,o.kept k sx,q.kept k sx,t.kept k sx,⟨k5.heap g.1 sx,k5.heap g.2.1 sx,g.2.2⟩,by rw[<-h];exact Qe.newAt m [.pointer r] 264 e v,z.trans k sx,ox⟩
 have⟨c,G,B⟩:=qc hi h v;clear n o q t z A y g x h v hi J I H;go_wp2_with fail;rw[G.o,B.o];go_fit(KV e r j 48 _ (p+0) s _ c.o.hb c.o.rd hs ox<|by exact C.o);rintro l o⟨rfl,h,g⟩;have hi:=c.o.took g h;have c:=Qa hi;clear h g hi;go_wp2_with fail;go_fit(eI _);rintro l q⟨rfl,rfl⟩;go_wp2_with fail;go_fit(KV e r j 32 _ (p+48) s _ c.o.hb c.o.rd hs ox<|by exact D.o);rintro l o⟨rfl,h,g⟩;have hi:=c.o.took g h;have c:=Qa hi;clear h g hi;have c0:=c.o.c0.cq 0 (u:=.int .u32 0);have n:=c.o.c0.free 0;obtain⟨_,_⟩:(sum:Int)<4294967296/\(row:Int)<16777216:=ox
 have c:=Qa<|c.o.set0<|.int .u32 (sum:Int);go_wp2_with fail;clear c0 n;go_fit(KV e r j 1 _ (p+80) s _ c.o.hb c.o.rd hs ox<|by exact E.o);rintro l o⟨rfl,h,g⟩;have hi:=c.o.took g h;have c:=Qa hi;clear h g hi;go_wp2_with fail;go_fit(eI _);rintro l q⟨rfl,rfl⟩;go_wp2_with fail;go_fit(KV e r j 24 _ (p+81) s _ c.o.hb c.o.rd hs ox<|by exact F.o);rintro l o⟨rfl,h,g⟩;have hi:=c.o.took g h;have c:=Qa hi;clear h g hi;have c0:=c.o.c1.cq 0 (u:=.int .i64 0);have n:=c.o.c1.free 0;have c:=Qa<|c.o.set1 (row:Int);go_wp2_with fail;clear c0 n;have:=c.o.c0.cq 0 (u:=.int .u32 (sum:Int));have:=c.o.c1.cq 0 (u:=.int .i64 (row:Int));have:=c.o.c2.cq 0 (u:=.int .i64 0);have:=c.o.c3.cq 0 (u:=.int .i64 0);have:=c.o.hb.cq 0 (u:=.pointer r);have:=c.o.c0.free 0;have:=c.o.c1.free 0;have:=c.o.c2.free 0;have:=c.o.c3.free 0;obtain⟨g,z2,z3,z4,z5⟩:=c.o.hz;obtain⟨_,_,n2,_,_,_,_,_⟩: ¬e=d/\¬e=d+1/\¬e=d+2/\¬e=d+3/\¬d=e/\¬d+1=e/\¬d+2=e/\¬d+3=e:=ox
 go_region_with ((go_fit(at_ok r j s _ _ c.o.drew.rd);rintro l m⟨rfl,rfl⟩))
 all_goals
  go_wp2_with fail;refine leaves_cons (f:=219) (args:=#[.pointer<|some ⟨d,0,none⟩,.pointer<|some ⟨d+1,0,none⟩,.pointer<|some ⟨d+2,0,none⟩,.pointer<|some ⟨d+3,0,none⟩]) sx (by simp[go_sem]) ?_;refine(Qbr _ _ _ _ _).mono ?_;rintro l d d⟨rfl,rfl,rfl⟩;obtain⟨d,e,q2,g,h⟩:=c.o.fin (.int .u32 (sum:Int)) (row:Int) (.int .i64<|(p:Int)+81+24) (0:Int);have c:(p:Int)+81+24=(p+105:Nat):=ox
  refine⟨.tuple #[.int .u32 (sum:Int),(row:Int),.int .i64<|(p:Int)+81+24,(0:Int)],?_,by rw[c],h.drew⟩;simp only[results,results179,go_sem];simp[d,e,q2,g,go_sem]
def aB(A t:Nat)(c:A<18446744073709551616):bits BinOp.and IntKind.u64 ((A:Int)/2^t) 1=((A.testBit t).toNat:Int):=by
 have c:((A:Int)/2^t)=((A/2^t:Nat):Int):=by norm_cast
 rw[c,show(1:Int)=((1:Nat):Int)from rfl,u64_and_nat _ _ (yx (EI A<|2^t)) ox,nat_mask1,Hr]
def Qf5(bs p i)(h:p+16<=bs.length)(hi:i<16):(K.num<|QZ bs p 16).testBit (15-i)=bs.getD (p+i) false:=by have c:=Lu bs p 16 h;rw[Ln _ _ ox,c,(ox:16-1-(15-i)=i)];unfold QZ;rw[List.getD,List.getD,BT,Qg hi,Ut]
def tE(p:LU × Int × Nat)(w:WD)(e:Ending)(w':WD):Prop:=
 e=.returned (.tuple #[.string ⟨p.1.toArray⟩,p.2.1,(p.2.2:Nat)])/\Qb [] w w'
def sP(s:BA)(T:Option (LU × Nat))(a:Nat->Bool)(r g:Nat)(w0:WD)(k:Nat)(v c:VL)(w:WD):Prop:=
 ∃d e out,d<=16/\k=16-d/\c=.int .i64 (d:Nat)/\e<=8*s.size/\Rd w r g s e/\Qh w 5 v (Qn out)/\out.length<=16*d/\
  T=UW (Ql s) a (16-d) d e out/\Qq (Qd v) [r,g]/\Qb [] w0 w/\Qu w0 (Qd v)
def sQ(s:BA)(i:Nat)(row:LB)(out:LU)(r e p:Nat)(w0:WD)(k:Nat)(v c:VL)(w:WD):Prop:=
 ∃d,d<=16/\k=16-d/\c=.int .i64 (d:Nat)/\Rd w r e s p/\Qh w 5 v (Qn (out++Um i row d))/\Qq (Qd v) [r,e]/\Qb [] w0 w/\Qu w0 (Qd v)
def Qjb(s:BA)(at_:Int)(w)(hs:s.size<=1000000000)(x0:(AX (Ql s) at_).2.2=0):
 Calls prog 180 #[s,at_] w (tE (AX (Ql s) at_) w):=by
 have y4:=Qa (show ∀x,AX (Ql s) at_=([],0,x)->x=0 from fun x h=>by rwa[h]at x0)
 by_cases b5:at_<0\/(8*s.size:Nat)<at_
 ·exact absurd (y4.o 2 (by unfold AX;rw[Qg (by rw[XQ];omega)])) dx
 obtain⟨at_,rfl⟩:=Yu (ox:0<=at_);have b4:at_<=8*s.size:=ox
 have c5:=Qa<|XQ s;go_enter func180,ntmps180;go_wp2_with fail;go_fit(DW s at_ _ ox ox ox);rintro e w1⟨r,q,rfl,h2,q9,q7⟩;rw[ZH]at h2;have⟨a1,p4⟩:=qb q9 q7;go_wp2_with fail;go_fit(Cs r q s at_ 16 _ h2 ox b4);rintro e w2⟨rfl,x4,r0⟩;have r2:Qb [] w w2:=a1.o.new r0 (fun x o=>by rw[Zb.1 o];exact p4.o r sx)
 by_cases p1:8*s.size<at_+16
 ·have hR:AX (Ql s) at_=([],0,10):=by unfold AX;rw[Qf (by rw[XQ];omega),Qg (by rw[XQ];simpa using p1)]
  exact absurd (y4.o _ hR) dx
 have hT:QL (Ql s) at_ 16=(K.num<|QZ (Ql s) at_ 16,0):=by unfold QL;rw[Qf ox,Qf (by rw[XQ];simpa using p1)];rfl
 have hR:AX (Ql s) at_=LO (UW (Ql s) (fun i=>(Ql s).getD (at_+i) false) 16 0 (at_+16) []):=by unfold AX;rw[Qf (by rw[XQ];omega),Qf (by rw[XQ];simpa using p1),ZH]
 have HR:=Qa hR;have r4:=Lu (Ql s) at_ 16 (by rw[XQ];omega);have hA:=DY<|QZ (Ql s) at_ 16;rw[r4]at hA;have q5:∀i,i<16->(K.num<|QZ (Ql s) at_ 16).testBit (15-i)=(Ql s).getD (at_+i) false:=fun i hi=>Qf5 _ _ _ (by rw[XQ];omega) hi
 rw[hT]at x4 ⊢;have x4:Rd w2 r q s (at_+16):=x4;have⟨p3,p7,p6⟩:=qc q5 x4 r2;have b1:K.num (QZ (Ql s) at_ 16)<65536:=hA;generalize K.num (QZ (Ql s) at_ 16)=A at p3 b1 ⊢;generalize hT:UW (Ql s) (fun i=>(Ql s).getD (at_+i) false) 16 0 (at_+16) []=T at HR;have HT:=Qa hT;go_wp2_with fail;have z8:=Qh.empty w2 5;have p0:Rd (w2.alloc<|.cells #[] 5) r q s (at_+16):=p7.o.kept ((Qc [] w2).alloc _)<|Zy _;have z1:=p6.o.alloc<|.cells #[] 5;have h8:Qu w (Qd<|.slice w2 0 0):=by intro x o;simp[Qd,qo]at o;have:=p6.o.size;omega
 have hap:Qq (Qd<|.slice w2 0 0) [r,q]:=by intro x o hm;simp[Qd,qo]at o;have:=p7.o.lt x hm;omega
 generalize w2.alloc (.cells #[] 5)=W1 at z8 p0 z1 ⊢
 go_loopg [10,29] 16 (fun k v c wr=>sP s T (fun i=>(Ql s).getD (at_+i) false) r q w k v c wr)
 ·exact⟨0,at_+16,[],ox,ox,rfl,ox,p0,z8,sx,HT.o.symm,hap,z1,h8⟩
 obtain⟨i,p,out,hi,hk,rfl,hp,h2,x1,d0,q4,hap,x3,h8⟩:=hrel;have⟨Hk,p9,y2,x8,p5,x2,y6⟩:=qg hk q4 hap x3 h8 x1 h2
 by_cases hlt:i<16
 ·have c8:(i:Int)<16:=ox
  have d1:IntKind.i64.wrap (15-(i:Int))=15-(i:Int):=Za _ ox;have hu:IntKind.u64.wrap (15-(i:Int))=((15-i:Nat):Int):=by rw[J3];omega
  have y:=aB A (15-i) ox;rw[p3.o i hlt]at y;have⟨t,ht⟩:=qx<|15-i;rw[ht]at hu y;have d3:t<=15:=ox
  have XG:∀k,UW (Ql s) (fun i=>(Ql s).getD (at_+i) false) (k+1) i p out=
   if(Ql s).getD (at_+i) false then(if(Ql s).length<p+16 then none else UW (Ql s) (fun i=>(Ql s).getD (at_+i) false) k (i+1) (p+16) (out++Um i (QZ (Ql s) p 16) 16))else UW (Ql s) (fun i=>(Ql s).getD (at_+i) false) k (i+1) p out:=fun k=>by rw[UW]
  have y9:=p9.o;rw[(ox:16-i=(16-(i+1))+1),XG]at y9;have q0:=Qa y9;rcases J1 ((Ql s).getD (at_+i) false)with hb|hb
  ·rw[hb]at y;have b6:bits BinOp.and IntKind.u64 ((A:Int)/2^t) 1=1:=y;have h4:=q0.o;rw[hb,Qg rfl]at h4;have y1:=Qa h4;go_wp2_with fail;go_fit(Cs r q s p 16 _ y6.o ox hp);rintro e w4⟨rfl,x5,z6⟩;have r3:Qb [] w w4:=x8.o.new z6 (fun x o=>by rw[Zb.1 o];exact p4.o r sx);have r5:=x2.o.kept z6 fun x o h=>y2.o x o (by simp at h;simp[h]);have a6:=Qa r3
   by_cases p2:8*s.size<p+16
   ·have b3:AX (Ql s) at_=([],0,10):=(by rw[HR.o,y1.o,Qg<|by rwa[XQ]];rfl);exact absurd (y4.o _ b3) dx
   have q3:QL (Ql s) p 16=(K.num<|QZ (Ql s) p 16,0):=(by unfold QL;rw[Qf ox,Qf (by rw[XQ];simpa using p2)];rfl);have y7:=y1.o;rw[Qf<|by rwa[XQ]]at y7;have p8:=Qa y7;have z7:=Lu (Ql s) p 16 (by rw[XQ];omega);have hB:=DY<|QZ (Ql s) p 16;rw[z7]at hB;have b2:K.num (QZ (Ql s) p 16)<65536:=hB;have q6:∀j,j<16->(K.num<|QZ (Ql s) p 16).testBit (15-j)=(QZ (Ql s) p 16).getD j false:=fun j hj=>by rw[Ln _ _ ox,z7,(ox:16-1-(15-j)=j)]
   have y3:=Qa q6;rw[q3]at x5 ⊢;have x5:Rd w4 r q s (p+16):=x5;have⟨a7,a8⟩:=qb x5 r5;generalize K.num (QZ (Ql s) p 16)=B at y3 b2 ⊢;generalize QZ (Ql s) p 16=row at y3 p8
   go_wp2
   go_loopg [10,47] 16 (fun k v c wr=>sQ s i row out r q (p+16) w k v c wr)
   ·exact⟨0,ox,ox,rfl,a7.o,by simpa[Um]using a8.o,y2.o,a6.o,p5.o⟩
   obtain⟨j,hj,hk,rfl,h2,x1,hap,x3,h8⟩:=hrel;have⟨q1,x6,x9,x7,y0⟩:=qe hk hap x3 h8 h2
   by_cases b8:j<16
   ·have c9:(j:Int)<16:=ox;have d2:IntKind.i64.wrap (15-(j:Int))=15-(j:Int):=Za _ ox;have c4:IntKind.u64.wrap (15-(j:Int))=((15-j:Nat):Int):=(by rw[J3];omega);have h1:=aB B (15-j) ox;rw[y3.o j b8]at h1;obtain⟨t2,r7⟩:∃t,15-j=t:=⟨_,rfl⟩;rw[r7]at c4 h1;have d4:t2<=15:=ox;rcases J1 (row.getD j false)with h5|h5
    ·have r9:=lR i row j h5;rw[h5]at h1;have b7:bits BinOp.and IntKind.u64 ((B:Int)/2^t2) 1=1:=h1;have r6:=lO i row j;have L1:(Qn<|out++Um i row j).length+1<=maxLen:=(by rw[Yi,Qo];simp only[maxLen];omega);have L2:((Qn<|out++Um i row j).length+1)*1<=140737488355328:=(by rw[Yi,Qo];omega);have d5:IntKind.u8.wrap (16*(i:Int)+j)=16*(i:Int)+j:=(by rw[Cz];omega);have HY:=Qa r9;go_wp2_with ((at_builtin;refine Vn _ rfl _ _ 88 rfl 5 (.int .u8 0) 1 Xo Jg rfl _ _ [.int .u8<|16*(i:Int)+j] 1 rfl rfl rfl rfl (by simp[Value.oneCell']) x1 L1 L2 ?_;intro a5 c6 w5 b9 r1 q8))
     go_roundg (16-(j+1))
     case measure=>have:=q1.o;omega
     refine⟨j+1,ox,rfl,by go_num,y0.o.kept r1 x6.o.symm,?_,(x6.o.symm.grow y0.o.lt q8).symm,x9.o.new r1 x7.o,x7.o.grow q8 x9.o.size⟩;rw[HY.o,<-QR,show Qn (out++Um i row j++[UInt8.ofNat<|16*i+j])=Qn (out++Um i row j)++[.int .u8<|16*(i:Int)+j]by
      unfold Qn;rw[XC]
      congr 1
      simp only[QV,Y6,U6];rw[XH ox];simp]
     exact b9
    have x0:=lP i row j h5;rw[h5]at h1;have b7:bits BinOp.and IntKind.u64 ((B:Int)/2^t2) 1=0:=h1;have HN:=Qa x0
    go_wp2
    go_roundg (16-(j+1))
    ·exact⟨j+1,ox,rfl,by go_num,y0.o,by rwa[HN.o],x6.o,x9.o,x7.o⟩
    have:=q1.o;omega
   obtain rfl:j=16:=ox;have r6:=lO i row 16
   go_wp2
   go_roundg (16-(i+1))
   ·exact⟨i+1,p+16,_,ox,rfl,by go_num,ox,y0.o,x1,by rw[Qo];omega,p8.o,x6.o,x9.o,x7.o⟩
   have:=Hk.o;omega
  rw[hb]at y;have b6:bits BinOp.and IntKind.u64 ((A:Int)/2^t) 1=0:=y;have h4:=q0.o;rw[hb,Qf dx]at h4;have y1:=Qa h4
  go_wp2
  go_roundg (16-(i+1))
  ·exact⟨i+1,p,out,ox,rfl,by go_num,hp,y6.o,x2.o,ox,y1.o,y2.o,x8.o,p5.o⟩
  have:=Hk.o;omega
 obtain rfl:i=16:=ox
 have y8:T=some (out,p):=p9.o;have h3:=HR.o;rw[y8,LO]at h3;obtain⟨av,cv,hv,-,-,-,-⟩:=x2.o.sees;rw[Yi]at hv;subst hv
 by_cases h9:out=[]
 ·rw[Qg h9]at h3;have y5:=Qa h3;have hz:out.length=0:=by rw[h9];rfl
  go_wp2
  go_ret3
  rw[y5.o];exact⟨rfl,x8.o⟩
 rw[Qf h9]at h3;have y5:=Qa h3;have hz:¬out.length=0:=fun h=>h9<|J4 h
 have d6:((out:Int)==0)=false:=zx
 have c7:=Qh.text x2.o;go_wp2_with fail
 go_region_held3 (fun w'=>(convert 88 9<|.slice av out cv).run prog w'=.ok (.string ⟨out.toArray⟩) w') (exact Qh.text<|by exact x2.o)
  (first
    |(go_fit(at_ok r q s p _<|by exact y6.o);rintro e w'⟨rfl,rfl⟩))
 all_goals
  go_wp2
  go_ret3
  rw[y5.o];exact⟨rfl,x8.o.drew⟩
def Qeh(l):QE (Q0 l)=l:=by simp[QE,Q0,FL]
def Qkz(L a)(c g:Nat)(w)(h0:0<L.length)(d:L.length<=8192)(d:20000<=g/\g<=262144)(h:Qp w 1 a (Xe<|ZF L).length (Qi<|Xe<|ZF L)):
 Calls prog 183 #[str<|QM<|ZF L,.slice a (Xe<|ZF L).length c,(Xs (ZF L):Int),(g:Int)] w (DJ (L,0) w):=by
 have e:=Ed L;have hp:=Fw L<|EB h0;have i:=Qhl L ox;have⟨d,l⟩:=qx<|ZF L;rw[l]at e hp h i ⊢;have hb:=Re d hp ox;have:=hb.slen;have m:=Qa (fun e (k:Qb [] w e)=>Qls (QM d).length g a c (Xe d) (Ul d) e hb.used ox (h.kZ k) ox<|vK d hp ox g ox);have n:=Qa (fun(e:WD)(b:OA)(g:Nat)(o:Qp e 1 b (Ul d).length (Qi<|Ul d))=>show Calls prog 228 #[.slice b (Ul d).length g,.string<|str<|QM d] e (DJ (Va d,0) e)by
  have j:=Qie b g (Q0<|Ul d) (str<|QM d) e (by rwa[XS,Bl]) (by rw[XS,hb.plen];omega) (by rw[Cr];have:=hb.used;omega);rwa[XS,XW,hb.back]at j)
 have j:=Qa (fun(e:WD)=>show Calls prog 229 #[.string ⟨(Va d).toArray⟩,.int .i64 (Xs d:Int)] e (DJ (d,0) e)by
  have g:=uU ⟨(Va d).toArray⟩ (Xs d:Nat) e (by rw[iE,NP];omega);rwa[vH d hp ox]at g)
 have o:=Qa fun(e:WD)=>Qhg (str d) L e (by rw[Cr];omega) i;have:(str<|QM d).size=(QM d).length:=rfl;have:=Qa hb.used;go_enter func183,ntmps183;go_wp2_with fail;go_fit(m.o _<|Qc _ _);rintro d e⟨e,c1,rfl,g,e,-⟩;have i:=g.sZ;go_wp2_with fail;go_fit(n.o _ _ _ i);rintro d g⟨rfl,g⟩;go_wp2_with fail;go_fit(j.o _);rintro d i⟨rfl,i⟩;go_wp2_with fail;go_fit(o.o _);rintro d d⟨rfl,d⟩;have hk:=((e.trans g sx).trans i sx).trans d sx
 go_wp2
 go_ret2;exact⟨rfl,hk⟩
def vP(S:BA)(L)(p o n q2 x:Nat)(w:WD)(i:S.size<=1000000)(h0:0<L.length)(B:L.length<=8192)(C:20000<=o/\o<=262144)(g:K.BlkAt (Ql S) p (Yd L).toNat (Xs<|ZF L) (QM<|ZF L) (QI<|ZF L).1 (QI<|ZF L).2.1 (Q0<|Xe<|ZF L) n q2 x):
 Calls prog 134 #[S,(p:Int),(o:Int)] w (RK (.tuple #[str L,.int .u32<|Yd L,(x:Int),(0:Int)]) w):=by
 have D:=Ed L;have hp:=Fw L<|EB h0;have z:=Qa fun(d:WD)(a:OA)(s:Nat)=>Qkz L a s o d h0 B C;have⟨c,E⟩:=qx<|ZF L;rw[E]at D hp g z;have hb:=Re c hp ox;have t:Xs c<2^24:=by have:=(KZ (DZ c) 0 hp).1;unfold Xs;omega
 obtain⟨q,h⟩:∃q:Nat,Yd L=(q:Int)/\q<2^32:=by have m:Zi (Yd L):=Zi.bits _ _ _;exact⟨(Yd L).toNat,(RT m.1).symm,yx m.2⟩
 obtain⟨u,l⟩:=h;rw[u,ZH]at g;obtain⟨h,h,h,h⟩:=g.h_to;have j:(Ql S).length=8*S.size:=XQ S;rw[j]at h;have⟨F,G⟩:=qb (fun d=>Qbx S p q (Xs c) d i ox l t g.h_magic g.h_sum g.h_zero g.h_row) (fun d=>show Calls prog 180 #[S,((p+105:Nat):Int)] d (RK (.tuple #[.string<|str<|QM c,(n:Int),(0:Int)]) d) by have m:=Qjb S ((p+105:Nat):Int) d ox (by rw[g.h_used]);rwa[g.h_used]at m);have A:Q0 (QE (QI c).2.1)=(QI c).2.1:=aO _ fun h hs=>((Af hb.fit.may).2.2.2 h hs).1;have⟨H,I⟩:=qb (fun d=>show Calls prog 181 #[S,(n:Int),.int .i64<|((QM c).length:Int)+2] d fun e w'=>∃i l h j,e=.returned (.tuple #[ZL i (QI c).1.length l h (QI c).2.1.length j,(q2:Int),(0:Int)])/\XI w' i h l j (QI c).1 (QI c).2.1/\Qb [] d w' by have m:=Qbl S (n:Nat) (((QM c).length+2:Nat):Int) d ox (by rw[g.h_plan]);rw[g.h_plan]at m;go_fit m;rintro e w'⟨i,l,h,j,y,n,hk⟩;have n:XI w' i h l j (QI c).1 (Q0<|QE (QI c).2.1):=n;rw[A]at n;have I:(QE (QI c).2.1).length=(QI c).2.1.length:=Vi _;exact⟨i,l,h,j,by rwa[<-I],n,hk⟩) (fun(d:WD)(i h:OA)(l j:Nat)(J:XI d i h l j (QI c).1 (QI c).2.1)=>show Calls prog 182 #[ZL i (QI c).1.length l h (QI c).2.1.length j,S,(q2:Int)] d fun e w'=>∃a s,e=.returned (.tuple #[.slice a (Xe c).length s,(x:Int),(0:Int)])/\Qp w' 1 a (Xe c).length (Qi<|Xe c)/\Qb [] d w' by have m:=Qba i h l j _ _ S (q2:Nat) d J hb.fit.may ox;rw[g.h_list,Qeh]at m;go_fit m;rintro e w'⟨a,s,y,t,hk,-⟩;exact⟨a,s,y,t.sZ,hk⟩);have:(str<|QM c).size=(QM c).length:=rfl;have:(str L).size<=8192:=B;obtain⟨m,u2⟩:=hb.used;obtain⟨m,m⟩:=C;obtain⟨g1,_⟩: ¬(o:Int)<1/\¬(262144:Int)<o:=ox
 have⟨B,y⟩:=qb u (fun d=>show Calls prog 117 #[.string ⟨L.toArray⟩] d (RK (.int .u32 (q:Int)) d) by rw[<-u];exact ER (str L) d ox);go_enter func134,ntmps134;go_wp2_with fail;go_fit(F.o _);rintro e d⟨rfl,m⟩;go_wp2_with fail;go_fit(G.o _);rintro e d⟨rfl,o⟩;go_wp2_with fail
 with_reducible refine(H.o _).mono ?_
 rintro e g⟨i,l,h,j,rfl,n,s⟩;unfold ZL;have t:=Qx g [.slice i (QI c).1.length l,.slice h (QI c).2.1.length j] 255;have d:Qb [] g (g.alloc<|.cells #[.slice i (QI c).1.length l,.slice h (QI c).2.1.length j] 255):=(Qc _ _).alloc _;have⟨c,g⟩:=qb (n.kept d) (((m.trans o sx).trans s sx).trans d sx);go_wp2_with fail;go_fit(I.o _ _ _ _ _ c.o);rintro e c⟨a5,c,rfl,d,c⟩;have h:=Qa (g.o.trans c sx);go_wp2_with fail;go_fit(z.o _ _ _ d);rintro e c⟨rfl,c⟩;have g:=Qa (h.o.trans c sx);go_wp2_with fail
 with_reducible refine(y.o _).mono ?_
 rintro e c⟨rfl,c⟩;have d:=Qa (g.o.trans c sx);go_wp2_with fail;refine Zj (v:=.tuple #[str L,.int .u32 (q:Int),(x:Int),(0:Int)]) (by simp[results,results134,go_sem,str]) rfl ⟨by rw[B.o],d.o⟩
def Pk(S:BA)(p n v w)(c:S.size<=1000000)(hp:p<=8*S.size)(c:QL (Ql S) p (n:Nat)=(v,0)):
 Calls prog 133 #[S,(p:Int),(n:Int)] w (RK (.tuple #[.int .u64 (v:Int),(0:Int)]) w):=by
 have i:=Qa c;go_enter func133,ntmps133;go_wp2_with fail;go_fit(DW S (p:Int) _ ox ox zx);rintro e h⟨r,g,rfl,c,hk,hf⟩;have d:Rd h r g S p:=by simpa using c
 go_wp2_with fail;go_fit(Cs r g S p (n:Int) h d ox hp);rw[i.o];rintro e g⟨rfl,-,hk2⟩;have h:=hk.trans hk2 fun i g=>.inr<|hf i (by simp at g ⊢;exact .inl g)
 go_wp2
 go_ret2;exact⟨rfl,h⟩
def Qil(S:BA)(p:Nat)(w:WD)(c:S.size<=1000000)(hp:p+4<=S.size)(hb:∀i (h:i<4),S[p+i]' ox=Zl[i]'(by simpa[Zl]using h)):
 Calls prog 132 #[S,(p:Int)] w (RK (.tuple #[(1:Int),(0:Int)]) w):=by
 have c:=Qa hb;have b0:=c.o 0 ox;have d:=c.o 1 ox;have g:=c.o 2 ox;have j:=c.o 3 ox;have i0:=UV S (p+0) ((p:Int)+0) ox ox;have l:=UV S (p+1) ((p:Int)+1) ox ox;have i2:=UV S (p+2) ((p:Int)+2) ox ox;have i3:=UV S (p+3) ((p:Int)+3) ox ox;rw[b0,show((Zl[0]'(by simp[Zl])).toNat:Int)=66 from rfl,Int.add_zero]at i0;rw[d,show((Zl[1]'(by simp[Zl])).toNat:Int)=90 from rfl]at l;rw[g,show((Zl[2]'(by simp[Zl])).toNat:Int)=104 from rfl]at i2;rw[j,show((Zl[3]'(by simp[Zl])).toNat:Int)=49 from rfl]at i3;have:=UV ⟨#[66,90,104]⟩ 0 0 dx rfl;have:=UV ⟨#[66,90,104]⟩ 1 1 dx rfl;have:=UV ⟨#[66,90,104]⟩ 2 2 dx rfl;obtain⟨_,g1,_,g3⟩: ¬(S.size:Int)<=p/\¬(S.size:Int)<=p+1/\¬(S.size:Int)<=p+2/\¬(S.size:Int)<=p+3:=ox
 go_enter func132,ntmps132
 go_wp2
 go_loopg [8] 4 (fun k c wr=>(∃i:Nat,i<=4/\k=4-i/\c=.int .i64 (i:Nat))/\Hid (Qb [] w wr))
 ·exact⟨⟨0,ox,rfl,rfl⟩,Qa<|Qc _ _⟩
 obtain⟨⟨i,hi,hk,rfl⟩,c⟩:=hrel;rcases(ox:i=0\/i=1\/i=2\/i=3\/i=4)with rfl|rfl|rfl|rfl|rfl
 ·go_wp2
  go_roundg 3
  ·exact⟨⟨1,ox,ox,rfl⟩,c⟩
  omega
 ·go_wp2
  go_roundg 2
  ·exact⟨⟨2,ox,ox,rfl⟩,c⟩
  omega
 ·go_wp2
  go_roundg 1
  ·exact⟨⟨3,ox,ox,rfl⟩,c⟩
  omega
 ·go_wp2
  go_roundg 0
  ·exact⟨⟨4,ox,ox,rfl⟩,c⟩
  omega
 go_wp2
 go_ret2;exact⟨rfl,c.o⟩
def vS(a b i)(h:8*i+8<=a.length):YW (a++b) i=YW a i:=by
 have c:∀d,d<a.length->K.bt (a++b) d=K.bt a d:=fun d d=>by unfold K.bt;rw[List.getD,List.getD,Xc d]
 unfold YW;rw[c _ ox,c _ ox,c _ ox,c _ ox,c _ ox,c _ ox,c _ ox,c _ ox]
def Qgd(X i)(h:i<4):(Qw<|Ql Zl++X)[i]?=some (Zl[i]'(by simpa[Zl]using h)):=by
 have c:(Ql Zl).length=32:=by simp[YP,Zl]
 rw[GY _ _ (by rw[Qo,c];omega),vS _ _ _ (by rw[c];omega)];rcases(ox:i=0\/i=1\/i=2\/i=3)with rfl|rfl|rfl|rfl
 ·show _=some (66:UInt8);decide
 ·show _=some (90:UInt8);decide
 ·show _=some (104:UInt8);decide
 show _=some (49:UInt8);decide
def RN(L:LU):LI:=if L.length=0 then []else [Yd L]
structure rT(S:LB)(p:Nat)(L:LU)(r:Nat):Prop where
 one:0<L.length->QL S p 48=(54156738319193,0)/\∃q1 q2,K.BlkAt S p (Yd L).toNat (Xs (ZF L)) (QM (ZF L)) (QI (ZF L)).1 (QI (ZF L)).2.1 (Q0 (Xe (ZF L))) q1 q2 r
 none:L.length=0->r=p
 stop:QL S r 48=(25779555029136,0)
 sum:QL S (r+48) 32=((Uo 0 (RN L)).toNat,0)
 len:p<=r/\r+80<=S.length
def Qgc(A e L)(c:L.length<=8192):∃r,rT (A++(XN L++e)) (A.length+32) L r:=by
 have l:(Ql Zl).length=32:=by simp[YP,Zl]
 have⟨d,m⟩:=qx<|(Uo 0<|if L.length=0 then []else [Yd L]).toNat;have q:d<2^32:=by have g:Zi (Uo 0<|if L.length=0 then []else [Yd L]):=Hn _ 0 (by unfold Zi;omega);have:=g.1;have:=g.2;omega
 have⟨c,h⟩:=qx<|(if L.length=0 then []else XR L);have i:XN L=Ql Zl++(c++(K.low 25779555029136 48++K.low d 32)):=by unfold XN;rw[h,m]
 have p:A++(XN L++e)=(A++Ql Zl++c)++(K.low 25779555029136 48++(K.low d 32++e)):=by rw[i];simp[QR]
 have j:A++(XN L++e)=(A++Ql Zl++c++K.low 25779555029136 48)++(K.low d 32++e):=by rw[i];simp[QR]
 have o:A++(XN L++e)=(A++Ql Zl)++(c++(K.low 25779555029136 48++(K.low d 32++e))):=by rw[i];simp[QR]
 have k0:(A++Ql Zl).length=A.length+32:=by rw[Qo,l]
 have k1:(A++Ql Zl++c).length=A.length+32+c.length:=by rw[Qo,k0]
 have k2:(A++Ql Zl++c++K.low 25779555029136 48).length=A.length+32+c.length+48:=by rw[Qo,k1,Yl]
 refine⟨A.length+32+c.length,?_,?_,?_,?_,ox,?_⟩
 ·intro h0;rw[Qf ox]at h;have:=Ed L;have hp:=Fw L<|EB h0;have l:Zi (Yd L):=Zi.bits _ _ _;obtain⟨s,q2,i,n,i⟩:=(Re (ZF L) hp ox).told (A++Ql Zl) (K.low 25779555029136 48++(K.low d 32++e)) (Yd L).toNat (wx l.1 l.2);have hb:XR L=U9 (Yd L).toNat (Xs<|ZF L) (QM<|ZF L) (QI<|ZF L).1 (QI<|ZF L).2.1 (Uz<|ZF L):=rfl;rw[<-hb,h,k0]at i;rw[<-hb,h,k0]at n;rw[<-o]at i;subst n;exact⟨i.h_magic,s,q2,i⟩
 ·intro h0;rw[Qg h0]at h;subst h;simp
 ·have g:=FE (A++Ql Zl++c) (K.low d 32++e) 25779555029136 48 dx dx;rw[k1]at g;rwa[p]
 ·have g:=FE (A++Ql Zl++c++K.low 25779555029136 48) e d 32 q dx;rw[k2]at g;rw[j];unfold RN;rwa[m]
 rw[j,Qo,k2,Qo,Yl];omega
def Qjl(S:BA)(L pre post w)(hS:S.size<=1000000)(hl:L.length<=8192)(hb:S.data.toList=pre++(Qw (XN L)++post)):
 Calls prog 95 #[S,(pre.length:Int)] w fun e w'=>(∃q:Nat,e=.returned (.tuple #[str L,(q:Int),(0:Int)]))/\Qb [] w w':=by
 obtain⟨y3,y0⟩:=vD<|XN L;have x4:Ql S=Ql pre++(XN L++(y3++Ql post)):=by rw[hb,aD,aD,y0,QR]
 obtain⟨r,hP⟩:=Qgc (Ql pre) (y3++Ql post) L hl;rw[<-x4,YP]at hP;have x8:=hP.len;rw[XQ S]at x8;have x5:=Zr S;have y1:pre.length+4<=S.size:=ox
 have Z1:=Qa (fun W=>Qil S pre W hS y1 (fun i h=>by
  have h1:S.data.toList[pre.length+i]?=some (Zl[i]'(by simpa[Zl]using h)):=by
   rw[hb,Zm ox,MM];have hh:i<(Qw<|XN L).length:=(by rw[UD];have:(XN L).length>=32:=(by unfold XN;rw[Qo,YP];simp[Zl]);omega);rw[Xc hh];exact Qgd _ i h
  have h2:S.data.toList[pre.length+i]?=some (S[pre.length+i]' ox):=by rw[Qj (by rw[x5];omega)];rfl
  rw[h1]at h2;injection h2 with h2;exact h2.symm))
 have HP:=Qa hP;have⟨n,hn⟩:=qx pre.length;rw[hn]at x8 y1 Z1 HP ⊢;obtain⟨v,hv⟩:∃v:Nat,Uo 0 (RN L)=(v:Int)/\v<2^32:=by have h:Zi (Uo 0<|RN L):=Hn _ 0 (by unfold Zi;omega);exact⟨_,(RT h.1).symm,yx h.2⟩
 have HV:=Qa hv.1;have p6:=hv.2;have⟨Z2,Z3⟩:=qb (fun W=>Pk S r 48 _ W hS ox HP.o.stop) (fun W=>show Calls prog 133 #[S,.int .i64<|(r:Int)+48,(32:Int)] W (RK (.tuple #[.int .u64 (v:Int),(0:Int)]) W) by have h:=HP.o.sum;rw[HV.o,ZH]at h;have:=Pk S (r+48) 32 v W hS ox h;rw[show(((r+48:Nat)):Int)=r+48 by omega]at this;exact this);have g1:decide ((n:Int)<0)=false:=sx
 have g2:decide ((S.size:Int)<n)=false:=zx
 go_enter func95,ntmps95;go_wp2_with fail
 go_step3
 go_wp2_with fail;go_fit(Z1.o _);rintro e w1⟨rfl,x6⟩;have x0:=Qa x6;go_wp2_with fail;obtain⟨W0,z7⟩:∃W0:WD,W0=w:=⟨_,rfl⟩;subst z7
 go_step3
 go_wp2
 go_loopg [9,10,11] 1 (fun k x9 y4 y5 wr=>(k=1/\0<L.length/\x9=.slice none 0 0/\Hid (y4=.slice none 0 0)/\y5=.int .i64 (8*((n:Int)+4))/\Hid (Qb [] W0 wr))\/
  (∃a9 c9 h5 x3,x9=.slice a9 L c9/\y4=.slice h5 (RN L).length x3/\y5=.int .i64 (r:Nat)/\Hid (Qh wr 5 (.slice a9 L c9)<|Qn L)/\Hid (Qp wr 1 h5 (RN L).length<|Zp<|RN L)/\Hid (Qb [] W0 wr)))
 ·by_cases h0:L.length=0
  ·right;refine⟨none,0,none,0,by rw[h0],by unfold RN;rw[Qg h0];rfl,?_,?_,?_,x0⟩
   ·have:=HP.o.none h0;simp only[Value.int.injEq,FF];omega
   ·have:L=[]:=List.length_eq_zero_iff.1 h0;subst this;exact Qa<|Qh.nil _ _
   unfold RN;rw[Qg h0];exact Qa ⟨rfl,fun j u hj=>by simp[Zp]at hj⟩
  left;exact⟨rfl,ox,rfl,Qa rfl,rfl,x0⟩
 rcases hrel with⟨rfl,hL,rfl,HX,rfl,HK⟩|⟨a9,c9,h5,x3,rfl,rfl,rfl,HR,HS,HK⟩
 ·obtain⟨ht,q1,q2,hB⟩:=HP.o.one hL;have⟨ZA,ZB⟩:=qb (fun W=>show Calls prog 133 #[S,.int .i64<|8*((n:Int)+4),(48:Int)] W (RK (.tuple #[.int .u64 54156738319193,(0:Int)]) W) by have:=Pk S (n*8+32) 48 54156738319193 W hS ox (by rw[(ox:8*n+32=n*8+32)]at*;exact ht);rw[show(((n*8+32:Nat)):Int)=8*((n:Int)+4)by omega]at this;exact this) (fun W=>show Calls prog 134 #[S,.int .i64<|8*((n:Int)+4),(100000:Int)] W (RK (.tuple #[str L,.int .u32<|Yd L,(r:Int),(0:Int)]) W) by have:=vP S L _ 100000 q1 q2 r W hS hL hl ox hB;rw[show((8*n+32:Nat):Int)=8*((n:Int)+4)by omega]at this;exact this);have p1:(str L).size=L:=Cr L;have g5:decide ((262144:Int)<L.length)=false:=zx
  go_wp2_with fail;go_fit(ZA.o _);rintro e w2⟨rfl,y⟩;have h4:=Qa<|HK.o.trans y fun x o=>.inl o;go_wp2_with fail;go_fit(lD _);rintro e w3⟨rfl,rfl⟩;go_wp2_with fail;go_fit(ZB.o _);rintro e w4⟨rfl,x7⟩;have y7:=Qa<|h4.o.trans x7 fun x o=>.inl o;have z8:([]:LV).length+L.length<=140737488355328:=zx
  have L1:([]:LV).length+1<=maxLen:=by simp[maxLen]
  have L2:(([]:LV).length+1)*4<=140737488355328:=sx
  go_wp2_with (first
   |(at_builtin;refine SH rfl _ _ 88 9 rfl 5 Xo Yw Jg () [] (str L) L p1 rfl rfl (Qh.nil _ _) z8 ?_;intro a5 z1 w5 h9 p0 p4)
   |(at_builtin;refine Vn _ rfl _ _ 206 rfl 67 (.int .u32 0) 4 underlying206 TM rfl u10 [] [.int .u32<|Yd L] 1 rfl rfl rfl rfl (by simp[Value.oneCell']) (by rw[HX.o];exact Qh.nil _ _) L1 L2 ?_;intro a6 z6 w6 y2 h8 p5))
  go_roundg 0
  case measure=>omega
  right;have e0:RN L=[Yd L]:=by unfold RN;rw[Qf ox]
  rw[HX.o]at h8;simp only[YE,YU,Zu]at h9 y2;refine⟨a5,z1,a6,z6,sx,by rw[e0];simp,rfl,Qa ?_,Qa ?_,Qa ?_⟩
  ·rw[show Lib.strCells (str L)=Qn L by unfold Lib.strCells Qn;rw[XW]]at h9;exact h9.kept h8 (by simp[Qd,qo])
  ·rw[e0];exact y2.sZ
  exact(y7.o.trans p0<|by simp[Qd,qo]).trans h8 (by simp[Qd,qo])
 have ZC:=Qa<|Z2.o wr;have p2:=HS.o;go_wp2_with fail;go_fit ZC.o;rintro e w2⟨rfl,y⟩;have⟨h4,x1,x2⟩:=qc (HK.o.trans y fun x o=>.inl o) (HR.o.kept y fun x o h=>by cases h)<|HS.o.kZ y;go_wp2_with fail;go_fit(Z3.o _);rintro e w3⟨rfl,h3⟩;have⟨y6,y8,y9⟩:=qc (h4.o.trans h3 fun x o=>.inl o) (x1.o.kept h3 fun x o h=>by cases h)<|x2.o.kZ h3;go_wp2_with fail;go_fit(mV _ _ (RN L) _ y9.o (by unfold RN;split<;>simp));rintro e w4⟨rfl,rfl⟩;rw[HV.o];have p3:=Qh.text y8.o;go_wp2_with fail;rw[Cy]
 go_ret3
 refine⟨⟨((r+87)/8:Nat),?_⟩,y6.o⟩;rw[<-show((r:Int)+80+7)/8=(((r+87)/8:Nat):Int)by omega];rfl
def K.VW(l:LU):Nat:=l.foldl (fun c b=>10*c+(b.toNat-48)) 0
def yJ(l w)(h0:l≠[])(z:l.length<=9)(m:∀b∈l,48<=b.toNat/\b.toNat<=57)(q:∀b,l[0]?=some b->49<=b.toNat):
 Calls prog 131 #[str l] w fun e w'=>e=.returned (.tuple #[(VW l:Nat),(0:Int)])/\w'=w:=by
 have p:(str l).size=l:=rfl;have h:0<l.length:=In.2 h0;have hne:(str l).toList.isEmpty=false:=Do _ h;have y:∀k (c:k<l.length),(str l)[k]'c=l[k]:=fun k c=>rfl
 have n:∀k (c:k<l.length),VW (l.take<|k+1)=10*VW (l.take k)+(l[k].toNat-48):=fun k c=>by rw[Zh,Qj c];unfold VW;rw[BS];rfl
 have t:∀k,k<=l.length->VW (l.take k)<10^k:=fun k=>by
  induction k with
  |zero=>intro _;simp[VW]
  |succ k ih=>intro hk;have c:=ih ox;rw[n k ox,J9];have:=m _<|Yc (ox:k<l);omega
 have s:∀k,k<=l.length->VW (l.take k)<1000000000:=fun k hk=>Av (t k hk) (QS (Ju dx (ox:k<=9)) dx)
 have⟨u,x,j⟩:=qc m n s;have⟨i,hs⟩:=qx<|str l;have o:=Qa (show ∀k (c:k<l.length),∀g,(Instr.index 9 (.string i)<|.int .i64 (k:Int)).run prog g=.ok (.int .u8 (l[k].toNat:Nat)) g from fun k c=>by rw[<-hs];exact UV (str l) k (k:Int) c rfl);rw[hs]at p hne ⊢;have⟨d,c⟩:=qx l.length;have v:∀g,(Instr.index 9 (.string i) (0:Int)).run prog g=.ok (.int .u8 (l[0].toNat:Nat)) g:=o.o 0 h;have i:¬((l[0].toNat:Nat):Int)=48:=yx (q _<|Qj h)
 have A:(((l[0].toNat:Nat):Int)==48)=false:=Ze.2 i;have⟨c0,g⟩:=qx<|l[0].toNat;rw[g]at v i A;have v:=Qa (by rw[<-c,VM]:VW (l.take d)=VW l);rw[c]at p z;have p:=Qa c;clear y n t s m q hs c h g h0;go_enter func131,ntmps131
 go_wp2
 go_loopg [4,5,19] d (fun k h c g wr=>(∃c:Nat,c<=d/\k=d-c/\h=.int .i64 (VW (l.take c):Nat)/\g=.int .i64 (c:Nat))/\w=wr)
 ·exact⟨⟨0,ox,ox,rfl,rfl⟩,rfl⟩
 obtain⟨⟨c,hi,hk,rfl,rfl⟩,rfl⟩:=hrel
 by_cases hlt:c<d
 ·have q:(c:Int)<d:=ox
  have g:c<l:=by rw[p.o];exact hlt
  have i0:=o.o c g;have o:=u.o _<|Yc g;have i:=x.o c g;have hb:=j.o c ox;have m:=j.o (c+1) ox;rw[i]at m;have⟨b,n⟩:=qx<|l[c].toNat;have⟨g,h⟩:=qx<|VW<|l.take c;rw[n]at i0 o i m;rw[h]at i hb m ⊢;have m:=Qa i;obtain⟨g1,_,g3⟩: ¬(b:Int)<48/\¬(57:Int)<b/\(g:Int)<=9007199254740992:=ox
  have:IntKind.u8.wrap ((b:Int)-48)=(b:Int)-48:=by rw[Cz];omega
  have:IntKind.i64.wrap ((b:Int)-48)=(b:Int)-48:=by rw[Zq];omega
  clear i h n
  go_wp2
  go_roundg (d-(c+1))
  ·exact⟨⟨c+1,ox,rfl,by rw[m.o];congr 1;omega,by go_num⟩,rfl⟩
  omega
 obtain rfl:c=d:=ox
 have q:¬(c:Int)<c:=ox
 have hb:=j.o c (by rw[p.o];exact Qk _);rw[v.o]at hb ⊢;have⟨g,h⟩:=qx<|VW l;rw[h]at hb ⊢;have g3:¬(9007199254740992:Int)<g:=ox
 have c:=Qa h;clear h
 go_wp2
 go_ret2;exact⟨by rw[c.o];rfl,rfl⟩
def sC(v:LU)(w:WD)(e:Ending)(w':WD):Prop:=
 ∃c d,e=.returned (.tuple #[.slice (some ⟨c,0,none⟩) 1 d,(0:Int)])/\w'.cell? c=some (.string ⟨#[112,97,116,104]⟩)/\w'.cell? ⟨c,1,none⟩=some (.string (str v))/\Qb [] w w'
def tK:(prog.info? 172).map (fun i=>(i.zero,i.size,i.bytes))=some (some<|.agg #[.string ⟨#[]⟩,.string ⟨#[]⟩],2,32):=by kernel_rfl
def Qk5(n)(h:n<1000):VW (Rj n)=n:=by
 have d:∀c,c<10->(UInt8.ofNat<|48+c).toNat=48+c:=fun c c=>by rw[U6,XH ox]
 simp only[VW,Rj,CB,List.foldl_nil];rw[d _ ox,d _ ox,d _ ox];omega
def Qgt(v w)(A:Y5 w)(D:100<v.length)(E:v.length<=200):Calls prog 94 #[str<|Xd v] w (sC v w):=by
 have⟨d,x⟩:=qx v.length;have H:=GZ v;obtain⟨l,G⟩:=A.1;have⟨g,n⟩:=qx<|Rj<|d+10;have p:Xd v=g++32::(Jy++61::(v++[10])):=by unfold Xd;rw[x,n];simp[Jy]
 have i:g.length=3:=by rw[<-n];rfl
 have u:∀b∈g,48<=b.toNat/\b.toNat<=57:=by rw[<-n];exact yK _ ox
 have z:VW g=d+10:=by rw[<-n];exact Qk5 _ ox
 have y:∀b,g[0]?=some b->49<=b.toNat:=fun b hb=>by rw[<-n]at hb;simp only[Rj,List.getElem?_cons_zero,Option.some.injEq]at hb;rw[<-hb,U6,XH ox];omega
 have m:=Qa fun c (o:c.cell? ⟨0,0,none⟩=some (.int .i64 l))=>Tryz.strCut (str<|Xd v) ⟨#[32]⟩ l c (by show(Xd v).length<_;omega) o;rw[show(str<|Xd v).data.toList=Xd v from rfl,show(⟨#[32]⟩:BA).data.toList=[32]from rfl,p,bX 32 g _ (fun t=>by have:=u _ t;revert this;decide),<-p]at m;have⟨e,h⟩:=qx<|Jy++61::(v++[10]);rw[h]at m;have⟨m,q⟩:=qb (show ∀c,c.cell? ⟨0,0,none⟩=some (.int .i64 l)->Calls prog 130 #[str<|Xd v,.string ⟨#[32]⟩] c fun h s=>h=.returned (.tuple #[.string<|str g,.string<|str e,.bool true])/\∃d,s=c.drewN d from m.o) fun c (o:c.cell? ⟨0,0,none⟩=some (.int .i64 l))=>Tryz.strCut (str<|Jy++61::v) ⟨#[61]⟩ l c (by show(Jy++61::v).length<_;simp[Jy];omega) o;rw[show(str<|Jy++61::v).data.toList=Jy++61::v from rfl,show(⟨#[61]⟩:BA).data.toList=[61]from rfl,bX 61 Jy v dx]at q;have⟨q,s⟩:=qb (show ∀c,c.cell? ⟨0,0,none⟩=some (.int .i64 l)->Calls prog 130 #[str<|Jy++61::v,.string ⟨#[61]⟩] c fun h s=>h=.returned (.tuple #[str Jy,str v,.bool true])/\∃d,s=c.drewN d from q.o) fun c=>yJ g c (fun h=>by rw[h]at i;cases i) ox u y;rw[z]at s;have⟨e,o⟩:=qx<|str<|Xd v;have⟨N,B⟩:=qx<|d+10;have I:e.size=N:=by rw[<-o];show(Xd v).length=_;omega
 have hne:e.toList.isEmpty=false:=by rw[<-o];exact Do _ (by show 0<(Xd v).length;omega)
 have i0:=UV e (d+9) ((N:Int)-1) ox ox;have C:e[d+9]' ox=10:=by
  have t:(Xd v)[d+9]?=some 10:=by rw[p,Zm ox,i,(ox:d+9-3=(d+5)+1),Ru,Zm<|by simp[Jy],show d+5-Jy.length=d+1 by simp[Jy],Ru,Zm ox,x,ZM];rfl
  obtain⟨F,F⟩:=Qy.1 t;subst o;exact F
 rw[C]at i0;have s1:=Se e 4 (d+9) 4 ((N:Int)-1) ox ox rfl ox;have t:e.extract 4 (d+9)=str (Jy++61::v):=by
  rw[JS e 4 (d+9) ox,show e.data.toList=Xd v by rw[<-o];rfl,p]
  congr 1
  rw[show g++32::(Jy++61::(v++[10]))=(g++[32])++((Jy++61::v)++[10])by simp,FP,Jq<|by simp[i],YU,show List.length (g++[(32:UInt8)])=4 by simp[i],ZM,VJ,Is (by simp[Jy];omega),Q5 (by simp[Jy];omega)]
 rw[t]at s1;have F:=Ee e N (N:Int) ox rfl;have d:e.extract N e.size=⟨#[]⟩:=by rw[JS e N e.size<|Qk _,I,ZM,DB];rfl
 rw[d]at F;rw[o]at m ⊢;rw[B]at s;have:(str g).size=3:=i;have F:IntKind.i64.wrap ((N:Int)-1)=(N:Int)-1:=by rw[Zq];omega
 have g1:¬(262144:Int)<N:=ox
 have:¬(N:Int)<5:=ox
 have g3:¬(N:Int)<N:=ox
 have:(str Jy).toList.isEmpty=false:=Do _ dx;go_enter func94,ntmps94;go_wp2_with fail
 go_step3
 go_wp2_with fail
 go_step3
 go_wp2
 go_loopg [0,4] 1 (fun k d g wr=>(k=1/\d=.string e/\g=.slice none 0 0\/k=0/\d=.string ⟨#[]⟩/\∃d i,g=.slice (some ⟨d,0,none⟩) 1 i/\Hid (wr.cell? d=some (.string ⟨#[112,97,116,104]⟩))/\Hid (wr.cell? ⟨d,1,none⟩=some (.string<|str v)))/\Hid (Qb [] w wr))
 ·exact⟨.inl ⟨rfl,rfl,rfl⟩,Qa<|Qc _ _⟩
 obtain⟨⟨hk,rfl,rfl⟩|⟨hk,rfl,d,i,rfl,n,o⟩,g⟩:=hrel
 ·have hb:=g.o.cZ G sx;go_wp2_with (first
   |(go_at_call 130;with_reducible refine(m.o _ hb).mono ?_;rintro h F⟨rfl,e,rfl⟩)
   |(go_at_call 131;with_reducible refine(s.o _).mono ?_;rintro h p⟨rfl,rfl⟩))
  have m:(wr.drewN e).cell? ⟨0,0,none⟩=some (.int .i64 l):=hb;go_fit(q.o _ m);rintro h h⟨rfl,q2,rfl⟩;have l:Qb [] w ((wr.drewN e).drewN q2):=(g.o.drewN e).drewN q2;have⟨c,h⟩:=qx<|(wr.drewN e).drewN q2;rw[h]at l;rw[h];have p:=Qa l;go_wp2_with (at_builtin;(refine Rr c rfl _ _ 168 rfl 172 (.agg #["",""]) 2 32 underlying168 tK rfl dx () 0 [] [str Jy,str v] rfl rfl rfl rfl (by intro t h;simp at h;rcases h with rfl|rfl<;>rfl) (Qm.nil _ _ _) dx dx ?_;intro m l u e q s))
  go_roundg 0
  ·exact⟨.inr ⟨rfl,rfl,m,l,rfl,Qa<|e.aZ (j:=0) rfl,Qa<|e.aZ (j:=1) rfl⟩,Qa<|p.o.trans q<|by simp[Qd,qo]⟩
  omega
 go_wp2_with fail;rw[Cy];go_ret2;exact⟨d,i,rfl,n.o,o.o,g.o⟩
def Sc(pre name h kind k size w)(s:(0:UInt8)∉name)(hp:(0:UInt8)∉pre)(c:name.length<=100)(g:pre.length<=155)(hk:kind≠0)(hs:size<1000000000)(m:1<=name.length)(d:h.length<=1000000):
 Calls prog 93 #[str<|X8 pre name kind size++h,.int .u8 k.toNat] w (RK (.tuple #[Ae (str<|Uk pre name) kind size,.bool<|decide<|kind=k]) w):=by
 have l:=Qa fun j=>Qkr pre name kind size j s hp c g hk hs m;have n:=Ad kind size c g;have⟨c,q⟩:=qx<|X8 pre name kind size;rw[q]at l n ⊢;have⟨g,m⟩:=qx<|str<|c++h;have t:g.size=512+h.length:=by rw[<-m];show(c++h).length=_;rw[Qo,n]
 have s1:=BH g 512 512 ox rfl;rw[JS g 0 512 ox,VJ,Aw,show g.data.toList=c++h by rw[<-m];rfl,show(c++h).take 512=c by rw[<-n];exact DA]at s1;have:¬((g.size:Nat):Int)<512:=ox
 have⟨o,g⟩:=qx<|decide<|kind=k;have:((kind.toNat:Int)==(k.toNat:Int))=o:=by
  rw[<-g]
  by_cases c:kind=k
  ·subst c;simp
  rw[X0 c];exact Ze.2 (fun e=>c<|DK.1 ox)
 have⟨pj,c⟩:=qx<|str<|Uk pre name;unfold Ae at l ⊢;rw[c]at l ⊢;rw[m,g];clear s hp hk m q n t c g d;go_enter func93,ntmps93;go_wp2_with (go_at_call 129;with_reducible refine(l.o _).mono ?_;rintro e h⟨rfl,m⟩);have g:=Qx h [.string pj,size,.int .u8 kind.toNat,(420:Int),(0:Int),"","","",(0:Int),(0:Int)] 165;have c:=((Qx w ["",(0:Int),.int .u8 0,(0:Int),(0:Int),"","","",(0:Int),(0:Int)] 165).kept m sx).kept ((Qc [] h).alloc<|.cells ([.string pj,size,.int .u8 kind.toNat,(420:Int),(0:Int),"","","",(0:Int),(0:Int)]:LV).toArray 165) sx;have n:=(((Qc [] w).alloc _).trans m sx).alloc<|.cells ([.string pj,size,.int .u8 kind.toNat,(420:Int),(0:Int),"","","",(0:Int),(0:Int)]:LV).toArray 165;have l:=m.size;simp only[Ux]at l;have⟨j,q⟩:=qx<|h.alloc<|.cells ([.string pj,size,.int .u8 kind.toNat,(420:Int),(0:Int),"","","",(0:Int),(0:Int)]:LV).toArray 165;rw[q]at g c n;change Code.wp _ _ _ _ (h.alloc<|.cells ([.string pj,size,.int .u8 kind.toNat,(420:Int),(0:Int),"","","",(0:Int),(0:Int)]:LV).toArray 165);rw[q];have⟨r,d⟩:=qx w.heap.size;have⟨b,hb⟩:=qx h.heap.size;rw[hb]at g l;rw[d]at c l;have:=g.cq 0;have:=c.free 0;have z0:=c.cq 0;have:=g.cq 1;have:=c.free 1;have:=c.cq 1;have:=g.cq 2;have:=c.free 2;have z2:=c.cq 2;have:=g.cq 3;have:=c.free 3;have z3:=c.cq 3;have:=g.cq 4;have:=c.free 4;have z4:=c.cq 4;have:=g.cq 5;have:=c.free 5;have z5:=c.cq 5;have:=g.cq 6;have:=c.free 6;have:=c.cq 6;have:=g.cq 7;have:=c.free 7;have:=c.cq 7;have:=g.cq 8;have r8:=c.free 8;have:=c.cq 8;have:=g.cq 9;have:=c.free 9;have z9:=c.cq 9;obtain⟨ne1,ne2⟩: ¬r=b/\¬b=r:=ox
 have⟨s,t,h⟩:=qc c n d;clear g c n m l q
 go_region
 all_goals
  go_wp2_with fail;have c:Qe j r 165 ["",(0:Int),.int .u8 0,(0:Int),(0:Int),"","","",(0:Int),(0:Int)]:=s.o;have c:=c.set 0<|.string pj;have c:=c.set 1 size;have c:=c.set 2<|.int .u8 kind.toNat;have c:=c.set 3 (420:Int);have c:=c.set 4 (0:Int);have c:=c.set 5<|.string ⟨#[]⟩;have c:=c.set 6<|.string ⟨#[]⟩;have c:=c.set 7<|.string ⟨#[]⟩;have c:=c.set 8 (0:Int);have c:=c.set 9 (0:Int);have g:=c.cq 0 (u:=.string pj);have j:=c.cq 1 (u:=.int .i64 size);have l:=c.cq 2 (u:=.int .u8 kind.toNat);have m:=c.cq 3 (u:=.int .i64 420);have n:=c.cq 4 (u:=.int .i64 0);have q:=c.cq 5 (u:=.string ⟨#[]⟩);have s:=c.cq 6 (u:=.string ⟨#[]⟩);have x:=c.cq 7 (u:=.string ⟨#[]⟩);have y:=c.cq 8 (u:=.int .i64 0);have z:=c.cq 9 (u:=.int .i64 0);refine Zj (v:=.tuple #[.agg #[.string pj,size,.int .u8 kind.toNat,(420:Int),(0:Int),"","","",(0:Int),(0:Int)],.bool o]) (by simp[results,results93,go_sem,h.o,g,j,l,m,n,q,s,x,y,z]) rfl ⟨rfl,?_⟩;have d:=Nat.le_of_eq h.o;refine Qb.drew ?_;exact((((((((((t.o.setCell (p:=r) (.inr d) _).setCell (p:=⟨r,1,none⟩) (.inr d) _).setCell (p:=⟨r,2,none⟩) (.inr d) _).setCell (p:=⟨r,3,none⟩) (.inr d) _).setCell (p:=⟨r,4,none⟩) (.inr d) _).setCell (p:=⟨r,5,none⟩) (.inr d) _).setCell (p:=⟨r,6,none⟩) (.inr d) _).setCell (p:=⟨r,7,none⟩) (.inr d) _).setCell (p:=⟨r,8,none⟩) (.inr d) _).setCell (p:=⟨r,9,none⟩) (.inr d) _)
structure Na(p c U a b P0:LU)(S:BA):Prop where
 eq:S=str (U++(X8 a b 48 c.length++Yy (Qw (XN c))))
 own:S=str (Yh (p,c))
 a0:(0:UInt8)∉a
 b0:(0:UInt8)∉b
 al:a.length<=155
 bl:1<=b.length/\b.length<=100
 ul:U.length<=1024
 pj:(P0=[]/\Uk a b=p)\/P0=p/\p≠[]
structure sF(p c:LU)(S:BA)(t:Bool)(nm:LU)(kd:UInt8)(m:Nat):Prop where
 call:∀W,Calls prog 93 #[S,.int .u8 120] W (RK (.tuple #[Ae (str nm) kd m,.bool t]) W)
 no:t=false->∃a b,Na p c [] a b [] S
 yes:t=true->m<=130/\100<p.length/\p.length<=120/\1024<=S.size/\S.extract 512 (512+m)=str (Xd p)/\∃U b,U.length=1024/\Na p c U [] b p S
def Qg0(p c S)(j:str (Yh (p,c))=S)(hp:Xr p=true)(e:c.length<=8192):S.size<=1000000/\∃t g d m,sF p c S t g d m:=by
 obtain⟨d,q,v⟩:=XU hp;have h0:=dW d;have:=PD c e;have:=UD<|XN c;have⟨e,n⟩:=qx<|Yy<|Qw<|XN c;have:e.length<=100000:=by rw[<-n,Bq];omega
 have l:Yh (p,c)=Ug p c.length++e:=by unfold Yh;rw[n]
 have:=Ol p c v;have:S.size=(Ug p c).length+e.length:=by rw[<-j,l];show(_++_:LU).length=_;rw[Qo]
 refine⟨ox,?_⟩;cases hsp:UE p with
 |some ab=>
  obtain⟨a,b⟩:=ab;obtain⟨i,z2,z3,z4⟩:=Sj hsp h0;have g:1<=b.length/\Uk a b=p:=by
   rcases LX hsp with⟨rfl,rfl,-⟩|⟨h,d,d,o,o⟩
   ·exact⟨q,rfl⟩
   exact⟨d,by unfold Uk;rw[Qf (fun d=>by rw[d]at h;simp at h)];exact o.symm⟩
  refine⟨false,Uk a b,48,c.length,fun o=>?_,fun _=>⟨a,b,⟨by rw[<-j,l,Ug,hsp,n];rfl,j.symm,i,z2,z3,⟨g.1,z4⟩,sx,.inl ⟨rfl,g.2⟩⟩⟩,fun d=>by cases d⟩;have:=Sc a b e 48 120 c o z2 i z4 z3 dx ox g.1 ox;rw[show str (X8 a b 48 c.length++e)=S by rw[<-j,l,Ug,hsp]]at this;exact this
 |none=>
  have z:100<p.length:=by
   rcases Xw 100 p with d|d
   ·exact d
   rw[UE,Qg d]at hsp;cases hsp
  have A:=GZ p;have⟨m,x⟩:=qx<|p.length+10;have⟨i,s⟩:=qx<|X8 [] [112,97,120] 120 m;have y:i.length=512:=by rw[<-s];exact Ad _ _ dx dx
  obtain⟨h,w⟩:∃h,Yy (Xd p)=Xd p++h:=⟨_,rfl⟩;have:(Xd p++h).length=512:=by rw[<-w,Bq];omega
  have⟨g,u⟩:=qx<|X8 [] (p.take 100) 48 c.length++e;have:g.length=512+e.length:=by rw[<-u,Qo,Ad _ _ (by rw[Zd];omega) dx]
  have e:S=str (i++((Xd p++h)++g)):=by rw[<-j,l,Ug,hsp];simp only[];rw[x,s,w,<-u];simp only[QR]
  have l:S.data.toList=i++((Xd p++h)++g):=by rw[e];rfl
  have:S.size=1024+g.length:=by rw[<-Zr,l,Qo,Qo];omega
  refine⟨true,[112,97,120],120,m,fun o=>?_,(fun d=>by cases d),fun _=>⟨ox,z,v,ox,?_,i++(Xd p++h),p.take 100,by rw[Qo];omega,⟨by rw[e,n,u];simp only[QR],j.symm,sx,fun d=>h0<|Rv d,sx,⟨by rw[Zd];omega,by rw[Zd];omega⟩,by rw[Qo];omega,.inr ⟨rfl,fun d=>by rw[d]at q;simp at q⟩⟩⟩⟩
  ·have:=Sc [] [112,97,120] ((Xd p++h)++g) 120 120 m o dx dx dx dx dx ox dx (by rw[Qo];omega);rw[s,<-e]at this;exact this
  rw[JS S 512 (512+m) ox,l];refine Qt str ?_;rw[<-y,FQ,MM,QR,<-x,<-A,DA]
def Qi7(p c w)(n:Y5 w)(hp:Xr p=true)(o:c.length<=8192):
 Calls prog 59 #[str<|Yh (p,c)] w (RK (.tuple #[.agg #[str p,str c],((Yh (p,c)).length:Nat),(0:Int)]) w):=by
 have⟨d,g⟩:=qx<|str<|Yh (p,c);obtain⟨I,z,y,x,l,m⟩:=Qg0 p c d g hp o;have q:(Yh (p,c)).length=d.size:=by rw[<-g];rfl
 rw[g,q];have⟨t,j,H,A,E⟩:=qe m m.call g n<|Qr hp o;have s:z=true->(l:Int)<=130/\1024<=d.size:=fun h=>⟨yx ((m.yes h).1),(m.yes h).2.2.2.1⟩
 have:=Qa s;unfold Ae at j;clear m g n hp o q s;go_enter func59,ntmps59
 go_upto_if 22 with(go_at_call 93;with_reducible refine(j.o _).mono ?_;rintro e q⟨rfl,j⟩)
 have n:=((Qc [] (w.alloc<|.cells #["",""] 63)).trans j sx).alloc<|.cells #[str y,l,.int .u8 x.toNat,(420:Int),(0:Int),"","","",(0:Int),(0:Int)] 165;have g:=Qx q [str y,l,.int .u8 x.toNat,(420:Int),(0:Int),"","","",(0:Int),(0:Int)] 165;have c1:=g.cq 1 (u:=.int .i64 l);have q:=Qa n;clear g j n
 go_cut [5,6]from 22 to 60 (fun s D j=>(∃g a b n,Hid (Na p c g a b n d)/\s=.int .i64 (g:Nat)/\D=.string (str n))/\Hid (Qb [] (w.alloc<|.cells #["",""] 63) j))
 ·cases z with
  |false=>
   obtain⟨a,b,j⟩:=t.o.no rfl;have s:=Qa j;clear j
   go_wp2
   go_meet
   case rel=>exact⟨⟨[],a,b,[],s,rfl,rfl⟩,q⟩
  |true=>
   obtain⟨C,x,F,G,y,g,b,h6,h7⟩:=t.o.yes rfl;have⟨s,B,t⟩:=qc h7 h6 (fun j hk=>Qgt p j (A.o.kZ hk) x ox);have s1:=Se d 512 (512+l) 512 (512+(l:Int)) ox ox rfl ox;rw[y]at s1;obtain⟨g1,_,g3⟩: ¬(512:Int)<l/\¬(d.size:Int)<1024/\¬(d.size:Int)-512<(l:Int):=ox;have z:=((Qc [] w).alloc<|.cells #["",""] 63).trans q.o sx;clear C x F G y h6 h7;go_wp2_with fail;go_fit(t.o _ z);rintro e l⟨l,cc,rfl,k0,k1,t⟩;have l:=Qa (q.o.trans t sx);clear t z;go_wp2_with fail
   go_region
   all_goals
    go_wp2
    go_meet
    case rel=>exact⟨⟨g,[],b,p,s,by rw[B.o];rfl,rfl⟩,Qa<|by first|exact l.o|exact l.o.drew⟩
 obtain⟨⟨g,a,b,n,l,rfl,rfl⟩,F⟩:=hcut;obtain⟨B,q2,J,L,C,y,R,M⟩:=l.o;have⟨s,m⟩:=qx<|Yy<|Qw<|XN c;have⟨l,t⟩:=qx<|X8 a b 48 c;rw[m,t]at B;have z:l.length=512:=by rw[<-t];exact Ad _ _ y.2 C
 have x:d.data.toList=g++(l++s):=by rw[B];rfl
 have Q:d.size=g.length+(512+s.length):=by rw[<-Zr,x,Qo,Qo,z]
 have O:=Ee d g (g:Int) ox rfl;rw[JS d g d.size<|Qk _,x,FQ,Q5 (by rw[Qo];omega)]at O;obtain⟨hp,o⟩:=E.o;have q:=Qa (fun j=>Sc a b s 48 48 c j L J y.2 C dx ox y.1 ox);rw[t,show decide ((48:UInt8)=48)=true from rfl]at q;have⟨q,s⟩:=qb (show ∀j,Calls prog 93 #[.string<|str<|l++s,.int .u8 48] j (RK (.tuple #[Ae (str<|Uk a b) 48 c,.bool true]) j) from q.o) fun j=>Qjl d c (g++l) (Q3<|Bp (Qw<|XN c).length) j I o (by rw[x,<-m,Yy];simp only[QR]);rw[show(((g++l).length:Nat):Int)=(g:Int)+512 by rw[Qo,z];push_cast;rfl]at s;have G:=Qa fun j hk=>OT (str p) (str c) j (A.o.kZ hk) hp o;rw[show Yh ((str p).data.toList,(str c).data.toList)=Yh (p,c)from rfl,H.o]at G;have E:=Qa fun j=>Tryz.strPre d d j;rw[show Lib.hasPrefix d d=true from List.isPrefixOf_iff_prefix.2 (List.prefix_refl _)]at E;have P:=((Qc [] w).alloc<|.cells #["",""] 63).trans F.o sx;have⟨pj,j⟩:=qx<|str<|Uk a b;have H:((str n).toList.isEmpty=true/\pj=str p)\/((str n).toList.isEmpty=false/\n=p):=by
  rcases M with⟨rfl,h⟩|⟨rfl,h⟩
  ·exact .inl ⟨by rw[Xk];rfl,by rw[<-j,h]⟩
  exact .inr ⟨Do _<|In.2 h,rfl⟩
 unfold Ae at q;rw[j]at q;have⟨A,I⟩:=qx g.length;have g:=Qa H;have:A<=1024:=ox
 rw[I]at O s ⊢;clear B q2 J L C y R M m t z x Q hp o j H I
 go_upto_if 72 with(go_at_call 93;with_reducible refine(q.o _).mono ?_;rintro e o⟨rfl,m⟩)
 have j:=Qa<|(F.o.trans m sx).alloc<|.cells #[.string pj,c.length,.int .u8 48,(420:Int),(0:Int),"","","",(0:Int),(0:Int)] 165;have c0:=(Qx o [.string pj,c.length,.int .u8 48,(420:Int),(0:Int),"","","",(0:Int),(0:Int)] 165).cq 0 (u:=.string pj);have⟨t2,o⟩:=qx<|(str n).toList.isEmpty;rw[o]at g ⊢;clear o m
 go_cut [6]from 72 to 74 (fun D m=>D=.string (str p)/\Hid (Qb [] (w.alloc<|.cells #["",""] 63) m))
 ·cases t2 with
  |true=>
   have h:=g.o;simp only[FF,Bool.true_eq_false,false_and,or_false]at h;have l:=Qa h;clear h
   go_wp2
   go_meet
   case rel=>exact⟨by rw[l.o],j⟩
  |false=>
   have h:=g.o;simp only[FF,Hz,false_and,false_or]at h;have l:=Qa h;clear h
   go_wp2
   go_meet
   case rel=>exact⟨by rw[l.o],j⟩
 obtain⟨rfl,j⟩:=hcut;have m:=((Qc [] w).alloc<|.cells #["",""] 63).trans j.o sx;clear c0 P;go_wp2_with (first
  |(go_fit(s.o _);rintro e y⟨⟨q,rfl⟩,h⟩)
  |(go_fit(G.o _<|m.trans h sx);rintro e z⟨rfl,l⟩;have g:=(Qx w ["",""] 63).kept ((j.o.trans h sx).trans l sx) sx;have:=g.cq 0 (u:=.string ⟨#[]⟩);have:=g.cq 1 (u:=.string ⟨#[]⟩);have:=g.free 0;have:=g.free 1)
  |(go_fit(E.o _);rintro e A⟨rfl,rfl⟩))
 have j:=(g.set 0<|.string<|str p).set 1<|.string<|str c;have g:=j.cq 0 (u:=.string<|str p);have n:=j.cq 1 (u:=.string<|str c);refine Zj (v:=.tuple #[.agg #[str p,str c],.int .i64 d.size,(0:Int)]) (by simp[results,results59,go_sem,g,n]) rfl ⟨rfl,?_⟩;exact(((m.trans h sx).trans l sx).setCell (p:=w) (.inr<|Qk _) _).setCell (p:=⟨w.heap.size,1,none⟩) (.inr<|Qk _) _
