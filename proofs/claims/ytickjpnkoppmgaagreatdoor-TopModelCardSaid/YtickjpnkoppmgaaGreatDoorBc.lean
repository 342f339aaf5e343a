import Derived.Test.YtickjpnkoppmgaaGreatDoorBb
set_option linter.all false
namespace Go.Proofs.YtickjpnkoppmgaaGreatDoor
open Go.Proofs.Tryz Go.RowKit K
section
open Go.Shelf
attribute [local go_sem] Oper.semAt_some
def aF(s)(h0:0<s.length)(c:s.length<=8192):(XR s).length<=700000:=by have:=Ed s;have hp:=Fw s<|EB h0;have hb:=Re (ZF s) hp ox;have:=Sm<|QM<|ZF s;have c:=PF hb.fit.may;have:=NM (ZF s) hp ox;have c:(Zx (QI<|ZF s).1 (QI<|ZF s).2.1).length<=400000:=c;unfold XR U9;rw[Qo,Qo,Qo,CW];omega
def MW(w:WD)(d e D:Nat)(h:BA)(g:Int)(i j:VL)(W:WD):Prop:=
 ∃c,i=.pointer (some ⟨c,0,none⟩)/\j=.int .i64 0/\Qe W c 204 [h,g]/\Qe W d 9 [""]/\Qe W e 40 [(0:Int)]/\Qb [] w W/\c≠d/\c≠e/\W.heap[D]?=some (.deferred (some []))
set_option maxHeartbeats 4000000 in
set_option maxRecDepth 100000 in
def Qfp(s w)(hs:s.size<=8192):Calls prog 80 #[.string s,(1:Int),(20000:Int)] w (RK (.tuple #[.string<|str<|Qw<|XN s.data.toList,(0:Int)]) w):=by
 refine ET.1<|callsIn_of_wp_marks (F:=Fence.wide) (n:=6) func80 rfl trivial ?_ rfl;refine wpIn_wide.2 ?_;simp only[ntmps80,Ir,QW,YE,Nat.reduceAdd,Nat.reduceSub,Ml,Mm,MG,Mw,YU,XY];have f2:∀(fn:Fn)(first cap:Array Value)(w:World),(Instr.makeFunc fn first cap).run prog w=.ok (.func fn first cap) w:=fun _ _ _ _=>rfl
 have e4:(convert 88 9<|.slice (w.heap.size+1+1:Nat) 1 1).run prog (((w.alloc<|.cells #[""] 9).alloc<|.cells #[(0:Int)] 40).alloc<|.cells #[.int .u8 49] 5)=.ok (.string ⟨#[49]⟩) (((w.alloc<|.cells #[""] 9).alloc<|.cells #[(0:Int)] 40).alloc<|.cells #[.int .u8 49] 5):=by have:=CN ((w.alloc<|.cells #[""] 9).alloc<|.cells #[(0:Int)] 40) 49;simpa using this
 have e5:(⟨#[66,90,104]⟩:ByteArray)++⟨#[49]⟩=str Zl:=dx
 have j1:(s.size:Int)<=8192:=ox
 go_wp2_with fail;refine(lD _).mono ?_;rintro e w1⟨rfl,rfl⟩;go_wp2_with fail;refine(Qfx _ _ _).mono ?_;rintro e w8⟨rfl,b5⟩;obtain⟨hI,hA,hB,hz⟩:=Qge w w8 s b5;have HI:=Qa hI;have HA:=Qa hA;have HB:=Qa hB;have HZ:=Qa hz;clear b5 hI hA hB hz e4 e5 f2;go_wp2_with fail;obtain⟨bm,p0⟩:∃g,w.heap.size+1+1+1+1+1+1+1=g:=⟨_,rfl⟩;obtain⟨bs,p1⟩:∃g,w.heap.size+1+1+1+1+1+1=g:=⟨_,rfl⟩;obtain⟨gs,q4⟩:∃g,w.heap.size+1+1+1+1+1=g:=⟨_,rfl⟩;obtain⟨ga,h9⟩:∃g,w.heap.size+1+1+1+1=g:=⟨_,rfl⟩;obtain⟨r7,r1⟩:∃g,w.heap.size+1=g:=⟨_,rfl⟩;obtain⟨r6,y2⟩:∃g,w.heap.size=g:=⟨_,rfl⟩;have HI:=Qa (by rw[<-h9,<-q4,<-y2,<-r1,<-p1,<-p0];exact HI.o:MX w ga gs r6 r7 bs bm [Ql Zl] [] w8);have HA:=Qa (by rw[<-p1];exact HA.o:Qe w8 bs 9 [.string s]);have HB:=Qa (by rw[<-p0];exact HB.o:Qe w8 bm 3 [(20000:Int)]);have HE:=Qa (ox:ga=r6+4/\gs=r6+5/\r7=r6+1/\bs=r6+6/\bm=r6+7/\w=r6);rw[p0,p1,q4,h9,r1,y2];clear p0 p1 q4 h9 r1 y2;refine wpIn_wide.1 (kH (w:=w8) (gf:=157) (lb:=#[.pointer bs,.pointer bm]) rfl (enters_of func157 kx rfl)
  (Qfw s 20000 bs bm w8 ox ox ox ox HA.o HB.o (yx HE.o)) (by have:=HE.o;have:=HZ.o;simp;omega) (fun _=>rfl)
  (fun r2 W=>MX w ga gs r6 r7 bs bm (Ql Zl::r2.map fun x=>XR x.data.toList) (r2.map fun x=>Yd x.data.toList) W)
  (fun _ _ _=>False) ?hI (fun _ _ _ _ h=>h.elim) HI.o ?rd ?done (fun _ _ _ _ _ _ h=>h.elim))
 case hI=>exact fun s A B ⟨va,vs,h⟩ hz hm=>⟨va,vs,h.mild hm (wx HZ.o HE.o)⟩
 case rd=>
  rintro l r2 x W hp⟨rfl,rfl,f8⟩ hW;obtain⟨va,vs,hp⟩:=hp;have HP:=Qa hp;clear hp;apply Exists.intro;constructor
  ·intro W' K y
   gi_wp2
   exact y
  gi_wp2_with fail
  refine⟨trivial,(CallsIn.inRound l<|ET.2<|Qea x W f8 hs).mono ?_⟩;rintro e W1⟨rfl,x8⟩;unfold Zk;have⟨W2,y9⟩:=qx<|W1.alloc<|.cells #[.string ⟨(Qw<|XR x.data.toList).toArray⟩,.int .i64 ((XR x.data.toList).length:Nat)] 204;have q9:=HP.o.kept x8;have y1:=HP.o.kept (by rw[<-y9];exact x8.alloc _:Qb [] W W2);have c1:=q9.ha.cq 0 (u:=va);have x1:=q9.ha.lt;have⟨r3,y8,x3⟩:=qc (by rw[<-y9];exact x8.alloc _:Qb [] W W2) y9 y1;have M1:(1:Nat)+1<=maxLen:=by simp only[maxLen];omega
  clear x8 q9 y1 y9
  gi_wp2_with ((gi_at_builtin;refine oV (W1.alloc<|.cells #[.string ⟨(Qw<|XR x.data.toList).toArray⟩,.int .i64 ((XR x.data.toList).length:Nat)] 204) rfl _ _ 205 rfl 204 (.agg #["",(0:Int)]) 2 24 Wv Nd rfl dx va 1 (YH<|Jm [Ql Zl]) [.string ⟨(Qw<|XR x.data.toList).toArray⟩,.int .i64 ((XR x.data.toList).length:Nat)] rfl (by rw[Ux];rfl) rfl rfl (by simp[Value.oneCell']) (by rw[y8.o];exact x3.o.hra) M1 dx ?_;intro g3 y3 W3 b2 x9 q3;have c3:=(x3.o.ha.kept (by rwa[<-y8.o]) fun h=>(x3.o.hf _<|.inl h).2.1 rfl).cq 0 (u:=va);have f3:=(x3.o.ha.kept (by rwa[<-y8.o]) fun h=>(x3.o.hf _<|.inl h).2.1 rfl).free 0))
  rw[y8.o]at x9 q3;have h3:Uu w ga gs r6 r7 bs bm [Ql Zl,XR x.data.toList] [] (.slice g3 2 y3) vs (W3.setCell ⟨ga,0,none⟩<|.slice g3 2 y3):=x3.o.push (Bs':=[Ql Zl,XR x.data.toList]) (m:=2) x9 q3 rfl b2;have q0:KeepsOthers W (W3.setCell ⟨ga,0,none⟩<|.slice g3 2 y3):=((keeps_of r3.o sx).trans<|keeps_of x9 x3.o.hra.cells).trans<|KeepsOthers.setCell _ _ _;have q1:Qb (ga::gs::(Qd va++Qd vs)) W (W3.setCell ⟨ga,0,none⟩<|.slice g3 2 y3):=((r3.o.mono sx).trans x9 fun x hx=>.inl<|by simp[hx]).setCell (.inl sx) _;have⟨W4,z1⟩:=qx<|W3.setCell ⟨ga,0,none⟩<|.slice g3 2 y3;have j2:Zi (Yd x.data.toList):=Zi.bits _ _ _;have HN:=Qa (show ∀W5,Qb [] W4 W5->∃g6 h5 W6,(Builtin.append_ #[206,206] 206 #[vs,.slice (some ⟨W5.heap.size,0,none⟩) 1 1]).run prog (W5.alloc<|.cells #[.int .u32<|Yd x.data.toList] 67)=.ok (.slice (some ⟨g6,0,none⟩) 1 h5) W6/\
   Uu w ga gs r6 r7 bs bm [Ql Zl,XR x.data.toList] [Yd x.data.toList] (.slice g3 2 y3) (.slice (some ⟨g6,0,none⟩) 1 h5) (W6.setCell ⟨gs,0,none⟩<|.slice (some ⟨g6,0,none⟩) 1 h5)/\KeepsOthers W (W6.setCell ⟨gs,0,none⟩<|.slice (some ⟨g6,0,none⟩) 1 h5)/\
   (∀b∈[bs,bm],(W6.setCell ⟨gs,0,none⟩<|.slice (some ⟨g6,0,none⟩) 1 h5).heap[b]?=W.heap[b]?)/\W6.cell? ⟨gs,0,none⟩=some vs/\W6.frozen? ⟨gs,0,none⟩=false from by
   intro W5 h4;rw[z1]at h3 q0 q1;have y7:=h3.kept h4;obtain⟨v6,W6,y2,y6,x0,f0⟩:=Cp (P:=prog) (W5.alloc<|.cells #[.int .u32<|Yd x.data.toList] 67) 206 206 67 (.int .u32 0) 1 4 underlying206 TM rfl dx vs 0 [] (World.ownsRow.alloc y7.hrs _) ⟨W5.heap.size,0,none⟩ 1 1 [.int .u32<|Yd x.data.toList] rfl (by intro j u hj;rw[Jc,Zu,WL _ _ _ _ rfl];simpa using hj) (by simp[Value.oneCell']) (by simp only[maxLen];omega) ox;rcases y6.2 with⟨-,h0⟩|⟨g6,h5,g9,rfl,-⟩
   ·omega
   have p3:Qb (Qd vs) W5 W6:=((Qc (Qd vs) W5).alloc _).trans x0 fun x hx=>.inl hx;have f5:=y7.add (xs':=[Yd x.data.toList]) p3 ((f0 g6<|by simp[Qd,qo]).imp id (fun h=>by simp at h;omega)) rfl y6;have h9:=y7.hs.kept p3 fun h=>(y7.hf _<|.inr h).2.2.1 rfl;have hT:∀b∈[bs,bm],(W6.setCell ⟨gs,0,none⟩<|.slice (some ⟨g6,0,none⟩) 1 h5).heap[b]?=W.heap[b]?:=fun b hb=>(((q1.trans h4 sx).trans p3 fun x hx=>.inl<|by simp[hx]).setCell (.inl sx) _).block b (by have:=HP.o.hlt;simp at hb;omega) (by
    intro hm;have hn:=HP.o.hne;simp at hm hb;rcases hm with h|h|h|h
    ·omega
    ·omega
    ·have:=HP.o.hf b<|.inl h;omega
    have:=HP.o.hf b<|.inr h;omega)
   exact⟨g6,h5,W6,y2,f5,((q0.trans<|keeps_of h4 sx).trans<|keeps_of p3 y7.hrs.cells).trans<|KeepsOthers.setCell _ _ _,hT,h9.cq 0,h9.free 0⟩)
  have mixed:prog.follows .mixedOrders=true:=kx
  rw[z1]at h3;have c4:=h3.hs.cq 0 (u:=vs);have x4:=h3.hs.lt;have h8:=Qa h3;rw[z1];clear c3 f3 c1 x1 b2 x9 q3 h3 q0 z1 q1;refine wpIn_region_any mixed ?_;change wpAnyIn _ _ _ _ _ _ _ _ _ (World.drew _);refine wpAnyIn_ready (rs:=[0,1]) kx sx ?_;refine AllReadyIn.cons rfl (fun K y=>?ord0)<|AllReadyIn.cons rfl (fun K y=>?ord1) AllReadyIn.nil
  case' ord0=>go_simp;refine y _ _ ?_;clear y K;refine wpAnyIn_ready (rs:=[1]) kx sx ?_;refine AllReadyIn.cons rfl (fun K y=>?_) AllReadyIn.nil;go_simp;refine y _ _ ?_;clear y K;refine wpAnyIn_ready (rs:=[2]) kx sx ?_;refine AllReadyIn.cons rfl (fun K y=>?_) AllReadyIn.nil;go_simp;refine⟨trivial,(CallsIn.inRound l<|ET.2<|ER x _ ox).mono ?_⟩;rintro e W5⟨rfl,h4⟩;have hk:=(Qc [] W4).drew.trans h4 sx;have c5:=(h8.o.kept hk).hs.cq 0 (u:=vs);have x5:=(h8.o.kept hk).hs.lt;clear h4 c4 x4;refine y _ _ ?_;clear y K;refine wpAnyIn_ready (rs:=[3]) kx sx ?_;refine AllReadyIn.cons rfl (fun K y=>?_) AllReadyIn.nil;go_simp;refine y _ _ ?_;clear y K;refine ?end0
  case' ord1=>go_simp;refine y _ _ ?_;clear y K;refine wpAnyIn_ready (rs:=[0,2]) kx sx ?_;refine AllReadyIn.cons rfl (fun K y=>?ord2)<|AllReadyIn.cons rfl (fun K y=>?ord3) AllReadyIn.nil
  case' ord2=>go_simp;refine y _ _ ?_;clear y K;refine wpAnyIn_ready (rs:=[2]) kx sx ?_;refine AllReadyIn.cons rfl (fun K y=>?_) AllReadyIn.nil;go_simp;refine⟨trivial,(CallsIn.inRound l<|ET.2<|ER x _ ox).mono ?_⟩;rintro e W5⟨rfl,h4⟩;have hk:=(Qc [] W4).drew.trans h4 sx;have c5:=(h8.o.kept hk).hs.cq 0 (u:=vs);have x5:=(h8.o.kept hk).hs.lt;clear h4 c4 x4;refine y _ _ ?_;clear y K;refine wpAnyIn_ready (rs:=[3]) kx sx ?_;refine AllReadyIn.cons rfl (fun K y=>?_) AllReadyIn.nil;go_simp;refine y _ _ ?_;clear y K;refine ?end1
  case' ord3=>go_simp;refine⟨trivial,(CallsIn.inRound l<|ET.2<|ER x _ ox).mono ?_⟩;rintro e W5⟨rfl,h4⟩;have hk:=(Qc [] W4).drew.trans h4 sx;have c5:=(h8.o.kept hk).hs.cq 0 (u:=vs);have x5:=(h8.o.kept hk).hs.lt;clear h4 c4 x4;refine y _ _ ?_;clear y K;refine wpAnyIn_ready (rs:=[0,3]) kx sx ?_;refine AllReadyIn.cons rfl (fun K y=>?ord4)<|AllReadyIn.cons rfl (fun K y=>?ord5) AllReadyIn.nil
  case' ord4=>go_simp;refine y _ _ ?_;clear y K;refine wpAnyIn_ready (rs:=[3]) kx sx ?_;refine AllReadyIn.cons rfl (fun K y=>?_) AllReadyIn.nil;go_simp;refine y _ _ ?_;clear y K;refine ?end2
  case' ord5=>go_simp;refine y _ _ ?_;clear y K;refine wpAnyIn_ready (rs:=[0]) kx sx ?_;refine AllReadyIn.cons rfl (fun K y=>?_) AllReadyIn.nil;go_simp;refine y _ _ ?_;clear y K;refine ?end3
  all_goals
   obtain⟨g6,h5,W6,y2,f4,d9,e0,c6,f6⟩:=HN.o _ hk;refine wpAnyIn_ready (rs:=[4]) kx sx ?_;refine AllReadyIn.cons rfl (fun K y=>?_) AllReadyIn.nil;refine Qe7 (v:=.slice (some ⟨g6,0,none⟩) 1 h5) (w':=W6) rfl _ _ 206 rfl y2 ?_;refine y _ _ ?_;clear y K;refine wpAnyIn_ready (rs:=[5]) kx sx ?_;refine AllReadyIn.cons rfl (fun K y=>?_) AllReadyIn.nil;go_simp;refine y _ _ ?_;clear y K;refine wpAnyIn_done kx ?_ _
   gi_wp2_with fail
   exact⟨d9,e0,_,_,f4⟩
 rintro D xs W hD hS⟨va,vs,hp⟩ y;have b6:xs.length<=1:=by rw[hS];split<;>simp
 have⟨X,hX⟩:=qx<|(xs.map fun x=>Yd x.data.toList);have⟨Y,hY⟩:=qx<|(Ql Zl::xs.map fun x=>XR x.data.toList);have i1:X.length<=1:=by rw[<-hX];simpa using b6
 have⟨HX,HY⟩:=qb (by rw[<-hX,hS,Zr];split<;>rfl:X=if s.data.toList.length=0 then []else [Yd s.data.toList]) (by rw[<-hY,hS,Zr];split<;>rfl:Y=Ql Zl::if s.data.toList.length=0 then []else [XR s.data.toList]);rw[hX,hY]at hp;obtain⟨a,c,rfl,-,-,-,-⟩:=hp.hrs.sees;have⟨HP,HD⟩:=qb hp y;clear hp y hS hX hY b6;go_wp2_with fail;refine(DX _).mono ?_;rintro e w1⟨b,rfl,b3,x8,a8⟩;go_wp2_with fail;refine(Ft x8 a8 b3 _ 25779555029136 48 (by rfl) dx dx sx).mono ?_;rintro e w2⟨rfl,o2,b4,q5,e9⟩;have y1:=HP.o.kept q5;have c1:=y1.hs.cq 0 (u:=.slice a X c);obtain⟨a',c',he,-,-,p4,-⟩:=y1.hrs.sees;injection he with e1 e2 e3;subst e1 e3;clear e2;have x3:=Qa y1;clear b3 x8 a8 y1;go_wp2_with fail;refine(mV a c X _ p4 ox).mono ?_;rintro e w3⟨rfl,rfl⟩;obtain⟨q,hq⟩:∃q:Nat,Uo 0 X=(q:Int)/\q<2^32:=by have h:Zi (Uo 0 X):=Hn X 0 (by unfold Zi;omega);exact⟨(Uo 0 X).toNat,(RT h.1).symm,yx h.2⟩
 obtain⟨r0,f9⟩:=hq;have HQ:=Qa r0;have j0:(q:Int)<4294967296:=ox
 rw[r0];clear p4 c1 r0;go_wp2_with fail;refine(Ft q5 e9 b4 _ q 32 (by rfl) dx (by simpa using f9)<|by simp[Yl]).mono ?_;rintro e w4⟨rfl,o4,p5,p2,i7⟩;have hh:([]:List Bool)++K.low 25779555029136 48++K.low q 32=K.low 25779555029136 48++K.low q 32:=sx
 rw[hh]at p5;have⟨Z,hZ⟩:=qx<|K.low 25779555029136 48++K.low q 32;have z8:Z.length=80:=by rw[<-hZ];simp[Yl]
 rw[hZ]at p5;have d8:=Qa hZ;have h3:=HP.o.kept p2;have c2:=h3.ha.cq 0 (u:=va);have x2:=h3.ha.lt;have⟨h8,r4⟩:=qb h3 fun(W:World)(h:Qb [] w4 W)=>p5.kept h<|Zy _;have i6:Y.length<=2:=by have:=HY.o;rw[this];split<;>simp
 have hv:YH (Jm Y)++[.string ⟨(Qw Z).toArray⟩,.int .i64 80]=YH (Jm<|Y++[Z]):=by simp[YH,Jm,str,z8]
 have HV:=Qa hv;have h9:ga∉Qd va:=fun h=>(h3.hf _<|.inl h).2.1 rfl
 have d3:=Qa h9;have M1:Y.length+1<=maxLen:=by simp only[maxLen];omega
 have M2:(Y.length+1)*24<=140737488355328:=ox
 obtain⟨TT,y4⟩:∃T,str (Qw (Y++[Z]).flatten)=T:=⟨_,rfl⟩;obtain⟨NN,a6⟩:∃N:Int,(((Y++[Z]).flatten.length:Nat):Int)=N:=⟨_,rfl⟩;have d5:=Qa y4;have HJ:=Qa (show ∀W g c,Qm W 204 2 (.slice (some ⟨g,0,none⟩) (Y.length+1) c) (Y.length+1) (YH<|Jm<|Y++[Z])->Calls prog 121 #[.slice (some ⟨g,0,none⟩) (Y.length+1) c] W (RK (.tuple #[.agg #[TT,NN],(0:Int)]) W) from by
  intro W g c hr;obtain⟨aa,cc,he,-,-,p4,-⟩:=hr.sees;injection he with e1 e2 e3;subst e1;have b1:(Y++[Z]).length=Y.length+1:=sx
  have a7:0<s.data.toList.length->(XR s.data.toList).length<=700000:=fun h=>aF _ h (by rwa[Zr])
  have hj:=fE (Y++[Z]) (some ⟨g,0,none⟩) c W (by rwa[b1]) (by
   rw[HY.o]
   split
   ·simp[YM,Jm,JL,XW,UD,z8,YP,Zl]
   ·have:=a7 ox;simp[YM,Jm,JL,XW,UD,z8,YP,Zl];omega) ox (by
   intro b hb;rw[HY.o]at hb;rcases Q4.1 hb with hb|hb
   ·rcases QD.1 hb with rfl|hb
    ·simp[YP,Zl]
    split at hb
    ·cases hb
    have:=a7 ox;simp at hb;subst hb;omega
   simp at hb;subst hb;omega)
  rw[b1]at hj;unfold Zk at hj;rwa[<-y4,<-a6])
 have b8:=Qa (show ∀W' o,Qb (Qd va) ((w4.alloc<|.cells #["",(0:Int)] 204).alloc o).drew W'->Qe W' w4 204 ["",(0:Int)]from fun W' o hk=>((Qx w4 ["",(0:Int)] 204).alloc o).kept (Qb.trans (Qc (Qd va) _).drew hk fun x hx=>.inl hx) (fun h=>by have:=h3.hra.lt _ h;omega));have b9:=Qa (show ∀W' o,Qb (Qd va) ((w4.alloc o).alloc<|.cells #["",(0:Int)] 204).drew W'->Qe W' (w4.heap.size+1) 204 ["",(0:Int)]from fun W' o hk=>(Qe.newAt (w4.alloc o) ["",(0:Int)] 204 (w4.heap.size+1) sx).kept (Qb.trans (Qc (Qd va) _).drew hk fun x hx=>.inl hx) (fun h=>by have:=h3.hra.lt _ h;omega));have g7:=Qa (show ∀o o',Qp (((w4.alloc o).alloc<|.cells #[.string ⟨(Qw Z).toArray⟩,(80:Int)] 204).alloc o').drew 2 (w4.heap.size+1:Nat) 1 [.string ⟨(Qw Z).toArray⟩,(80:Int)]from fun o o'=>((Qe.newAt (w4.alloc o) [.string ⟨(Qw Z).toArray⟩,(80:Int)] 204 (w4.heap.size+1) sx).alloc o').sees (size:=2) (n:=1) rfl);have d1:=Qa (show ∀W6 w7 w8 p,Qb (Qd va) w4 W6->Qb [] W6 w7->Qb [] w7 w8->Qe w8 p 204 ["",(0:Int)]->w4.heap.size<=p->
  MW w r6 r7 D TT NN (.pointer<|some ⟨p,0,none⟩) (0:Int) ((w8.setCell ⟨p,0,none⟩<|.string TT).setCell ⟨p,1,none⟩ NN)from by
  intro W6 w7 w8 p k1 k2 k3 hA hp;have z6:=h3.h6.lt;have z7:=h3.h7.lt;have zk:=h3.hk.size;have k4:Qb [p] w8 ((w8.setCell ⟨p,0,none⟩<|.string TT).setCell ⟨p,1,none⟩ NN):=((Qc [p] w8).setCell (p:=⟨p,0,none⟩) sx _).setCell (p:=⟨p,1,none⟩) sx _;have y5:=p2.heap HD.o sx;have zd:=(RR.1 y5).1;have hD:D∉Qd va:=fun h=>by obtain⟨o,h1,h2⟩:=h3.hra.cells _ h;rw[y5]at h1;injection h1 with h1;subst h1;cases h2
  have n6:r6∉Qd va:=fun h=>(h3.hf _<|.inl h).2.2.2.1 rfl
  have n7:r7∉Qd va:=fun h=>(h3.hf _<|.inl h).2.2.2.2.1 rfl
  exact⟨p,rfl,rfl,(hA.set 0 _).set 1 _,(((h3.h6.kept k1 n6).kept k2 sx).kept k3 sx).kept k4 zx,(((h3.h7.kept k1 n7).kept k2 sx).kept k3 sx).kept k4 zx,
   (((h3.hk.trans k1 fun x hx=>.inr (h3.hf x<|.inl hx).1).trans k2 sx).trans k3 sx).trans k4 (by intro x hx;simp at hx;right;omega),ox,ox,k4.heap (k3.heap (k2.heap (k1.heap y5 hD) sx) sx) zx⟩)
 have d2:=Qa (show ∀W6 w7,Qb (Qd va) w4 W6->Qb [] W6 w7->MW w r6 r7 D TT NN (.pointer<|some ⟨w7.heap.size,0,none⟩) (0:Int) (w7.alloc<|.cells #[TT,NN] 204)from by
  intro W6 w7 k1 k2;have z6:=h3.h6.lt;have z7:=h3.h7.lt;have s1:=k1.size;have s2:=k2.size;have k3:Qb [] w7 (w7.alloc<|.cells #[TT,NN] 204):=(Qc _ _).alloc _;have y5:=p2.heap HD.o sx;have hD:D∉Qd va:=fun h=>by obtain⟨o,h1,h2⟩:=h3.hra.cells _ h;rw[y5]at h1;injection h1 with h1;subst h1;cases h2
  have n6:r6∉Qd va:=fun h=>(h3.hf _<|.inl h).2.2.2.1 rfl
  have n7:r7∉Qd va:=fun h=>(h3.hf _<|.inl h).2.2.2.2.1 rfl
  exact⟨_,rfl,rfl,Qx w7 [TT,NN] 204,((h3.h6.kept k1 n6).kept k2 sx).kept k3 sx,((h3.h7.kept k1 n7).kept k2 sx).kept k3 sx,
   ((h3.hk.trans k1 fun x hx=>.inr (h3.hf x<|.inl hx).1).trans k2 sx).trans k3 sx,ox,ox,k3.heap (k2.heap (k1.heap y5 hD) sx) sx⟩)
 clear y4 a6 hv h9 h3 p5 p2 b4 q5 hh
 go_upto_region 17 with(fail)
 go_cut [14,15]from 72 to 83 (fun g2 g5 w'=>MW w r6 r7 D TT NN g2 g5 w')
 ·go_region_held3 (fun w'=>w'.cell? ⟨ga,0,none⟩=some va) (first|exact c2|exact((Qc [] w4).alloc _).cZ c2 sx|exact(((Qc [] w4).alloc _).alloc _).cZ c2 sx|exact c6|exact((Qc [] W6).alloc _).cZ c6 sx|exact c7|exact((Qc [] w7).alloc _).cZ c7 sx|exact lU c7 ox|exact lU (((Qc [] w7).alloc _).cZ c7 sx) ox|go_keep)
   (first
     |(go_at_call 122;refine(Eg _ b o4 _<|r4.o _<|by first|exact(Qc [] w4).drew|exact((Qc [] w4).alloc _).drew).mono ?_;rintro e w5⟨rfl,rfl⟩)
     |(go_at_call 123;refine(DT _ b o4 _<|r4.o _<|by first|exact(Qc [] w4).drew|exact((Qc [] w4).alloc _).drew).mono ?_;rw[z8];rintro e w5⟨rfl,rfl⟩)
     |(refine Hl rfl _ _ 205 rfl 204 (.agg #["",(0:Int)]) 2 24 Wv Nd rfl dx va Y (YH<|Jm Y) [.string ⟨(Qw Z).toArray⟩,(80:Int)] _ rfl rfl
        (by first
         |exact(Qx w4 [.string ⟨(Qw Z).toArray⟩,(80:Int)] 204).sees (size:=2) (n:=1) rfl
         |exact((Qx w4 [.string ⟨(Qw Z).toArray⟩,(80:Int)] 204).alloc _).sees (size:=2) (n:=1) rfl
         |exact(Qe.newAt (w4.alloc _) [.string ⟨(Qw Z).toArray⟩,(80:Int)] 204 (w4.heap.size+1) sx).sees (size:=2) (n:=1) rfl) (by simp[Value.oneCell'])
        (by first|exact h8.o.hra.kept ((Qc [] w4).alloc _).drew (Zy _)|exact h8.o.hra.kept (((Qc [] w4).alloc _).alloc _).drew<|Zy _) M1 M2 ?_
       intro g6 h5 W6 y6 x0 i8;rw[HV.o]at y6;have p8:Qb (Qd va) w4 W6:=(by first|exact(((Qc (Qd va) w4).alloc _).drew).trans x0 (fun x hx=>.inl hx)|exact((((Qc (Qd va) w4).alloc _).alloc _).drew).trans x0 fun x hx=>.inl hx);have z46:=p8.size;have c6:W6.cell? ⟨ga,0,none⟩=some va:=p8.cZ c2 d3.o
       first
        |(have B6:=b8.o _ _ x0;have e6:=B6.cq 0 (u:=.string ⟨#[]⟩);have d6:=B6.cq 1 (u:=.int .i64 0);have p6:=B6.free 0;have q6:=B6.free 1;have x6:=B6.lt;clear x0)
        |(have B6:=b9.o _ _ x0;have e6:=B6.cq 0 (u:=.string ⟨#[]⟩);have d6:=B6.cq 1 (u:=.int .i64 0);have p6:=B6.free 0;have q6:=B6.free 1;have x6:=B6.lt;clear x0)
        |clear x0)
     |(go_at_call 121;refine(HJ.o _ _ _<|by first|exact y6|exact y6.kept ((Qc [] _).alloc _)<|Zy _).mono ?_
       rintro e w7⟨rfl,y0⟩;have p9:Qb [] W6 w7:=(by first|exact y0|exact((Qc [] W6).alloc _).trans y0 sx);have j3:=p9.size;have c7:w7.cell? ⟨ga,0,none⟩=some va:=p9.cZ c6 sx
       first
        |(have B7:=B6.kept y0 sx;clear e6 d6 p6 q6 x6;have e7:=B7.cq 0 (u:=.string ⟨#[]⟩);have d7:=B7.cq 1 (u:=.int .i64 0);have p7:=B7.free 0;have q7:=B7.free 1;have x7:=B7.lt;clear y0)
        |(have B7:=(Qx W6 ["",(0:Int)] 204).kept y0 sx;have e7:=B7.cq 0 (u:=.string ⟨#[]⟩);have d7:=B7.cq 1 (u:=.int .i64 0);have p7:=B7.free 0;have q7:=B7.free 1;have x7:=B7.lt;clear y0)
        |clear y0))
  all_goals
   go_wp2
   go_meet
   first
    |exact d1.o W6 w7 _ _ p8 p9 (Qc _ _) B7 ox
    |exact d2.o W6 w7 p8 p9
 obtain⟨p,rfl,rfl,hB,h6,h7,hk,n6,n7,hd⟩:=hcut;have hne:=h8.o.hne;have b7:r6≠r7:=yx HE.o
 have g0:r7≠r6:=fun e=>b7 e.symm
 have c0:=hB.cq 0 (u:=.string TT);have c6:=h6.cq 0 (u:=.string ⟨#[]⟩);have c7:=h7.cq 0 (u:=.int .i64 0);have f6:=h6.free 0;have f7:=h7.free 0;have r5:=(h6.set 0<|.string TT).kept ((Qc [r7] _).setCell (p:=⟨r7,0,none⟩) sx (0:Int)) (by simpa using b7);have r9:=(h7.kept ((Qc [r6] _).setCell (p:=⟨r6,0,none⟩) sx<|.string TT)<|by simpa using g0).set 0 (0:Int);have a1:=(hk.setCell (p:=⟨r6,0,none⟩) (.inr (by have:=HE.o;show w<=r6;omega))<|.string TT).setCell (p:=⟨r7,0,none⟩) (.inr (by have:=HE.o;show w<=r7;omega)) (0:Int);have⟨c9,d0,d4,c8⟩:=qd r5 r9 a1 hd;clear r5 r9 a1 hB h6 h7 hk hd hne;go_wp2_with fail;have e8:((wc.setCell ⟨r6,0,none⟩<|.string TT).setCell ⟨r7,0,none⟩ (0:Int)).heap[D]?=some (.deferred<|some []):=by have zD:=HZ.o;have zE:=HE.o;exact((((Qc [r6,r7] wc).setCell (p:=⟨r6,0,none⟩) sx _).setCell (p:=⟨r7,0,none⟩) sx _).heap c8.o zx)
 refine⟨sx,.inl ⟨_,_,rfl,run_takeDeferred e8,?_⟩⟩;have zD:=HZ.o;have zE:=HE.o;have q8:Qb [D] ((wc.setCell ⟨r6,0,none⟩<|.string TT).setCell ⟨r7,0,none⟩ (0:Int)) (((wc.setCell ⟨r6,0,none⟩<|.string TT).setCell ⟨r7,0,none⟩ (0:Int)).putObj D<|.deferred none):=(Qc _ _).put sx _;have q6:=(c9.o.kept q8 zx).cq 0 (u:=.string TT);have q7:=(d0.o.kept q8 zx).cq 0 (u:=.int .i64 0);have y4:=d5.o;have f1:(Y++[Z]).flatten=XN s.data.toList:=by
  rw[HY.o,<-d8.o];unfold XN;rw[<-HX.o,HQ.o,ZH]
  split<;>simp
 rw[f1]at y4;exact⟨.tuple #[TT,(0:Int)],by simp[results,results80,go_sem,q6,q7],by rw[y4],d4.o.trans q8 (by intro x hx;simp at hx;right;omega)⟩
end
def PD(l)(h:l.length<=8192):32<=(XN l).length/\(XN l).length<=700200:=by
 have h0:0<l.length->(XR l).length<=700000:=fun c=>aF l c h
 unfold XN;simp only[Qo,YP,Yl]
 by_cases hz:l.length=0
 ·rw[Qg hz,YE];simp[Zl]
 rw[Qf hz];have:=h0 ox;simp[Zl];omega
section
structure Vst where
 dev:QG
 gen:Nat
 next:Nat
 mem:List RM
namespace K
abbrev QC:=LU × LU
def ZW(m:RM):QP:=(m.start,m.eZ)
noncomputable def Yh(f:QC):LU:=Ug f.1 f.2.length++Yy (Qw (XN f.2))
noncomputable def ZG(f:QC):Nat:=(Yh f).length/512
noncomputable def Ja(f:QC):LY:=RZ (ZG f) (Yh f)
end K
namespace Vst
open K
def exts(s:Vst):List QP:=s.mem.map ZW
noncomputable def save(s:Vst):Vst:={s with dev:=(s.dev.wr ((s.gen+1)%2*5) (Yp (s.gen+1) s.mem)).tick 1,gen:=s.gen+1,next:=0}
noncomputable def room(s:Vst)(n:Nat):Vst:=if n+s.next<=20 then s else s.save
noncomputable def commit(s:Vst)(ns:List Note):Vst:={s with dev:=(s.dev.wr (10+s.next) (JV s.gen s.next ns)).tick 1,next:=s.next+ns.length+1,mem:=Q8 s.mem ns}
noncomputable def write(s:Vst)(l:List (QC × QP)):Vst:={s with dev:=(l.foldl (fun d c=>d.wr c.2.1.toNat (Ja c.1)) s.dev).tick 1}
noncomputable def alloc(cap:Int):List QP->List QC->Option (List (QC × QP))
 |_,[]=>some []
 |u,f::r=>(YR cap u (ZG f)).bind fun a=>(alloc cap (u++[(a,(ZG f:Int))]) r).map ((f,(a,(ZG f:Int))):: ·)
noncomputable def noteF(x:QC × QP):Note:=(true,⟨x.1.1,x.2.1,x.2.2,x.1.2.length,YJ x.1.2⟩)
def bad:List QC->Int
 | []=>0
 |f::r=>if Xr f.1=false then 140 else if 8192<f.2.length then 3 else bad r
noncomputable def put(s:Vst)(l:List QC):Int × Vst:=
 if bad l≠0 then(bad l,s)
 else if ¬(l.map (·.1)).Nodup then(2,s)
 else if 16<(Q8 s.mem (l.map fun f=>noteF (f,(0,0)))).length then(241,s)
 else match alloc s.dev.cap s.exts l with
  |none=>(220,s)
  |some xs=>if l=[]then(0,s)else(0,((s.room (l.length+1)).write xs).commit (xs.map noteF))
def find(s:Vst)(p:LU):Int × RM:=
 if Xr p=false then(140,⟨[],0,0,0,0⟩)else match s.mem.find? (fun c=>c.path==p)with
  |none=>(240,⟨[],0,0,0,0⟩)
  |some c=>(0,c)
noncomputable def del(s:Vst)(p:LU):Int × Vst:=
 if(s.find p).1≠0 then((s.find p).1,s)else(0,(s.room 2).commit [(false,⟨p,0,0,0,0⟩)])
def sct(s:Vst)(m:RM):LY:=(s.dev.img.drop m.start.toNat).take m.eZ.toNat
noncomputable def move(s:Vst)(p:LU)(tg:Int):Int × Vst:=
 if(s.find p).1≠0 then((s.find p).1,s)
 else if ZZ s.dev.cap (s.exts++[(tg,(s.find p).2.eZ)])=false then(2,s)
 else(0,Vst.commit {s.room 2 with dev:=((s.room 2).dev.wr tg.toNat (s.sct (s.find p).2)).tick ((s.find p).2.eZ.toNat+1)} [(true,{(s.find p).2 with start:=tg})])
def endX(l:List QP):Int:=l.foldl (fun d c=>max d (c.1+c.2)) 30
def trim(s:Vst):Int × Vst:=if(s.dev.img.length:Int)<=endX s.exts then(0,s)else(0,{s with dev:=(s.dev.cut (endX s.exts).toNat).tick 1})
noncomputable def pull:List RM->Int->Vst->Int × Vst
 | [],_,s=>s.trim
 |m::r,t,s=>
  let a:=if m.start-t<m.eZ/\m.start≠t then(match YR s.dev.cap s.exts m.eZ with|none=>(220,s)|some g=>s.move m.path g)else(0,s)
  if a.1≠0 then a else
  let b:=if m.start≠t then a.2.move m.path t else(0,a.2)
  if b.1≠0 then b else pull r (t+m.eZ) b.2
def bZ(l:List RM):List RM:=l.mergeSort fun a b=>decide (a.start<=b.start)
noncomputable def compact(s:Vst):Int × Vst:=pull (bZ s.mem) 30 s
end Vst
end
section
def Lt{α}{R:α->α->Prop}(e:∀{a b},R a b->R b a):∀{l:List α},l.Pairwise R->∀{a b},a∈l->b∈l->a≠b->R a b
 | [],_,a,_,h,_,_=>by simp at h
 |x::l,hp,a,b,ha,hb,hn=>by
  have hp:=Vo.1 hp;rcases QD.1 ha with c|c<;>rcases QD.1 hb with d|d
  ·exact absurd (c.trans d.symm) hn
  ·subst c;exact hp.1 b d
  ·subst d;exact e<|hp.1 a c
  exact Lt e hp.2 c d hn
namespace K
def Vz{f:QC}(hp:f.1.length<=120)(e:f.2.length<=8192):(Yh f).length=512*ZG f/\2<=ZG f/\ZG f<=200:=by
 have d:=Ol f.1 f.2.length hp;have c:=Bq<|Qw<|XN f.2;have:=PD f.2 e;rw[UD]at c;have e:(Yh f).length=(Ug f.1 f.2.length).length+((XN f.2).length+7)/8/1*0+(Yy<|Qw<|XN f.2).length:=by unfold Yh;rw[Qo];omega
 unfold ZG;rw[e,c];rcases d with c|c<;>rw[c]<;>omega
def AU(f:QC):(Ja f).length=ZG f:=bE _ _
def Hh{f:QC}(hp:f.1.length<=120)(c:f.2.length<=8192):∀x∈Ja f,x.length=512:=bF _ _ (Vz hp c).1
def Lz(kind gen i d)(h:d.length<=489):(Yn kind gen i d).length=512:=by simp only[Yn,Qo,U7,VY,QW,YE];omega
def Qd4(m):(Xi m).length=m.path.length+11:=by simp only[Xi,Qo,U7];omega
def Fv(gen):∀(ns:List Note)(i:Nat),(Jz gen i ns).length=ns.length
 | [],_=>rfl
 |n::r,i=>by rw[Jz,QW,Fv gen r,QW]
def RI(gen i ns):(JV gen i ns).length=ns.length+1:=by rw[JV,Qo,Fv];rfl
def Pg{n}(h:n.2.path.length<=120):(VC n).length<=131:=by
 unfold VC
 split
 ·rw[Qd4];omega
 omega
def kR(gen):∀(ns:List Note)(i:Nat),(∀n∈ns,n.2.path.length<=120)->∀x∈Jz gen i ns,x.length=512
 | [],_,_=>by simp[Jz]
 |n::r,i,h=>by
  intro x c;rw[Jz]at c;rcases QD.1 c with rfl|c
  ·exact Lz _ _ _ _ (yx (Pg (h n sx)))
  exact kR gen r (i+1) (fun e d=>h e<|by simp[d]) x c
def kP(gen i){ns}(h:∀n∈ns,n.2.path.length<=120):∀x∈JV gen i ns,x.length=512:=by
 intro x c;rcases Q4.1 c with c|c
 ·exact kR gen ns i h x c
 rw[Zb.1 c];exact Lz _ _ _ _ sx
def mA(gen):∀(n i:Nat)(l:LU),(UU gen n i l).length=n
 |0,_,_=>rfl
 |n+1,i,l=>by rw[UU,QW,mA gen n]
def mB(gen):∀(n i:Nat)(l:LU),∀x∈UU gen n i l,x.length=512
 |0,_,_=>by simp[UU]
 |n+1,i,l=>by
  intro x c;rw[UU]at c;rcases QD.1 c with rfl|c
  ·exact Lz _ _ _ _ (by rw[Zd];omega)
  exact mB gen n _ _ x c
def Un(gen l):(Yp gen l).length=5:=mA _ _ _ _
def Sg(gen l):∀x∈Yp gen l,x.length=512:=mB _ _ _ _
end K
open K
structure BV(img:LY)(m:RM)(c:LU):Prop where
 ok:Xr m.path=true
 big:c.length<=8192
 size:m.size=c.length
 sum:m.sum=YJ c
 eZ:m.eZ=ZG (m.path,c)
 holds:Xu img m.start.toNat (Ja (m.path,c))
def BV.img{img d m c}(h:BV img m c)(e:Xu img m.start.toNat (Ja (m.path,c))->Xu d m.start.toNat (Ja (m.path,c))):BV d m c:=
 ⟨h.ok,h.big,h.size,h.sum,h.eZ,e h.holds⟩
structure Vok(s:Vst)(c:LU->LU):Prop where
 dev:s.dev.Ok
 pZ:31<=s.dev.cap
 gen:s.gen<=s.dev.lZ
 next:s.next<=20
 rise:Uv s.mem
 few:s.mem.length<=16
 mems:∀m∈s.mem,BV s.dev.img m (c m.path)
 ext:ZZ s.dev.cap s.exts=true
namespace Vok
variable {s:Vst} {c:LU->LU}
def inX(h:Vok s c){m}(d:m∈s.mem):30<=m.start/\1<=m.eZ/\m.start+m.eZ<=s.dev.cap:=
 ((YL _ _).1 h.ext).1 (ZW m) (JA d)
def apart(h:Vok s c){a b}(ha:a∈s.mem)(hb:b∈s.mem)(e:a.path≠b.path):UJ (ZW a) (ZW b):=by have d:=(Rw.1 (((YL _ _).1 h.ext).2:(s.mem.map ZW).Pairwise UJ));exact Lt (R:=fun a b=>UJ (ZW a)<|ZW b) (fun h=>h.symm) d ha hb fun d=>e<|d▸rfl
def plen(h:Vok s c){m}(d:m∈s.mem):m.path.length<=120:=(XU (h.mems m d).ok).2.2
end Vok
def Ob{cap l}(g:Uv l)(c:∀m∈l,inX cap<|ZW m)(d:∀a∈l,∀b∈l,a.path≠b.path->UJ (ZW a) (ZW b)):ZZ cap (l.map ZW)=true:=by
 refine(YL _ _).2 ⟨fun e i=>?_,Rw.2 ?_⟩
 ·obtain⟨m,e,rfl⟩:=QA.1 i;exact c m e
 exact g.imp_of_mem fun {a b} ha hb h=>d a ha b hb<|Da h
def QG.Ok.wrL{s:QG}(h:s.Ok){i L}(hi:i+L.length<=s.cap)(d:∀x∈L,x.length=512)(n)(c:s.lZ+L.length+n<=1000000000):((s.wr i L).tick n).Ok:=
 ⟨h.c1,h.c2,by have:=h.len;show(K.wrL s.img i L).length<=s.cap;rw[Em];split<;>omega,pA h.sec d,c⟩
def Vok.save{s c}(h:Vok s c)(d:s.dev.lZ+6<=1000000000):Vok s.save c:=by
 have:=Un (s.gen+1) s.mem;have:=h.pZ;have:=h.gen;refine⟨h.dev.wrL ox (Sg _ _) 1 ox,h.pZ,?_,Zv _,h.rise,h.few,fun e d=>(h.mems e d).img fun e=>e.wr _<|.inr ?_,h.ext⟩
 ·show s.gen+1<=s.dev.lZ+(Yp (s.gen+1) s.mem).length+1;omega
 have:=(h.inX d).1;omega
def Vok.room{s c}(h:Vok s c)(n)(d:s.dev.lZ+6<=1000000000):Vok (s.room n) c:=by
 unfold Vst.room
 split
 ·exact h
 exact h.save d
def Vst.room_next{s:Vst}{n}(c:n<=20):n+(s.room n).next<=20:=by
 unfold Vst.room
 split
 ·assumption
 exact c
def Vst.room_calls(s:Vst)(n):s.dev.lZ<=(s.room n).dev.lZ/\(s.room n).dev.lZ<=s.dev.lZ+6:=by
 unfold Vst.room
 split
 ·omega
 show s.dev.lZ<=s.dev.lZ+(Yp (s.gen+1) s.mem).length+1/\s.dev.lZ+(Yp (s.gen+1) s.mem).length+1<=_;rw[Un];omega
def Vst.room_same(s:Vst)(n):(s.room n).mem=s.mem/\(s.room n).dev.cap=s.dev.cap/\s.dev.img.length<=(s.room n).dev.img.length/\∀k,10<=k->k<s.dev.img.length->(s.room n).dev.img[k]?=s.dev.img[k]?:=by
 unfold Vst.room
 split
 ·exact⟨rfl,rfl,Qk _,fun _ _ _=>rfl⟩
 refine⟨rfl,rfl,?_,fun k hk c=>?_⟩
 ·show _<=(wrL s.dev.img ((s.gen+1)%2*5)<|Yp (s.gen+1) s.mem).length;rw[Em];split<;>omega
 exact RQ _ _ _ _ (.inr (by rw[Un];omega)) c
def Vok.commit{s c c'}(h:Vok s c){ns:List Note}(e:s.next+ns.length+1<=20)(hp:∀n∈ns,n.2.path.length<=120)(hf:(Q8 s.mem ns).length<=16)(d:∀m∈Q8 s.mem ns,BV s.dev.img m<|c' m.path)(g:ZZ s.dev.cap ((Q8 s.mem ns).map ZW)=true)(i:s.dev.lZ+ns.length+2<=1000000000):Vok (s.commit ns) c':=by
 have:=RI s.gen s.next ns;have:=h.pZ;have:=h.gen;have i:∀m∈Q8 s.mem ns,30<=m.start:=fun m d=>(((YL _ _).1 g).1 (ZW m) (JA d)).1
 refine⟨h.dev.wrL ox (kP _ _ hp) 1 ox,h.pZ,?_,e,PP h.rise,hf,fun m e=>(d m e).img fun d=>d.wr _<|.inr ?_,g⟩
 ·show s.gen<=s.dev.lZ+(JV s.gen s.next ns).length+1;omega
 have:=i m e;omega
end
def FJ{α}[DecidableEq α](f:α->Nat):∀{l l':List α},l.Nodup->(∀x∈l,x∈l')->(l.map f).sum<=(l'.map f).sum
 | [],l',_,_=>by simp
 |x::l,l',o,hs=>by
  have o:=RU.1 o;have h1:=FJ f (l:=l) (l':=l'.erase x) o.2 (fun y q=>by have h3:=hs y<|XO _ q;exact(List.mem_erase_of_ne (by intro e;subst e;exact o.1 q)).2 h3);have h2:(l'.map f).sum=f x+((l'.erase x).map f).sum:=by have:=(Ip<|hs x<|Yv ..).map f;have:=this.sum_nat;simpa using this
  rw[QV,Xm];omega
namespace K
def OC(p:LU):LY->LY
 | []=>[p]
 |x::r=>if Xp p x<0 then p::x::r else if Xp p x=0 then p::r else x::OC p r
def OD(m):∀l,(UO m l).map (·.path)=OC m.path (l.map (·.path))
 | []=>rfl
 |x::r=>by
  rw[UO,XT,QV,OC]
  split
  ·rfl
  split
  ·rfl
  rw[QV];exact Qt _<|OD m r
def cD(p l):(CS p l).map (·.path)=(l.map (·.path)).filter fun x=>!(x==p):=by unfold CS Vb;rw[List.filter_map];rfl
def WV:∀{ns ns':List Note}{l l':List RM},l.map (·.path)=l'.map (·.path)->ns.map (fun n=>(n.1,n.2.path))=ns'.map (fun n=>(n.1,n.2.path))->(Q8 l ns).map (·.path)=(Q8 l' ns').map (·.path)
 | [],ns',l,l',h,hn=>by rw[Y6]at hn;rwa[Tk.1 hn.symm]
 |n::ns,[],l,l',h,hn=>by simp at hn
 |n::ns,n'::ns',l,l',h,hn=>by
  simp only[QV,List.cons.injEq,Prod.mk.injEq]at hn;unfold Q8;rw[CB,CB];refine WV ?_ hn.2;unfold BI;rw[hn.1.1]
  split
  ·rw[OD,OD,hn.1.2,h]
  rw[cD,cD,hn.1.2,h]
end K
namespace Vst
def mem_puts:∀{xs:List (QC × QP)}{l:List RM},Uv l->(xs.map (·.1.1)).Nodup->∀{m:RM},m∈Q8 l (xs.map noteF)↔(∃x∈xs,m=(noteF x).2)\/(m∈l/\∀x∈xs,m.path≠x.1.1)
 | [],l,_,_,m=>by simp[Q8]
 |y::xs,l,hr,q,m=>by
  rw[QV]at q;have q:=RU.1 q;have ih:=mem_puts (xs:=xs) (l:=UO (noteF y).2 l) (Dl hr) q.2 (m:=m);have e:Q8 l ((y::xs).map noteF)=Q8 (UO (noteF y).2 l) (xs.map noteF):=rfl;rw[e,ih,Dc hr];have hp:(noteF y).2.path=y.1.1:=rfl;rw[hp];constructor
  ·rintro(⟨x,o,h⟩|⟨h|⟨h,h1⟩,h2⟩)
   ·exact .inl ⟨x,XO _ o,h⟩
   ·exact .inl ⟨y,Yv ..,h⟩
   refine .inr ⟨h,fun x o=>?_⟩;rcases QD.1 o with rfl|o
   ·exact h1
   exact h2 x o
  rintro(⟨x,o,h⟩|⟨h,h2⟩)
  ·rcases QD.1 o with rfl|o
   ·refine .inr ⟨.inl h,fun z hz e=>q.1 ?_⟩;rw[h]at e;exact QA.2 ⟨z,hz,e.symm⟩
   exact .inl ⟨x,o,h⟩
  exact .inr ⟨.inr ⟨h,h2 y<|Yv ..⟩,fun x o=>h2 x<|XO _ o⟩
def okX_add{cap u g n}(hk:ZZ cap u=true)(e:30<=g)(h:1<=n)(i:g+n<=cap)(hf:UA u g n):ZZ cap (u++[(g,n)])=true:=by
 obtain⟨a,b⟩:=(YL _ _).1 hk;refine(YL _ _).2 ⟨fun d c=>?_,ED.2 ⟨b,Tn _ _,fun d c j j=>?_⟩⟩
 ·rcases Q4.1 c with c|c
  ·exact a d c
  rw[Zb.1 c];exact⟨e,h,i⟩
 rw[Zb.1 j];have:=hf d c;unfold UJ;simp only[];omega
def alloc_spec{cap}(d:30<=cap):∀{l:List QC}{u:List QP}{xs:List (QC × QP)},ZZ cap u=true->(∀f∈l,1<=ZG f)->alloc cap u l=some xs->
 xs.map (·.1)=l/\ZZ cap (u++xs.map (·.2))=true/\∀x∈xs,x.2.2=ZG x.1
 | [],u,xs,hk,_,c=>by injection c with c;subst c;exact⟨rfl,by simpa using hk,sx⟩
 |f::l,u,xs,hk,hs,c=>by
  rw[alloc]at c;obtain⟨e,e,c⟩:=Option.bind_eq_some_iff.1 c;obtain⟨g,i,rfl⟩:=TC.1 c;have:=hs f<|Yv ..;obtain⟨-,a,b,c,-⟩:=GD ox d e;obtain⟨e,g,h⟩:=alloc_spec d (okX_add hk a ox b c) (fun x c=>hs x<|XO _ c) i;refine⟨by rw[QV,e],by simpa using g,fun x c=>?_⟩;rcases QD.1 c with rfl|c
  ·rfl
  exact h x c
end Vst
noncomputable def wrAll(d:QG)(xs:List (QC × QP)):QG:=xs.foldl (fun d c=>d.wr c.2.1.toNat (Ja c.1)) d
def SJ{cap}:∀{xs:List (QC × QP)}{d:QG},d.Ok->d.cap=cap->ZZ cap (xs.map (·.2))=true->(∀x∈xs,x.2.2=ZG x.1/\x.1.1.length<=120/\x.1.2.length<=8192)->
 d.lZ+200*xs.length<=1000000000->
 (wrAll d xs).Ok/\(wrAll d xs).cap=cap/\(wrAll d xs).lZ=d.lZ+(xs.map fun x=>ZG x.1).sum/\
 (∀(b:QP)(M:LY),0<=b.1->(∀x∈xs,UJ b x.2)->(M.length:Int)<=b.2->Xu d.img b.1.toNat M->Xu (wrAll d xs).img b.1.toNat M)/\
 (∀x∈xs,Xu (wrAll d xs).img x.2.1.toNat<|Ja x.1)
 | [],d,hd,hc,_,_,_=>⟨hd,hc,by simp[wrAll],fun _ _ _ _ _ h=>h,sx⟩
 |y::xs,d,hd,hc,hk,hs,hl=>by
  obtain⟨ha,hp⟩:=(YL _ _).1 hk;rw[QV]at hp ha;obtain⟨h3,h4⟩:=Vo.1 hp;obtain⟨y1,y2,y3⟩:=ha y.2<|Yv ..;obtain⟨s1,s2,s3⟩:=hs y<|Yv ..;have hm:=Vz s2 s3;have q:=AU y.1;simp only[QW]at hl;have h2:(d.wr y.2.1.toNat<|Ja y.1).Ok:=hd.wrL (i:=y.2.1.toNat) (L:=Ja y.1) ox (Hh s2 s3) 0 ox;have h1:(d.wr y.2.1.toNat<|Ja y.1).lZ=d.lZ+ZG y.1:=by show d.lZ+(Ja y.1).length=_;rw[q]
  obtain⟨i1,i2,i3,i4,i5⟩:=SJ (xs:=xs) (d:=d.wr y.2.1.toNat<|Ja y.1) h2 hc ((YL _ _).2 ⟨fun x o=>ha x<|XO _ o,h4⟩) (fun x o=>hs x<|XO _ o) ox;have e:wrAll d (y::xs)=wrAll (d.wr y.2.1.toNat<|Ja y.1) xs:=rfl;rw[e];refine⟨i1,i2,?_,fun b M hb o hM h=>?_,fun x o=>?_⟩
  ·rw[i3,h1,QV,Xm];omega
  ·refine i4 b M hb (fun x h5=>o x<|XO _ h5) hM ?_;have:=o y<|Yv ..;unfold UJ at this;exact h.wr _ (by rw[q];omega)
  rcases QD.1 o with rfl|o
  ·exact i4 x.2 (Ja x.1) ox (fun z hz=>h3 z.2<|JA hz) (by rw[q,s1];exact AZ _)<|FI _ _ _
  exact i5 x o
def Vst.bad_zero:∀{l:List QC},Vst.bad l=0->∀f∈l,Xr f.1=true/\f.2.length<=8192
 | [],_=>by simp
 |f::l,h=>by
  rw[Vst.bad]at h
  split at h
  ·cases h
  split at h
  ·cases h
  rename_i q y;intro g o;rcases QD.1 o with rfl|o
  ·exact⟨by simpa using q,ox⟩
  exact Vst.bad_zero h g o
def RP(c:LU->LU)(l:List QC)(p:LU):LU:=match l.find? (fun f=>f.1==p)with
 |some f=>f.2
 |none=>c p
def Hw{c}:∀{l:List QC},(l.map (·.1)).Nodup->∀{f:QC},f∈l->RP c l f.1=f.2
 | [],_,f,h=>by simp at h
 |g::l,o,f,h=>by
  rw[QV]at o;have o:=RU.1 o;unfold RP
  by_cases e:g.1=f.1
  ·rw[Ik<|by simpa using e];rcases QD.1 h with h|h
   ·rw[h]
   exact absurd (e▸JA h) o.1
  rw[My<|by simpa using e];rcases QD.1 h with h|h
  ·exact absurd (by rw[h]) e
  exact Hw o.2 h
def SA{c l p}(h:∀f∈l,f.1≠p):RP c l p=c p:=by unfold RP;rw[Eu.2 fun f hf=>by simpa using h f hf]
def ZV(l:List RM):Nat:=(l.map fun c=>c.eZ.toNat).sum
def U5(s s':Vst):Prop:=∀d∈s.mem,∀c,d.start.toNat<=c->c<d.start.toNat+d.eZ.toNat->s'.dev.img[c]?=s.dev.img[c]?
structure Ub(s s':Vst)(c':LU->LU)(k:Nat):Prop where
 ok:Vok s' c'
 cap:s'.dev.cap=s.dev.cap
 c0:s.dev.lZ<=s'.dev.lZ
 c1:s'.dev.lZ<=s.dev.lZ+k
def Ub.refl{s c}(h:Vok s c)(k):Ub s s c k:=⟨h,rfl,Qk _,MO _ _⟩
def U5.refl(s):U5 s s:=fun _ _ _ _ _=>rfl
def Vok.lenM{s c}(h:Vok s c){m}(d:m∈s.mem):m.start.toNat+m.eZ.toNat<=s.dev.img.length:=by
 obtain⟨a,b,e⟩:=h.inX d;have g:=(h.mems m d).holds.lt (by
  intro e;have:=AU (m.path,c m.path);rw[e]at this;have:=(h.mems m d).eZ;simp at*
  omega)
 rw[AU]at g;have:=(h.mems m d).eZ;omega
def kF{s:Vst}{l}(h:(s.put l).1≠0):(s.put l).2=s:=by
 unfold Vst.put at h ⊢
 by_cases c:Vst.bad l≠0
 ·rw[Qg c]
 rw[Qf c]at h ⊢
 by_cases c:¬(l.map (·.1)).Nodup
 ·rw[Qg c]
 rw[Qf c]at h ⊢
 by_cases c:16<(Q8 s.mem<|l.map fun f=>Vst.noteF (f,(0,0))).length
 ·rw[Qg c]
 rw[Qf c]at h ⊢;cases h4:Vst.alloc s.dev.cap s.exts l with
 |none=>rfl
 |some xs=>
  simp only[h4]at h ⊢
  by_cases c:l=[]
  ·rw[Qg c]
  rw[Qf c]at h;exact absurd rfl h
def Pe{α c}{f:α->c}{l:List α}(h:(l.map f).Nodup):l.Nodup:=by unfold List.Nodup at h ⊢;exact(Rw.1 h).imp fun h c=>h<|Qt f c
def Ef{α}:∀l:List α,(l.map fun _=>1).sum=l.length
 | []=>rfl
 |x::l=>by rw[QV,Xm,Ef l,QW];omega
def ZX(s:Vst)(c:LU->LU):List QC:=s.mem.map fun d=>(d.path,c d.path)
def iA:∀{F:List QC}{L:List QC},UG (·.1) L->(F.map (·.1)).Nodup->∀{x:QC},x∈F.foldl (fun L f=>XT (·.1) f L) L↔x∈F\/(x∈L/\∀f∈F,x.1≠f.1)
 | [],L,_,_,x=>by simp
 |f::F,L,hr,q,x=>by
  rw[QV]at q;have q:=RU.1 q;rw[CB,iA (Dl hr) q.2,Dc hr];constructor
  ·rintro(h|⟨h|⟨h,h1⟩,y⟩)
   ·exact .inl<|XO _ h
   ·exact .inl<|h▸Yv ..
   exact .inr ⟨h,fun g o=>by
    rcases QD.1 o with rfl|o
    ·exact h1
    exact y g o⟩
  rintro(h|⟨h,y⟩)
  ·rcases QD.1 h with h|h
   ·exact .inr ⟨.inl h,fun g o e=>q.1 (by rw[<-h,e];exact JA o)⟩
   exact .inl h
  exact .inr ⟨.inr ⟨h,y f<|Yv ..⟩,fun g o=>y g<|XO _ o⟩
def kX:∀(F:List QC){L:List QC},UG (·.1) L->UG (·.1) (F.foldl (fun L f=>XT (·.1) f L) L)
 | [],_,h=>h
 |f::F,L,h=>kX F<|Dl h
def LF{l}(h:Uv l)(c:LU->LU):UG (·.1) (l.map fun m=>((m.path,c m.path):QC)):=Rw.2 h
def Vok.put{s c}(h:Vok s c)(l)(e:s.dev.lZ+10000<=1000000000)(h0:(s.put l).1=0):
 Ub s (s.put l).2 (RP c l) (ZV (s.put l).2.mem+l.length+9)/\U5 s (s.put l).2/\ZX (s.put l).2 (RP c l)=l.foldl (fun L f=>XT (·.1) f L) (ZX s c):=by
 unfold Vst.put at h0 ⊢
 by_cases hb:Vst.bad l≠0
 ·rw[Qg hb]at h0;exact absurd h0 hb
 rw[Qf hb]at h0 ⊢
 by_cases t:¬(l.map (·.1)).Nodup
 ·rw[Qg t]at h0;cases h0
 rw[Qf t]at h0 ⊢
 by_cases j:16<(Q8 s.mem<|l.map fun f=>Vst.noteF (f,(0,0))).length
 ·rw[Qg j]at h0;cases h0
 rw[Qf j]at h0 ⊢;have t:(l.map (·.1)).Nodup:=Decidable.not_not.1 t;have z:=Vst.bad_zero<|Decidable.not_not.1 hb;have o:∀f∈l,2<=ZG f/\ZG f<=200:=fun f hf=>by have q:=z f hf;exact(Vz (XU q.1).2.2 q.2).2
 cases ha:Vst.alloc s.dev.cap s.exts l with
 |none=>rw[ha]at h0;cases h0
 |some xs=>
  simp only[ha]at h0 ⊢
  by_cases e:l=[]
  ·subst e;exact⟨Ub.refl h _,U5.refl s,rfl⟩
  simp only[Qf e]at h0 ⊢;obtain⟨x,p,v⟩:=Vst.alloc_spec (yx h.pZ) h.ext (fun f hf=>by have:=o f hf;omega) ha;have w:∀e∈xs,e.1∈l:=fun e i=>x▸JA i
  have m:(xs.map (·.1.1)).Nodup:=by rwa[<-x,Xv]at t
  have u:=fun g:RM=>Vst.mem_puts (xs:=xs) (l:=s.mem) h.rise m (m:=g)
  have P:xs.length=l.length:=by rw[<-x,QH]
  have O:(Q8 s.mem<|xs.map Vst.noteF).length<=16:=by
   have:=WV (l:=s.mem) (l':=s.mem) (ns:=xs.map Vst.noteF) (ns':=l.map fun f=>Vst.noteF (f,(0,0))) rfl (by rw[<-x,Xv,Xv,Xv];rfl);have:=Qt List.length this;rw[QH,QH]at this;omega
  have:l.length<=16:=by
   have q:=FJ (fun _:RM=>1) (l:=xs.map fun e=>(Vst.noteF e).2) (l':=Q8 s.mem<|xs.map Vst.noteF) (by
    have:(xs.map fun e=>(Vst.noteF e).2).map (·.path)=xs.map (·.1.1):=(by rw[Xv];rfl);rw[<-this]at m;exact Pe m) (fun g j=>by obtain⟨e,i,rfl⟩:=QA.1 j;exact(u _).2 (.inl ⟨e,i,rfl⟩))
   rw[Ef,Ef,QH]at q;omega
  have:(xs.map fun e=>ZG e.1).sum<=ZV (Q8 s.mem<|xs.map Vst.noteF):=by
   have q:=FJ (fun g:RM=>g.eZ.toNat) (l:=xs.map fun e=>(Vst.noteF e).2) (l':=Q8 s.mem<|xs.map Vst.noteF) (by
    have:(xs.map fun e=>(Vst.noteF e).2).map (·.path)=xs.map (·.1.1):=(by rw[Xv];rfl);rw[<-this]at m;exact Pe m) (fun g j=>by obtain⟨e,i,rfl⟩:=QA.1 j;exact(u _).2 (.inl ⟨e,i,rfl⟩))
   rw[Xv]at q;refine QS (Nat.le_of_eq ?_) q
   congr 1
   refine YT fun e i=>?_
   show ZG e.1=e.2.2.toNat;rw[v e i];rfl
  have:(xs.map fun e=>ZG e.1).sum<=200*xs.length:=by
   have:∀m:List (QC × QP),(∀e∈m,ZG e.1<=200)->(m.map fun e=>ZG e.1).sum<=200*m.length:=by
    intro m
    induction m with
    |nil=>simp
    |cons n m ih=>intro h;have q:=h n<|Yv ..;have m:=ih fun e i=>h e<|XO _ i;rw[QV,Xm,QW];omega
   exact this xs fun e i=>(o _<|w e i).2
  have m:=h.room (l.length+1) ox;obtain⟨y,D,A,J⟩:=Vst.room_same s<|l.length+1;have B:=Vst.room_calls s<|l.length+1;have C:=Vst.room_next (s:=s) (n:=l.length+1) ox;have⟨s1,o⟩:=qx<|s.room<|l.length+1;rw[o]at m y D A J B C ⊢;obtain⟨G,o⟩:=(YL _ _).1 p;have C:=ED.1 o;have p:ZZ s1.dev.cap (xs.map (·.2))=true:=(YL _ _).2 ⟨fun e i=>D▸G e (MC _ i),C.2.1⟩;obtain⟨o,E,S,F,I⟩:=SJ (d:=s1.dev) (cap:=s1.dev.cap) m.dev rfl p (fun e i=>⟨v e i,(XU (z _<|w e i).1).2.2,(z _<|w e i).2⟩) ox;have A:∀g∈s.mem,∀e∈xs,UJ (ZW g) e.2:=fun g j e i=>C.2.2 _ (JA j) _<|JA i
  have H:Vok (s1.write xs) c:=by
   refine⟨⟨o.c1,o.c2,o.len,o.sec,?_⟩,?_,?_,m.next,m.rise,m.few,fun g j=>(m.mems g j).img fun p=>?_,?_⟩
   ·show(wrAll s1.dev xs).lZ+1<=_;omega
   ·show 31<=(wrAll s1.dev xs).cap;rw[E];exact m.pZ
   ·have:=m.gen;show s1.gen<=(wrAll s1.dev xs).lZ+1;omega
   ·have o:g∈s.mem:=y▸j;have hi:=h.inX o;refine F (ZW g) _ (by show 0<=g.start;omega) (fun e i=>A g o e i) ?_ p;rw[AU,<-(m.mems g j).eZ];exact AZ _
   show ZZ (wrAll s1.dev xs).cap s1.exts=true;rw[E];exact m.ext
  have Q:∀g∈Q8 (s1.write xs).mem (xs.map Vst.noteF),BV (s1.write xs).dev.img g (RP c l g.path):=by
   intro g j;have m:g∈Q8 s.mem (xs.map Vst.noteF):=y▸j;rcases(u g).1 m with⟨e,i,rfl⟩|⟨B,p⟩
   ·have m:=w e i;have o:RP c l e.1.1=e.1.2:=Hw t m;show BV _ _ (RP c l e.1.1);rw[o];exact⟨(z _ m).1,(z _ m).2,rfl,rfl,v e i,I e i⟩
   have o:RP c l g.path=c g.path:=SA (fun f hf o=>by rw[<-x]at hf;obtain⟨e,i,rfl⟩:=QA.1 hf;exact p e i o.symm);rw[o];exact H.mems g (by show g∈s1.mem;rw[y];exact B)
  have I:Uv (Q8 s.mem<|xs.map Vst.noteF):=PP h.rise;have M:ZZ (s1.write xs).dev.cap ((Q8 (s1.write xs).mem<|xs.map Vst.noteF).map ZW)=true:=by
   show ZZ (wrAll s1.dev xs).cap ((Q8 s1.mem<|xs.map Vst.noteF).map ZW)=true;rw[E,y,D];refine Ob I (fun g j=>?_) fun a ha b hb p=>?_
   ·rcases(u g).1 j with⟨e,i,rfl⟩|⟨B,-⟩
    ·exact G e.2<|MC _<|JA i
    exact h.inX B
   rcases(u a).1 ha with⟨e,i,rfl⟩|⟨m,-⟩<;>rcases(u b).1 hb with⟨n,v,rfl⟩|⟨G,-⟩
   ·exact Lt (R:=fun a b:QC × QP=>UJ a.2 b.2) (fun h=>h.symm) (Rw.1 C.2.1) i v (fun o=>p<|by rw[o])
   ·exact(A b G e i).symm
   ·exact A a m n v
   exact h.apart m G p
  have C:(xs.map Vst.noteF).length=l.length:=by rw[QH,P]
  have m:(s1.write xs).dev.lZ=s1.dev.lZ+(xs.map fun e=>ZG e.1).sum+1:=by show(wrAll s1.dev xs).lZ+1=_;rw[S]
  have P:=H.commit (ns:=xs.map Vst.noteF) (c':=RP c l) (by rw[C];show s1.next+l.length+1<=20;omega) (fun G p=>by obtain⟨e,i,rfl⟩:=QA.1 p;exact(XU (z _<|w e i).1).2.2) (by show(Q8 s1.mem _).length<=16;rw[y];exact O) Q M (by rw[C,m];omega);have z:((s1.write xs).commit<|xs.map Vst.noteF).dev.lZ=(s1.write xs).dev.lZ+(l.length+1)+1:=by show _+(JV _ _ _).length+1=_;rw[RI,C]
  have G:((s1.write xs).commit<|xs.map Vst.noteF).mem=Q8 s.mem (xs.map Vst.noteF):=by rw[<-y];rfl
  refine⟨⟨P,by show(wrAll s1.dev xs).cap=_;rw[E,D],by rw[z,m];omega,by rw[z,m,G];omega⟩,fun g j m y y=>?_,?_⟩
  ·have:=h.lenM j;have:=h.inX j;have:30<=m:=ox;have q:((s1.write xs).commit<|xs.map Vst.noteF).dev.img[m]?=(wrAll s1.dev xs).img[m]?:=by
    refine RQ _ _ _ _ (.inr ?_) ?_
    ·rw[RI,C];show 10+s1.next+(l.length+1)<=m;omega
    show m<(wrAll s1.dev xs).img.length;have y:m<s1.dev.img:=ox;have:=F (g.start,g.eZ) [s1.dev.img[g.start.toNat]' ox] ox (fun e i=>A g j e i) zx (fun k e hk=>by
     cases k with
     |zero=>simp at hk;subst hk;simp
     |succ k=>simp at hk)
    have z:=F (g.start,g.eZ) (((s1.dev.img.drop g.start.toNat).take g.eZ.toNat)) ox (fun e i=>A g j e i) zx (fun k e hk=>by have:=(Qy.1 hk).1;simp at this;rwa[Bb ox,Ut]at hk);have:=z (m-g.start.toNat) (s1.dev.img[m]'y) (by rw[Bb ox,Ut,(ox:g.start.toNat+(m-g.start.toNat)=m)];exact Qj y);rw[show(g.start,g.eZ).1.toNat+(m-g.start.toNat)=m by simp;omega]at this;exact(Qy.1 this).1
   have y:m<s1.dev.img:=ox;have z:=F (g.start,g.eZ) (((s1.dev.img.drop g.start.toNat).take g.eZ.toNat)) ox (fun e i=>A g j e i) zx (fun k e hk=>by have:=(Qy.1 hk).1;simp at this;rwa[Bb ox,Ut]at hk);have:=z (m-g.start.toNat) (s1.dev.img[m]'y) (by rw[Bb ox,Ut,(ox:g.start.toNat+(m-g.start.toNat)=m)];exact Qj y);rw[show(g.start,g.eZ).1.toNat+(m-g.start.toNat)=m by simp;omega]at this;rw[q,this,<-J m ox ox];exact(Qj y).symm
  refine LD (pt:=(·.1)) (LF (by rw[G];exact I) _) (kX l<|LF h.rise c) fun e=>?_
  unfold ZX;rw[iA (LF h.rise c) t,G];constructor
  ·intro i;obtain⟨g,j,rfl⟩:=QA.1 i;rcases(u g).1 j with⟨n,v,rfl⟩|⟨B,p⟩
   ·left;show(n.1.1,RP c l n.1.1)∈l;rw[Hw t<|w n v];exact w n v
   right;have m:∀f∈l,f.1≠g.path:=fun f hf o=>by rw[<-x]at hf;obtain⟨e,i,rfl⟩:=QA.1 hf;exact p e i o.symm
   refine⟨QA.2 ⟨g,B,by rw[SA m]⟩,fun f hf o=>m f hf o.symm⟩
  rintro(i|⟨i,p⟩)
  ·have e:=i;rw[<-x]at e;obtain⟨n,v,rfl⟩:=QA.1 e;refine QA.2 ⟨(Vst.noteF n).2,(u _).2 (.inl ⟨n,v,rfl⟩),?_⟩;show(n.1.1,RP c l n.1.1)=n.1;rw[Hw t i]
  obtain⟨g,j,rfl⟩:=QA.1 i;refine QA.2 ⟨g,(u _).2 (.inr ⟨j,fun n v o=>p n.1 (w n v) o⟩),?_⟩;rw[SA fun f hf o=>p f hf o.symm]
def Vst.find_zero{s:Vst}{p}(h:(s.find p).1=0):Xr p=true/\(s.find p).2∈s.mem/\(s.find p).2.path=p:=by
 unfold Vst.find at h ⊢
 split
 ·rename_i o;rw[Qg o]at h;cases h
 rename_i o;cases hf:s.mem.find? (fun m=>m.path==p)with
 |none=>rw[Qf o,hf]at h;cases h
 |some m=>exact⟨by simpa using o,Tm hf,by simpa using List.find?_some hf⟩
def Vok.find{s c}(h:Vok s c){m}(e:m∈s.mem):s.find m.path=(0,m):=by
 unfold Vst.find;rw[Qf (by rw[(h.mems m e).ok];simp)];cases hf:s.mem.find? (fun d=>d.path==m.path)with
 |none=>exact absurd (Eu.1 hf m e) sx
 |some d=>
  have g:=Tm hf;have i:d.path=m.path:=by simpa using List.find?_some hf
  have:d=m:=Classical.byContradiction fun d=>by have:=Lt (R:=fun a b:RM=>a.path≠b.path) (fun h=>h.symm) (h.rise.imp fun h=>Da h) g e d;exact this i
  rw[this]
def Vok.only{s c}(h:Vok s c){a b}(ha:a∈s.mem)(hb:b∈s.mem)(e:a.path=b.path):a=b:=by have d:=h.find ha;rw[e,h.find hb]at d;exact(Prod.mk.inj d).2.symm
def Vok.del{s c}(h:Vok s c)(p)(d:s.dev.lZ+10000<=1000000000)(h0:(s.del p).1=0):
 Ub s (s.del p).2 c 9/\U5 s (s.del p).2/\(s.del p).2.mem=CS p s.mem:=by
 unfold Vst.del at h0 ⊢
 by_cases hf:(s.find p).1≠0
 ·rw[Qg hf]at h0;exact absurd h0 hf
 rw[Qf hf];obtain⟨hp,-,-⟩:=Vst.find_zero<|Decidable.not_not.1 hf;have j:=h.room 2 ox;obtain⟨l,m,e,n⟩:=Vst.room_same s 2;have g:=Vst.room_calls s 2;have i:=Vst.room_next (s:=s) (n:=2) ox;have⟨s1,d⟩:=qx<|s.room 2;rw[d]at j l m e n g i ⊢;have ha:Q8 s1.mem [(false,(⟨p,0,0,0,0⟩:RM))]=CS p s.mem:=by rw[l];rfl
 have g:∀e∈CS p s.mem,e∈s.mem:=fun e d=>(gZ.1 d).1
 have o:=j.commit (ns:=[(false,⟨p,0,0,0,0⟩)]) (c':=c) (by show s1.next+1+1<=20;omega) (fun i i=>by rw[Zb.1 i];exact(XU hp).2.2)
  (by rw[ha];exact QS (Ew _ _) h.few) (fun e d=>j.mems e (by rw[l];rw[ha]at d;exact g e d))
  (by rw[ha,m];exact Ob (PQ h.rise) (fun e d=>h.inX<|g e d) fun a ha b hb i=>h.apart (g a ha) (g b hb) i) (by show s1.dev.lZ+1+2<=_;omega)
 have g:(s1.commit [(false,⟨p,0,0,0,0⟩)]).dev.lZ=s1.dev.lZ+3:=by show s1.dev.lZ+(JV _ _ _).length+1=_;rw[RI];rfl
 refine⟨⟨o,m,by show _<=(s1.commit _).dev.lZ;rw[g];omega,by show(s1.commit _).dev.lZ<=_;rw[g];omega⟩,fun e d e g g=>?_,ha⟩;have hi:=h.inX d;have:=h.lenM d;show(wrL s1.dev.img (10+s1.next) _)[e]?=_;rw[RQ _ _ _ _ (.inr (by rw[RI];show 10+s1.next+(1+1)<=e;omega)) ox,n e ox ox]
def Vok.sct{s c}(h:Vok s c){m}(d:m∈s.mem):s.sct m=Ja (m.path,c m.path):=by
 have e:=(h.mems m d).holds;have:=h.lenM d;have:m.eZ.toNat=(Ja (m.path,c m.path)).length:=by rw[AU,(h.mems m d).eZ];rfl
 unfold Vst.sct;refine XB fun k=>?_
 by_cases hk:k<m.eZ.toNat
 ·rw[Bb hk,Ut,Qj (l:=Ja _) ox];exact e k _ (Qj ox)
 rw[QU zx,QU ox]
def Vok.move_to{s c}(h:Vok s c){m}(j:m∈s.mem){tg}(d:ZZ s.dev.cap (s.exts++[(tg,m.eZ)])=true)(e:s.dev.lZ+10000<=1000000000):
 ∃s',s.move m.path tg=(0,s')/\Ub s s' c (2*m.eZ.toNat+10)/\U5 s s'/\(∀x,x∈s'.mem↔x={m with start:=tg}\/(x∈s.mem/\x.path≠m.path))/\
  s'.mem.map (fun x=>(x.path,x.eZ))=s.mem.map (fun x=>(x.path,x.eZ)):=by
 have e:=h.find j;unfold Vst.move;simp only[e];rw[Qf sx,Qf (by rw[d];simp)];refine⟨_,rfl,?_⟩;obtain⟨e,g⟩:=(YL _ _).1 d;have i:=ED.1 g;obtain⟨F,t2,t3⟩:=e (tg,m.eZ) sx;have q:∀x∈s.mem,UJ (ZW x) (tg,m.eZ):=fun x d=>i.2.2 _ (JA d) _ sx
 have u:=h.sct j;have g:=h.mems m j;have v:(s.sct m).length=m.eZ.toNat:=by rw[u,AU,g.eZ];rfl
 have t:=h.plen j;have:=Vz (f:=(m.path,c m.path)) t g.big;have:=g.eZ;have l:=h.room 2 ox;obtain⟨n,y,i,C⟩:=Vst.room_same s 2;have o:=Vst.room_calls s 2;have p:=Vst.room_next (s:=s) (n:=2) ox;have⟨s1,e⟩:=qx<|s.room 2;rw[e]at l n y i C o p ⊢;obtain⟨e,i⟩:∃e:Vst,{s1 with dev:=(s1.dev.wr tg.toNat<|s.sct m).tick (m.eZ.toNat+1)}=e:=⟨_,rfl⟩;rw[i];have o:e.mem=s.mem:=by rwa[<-i]
 have q2:e.dev.cap=s.dev.cap:=by rwa[<-i]
 have p:e.dev.img=wrL s1.dev.img tg.toNat (s.sct m):=by rw[<-i];rfl
 have B:e.dev.lZ=s1.dev.lZ+2*m.eZ.toNat+1:=by rw[<-i];show s1.dev.lZ+(s.sct m).length+(m.eZ.toNat+1)=_;omega
 have w:e.next=s1.next:=by rw[<-i]
 have E:e.gen=s1.gen:=by rw[<-i]
 have A:e.dev.Ok:=by rw[<-i];exact l.dev.wrL (by rw[v,y];omega) (by rw[u];exact Hh t g.big) _ ox
 have z:∀x∈s.mem,BV e.dev.img x (c x.path):=fun x d=>(l.mems x<|by rwa[n]).img fun i=>by rw[p];have n:=q x d;have hi:=h.inX d;unfold UJ ZW at n;refine i.wr _ ?_;rw[AU,v];have:=(h.mems x d).eZ;simp only[]at n;omega
 have D:Vok e c:=⟨A,by rw[q2];exact h.pZ,by rw[E,B];have:=l.gen;omega,by rw[w];exact l.next,by rw[o];exact h.rise,by rw[o];exact h.few,fun x d=>z x<|o▸d,by unfold Vst.exts;rw[q2,o];exact h.ext⟩;have i:∀x,x∈UO {m with start:=tg} s.mem↔x={m with start:=tg}\/(x∈s.mem/\x.path≠m.path):=fun x=>Dc h.rise
 have ha:Q8 e.mem [(true,{m with start:=tg})]=UO {m with start:=tg} s.mem:=by rw[o];rfl
 have B:=Dl (m:=({m with start:=tg}:RM)) h.rise;have A:(UO {m with start:=tg} s.mem).map (fun x=>(x.path,x.eZ))=s.mem.map (fun x=>(x.path,x.eZ)):=by
  refine LD (α:=LU × Int) (pt:=fun x=>x.1) (Rw.2 B) (Rw.2 h.rise) fun x=>?_
  constructor
  ·intro d;obtain⟨o,l,rfl⟩:=QA.1 d;rcases(i o).1 l with rfl|⟨l,-⟩
   ·exact QA.2 ⟨m,j,rfl⟩
   exact QA.2 ⟨o,l,rfl⟩
  intro d;obtain⟨o,l,rfl⟩:=QA.1 d
  by_cases y:o.path=m.path
  ·have:=h.only l j y;subst this;exact QA.2 ⟨_,(i _).2 (.inl rfl),rfl⟩
  exact QA.2 ⟨o,(i _).2 (.inr ⟨l,y⟩),rfl⟩
 have l:(UO {m with start:=tg} s.mem).length=s.mem.length:=by have:=Qt List.length A;rwa[QH,QH]at this
 have y:ZZ e.dev.cap ((Q8 e.mem [(true,{m with start:=tg})]).map ZW)=true:=by
  rw[ha,q2];refine Ob B (fun x d=>?_) fun a ha b hb j=>?_
  ·rcases(i x).1 d with rfl|⟨d,-⟩
   ·exact⟨F,t2,t3⟩
   exact h.inX d
  rcases(i a).1 ha with rfl|⟨ha,o⟩<;>rcases(i b).1 hb with rfl|⟨hb,nb⟩
  ·exact absurd rfl j
  ·exact(q b hb).symm
  ·exact q a ha
  exact h.apart ha hb j
 have o:=D.commit (ns:=[(true,{m with start:=tg})]) (c':=c) (by rw[w];show s1.next+1+1<=20;omega) (fun B j=>by rwa[Zb.1 j]) (by rw[ha,l];exact h.few)
  (fun x d=>by
   rw[ha]at d;rcases(i x).1 d with rfl|⟨d,-⟩
   ·exact⟨g.ok,g.big,g.size,g.sum,g.eZ,by rw[p,u];exact FI _ _ _⟩
   exact z x d) y (by show e.dev.lZ+1+2<=_;omega)
 have g:(e.commit [(true,{m with start:=tg})]).dev.lZ=e.dev.lZ+3:=by show e.dev.lZ+(JV _ _ _).length+1=_;rw[RI];rfl
 refine⟨⟨o,q2,by rw[g];omega,by rw[g];omega⟩,fun x d g j j=>?_,fun x=>by rw[<-i,<-ha];rfl,by rw[<-A,<-ha];rfl⟩;have hi:=h.inX d;have:=h.lenM d;have n:=q x d;unfold UJ ZW at n;simp only[]at n;show(wrL e.dev.img (10+e.next) _)[g]?=_;rw[RQ _ _ _ _ (.inr (by rw[RI,w];show 10+s1.next+(1+1)<=g;omega)) (by rw[p,Em];split<;>omega),p,RQ _ _ _ _ (by rw[v];omega) ox,C g ox ox]
def KJ{s s' c}(h:s'.mem.map (fun x=>(x.path,x.eZ))=s.mem.map (fun x=>(x.path,x.eZ))):ZX s' c=ZX s c/\ZV s'.mem=ZV s.mem:=by have d:=Qt (List.map fun x:LU × Int=>((x.1,c x.1):QC)) h;have e:=Qt (List.map fun x:LU × Int=>x.2.toNat) h;rw[Xv,Xv]at d e;exact⟨d,Qt List.sum e⟩
def Vst.move_none{s:Vst}{p tg}(h:(s.move p tg).1≠0):(s.move p tg).2=s:=by
 unfold Vst.move at h ⊢
 by_cases c:(s.find p).1≠0
 ·rw[Qg c]
 rw[Qf c]at h ⊢
 by_cases c:ZZ s.dev.cap (s.exts++[(tg,(s.find p).2.eZ)])=false
 ·rw[Qg c]
 rw[Qf c]at h;exact absurd rfl h
def Vok.move{s c}(h:Vok s c){p tg}(o:s.dev.lZ+10000<=1000000000)(h0:(s.move p tg).1=0):
 ∃m∈s.mem,Ub s (s.move p tg).2 c (2*m.eZ.toNat+10)/\U5 s (s.move p tg).2/\(s.move p tg).2.mem.map (fun x=>(x.path,x.eZ))=s.mem.map (fun x=>(x.path,x.eZ)):=by
 by_cases d:(s.find p).1≠0
 ·unfold Vst.move at h0;rw[Qg d]at h0;exact absurd h0 d
 obtain⟨hp,g,i⟩:=Vst.find_zero<|Decidable.not_not.1 d
 by_cases e:ZZ s.dev.cap (s.exts++[(tg,(s.find p).2.eZ)])=false
 ·unfold Vst.move at h0;rw[Qf d,Qg e]at h0;cases h0
 obtain⟨d,d,j,l,-,n⟩:=h.move_to g (by simpa using e) o;rw[i]at d;exact⟨_,g,by rw[d];exact⟨j,l,n⟩⟩
def Vst.endX_ge:∀(l:List QP)(a:Int),a<=l.foldl (fun e x=>max e<|x.1+x.2) a/\∀x∈l,x.1+x.2<=l.foldl (fun e x=>max e<|x.1+x.2) a
 | [],a=>⟨AZ _,sx⟩
 |y::l,a=>by
  obtain⟨c,d⟩:=Vst.endX_ge l<|max a<|y.1+y.2;rw[CB];refine⟨ox,fun x c=>?_⟩;rcases QD.1 c with rfl|c
  ·omega
  exact d x c
def Vst.endX_le{b}:∀(l:List QP)(a:Int),a<=b->(∀x∈l,x.1+x.2<=b)->l.foldl (fun e x=>max e<|x.1+x.2) a<=b
 | [],a,h,_=>h
 |y::l,a,h,hl=>by rw[CB];have:=hl y sx;exact Vst.endX_le l _ ox fun x c=>hl x (by simp[c])
def Vok.trim{s c}(h:Vok s c)(hc:s.dev.lZ+10000<=1000000000):
 s.trim.1=0/\Ub s s.trim.2 c 2/\U5 s s.trim.2/\s.trim.2.mem=s.mem/\(s.trim.2.dev.img.length:Int)<=Vst.endX s.exts:=by
 unfold Vst.trim
 split
 ·rename_i h1;exact⟨rfl,Ub.refl h _,U5.refl s,rfl,h1⟩
 rename_i h1;obtain⟨g1,g2⟩:=Vst.endX_ge s.exts 30;have h4:∀m∈s.mem,m.start.toNat+m.eZ.toNat<=(Vst.endX s.exts).toNat:=fun m o=>by have:=g2 (ZW m)<|JA o;have hi:=h.inX o;unfold Vst.endX;simp only[ZW]at this;omega
 have g3:(30:Int)<=Vst.endX s.exts:=g1;have q:=h.dev;have hg:=h.gen;refine⟨rfl,⟨⟨⟨q.c1,q.c2,?_,?_,?_⟩,h.pZ,?_,h.next,h.rise,h.few,fun m o=>(h.mems m o).img fun h3=>?_,h.ext⟩,rfl,?_,?_⟩,fun m o i h2 h3=>?_,rfl,?_⟩
 ·have:=q.len;show(s.dev.img.take _).length<=_;rw[Zd];exact QS (Nat.min_le_right _ _) this
 ·exact fun y hy=>q.sec y<|Rv hy
 ·show s.dev.lZ+1+1<=_;omega
 ·show s.gen<=s.dev.lZ+1+1;omega
 ·refine h3.take _ ?_;have:=h4 m o;have:=(h.mems m o).eZ;rw[AU];omega
 ·show s.dev.lZ<=s.dev.lZ+1+1;omega
 ·show s.dev.lZ+1+1<=_;omega
 ·have:=h4 m o;show(s.dev.img.take _)[i]?=_;rw[Bb ox]
 show((s.dev.img.take _).length:Int)<=_;rw[Zd];omega
