import Derived.Test.YtickjpnkoppmgaaGreatDoorBs
set_option linter.all false
set_option maxHeartbeats 2000000
set_option maxRecDepth 20000
namespace Go.Proofs.YtickjpnkoppmgaaGreatDoor
open Go.Proofs.Tryz Go.RowKit K
section
open Go.Sort Go.Shelf
def MK(w:WD)(F:List QC)(e:Ending)(w':WD):Prop:=∃c,e=.returned (.agg #[c])/\Qm w' 63 2 c F.length (Qs Jv F)/\Qb [] w w'/\∀d∈Qd c,w.heap.size<=d
def Ec{fn:Func}{p:Tmp}(h:fn.results=#[.cell p 32])(tmps:Array VL)(w:WD){b:Nat}{v:VL}(A:Qe w b 32 [v])(hp:tmps.getD p undef=.pointer b):
 (results fn tmps).run prog w=.ok (.agg #[v]) w:=results_cell_row h _ _ b _ _ _ _ hp A underlying32 rfl kx
structure J7(W:WD)(B:Nat)(v:VL)(O:List QC)(w:WD):Prop where
 a5:Qe w B 32 [v]
 row:Qm w 63 2 v O.length (Qs Jv O)
 far:∀y∈Qd v,B<y
 kept:Qb [B] W w
 size:W.heap.size=B+1
def J7.put{W w w1:WD}{d g cap:Nat}{v:VL}{c:List QC}{f:QC}(h:J7 W d v c w)(l:Qb (Qd v) w w1)(m:Qm w1 63 2 (.slice g (c.length+1) cap) (c.length+1) (Qs Jv c++Jv f))(j:g∈Qd v\/w.heap.size<=g):
 J7 W d (.slice g (c.length+1) cap) (c++[f]) (w1.setCell ⟨d,0,none⟩<|.slice g (c.length+1) cap):=by
 have hf:∀i∈Qd (.slice g (c.length+1) cap),d<i:=fun i e=>by
  simp[Qd,qo]at e;subst e;rcases j with j|j
  ·exact h.far _ j
  exact Av h.a5.lt j
 have j:Qs Jv (c++[f])=Qs Jv c++Jv f:=by simp[Qs]
 refine⟨((h.a5.kept l fun c=>CE _<|h.far _ c).set 0 _),?_,hf,?_,h.size⟩
 ·rw[j,Qo];exact m.kept ((Qc [d] w1).setCell (p:=d) (.inl sx) _) (fun i e c=>by have:=hf i e;simp at c;omega)
 exact(h.kept.trans l fun i e=>.inr (wx (h.far i e) h.size)).setCell (.inl sx) _
def J7.kZ{W w w':WD}{c:Nat}{v:VL}{d:List QC}(h:J7 W c v d w)(hk:Qb [] w w'):J7 W c v d w':=
 ⟨h.a5.kept hk sx,h.row.kept hk<|Zy _,h.far,h.kept.trans hk sx,h.size⟩
def J7.store{W w w1:WD}{c:Nat}{v:VL}{d:List QC}(h:J7 W c v d w)(d:Qb (Qd v) w w1):w1.cell? c=some v/\w1.frozen? c=false:=
 have c:=h.a5.kept d fun d=>CE _<|h.far _ d
 ⟨c.cq 0,c.free 0⟩
def J7.done{w W w1:WD}{c b:Nat}{v:VL}{d L:List QC}(h:J7 W c v d w1)(k:Qb [] w W)(hb:w.heap.size<=b/\b<c)(e:L=d):MK w L (.returned<|.agg #[v]) (w1.setCell ⟨b,0,none⟩ v):=by
 subst e;exact⟨v,rfl,h.row.kept ((Qc [b] w1).setCell (p:=b) (.inl sx) v) (fun d c g=>by have:=h.far d c;simp at g;omega),
  (k.trans h.kept fun d c=>.inr (by simp at c;omega)).setCell (.inr hb.1) v,fun d c=>by have:=h.far d c;omega⟩
def IK:(prog.info? 63).map (fun i=>(i.zero,i.size,i.bytes))=some (some<|.agg #[.string ⟨#[]⟩,.string ⟨#[]⟩],2,32):=by kernel_rfl
def KF(f:QC):∀u∈Jv f,u.oneCell'=true:=by simp[Jv,Value.oneCell']
def oS(mv:VL)(F:List QC)(x:QC)(w:WD)(h:UZ w mv F)(hr:UG (·.1) F)(hl:F.length<=1000)(hp:∀f∈F,f.1.length<=1000000)(hx:x.1.length<=1000000)(q:Yt w):
 Calls prog 45 #[.agg #[mv],.agg #[str x.1,str x.2]] w (MK w<|XT (·.1) x F):=by
 obtain⟨ao,c0,rfl,hs⟩:=h;have⟨n,hn⟩:=qx F.length;rw[hn]at hs hl ⊢;have⟨HS,HN,HH⟩:=qc hs hn<|Qr hr<|Qr hp q;go_enter func45,ntmps45;go_wp2_with fail;have⟨B,q⟩:=qx<|w.heap.size+1+1+1;have⟨W,hW⟩:=qx<|((((w.alloc<|.cells #[.slice ao n c0] 32).alloc<|.cells #[str x.1,str x.2] 63).alloc<|.cells #[()] 32).alloc<|.cells #[()] 32);have K0:Qb [] w W:=by rw[<-hW];exact((((Qc [] w).alloc _).alloc _).alloc _).alloc _
 have P2:Qe W w 32 [.slice ao n c0]:=by rw[<-hW];exact(((Qx w _ _).alloc _).alloc _).alloc _
 have o:Qe W (w.heap.size+1) 63 [str x.1,str x.2]:=by rw[<-hW];exact((Qe.newAt _ _ _ _ sx).alloc _).alloc _
 have P4:Qe W (w.heap.size+1+1) 32 [()]:=by rw[<-hW];exact(Qe.newAt _ _ _ _ sx).alloc _
 have P5:Qe W B 32 [()]:=by rw[<-hW,<-q];exact Qe.newAt _ _ _ _ sx
 have hz:W=B+1:=by rw[<-hW,<-q];simp
 rw[q,hW];have⟨HP,HM⟩:=qb (Qr K0<|Qr P2<|Qr o<|Qr P4<|Qr q hz)<|show J7 W B () [] W from⟨P5,Qm.nil _ _ _,by simp[Qd,qo],Qc _ _,hz⟩
 go_loopg [6,7,8] n (fun k x6 x7 x8 wr=>∃(i:Nat)(b:Bool)(O:List QC)(av:OA)(mo cv:Nat),i<=n/\k=n-i/\x6=.bool b/\x7=.int .i64 (i:Nat)/\Hid (Jh x F i b O/\O<=2*i)/\Hid (J7 W B (.slice av mo cv) O wr))
 ·exact⟨0,false,[],_,_,_,ox,ox,rfl,rfl,Qa ⟨Jh.start x F,sx⟩,HM⟩
 obtain⟨i,b,O,av,mo,cv,hi,hk,rfl,rfl,HI,HW⟩:=hrel;obtain⟨K0,P2,o,P4,q,hz⟩:=HP.o;obtain⟨hr,hp,y7⟩:=HH.o;have h3:=HW.o.kept;have b2:w.heap.size∉[B]:=zx
 have b3:w.heap.size+1∉[B]:=zx
 have c2:=(P2.kept h3 b2).cq 0 (u:=.slice ao n c0)
 by_cases hlt:i<n
 ·have q0:(i:Int)<n:=ox
  have y8:=K0.trans h3 fun y hy=>.inr (by simp at hy;omega);have⟨f,hf⟩:=qy F i (yx HN.o);obtain⟨g,off,rfl,y0,y1⟩:=Cd HS.o hf;have d0:=y8.cZ y0 sx;have c3:=(o.kept h3 b3).cq 0 (u:=.string<|str x.1);have e3:=(o.kept h3 b3).cq 1 (u:=.string<|str x.2);have p1:=hp f<|QB hf;have HC:=Qa (fun W' (p7:Qb [] wr W')=>bK (str x.1) (str f.1) W' hx p1<|(y7.kept y8 sx).kept p7 sx);rw[show(str x.1).data.toList=x.1 from rfl,show(str f.1).data.toList=f.1 from rfl]at HC;have HT:=Qa<|HI.o.1.step hr hf;have⟨r,p2⟩:=qx<|Xp x.1 f.1;rw[p2]at HC HT;have HX:=Qa<|Qr y0 y1;go_wp2_with fail
  go_region_held3 (fun w'=>w'.cell? ⟨w.heap.size+1,0,none⟩=some (.string<|str x.1)/\w'.cell? w=some (.slice (some ⟨g,off,none⟩) n c0)/\w'.cell? ⟨g,off+i*2,none⟩=some (.string<|str f.1))
   (first|exact⟨c3,c2,d0⟩|exact⟨k3,k2,k0⟩|go_keep)
   ((go_fit(HC.o _ (Qc [] wr).drew);rintro e w1⟨rfl,x2⟩;have k3:=x2.cZ c3 sx;have k2:=x2.cZ c2 sx;have k0:=x2.cZ d0 sx))
  have p0:=(Qc [] wr).drew.trans x2 sx;have h4:=Qa<|HW.o.kZ p0;rename_i p5;have p6:=HI.o.2;have L1:O.length+1<=maxLen:=by simp only[maxLen];omega
  have L2:(O.length+1)*32<=140737488355328:=ox
  iterate 3 go_step
  go_cut [6]from 26 to 37 (fun x6 w'=>∃(b':Bool)(O':List QC)(h5:OA)(h9 h8:Nat),x6=.bool b'/\Hid (O'<=2*i+1/\(r=0->Jh x F (i+1) b' O')/\(r≠0->Jh x F (i+1) b' (O'++[f])))/\Hid (J7 W B (.slice h5 h9 h8) O' w'))
  ·cases b with
   |true=>
    obtain⟨t1,t2⟩:=HT.o.2.2.2 rfl;have x1:r<=0:=ox;have h2:=Qa<|show(r=0->Jh x F (i+1) true O)/\(r≠0->Jh x F (i+1) true (O++[f]))from⟨fun e=>ox,fun _=>t2⟩
    go_wp2
    go_meet
    case rel=>exact⟨true,O,av,mo,cv,rfl,Qa ⟨ox,h2.o⟩,h4⟩
   |false=>
    by_cases x1:r<=0
    ·have o:=(HP.o.2.2.1.kept h4.o.kept (by have:=HP.o.2.2.2.2.1;simp;omega));have c3:=o.cq 0 (u:=.string<|str x.1);have e3:=o.cq 1 (u:=.string<|str x.2);have c5:=h4.o.a5.cq 0 (u:=.slice av mo cv);have h2:=Qa<|show(r=0->Jh x F (i+1) true (O++[x]))/\(r≠0->Jh x F (i+1) true (O++[x]++[f]))from⟨fun e=>HT.o.2.1 rfl e,fun e=>HT.o.1 rfl ox⟩;go_wp2_with (at_builtin;(refine Rr w1 rfl _ _ 30 rfl 63 (.agg #["",""]) 2 32 Gi IK rfl dx (.slice av mo cv) O _ (Jv x) rfl rfl rfl rfl (KF _) h4.o.row L1 L2 ?_;intro g5 p4 w5 z1 x0 y9;obtain⟨z5,x5⟩:=h4.o.store x0));go_meet
     case rel=>exact⟨true,_,_,_,_,rfl,Qa ⟨zx,h2.o⟩,Qa<|h4.o.put x0 z1 y9⟩
    have h2:=Qa<|show(r=0->Jh x F (i+1) false O)/\(r≠0->Jh x F (i+1) false (O++[f]))from⟨fun e=>ox,fun _=>HT.o.2.2.1 rfl ox⟩
    go_wp2
    go_meet
    case rel=>exact⟨false,O,av,mo,cv,rfl,Qa ⟨ox,h2.o⟩,h4⟩
  obtain⟨b',O',h5,h9,h8,rfl,y3,h1⟩:=hcut;obtain⟨K0,P2,o,P4,q,hz⟩:=HP.o;have z6:=Qa<|K0.trans h1.o.kept fun y hy=>.inr (by simp at hy;omega)
  by_cases x1:r=0
  ·obtain⟨t1,t2,-⟩:=y3.o;have h2:=Qa<|t2 x1;have q2:(r==0)=true:=by simpa using x1
   go_wp2
   go_roundg (n-(i+1))
   ·exact⟨i+1,b',O',h5,h9,h8,ox,rfl,rfl,by go_num,Qa ⟨h2.o,ox⟩,h1⟩
   omega
  obtain⟨t1,-,t2⟩:=y3.o;have h2:=Qa<|t2 x1;have q2:(r==0)=false:=by simpa using x1
  have c2:=(P2.kept h1.o.kept zx).cq 0 (u:=.slice (some ⟨g,off,none⟩) n c0);have d0:=z6.o.cZ HX.o.1 sx;have d1:=z6.o.cZ HX.o.2 sx;have c5:=h1.o.a5.cq 0 (u:=.slice h5 h9 h8);have x5:=h1.o.a5.free 0;have n2:w.heap.size∉Qd (.slice h5 h9 h8):=fun hm=>by have:=h1.o.far _ hm;omega
  have n1:g∉Qd (.slice h5 h9 h8):=fun hm=>by have:=h1.o.far _ hm;have:=Uc w _ HX.o.1;simp at this;omega
  have l5:B<wc:=h1.o.a5.lt;have l2:w.heap.size<wc.heap.size:=ox
  have l1:g<wc:=by have:=Uc wc _ d0;simpa using this
  have L1:O'.length+1<=maxLen:=by simp only[maxLen];omega
  have L2:(O'.length+1)*32<=140737488355328:=ox
  go_wp2_with fail
  go_region_law (refine Hl rfl _ _ 30 rfl 63 (.agg #["",""]) 2 32 Gi IK rfl dx (.slice h5 h9 h8) O' _ (Jv f) ⟨wc.heap.size,0,none⟩ rfl rfl ((Qx wc.drew (Jv f) 63).sees (size:=2) (n:=1) rfl) (KF _) (World.ownsRow.alloc (h1.o.row.kept (Qc [] wc).drew<|Zy _) _) L1 L2 ?_;intro g9 q1 w9 p9 z8 p8;obtain⟨z9,x9⟩:=(h1.o.kZ<|(Qc [] wc).drew.alloc _).store z8)
  all_goals (
   go_wp2
   go_roundg (n-(i+1))
   case measure=>omega
   exact⟨i+1,b',O'++[f],_,_,_,ox,rfl,rfl,by go_num,Qa ⟨h2.o,zx⟩,Qa<|(h1.o.kZ<|(Qc [] wc).drew.alloc _).put z8 p9 p8⟩)
 obtain rfl:n=i:=ox
 have q0:¬(n:Int)<n:=ox
 have y2:=Qa<|HI.o.1.stop (yx HN.o);have o:=o.kept h3 b3;have c3:=o.cq 0 (u:=.string<|str x.1);have e3:=o.cq 1 (u:=.string<|str x.2);have P4:=P4.kept h3 zx;have c4:=P4.cq 0 (u:=.slice none 0 0);have x4:=P4.free 0;have c5:=HW.o.a5.cq 0 (u:=.slice av mo cv);have z7:=Qa P4;have p6:=HI.o.2;have L1:O.length+1<=maxLen:=by simp only[maxLen];omega
 have L2:(O.length+1)*32<=140737488355328:=ox
 have⟨y5,p3,x3⟩:=qc (by simp;omega:w.heap.size+1+1∉[B]) (fun av mo cv O (h:J7 W B (.slice av mo cv) O wr)=>show w.heap.size+1+1∉Qd (.slice av mo cv)from fun hm=>by have:=h.far _ hm;omega)<|Qr K0 (ox:w.heap.size<=w.heap.size+1+1/\w.heap.size+1+1<B);cases b with
 |true=>have y6:=Qa<|y2.o.trans<|Qg rfl;go_wp2_with fail;refine Zj (Ec rfl _ _ (z7.o.set 0<|.slice av mo cv) rfl) rfl ?_;exact HW.o.done x3.o.1 x3.o.2 y6.o
 |false=>have y6:=Qa (y2.o.trans<|Qf sx);go_wp2_with (at_builtin;(refine Rr wr rfl _ _ 30 rfl 63 (.agg #["",""]) 2 32 Gi IK rfl dx (.slice av mo cv) O _ (Jv x) rfl rfl rfl rfl (KF _) HW.o.row L1 L2 ?_;intro g5 p4 w5 z1 x0 y9;obtain⟨z5,x5⟩:=HW.o.store x0;have A4:=z7.o.kept x0<|p3.o _ _ _ _ HW.o;have y4:=(fun u=>(A4.kept ((Qc [B] w5).setCell (p:=B) (.inl sx) u) y5.o).cq 0);have x4:=(fun u=>(A4.kept ((Qc [B] w5).setCell (p:=B) (.inl sx) u) y5.o).free 0)));refine Zj (Ec rfl _ _ ((A4.kept ((Qc [B] w5).setCell (p:=B) (.inl sx) _) y5.o).set 0 _) rfl) rfl ?_;exact(HW.o.put x0 z1 y9).done x3.o.1 x3.o.2 y6.o
def Qjn(a b:LU):((str a).toList==(str b).toList)=(a==b):=by rw[Xk,Xk];rfl
def Qlf(mv:VL)(F:List QC)(p:LU)(w:WD)(h:UZ w mv F)(hl:F.length<=1000):
 Calls prog 46 #[.agg #[mv],str p] w (MK w<|Vb (·.1) p F):=by
 obtain⟨ao,c0,rfl,hs⟩:=h;have⟨n,hn⟩:=qx F.length;rw[hn]at hs hl ⊢;have⟨HS,HN⟩:=qb hs hn;clear hs hn;go_enter func46,ntmps46;go_wp2_with fail;have⟨B,hB⟩:=qx<|w.heap.size+1+1;have⟨W,hW⟩:=qx<|(((w.alloc<|.cells #[.slice ao n c0] 32).alloc<|.cells #[()] 32).alloc<|.cells #[()] 32);have K0:Qb [] w W:=by rw[<-hW];exact(((Qc [] w).alloc _).alloc _).alloc _
 have P2:Qe W w 32 [.slice ao n c0]:=by rw[<-hW];exact((Qx w _ _).alloc _).alloc _
 have q:Qe W (w.heap.size+1) 32 [()]:=by rw[<-hW];exact(Qe.newAt _ _ _ _ sx).alloc _
 have P5:Qe W B 32 [()]:=by rw[<-hW,<-hB];exact Qe.newAt _ _ _ _ sx
 have hz:W=B+1:=by rw[<-hW,<-hB];simp
 rw[hB,hW];have⟨HP,HM⟩:=qb (Qr K0<|Qr P2<|Qr q hB)<|show J7 W B () (Vb (·.1) p<|F.take 0) W from⟨P5,Qm.nil _ _ _,by simp[Qd,qo],Qc _ _,hz⟩;clear K0 P2 q P5 hz hW hB
 go_loopg [6] n (fun k x6 wr=>∃(i:Nat)(av:OA)(mo cv:Nat),i<=n/\k=n-i/\x6=.int .i64 (i:Nat)/\Hid (J7 W B (.slice av mo cv) (Vb (·.1) p<|F.take i) wr))
 ·exact⟨0,_,_,_,ox,ox,rfl,HM⟩
 obtain⟨i,av,mo,cv,hi,hk,rfl,o⟩:=hrel;obtain⟨K0,P2,q,hB⟩:=HP.o;have h2:=o.o.kept;have b2:w.heap.size∉[B]:=zx
 have c2:=(P2.kept h2 b2).cq 0 (u:=.slice ao n c0)
 by_cases hlt:i<n
 ·have q0:(i:Int)<n:=ox
  have h3:=K0.trans h2 fun y hy=>.inr (by have:=o.o.size;simp at hy;omega);have⟨f,hf⟩:=qy F i (yx HN.o);obtain⟨g,off,rfl,y0,y1⟩:=Cd HS.o hf;have d0:=h3.cZ y0 sx;have d1:=h3.cZ y1 sx;have h1:=Qlg (p:=p) hf;have hq:=Qjn f.1 p
  by_cases he:f.1=p
  ·rw[Qg he,XX]at h1;rw[beq_iff_eq.2 he]at hq;have HT:=Qa<|h1▸o.o;clear K0 P2 q hB h2 hf h3 y0 y1 h1 he
   go_wp2
   go_roundg (n-(i+1))
   ·exact⟨i+1,av,mo,cv,ox,rfl,by go_num,HT⟩
   omega
  rw[Qf he]at h1;rw[Ze.2 he]at hq;have⟨O,hO⟩:=qx<|Vb (·.1) p<|F.take i;have HL:=Qa (by rw[<-hO];exact QS (Ew _ _) (by rw[Zd];omega):O<=n);rw[hO]at h1 o;have h9:=Qa h1;have l5:B<wr:=o.o.a5.lt;have l2:w.heap.size<wr.heap.size:=ox
  have l1:g<wr:=by have:=Uc wr _ d0;simpa using this
  have c5:=o.o.a5.cq 0 (u:=.slice av mo cv);have x5:=o.o.a5.free 0;have L1:O.length+1<=maxLen:=by have:=HL.o;simp only[maxLen];omega
  have L2:(O.length+1)*32<=140737488355328:=yx HL.o
  clear K0 P2 q hB h2 hf h3 y0 y1 h1 he hO;go_wp2_with fail
  go_region_law (refine Hl rfl _ _ 30 rfl 63 (.agg #["",""]) 2 32 Gi IK rfl dx (.slice av mo cv) O _ (Jv f) ⟨wr.heap.size,0,none⟩ rfl rfl ((Qx wr.drew (Jv f) 63).sees (size:=2) (n:=1) rfl) (KF _) (World.ownsRow.alloc (o.o.row.kept (Qc [] wr).drew<|Zy _) _) L1 L2 ?_;intro g9 x2 w9 x1 h5 x0;obtain⟨z9,x9⟩:=(o.o.kZ<|(Qc [] wr).drew.alloc _).store h5)
  all_goals (
   go_wp2
   go_roundg (n-(i+1))
   case measure=>omega
   exact⟨i+1,_,_,_,ox,rfl,by go_num,Qa<|h9.o▸((o.o.kZ<|(Qc [] wr).drew.alloc _).put h5 x1 x0)⟩)
 obtain rfl:n=i:=ox
 have q0:¬(n:Int)<n:=ox
 have h1:Vb (·.1) p (F.take n)=Vb (·.1) p F:=by rw[Q5 (by rw[HN.o];exact Qk _)]
 rw[h1]at o;have q:=q.kept h2 zx;have c4:=q.cq 0 (u:=.slice none 0 0);have x4:=q.free 0;have c5:=o.o.a5.cq 0 (u:=.slice av mo cv);have⟨h8,h4⟩:=qb q<|Qr K0 (ox:w.heap.size<=w.heap.size+1/\w.heap.size+1<B);clear K0 P2 q hB h2 h1;go_wp2_with fail;refine Zj (Ec rfl _ _ (h8.o.set 0<|.slice av mo cv) rfl) rfl ?_;exact o.o.done h4.o.1 h4.o.2 rfl
end
section
open Go.Sort Go.Shelf
def Bu(l:List QC)(F:List QC):List QC:=l.foldl (fun c f=>XT (·.1) f c) F
def eX{P:QC->Prop}:∀{l F:List QC},UG (·.1) F->(∀f∈F,P f)->(∀f∈l,P f)->UG (·.1) (Bu l F)/\(Bu l F).length<=F.length+l.length/\∀f∈Bu l F,P f
 | [],F,hr,h1,h2=>⟨hr,Qk _,h1⟩
 |x::l,F,hr,h1,h2=>by obtain⟨a,b,c⟩:=eX (P:=P) (l:=l) (Dl (m:=x) hr) (fun f hf=>((Dc hr).1 hf).elim (fun d=>d▸h2 x (Yv ..)) fun d=>h1 f d.1) fun f hf=>h2 f<|XO _ hf;refine⟨a,?_,c⟩;have:=OB (pt:=fun f:QC=>f.1) x F;rw[QW];exact QS b ox
def Ys.goes(a:Ys)(F:List QC):List QC:=if a.kind=0 then XT (·.1) (a.path,a.text) F else if a.kind=1 then Vb (·.1) a.path F else if a.kind=5 then Bu a.files F else F
def Jr(w:WD)(v:VL)(F:List QC):Prop:=Qm w 63 2 v F.length (Qs Jv F)
def Jr.ent{w:WD}{v:VL}{F:List QC}(h:Jr w v F):UZ w v F:=by obtain⟨a,c,d,-,-,e,-⟩:=Qm.sees h;exact⟨a,c,d,e⟩
def Ic(w:WD)(mv:VL)(F:List QC)(e:Ending)(w':WD):Prop:=∃c,e=.returned (.agg #[c])/\Jr w' c F/\Qb [] w w'/\∀d∈Qd c,w.heap.size<=d\/d∈Qd mv
def Ic.fin{w w1:WD}{b:Nat}{mv v:VL}{L:List QC}(k:Qb [] w w1)(hb:w.heap.size<=b)(d:Jr w1 v L)(hf:∀c∈Qd v,w.heap.size<=c\/c∈Qd mv)(e:b∉Qd v):Ic w mv L (.returned<|.agg #[v]) (w1.setCell ⟨b,0,none⟩ v):=
 ⟨v,rfl,Qm.kept d ((Qc [b] w1).setCell (p:=b) (.inl sx) v) fun c d c=>e (by simp at c;exact c▸d),k.setCell (.inr hb) v,hf⟩
def Qbd(mv:VL)(F:List QC)(x:Rs)(w:WD)(h:Jr w mv F)(hr:UG (·.1) F)(hl:F.length<=100)(hp:∀f∈F,f.1.length<=1000000)(hx:UZ w x.fv x.act.files)(hg:FM x)(hB:Yt w):
 Calls prog 18 #[.agg #[mv],.agg (Uf x).toArray] w (Ic w mv<|x.act.goes F):=by
 obtain⟨am,cm,rfl,-⟩:=h.ent;obtain⟨af,cf,x8,x6⟩:=hx;have⟨n,hn⟩:=qx F.length;have⟨o,x3⟩:=qx x.act.files.length;rw[hn]at h hl ⊢;rw[x3]at x8 x6;have⟨L,q⟩:=qx<|x.act.goes F;rw[q];unfold Ys.goes at q;unfold Uf;rw[x8];have⟨W,hW⟩:=qx<|((w.alloc<|.cells #[.slice am n cm] 32).alloc<|.cells #[x.act.kind,str x.act.path,str x.act.text,x.act.tg,.slice af o cf,x.fat,x.kv] 37).alloc<|.cells #[()] 32;have K0:Qb [] w W:=by rw[<-hW];exact(((Qc [] w).alloc _).alloc _).alloc _
 have P2:Qe W w 32 [.slice am n cm]:=by rw[<-hW];exact((Qx w _ _).alloc _).alloc _
 have P3:Qe W (w.heap.size+1) 37 [x.act.kind,str x.act.path,str x.act.text,x.act.tg,.slice af o cf,x.fat,x.kv]:=by rw[<-hW];exact(Qe.newAt _ _ _ _ sx).alloc _
 have P4:Qe W (w.heap.size+1+1) 32 [()]:=by rw[<-hW];exact Qe.newAt _ _ _ _ sx
 have⟨HP,HF,HN,HG⟩:=qd (Qr K0<|Qr P2<|Qr P3 P4) (Qr h<|Qr hr<|Qr hp hB) (Qr hn<|Qr x3 x6) hg;have y6:o<=20:=by rw[<-x3];exact hg.2.1
 have a2:=P2.cq 0 (u:=.slice am n cm);have a3:=P3.cq 0 (u:=.int .i64 x.act.kind);have a4:=P3.cq 1 (u:=.string<|str x.act.path);have a5:=P3.cq 2 (u:=.string<|str x.act.text);have a6:=P3.cq 4 (u:=.slice af o cf);clear h hr hp hB hn x3 x6 x8 hg P2 P3 P4 K0;go_enter func18,ntmps18
 go_upto_region 1 with(fail)
 have y3:W.heap.size=w.heap.size+3:=by rw[<-hW];simp
 have⟨HZ,y0⟩:=qb y3 (show ∀y∈Qd (.slice am n cm),y<w.heap.size from HF.o.1.lt);clear hW y3
 by_cases k0:x.act.kind=0
 ·rw[Qg k0]at q;have HL:=Qa q;have q0:(x.act.kind==0)=true:=by rw[k0];rfl
  have HC:=Qa (oS (.slice am n cm) F (x.act.path,x.act.text) W ((Jr.ent HF.o.1).kZ HP.o.1) HF.o.2.1 (by rw[HN.o.1];omega) HF.o.2.2.1 (by have:=HG.o.1;simp only[];omega)<|HF.o.2.2.2.kept HP.o.1 sx);clear q k0;go_wp2_with (go_fit HC.o;rintro e w1⟨v,rfl,h9,h5,h4⟩;obtain⟨a1,c1,rfl,-⟩:=Jr.ent h9;have A4:=HP.o.2.2.2.kept h5 sx;have c4:=A4.cq 0;have x4:=A4.free 0);refine Zj (Ec rfl _ _ (A4.set 0 _) rfl) rfl ?_;rw[<-HL.o];exact .fin (HP.o.1.trans h5 sx) ox h9 (fun y hy=>.inl (wx (h4 y hy) HZ.o)) (fun hm=>by have:=h4 _ hm;have:=HZ.o;omega)
 rw[Qf k0]at q;have q0:(x.act.kind==0)=false:=Ze.2 k0
 by_cases k1:x.act.kind=1
 ·rw[Qg k1]at q;have HL:=Qa q;have q1:(x.act.kind==1)=true:=by rw[k1];rfl
  have HC:=Qa<|Qlf (.slice am n cm) F x.act.path W ((Jr.ent HF.o.1).kZ HP.o.1) (by rw[HN.o.1];omega);clear q k0 k1;go_wp2_with (go_fit HC.o;rintro e w1⟨v,rfl,h9,h5,h4⟩;obtain⟨a1,c1,rfl,-⟩:=Jr.ent h9;have A4:=HP.o.2.2.2.kept h5 sx;have c4:=A4.cq 0;have x4:=A4.free 0);refine Zj (Ec rfl _ _ (A4.set 0 _) rfl) rfl ?_;rw[<-HL.o];exact .fin (HP.o.1.trans h5 sx) ox h9 (fun y hy=>.inl (wx (h4 y hy) HZ.o)) (fun hm=>by have:=h4 _ hm;have:=HZ.o;omega)
 rw[Qf k1]at q;have q1:(x.act.kind==1)=false:=Ze.2 k1
 by_cases k5:x.act.kind=5
 ·rw[Qg k5]at q;have HL:=Qa q;have q5:(x.act.kind==5)=true:=by rw[k5];rfl
  clear q k0 k1 k5
  go_wp2
  go_loopg [5] o (fun k x5 wr=>∃(i:Nat)(av:OA)(mo cv:Nat),i<=o/\k=o-i/\x5=.int .i64 (i:Nat)/\Hid (Qe wr w 32 [.slice av mo cv]/\Jr wr (.slice av mo cv) (Bu (x.act.files.take i) F)/\Qb [w.heap.size] W wr/\∀y∈Qd (.slice av mo cv),W.heap.size<=y\/y∈Qd (.slice am n cm)))
  ·exact⟨0,am,n,cm,ox,ox,rfl,Qa ⟨HP.o.2.1,Qm.kept HF.o.1 HP.o.1<|Zy _,Qc _ _,fun y hy=>.inr hy⟩⟩
  obtain⟨i,av,mo,cv,hi,hk,rfl,HI⟩:=hrel;obtain⟨A2,hR,h8,x7⟩:=HI.o;obtain⟨K0,-,P3,P4⟩:=HP.o;have b3:w.heap.size+1∉[w.heap.size]:=sx
  have b4:w.heap.size+1+1∉[w.heap.size]:=zx
  have c2:=A2.cq 0 (u:=.slice av mo cv);have x2:=A2.free 0;have x0:=K0.trans h8 fun y hy=>.inr (by simp at hy;omega)
  by_cases hlt:i<o
  ·have g0:(i:Int)<o:=ox;have c3:=(P3.kept h8 b3).cq 4 (u:=.slice af o cf);have⟨f,hf⟩:=qy x.act.files i (yx HN.o.2.1);obtain⟨g,off,rfl,d0,d1⟩:=Cd (HN.o.2.2.kZ x0) hf;obtain⟨r1,r2,r3⟩:=eX (P:=fun f=>f.1.length<=1000000) (l:=x.act.files.take i) HF.o.2.1 HF.o.2.2.1 (fun f hf=>by have:=HG.o.2.2 f<|Rv hf;omega);have y2:(Bu (x.act.files.take i) F).length<=1000:=(by rw[HN.o.1,Zd]at r2;have:=HG.o.2.1;omega);have⟨HC,HT⟩:=qb (fun W' (y1:Qb [] wr W')=>oS (.slice av mo cv) _ f W' (hR.ent.kZ y1) r1 y2 r3 (yx (HG.o.2.2 f<|QB hf))<|(HF.o.2.2.2.kept x0 sx).kept y1 sx) (by unfold Bu;rw[Zh,hf,BS];rfl:Bu (x.act.files.take<|i+1) F=XT (·.1) f (Bu (x.act.files.take i) F));have n2:w.heap.size<wr.heap.size:=A2.lt;have x1:=Qa<|Qr h8<|Qr A2<|Qr n2<|show W.heap.size<=wr.heap.size from h8.size;clear K0 P3 P4 h8 x0 hf r1 r2 r3 y2 hR x7 A2 HI n2;go_wp2_with fail
   go_region_law (go_simp;go_fit(HC.o _ (Qc [] wr).drew);rintro e w1⟨v,rfl,h9,h5,h4⟩;obtain⟨a1,e1,rfl,-⟩:=Jr.ent h9;have A1:=x1.o.2.1.kept ((Qc [] wr).drew.trans h5 sx) sx;have z2:=A1.cq 0;have z3:=A1.free 0;have y4:=Qa A1;clear A1)
   all_goals (
    go_wp2
    go_roundg (o-(i+1))
    case measure=>omega
    have y5:=(Qc [] wr).drew.trans h5 sx;refine⟨i+1,_,_,_,ox,rfl,by go_num,Qa ⟨y4.o.set 0 _,by rw[HT.o];exact Qm.kept h9 ((Qc [w.heap.size] w1).setCell (p:=⟨w.heap.size,0,none⟩) (.inl sx) _) (fun y hy hm=>by have h2:=x1.o.2.2.1;have h3:wr.heap.size<=y:=h4 y hy;simp at hm;omega),(x1.o.1.trans y5 sx).setCell (.inl sx) _,fun y hy=>.inl ?_⟩⟩;have h1:wr.heap.size<=y:=h4 y hy;have h2:=x1.o.2.2.2;omega)
  obtain rfl:o=i:=ox
  have g0:¬(o:Int)<o:=ox
  have c3:=(P3.kept h8 b3).cq 4 (u:=.slice af o cf);have A4:=P4.kept h8 b4;have c4:=A4.cq 0 (u:=.slice none 0 0);have x4:=A4.free 0;have⟨x9,HE⟩:=qb (Qr A4 x0) (by rw[<-HL.o,<-Q5 (l:=x.act.files) (i:=o) (by rw[HN.o.2.1];exact Qk _)];exact hR:Jr wr (.slice av mo cv) L);clear K0 P3 P4 h8 x0 hR A4 A2 HI;go_wp2_with fail;refine Zj (Ec rfl _ _ (x9.o.1.set 0 _) rfl) rfl ?_;refine .fin x9.o.2 ox HE.o (fun y hy=>(x7 y hy).imp (fun h=>by have:=HZ.o;omega) id) fun hm=>?_;rcases x7 _ hm with h|h
  ·have:=HZ.o;omega
  have:=y0.o _ h;omega
 rw[Qf k5]at q;have HL:=Qa q;have q5:(x.act.kind==5)=false:=Ze.2 k5;have c4:=HP.o.2.2.2.cq 0 (u:=.slice none 0 0);have x4:=HP.o.2.2.2.free 0;clear q k0 k1 k5;go_wp2_with fail;refine Zj (Ec rfl _ _ (HP.o.2.2.2.set 0 _) rfl) rfl ?_;rw[<-HL.o];refine .fin HP.o.1 ox ?_ (fun y hy=>.inr hy) (fun hm=>by have:=y0.o _ hm;omega);exact Qm.kept HF.o.1 HP.o.1<|Zy _
end
section
open Go.Sort Go.Shelf
def rP(w:WD)(s:Vst)(e:Ending)(w':WD):Prop:=∃d a c,e=.returned (.tuple #[.slice a s.dev.cap c,.bool true])/\IB s d/\Qh w' 3 (.slice a s.dev.cap c) (Qi d)/\Qb [] w w'/\∀d∈Qd (.slice a s.dev.cap c),w.heap.size<=d
def jJ{s:Vst}{c:LU->LU}(hv:Vok s c)(v:VL)(w:WD)(h:J6 w v s.mem):Calls prog 19 #[v,s.dev.cap] w (rP w s):=by
 obtain⟨al,cl,rfl,hs,-⟩:=h;have⟨n,hn⟩:=qx s.mem.length;have⟨cap,h9⟩:=qx s.dev.cap;have h1:=hv.few;have h2:=hv.dev.c2;rw[hn]at hs h1 ⊢;rw[h9]at h2 ⊢;have⟨HS,HV,x5⟩:=qc hs (Qr hv<|Qr hn h9)<|Jf.start s.mem cap;clear hs hv hn h9;go_enter func19,ntmps19;go_wp2_with ((at_make;refine Jp rfl _ _ 51 rfl 3 (0:Int) 8 XP XZ rfl .i64 .i64 _ _ cap cap rfl rfl rfl rfl (Qk _) ox (by simp only[maxLen];omega) ?_;intro w2 h8 x2));have⟨g,hg⟩:=qx w.heap.size;rw[hg]at h8 ⊢;have e0:List.replicate cap (Value.int .i64 0)=Qi (List.replicate cap 0):=by simp[Qi]
 rw[e0]at h8;have⟨x4,x3,HG⟩:=qc h8 x2 hg;clear h8 x2 hg e0
 go_loopg [7,8] n (fun k x7 x8 wr=>∃(i:Nat)(o:LN),i<=n/\k=n-i/\x7=.int .i64 (i:Nat)/\Hid (Jf s.mem cap i 0 o/\Qh wr 3 (.slice (some ⟨g,0,none⟩) cap cap) (Qi o)/\Qb [] w wr))
 ·exact⟨0,_,ox,ox,rfl,Qa ⟨x5.o,x4.o,x3.o⟩⟩
 obtain⟨i,o,hi,hk,rfl,HI⟩:=hrel
 by_cases hlt:i<n
 ·have q0:(i:Int)<n:=ox
  have⟨m,hm⟩:=qy s.mem i (yx HV.o.2.1);have x1:=HV.o.1.inX<|QB hm;rw[HV.o.2.2]at x1;obtain⟨i1,i2,i3⟩:=x1;obtain⟨g1,off,rfl,c0,c1,c2,c3,c4⟩:=RA (HS.o.kZ HI.o.2.2) hm;obtain⟨a,ha⟩:∃a:Nat,m.start=(a:Int):=⟨m.start.toNat,ox⟩;obtain⟨b,hb⟩:∃b:Nat,m.eZ=(b:Int):=⟨m.eZ.toNat,ox⟩;rw[ha]at c1 i1 i3;rw[hb]at c2 i2 i3;have⟨HM,H0⟩:=qb (Qr hm<|Qr ha hb) (HI.o.1.skip (k':=((a+0:Nat):Int)) hm ox ox);have w1:IntKind.i64.wrap ((a:Int)+b)=(a:Int)+b:=by rw[Zq];omega
  clear hm ha hb;go_wp2_with fail;obtain⟨W,hW⟩:∃W:WD,W=wr:=⟨_,rfl⟩;subst hW
  go_loopg [8] b (fun k x8 wz=>∃(q:Nat)(o:LN),q<=b/\k=b-q/\x8=.int .i64 ((a+q:Nat):Int)/\Hid (Jf s.mem cap i ((a+q:Nat):Int) o/\Qh wz 3 (.slice (some ⟨g,0,none⟩) cap cap) (Qi o)/\Qb [g] W wz))
  ·exact⟨0,o,ox,ox,rfl,Qa ⟨H0.o,HI.o.2.1,Qc _ _⟩⟩
  obtain⟨q,o',hq,x6,rfl,HJ⟩:=hrel;have n1:g1∉[g]:=by have h3:=Uc W _ c0;have h4:=(HS.o.2 (i*5) (.string<|str m.path) (by rw[show i*5=i*5+0 from rfl,Vy (enc:=Q9) (k:=5) cM s.mem i 0 m HM.o.1 dx];rfl));obtain⟨g2,o2,h5,h6⟩:=h4;injection h5 with h5;injection h5 with h5 h7;subst h5;have:=Uc w _ h6;simp at this;have:=HG.o;simp;omega
  have d1:=HJ.o.2.2.cZ c1 n1;have d2:=HJ.o.2.2.cZ c2 n1
  by_cases x9:q<b
  ·have r0:((a+q:Nat):Int)<a+(b:Int):=ox;obtain⟨u1,u2⟩:=HJ.o.1.put HV.o.1 HM.o.1 (by rw[HM.o.2.1];omega) (by rw[HM.o.2.1,HM.o.2.2];omega) HV.o.2.2.symm;have d0:=HJ.o.2.1.aZ<|Cj u1;have x0:=HJ.o.2.1.free<|a+q;obtain⟨r1,r2,r3⟩: ¬((a+q:Nat):Int)<30/\¬(cap:Int)<=((a+q:Nat):Int)/\a+q<cap:=ox;have⟨HU,HP⟩:=qb u2 (fun nq=>show Qh ((wr.drewN nq).setCell ⟨g,a+q,none⟩ ((i+1:Nat):Int)) 3 (.slice (some ⟨g,0,none⟩) cap cap) (Qi<|o'.set (a+q)<|i+1)by rw[Bz];exact(HJ.o.2.1.drewN nq).put _ _);clear u1 u2 i1 i2 i3;go_wp2_with fail;go_quiet (fail)
   go_wp2
   go_roundg (b-(q+1))
   ·exact⟨q+1,_,ox,rfl,by go_num,Qa ⟨HU.o,HP.o _,(HJ.o.2.2.drewN _).setCell (.inl sx) _⟩⟩
   omega
  obtain rfl:b=q:=ox
  have r0:¬((a+b:Nat):Int)<a+(b:Int):=ox
  have HN:=Qa<|HJ.o.1.next (k':=0) HM.o.1 (by rw[HM.o.2.1,HM.o.2.2];omega)<|AZ 0;clear i1 i2 i3;go_wp2_with fail;go_quiet (fail)
  go_wp2
  go_roundg (n-(i+1))
  ·exact⟨i+1,_,ox,rfl,by go_num,Qa ⟨HN.o,HJ.o.2.1.drewN _,HI.o.2.2.trans (HJ.o.2.2.drewN _) fun y hy=>.inr (by simp at hy;have:=HG.o;omega)⟩⟩
  omega
 obtain rfl:n=i:=ox
 have q0:¬(n:Int)<n:=ox
 have HE:=Qa<|HI.o.1
 go_wp2
 go_ret2;obtain⟨hv,e1,e2⟩:=HV.o;subst e2;exact⟨o,some ⟨g,0,none⟩,_,rfl,Jf.stop HI.o.1 ox,HI.o.2.1,HI.o.2.2,fun y hy=>by simp[Qd,qo]at hy;have:=HG.o;omega⟩
def Qhr(a:OA)(c N:Nat)(o:LN)(need:Nat)(w:WD)(hN:o.length=N)(h:Qp w 1 a N (Qi o))(h1:1<=need)(h2:need<=1000000)(h3:30<=N)(h4:N<=4096):
 Calls prog 25 #[.slice a N c,need] w fun e w'=>(∃r,e=.returned (.int .i64 r)/\IH o need r)/\w'=w:=by
 have⟨HS,HN,h8⟩:=qc h hN<|U4.start o h1;clear h hN;go_enter func25,ntmps25
 go_wp2
 go_loopg [5,6] (N-30) (fun kk x5 x6 wr=>(∃k r:Nat,30<=k/\k<=N/\kk=N-k/\x5=.int .i64 (r:Int)/\x6=.int .i64 (k:Int)/\Hid (U4 o need k r))/\wr=w)
 ·exact⟨⟨30,0,ox,ox,ox,rfl,rfl,h8⟩,rfl⟩
 obtain⟨⟨k,r,h9,x0,x1,rfl,rfl,y⟩,rfl⟩:=hrel;have x2:=y.o.lt;have x3:=y.o.le
 by_cases hlt:k<N
 ·have q0:(k:Int)<N:=ox
  have⟨u,hu⟩:=qy o k (yx HN.o);obtain⟨g,off,rfl,d0⟩:=HS.o.2 k _<|Cj hu
  by_cases h5:u=0
  ·subst h5;have HF:=Qa<|y.o.free hu;clear hu
   by_cases he:r+1=need
   ·have q1:((r:Int)+1==(need:Int))=true:=zx;have q:=Qa<|HF.o.1 he;have w1:IntKind.i64.wrap ((k:Int)+1-(need:Int))=(k:Int)+1-need:=(by rw[Zq];omega);clear HF
    go_wp2
    go_ret;exact⟨⟨_,rfl,by have:=q.o;rwa[show((k+1-need:Nat):Int)=k+1-need by omega]at this⟩,rfl⟩
   have q1:((r:Int)+1==(need:Int))=false:=zx;have q:=Qa<|HF.o.2 he;clear HF
   go_wp2
   go_roundg (N-(k+1))
   ·exact⟨⟨k+1,r+1,ox,ox,rfl,by go_num,by go_num,q⟩,rfl⟩
   omega
  have q1:((u:Int)==0)=false:=zx
  have q2:((0:Int)==(need:Int))=false:=zx
  have q:=Qa<|y.o.full (by rw[hu];simpa using h5);clear hu
  go_wp2
  go_roundg (N-(k+1))
  ·exact⟨⟨k+1,0,ox,ox,rfl,rfl,by go_num,q⟩,rfl⟩
  omega
 obtain rfl:N=k:=ox
 have q0:¬(N:Int)<N:=ox
 have q:=Qa<|y.o.stop (yx HN.o)
 go_wp2
 go_ret;exact⟨⟨_,rfl,q.o⟩,rfl⟩
end
section
open Go.Sort Go.Shelf

end
section
open Go.Sort Go.Shelf
def Vst.more(s:Vst)(k:Nat):Vst:={s with dev:={s.dev with lZ:=s.dev.lZ+k}}
def Vok.more{s:Vst}{c:LU->LU}(h:Vok s c)(k:Nat)(hk:s.dev.lZ+k<=1000000000):Vok (s.more k) c:=
 ⟨⟨h.dev.c1,h.dev.c2,h.dev.len,h.dev.sec,hk⟩,h.pZ,QS h.gen<|MO _ _,h.next,h.rise,h.few,h.mems,h.ext⟩
def Qb.old{T S:LN}{W w w1:WD}{c:Addr}{u:VL}(hk:Qb T w w1)(d:QQ W.heap.size S T)(h:w.cell? c=some u)(e:c.block∉S)(g:c.block<W.heap.size):w1.cell? c=some u:=
 hk.cZ h (fun c=>(d _ c).elim e fun h=>ox)
def qP(w:WD)(a d:Nat)(c g mv:VL)(s:Vst)(e:Ending)(w':WD):Prop:=e=.returned (.bool true)/\∃k,k<=3200/\ZU w a d c g mv (s.more k) w'
def Qb1{a d:Nat}{nv pv mv:VL}{s:Vst}{w:WD}{c:LU->LU}(h:Zn w a d nv pv mv s)(hv:Vok s c)(fm:VL)(hF:Jr w fm (ZX s c))(hap:∀y∈Qd fm,y∉QN a d nv pv mv)(hc:s.dev.lZ+20000<=1000000000):
 Calls prog 20 #[.pointer a,.agg #[fm]] w (qP w a d nv pv mv s):=by
 obtain⟨af,cf,rfl,x2⟩:=hF.ent;have⟨n,hn⟩:=qx s.mem.length;have x4:(ZX s c).length=n:=by unfold ZX;rw[QH,hn]
 rw[x4]at x2 hap ⊢;have p6:=hv.few;rw[hn]at p6;have⟨HH,HV,y2,p1⟩:=qd h (Qr hv<|Qr hn hc) (Qr x2<|Qr x4 hap) fun W (hW:Qb [] w W)=>Qdb (h.kZ hW).vt (yx hv.few);have A3:=Qx w [.slice af n cf] 32;have c3:=A3.cq 0;have K3:=(Qc [] w).alloc<|.cells #[.slice af n cf] 32;have x0:=Qa<|Qr A3 K3;clear x2 hap h hv hn hc x4 hF A3 K3;go_enter func20,ntmps20;go_wp2_with (go_fit(p1.o _ x0.o.2);rintro e w6⟨v9,rfl,z6,x3,z1⟩;obtain⟨a9,c9,p0,-,-,z7,y8⟩:=z6.sees;rw[UF,QH,HV.o.2.1]at p0;subst p0;have d3:=(x0.o.1.kept x3 sx).cq 0);obtain⟨W,hW⟩:∃W:WD,W=w6:=⟨_,rfl⟩;subst hW;have⟨S,hS⟩:=qx<|QN a d nv pv mv;have⟨HK,y5⟩:=qb (x0.o.2.trans x3 sx) (by rw[<-hS];exact HH.o.vt.lt: ∀y∈S,y<w.heap.size);have⟨y3,y4,p2,p3,p5,x1,x5⟩:=qg (show w.heap.size∉S from fun hm=>CE _<|y5.o _ hm) (show ∀y∈fZ a9,y∉S from fun y hy hm=>by rw[y8]at hy;have:=z1 y hy;have:=y5.o y hm;simp at*;omega) (by rw[<-hS];exact y2.o.2.2: ∀y∈Qd (.slice af n cf),y∉S) z7 (HH.o.kZ HK.o) hS d3;clear z6 x3 z1 z7 y8 d3 c3 hS
 go_loopg [6,7,8] n (fun k x6 x7 x8 wr=>∃(i q:Nat)(h8 h9 h5:VL),i<=n/\k=n-i/\x6=.int .i64 (i:Nat)/\Hid (Zn wr a d h8 h9 h5 (s.more q)/\q<=200*i)/\Hid (Qb S W wr/\QQ W S (QN a d h8 h9 h5)))
 ·exact⟨0,0,nv,pv,mv,ox,ox,rfl,Qa ⟨p5.o,ox⟩,Qa ⟨Qc _ _,by rw[x1.o];exact QQ.refl _ _⟩⟩
 obtain⟨i,q,h8,h9,h5,hi,hk,rfl,HI,o⟩:=hrel
 by_cases hlt:i<n
 ·have q0:(i:Int)<n:=ox
  obtain⟨hv,hn,hc⟩:=HV.o;have⟨m,hm⟩:=qy s.mem i ox;have h4:=QB hm;have z8:m.eZ.toNat<=200:=by have h1:=(hv.mems m h4).eZ;have h2:=Vz (f:=(m.path,c m.path)) (hv.plen h4) (hv.mems m h4).big;omega
  have y7:(ZX s c)[i]?=some (m.path,c m.path):=by unfold ZX;rw[Zz,hm];rfl
  obtain⟨g,off,rfl,y0,y1⟩:=Cd (y2.o.1.kZ HK.o) y7;have nf:g∉S:=p2.o g (by simp[Qd,qo]);simp only[]at y0 y1;have f0:=o.o.1.cZ y0 nf;have f1:=o.o.1.cZ y1 nf;have lg:=Uc W _ y0;obtain⟨g9,o9,e9,z9⟩:=p3.o.2 i (.string<|str m.path) (by rw[Fz (x:=m.path) (by rw[Zz,hm];rfl)]);subst e9;have d9:=o.o.1.cZ z9 (y4.o g9<|by simp[fZ]);have lr:=Uc W _ z9;have d3:=o.o.1.cZ x5.o y3.o;have⟨x9,HM⟩:=qb (fun W' (p7:Qb [] wr W')=>cY (HI.o.1.kZ p7) (hv.more q (yx HI.o.2)) (m:=m) h4 (by have:=HI.o.2;show s.dev.lZ+q+10000<=_;omega))<|Qr lg<|Qr lr<|Qr nf<|Qr (y4.o g9<|by simp[fZ]) z8;have t1:((str m.path).toList==(str m.path).toList)=true:=sx
  have t2:((str<|c m.path).toList==(str<|c m.path).toList)=true:=sx
  have⟨p,hp⟩:=qx m.path;rw[hp]at f0 f1 d9 t1 t2 x9;clear hm h4 z8 y7 y0 y1 hv hn hc hp lg lr nf z9;go_wp2_with (go_fit(x9.o _<|Qc _ _);rintro e w1⟨rfl,p9,q1,p8,y6,h3,y9⟩;have k0:=h3.old o.o.2 f0 HM.o.2.2.1 HM.o.1;have k1:=h3.old o.o.2 f1 HM.o.2.2.1 HM.o.1;have k9:=h3.old o.o.2 d9 HM.o.2.2.2.1 HM.o.2.1;have k3:=h3.old o.o.2 d3 y3.o<|Uc W _ x5.o;have p4:=Qa<|Qr y6<|Qr h3 y9;clear y6 h3 y9);go_quiet (fail)
  go_wp2
  go_roundg (n-(i+1))
  ·obtain⟨v2,r2,g2⟩:=p4.o;have e1:s.more (q+m.eZ.toNat)={s.more q with dev:={(s.more q).dev with lZ:=(s.more q).dev.lZ+m.eZ.toNat}}:=(by simp[Vst.more,Y7]);refine⟨i+1,q+m.eZ.toNat,p9,q1,p8,ox,rfl,by go_num,Qa ⟨e1▸v2.kZ ((Qc [] w1).drewN _),wx HI.o.2 HM.o.2.2.2.2⟩,Qa ⟨(o.o.1.trans r2 fun y hy=>o.o.2 y hy).drewN _,o.o.2.trans g2 o.o.1.size⟩⟩
  omega
 obtain rfl:n=i:=ox
 have q0:¬(n:Int)<n:=ox
 go_wp2
 go_ret;refine⟨rfl,q,yx HI.o.2,h8,h9,h5,HI.o.1,?_,?_⟩
 ·rw[x1.o];exact(HK.o.mono sx).trans o.o.1 fun y hy=>.inl hy
 rw[x1.o];exact fun y hy=>(o.o.2 y hy).imp id fun h=>QS HK.o.size h
end
section
open Go.Sort Go.Shelf
structure Er(s s':Vst)(a:Ys)(e:Int)(c c':LU->LU):Prop where
 done:Cx s s' e c' a.files.length
 files:ZX s' c'=if e=0 then a.goes (ZX s c)else ZX s c
 stay:a.kind≠3->U5 s s'
 tile:a.kind=3->e=0->YV s' c' [] (30+ZV s'.mem)/\s'.dev.img.length<=30+ZV s'.mem
def Er.none{s s':Vst}{a:Ys}{e:Int}{c:LU->LU}(h:Vok s c)(g:s'=s)(d:e≠0)(k:a.kind≠3):Er s s' a e c c:=by subst g;exact⟨.none h rfl _,(Qf d).symm,fun _=>U5.refl _,fun h=>absurd h k⟩
def Vok.acts{s:Vst}{c:LU->LU}(h:Vok s c)(a:Ys)(hc:s.dev.lZ+100000<=1000000000):∃c',Er s (s.does a).2 a (s.does a).1 c c':=by
 unfold Vst.does;have h9:∀l:List QC,l.length<=a.files.length+1->a.kind≠3->Bu l (ZX s c)=a.goes (ZX s c)->∃c',Er s (s.put l).2 a (s.put l).1 c c':=fun l hl h3 hg=>by
  by_cases h0:(s.put l).1=0
  ·obtain⟨o,q,y⟩:=h.put l ox h0;exact⟨_,o.done (.inl h0) ox,by rwa[Qg h0,<-hg],fun _=>q,fun h=>absurd h h3⟩
  exact⟨c,.none h (kF h0) h0 h3⟩
 split
 ·rename_i k;exact h9 _ sx ox (by unfold Ys.goes;rw[Qg k];rfl)
 split
 ·rename_i k0 k
  by_cases h0:(s.del a.path).1=0
  ·obtain⟨o,q,y⟩:=h.del a.path ox h0;exact⟨_,o.done (.inl h0) ox,by rw[Qg h0];unfold Ys.goes;rw[Qf k0,Qg k];exact zJ y,fun _=>q,fun h=>ox⟩
  exact⟨c,.none h (Vst.del_none h0) h0 ox⟩
 have h8:a.kind≠0->a.kind≠1->a.kind≠5->∀{e:Int}{F:List QC},F=ZX s c->F=if e=0 then a.goes (ZX s c)else ZX s c:=fun k0 k1 k5 e F hF=>by unfold Ys.goes;rw[Qf k0,Qf k1,Qf k5,hF];split<;>rfl
 split
 ·rename_i k0 k1 k
  by_cases h0:(s.move a.path a.tg).1=0
  ·obtain⟨m,hm,o,q,y⟩:=h.move ox h0;exact⟨_,o.done (.inl h0) (yx (Qjs hm)),h8 k0 k1 ox (KJ y).1,fun _=>q,fun h=>ox⟩
  exact⟨c,.none h (Vst.move_none h0) h0 ox⟩
 split
 ·rename_i k0 k1 k2 k;obtain⟨o,q,y,h5⟩:=h.compact ox;exact⟨_,q.done o ox,h8 k0 k1 ox (KJ y).1,fun h=>absurd k h,fun _=>h5⟩
 split
 ·rename_i k0 k1 k2 k3 k;obtain⟨o,q,y,h5,-⟩:=h.trim ox;exact⟨_,q.done (.inl o) ox,h8 k0 k1 ox (by unfold ZX;rw[h5]),fun _=>y,fun h=>ox⟩
 split
 ·rename_i k0 k1 k2 k3 k4 k;exact h9 _ sx ox (by unfold Ys.goes;rw[Qf k0,Qf k1,Qg k])
 rename_i k0 k1 k2 k3 k4 k5;exact⟨c,.none h rfl _,h8 k0 k1 k5 rfl,fun _=>U5.refl _,fun h=>absurd h k3⟩
structure VN(w:WD)(B:Nat)(S:LN)(v:VL)(F:List QC):Prop where
 arr:Qe w B 32 [v]
 row:Jr w v F
 off:∀y∈Qd v,y∉S/\y≠B
 bs:B∉S
def VN.kept{w w1:WD}{e:Nat}{S c:LN}{v:VL}{F:List QC}(h:VN w e S v F)(hk:Qb S w w1)(i:QQ w.heap.size S c):VN w1 e c v F:=
 ⟨h.arr.kept hk h.bs,Qm.kept h.row hk fun c d=>(h.off c d).1,fun c d=>⟨fun g=>(i c g).elim (h.off c d).1 (fun j=>by have:=Qm.lt h.row c d;omega),(h.off c d).2⟩,
  fun g=>(i e g).elim h.bs (fun j=>by have:=h.arr.lt;omega)⟩
def VN.kZ{w w1:WD}{c:Nat}{S:LN}{v:VL}{F:List QC}(h:VN w c S v F)(hk:Qb [] w w1):VN w1 c S v F:=
 ⟨h.arr.kept hk sx,Qm.kept h.row hk<|Zy _,h.off,h.bs⟩
def VN.set{w w1:WD}{d:Nat}{S:LN}{v e:VL}{F g:List QC}(h:VN w d S v F)(m:∀c∈S,c<w.heap.size)(hk:Qb [] w w1)(n:Jr w1 e g)(hf:∀x∈Qd e,w.heap.size<=x\/x∈Qd v):VN (w1.setCell ⟨d,0,none⟩ e) d S e g:=by
 have l:∀c∈Qd e,c∉S/\c≠d:=fun c i=>by
  rcases hf c i with j|j
  ·exact⟨fun g=>by have:=m c g;omega,fun m=>by have:=h.arr.lt;omega⟩
  exact h.off c j
 exact⟨(h.arr.kept hk sx).set 0 e,Qm.kept n ((Qc [d] w1).setCell (p:=d) (.inl sx) _) fun c i g=>(l c i).2 (by simpa using g),l,h.bs⟩
end
noncomputable def UP(gen:Nat):Nat->List (List Note)->LY
 |_,[]=>[]
 |i,ns::r=>JV gen i ns++UP gen (i+ns.length+1) r
def ZY:List (List Note)->Nat
 | []=>0
 |ns::r=>ns.length+1+ZY r
def OK(ns:List Note):∀r:List (List Note),ZY (r++[ns])=ZY r+ns.length+1
 | []=>by simp[ZY]
 |x::r=>by rw[XY,ZY,OK ns r,ZY];omega
def Lc(gen:Nat):∀(r:List (List Note))(i:Nat),(UP gen i r).length=ZY r
 | [],_=>rfl
 |x::r,i=>by rw[UP,Qo,RI,Lc gen r,ZY]
def fR(gen:Nat)(ns:List Note):∀(r:List (List Note))(i:Nat),UP gen i (r++[ns])=UP gen i r++JV gen (i+ZY r) ns
 | [],i=>by simp[UP,ZY]
 |x::r,i=>by rw[XY,UP,fR gen ns r,UP,QR,ZY,show i+x.length+1+ZY r=i+(x.length+1+ZY r)by omega]
def Xu.append{img:LY}{s:Nat}{A c:LY}(h:Xu img s A)(k:Xu img (s+A.length) c):Xu img s (A++c):=fun c e d=>by
 by_cases hi:c<A
 ·rw[Xc hi]at d;exact h c e d
 rw[Zm ox]at d;have:=k (c-A.length) e d;rwa[(ox:s+A.length+(c-A.length)=s+c)]at this
def Az(gen:Nat)(x:LU):Prop:=x=Q3 512\/∃(kind:UInt8)(d e:Nat)(c:LU),x=Yn kind d e c/\d<gen/\kind≠0/\e<=100/\c.length<=486
def Az.more{gen:Nat}{x:LU}(h:Az gen x):Az (gen+1) x:=by
 rcases h with h|⟨a,b,c,d,e,g,g⟩
 ·exact .inl h
 exact .inr ⟨a,b,c,d,e,ox,g⟩
def kQ(gen:Nat):∀(ns:List Note)(i:Nat),(∀n∈ns,n.2.path.length<=120)->i+ns.length<=100->∀x∈Jz gen i ns,Az (gen+1) x
 | [],_,_,_,x,c=>by simp[Jz]at c
 |n::r,i,hp,hi,x,c=>by
  rw[Jz]at c;rw[QW]at hi;rcases QD.1 c with rfl|c
  ·refine .inr ⟨_,gen,i,VC n,rfl,MP _,by split<;>decide,ox,?_⟩;have:=Pg<|hp n<|Yv ..;omega
  exact kQ gen r (i+1) (fun e d=>hp e<|XO _ d) ox x c
def fQ(gen:Nat):∀(r:List (List Note))(i:Nat),(∀ns∈r,∀n∈ns,n.2.path.length<=120)->i+ZY r<=100->∀x∈UP gen i r,Az (gen+1) x
 | [],_,_,_,x,c=>by simp[UP]at c
 |ns::r,i,hp,hi,x,c=>by
  rw[UP]at c;rw[ZY]at hi;rcases Q4.1 c with c|c
  ·unfold JV at c;rcases Q4.1 c with c|c
   ·exact kQ gen ns i (hp ns<|Yv ..) ox x c
   rw[Zb.1 c];exact .inr ⟨3,gen,i+ns.length,_,rfl,MP _,dx,ox,sx⟩
  exact fQ gen r _ (fun e d=>hp e<|XO _ d) ox x c
structure Dx(cap:Int)(l:List RM):Prop where
 rise:Uv l
 few:l.length<=16
 rm:∀m∈l,UH m
 ext:ZZ cap (l.map ZW)=true
def Vok.base{s:Vst}{c:LU->LU}(h:Vok s c):Dx s.dev.cap s.mem:=⟨h.rise,h.few,h.rm,h.ext⟩
structure Q6(s:Vst)(b:List RM)(r:List (List Note)):Prop where
 slot:Xu s.dev.img (s.gen%2*5) (Yp s.gen b)
 log:Xu s.dev.img 10 (UP s.gen 0 r)
 len:ZY r=s.next
 mem:s.mem=r.foldl Q8 b
 mids:∀k,k<=r.length->Dx s.dev.cap ((r.take k).foldl Q8 b)
 ok:∀ns∈r,ns≠[]/\∀n∈ns,Ax n
 stale:∀i x,s.next<=i->i<20->s.dev.img[10+i]?=some x->Az s.gen x
 other:s.dev.img.length<=(s.gen+1)%2*5\/s.dev.img[(s.gen+1)%2*5]?=some (Q3 512)\/∃g l,g<s.gen/\g%2=(s.gen+1)%2/\Dx s.dev.cap l/\Xu s.dev.img ((s.gen+1)%2*5) (Yp g l)
def Ax.path{n:Note}(h:Ax n):n.2.path.length<=120:=by
 rcases h with⟨-,h⟩|⟨-,h,-⟩
 ·exact(XU h.ok).2.2
 exact(XU h).2.2
def Qlo{img:LY}{i k:Nat}{x:LU}(c:img.length<=k)(d:k<i):(JM img i x)[k]?=some (Q3 512):=by unfold JM;rw[Il ox,Zm c,V1,Qg ox]
def oY{img:LY}{i k:Nat}:∀{L:LY},L≠[]->img.length<=k->k<i->(wrL img i L)[k]?=some (Q3 512)
 | [],h,_,_=>absurd rfl h
 |x::L,_,h1,h2=>by rw[wrL,RQ L _ (i+1) k ox (by rw[Hy];omega),Qlo h1 h2]
def Q6.save{s:Vst}{c:LU->LU}{b:List RM}{r:List (List Note)}(h:Q6 s b r)(m:Vok s c):Q6 s.save s.mem []:=by
 have j:=Un (s.gen+1) s.mem;have i:(s.gen+1+1)%2=s.gen%2:=ox
 have p:s.save.dev.img=wrL s.dev.img ((s.gen+1)%2*5) (Yp (s.gen+1) s.mem):=rfl;have l:=m.next;refine⟨FI _ _ _,fun k o d=>by simp[UP]at d,rfl,rfl,fun k _=>?_,fun n g=>by simp at g,fun e o _ q d=>?_,?_⟩
 ·rw[List.take_nil];exact m.base
 ·rw[p]at d;have hlt:=(Qy.1 d).1
  by_cases m:10+e<s.dev.img
  ·rw[RQ _ _ _ _ (.inr (by rw[j];omega)) m]at d
   by_cases hi:s.next<=e
   ·exact(h.stale e o hi q d).more
   have m:=Lc s.gen r 0;rw[h.len]at m;have h6:=h.log e _ (Qj ox);rw[d]at h6;injection h6 with h6;rw[h6];exact fQ s.gen r 0 (fun n g d l=>((h.ok n g).2 d l).path) (by rw[h.len];omega) _<|Yc _
  rw[Em,Qf ox]at hlt;omega
 show _\/_\/_;right;right;refine⟨s.gen,b,MP _,i.symm,?_,?_⟩
 ·have:=h.mids 0<|Zv _;show Dx s.dev.cap b;simpa using this
 show Xu _ ((s.gen+1+1)%2*5) _;rw[i];exact h.slot.wr _ (by rw[j,Un];omega)
def Q6.room{s:Vst}{c:LU->LU}{b:List RM}{r:List (List Note)}(h:Q6 s b r)(d:Vok s c)(n:Nat):∃b r,Q6 (s.room n) b r:=by
 unfold Vst.room
 split
 ·exact⟨b,r,h⟩
 exact⟨_,_,h.save d⟩
structure High(s s':Vst):Prop where
 gen:s'.gen=s.gen
 next:s'.next=s.next
 mem:s'.mem=s.mem
 cap:s'.dev.cap=s.dev.cap
 img:∀k,k<30->s'.dev.img[k]?=s.dev.img[k]?\/(s.dev.img.length<=k/\s'.dev.img[k]?=some (Q3 512))
def Q6.high{s s':Vst}{b:List RM}{r:List (List Note)}(h:Q6 s b r)(k:High s s')(c:s.next<=20):Q6 s' b r:=by
 have hh:∀{c:Nat}{d:LY},Xu s.dev.img c d->c+d.length<=30->Xu s'.dev.img c d:=fun {c d} hL hp g j hx=>by
  have e:=hL g j hx;have l:=(Qy.1 hx).1;have d:=(Qy.1 e).1;rcases k.img (c+g) ox with c|⟨c,-⟩
  ·rwa[c]
  omega
 refine⟨by rw[k.gen];exact hh h.slot (by rw[Un];omega),by rw[k.gen];exact hh h.log (by rw[Lc,h.len];omega),by rw[k.next];exact h.len,by rw[k.mem];exact h.mem,by rw[k.cap];exact h.mids,h.ok,fun g j e l d=>?_,?_⟩
 ·rw[k.gen];rw[k.next]at e;rcases k.img (10+g) ox with c|⟨c,i⟩
  ·rw[c]at d;exact h.stale g j e l d
  rw[i]at d;injection d with d;exact .inl d.symm
 rw[k.gen,k.cap];rcases k.img ((s.gen+1)%2*5) ox with c|⟨c,i⟩
 ·rcases h.other with h6|h6|⟨d,j,h6,h7,e,g⟩
  ·left;rw[QU h6]at c;exact List.getElem?_eq_none_iff.1 c
  ·exact .inr<|.inl<|c.trans h6
  exact .inr<|.inr ⟨d,j,h6,h7,e,hh g (by rw[Un];omega)⟩
 exact .inr<|.inl i
def High.wr{s:Vst}(i:Nat)(L:LY)(t:Nat)(hi:30<=i):High s {s with dev:=(s.dev.wr i L).tick t}:=by
 refine⟨rfl,rfl,rfl,rfl,fun k hk=>?_⟩;show(wrL s.dev.img i L)[k]?=_\/_/\(wrL s.dev.img i L)[k]?=_
 by_cases c:L=[]
 ·subst c;exact .inl rfl
 by_cases d:k<s.dev.img
 ·exact .inl<|RQ _ _ _ _ (.inl ox) d
 exact .inr ⟨ox,oY c ox ox⟩
def High.trans{s s1 c:Vst}(h:High s s1)(k:High s1 c):High s c:=by
 refine⟨k.gen.trans h.gen,k.next.trans h.next,k.mem.trans h.mem,k.cap.trans h.cap,fun c hi=>?_⟩;rcases k.img c hi with k1|⟨k1,k2⟩
 ·rw[k1];exact h.img c hi
 rcases h.img c hi with c|⟨c,d⟩
 ·rw[QU k1]at c;exact .inr ⟨List.getElem?_eq_none_iff.1 c.symm,k2⟩
 rw[QU k1]at d;cases d
def High.refl(s:Vst):High s s:=⟨rfl,rfl,rfl,rfl,fun _ _=>.inl rfl⟩
def Q6.commit{s:Vst}{b:List RM}{r:List (List Note)}(h:Q6 s b r){ns:List Note}(c:s.next+ns.length+1<=20)(h0:ns≠[])(o:∀n∈ns,Ax n)(hb:Dx s.dev.cap (Q8 s.mem ns)):Q6 (s.commit ns) b (r++[ns]):=by
 have c:=RI s.gen s.next ns;have hne:JV s.gen s.next ns≠[]:=fun d=>by rw[d]at c;simp at c
 have hi:(s.commit ns).dev.img=wrL s.dev.img (10+s.next) (JV s.gen s.next ns):=rfl;have l:=Lc s.gen r 0;rw[h.len]at l;refine⟨h.slot.wr _<|.inl (by rw[Un];omega),?_,?_,?_,fun k hk=>?_,fun i c=>?_,fun g i j m e=>?_,?_⟩
 ·show Xu (wrL s.dev.img (10+s.next)<|JV s.gen s.next ns) 10 (UP s.gen 0<|r++[ns]);rw[fR];refine Xu.append (h.log.wr _<|.inl ox) ?_;rw[l,h.len,Zu];exact FI _ _ _
 ·rw[OK,h.len];rfl
 ·rw[BS,<-h.mem];rfl
 ·show Dx s.dev.cap _
  by_cases d:k<=r
  ·rw[Is d];exact h.mids k d
  rw[Q5 (by simp at hk ⊢;omega),BS,<-h.mem];exact hb
 ·rcases Q4.1 c with c|c
  ·exact h.ok i c
  rw[Zb.1 c];exact⟨h0,o⟩
 ·have j:s.next+ns.length+1<=g:=j;rw[hi]at e;have hlt:=(Qy.1 e).1;rw[Em,Qf ox]at hlt;have c:10+g<s.dev.img:=ox
  rw[RQ _ _ _ _ (.inr ox) c]at e;exact h.stale g i ox m e
 show(wrL _ _ _).length<=_\/(wrL _ _ _)[_]?=_\/_;rcases h.other with h6|h6|⟨c,g,h6,h7,d,e⟩
 ·right;left;exact oY hne h6 (by show(s.gen+1)%2*5<_;omega)
 ·right;left;show(wrL s.dev.img (10+s.next) _)[(s.gen+1)%2*5]?=_;rw[RQ _ _ _ _ (.inl ox) (Qy.1 h6).1,h6]
 right;right;exact⟨c,g,h6,h7,d,e.wr _<|.inl (by rw[Un];omega)⟩
def High.wrAll:∀(xs:List (QC × QP))(s:Vst),(∀x∈xs,30<=x.2.1.toNat)->High s {s with dev:=wrAll s.dev xs}
 | [],s,_=>High.refl s
 |x::xs,s,h=>by have c:=High.wr (s:=s) x.2.1.toNat (Ja x.1) 0<|h x<|Yv ..;exact c.trans<|High.wrAll xs {s with dev:=(s.dev.wr x.2.1.toNat<|Ja x.1).tick 0} fun d c=>h d<|XO _ c
def High.tick(s:Vst)(n:Nat):High s {s with dev:=s.dev.tick n}:=⟨rfl,rfl,rfl,rfl,fun _ _=>.inl rfl⟩
def Q6.put{s:Vst}{c:LU->LU}{b:List RM}{r:List (List Note)}(h:Q6 s b r)(j:Vok s c)(l:List QC)(e:s.dev.lZ+10000<=1000000000):∃b r,Q6 (s.put l).2 b r:=by
 by_cases h0:(s.put l).1=0
 ·have d:=(j.put l e h0).1.ok.base;unfold Vst.put at h0 d ⊢
  by_cases hb:Vst.bad l≠0
  ·rw[Qg hb]at h0;exact absurd h0 hb
  rw[Qf hb]at h0 d ⊢
  by_cases o:¬(l.map (·.1)).Nodup
  ·rw[Qg o]at h0;cases h0
  rw[Qf o]at h0 d ⊢
  by_cases p:16<(Q8 s.mem<|l.map fun f=>Vst.noteF (f,(0,0))).length
  ·rw[Qg p]at h0;cases h0
  rw[Qf p]at h0 d ⊢;have e:=Vst.bad_zero<|Decidable.not_not.1 hb;cases ha:Vst.alloc s.dev.cap s.exts l with
  |none=>rw[ha]at h0;cases h0
  |some xs=>
   simp only[ha]at h0 d ⊢
   by_cases q:l=[]
   ·rw[Qg q];exact⟨b,r,h⟩
   rw[Qf q]at d ⊢;obtain⟨n,g,-⟩:=Vst.alloc_spec (yx j.pZ) j.ext (fun f hf=>by have i:=e f hf;have:=(Vz (XU i.1).2.2 i.2).2;omega) ha;have t:xs.length=l.length:=(by rw[<-n,QH]);have w:∀e∈xs,30<=e.2.1.toNat:=fun e m=>by have:=((YL _ _).1 g).1 e.2 (MC _<|JA m);have:=this.1;omega
   have:l.length<=16:=by
    have u:=d.few;have g:=Decidable.not_not.1 o;have i:=FJ (fun _:RM=>1) (l:=xs.map fun e=>(Vst.noteF e).2) (l':=Q8 s.mem<|xs.map Vst.noteF) (by
     refine Pe (f:=RM.path) ?_;rw[Xv];rwa[<-n,Xv]at g) (fun v p=>by obtain⟨e,m,rfl⟩:=QA.1 p;exact(Vst.mem_puts j.rise<|by rwa[<-n,Xv]at g).2 (.inl ⟨e,m,rfl⟩))
    rw[Ef,Ef,QH]at i;have p:(Q8 (s.room<|l.length+1).mem<|xs.map Vst.noteF).length<=16:=u;rw[(Vst.room_same s<|l.length+1).1]at p;omega
   obtain⟨v,x,i⟩:=h.room j<|l.length+1;have u:=Vst.room_next (s:=s) (n:=l.length+1) ox;have p:=i.high ((High.wrAll xs _ w).trans<|High.tick _ 1) ox;refine⟨v,x++[xs.map Vst.noteF],Q6.commit (s:=(s.room<|l.length+1).write xs) p (by show(s.room<|l.length+1).next+(xs.map Vst.noteF).length+1<=20;rw[QH];omega) (by intro i;rw[Tk]at i;rw[i]at t;exact q<|J4 t.symm) (fun i u=>?_) d⟩;obtain⟨e,m,rfl⟩:=QA.1 u;refine .inl ⟨rfl,d.rm _ ?_⟩;show _∈Q8 (s.room<|l.length+1).mem (xs.map Vst.noteF);rw[(Vst.room_same s<|l.length+1).1];exact(Vst.mem_puts j.rise (by have g:=Decidable.not_not.1 o;rwa[<-n,Xv]at g)).2 (.inl ⟨e,m,rfl⟩)
 rw[kF h0];exact⟨b,r,h⟩
def Q6.del{s:Vst}{c:LU->LU}{b:List RM}{r:List (List Note)}(h:Q6 s b r)(e:Vok s c)(p:LU)(g:s.dev.lZ+10000<=1000000000):∃b r,Q6 (s.del p).2 b r:=by
 by_cases h0:(s.del p).1=0
 ·have d:=(e.del p g h0).1.ok.base;unfold Vst.del at h0 d ⊢
  by_cases hf:(s.find p).1≠0
  ·rw[Qg hf]at h0;exact absurd h0 hf
  rw[Qf hf]at d ⊢;obtain⟨hp,-,-⟩:=Vst.find_zero<|Decidable.not_not.1 hf;obtain⟨g,g,g⟩:=h.room e 2;have e:=Vst.room_next (s:=s) (n:=2) ox;exact⟨_,_,g.commit (by show(s.room 2).next+1+1<=20;omega) sx (fun g e=>by rw[Zb.1 e];exact .inr ⟨rfl,hp,rfl⟩) d⟩
 rw[Vst.del_none h0];exact⟨b,r,h⟩
def Q6.move{s:Vst}{c:LU->LU}{b:List RM}{r:List (List Note)}(h:Q6 s b r)(e:Vok s c)(p:LU)(tg:Int)(d:s.dev.lZ+10000<=1000000000):∃b r,Q6 (s.move p tg).2 b r:=by
 by_cases h0:(s.move p tg).1=0
 ·obtain⟨g,g,g,-⟩:=e.move d h0;have d:=g.ok.base;unfold Vst.move at h0 d ⊢
  by_cases hf:(s.find p).1≠0
  ·rw[Qg hf]at h0;exact absurd h0 hf
  rw[Qf hf]at h0 d ⊢
  by_cases g:ZZ s.dev.cap (s.exts++[(tg,(s.find p).2.eZ)])=false
  ·rw[Qg g]at h0;cases h0
  rw[Qf g]at d ⊢;have i:=((YL _ _).1 (by simpa using g)).1 (tg,(s.find p).2.eZ) sx;have i:=i.1;obtain⟨g,g,i⟩:=h.room e 2;have g:=Vst.room_next (s:=s) (n:=2) ox;have j:=i.high (High.wr (s:=s.room 2) tg.toNat (s.sct (s.find p).2) ((s.find p).2.eZ.toNat+1) ox) ox;refine⟨_,_,j.commit (by show(s.room 2).next+1+1<=20;omega) sx (fun i g=>?_) d⟩;rw[Zb.1 g];refine .inl ⟨rfl,d.rm _ ?_⟩;show _∈Q8 (s.room 2).mem [(true,_)];rw[(Vst.room_same s 2).1];exact(Dc e.rise).2 (.inl rfl)
 rw[Vst.move_none h0];exact⟨b,r,h⟩
def Q6.trim{s:Vst}{c:LU->LU}{b:List RM}{r:List (List Note)}(h:Q6 s b r)(d:Vok s c):Q6 s.trim.2 b r:=by
 unfold Vst.trim
 split
 ·exact h
 refine h.high ⟨rfl,rfl,rfl,rfl,fun k hk=>.inl ?_⟩ d.next;have:=(Vst.endX_ge s.exts 30).1;show(s.dev.img.take _)[k]?=_;rw[Bb (by unfold Vst.endX;omega)]
def Q6.pull:∀(l:List RM)(t:Int){s:Vst}{c:LU->LU}{b:List RM}{r:List (List Note)},Q6 s b r->Vok s c->s.dev.lZ+2000*l.length+10000<=1000000000->∃b r,Q6 (Vst.pull l t s).2 b r
 | [],t,s,c,b,r,h,hv,_=>⟨b,r,by rw[Vst.pull];exact h.trim hv⟩
 |m::l,t,s,c,b,r,h,hv,hc=>by
  rw[QW]at hc
  by_cases i:m.start-t<m.eZ/\m.start≠t
  ·cases hf:YR s.dev.cap s.exts m.eZ with
   |none=>rw[jY i hf];exact⟨b,r,h⟩
   |some g=>
    obtain⟨d,j,g1⟩:=h.move hv m.path g ox;obtain⟨k1,k2,k3⟩:=hv.moved m.path g ox
    by_cases e:(s.move m.path g).1≠0
    ·rw[jX i hf e];exact⟨d,j,g1⟩
    rw[jZ i hf<|Decidable.not_not.1 e];obtain⟨j,o,d⟩:=g1.move k1 m.path t ox;obtain⟨n,p,q⟩:=k1.moved m.path t ox
    split
    ·exact⟨j,o,d⟩
    exact Q6.pull l _ d n ox
  by_cases e:m.start=t
  ·rw[kC e];exact Q6.pull l _ h hv ox
  rw[kD i e];obtain⟨j,o,d⟩:=h.move hv m.path t ox;obtain⟨n,p,q⟩:=hv.moved m.path t ox
  split
  ·exact⟨j,o,d⟩
  exact Q6.pull l _ d n ox
def Q6.does{s:Vst}{c:LU->LU}{b:List RM}{r:List (List Note)}(h:Q6 s b r)(d:Vok s c)(a:Ys)(e:s.dev.lZ+100000<=1000000000):∃b r,Q6 (s.does a).2 b r:=by
 unfold Vst.does
 split
 ·exact h.put d _ ox
 split
 ·exact h.del d _ ox
 split
 ·exact h.move d _ _ ox
 split
 ·unfold Vst.compact;refine h.pull _ _ d ?_;have:=d.few;unfold Vst.bZ;rw[List.length_mergeSort];omega
 split
 ·exact⟨b,r,h.trim d⟩
 split
 ·exact h.put d _ ox
 exact⟨b,r,h⟩
def Q6.fresh(cap:Nat)(c:31<=cap)(d:cap<=4096):Q6 (Vst.fresh cap) [] []:=by
 have e:=Vok.fresh cap c d fun _=>[];have d:(Vst.fresh cap).dev.img.length=5:=by show(wrL [] 0<|Yp 0 []).length=5;rw[Em,Un];rfl
 refine⟨FI _ _ _,fun k g c=>by simp[UP]at c,rfl,rfl,fun k _=>by rw[List.take_nil];exact e.base,fun c c=>by simp at c,fun c g _ _ c=>?_,.inl (by rw[d];show 5<=(0+1)%2*5;decide)⟩;have:=(Qy.1 c).1;omega
section
open Go.Sort Go.Shelf
def OR(d t:Nat)(s:LU)(n:Nat)(w:WD)(c:Qe w d t [str s])(g:n<=100000)(hs:s.length<=100000):
 Calls prog 100 #[.pointer d,n] w fun e w'=>e=.returned (str<|s.take n)/\w'=w.setCell ⟨d,0,none⟩ (.string<|str<|s.drop n):=by
 have c0:=c.cq 0;have:=c.free 0;have hz:(str s).size=s:=rfl
 by_cases d:s<n
 ·have h:(s:Int)<n:=ox
  have d:=BH (str s) s (s:Int) ox rfl;have g:=Ee (str s) s (s:Int) ox rfl;rw[JS _ _ _ ox,XW,VJ,Aw,VM]at d;rw[JS _ _ _ ox,XW,Ij]at g;rw[Q5 ox,Jq ox];go_enter func100,ntmps100
  go_wp2
  go_ret;exact⟨rfl,sx⟩
 have h:¬(s:Int)<n:=ox
 have d:=BH (str s) n (n:Int) ox rfl;have g:=Ee (str s) n (n:Int) ox rfl;rw[JS _ _ _ ox,XW,VJ,Aw]at d;rw[JS _ _ _ ox,XW,Q5 (by rw[YN];omega)]at g;go_enter func100,ntmps100
 go_wp2
 go_ret;exact⟨rfl,rfl⟩
def YB:LU->Nat->Nat
 | [],v=>v
 |b::r,v=>YB r (v*256+b.toNat)
def iZ(b:UInt8):∀(l:LU)(v:Nat),YB (l++[b]) v=YB l v*256+b.toNat
 | [],v=>rfl
 |x::l,v=>by rw[XY,YB,iZ b l,YB]
def iY:∀(l:LU)(v:Nat),v<=YB l v
 | [],v=>Qk _
 |x::l,v=>QS ox<|iY l _
def Pi:∀(k x v:Nat),YB (QK k x) v=v*256^k+x%256^k
 |0,x,v=>by simp[QK,YB,Nat.mod_one]
 |k+1,x,v=>by
  rw[QK,YB,Pi k];have c:(UInt8.ofNat<|x/256^k).toNat=x/256^k%256:=sx
  rw[c,J9,Nat.mod_mul,V5];have:v*256*256^k=v*(256^k*256):=by rw[FZ,V6 256]
  have:=V6 (x/256^k%256)<|256^k;omega
def iX:∀(a b:LU)(v:Nat),YB (a++b) v=YB b (YB a v)
 | [],b,v=>rfl
 |x::a,b,v=>by rw[XY,YB,iX a,YB]
def Qez(l:LU)(i:Nat):YB (l.take i) 0<=YB l 0:=by have c:=iX (l.take i) (l.drop i) 0;rw[V3]at c;rw[c];exact iY _ _
def Qb5(a b:Nat)(ha:a<9223372036854775808)(hb:b<9223372036854775808):bits BinOp.or IntKind.i64 (a:Int) (b:Int)=((a|||b:Nat):Int):=by have:a|||b<2^63:=Nat.or_lt_two_pow ox ox;show IntKind.i64.wrap ((BitVec.ofInt 64 (a:Int)|||BitVec.ofInt 64 (b:Int)).toNat:Int)=_;rw[BitVec.toNat_or,ofInt_u64 a ox,ofInt_u64 b ox,Zq];omega
def Qe9(v b:Nat)(hb:b<256)(c:v*256+b<2^63):v*256|||b=v*256+b:=by have c:=MQ (i:=8) (b:=b) hb v;rw[V6]at c;exact c.symm
def kL(c t:Nat)(s:LU)(n:Nat)(w:WD)(q:Qe w c t [str s])(d:n<=8)(hs:s.length<=100000)(hb:YB (s.take n) 0<9223372036854775808):
 Calls prog 101 #[.pointer c,n] w fun e w'=>e=.returned ((YB (s.take n) 0:Nat):Int)/\Qb [] (w.setCell ⟨c,0,none⟩<|.string<|str<|s.drop n) w':=by
 have m:=Qa<|OR c t s n w q ox hs;have⟨d,v⟩:=qx<|w.setCell ⟨c,0,none⟩<|.string<|str<|s.drop n;rw[v]at m ⊢;have⟨c,p⟩:=qx<|s.take n;rw[p]at m hb ⊢;have h:c.length<=8:=by rw[<-p,Zd];omega
 have⟨g,j⟩:=qx c.length;rw[j]at h;have hz:(str c).size=g:=j;obtain⟨cap,y,x⟩:=NC d<|str c;have i:=QJ.bytes d.drew (str c) cap x;rw[XW]at i;have⟨h,o⟩:=qx<|d.drew.alloc<|.cells (bytesRow (str c) cap) 5 ((bytesRow (str c) cap).size,(bytesRow (str c) cap).size+1);rw[o]at y i;change QJ h d _ at i;have⟨A,z,l⟩:=qc (by rw[<-o];exact(Qc [] d).drew.alloc _:Qb [] d h) i<|Qr j hb;rw[hz]at y;go_enter func101,ntmps101;go_wp2_with (go_fit m.o;rintro e v⟨rfl,d⟩;replace d:=d.symm;subst d)
 go_loopg [5,7,15] g (fun k j d i wr=>(∃d:Nat,d<=g/\k=g-d/\j=.int .i64 ((YB (c.take d) 0:Nat):Int)/\i=.int .i64 (d:Nat))/\wr=h)
 ·exact⟨⟨0,ox,ox,by simp[YB],rfl⟩,rfl⟩
 obtain⟨⟨d,hi,hk,rfl,rfl⟩,rfl⟩:=hrel
 by_cases hlt:d<g
 ·have q:(d:Int)<g:=ox
  have⟨b,j⟩:=qy c d (yx l.o.1);have c0:=z.o.cell (i:=d) (u:=.int .u8 b.toNat) (by simp[Qn,j]);have i:YB (c.take<|d+1) 0=YB (c.take d) 0*256+b.toNat:=by rw[Zh,j];exact iZ b _ _
  have o:=Qez c<|d+1;have⟨h,m⟩:=qx<|YB (c.take d) 0;rw[m]at i ⊢;have p:=b.toNat_lt;have:=l.o.2;rw[i]at o;have o:=Qa i;have v:IntKind.i64.wrap ((h:Int)*256)=(h:Int)*256:=by rw[Zq];omega
  have:bits BinOp.or IntKind.i64 ((h:Int)*256) (b.toNat:Int)=((h*256+b.toNat:Nat):Int):=by rw[show(h:Int)*256=((h*256:Nat):Int)by omega,Qb5 _ _ ox ox,Qe9 h b.toNat p ox]
  go_wp2
  go_roundg (g-(d+1))
  ·exact⟨⟨d+1,ox,rfl,by rw[o.o];go_num,by go_num⟩,rfl⟩
  omega
 obtain rfl:g=d:=ox
 have q:¬(g:Int)<g:=ox
 have d:c.take g=c:=Q5 (by rw[l.o.1];exact Qk _);rw[d]
 go_wp2
 go_ret;exact⟨rfl,A.o⟩
end
