import Derived.Test.YtickjpnkoppmgaaGreatDoorBu
set_option linter.all false
namespace Go.Proofs.YtickjpnkoppmgaaGreatDoor
open Go.Proofs.Tryz Go.RowKit K Go.Shelf Go.Sort
def Vst.more(s:Vst)(k:Nat):Vst:={s with dev:={s.dev with lZ:=s.dev.lZ+k}}
def Vok.more{s:Vst}{c:LU→LU}(a:Vok s c)(k:Nat)(hk:s.dev.lZ+k≤1000000000):Vok (s.more k) c:=
 ⟨⟨a.dev.c1,a.dev.c2,a.dev.len,a.dev.sec,hk⟩,a.pZ,QS a.gen<|LJ _ _,a.next,a.rise,a.few,a.mems,a.ext⟩
def Qb.old{T S:LN}{W w w1:WD}{a:Addr}{u:VL}(hk:Qb T w w1)(c:QP W.heap.size S T)(b:w.cell? a=some u)(d:a.block∉S)(e:a.block<W.heap.size):w1.cell? a=some u:=
 hk.cZ b (fun a=>(c _ a).elim d fun b=>by omega)
def nD(w:WD)(a d:Nat)(c f mv:VL)(s:Vst)(e:Ending)(w':WD):Prop:=e=.returned (.bool true)∧∃b,b≤3200∧ZQ w a d c f mv (s.more b) w'
set_option maxRecDepth 20000 in
set_option maxHeartbeats 2000000 in
def yY{a d:Nat}{nv pv mv:VL}{s:Vst}{w:WD}{c:LU→LU}(h:Zj w a d nv pv mv s)(hv:Vok s c)(fm:VL)(hF:Y1 w fm (Yn s c))(hap:∀y∈Qd fm,y∉QT a d nv pv mv)(hc:s.dev.lZ+20000≤1000000000):
 Calls prog 20 #[.pointer a,.agg #[fm]] w (nD w a d nv pv mv s):=by
 obtain⟨af,cf,rfl,x2⟩:=hF.ent;have⟨n,hn⟩:=qx s.mem.length;have x4:(Yn s c).length=n:=by unfold Yn;rw[QH,hn]
 rw[x4]at x2 hap ⊢;have p6:=hv.few;rw[hn]at p6;have⟨HH,HV,y2,p1⟩:=qd h (Qr hv<|Qr hn hc) (Qr x2<|Qr x4 hap) fun W (hW:Qb [] w W)=>Qat (h.kZ hW).vt (by have:=hv.few;omega);have A3:=Qy w [.slice af n cf] 32;have c3:=A3.cell (i:=0) rfl;have K3:=(Qc [] w).alloc<|.cells #[.slice af n cf] 32;have x0:=Qa<|Qr A3 K3;clear x2 hap h hv hn hc x4 hF A3 K3;go_enter func20,ntmps20;go_wp2_with (go_at_call 27;refine(p1.o _ x0.o.2).mono ?_;rintro e w6⟨v9,rfl,z6,x3,z1⟩;obtain⟨a9,c9,p0,-,-,z7,y8⟩:=z6.sees;rw[Vi,QH,HV.o.2.1]at p0;subst p0;have d3:=(x0.o.1.kept x3<|by simp).cell (i:=0) rfl);obtain⟨W,hW⟩:∃W:WD,W=w6:=⟨_,rfl⟩;subst hW;have⟨S,hS⟩:=qx<|QT a d nv pv mv;have⟨HK,y5⟩:=qb (x0.o.2.trans x3<|by simp) (by rw[←hS];exact HH.o.vt.lt: ∀y∈S,y<w.heap.size);have⟨y3,y4,p2,p3,p5,x1,x5⟩:=qg (show w.heap.size∉S from fun hm=>DX _<|y5.o _ hm) (show ∀y∈fZ a9,y∉S from fun y hy hm=>by rw[y8]at hy;have:=z1 y hy;have:=y5.o y hm;simp at*;omega) (by rw[←hS];exact y2.o.2.2: ∀y∈Qd (.slice af n cf),y∉S) z7 (HH.o.kZ HK.o) hS d3;clear z6 x3 z1 z7 y8 d3 c3 hS
 go_loopg [6,7,8] n (fun k x6 x7 x8 wr=>∃(i q:Nat)(h8 h9 h5:VL),i≤n∧k=n-i∧x6=.int .i64 (i:Nat)∧Hid (Zj wr a d h8 h9 h5 (s.more q)∧q≤200*i)∧Hid (Qb S W wr∧QP W.heap.size S (QT a d h8 h9 h5)))
 ·exact⟨0,0,nv,pv,mv,by omega,by omega,rfl,Qa ⟨p5.o,by omega⟩,Qa ⟨Qc _ _,by rw[x1.o];exact QP.refl _ _⟩⟩
 obtain⟨i,q,h8,h9,h5,hi,hk,rfl,HI,o⟩:=hrel
 by_cases hlt:i<n
 ·have q0:(i:Int)<n:=by omega
  obtain⟨hv,hn,hc⟩:=HV.o;have⟨m,hm⟩:=qy s.mem i (by omega);have h4:=QA hm;have z8:m.eZ.toNat≤200:=by have h1:=(hv.mems m h4).eZ;have h2:=Rg (f:=(m.path,c m.path)) (hv.plen h4) (hv.mems m h4).big;omega
  have y7:(Yn s c)[i]?=some (m.path,c m.path):=by unfold Yn;rw[ZD,hm];rfl
  obtain⟨g,off,rfl,y0,y1⟩:=Cj (y2.o.1.kZ HK.o) y7;have nf:g∉S:=p2.o g (by simp[Qd,qo]);simp only[]at y0 y1;have f0:=o.o.1.cZ y0 nf;have f1:=o.o.1.cZ y1 nf;have lg:=JN W _ y0;obtain⟨g9,o9,e9,z9⟩:=p3.o.2 i (.string<|str m.path) (by rw[Gt (x:=m.path) (by rw[ZD,hm];rfl)]);subst e9;have d9:=o.o.1.cZ z9 (y4.o g9<|by simp[fZ]);have lr:=JN W _ z9;have d3:=o.o.1.cZ x5.o y3.o;have⟨x9,HM⟩:=qb (fun W' (p7:Qb [] wr W')=>WT (HI.o.1.kZ p7) (hv.more q (by have:=HI.o.2;omega)) (m:=m) h4 (by have:=HI.o.2;show s.dev.lZ+q+10000≤_;omega))<|Qr lg<|Qr lr<|Qr nf<|Qr (y4.o g9<|by simp[fZ]) z8;have t1:((str m.path).toList==(str m.path).toList)=true:=by simp
  have t2:((str<|c m.path).toList==(str<|c m.path).toList)=true:=by simp
  have⟨p,hp⟩:=qx m.path;rw[hp]at f0 f1 d9 t1 t2 x9;clear hm h4 z8 y7 y0 y1 hv hn hc hp lg lr nf z9;go_wp2_with (go_at_call 30;refine(x9.o _<|Qc _ _).mono ?_;rintro e w1⟨rfl,p9,q1,p8,y6,h3,y9⟩;have k0:=h3.old o.o.2 f0 HM.o.2.2.1 HM.o.1;have k1:=h3.old o.o.2 f1 HM.o.2.2.1 HM.o.1;have k9:=h3.old o.o.2 d9 HM.o.2.2.2.1 HM.o.2.1;have k3:=h3.old o.o.2 d3 y3.o<|JN W _ x5.o;have p4:=Qa<|Qr y6<|Qr h3 y9;clear y6 h3 y9);go_quiet (fail)
  go_wp2
  go_roundg (n-(i+1))
  ·obtain⟨v2,r2,g2⟩:=p4.o;have e1:s.more (q+m.eZ.toNat)={s.more q with dev:={(s.more q).dev with lZ:=(s.more q).dev.lZ+m.eZ.toNat}}:=(by simp[Vst.more,Ja]);refine⟨i+1,q+m.eZ.toNat,p9,q1,p8,by omega,rfl,by go_num,Qa ⟨e1▸v2.kZ ((Qc [] w1).drewN _),by have:=HI.o.2;have:=HM.o.2.2.2.2;omega⟩,Qa ⟨(o.o.1.trans r2 fun y hy=>o.o.2 y hy).drewN _,o.o.2.trans g2 o.o.1.size⟩⟩
  omega
 obtain rfl:n=i:=by omega
 have q0:¬(n:Int)<n:=by omega
 go_wp2
 go_ret;refine⟨rfl,q,by have:=HI.o.2;omega,h8,h9,h5,HI.o.1,?_,?_⟩
 ·rw[x1.o];exact(HK.o.mono<|by simp).trans o.o.1 fun y hy=>.inl hy
 rw[x1.o];exact fun y hy=>(o.o.2 y hy).imp id fun h=>QS HK.o.size h
structure EU(s s':Vst)(a:Ud)(e:Int)(c c':LU→LU):Prop where
 done:BT s s' e c' a.files.length
 files:Yn s' c'=if e=0 then a.goes (Yn s c)else Yn s c
 stay:a.kind≠3→Uh s s'
 tile:a.kind=3→e=0→Ys s' c' [] (30+Zd s'.mem)∧s'.dev.img.length≤30+Zd s'.mem
def EU.none{s s':Vst}{a:Ud}{e:Int}{c:LU→LU}(b:Vok s c)(f:s'=s)(d:e≠0)(k:a.kind≠3):EU s s' a e c c:=by subst f;exact⟨.none b rfl _,(Qf d).symm,fun _=>Uh.refl _,fun b=>absurd b k⟩
def Vok.acts{s:Vst}{c:LU→LU}(h:Vok s c)(a:Ud)(hc:s.dev.lZ+100000≤1000000000):∃c',EU s (s.does a).2 a (s.does a).1 c c':=by
 unfold Vst.does;have h9:∀l:List QC,l.length≤a.files.length+1→a.kind≠3→AQ l (Yn s c)=a.goes (Yn s c)→∃c',EU s (s.put l).2 a (s.put l).1 c c':=fun l hl h3 hg=>by
  by_cases h0:(s.put l).1=0
  ·obtain⟨o,q,y⟩:=h.put l (by omega) h0;exact⟨_,o.done (.inl h0)<|by omega,by rwa[Qg h0,←hg],fun _=>q,fun h=>absurd h h3⟩
  exact⟨c,.none h (Qef h0) h0 h3⟩
 split
 ·rename_i k;exact h9 _ (by simp) (by omega) (by unfold Ud.goes;rw[Qg k];rfl)
 split
 ·rename_i k0 k
  by_cases h0:(s.del a.path).1=0
  ·obtain⟨o,q,y⟩:=h.del a.path (by omega) h0;exact⟨_,o.done (.inl h0)<|by omega,by rw[Qg h0];unfold Ud.goes;rw[Qf k0,Qg k];exact vV y,fun _=>q,fun h=>by omega⟩
  exact⟨c,.none h (Vst.del_none h0) h0<|by omega⟩
 have h8:a.kind≠0→a.kind≠1→a.kind≠5→∀{e:Int}{F:List QC},F=Yn s c→F=if e=0 then a.goes (Yn s c)else Yn s c:=fun k0 k1 k5 e F hF=>by unfold Ud.goes;rw[Qf k0,Qf k1,Qf k5,hF];split<;>rfl
 split
 ·rename_i k0 k1 k
  by_cases h0:(s.move a.path a.tg).1=0
  ·obtain⟨m,hm,o,q,y⟩:=h.move (by omega) h0;exact⟨_,o.done (.inl h0) (by have:=Qhe hm;omega),h8 k0 k1 (by omega) (IN y).1,fun _=>q,fun h=>by omega⟩
  exact⟨c,.none h (Vst.move_none h0) h0<|by omega⟩
 split
 ·rename_i k0 k1 k2 k;obtain⟨o,q,y,h5⟩:=h.compact (by omega);exact⟨_,q.done o<|by omega,h8 k0 k1 (by omega) (IN y).1,fun h=>absurd k h,fun _=>h5⟩
 split
 ·rename_i k0 k1 k2 k3 k;obtain⟨o,q,y,h5,-⟩:=h.trim (by omega);exact⟨_,q.done (.inl o)<|by omega,h8 k0 k1 (by omega) (by unfold Yn;rw[h5]),fun _=>y,fun h=>by omega⟩
 split
 ·rename_i k0 k1 k2 k3 k4 k;exact h9 _ (by simp) (by omega) (by unfold Ud.goes;rw[Qf k0,Qf k1,Qg k])
 rename_i k0 k1 k2 k3 k4 k5;exact⟨c,.none h rfl _,h8 k0 k1 k5 rfl,fun _=>Uh.refl _,fun h=>absurd h k3⟩
structure UZ(w:WD)(B:Nat)(S:LN)(v:VL)(F:List QC):Prop where
 arr:Qe w B 32 [v]
 row:Y1 w v F
 off:∀y∈Qd v,y∉S∧y≠B
 bs:B∉S
def UZ.kept{w w1:WD}{d:Nat}{S b:LN}{v:VL}{F:List QC}(a:UZ w d S v F)(hk:Qb S w w1)(f:QP w.heap.size S b):UZ w1 d b v F:=
 ⟨a.arr.kept hk a.bs,Qn.kept a.row hk fun b c=>(a.off b c).1,fun b c=>⟨fun e=>(f b e).elim (a.off b c).1 (fun g=>by have:=Qn.lt a.row b c;omega),(a.off b c).2⟩,
  fun e=>(f d e).elim a.bs (fun g=>by have:=a.arr.lt;omega)⟩
def UZ.kZ{w w1:WD}{b:Nat}{S:LN}{v:VL}{F:List QC}(a:UZ w b S v F)(hk:Qb [] w w1):UZ w1 b S v F:=
 ⟨a.arr.kept hk<|by simp,Qn.kept a.row hk<|ZM _,a.off,a.bs⟩
def UZ.set{w w1:WD}{b:Nat}{S:LN}{v c:VL}{F e:List QC}(d:UZ w b S v F)(i:∀a∈S,a<w.heap.size)(hk:Qb [] w w1)(j:Y1 w1 c e)(hf:∀x∈Qd c,w.heap.size≤x∨x∈Qd v):UZ (w1.setCell ⟨b,0,none⟩ c) b S c e:=by
 have h:∀a∈Qd c,a∉S∧a≠b:=fun a f=>by
  rcases hf a f with g|g
  ·exact⟨fun e=>by have:=i a e;omega,fun i=>by have:=d.arr.lt;omega⟩
  exact d.off a g
 exact⟨(d.arr.kept hk<|by simp).set 0 c,Qn.kept j ((Qc [b] w1).setCell (p:=b) (.inl<|by simp) _) fun a f e=>(h a f).2 (by simpa using e),h,d.bs⟩
