import Derived.Maps.OwnSet
import Derived.Maps.RangeWalk
import Derived.StringKeys
import Derived.Laws.ResultCell
import Derived.Laws.Rows
import Derived.Test.YtickjpnkoppmgaaGreatDoorBk
import Derived.Test.YtickjpnkoppmgaaGreatDoorBj
set_option linter.all false
set_option maxHeartbeats 4000000
set_option maxRecDepth 100000
namespace Go.Proofs.YtickjpnkoppmgaaGreatDoor
open Go.Proofs.Tryz Go.RowKit K
section
open Go.Maps
def AP(m:RM):DataW Unit:=.agg [.lit (.string m.path),.lit (.int .i64 m.start),.lit (.int .i64 m.eZ),.lit (.int .i64 m.size),.lit (.int .u32 m.sum)]
def Qd3{a b}(h:AP a=AP b):a=b:=by obtain⟨c,c,c,c,c⟩:=a;obtain⟨c,c,c,c,c⟩:=b;simp only[AP,DataW.agg.injEq,List.cons.injEq,DataW.lit.injEq,Lit.string.injEq,Lit.int.injEq,FF,and_true]at h;obtain⟨rfl,rfl,rfl,rfl,rfl⟩:=h;rfl
def Qd5{a b}(h:Vg a=Vg b):a=b:=by
 obtain⟨d,c,c,c,c⟩:=a;obtain⟨e,c,c,c,c⟩:=b;simp only[Vg,Value.agg.injEq,Array.mk.injEq,List.cons.injEq,Value.string.injEq,Value.int.injEq,FF,and_true]at h;obtain⟨c,rfl,rfl,rfl,rfl⟩:=h;have:d=e:=by have:=Qt (fun b:BA=>b.data.toList) c;exact this
 subst this;rfl
open Classical in
noncomputable def UT(v:VL):Option (DataW Unit × List MemPlace):=if h:∃c:RM,v=Vg c then some (AP h.choose,[])else none
def PK(m):UT (Vg m)=some (AP m,[]):=by have c:∃d:RM,Vg m=Vg d:=⟨m,rfl⟩;unfold UT;rw[dif_pos c,<-Qd5 c.choose_spec]
def Qgz(v)(y:DataW Unit × List MemPlace)(h:UT v=some y):∃m,v=Vg m:=by
 unfold UT at h
 split at h
 ·rename_i o;exact o
 cases h
abbrev Vs:=LU->Option RM
def Jb(d:Vs)(p:LU)(e:Option RM):Vs:=fun c=>if c=p then e else d c
def Ry(D:DataW Unit)(d:Vs):Prop:=∀c,(∀e,D.atKey (.string c) e=(d c).elim e AP)/\Maps.has D (.string c)=(d c).isSome
def Qg5:Ry (.map []) (fun _=>none):=fun c=>⟨fun c=>rfl,rfl⟩
def GP{p c}(h:c≠p):(Lit.string c)≠.string p:=fun c=>h (by injection c)
def kN{D:DataW Unit}{c:Vs}(h:Ry D c)(e:IsMap D)(p m):Ry (D.put (.string p)<|AP m) (Jb c p<|some m):=fun c=>by
 unfold Jb
 by_cases d:c=p
 ·subst d;rw[Qg rfl];exact⟨fun g=>atKey_put_same e (show WideAt.IsKeyLit (.string c)from True.intro) _ _,has_put_same e (show WideAt.IsKeyLit (.string c)from True.intro) _⟩
 rw[Qf d];exact⟨fun g=>by rw[atKey_put_other<|GP d];exact(h c).1 g,by rw[has_put_other<|GP d];exact(h c).2⟩
def Qg4{D:DataW Unit}{c:Vs}(h:Ry D c)(p):Ry (D.del<|.string p) (Jb c p none):=fun d=>by
 unfold Jb
 by_cases c:d=p
 ·subst c;rw[Qg rfl];exact⟨fun e=>atKey_del_same _,has_del_same⟩
 rw[Qf c];exact⟨fun e=>by rw[atKey_del_other<|GP c];exact(h d).1 e,by rw[has_del_other<|GP c];exact(h d).2⟩
structure VO(M:Vs)(l:List RM):Prop where
 rise:Uv l
 mem:∀m,m∈l↔M m.path=some m
 key:∀p m,M p=some m->m.path=p
def Qir:VO (fun _=>none) []:=⟨List.Pairwise.nil,sx,sx⟩
def Qis{c:Vs}{l i x}(h:VO c (l.take i))(j:Uv l)(m:l[i]?=some x):VO (Jb c x.path<|some x) (l.take<|i+1):=by
 have hi:=Qy.1 m;have n:∀e∈l.take i,e.path≠x.path:=fun e c d=>by obtain⟨o,g,rfl⟩:=Th c;rw[List.getElem_take]at d;have:=JP.1 j o i (by rw[Zd]at g;omega) hi.1 (by rw[Zd]at g;omega);rw[hi.2,d,CQ]at this;omega
 refine⟨j.sublist<|MJ _ _,fun e=>?_,fun g e c=>?_⟩
 ·rw[Zh,m];unfold Jb;simp only[EL,Q4,Zb];constructor
  ·rintro(c|rfl)
   ·rw[Qf<|n e c];exact(h.mem e).1 c
   rw[Qg rfl]
  intro c
  by_cases d:e.path=x.path
  ·rw[Qg d]at c;injection c with c;exact .inr c.symm
  rw[Qf d]at c;exact .inl<|(h.mem e).2 c
 unfold Jb at c
 by_cases d:g=x.path
 ·rw[Qg d]at c;injection c with c;rw[<-c];exact d.symm
 rw[Qf d]at c;exact h.key g e c
def Qiq{c:Vs}{l}(h:VO c l)(x):VO (Jb c x.path<|some x) (UO x l):=by
 refine⟨Dl h.rise,fun e=>?_,fun g e c=>?_⟩
 ·rw[Dc h.rise];unfold Jb
  by_cases d:e.path=x.path
  ·rw[Qg d];constructor
   ·rintro(rfl|⟨-,h2⟩)
    ·rfl
    exact absurd d h2
   intro c;injection c with c;exact .inl c.symm
  rw[Qf d,<-h.mem e];constructor
  ·rintro(rfl|⟨i,-⟩)
   ·exact absurd rfl d
   exact i
  exact fun c=>.inr ⟨c,d⟩
 unfold Jb at c
 by_cases d:g=x.path
 ·rw[Qg d]at c;injection c with c;rw[<-c];exact d.symm
 rw[Qf d]at c;exact h.key g e c
def Qip{c:Vs}{l}(h:VO c l)(p):VO (Jb c p none) (CS p l):=by
 refine⟨PQ h.rise,fun e=>?_,fun g e d=>?_⟩
 ·rw[gZ];unfold Jb
  by_cases c:e.path=p
  ·rw[Qg c];exact⟨fun h=>absurd c h.2,fun h=>by cases h⟩
  rw[Qf c,<-h.mem e];exact⟨fun h=>h.1,fun h=>⟨h,c⟩⟩
 unfold Jb at d
 by_cases c:g=p
 ·rw[Qg c]at d;cases d
 rw[Qf c]at d;exact h.key g e d
structure Ep(M:Vs)(left:Lit->Bool)(L:List RM):Prop where
 nodup:(L.map (·.path)).Nodup
 mem:∀m,m∈L↔M m.path=some m/\left (.string m.path)=false
def xW{D:DataW Unit}{c:Vs}(h:Ry D c):Ep c (Maps.has D) []:=⟨List.nodup_nil,fun c=>by
 rw[(h c.path).2];constructor
 ·intro h;cases h
 rintro⟨d,c⟩;rw[d]at c;cases c⟩
def xX{D:DataW Unit}{c:Vs}{d:Lit->Bool}{L}{e:DataW Unit × List MemPlace}{m p}(i:Ry D c)(hk:∀p m,c p=some m->m.path=p)(h:Ep c d L)(l:d (.string p)=true)(g:UT (Vg m)=some e)(j:∀z,D.atKey (.string p) z=e.1):
 c p=some m/\m.path=p/\Ep c (fun z=>d z&&!z.sameKey (.string p)) (L++[m]):=by
 rw[PK]at g;injection g with g;have e:c p=some m:=by
  cases hp:c p with
  |none=>have c:=(i p).1 (.lit<|.bool true);have d:=(i p).1 (.lit<|.bool false);rw[j,hp]at c d;have:(DataW.lit (.bool true):DataW Unit)=.lit (.bool false):=c.symm.trans d;injection this with this;injection this with this;cases this
  |some m'=>
   have c:=(i p).1 (.lit<|.bool true);rw[j,hp,<-g]at c;rw[Qd3 c]
 have hp:=hk p m e;refine⟨e,hp,?_,fun g=>?_⟩
 ·rw[XC,CC];refine⟨h.nodup,sx,fun a ha b hb=>?_⟩;simp at hb;subst hb;obtain⟨g,j,rfl⟩:=QA.1 ha;intro i;have:=((h.mem g).1 j).2;rw[i,hp,l]at this;cases this
 simp only[Q4,Zb,Bool.and_eq_false_iff,Bool.not_eq_false'];rw[h.mem g];constructor
 ·rintro(⟨c,d⟩|rfl)
  ·exact⟨c,.inl d⟩
  exact⟨by rwa[hp],.inr (by rw[hp];simp[Lit.sameKey])⟩
 rintro⟨c,d|d⟩
 ·exact .inl ⟨c,d⟩
 have:=WideAt.sameKey_eq d;injection this with this;rw[this,e]at c;injection c with c;exact .inr c.symm
def xU{c:Vs}{d:Lit->Bool}{L l' A}(h:Ep c d L)(h0:∀z,d z=false)(g:VO c A)(hp:l'.Perm L)(hs:l'.Pairwise fun a b=>¬Xp b.path a.path<0):l'=A:=by
 have n:(l'.map (·.path)).Nodup:=(hp.map _).nodup_iff.2 h.nodup;refine LD (pt:=RM.path) ?_ g.rise fun l=>?_
 ·refine JP.2 fun c d hi j i=>?_
  have:=JP.1 hs c d hi j i;have m:l'[c].path≠l'[d].path:=fun e=>by have:=JP.1 n c d (by simpa using hi) (by simpa using j) i;simp at this;exact this e
  have:Xp l'[c].path l'[d].path≠0:=fun e=>m<|DM e
  have:=EV l'[c].path l'[d].path;omega
 rw[hp.mem_iff,h.mem l,g.mem l,h0];simp
end
section
open Go.Sort Go.Shelf
def Qb.by{w w' v}(h:Qb (Qd v) w w'):w.grownBy w' v.ownBlock:=⟨h.os,h.tape,h.output,h.size,fun k hk d=>h.block k hk (by intro c;exact d<|by simpa[Qd,eq_comm]using c)⟩
def Bx:Go.Maps.Keyed prog 9:=Go.Maps.string_keyed Yw
def key_inv(key)(c:Lit)(h:keyOf prog 9 key=some c):∃x:BA,key=.string x:=by obtain⟨d,c,-,-⟩:=Go.WideMaps.string_of_keyOf Yw h;exact⟨d,c⟩
def xV{c:Vs}{d:Lit->Bool}{L A}(h:Ep c d L)(i:VO c A):L.length<=A.length:=by
 classical
 have g:=FJ (fun _:RM=>1) (l:=L) (l':=A) (by have:=h.nodup;exact List.Pairwise.imp (fun h d=>h<|by rw[d])<|Rw.1 this) fun e c=>(i.mem e).2 ((h.mem e).1 c).1;have d:∀c:List RM,(c.map fun _=>1).sum=c.length:=fun c=>by
  induction c with
  |nil=>rfl
  |cons e c ih=>rw[QV,Xm,ih,QW];omega
 rwa[d,d]at g
def MR(w:WD)(v:VL)(ns:List Note):Prop:=∃a c,v=.slice a ns.length c/\Qp w 6 a ns.length (Qs Zs ns)
def uQ(x c)(l:Js x)(m:Js c)(w)(h:Yt w):Calls prog 69 #[.agg (Q9 x).toArray,.agg (Q9 c).toArray] w fun e w'=>e=.returned (.int .i64<|Xp x.path c.path)/\∃g i,w'=grow (w.drewN g) i:=by
 have j:=Qa fun d h=>bJ (str x.path) (str c.path) d (by have:=l.1;show x.path.length<=_;omega) (by have:=m.1;show c.path.length<=_;omega) h;rw[show Xp (str x.path).data.toList (str c.path).data.toList=Xp x.path c.path from rfl]at j;have l:∀c d:Obj,Yt ((w.alloc c).alloc d):=fun c d=>h.kept (((Qc [] w).alloc c).alloc d) sx
 have⟨m,c⟩:=qb (show ∀(c d:Obj) g os,∃n i,grow (((w.alloc c).alloc d).drewN g) os=grow (w.drewN n) i from fun c d g os=>⟨g,#[c]++#[d]++os,by rw[alloc_eq_grow,alloc_eq_grow,grow_grow];simp[grow,World.drewN]⟩) l;unfold Q9;go_enter func69,ntmps69;go_wp2_with (go_fit(j.o _<|c.o _ _);rintro e d⟨rfl,g,os,rfl⟩);go_ret;exact⟨rfl,m.o _ _ _ _⟩
def SF(v nv l ns w)(h:J6 w v l)(hN:MR w nv ns)(hB:Yt w)(hl:l.length<=100)(hn:ns.length<=100)(hr:Uv l)(r1:∀m∈l,Js m)(r2:∀n∈ns,Js n.2):
 Calls prog 36 #[v,nv] w (FX (Q8 l ns) w):=by
 obtain⟨a1,c1,rfl,x3,d8⟩:=h;obtain⟨a2,c2,rfl,z8⟩:=hN;have⟨n,z1⟩:=qx l.length;have⟨k2,x7⟩:=qx ns.length;rw[z1]at x3 hl ⊢;rw[x7]at z8 hn ⊢;have⟨HN,y3,b9,c6,HR,p3,HB⟩:=qg z1 x7 x3 z8 hr (Qr r1 r2) hB;clear x3 z8 d8 hB hr r1 r2 z1 x7;have d7:=@run_makeMap prog;go_enter func36,ntmps36;go_wp2_with fail;have⟨B,x9⟩:=qx w.heap.size;have p2:=Qa x9;have z6:=World.ownsMap_made w prog 9 UT;rw[x9]at z6;have b3:=Qa z6;rw[x9];clear x9 z6 d7
 go_loopg [16] n (fun k e6 wr=>(∃(i:Nat)(D:DataW Unit)(M:Vs),i<=n/\k=n-i/\e6=.int .i64 (i:Nat)/\Hid (wr.ownsMap prog 9 UT B i D/\Ry D M/\VO M (l.take i)/\∀p m,M p=some m->Js m))/\Hid (Qb [] w wr))
 ·exact⟨⟨0,_,_,ox,rfl,rfl,Qa ⟨b3.o,Qg5,Qir,fun p m h=>by cases h⟩⟩,Qa<|(Qc [] w).alloc _⟩
 obtain⟨⟨i,D,M,hi,hk,rfl,HM⟩,y5⟩:=hrel
 by_cases hlt:i<n
 ·have g0:(i:Int)<n:=ox
  have⟨m,hm⟩:=qy l i (yx HN.o);have r7:=b9.o.kZ y5.o;obtain⟨g,off,rfl,d0,d1,d2,d3,d4⟩:=RA r7 hm;obtain⟨h3,h8,q,h5⟩:=HM.o;have x1:=p3.o.1 m<|QB hm;have y0:keyOf prog 9 (.string<|str m.path)=some (.string m.path):=Ms Yw (s:=str m.path) (by have:=x1.1;show m.path.length<=_;simp only[maxLen];omega);have p0:UT (.agg #[.string<|str m.path,.int .i64 m.start,.int .i64 m.eZ,.int .i64 m.size,.int .u32 m.sum])=some (AP m,[]):=PK m;have x5:=Qa<|h3.alloc<|.cells #[.string<|str m.path,.int .i64 m.start,.int .i64 m.eZ,.int .i64 m.size,.int .u32 m.sum] 69;have h4:=Qa (show Ry (D.put (.string m.path)<|AP m) (Jb M m.path<|some m)/\VO (Jb M m.path<|some m) (l.take<|i+1)/\∀p x,Jb M m.path (some m) p=some x->Js x from⟨kN h8 (h3.tidy Bx).isMap _ _,Qis q HR.o hm,fun p x o=>by
   unfold Jb at o
   split at o
   ·injection o with o;rwa[<-o]
   exact h5 p x o⟩)
  have y9:i<maxLen:=by simp only[maxLen];omega
  clear h3 h8 q h5 x1 r7 hm;go_wp2_with (at_mapUpdate;refine oW _ rfl _ _ _ 136 rfl 9 69 Bx Nr UT B i D rfl x5.o y9 _ _ _ rfl rfl y0 _ [] p0 ?_;intro w2 x8 y7)
  go_roundg (n-(i+1))
  ·refine⟨⟨i+1,_,_,ox,rfl,by go_num,Qa ⟨x8,h4.o.1,h4.o.2.1,h4.o.2.2⟩⟩,Qa<|(y5.o.alloc _).grown y7 (by intro k hk;injection hk with hk;subst hk;exact .inr<|Nat.le_of_eq p2.o)⟩
  omega
 obtain rfl:i=n:=ox
 have g0:¬(i:Int)<i:=ox
 have b2:=Qa<|show _ from HM.o;have q:=HM.o.2.2.1;rw[Q5 (by rw[HN.o];exact Qk _)]at q;have b5:=Qa (show wr.ownsMap prog 9 UT B (i+0) D/\Ry D M/\VO M (Q8 l<|ns.take 0)/\∀p m,M p=some m->Js m from⟨HM.o.1,HM.o.2.1,q,HM.o.2.2.2⟩);clear q b2 HM
 go_wp2
 go_loopg [27] k2 (fun k e7 wq=>(∃(j:Nat)(D:DataW Unit)(M:Vs),j<=k2/\k=k2-j/\e7=.int .i64 (j:Nat)/\Hid (wq.ownsMap prog 9 UT B (i+j) D/\Ry D M/\VO M (Q8 l<|ns.take j)/\∀p m,M p=some m->Js m))/\Hid (Qb [] w wq))
 ·exact⟨⟨0,_,_,ox,rfl,rfl,b5⟩,y5⟩
 obtain⟨⟨j,D,M,hj,e9,rfl,HM⟩,x4⟩:=hrel
 by_cases f0:j<k2
 ·have g1:(j:Int)<k2:=ox
  obtain⟨⟨b,m⟩,o⟩:∃x,ns[j]?=some x:=⟨_,Qj (yx y3.o)⟩;obtain⟨g,off,rfl,h9⟩:=cN (c6.o.kZ x4.o) o;obtain⟨h3,h8,q,h5⟩:=HM.o;have x1:Js m:=p3.o.2 _<|QB o;have y0:keyOf prog 9 (.string<|str m.path)=some (.string m.path):=Ms Yw (s:=str m.path) (by have:=x1.1;show m.path.length<=_;simp only[maxLen];omega);have p0:UT (.agg #[.string<|str m.path,.int .i64 m.start,.int .i64 m.eZ,.int .i64 m.size,.int .u32 m.sum])=some (AP m,[]):=PK m;have hap:Q8 l (ns.take<|j+1)=BI (Q8 l<|ns.take j) (b,m):=by unfold Q8;rw[Zh,o];simp[BS]
  have y9:i+j<maxLen:=by simp only[maxLen];omega
  have y6:∀k,some B=some k->k∈([]:LN)\/w.heap.size<=k:=by intro k hk;injection hk with hk;subst hk;exact .inr<|Nat.le_of_eq p2.o
  have p1:=Qa y6;have c1:=h9 1 (.string<|str m.path) rfl;have c2:=h9 2 (.int .i64 m.start) rfl;have c3:=h9 3 (.int .i64 m.eZ) rfl;have c4:=h9 4 (.int .i64 m.size) rfl;have c5:=h9 5 (.int .u32 m.sum) rfl;cases b with
  |true=>
   have c0:=h9 0 (1:Int) rfl;rw[Jt]at c0;have x5:=Qa<|h3.alloc<|.cells #[(1:Int),.string<|str m.path,.int .i64 m.start,.int .i64 m.eZ,.int .i64 m.size,.int .u32 m.sum] 104;have h4:=Qa (show Ry (D.put (.string m.path)<|AP m) (Jb M m.path<|some m)/\VO (Jb M m.path<|some m) (Q8 l<|ns.take<|j+1)/\∀p x,Jb M m.path (some m) p=some x->Js x from⟨kN h8 (h3.tidy Bx).isMap _ _,by rw[hap];exact Qiq q m,fun p x o=>by
    unfold Jb at o
    split at o
    ·injection o with o;rwa[<-o]
    exact h5 p x o⟩)
   clear h3 h8 q h5 x1 o hap h9 y6;go_wp2_with (at_mapUpdate;refine oW _ rfl _ _ _ 136 rfl 9 69 Bx Nr UT B (i+j) D rfl x5.o y9 _ _ _ rfl rfl y0 _ [] p0 ?_;intro w2 x8 y7)
   go_roundg (k2-(j+1))
   ·exact⟨⟨j+1,_,_,ox,rfl,by go_num,Qa ⟨x8,h4.o.1,h4.o.2.1,h4.o.2.2⟩⟩,Qa<|(x4.o.alloc _).grown y7 p1.o⟩
   omega
  |false=>
   have c0:=h9 0 (2:Int) rfl;rw[Jt]at c0;have x5:=Qa<|h3.alloc<|.cells #[(2:Int),.string<|str m.path,.int .i64 m.start,.int .i64 m.eZ,.int .i64 m.size,.int .u32 m.sum] 104;have h4:=Qa (show Ry (D.del<|.string m.path) (Jb M m.path none)/\VO (Jb M m.path none) (Q8 l<|ns.take<|j+1)/\∀p x,Jb M m.path none p=some x->Js x from⟨Qg4 h8 _,by rw[hap];exact Qip q m.path,fun p x o=>by
    unfold Jb at o
    split at o
    ·cases o
    exact h5 p x o⟩)
   clear h3 h8 q h5 x1 o hap h9 y6;go_wp2_with (at_delete;refine wpList_delete_own _ rfl _ _ 136 9 rfl 69 Bx Nr UT B (i+j) D rfl x5.o _ _ rfl y0 ?_;intro w2 x8 e4)
   go_roundg (k2-(j+1))
   ·exact⟨⟨j+1,_,_,ox,rfl,by go_num,Qa ⟨x8.mono<|DF _,h4.o.1,h4.o.2.1,h4.o.2.2⟩⟩,Qa<|(x4.o.alloc _).grown e4.grown p1.o⟩
   omega
 obtain rfl:j=k2:=ox
 have g1:¬(j:Int)<j:=ox
 have q:=HM.o.2.2.1;rw[Q5 (by rw[y3.o];exact Qk _)]at q;obtain⟨h3,h8,-,h5⟩:=HM.o;have⟨HX,b4⟩:=qb (Qr h8<|Qr q h5) h3;have c9:(Q8 l ns).length<=200:=by have:=WU ns l;rw[HN.o,y3.o]at this;omega
 have⟨A,hA⟩:=qx<|Q8 l ns;rw[hA]at HX c9;have r9:=Qa hA;obtain⟨wA,rfl⟩:∃wA,wA=wr:=⟨_,rfl⟩;have⟨r,hr⟩:=qx wA.heap.size;have b7:=Qa (show B<r from by have:=h3.lt;omega);have p6:=Qa (show w<=r from by have:=x4.o.size;omega);clear q h3 h8 h5 hA HM;go_wp2_with (first
  |(at_range;refine wpList_range_own _ rfl _ 136 rfl 9 69 Bx Nr UT B (i+j) D rfl b4.o ?_;intro w0 z7 q1 e2)
  |go_in)
 rw[hr]at z7;have q6:Qb [] w w0:=x4.o.grown q1 (by intro k hk;cases hk)
 go_loopw [10] (fun e5 wq=>∃(y2:Lit->Bool)(R3:Nat)(L:List RM)(x2:VL),x2=e5/\wq.ranges prog 9 UT B r (i+j) D y2 R3/\Ep M y2 L/\Qm wq 69 5 x2 L (Qs Q9 L)/\(∀x∈Qd x2,w.heap.size<=x/\x≠B/\x≠r)/\Qb [] w wq) (fun _ wq=>wq.rangeLeft B r)
 ·exact⟨_,_,[],_,rfl,z7,xW HX.o.1,Qm.nil _ _ _,by simp[Qd,qo],q6⟩
 obtain⟨y2,R3,L,x2,rfl,y1,hC,r5,q0,q5⟩:=hrel;have⟨HC,p5,x0,y4,p4⟩:=qe hC r5 q0 q5 y1;have e8:L.length<=200:=yx (xV hC HX.o.2.1)
 clear hC r5 q0 q5 z7 q1 e2 q6;go_wp2_with (first
  |(at_next;refine wpList_next_ranges _ rfl _ rfl 9 Bx UT (fun s:BA=>Value.string s) Vg key_inv Qgz B r (i+j) D _ _ rfl y1 ?_ ?_)
  |go_in)
 ·intro d5 q8;have⟨a8,c7⟩:=qb q8 (mC 69 (fun x y=>Xp x.path y.path) (Qj0 fun x:MS=>x.1.path) (enters_of func69 kx rfl) (fun x y o hy W hB=>uQ x y o hy W hB) x2 L wr p5.o (fun m hm=>HX.o.2.2 _ _ ((HC.o.mem m).1 hm).1) (HB.o.kept y4.o sx) (fun h0=>by have h1:=(x0.o 0 h0).1;obtain⟨z,hz⟩:=HB.o;have:=Uc w _ hz;simp at this;omega) ox);clear y1 d5 q8;go_wp2_with (go_at_call 68;with_reducible refine c7.o.mono ?_;rintro e w2⟨rfl,l',hp,hs,e0,x7⟩);go_ret;have e:l'=A:=xU HC.o a8.o HX.o.2.1 hp (hs.imp fun h=>ox);subst e;exact⟨x2,rfl,by rwa[r9.o],y4.o.trans x7 fun x o=>.inr (x0.o x o).1,fun x o=>(x0.o x o).1⟩
 intro x c kl yd ys w1 p7 q7 r0 hy p9 r4 q9 q3 x3 d6;obtain⟨s,es,ek,-⟩:=Go.WideMaps.string_of_keyOf Yw q7;subst ek;have e3:=xX (D:=D) HX.o.1 HX.o.2.1.key HC.o r0 hy p9;obtain⟨hM,d9,p8⟩:=e3;have⟨a6,b6⟩:=qb p8 r4;have y8:Qb [r] wr w1:=(Qc [r] wr).grown q3 (by intro k hk;injection hk with hk;subst hk;exact .inl sx);have r6:=p5.o.kept y8 (fun x o=>by have:=(x0.o x o).2.2;simpa using this);have⟨b8,a7⟩:=qb r6<|y4.o.trans y8 fun x o=>.inr (by simp at o;subst o;exact p6.o);have L1:L.length+1<=maxLen:=by simp only[maxLen];omega
 have L2:(L.length+1)*48<=140737488355328:=ox
 have⟨c8,b1⟩:=qb x3 q9;clear hM d9 p8 r4 y8 r6 hy p9 r0 q7 y1 q3 x3 q9;unfold Vg at d6 ⊢;go_wp2_with (at_builtin;(refine Rr (w1.alloc<|.cells #[str c.path,c.start,c.eZ,c.size,.int .u32 c.sum] 69) rfl _ _ 38 rfl 69 (.agg #["",(0:Int),(0:Int),(0:Int),.int .u32 0]) 5 48 Gj Nf rfl dx x2 L _ (Q9 c) rfl (by rw[Ux];rfl) rfl rfl (KG _) (World.ownsRow.alloc b8.o _) L1 L2 ?_;intro g5 c5 w5 e1 q4 x6));have f1:r<wr:=p4.o.lt;have r3:w5.ranges prog 9 UT B r (i+j) D (fun z=>y2 z&&!z.sameKey (Lit.string x)) p7:=((b6.o.alloc _).kept q4.by (fun e=>(x0.o B<|by simp[Qd,<-e]).2.1 rfl) fun e=>(x0.o r<|by simp[Qd,<-e]).2.2 rfl);refine⟨⟨_,p7,L++[c],_,rfl,r3,a6.o,?_,?_,(a7.o.alloc _).trans q4 fun x o=>.inr (x0.o x o).1⟩,?_⟩
 ·have e:Qs Q9 (L++[c])=Qs Q9 L++Q9 c:=by simp[Qs]
  rwa[e,Qo]
 ·intro y hy;have hy:y=g5:=by simpa[Qd,qo]using hy
  subst hy;rcases x6 with x6|x6
  ·exact x0.o _ x6
  rw[Ux,c8.o]at x6;have h1:=b7.o;have h2:=p6.o;exact⟨ox,ox,ox⟩
 rw[r3.left_eq,p4.o.left_eq];exact b1.o
end
def MY(w:WD):Prop:=Lib.TabIs prog w "internal/strconv.uint64pow10" .u64 Lib.pow10Tab
def Y5(w:WD):Prop:=Yt w/\MY w
def Wa:(prog.globalNamed "internal/strconv.uint64pow10").map (fun g=>decide<|g<10)=some true:=by kernel_rfl
def Y5.kept{S w w'}(h:Y5 w)(hk:Qb S w w')(d:∀x∈S,10<=x):Y5 w':=by
 refine⟨h.1.kept hk (fun h=>by have:=d 0 h;omega),?_⟩;have c:=h.2;unfold MY Lib.TabIs World.var? at c ⊢;have hp:=Wa;cases hg:prog.globalNamed "internal/strconv.uint64pow10" with
 |none=>rw[hg]at hp;cases hp
 |some g=>
  rw[hg]at c hp;simp only[Bg,Option.some.injEq,ZE]at hp;simp only[Option.bind_some]at c ⊢;cases ho:w.heap[g]? with
  |none=>rw[ho]at c;cases c
  |some o=>rw[hk.heap ho (fun h=>by have:=d g h;omega)];rwa[ho]at c
def Y5.kZ{w w'}(h:Y5 w)(hk:Qb [] w w'):Y5 w':=h.kept hk sx
def yL(n)(c:100<=n)(c:n<1000):Lib.decDigits n=Rj n:=by rw[Lib.decDigits,dif_neg ox,Lib.decDigits,dif_neg ox,Lib.decDigits,dif_pos ox];simp[Rj,Tw]
def zH(n:Nat)(d:100<=n)(h:n<1000)(w)(g:Y5 w):Calls prog 156 #[n] w (RK (str<|Rj n) w):=by
 have c:=Qa<|Tryz.itoa n ox ox w g.2;rw[show Lib.itoa (n:Int)=Rj n by unfold Lib.itoa;rw[Qf ox];exact yL n d h]at c;have:¬(n:Int)<0:=ox
 go_enter func156,ntmps156;go_wp2_with (go_fit c.o;rintro e d⟨rfl,k,os,rfl⟩);go_ret;exact⟨rfl,Qb.grow _ _ _⟩
def eS(c r):∀{x:LU},c∉x->Lib.indexByte (x++c::r) c=x.length
 | [],_=>by simp[Lib.indexByte]
 |b::x,h=>by simp only[QD,Uj]at h;rw[XY,Lib.indexByte,Qf<|by simpa using fun d=>h.1 d.symm,eS c r h.2,Qf sx];simp
def bX(c x r)(h:c∉x):Lib.cut (x++c::r) [c]=(x,r,true):=by unfold Lib.cut;rw[Lib.index_one,eS c r h,Qg ox,ZH,DA,FP];simp
def yK(n)(h:n<1000):∀b∈Rj n,48<=b.toNat/\b.toNat<=57:=by intro b hb;simp only[Rj,QD,EC,or_false]at hb;rcases hb with rfl|rfl|rfl<;>(rw[U6,XH ox];omega)
def Jy:LU:=[112,97,116,104]
def Qfy(v):str (Rj<|v.length+10)++⟨#[32]⟩++⟨#[112,97,116,104]⟩++⟨#[61]⟩++str v++⟨#[10]⟩=str (Xd v):=by
 rw[<-Rp (_++_),Xd]
 congr 1
def Qgu(g v w)(hA:Qe w g 172 [.string ⟨#[112,97,116,104]⟩,str v])(hE:Y5 w)(h1:100<v.length)(h2:v.length<=200):
 Calls prog 113 #[.slice g 1 1] w (RK (.tuple #[str<|Xd v,(0:Int)]) w):=by
 have x0:=Qa fun W=>Tryz.strHas1 ⟨#[112,97,116,104]⟩ 61 W;rw[show(⟨#[112,97,116,104]⟩:BA).data.toList=Jy from rfl,(dx:decide (0<=Lib.indexByte Jy 61)=false)]at x0;have⟨n,hn⟩:=qx v.length;have y2:(str v).size=n:=hn;rw[hn]at h1 h2;have⟨x5,HP⟩:=qb (fun(k:Nat)(y0:100<=k)(h9:k<1000) W (hW:Qb [] w W)=>zH k y0 h9 W<|hE.kZ hW)<|Qfy v;have h3:∀k,(str<|Rj k).size=3:=fun _=>rfl
 rw[hn]at HP;have HA:=Qa hA;have c0:=hA.cq 0 (u:=.string ⟨#[112,97,116,104]⟩);have c1:=hA.cq 1 (u:=.string<|str v);clear hA hE hn;go_enter func113,ntmps113
 go_wp2
 go_loopg [14] 1 (fun k y4 wr=>(∃i:Nat,i<=1/\k=1-i/\y4=.int .i64 (i:Nat))/\Hid (Qb [] w wr))
 ·exact⟨⟨0,ox,rfl,rfl⟩,Qa<|Qc _ _⟩
 obtain⟨⟨i,hi,hk,rfl⟩,y⟩:=hrel
 by_cases h0:i=0
 ·subst h0;have d0:=y.o.cZ c0 sx;have d1:=y.o.cZ c1 sx;go_wp2_with (go_fit(x0.o _);rintro e w2⟨rfl,rfl⟩)
  go_roundg 0
  ·exact⟨⟨1,ox,rfl,rfl⟩,Qa<|y.o.alloc _⟩
  omega
 obtain rfl:i=1:=ox
 have c0:=y.o.cZ c0 sx;have c1:=y.o.cZ c1 sx;obtain⟨q,rfl⟩:∃q,q=wr:=⟨_,rfl⟩
 go_wp2
 go_loopg [4,29] 1 (fun k x4 x2 w2=>(k=1/\x2=.int .i64 0/\x4=.int .i64 0\/k=0/\x2=.int .i64 1/\x4=.int .i64 ((n+10:Nat):Int))/\Hid (YD q q (if k=1 then []else Xd v) w2))
 ·exact⟨.inl ⟨rfl,rfl,rfl⟩,Qa<|YD.new q⟩
 obtain⟨⟨hk,rfl,rfl⟩|⟨hk,rfl,rfl⟩,HB⟩:=hrel
 ·have h5:=Qa (show YD q q [] wr by have:=HB.o;rwa[Qg hk]at this);have d0:=h5.o.2.cZ c0 sx;have d1:=h5.o.2.cZ c1 sx;obtain⟨w1,rfl⟩:∃w1,w1=wr:=⟨_,rfl⟩;have x7:=Qa (y.o.trans h5.o.2 sx);clear HB
  go_wp2
  go_loopg [11] 1 (fun k y3 w2=>(∃j m:Nat,j<=1/\k=1-j/\y3=.int .i64 (m:Nat)/\Hid (m=n+8+2*j))/\Hid (Qb [] (w1.alloc<|.cells #[.string ⟨#[112,97,116,104]⟩,str v] 172) w2))
  ·exact⟨⟨0,n+8,ox,rfl,by go_num,Qa rfl⟩,Qa<|Qc _ _⟩
  obtain⟨⟨j,m,hj,y5,rfl,HM⟩,x6⟩:=hrel;have HD:=Qa (fun W (hW:Qb [] (w1.alloc<|.cells #[.string ⟨#[112,97,116,104]⟩,str v] 172) W)=>x5.o m (yx HM.o) (yx HM.o) W<|(x7.o.alloc _).trans hW sx);have o:=x6.o;have x1:((m:Nat):Int)=n+8+2*j:=yx HM.o
  by_cases x9:j=0
  ·subst x9;have q0:¬(3:Int)+(4+(n:Int)+3)=(m:Int):=ox;clear x1;go_wp2_with (go_fit(HD.o _ o);rintro e w4⟨rfl,h8⟩;replace o:=o.trans h8 sx)
   go_roundg 0
   ·exact⟨⟨1,n+10,ox,rfl,by go_num,Qa ox⟩,Qa o⟩
   omega
  obtain rfl:j=1:=ox
  obtain⟨q0,q1⟩:(3:Int)+(4+(n:Int)+3)=(m:Int)/\¬(262144:Int)<m:=ox
  have y1:=HM.o;have x3:=Qa fun(W:WD)(hW:Qb [] (w1.alloc<|.cells #[.string ⟨#[112,97,116,104]⟩,str v] 172) W)=>((h5.o.kept<|(Qc [] w1).alloc _).kept hW).write (str<|Xd v) (by have:=GZ v;have:(str<|Xd v).size=(Xd v).length:=rfl;have:v=n:=y2;simp only[YE];omega);rw[(ox:n+10=m)]at HP;clear x1 y1;go_wp2_with (go_fit(HD.o _ o);rintro e w4⟨rfl,h8⟩;replace o:=o.trans h8 sx);have A1:=(Qx w1 [.string ⟨#[112,97,116,104]⟩,str v] 172).kept o sx;have e0:=A1.cq 0 (u:=.string ⟨#[112,97,116,104]⟩);have e1:=A1.cq 1 (u:=.string<|str v);clear A1 h8 d0 d1 c0 c1
  go_region_with (first
   |(go_fit(HD.o _<|by first|exact o|exact o.drew);rintro e w5⟨rfl,h4⟩;first|replace o:=o.trans h4 sx|replace o:=o.drew.trans h4 sx
     replace e0:=h4.cZ e0 sx;replace e1:=h4.cZ e1 sx;clear h4)
   |(go_at_call 58;rw[HP.o];go_fit(x3.o _<|by first|exact o|exact o.drew);rintro e w6⟨rfl,x8⟩))
  all_goals
   go_wp2
   go_roundg 0
   ·exact⟨.inr ⟨rfl,rfl,by have:=HM.o;congr 1;omega⟩,Qa<|by rwa[Qf dx]⟩
   omega
 have HS:=Qa (show YD q q (Xd v) wr by have:=HB.o;rwa[Qf ox]at this).str;clear HB;go_wp2_with (go_fit HS.o;rintro e w2⟨rfl,h9⟩);go_ret2;exact⟨rfl,y.o.trans h9 sx⟩
section
open Go.Sort Go.Shelf
structure Vt(w:WD)(a d:Nat)(nv pv mv:VL)(s:Vst):Prop where
 arr:Qe w a 76 [.pointer d,s.gen,s.next,mv,.bool false]
 dk:Dk w d nv pv s.dev
 mem:Qm w 69 5 mv s.mem.length (Qs Q9 s.mem)
 apart:a∉Q2 d nv pv/\a∉Qd mv/\Qq (Qd mv) (Q2 d nv pv)
def Vt.kZ{w w' a d c e mv s}(h:Vt w a d c e mv s)(hk:Qb [] w w'):Vt w' a d c e mv s:=
 ⟨h.arr.kept hk sx,h.dk.kZ hk,h.mem.kept hk<|Zy _,h.apart⟩
section
variable {a d:Nat} {nv pv mv:VL} {s:Vst} {w:WD}
def SC(h:Vt w a d nv pv mv s)(hs:s.dev.Ok):Calls prog 76 #[.pointer a] w fun e w'=>e=.returned (0:Int)/\w'=w:=by have c:=Qa<|EZ h.dk hs;have c0:=h.arr.cq 0 (u:=.pointer d);have:=h.arr.cq 4 (u:=.bool false);go_enter func76,ntmps76;go_wp2_with (go_fit c.o;rintro e g⟨rfl,rfl⟩);go_ret;exact⟨rfl,rfl⟩
def Fo(h:Vt w a d nv pv mv s)(e:s.mem.length<=1000):Calls prog 10 #[.pointer a] w (FX s.mem w):=by have c:=Qa (wQ mv s.mem w h.mem.memA ox);have c3:=h.arr.cq 3 (u:=mv);go_enter func10,ntmps10;go_wp2_with (go_fit c.o;rintro j l⟨g,rfl,e⟩);go_ret;exact⟨g,rfl,e⟩
def Qk6(h:Vt w a d nv pv mv s)(hs:s.dev.Ok):Calls prog 56 #[.pointer a] w fun e w'=>e=.returned s.dev.cap/\w'=w:=by have c:=Qa<|Rg h.dk hs;have c0:=h.arr.cq 0 (u:=.pointer d);go_enter func56,ntmps56;go_wp2_with (go_fit c.o;rintro e g⟨rfl,rfl⟩);go_ret;exact⟨rfl,rfl⟩
def Oc(h:Vt w a d nv pv mv s)(hl:s.mem.length<=1000):Calls prog 77 #[.pointer a] w (Es s.exts w):=by
 obtain⟨a1,c1,rfl,x1,y0⟩:=h.mem.memA;have d3:=h.arr.cq 3 (u:=.slice a1 s.mem c1);have x0:=Qa x1;have⟨l,h5⟩:=qx s.mem;have HX:=Qa (by rw[<-h5];rfl:s.exts=l.map fun m=>(m.start,m.eZ));rw[h5]at x0 d3 hl;have⟨n,h8⟩:=qx l.length;rw[h8]at d3 hl;have HN:=Qa h8;have HE:∀v w',Qm w' 109 2 v n (Qs Zc<|l.map fun m=>(m.start,m.eZ))->Qb [] w w'->(∀x∈Qd v,w.heap.size<=x)->Es s.exts w (.returned v) w':=fun v w' h1 h2 h3=>
  ⟨v,rfl,by rwa[HX.o,QH,HN.o],h2,h3⟩
 have x6:=Qa HE;go_enter func77,ntmps77
 go_wp2
 go_loopg [3,5,11] n (fun k x3 x5 y2 wr=>(∃(i:Nat)(v5:VL),i<=n/\k=n-i/\v5=x3/\y2=.int .i64 (i:Nat)/\Hid (Qm wr 109 2 v5 i<|Qs Zc<|(l.take i).map fun m=>(m.start,m.eZ))/\Hid (∀x∈Qd v5,w.heap.size<=x))/\Hid (Qb [] w wr))
 ·exact⟨⟨0,_,ox,ox,rfl,rfl,Qa<|Qm.nil _ _ _,Qa<|by simp[Qd,qo]⟩,Qa<|Qc _ _⟩
 obtain⟨⟨i,v5,hi,hk,rfl,rfl,h9,h4⟩,o⟩:=hrel
 by_cases hlt:i<n
 ·have q0:(i:Int)<n:=ox
  have⟨m,hm⟩:=qy l i (yx HN.o);have x2:=x0.o.kZ o.o;obtain⟨g,off,rfl,c0,e1,e2,e3,e4⟩:=RA x2 hm;have x4:(l.take<|i+1).map (fun m=>(m.start,m.eZ))=(l.take i).map (fun m=>(m.start,m.eZ))++[(m.start,m.eZ)]:=by rw[Zh,hm];simp
  have x7:=Qa x4;have L1:i+1<=maxLen:=by simp only[maxLen];omega
  have L2:(i+1)*16<=140737488355328:=ox
  go_wp2_with (at_builtin;(refine Rr (wr.alloc<|.cells #[.string<|str m.path,.int .i64 m.start,.int .i64 m.eZ,.int .i64 m.size,.int .u32 m.sum] 69) rfl _ _ 106 rfl 109 (.agg #[(0:Int),(0:Int)]) 2 16 AC BW rfl dx v5 i _ (Zc (m.start,m.eZ)) rfl (by rw[Ux];rfl) rfl rfl (Fc _) (World.ownsRow.alloc h9.o _) L1 L2 ?_;intro g5 c5 w5 y1 x9 x8))
  go_roundg (n-(i+1))
  case measure=>omega
  refine⟨⟨i+1,_,ox,rfl,rfl,by go_num,Qa ?_,Qa ?_⟩,Qa ?_⟩
  ·rw[x7.o];have e:∀X:List QP,Qs Zc (X++[(m.start,m.eZ)])=Qs Zc X++Zc (m.start,m.eZ):=fun X=>by simp[Qs]
   rwa[e]
  ·intro y q;simp[Qd,qo]at q;subst q;have:=o.o.size;rcases x8 with h|h
   ·exact h4.o _ h
   simp at h;omega
  exact(o.o.alloc _).trans x9 fun y q=>.inr<|h4.o y q
 obtain rfl:i=n:=ox
 have q0:¬(i:Int)<i:=ox
 go_wp2
 go_ret;refine x6.o _ _ ?_ o.o h4.o;have:=h9.o;rwa[Q5 (by rw[HN.o];exact Qk _)]at this
end
end
section
open Go.Sort Go.Shelf
abbrev QN(a d:Nat)(nv pv mv:VL):LN:=a::(Qd mv++Q2 d nv pv)
structure Zn(w:WD)(a d:Nat)(nv pv mv:VL)(s:Vst):Prop where
 vt:Vt w a d nv pv mv s
 env:Y5 w
 low:∀x∈QN a d nv pv mv,10<=x
def ZU(w:WD)(a d:Nat)(e h mv:VL)(s:Vst)(w':WD):Prop:=∃g i c,Zn w' a d g i c s/\Qb (QN a d e h mv) w w'/\QQ w.heap.size (QN a d e h mv) (QN a d g i c)
section
variable {a d:Nat} {nv pv mv:VL} {s s':Vst} {w w1:WD}
def Vt.lt(h:Vt w a d nv pv mv s):∀x∈QN a d nv pv mv,x<w.heap.size:=fun x c=>by
 simp only[QN,QD,Q4]at c;rcases c with rfl|c|c
 ·exact h.arr.lt
 ·exact h.mem.lt x c
 exact h.dk.lt x (by simpa[Q2]using c)
def Zn.kZ(h:Zn w a d nv pv mv s)(hk:Qb [] w w1):Zn w1 a d nv pv mv s:=⟨h.vt.kZ hk,h.env.kZ hk,h.low⟩
def Zn.refl(h:Zn w a d nv pv mv s):ZU w a d nv pv mv s w:=⟨nv,pv,mv,h,Qc _ _,QQ.refl _ _⟩
def Zn.post(h:Zn w a d nv pv mv s){nv' pv' mv'}(k:Vt w1 a d nv' pv' mv' s')(hk:Qb (QN a d nv pv mv) w w1)(e:QQ w.heap.size (QN a d nv pv mv) (QN a d nv' pv' mv')):ZU w a d nv pv mv s' w1:=
 ⟨nv',pv',mv',⟨k,h.env.kept hk h.low,fun g c=>by
  rcases e g c with c|c
  ·exact h.low g c
  have:=h.vt.lt a sx;have:=h.low a sx;omega⟩,hk,e⟩
def ZU.trans{i}(h:ZU w a d nv pv mv s' w1){j}(n:∀e g c,Zn w1 a d e g c s'->ZU w1 a d e g c i j):ZU w a d nv pv mv i j:=by obtain⟨e,g,c,m,i,j⟩:=h;obtain⟨p,q,o,g1,l,g3⟩:=n e g c m;exact⟨p,q,o,g1,i.trans l fun e c=>j e c,j.trans g3 i.size⟩
def Vt.dev(h:Vt w a d nv pv mv s){c}(hp:Zf w d nv pv c w1):∃nv' pv',Vt w1 a d nv' pv' mv {s with dev:=c}/\Qb (Q2 d nv pv) w w1/\QQ w.heap.size (Q2 d nv pv) (Q2 d nv' pv'):=by
 obtain⟨nv',pv',l,c,e⟩:=hp;obtain⟨g,j,i⟩:=h.apart;refine⟨nv',pv',⟨h.arr.kept c g,l,h.mem.kept c i,fun l=>?_,j,i.grow h.mem.lt e⟩,c,e⟩;rcases e a l with c|c
 ·exact g c
 have:=h.arr.lt;omega
def Vt.turned{mv'}(h:Vt w a d nv pv mv s)(hk:Qb [a] w w1)(ha:Qe w1 a 76 [.pointer d,s'.gen,s'.next,mv',.bool false])(c:Qm w 69 5 mv' s'.mem.length (Qs Q9 s'.mem))(g:a∉Qd mv')(i:Qq (Qd mv') (Q2 d nv pv))(e:s'.dev=s.dev):Vt w1 a d nv pv mv' s':=
 ⟨ha,e▸h.dk.kept hk (fun j e c=>by rw[Zb]at c;subst c;exact h.apart.1 e),c.kept hk (fun j e c=>by rw[Zb]at c;subst c;exact g e),h.apart.1,g,i⟩
def Oh{n nv' pv'}(h:QQ n (Q2 d nv pv) (Q2 d nv' pv')):QQ n (QN a d nv pv mv) (QN a d nv' pv' mv):=fun e c=>by
 simp only[QN,QD,Q4]at c ⊢;rcases c with c|c|c
 ·exact .inl<|.inl c
 ·exact .inl<|.inr<|.inl c
 rcases h e (by simpa[Q2]using c)with c|c
 ·exact .inl (.inr<|.inr<|by simpa[Q2]using c)
 exact .inr c
def Zf.cell{c k u}(h:Zf w d nv pv c w1)(e:w.cell? ⟨a,k,none⟩=some u)(g:a∉Q2 d nv pv):w1.cell? ⟨a,k,none⟩=some u:=by obtain⟨_,_,_,c,_⟩:=h;exact c.cZ e g
def Vok.rm{c}(h:Vok s c):∀m∈s.mem,UH m:=fun m e=>by have d:=h.mems m e;have g:=h.inX e;have:=h.dev.c2;have e:=Oy<|c m.path;have:=d.big;have h6:=d.size;have h7:=d.sum;obtain⟨i,q2,j⟩:=g;unfold Zi at e;exact {ok:=d.ok,st:=⟨i,q2,ox⟩,sz:=⟨ox,ox⟩,sm:=⟨ox,ox⟩}
def Lp{cap l}(h:ZZ cap l=true)(c:cap<=4096):ZZ 4096 l=true:=by rw[YL]at h ⊢;exact⟨fun d c=>⟨(h.1 d c).1,(h.1 d c).2.1,yx ((h.1 d c).2.2)⟩,h.2⟩
def PT{c}(h:Zn w a d nv pv mv s)(g:Vok s c)(n:Nat)(j:n<=20)(v:s.dev.lZ+6<=1000000000):
 Calls prog 50 #[.pointer a,n] w fun e w'=>e=.returned (0:Int)/\ZU w a d nv pv mv (s.room n) w':=by
 have l:=g.next;have p:=g.gen
 by_cases hf:n+s.next<=20
 ·have m:s.room n=s:=by unfold Vst.room;rw[Qg hf]
  rw[m];have j:=Qa h.refl;have c2:=h.vt.arr.cq 2 (u:=.int .i64 s.next);have g1:(n:Int)<=20-(s.next:Int):=ox
  clear h g m;go_enter func50,ntmps50
  go_wp2
  go_ret;exact⟨rfl,j.o⟩
 have m:s.room n=s.save:=by unfold Vst.room;rw[Qf hf]
 rw[m];have j:=g.ext;have x:=Lp j (yx g.dev.c2);have⟨t,o,q⟩:=qc (fun q (o:Qb [] w q)=>NV mv s.mem (s.gen+1) d nv pv s.dev q (h.vt.dk.kZ o) g.dev (h.vt.mem.memA.kZ o) (h.env.kZ o).1 ox g.rm g.rise g.few j x (yx g.pZ) v) h.vt.apart.1 h;have g1:¬(n:Int)<=20-(s.next:Int):=ox
 have c0:=h.vt.arr.cq 0 (u:=.pointer d);have c1:=h.vt.arr.cq 1 (u:=.int .i64 s.gen);have c2:=h.vt.arr.cq 2 (u:=.int .i64 s.next);have c3:=h.vt.arr.cq 3 (u:=mv);have v:IntKind.i64.wrap ((s.gen:Int)+1)=((s.gen+1:Nat):Int):=by rw[Za _ ox];push_cast;rfl
 have y:=Qa v;clear h g m j x v;go_enter func50,ntmps50;rw[<-y.o]at t;go_wp2_with fail
 go_region_held3 (fun w'=>w'.cell? a=some (.pointer d)/\w'.cell? ⟨a,1,none⟩=some (.int .i64 s.gen)/\w'.cell? ⟨a,3,none⟩=some mv) (first|exact⟨c0,c1,c3⟩|exact⟨g,m,x⟩|go_keep)
  ((go_fit(t.o _ (Qc [] w).drew);rintro e v⟨rfl,hp⟩;have:=Qa hp;have g:=hp.cell c0 o.o;have m:=hp.cell c1 o.o;have x:=hp.cell c3 o.o))
 obtain⟨o,t,l,p,m⟩:=(q.o.vt.kZ (Qc [] w).drew).dev hp;have:=l.arr.free 1;have:=l.arr.free 2;have:=l.arr.cq 2 (u:=.int .i64 s.next);have⟨g,x,j⟩:=qc l (show Qb (QN a d nv pv mv) w v from(Qb.trans (Qc (Q2 d nv pv) w).drew p fun y j=>.inl j).mono (fun y j=>by simp only[QN,QD,Q4];exact .inr<|.inr<|by simpa[Q2]using j))<|show QQ w (QN a d nv pv mv) (QN a d o t mv)from Oh m;clear l p m hp
 go_wp2
 go_ret;refine⟨rfl,q.o.post (nv':=o) (pv':=t) (mv':=mv) ?_ ((x.o.setCell (.inl sx) _).setCell (.inl sx) _) j.o⟩;refine g.o.turned ((Qc [a] v).setCell (.inl sx) _|>.setCell (.inl sx) _) ((g.o.arr.set 1 _).set 2 _) g.o.mem g.o.apart.2.1 g.o.apart.2.2 rfl
def NQ{g off cc ns}(h:Zn w a d nv pv mv s)(hs:s.dev.Ok)(l:Qp w 6 (some ⟨g,off,none⟩) ns.length (Qs Zs ns))(z:g∉QN a d nv pv mv)(x:s.gen<=4611686018427387904)(A:∀n∈ns,Ax n)(y:∀n∈ns,Js n.2)(q:1<=ns.length)(c:s.next+ns.length+1<=20)(B:Uv s.mem)(o:∀m∈s.mem,UH m)(hf:s.mem.length<=16)(v:30<=s.dev.cap)(t:s.dev.lZ+30<=1000000000):
 Calls prog 51 #[.pointer a,.slice (some ⟨g,off,none⟩) ns.length cc] w fun e w'=>e=.returned (0:Int)/\ZU w a d nv pv mv (s.commit ns) w':=by
 have⟨C,G,p,j,D,F⟩:=qf (fun j (p:Qb [] w j)=>Qlb g off cc ns s.gen s.next d nv pv s.dev j (h.vt.dk.kZ p) hs (l.kZ p) x A q ox v t) (fun j (p:J6 j mv s.mem)(hNN:MR j (.slice (some ⟨g,off,none⟩) ns cc) ns)(hB:Yt j)=>SF mv _ s.mem ns j p hNN hB ox ox B (fun m j=>(o m j).ms) y) h h.vt.apart.1 (show g∉Q2 d nv pv from fun hh=>z (by simp only[QN,QD,Q4];exact .inr<|.inr<|by simpa[Q2]using hh)) l;have c0:=h.vt.arr.cq 0 (u:=.pointer d);have c1:=h.vt.arr.cq 1 (u:=.int .i64 s.gen);have c2:=h.vt.arr.cq 2 (u:=.int .i64 s.next);go_enter func51,ntmps51;go_wp2_with fail
 go_region_held3 (fun w'=>w'.cell? a=some (.pointer d)/\w'.cell? ⟨a,1,none⟩=some (.int .i64 s.gen)/\w'.cell? ⟨a,2,none⟩=some (.int .i64 s.next)) (first|exact⟨c0,c1,c2⟩|exact⟨l,v,x⟩|go_keep)
  ((go_fit(C.o _ (Qc [] w).drew);rintro e t⟨rfl,hp⟩;have:=Qa hp;have l:=hp.cell c0 j.o;have v:=hp.cell c1 j.o;have x:=hp.cell c2 j.o))
 obtain⟨B,C,g1,v,g3⟩:=(p.o.vt.kZ (Qc [] w).drew).dev hp;have:=g1.arr.free 2;have:=g1.arr.free 3;have:=g1.arr.cq 3 (u:=mv);have z:=Qa g1;have l:Qb (Q2 d nv pv) w t:=Qb.trans (Qc (Q2 d nv pv) w).drew v fun j c=>.inl c;have⟨y,E⟩:=qb (show Qb (QN a d nv pv mv) w t from l.mono (fun j c=>by simp only[QN,QD,Q4];exact .inr<|.inr<|by simpa[Q2]using c))<|show QQ w (QN a d nv pv mv) (QN a d B C mv)from Oh g3;have x:=g1.mem.memA;have H:=Qa<|G.o t x ⟨_,_,rfl,F.o.kept l (by intro j c;have c:j=g:=(by simpa[fZ]using c);subst c;exact D.o)⟩ (p.o.env.kept l fun j c=>p.o.low j (by simp only[QN,QD,Q4];exact .inr<|.inr<|by simpa[Q2]using c)).1;go_wp2_with (go_fit H.o;rintro e I⟨P,rfl,x,v,A⟩;obtain⟨a2,c2,rfl,-,-⟩:=x.memA;have G:=Qa x;have F:=Qa v;have D:=Qa A;have l:=Qa<|z.o.kZ v;have:=l.o.arr.free 2;have:=l.o.arr.cq 2 (u:=.int .i64 s.next);have:=l.o.arr.cq 3 (u:=mv);have:=l.o.arr.free 3);go_ret;have hlt:=z.o.lt;have v:∀j∈Qd (Value.slice a2 (Q8 s.mem ns).length c2),t.heap.size<=j:=D.o;refine⟨rfl,p.o.post (nv':=B) (pv':=C) (mv':=.slice a2 (Q8 s.mem ns).length c2) ?_ (((y.o.trans F.o sx).setCell (.inl sx) _).setCell (.inl sx) _) ?_⟩
 ·refine l.o.turned (s':={s.commit ns with dev:=(s.dev.wr (10+s.next)<|JV s.gen s.next ns).tick 1}) ((Qc [a] I).setCell (.inl sx) _|>.setCell (.inl sx) _) ((l.o.arr.set 2 _).set 3 _) G.o ?_ ?_ rfl
  ·intro o;have q:=v a o;have l:=hlt a sx;omega
  intro j c o;have q:=v j c;have l:=hlt j (by simp only[QN,QD,Q4];exact .inr<|.inr<|by simpa[Q2]using o);omega
 intro j c;simp only[QN,QD,Q4]at c;rcases c with rfl|c|c
 ·exact .inl sx
 ·exact .inr<|QS y.o.size<|v j c
 exact E.o j (by simp only[QN,QD,Q4];exact .inr<|.inr<|by simpa[Q2]using c)
end
end
section
open Go.Sort Go.Shelf
def Qd6(p m)(b:Nat)(w)(hb:w.cell? b=some (.string<|str p)):Calls prog 87 #[.agg (Q9 m).toArray,.pointer b] w (RK (.bool<|m.path==p) w):=by
 have hlt:=Uc w _ hb;have c0:(w.alloc<|.cells #[str m.path,m.start,m.eZ,m.size,.int .u32 m.sum] 69).cell? b=some (.string<|str p):=((Qc [] w).alloc _).cZ hb sx;have c:=Qa fun d=>(Qc [] w).alloc d;unfold Q9;go_enter func87,ntmps87
 go_wp2
 go_ret;refine⟨?_,c.o _⟩;show Ending.returned (.bool<|(str m.path).toList==(str p).toList)=_;rw[Xk,Xk];rfl
def Mr(l:List RM)(p:LU)(r:Int):Prop:=(∃(d:Nat)(c:RM),l[d]?=some c/\l.find? (fun c=>c.path==p)=some c/\r=(d:Int))\/(l.find? (fun c=>c.path==p)=none/\r= -1)
def Qcb(v l p b w)(h:J6 w v l)(hb:w.cell? ⟨b,0,none⟩=some (.string<|str p))(hl:l.length<=1000):
 Calls prog 86 #[v,.func (.func 87) #[] #[.pointer b]] w fun e w'=>(∃r,e=.returned (.int .i64 r)/\Mr l p r)/\Qb [] w w':=by
 obtain⟨a,c,rfl,hs,hn⟩:=h;have⟨HS,HB⟩:=qb hs hb;have⟨n,h3⟩:=qx l.length;rw[h3]at HS hl ⊢;have HN:=Qa h3;go_enter func86,ntmps86
 go_wp2
 go_loopg [8] n (fun k x8 wr=>(∃i:Nat,i<=n/\k=n-i/\x8=.int .i64 (i:Nat)/\Hid (∀x∈l.take i,(x.path==p)=false))/\Hid (Qb [] w wr))
 ·exact⟨⟨0,ox,ox,rfl,Qa sx⟩,Qa<|Qc _ _⟩
 obtain⟨⟨i,hi,hk,rfl,HA⟩,o⟩:=hrel
 by_cases hlt:i<n
 ·have q0:(i:Int)<n:=ox
  have⟨m,hm⟩:=qy l i (yx HN.o);obtain⟨g,off,rfl,c0,e1,e2,e3,e4⟩:=RA (HS.o.kZ o.o) hm;have HM:=Qa hm;have y:=Qd6 p m b wr (o.o.cZ HB.o sx);unfold Q9 at y;have⟨q,hq⟩:=qx<|(m.path==p);rw[hq]at y;have⟨HQ,HC⟩:=qb hq y;cases q with
  |true=>
   go_wp2_with ((go_fit HC.o;rintro e w1⟨rfl,h2⟩));go_ret;refine⟨⟨_,rfl,.inl ⟨i,m,HM.o,?_,rfl⟩⟩,o.o.trans h2 sx⟩;have e:l=l.take i++m::l.drop (i+1):=(by have:=(Qy.1 HM.o);rw[<-this.2,List.getElem_cons_drop,V3]);rw[e,List.find?_append,Eu.2 (by intro x hx;simp[HA.o x hx]),Option.none_or,List.find?_cons,HQ.o]
  |false=>
   go_wp2_with ((go_fit HC.o;rintro e w1⟨rfl,h2⟩))
   go_roundg (n-(i+1))
   ·refine⟨⟨i+1,ox,rfl,by go_num,Qa ?_⟩,Qa<|o.o.trans h2 sx⟩;rw[Zh,HM.o];intro x hx;rcases Q4.1 hx with h1|h1
    ·exact HA.o x h1
    obtain rfl:x=m:=(by simpa using h1);exact HQ.o
   omega
 obtain rfl:i=n:=ox
 have q0:¬(i:Int)<i:=ox
 go_wp2
 go_ret;refine⟨⟨_,rfl,.inr ⟨?_,rfl⟩⟩,o.o⟩;rw[Eu];intro x hx;have:=HA.o x (by rwa[Q5 (by rw[HN.o];exact Qk _)]);simp[this]
def PO{fn:Func}{p u:Tmp}(h:fn.results=#[.cell p 69,.tmp u])(tmps w){b v0 c v2 v3 v4}(A:Qe w b 69 [v0,c,v2,v3,v4])(hp:tmps.getD p undef=.pointer b):
 (results fn tmps).run prog w=.ok (.tuple #[.agg #[v0,c,v2,v3,v4],tmps.getD u undef]) w:=by
 rw[results_cell_tmp h,hp];simp only[asAddr,Sem.run_pure,Ua];rw[run_loadVar_row w b 69 69 _ _ _ A underlying69 rfl kx];rfl
def Sb{w w1 b l}(A:Qe w1 b 69 l)(hk:Qb [] w w1)(hb:w.heap.size<=b)(v0 c v2 v3 v4):
 Qb [] w (((((w1.setCell ⟨b,0,none⟩ v0).setCell ⟨b,1,none⟩ c).setCell ⟨b,2,none⟩ v2).setCell ⟨b,3,none⟩ v3).setCell ⟨b,4,none⟩ v4)/\
 Qe (((((w1.setCell ⟨b,0,none⟩ v0).setCell ⟨b,1,none⟩ c).setCell ⟨b,2,none⟩ v2).setCell ⟨b,3,none⟩ v3).setCell ⟨b,4,none⟩ v4) b 69 (((((l.set 0 v0).set 1 c).set 2 v2).set 3 v3).set 4 v4):=
 ⟨((((hk.setCell (.inr hb) _).setCell (.inr hb) _).setCell (.inr hb) _).setCell (.inr hb) _).setCell (.inr hb) _,((((A.set 0 v0).set 1 c).set 2 v2).set 3 v3).set 4 v4⟩
def Pb{a d nv pv mv s w}(h:Zn w a d nv pv mv s)(hs:s.dev.Ok)(hl:s.mem.length<=1000)(p)(hp:p.length<=1000000):
 Calls prog 49 #[.pointer a,str p] w (RK (.tuple #[.agg (Q9 (s.find p).2).toArray,.int .i64 (s.find p).1]) w):=by
 have⟨y1,h9⟩:=qb (fun W (hW:Qb [] w W)=>SC (h.vt.kZ hW) hs) fun W=>CP (str p) W hp;rw[XW]at h9;have⟨y6,x9,z8⟩:=qc (fun b W (hW:Qb [] w W) hb=>Qcb mv s.mem p b W (h.vt.mem.memA.kZ hW) hb hl) (fun W (hW:Qb [] w W)=>(h.vt.kZ hW).arr.cq 3 (u:=mv)) fun W (hW:Qb [] w W)=>h.vt.mem.memA.kZ hW;have y7:Qb [] w (w.alloc<|.cells #[str p] 9):=(Qc [] w).alloc _;have y4:=y7.alloc<|.cells #["",(0:Int),(0:Int),(0:Int),.int .u32 0] 69;have q0:=x9.o _ y4;have⟨h8,y5⟩:=qb y4<|show((w.alloc<|.cells #[str p] 9).alloc<|.cells #["",(0:Int),(0:Int),(0:Int),.int .u32 0] 69).cell? w=some (.string<|str p)from((Qc [] _).alloc _).cZ ((Qx w [str p] 9).cq 0) sx;obtain⟨am,cm,rfl,y8,-⟩:=h.vt.mem.memA;have z6:=Qa y8;have⟨b4,z7⟩:=qx<|w.heap.size+1;have hA:Qe ((w.alloc<|.cells #[str p] 9).alloc<|.cells #["",(0:Int),(0:Int),(0:Int),.int .u32 0] 69) b4 69 ["",(0:Int),(0:Int),(0:Int),.int .u32 0]:=by have:=Qx (w.alloc<|.cells #[str p] 9) ["",(0:Int),(0:Int),(0:Int),.int .u32 0] 69;rwa[Ux,z7]at this
 have⟨HA,y3⟩:=qb hA (ox:w<=b4);cases hok:Xr p with
 |false=>
  have e1:X1 p=140:=by simp[X1,hok]
  have e2:s.find p=(140,⟨[],0,0,0,0⟩):=by simp[Vst.find,hok]
  rw[e2];rw[e1]at h9;go_enter func49,TZ;go_wp2_with (first
   |(go_at_call 76;with_reducible refine(y1.o _ h8.o).mono ?_;rintro e w1⟨rfl,rfl⟩)
   |(go_at_call 17;with_reducible refine(h9.o _).mono ?_;rintro e w1⟨rfl,y⟩
     have o:=HA.o.kept y sx;have a0:=o.cq 0;have a1:=o.cq 1;have a2:=o.cq 2;have a3:=o.cq 3;have a4:=o.cq 4;have x0:=o.free 0;have x1:=o.free 1;have x2:=o.free 2;have x3:=o.free 3;have x4:=o.free 4;have y9:=Qa y))
  obtain⟨x7,x5⟩:=Sb o (h8.o.trans y9.o sx) y3.o ("") (0:Int) (0:Int) (0:Int)<|.int .u32 0;refine Zj (PO rfl _ _ x5 rfl) rfl ⟨rfl,x7⟩
 |true=>
  have e1:X1 p=0:=by simp[X1,hok]
  rw[e1]at h9;cases hfd:s.mem.find? (fun m=>m.path==p)with
  |none=>
   have e2:s.find p=(240,⟨[],0,0,0,0⟩):=(by simp[Vst.find,hok,hfd]);rw[e2];have y0:=Qa hfd;go_enter func49,TZ;go_wp2_with (first
   |(go_at_call 76;with_reducible refine(y1.o _ h8.o).mono ?_;rintro e w1⟨rfl,rfl⟩)
   |(go_at_call 17;with_reducible refine(h9.o _).mono ?_;rintro e w1⟨rfl,y⟩
     have x8:=h8.o.trans y sx;have z3:=x9.o _ x8;have h4:=Qa x8;have y2:=Qa (y.cZ y5.o sx))
   |(go_at_call 86;with_reducible refine(y6.o _ _ h4.o y2.o).mono ?_;rintro e w2⟨⟨r,rfl,hr⟩,h5⟩;obtain rfl:r= -1:=(by unfold Mr at hr;rcases hr with⟨i,m,h1,q,h3⟩|⟨-,h3⟩;(·rw[y0.o]at q;cases q);exact h3)
     have o:=(HA.o.kept y sx).kept h5 sx;have a0:=o.cq 0;have a1:=o.cq 1;have a2:=o.cq 2;have a3:=o.cq 3;have a4:=o.cq 4;have x0:=o.free 0;have x1:=o.free 1;have x2:=o.free 2;have x3:=o.free 3;have x4:=o.free 4;have x6:=h4.o.trans h5 sx;have z1:=Qa x6))
   obtain⟨x7,x5⟩:=Sb o x6 y3.o ("") (0:Int) (0:Int) (0:Int)<|.int .u32 0;refine Zj (PO rfl _ _ x5 rfl) rfl ⟨rfl,x7⟩
  |some m=>
   have e2:s.find p=(0,m):=(by simp[Vst.find,hok,hfd]);rw[e2];have y0:=Qa hfd;unfold Q9;go_enter func49,TZ;go_wp2_with (first
   |(go_at_call 76;with_reducible refine(y1.o _ h8.o).mono ?_;rintro e w1⟨rfl,rfl⟩)
   |(go_at_call 17;with_reducible refine(h9.o _).mono ?_;rintro e w1⟨rfl,y⟩
     have x8:=h8.o.trans y sx;have z3:=x9.o _ x8;have h4:=Qa x8;have y2:=Qa (y.cZ y5.o sx))
   |(go_at_call 86;with_reducible refine(y6.o _ _ h4.o y2.o).mono ?_;rintro e w2⟨⟨r,rfl,hr⟩,h5⟩;obtain⟨i,hi,rfl⟩:∃i:Nat,s.mem[i]?=some m/\r=(i:Int):=(by unfold Mr at hr;rcases hr with⟨i,m',h1,q,h3⟩|⟨q,-⟩;(·rw[y0.o]at q;injection q with q;subst q;exact⟨i,h1,h3⟩);rw[y0.o]at q;cases q)
     have z3:=x9.o _ (h4.o.trans h5 sx);have p0:¬(i:Int)<0:=ox;have p1:i<s.mem:=(Qy.1 hi).1;obtain⟨gm,om,rfl,m0,m1,m2,m3,m4⟩:=RA (z6.o.kZ<|h4.o.trans h5 sx) hi;have o:=(HA.o.kept y sx).kept h5 sx;have a0:=o.cq 0;have a1:=o.cq 1;have a2:=o.cq 2;have a3:=o.cq 3;have a4:=o.cq 4;have x0:=o.free 0;have x1:=o.free 1;have x2:=o.free 2;have x3:=o.free 3;have x4:=o.free 4;have x6:=h4.o.trans h5 sx;have z1:=Qa x6))
   obtain⟨x7,x5⟩:=Sb o x6 y3.o (.string<|str m.path) (.int .i64 m.start) (.int .i64 m.eZ) (.int .i64 m.size)<|.int .u32 m.sum;refine Zj (PO rfl _ _ x5 rfl) rfl ⟨rfl,x7⟩
end
section
open Go.Sort Go.Shelf
def yW(v l w)(h:Ao w v l)(hl:l.length<=1000)(hk:ZZ 4096 l=true):
 Calls prog 82 #[v] w (RK (.int .i64<|l.foldl (fun e x=>max e<|x.1+x.2) 30) w):=by
 have hc:=LQ v l 4096 w h ox dx dx;rw[hk]at hc;have⟨HC,x4⟩:=qb hc (show ∀x∈l,0<=x.1+x.2/\x.1+x.2<=4096 from fun x o=>by have:=((YL _ _).1 hk).1 x o;unfold K.inX at this;omega);obtain⟨a1,c1,rfl,h8,x9⟩:=h;have x8:=Qa h8;have⟨n,h2⟩:=qx l.length;rw[h2]at HC hl ⊢;have HN:=Qa h2;go_enter func82,ntmps82;go_wp2_with (go_fit HC.o;rintro e w1⟨rfl,h5⟩);have h3:=Qa h5
 go_loopg [3,5,12] n (fun k x3 x5 y0 wr=>(∃(i:Nat)(f:Int),i<=n/\k=n-i/\x3=.int .i64 f/\y0=.int .i64 (i:Nat)/\0<=f/\f<=4096/\Hid (l.foldl (fun e x=>max e<|x.1+x.2) 30=(l.drop i).foldl (fun e x=>max e<|x.1+x.2) f))/\Hid (Qb [] w1 wr))
 ·exact⟨⟨0,30,ox,ox,rfl,rfl,ox,ox,Qa rfl⟩,Qa<|Qc _ _⟩
 obtain⟨⟨i,f,hi,hk,rfl,rfl,y1,y2,HF⟩,h1⟩:=hrel
 by_cases hlt:i<n
 ·have q0:(i:Int)<n:=ox
  have⟨x,o⟩:=qy l i (yx HN.o);have h9:=(x8.o.kZ h3.o).kZ h1.o;obtain⟨g,off,rfl,c0,c1⟩:=NZ h9 o;have x2:=x4.o x<|QB o;have h4:l.drop i=x::l.drop (i+1):=by
   have hl:=(Qy.1 o).1;rw[Xf hl]
   congr 1
   exact(Qy.1 o).2
  have hf:=HF.o;rw[h4,CB]at hf;have x6:=Qa hf;obtain⟨q,y⟩:=x;simp only[]at c0 c1 x2;have v2:IntKind.i64.wrap (q+y)=q+y:=by rw[Zq];omega
  have HM:=Qa (ox:0<=max f (q+y)/\max f (q+y)<=4096)
  go_wp2
  go_roundg (n-(i+1))
  ·exact⟨⟨i+1,max f<|q+y,ox,rfl,rfl,by go_num,HM.o.1,HM.o.2,x6⟩,Qa<|h1.o.alloc _⟩
  omega
 obtain rfl:i=n:=ox
 have q0:¬(i:Int)<i:=ox
 have x7:=Qa (show l.foldl (fun e x=>max e<|x.1+x.2) 30=f by have:=HF.o;rwa[Jq (by rw[HN.o];exact Qk _)]at this)
 go_wp2
 go_ret;exact⟨by rw[x7.o];rfl,h3.o.trans h1.o sx⟩
end
section
open Go.Sort Go.Shelf
section
variable {a d:Nat} {nv pv mv:VL} {s:Vst} {w w1 w2:WD}
def ZU.from(hk:Qb [] w w1)(h:ZU w1 a d nv pv mv s w2):ZU w a d nv pv mv s w2:=by
 obtain⟨j,l,i,c,e,g⟩:=h;refine⟨j,l,i,c,(hk.mono (T:=QN a d nv pv mv) sx).trans e fun e c=>.inl c,fun e c=>?_⟩;rcases g e c with c|c
 ·exact .inl c
 exact .inr<|QS hk.size c
def ZU.kept(h:ZU w a d nv pv mv s w1)(hk:Qb [] w1 w2):ZU w a d nv pv mv s w2:=by obtain⟨j,l,i,c,e,g⟩:=h;exact⟨j,l,i,c.kZ hk,e.trans hk sx,g⟩
def ZU.next{g i e}(hk:Qb (QN a d nv pv mv) w w1)(c:QQ w.heap.size (QN a d nv pv mv) (QN a d g i e))(h:ZU w1 a d g i e s w2):ZU w a d nv pv mv s w2:=by obtain⟨i,j,g,g1,e,g3⟩:=h;exact⟨i,j,g,g1,hk.trans e fun g e=>c g e,c.trans g3 hk.size⟩
def Zn.note(h:Zn w a d nv pv mv s)(n):Zn (w.alloc<|.cells (Zs n).toArray 104) a d nv pv mv s/\Qp (w.alloc<|.cells (Zs n).toArray 104) 6 w.heap.size 1 (Qs Zs [n])/\w.heap.size∉QN a d nv pv mv:=
 ⟨h.kZ<|(Qc [] w).alloc _,by have:=(Qx w (Zs n) 104).sees (size:=6) (n:=1) rfl;rwa[show Qs Zs [n]=Zs n by simp[Qs]],fun c=>absurd (h.vt.lt _ c)<|CE _⟩
def cA{c}(h:Zn w a d nv pv mv s)(j:Vok s c)(p)(hp:p.length<=1000000)(g:s.dev.lZ+100<=1000000000):
 Calls prog 28 #[.pointer a,str p] w fun e w'=>e=.returned (.int .i64 (s.del p).1)/\ZU w a d nv pv mv (s.del p).2 w':=by
 have⟨g,x⟩:=qb (Pb h j.dev (yx j.few) p hp) h
 by_cases h0:(s.find p).1=0
 ·have e:s.del p=(0,(s.room 2).commit [(false,⟨p,0,0,0,0⟩)]):=by unfold Vst.del;rw[Qf<|by simp[h0]]
  have t:Xr p=true:=by
   unfold Vst.find at h0
   by_cases hh:Xr p=true
   ·exact hh
   simp[hh]at h0
  rw[e];rw[h0]at g;have y:=Qa (fun l (i:Qb [] w l)=>PT (h.kZ i) j 2 dx ox);have i:=j.room 2 ox;have z:=s.room_calls 2;have A:=Vst.room_next (s:=s) (n:=2) dx;have v:=Qa (fun o q n m l (u:Zn l a d o q n (s.room 2))(hS:Qp l 6 (some ⟨m,0,none⟩) 1 (Qs Zs [(false,(⟨p,0,0,0,0⟩:RM))]))(hg:m∉QN a d o q n)=>
   NQ (cc:=1) (ns:=[(false,⟨p,0,0,0,0⟩)]) u i.dev hS hg (yx i.gen) (by intro m l;rw[Zb]at l;subst l;exact .inr ⟨rfl,t,rfl⟩)
    (by intro m l;rw[Zb]at l;subst l;exact⟨(XU t).2.2,AZ 0,show(0:Int)<=4096 by decide⟩) sx zx i.rise i.rm i.few (yx i.pZ) ox)
  have⟨m,l⟩:=qx<|(s.find p).2;rw[l]at g;unfold Q9 at g;go_enter func28,ntmps28;go_wp2_with (first
   |(go_fit g.o;rintro e D⟨rfl,i⟩)
   |(go_fit(y.o _<|i.alloc _);rintro e E⟨rfl,B⟩;obtain⟨o,q,n,u,A,z⟩:=B)
   |(go_at_call 51;have t:=u.note (false,⟨p,0,0,0,0⟩);go_fit(v.o o q n _ _ t.1 t.2.1 t.2.2);rintro e F⟨rfl,C⟩))
  go_ret;exact⟨rfl,.from (i.alloc _)<|.next (A.trans ((Qc [] E).alloc _) sx) z C⟩
 have e:s.del p=((s.find p).1,s):=by unfold Vst.del;rw[Qg h0]
 rw[e];have⟨m,l⟩:=qx<|(s.find p).2;have⟨c1,m⟩:=qx<|(s.find p).1;rw[l]at g;rw[m]at g h0 ⊢;unfold Q9 at g;have:(c1==0)=false:=Ze.2 h0;go_enter func28,ntmps28;go_wp2_with (first
  |(go_fit g.o;rintro e D⟨rfl,i⟩))
 go_ret;exact⟨rfl,x.o.refl.kept<|i.alloc _⟩
def Zn.dev(h:Zn w a d nv pv mv s){c}(hp:Zf w d nv pv c w1):ZU w a d nv pv mv {s with dev:=c} w1:=by obtain⟨c,c,c,e,g⟩:=h.vt.dev hp;exact h.post c (e.mono fun c c=>by simp only[QN,QD,Q4];exact .inr<|.inr<|by simpa[Q2]using c)<|Oh g
def zG(h:Zn w a d nv pv mv s):Calls prog 78 #[.pointer a,(0:Int)] w fun e w'=>e=.returned (0:Int)/\ZU w a d nv pv mv s w':=by
 have c:=Qa h;have:=h.vt.arr.cq 4 (u:=.bool false);have:=h.vt.arr.free 4;go_enter func78,ntmps78
 go_wp2
 go_ret;have hk:∀g:LN,a∈g->Qb g w (w.setCell ⟨a,4,none⟩<|.bool false):=fun g j=>(Qc g w).setCell (.inl j) _
 exact⟨rfl,c.o.post (c.o.vt.turned (hk _ sx) (c.o.vt.arr.set 4 _) c.o.vt.mem c.o.vt.apart.2.1 c.o.vt.apart.2.2 rfl) (hk _ sx)<|QQ.refl _ _⟩
def nX{c}(h:Zn w a d nv pv mv s)(o:Vok s c)(hc:s.dev.lZ+100<=1000000000):
 Calls prog 43 #[.pointer a] w fun e w'=>e=.returned s.trim.1/\ZU w a d nv pv mv s.trim.2 w':=by
 have⟨h8,x1⟩:=qb (SC h.vt o.dev)<|Oc h.vt (yx o.few);have h5:=Lp o.ext (yx o.dev.c2);have⟨h1,x2,h9⟩:=qc (fun v W hA=>yW v s.exts W hA (by unfold Vst.exts;rw[QH];have:=o.few;omega) h5) (fun W (hW:Qb [] w W)=>DS (h.vt.dk.kZ hW) o.dev) fun W (hW:Qb [] w W)=>(h.vt.kZ hW).arr.cq 0 (u:=.pointer d);have⟨E,hE⟩:=qx<|Vst.endX s.exts;have y5:30<=E:=by rw[<-hE];exact(Vst.endX_ge s.exts 30).1
 rw[show s.exts.foldl (fun e x=>max e<|x.1+x.2) 30=E from hE]at h1;have HH:=Qa h
 by_cases hf:(s.dev.img:Int)<=E
 ·have e:s.trim=(0,s):=by unfold Vst.trim;rw[hE,Qg hf]
  rw[e];go_enter func43,ntmps43;go_wp2_with (first
   |(go_at_call 76;with_reducible refine h8.o.mono ?_;rintro e w⟨rfl,rfl⟩)
   |(go_fit x1.o;rintro e w1⟨v1,rfl,h4,h2,-⟩)
   |(go_at_call 82;with_reducible refine(h1.o _ _ h4.exA).mono ?_;rintro e w2⟨rfl,h3⟩;have q:=h2.trans h3 sx;have c0:=h9.o _ q)
   |(go_at_call 24;with_reducible refine(x2.o _ q).mono ?_;rintro e w3⟨rfl,rfl⟩))
  go_ret;exact⟨rfl,HH.o.refl.kept q⟩
 have e:s.trim=(0,{s with dev:=(s.dev.cut E.toNat).tick 1}):=by unfold Vst.trim;rw[hE,Qf hf]
 rw[e];have g0:¬(s.dev.img:Int)<=E:=hf;have x0:=Qa (fun W (hW:Qb [] w W)=>yI (h.vt.dk.kZ hW) o.dev E.toNat ox);rw[RT ox]at x0;have x8:=Qa<|show(s.dev.cut E.toNat).Ok from⟨o.dev.c1,o.dev.c2,(by show(s.dev.img.take _).length<=_;rw[Zd];exact QS (Nat.min_le_right _ _) o.dev.len),fun y hy=>o.dev.sec y<|Rv hy,(by show s.dev.lZ+1<=_;omega)⟩;go_enter func43,ntmps43;go_wp2_with (first
  |(go_at_call 76;with_reducible refine h8.o.mono ?_;rintro e w⟨rfl,rfl⟩)
  |(go_fit x1.o;rintro e w1⟨v1,rfl,h4,h2,-⟩)
  |(go_at_call 82;with_reducible refine(h1.o _ _ h4.exA).mono ?_;rintro e w2⟨rfl,h3⟩;have q:=h2.trans h3 sx;have c0:=h9.o _ q)
  |(go_at_call 24;with_reducible refine(x2.o _ q).mono ?_;rintro e w3⟨rfl,rfl⟩)
  |(go_fit(x0.o _ q);rintro e w4⟨rfl,x4⟩;have q4:=(HH.o.kZ q).dev x4))
 obtain⟨z6,p0,y8,hV,y2,y0⟩:=q4;have HV:=Qa hV;have d0:=hV.vt.arr.cq 0 (u:=.pointer d);have x7:=Qa fun W (hW:Qb [] w4 W)=>nG (hV.vt.dk.kZ hW) x8.o
 go_region_held3 (fun w'=>w'.cell? a=some (.pointer d)) (first|exact d0|exact d5|exact d6|go_keep)
  (first
    |(go_fit(x7.o _ (Qc [] w4).drew);rintro e w5⟨rfl,y4⟩;obtain⟨z7,p1,y9,x3,y3,y1⟩:=(HV.o.kZ (Qc [] w4).drew).dev y4;have d5:=x3.vt.arr.cq 0 (u:=.pointer d))
    |(go_fit(zG x3);rintro e w6⟨rfl,x5⟩;have x6:=Qa x5;obtain⟨z8,p2,z1,x9,y7,y6⟩:=x5;have d6:=x9.vt.arr.cq 0 (u:=.pointer d)))
 go_wp2
 go_ret;exact⟨rfl,.from q<|.next y2 y0<|.from (Qc [] w4).drew<|.next y3 y1 x6.o⟩
end
end
section
open Go.Sort Go.Shelf
def yO{d g j s w w1}(h:Zf w d g j s w1)(hs:s.Ok){i:Nat}{x}(c:s.img[i]?=some x):
 Calls prog 57 #[.pointer d,i] w1 fun e w'=>e=.returned (.tuple #[str x,(0:Int)])/\Zf w d g j {s with lZ:=s.lZ+1} w':=
 h.on fun m n g=>(PL g hs i x c).mono fun e w' ⟨l,g,j⟩=>⟨l,m,n,g,j.mono (by intro x c;rw[Zb]at c;subst c;simp),QQ.refl _ _⟩
def J0(S:LN)(w:WD)(b:Nat)(l:LU)(w':WD):Prop:=Lib.IsBuilder 115 5 w.heap.size b (Lib.byteCells l) w'/\Qb S w w'
def J0.kept{S T w w1 e b l}(h:J0 S w b l w1)(hk:Qb T w1 e)(c:∀x∈T,x∈S)(g:∀x∈S,x<w.heap.size):J0 S w b l e:=by
 obtain⟨m,n⟩:=h;have hb:∀d,Lib.BuilderAt 115 5 w.heap.size b d (Lib.byteCells l) w1->Lib.BuilderAt 115 5 w.heap.size b d (Lib.byteCells l) e:=by
  rintro d⟨d,e,a2,a3,a4⟩;refine⟨d,e,hk.heap a2 (fun d=>by have:=g _<|c _ d;omega),⟨a3.1,?_⟩,a4⟩;rcases a3.2 with e|⟨j,cap,i,p,o,hh,r⟩
  ·exact .inl e
  exact .inr ⟨j,cap,i,p,o,hk.heap hh (fun d=>by have:=g _<|c _ d;have:=r.1;omega),r⟩
 exact⟨m.imp (hb _)<|hb _,n.trans hk fun x d=>.inl<|c x d⟩
def J0.new(S w):J0 S w w.heap.size [] (w.alloc<|.cells #[.pointer none,.slice none 0 0] 115):=
 ⟨(YD.new w).1,(Qc _ _).alloc _⟩
def J0.write{S w w1 b l}(h:J0 S w b l w1)(s:BA)(c:l.length+s.size<=100000000):
 Calls prog 58 #[.pointer b,s] w1 fun e c=>e=.returned (.tuple #[s.size,.nilIface])/\J0 S w b (l++s.data.toList) c:=by
 have d:(Lib.byteCells l).length=l.length:=by simp[Lib.byteCells]
 go_fit(Tryz.strWrite w b (Lib.byteCells l) s w1 h.1 (by rw[d];omega) h.2.size);rintro e c⟨i,d,c⟩;have g:Lib.byteCells l++Lib.strCells s=Lib.byteCells (l++s.data.toList):=by simp[Lib.byteCells,Lib.strCells]
 rw[g]at d;exact⟨i,.inr d,⟨c.os.trans h.2.os,c.tape.trans h.2.tape,c.output.trans h.2.output,QS h.2.size c.size,fun k hk d=>(c.block k hk).trans<|h.2.block k hk d⟩⟩
def J0.str{S w w1 b l}(h:J0 S w b l w1):
 Calls prog 60 #[.pointer b] w1 fun e c=>e=.returned (str l)/\Qb S w c:=by
 go_fit(Tryz.strBuilt w b l w1 h.1 h.2.size);rintro e c⟨d,c⟩;exact⟨d,⟨c.os.trans h.2.os,c.tape.trans h.2.tape,c.output.trans h.2.output,QS h.2.size c.size,fun k hk d=>(c.block k hk).trans<|h.2.block k hk d⟩⟩
end
