import Derived.Maps.OwnSet
import Derived.Maps.RangeWalk
import Derived.StringKeys
import Derived.Laws.ResultCell
import Derived.Laws.Rows
import Derived.Test.YtickjpnkoppmgaaGreatDoorBm
set_option linter.all false
set_option maxHeartbeats 4000000
set_option maxRecDepth 100000
namespace Go.Proofs.YtickjpnkoppmgaaGreatDoor
open Go.Proofs.Tryz Go.RowKit K
section
open Go.Maps
def Af(m:RM):DataW Unit:=.agg [.lit (.string m.path),.lit (.int .i64 m.start),.lit (.int .i64 m.eZ),.lit (.int .i64 m.size),.lit (.int .u32 m.sum)]
def Qa2{a b}(c:Af a=Af b):a=b:=by obtain⟨d,d,d,d,d⟩:=a;obtain⟨d,d,d,d,d⟩:=b;simp only[Af,DataW.agg.injEq,List.cons.injEq,DataW.lit.injEq,Lit.string.injEq,Lit.int.injEq,EW,and_true]at c;obtain⟨rfl,rfl,rfl,rfl,rfl⟩:=c;rfl
def Qa4{a b}(c:UX a=UX b):a=b:=by
 obtain⟨e,d,d,d,d⟩:=a;obtain⟨f,d,d,d,d⟩:=b;simp only[UX,Value.agg.injEq,Array.mk.injEq,List.cons.injEq,Value.string.injEq,Value.int.injEq,EW,and_true]at c;obtain⟨d,rfl,rfl,rfl,rfl⟩:=c;have:e=f:=by have:=Qq (fun b:ByteArray=>b.data.toList) d;exact this
 subst this;rfl
open Classical in
noncomputable def Ug(v:Value):Option (DataW Unit × List MemPlace):=if h:∃a:RM,v=UX a then some (Af h.choose,[])else none
def NM(m):Ug (UX m)=some (Af m,[]):=by have a:∃b:RM,UX m=UX b:=⟨m,rfl⟩;unfold Ug;rw[dif_pos a,←Qa4 a.choose_spec]
def Qdz(v)(y:DataW Unit × List MemPlace)(h:Ug v=some y):∃m,v=UX m:=by
 unfold Ug at h
 split at h
 ·rename_i o;exact o
 cases h
abbrev UQ:=List UInt8→Option RM
def YJ(b:UQ)(p:List UInt8)(c:Option RM):UQ:=fun a=>if a=p then c else b a
def VS(D:DataW Unit)(b:UQ):Prop:=∀a,(∀c,D.atKey (.string a) c=(b a).elim c Af)∧Maps.has D (.string a)=(b a).isSome
def Qd5:VS (.map []) (fun _=>none):=fun a=>⟨fun a=>rfl,rfl⟩
def Gb{p a}(b:a≠p):(Lit.string a)≠.string p:=fun a=>b (by injection a)
def fT{D:DataW Unit}{a:UQ}(c:VS D a)(d:IsMap D)(p m):VS (D.put (.string p)<|Af m) (YJ a p<|some m):=fun a=>by
 unfold YJ
 by_cases b:a=p
 ·subst b;rw[Qg rfl];exact⟨fun e=>atKey_put_same d (show WideAt.IsKeyLit (.string a)from True.intro) _ _,has_put_same d (show WideAt.IsKeyLit (.string a)from True.intro) _⟩
 rw[Qe b];exact⟨fun e=>by rw[atKey_put_other<|Gb b];exact(c a).1 e,by rw[has_put_other<|Gb b];exact(c a).2⟩
def Qd4{D:DataW Unit}{a:UQ}(c:VS D a)(p):VS (D.del<|.string p) (YJ a p none):=fun b=>by
 unfold YJ
 by_cases a:b=p
 ·subst a;rw[Qg rfl];exact⟨fun d=>atKey_del_same _,has_del_same⟩
 rw[Qe a];exact⟨fun d=>by rw[atKey_del_other<|Gb a];exact(c b).1 d,by rw[has_del_other<|Gb a];exact(c b).2⟩
structure U7(M:UQ)(l:List RM):Prop where
 rise:UR l
 mem:∀m,m∈l↔M m.path=some m
 key:∀p m,M p=some m→m.path=p
def Qfn:U7 (fun _=>none) []:=⟨List.Pairwise.nil,by simp,by simp⟩
def Qfo{a:UQ}{l i x}(d:U7 a (l.take i))(f:UR l)(g:l[i]?=some x):U7 (YJ a x.path<|some x) (l.take<|i+1):=by
 have hi:=Qz.1 g;have h:∀c∈l.take i,c.path≠x.path:=fun c a b=>by obtain⟨j,e,rfl⟩:=Ps a;rw[List.getElem_take]at b;have:=JD.1 f j i (by rw[Zn]at e;omega) hi.1 (by rw[Zn]at e;omega);rw[hi.2,b,Ep]at this;omega
 refine⟨f.sublist<|Li _ _,fun c=>?_,fun e c a=>?_⟩
 ·rw[ZE,g];unfold YJ;simp only[Fr,Q5,Q8];constructor
  ·rintro(a|rfl)
   ·rw[Qe<|h c a];exact(d.mem c).1 a
   rw[Qg rfl]
  intro a
  by_cases b:c.path=x.path
  ·rw[Qg b]at a;injection a with a;exact .inr a.symm
  rw[Qe b]at a;exact .inl<|(d.mem c).2 a
 unfold YJ at a
 by_cases b:e=x.path
 ·rw[Qg b]at a;injection a with a;rw[←a];exact b.symm
 rw[Qe b]at a;exact d.key e c a
def Qfm{a:UQ}{l}(c:U7 a l)(x):U7 (YJ a x.path<|some x) (Vd x l):=by
 refine⟨DA c.rise,fun d=>?_,fun e d a=>?_⟩
 ·rw[EG c.rise];unfold YJ
  by_cases b:d.path=x.path
  ·rw[Qg b];constructor
   ·rintro(rfl|⟨-,h2⟩)
    ·rfl
    exact absurd b h2
   intro a;injection a with a;exact .inl a.symm
  rw[Qe b,←c.mem d];constructor
  ·rintro(rfl|⟨f,-⟩)
   ·exact absurd rfl b
   exact f
  exact fun a=>.inr ⟨a,b⟩
 unfold YJ at a
 by_cases b:e=x.path
 ·rw[Qg b]at a;injection a with a;rw[←a];exact b.symm
 rw[Qe b]at a;exact c.key e d a
def Qfl{b:UQ}{l}(a:U7 b l)(p):U7 (YJ b p none) (Dl p l):=by
 refine⟨NU a.rise,fun d=>?_,fun e d c=>?_⟩
 ·rw[dM];unfold YJ
  by_cases b:d.path=p
  ·rw[Qg b];exact⟨fun a=>absurd b a.2,fun a=>by cases a⟩
  rw[Qe b,←a.mem d];exact⟨fun a=>a.1,fun a=>⟨a,b⟩⟩
 unfold YJ at c
 by_cases b:e=p
 ·rw[Qg b]at c;cases c
 rw[Qe b]at c;exact a.key e d c
structure DL(M:UQ)(left:Lit→Bool)(L:List RM):Prop where
 nodup:(L.map (·.path)).Nodup
 mem:∀m,m∈L↔M m.path=some m∧left (.string m.path)=false
def uA{D:DataW Unit}{b:UQ}(a:VS D b):DL b (Maps.has D) []:=⟨List.nodup_nil,fun b=>by
 rw[(a b.path).2];constructor
 ·intro a;cases a
 rintro⟨b,a⟩;rw[b]at a;cases a⟩
def uB{D:DataW Unit}{a:UQ}{b:Lit→Bool}{L}{c:DataW Unit × List MemPlace}{m p}(f:VS D a)(hk:∀p m,a p=some m→m.path=p)(e:DL a b L)(h:b (.string p)=true)(d:Ug (UX m)=some c)(g:∀z,D.atKey (.string p) z=c.1):
 a p=some m∧m.path=p∧DL a (fun z=>b z&&!z.sameKey (.string p)) (L++[m]):=by
 rw[NM]at d;injection d with d;have c:a p=some m:=by
  cases hp:a p with
  |none=>have a:=(f p).1 (.lit<|.bool true);have b:=(f p).1 (.lit<|.bool false);rw[g,hp]at a b;have:(DataW.lit (.bool true):DataW Unit)=.lit (.bool false):=a.symm.trans b;injection this with this;injection this with this;cases this
  |some m'=>
   have a:=(f p).1 (.lit<|.bool true);rw[g,hp,←d]at a;rw[Qa2 a]
 have hp:=hk p m c;refine⟨c,hp,?_,fun d=>?_⟩
 ·rw[Xh,BS];refine⟨e.nodup,by simp,fun f ha f hb=>?_⟩;simp at hb;subst hb;obtain⟨d,g,rfl⟩:=Qy.1 ha;intro f;have:=((e.mem d).1 g).2;rw[f,hp,h]at this;cases this
 simp only[Q5,Q8,Bool.and_eq_false_iff,Bool.not_eq_false'];rw[e.mem d];constructor
 ·rintro(⟨a,b⟩|rfl)
  ·exact⟨a,.inl b⟩
  exact⟨by rwa[hp],.inr (by rw[hp];simp[Lit.sameKey])⟩
 rintro⟨a,b|b⟩
 ·exact .inl ⟨a,b⟩
 have:=WideAt.sameKey_eq b;injection this with this;rw[this,c]at a;injection a with a;exact .inr a.symm
def tY{c:UQ}{d:Lit→Bool}{L l' A}(f:DL c d L)(h0:∀z,d z=false)(g:U7 c A)(hp:l'.Perm L)(hs:l'.Pairwise fun a b=>¬X7 b.path a.path<0):l'=A:=by
 have l:(l'.map (·.path)).Nodup:=(hp.map _).nodup_iff.2 f.nodup;refine Kj (pt:=RM.path) ?_ g.rise fun j=>?_
 ·refine JD.2 fun c d hi i h=>?_
  have:=JD.1 hs c d hi i h;have k:l'[c].path≠l'[d].path:=fun e=>by have:=JD.1 l c d (by simpa using hi) (by simpa using i) h;simp at this;exact this e
  have:X7 l'[c].path l'[d].path≠0:=fun e=>k<|FG e
  have:=Eo l'[c].path l'[d].path;omega
 rw[hp.mem_iff,f.mem j,g.mem j,h0];simp
end
section
open Go.Sort Go.Shelf
def Qb.by{w w' v}(a:Qb (Qd v) w w'):w.grownBy w' v.ownBlock:=⟨a.os,a.tape,a.output,a.size,fun c hk b=>a.block c hk (by intro a;exact b<|by simpa[Qd,eq_comm]using a)⟩
def AM:Go.Maps.Keyed prog 9:=Go.Maps.string_keyed Xc
def key_inv(key)(b:Lit)(a:keyOf prog 9 key=some b):∃x:ByteArray,key=.string x:=by obtain⟨c,b,-,-⟩:=Go.WideMaps.string_of_keyOf Xc a;exact⟨c,b⟩
def tZ{b:UQ}{c:Lit→Bool}{L A}(a:DL b c L)(e:U7 b A):L.length≤A.length:=by
 classical
 have d:=GE (fun _:RM=>1) (l:=L) (l':=A) (by have:=a.nodup;exact List.Pairwise.imp (fun a b=>a<|by rw[b])<|VO.1 this) fun c f=>(e.mem c).2 ((a.mem c).1 f).1;have b:∀a:List RM,(a.map fun _=>1).sum=a.length:=fun a=>by
  induction a with
  |nil=>rfl
  |cons c a ih=>rw[QO,Z8,ih,QZ];omega
 rwa[b,b]at d
def Ln(w:World)(v:Value)(ns:List Note):Prop:=∃a b,v=.slice a ns.length b∧Qn w 6 a ns.length (Qw Xi ns)
def qX(x a)(h:Y5 x)(i:Y5 a)(w)(d:YU w):Calls prog 69 #[.agg (Zi x).toArray,.agg (Zi a).toArray] w fun e w'=>e=.returned (.int .i64<|X7 x.path a.path)∧∃c f,w'=grow (w.drewN c) f:=by
 have g:=Qa fun b d=>tD (str x.path) (str a.path) b (by have:=h.1;show x.path.length≤_;omega) (by have:=i.1;show a.path.length≤_;omega) d;rw[show X7 (str x.path).data.toList (str a.path).data.toList=X7 x.path a.path from rfl]at g;have h:∀a b:Obj,YU ((w.alloc a).alloc b):=fun a b=>d.kept (((Qc [] w).alloc a).alloc b) (by simp)
 have⟨i,a⟩:=qb (show ∀(a b:Obj) c os,∃j f,grow (((w.alloc a).alloc b).drewN c) os=grow (w.drewN j) f from fun a b c os=>⟨c,#[a]++#[b]++os,by rw[alloc_eq_grow,alloc_eq_grow,grow_grow];simp[grow,World.drewN]⟩) h;unfold Zi;go_enter func69,ntmps69;go_wp2_with (go_at_call 70;refine(g.o _<|a.o _ _).mono ?_;rintro e b⟨rfl,c,os,rfl⟩);go_ret;exact⟨rfl,i.o _ _ _ _⟩
def kX(v nv l ns w)(h:Vq w v l)(hN:Ln w nv ns)(hB:YU w)(hl:l.length≤100)(hn:ns.length≤100)(hr:UR l)(r1:∀m∈l,Y5 m)(r2:∀n∈ns,Y5 n.2):
 Calls prog 36 #[v,nv] w (Fo (Zo l ns) w):=by
 obtain⟨a1,c1,rfl,x3,d8⟩:=h;obtain⟨a2,c2,rfl,z8⟩:=hN;have⟨n,z1⟩:=qx l.length;have⟨k2,x7⟩:=qx ns.length;rw[z1]at x3 hl ⊢;rw[x7]at z8 hn ⊢;have⟨HN,y3,b9,c6,HR,p3,HB⟩:=qg z1 x7 x3 z8 hr (QQ r1 r2) hB;clear x3 z8 d8 hB hr r1 r2 z1 x7;have d7:=@run_makeMap prog;go_enter func36,ntmps36;go_wp2_with fail;have⟨B,x9⟩:=qx w.heap.size;have p2:=Qa x9;have z6:=World.ownsMap_made w prog 9 Ug;rw[x9]at z6;have b3:=Qa z6;rw[x9];clear x9 z6 d7
 go_loopg [16] n (fun k e7 wr=>(∃(i:Nat)(D:DataW Unit)(M:UQ),i≤n∧k=n-i∧e7=.int .i64 (i:Nat)∧Hid (wr.ownsMap prog 9 Ug B i D∧VS D M∧U7 M (l.take i)∧∀p m,M p=some m→Y5 m))∧Hid (Qb [] w wr))
 ·exact⟨⟨0,_,_,by omega,rfl,rfl,Qa ⟨b3.o,Qd5,Qfn,fun p m h=>by cases h⟩⟩,Qa<|(Qc [] w).alloc _⟩
 obtain⟨⟨i,D,M,hi,hk,rfl,HM⟩,y5⟩:=hrel
 by_cases hlt:i<n
 ·have g0:(i:Int)<n:=by omega
  have⟨m,hm⟩:=qy l i (by have:=HN.o;omega);have r7:=b9.o.kZ y5.o;obtain⟨g,e5,rfl,d0,d1,d2,d3,d4⟩:=Ru r7 hm;obtain⟨h3,h8,q,h5⟩:=HM.o;have x1:=p3.o.1 m<|QC hm;have y0:keyOf prog 9 (.string<|str m.path)=some (.string m.path):=KP Xc (s:=str m.path) (by have:=x1.1;show m.path.length≤_;simp only[maxLen];omega);have p0:Ug (.agg #[.string<|str m.path,.int .i64 m.start,.int .i64 m.eZ,.int .i64 m.size,.int .u32 m.sum])=some (Af m,[]):=NM m;have x5:=Qa<|h3.alloc<|.cells #[.string<|str m.path,.int .i64 m.start,.int .i64 m.eZ,.int .i64 m.size,.int .u32 m.sum] 69;have h4:=Qa (show VS (D.put (.string m.path)<|Af m) (YJ M m.path<|some m)∧U7 (YJ M m.path<|some m) (l.take<|i+1)∧∀p x,YJ M m.path (some m) p=some x→Y5 x from⟨fT h8 (h3.tidy AM).isMap _ _,Qfo q HR.o hm,fun p x o=>by
   unfold YJ at o
   split at o
   ·injection o with o;rwa[←o]
   exact h5 p x o⟩)
  have y9:i<maxLen:=by simp only[maxLen];omega
  clear h3 h8 q h5 x1 r7 hm;go_wp2_with (at_mapUpdate;refine lD _ rfl _ _ _ 136 rfl 9 69 AM LM Ug B i D rfl x5.o y9 _ _ _ rfl rfl y0 _ [] p0 ?_;intro w2 x8 y7)
  go_roundg (n-(i+1))
  ·refine⟨⟨i+1,_,_,by omega,rfl,by go_num,Qa ⟨x8,h4.o.1,h4.o.2.1,h4.o.2.2⟩⟩,Qa<|(y5.o.alloc _).grown y7 (by intro k hk;injection hk with hk;subst hk;exact .inr<|Nat.le_of_eq p2.o)⟩
  omega
 obtain rfl:i=n:=by omega
 have g0:¬(i:Int)<i:=by omega
 have b2:=Qa<|show _ from HM.o;have q:=HM.o.2.2.1;rw[Zd (by rw[HN.o];exact Ql _)]at q;have b5:=Qa (show wr.ownsMap prog 9 Ug B (i+0) D∧VS D M∧U7 M (Zo l<|ns.take 0)∧∀p m,M p=some m→Y5 m from⟨HM.o.1,HM.o.2.1,q,HM.o.2.2.2⟩);clear q b2 HM
 go_wp2
 go_loopg [27] k2 (fun k e8 wq=>(∃(j:Nat)(D:DataW Unit)(M:UQ),j≤k2∧k=k2-j∧e8=.int .i64 (j:Nat)∧Hid (wq.ownsMap prog 9 Ug B (i+j) D∧VS D M∧U7 M (Zo l<|ns.take j)∧∀p m,M p=some m→Y5 m))∧Hid (Qb [] w wq))
 ·exact⟨⟨0,_,_,by omega,rfl,rfl,b5⟩,y5⟩
 obtain⟨⟨j,D,M,hj,f0,rfl,HM⟩,x4⟩:=hrel
 by_cases f1:j<k2
 ·have g1:(j:Int)<k2:=by omega
  obtain⟨⟨b,m⟩,o⟩:∃x,ns[j]?=some x:=⟨_,Qj (by have:=y3.o;omega)⟩;obtain⟨g,e5,rfl,h9⟩:=WE (c6.o.kZ x4.o) o;obtain⟨h3,h8,q,h5⟩:=HM.o;have x1:Y5 m:=p3.o.2 _<|QC o;have y0:keyOf prog 9 (.string<|str m.path)=some (.string m.path):=KP Xc (s:=str m.path) (by have:=x1.1;show m.path.length≤_;simp only[maxLen];omega);have p0:Ug (.agg #[.string<|str m.path,.int .i64 m.start,.int .i64 m.eZ,.int .i64 m.size,.int .u32 m.sum])=some (Af m,[]):=NM m;have hap:Zo l (ns.take<|j+1)=AV (Zo l<|ns.take j) (b,m):=by unfold Zo;rw[ZE,o];simp[Fi]
  have y9:i+j<maxLen:=by simp only[maxLen];omega
  have y6:∀k,some B=some k→k∈([]:List Nat)∨w.heap.size≤k:=by intro k hk;injection hk with hk;subst hk;exact .inr<|Nat.le_of_eq p2.o
  have p1:=Qa y6;have c1:=h9 1 (.string<|str m.path) rfl;have c2:=h9 2 (.int .i64 m.start) rfl;have c3:=h9 3 (.int .i64 m.eZ) rfl;have c4:=h9 4 (.int .i64 m.size) rfl;have c5:=h9 5 (.int .u32 m.sum) rfl;cases b with
  |true=>
   have c0:=h9 0 (1:Int) rfl;rw[Y6]at c0;have x5:=Qa<|h3.alloc<|.cells #[(1:Int),.string<|str m.path,.int .i64 m.start,.int .i64 m.eZ,.int .i64 m.size,.int .u32 m.sum] 104;have h4:=Qa (show VS (D.put (.string m.path)<|Af m) (YJ M m.path<|some m)∧U7 (YJ M m.path<|some m) (Zo l<|ns.take<|j+1)∧∀p x,YJ M m.path (some m) p=some x→Y5 x from⟨fT h8 (h3.tidy AM).isMap _ _,by rw[hap];exact Qfm q m,fun p x o=>by
    unfold YJ at o
    split at o
    ·injection o with o;rwa[←o]
    exact h5 p x o⟩)
   clear h3 h8 q h5 x1 o hap h9 y6;go_wp2_with (at_mapUpdate;refine lD _ rfl _ _ _ 136 rfl 9 69 AM LM Ug B (i+j) D rfl x5.o y9 _ _ _ rfl rfl y0 _ [] p0 ?_;intro w2 x8 y7)
   go_roundg (k2-(j+1))
   ·exact⟨⟨j+1,_,_,by omega,rfl,by go_num,Qa ⟨x8,h4.o.1,h4.o.2.1,h4.o.2.2⟩⟩,Qa<|(x4.o.alloc _).grown y7 p1.o⟩
   omega
  |false=>
   have c0:=h9 0 (2:Int) rfl;rw[Y6]at c0;have x5:=Qa<|h3.alloc<|.cells #[(2:Int),.string<|str m.path,.int .i64 m.start,.int .i64 m.eZ,.int .i64 m.size,.int .u32 m.sum] 104;have h4:=Qa (show VS (D.del<|.string m.path) (YJ M m.path none)∧U7 (YJ M m.path none) (Zo l<|ns.take<|j+1)∧∀p x,YJ M m.path none p=some x→Y5 x from⟨Qd4 h8 _,by rw[hap];exact Qfl q m.path,fun p x o=>by
    unfold YJ at o
    split at o
    ·cases o
    exact h5 p x o⟩)
   clear h3 h8 q h5 x1 o hap h9 y6;go_wp2_with (at_delete;refine wpList_delete_own _ rfl _ _ 136 9 rfl 69 AM LM Ug B (i+j) D rfl x5.o _ _ rfl y0 ?_;intro w2 x8 e4)
   go_roundg (k2-(j+1))
   ·exact⟨⟨j+1,_,_,by omega,rfl,by go_num,Qa ⟨x8.mono<|DZ _,h4.o.1,h4.o.2.1,h4.o.2.2⟩⟩,Qa<|(x4.o.alloc _).grown e4.grown p1.o⟩
   omega
 obtain rfl:j=k2:=by omega
 have g1:¬(j:Int)<j:=by omega
 have q:=HM.o.2.2.1;rw[Zd (by rw[y3.o];exact Ql _)]at q;obtain⟨h3,h8,-,h5⟩:=HM.o;have⟨HX,b4⟩:=qb (QQ h8<|QQ q h5) h3;have c9:(Zo l ns).length≤200:=by have:=To ns l;rw[HN.o,y3.o]at this;omega
 have⟨A,hA⟩:=qx<|Zo l ns;rw[hA]at HX c9;have r9:=Qa hA;obtain⟨wA,rfl⟩:∃wA,wA=wr:=⟨_,rfl⟩;have⟨r,hr⟩:=qx wA.heap.size;have b7:=Qa (show B<r from by have:=h3.lt;omega);have p6:=Qa (show w.heap.size≤r from by have:=x4.o.size;omega);clear q h3 h8 h5 hA HM;go_wp2_with (first
  |(at_range;refine wpList_range_own _ rfl _ 136 rfl 9 69 AM LM Ug B (i+j) D rfl b4.o ?_;intro w0 z7 q1 e2)
  |go_in)
 rw[hr]at z7;have q6:Qb [] w w0:=x4.o.grown q1 (by intro k hk;cases hk)
 go_loopw [10] (fun e6 wq=>∃(y2:Lit→Bool)(Rs:Nat)(L:List RM)(x2:Value),x2=e6∧wq.ranges prog 9 Ug B r (i+j) D y2 Rs∧DL M y2 L∧Qp wq 69 5 x2 L.length (Qw Zi L)∧(∀x∈Qd x2,w.heap.size≤x∧x≠B∧x≠r)∧Qb [] w wq) (fun _ wq=>wq.rangeLeft B r)
 ·exact⟨_,_,[],_,rfl,z7,uA HX.o.1,Qp.nil _ _ _,by simp[Qd,qo],q6⟩
 obtain⟨y2,Rs,L,x2,rfl,y1,hC,r5,q0,q5⟩:=hrel;have⟨HC,p5,x0,y4,p4⟩:=qe hC r5 q0 q5 y1;have e9:L.length≤200:=by have:=tZ hC HX.o.2.1;omega
 clear hC r5 q0 q5 z7 q1 e2 q6;go_wp2_with (first
  |(at_next;refine wpList_next_ranges _ rfl _ rfl 9 AM Ug (fun s:ByteArray=>Value.string s) UX key_inv Qdz B r (i+j) D _ _ rfl y1 ?_ ?_)
  |go_in)
 ·intro d5 q8;have⟨a8,c7⟩:=qb q8 (iM 69 (fun x y=>X7 x.path y.path) (Qgv fun x:MS=>x.1.path) (enters_of func69 (by kernel_rfl) rfl) (fun x y o hy W hB=>qX x y o hy W hB) x2 L wr p5.o (fun m hm=>HX.o.2.2 _ _ ((HC.o.mem m).1 hm).1) (HB.o.kept y4.o<|by simp) (fun h0=>by have h1:=(x0.o 0 h0).1;obtain⟨z,hz⟩:=HB.o;have:=Ro w _ hz;simp at this;omega)<|by omega);clear y1 d5 q8;go_wp2_with (go_at_call 68;with_reducible refine c7.o.mono ?_;rintro e w2⟨rfl,l',hp,hs,e0,x7⟩);go_ret;have e:l'=A:=tY HC.o a8.o HX.o.2.1 hp (hs.imp fun h=>by omega);subst e;exact⟨x2,rfl,by rwa[r9.o],y4.o.trans x7 fun x o=>.inr (x0.o x o).1,fun x o=>(x0.o x o).1⟩
 intro x c kl yd ys w1 p7 q7 r0 hy p9 r4 q9 q3 x3 d6;obtain⟨s,es,ek,-⟩:=Go.WideMaps.string_of_keyOf Xc q7;subst ek;have e3:=uB (D:=D) HX.o.1 HX.o.2.1.key HC.o r0 hy p9;obtain⟨hM,d9,p8⟩:=e3;have⟨a6,b6⟩:=qb p8 r4;have y8:Qb [r] wr w1:=(Qc [r] wr).grown q3 (by intro k hk;injection hk with hk;subst hk;exact .inl<|by simp);have r6:=p5.o.kept y8 (fun x o=>by have:=(x0.o x o).2.2;simpa using this);have⟨b8,a7⟩:=qb r6<|y4.o.trans y8 fun x o=>.inr (by simp at o;subst o;exact p6.o);have L1:L.length+1≤maxLen:=by simp only[maxLen];omega
 have L2:(L.length+1)*48≤140737488355328:=by omega
 have⟨c8,b1⟩:=qb x3 q9;clear hM d9 p8 r4 y8 r6 hy p9 r0 q7 y1 q3 x3 q9;unfold UX at d6 ⊢;go_wp2_with (at_builtin;(refine Ba (w1.alloc<|.cells #[str c.path,c.start,c.eZ,c.size,.int .u32 c.sum] 69) rfl _ _ 38 rfl 69 (.agg #[.string ⟨#[]⟩,(0:Int),(0:Int),(0:Int),.int .u32 0]) 5 48 Hx PX rfl (by decide) x2 L.length _ (Zi c) rfl (by rw[U8];rfl) rfl rfl (Mu _) (World.ownsRow.alloc b8.o _) L1 L2 ?_;intro g5 c5 w5 e1 q4 x6));have f2:r<wr.heap.size:=p4.o.lt;have r3:w5.ranges prog 9 Ug B r (i+j) D (fun z=>y2 z&&!z.sameKey (Lit.string x.data.toList)) p7:=((b6.o.alloc _).kept q4.by (fun e=>(x0.o B<|by simp[Qd,←e]).2.1 rfl) fun e=>(x0.o r<|by simp[Qd,←e]).2.2 rfl);refine⟨⟨_,p7,L++[c],_,rfl,r3,a6.o,?_,?_,(a7.o.alloc _).trans q4 fun x o=>.inr (x0.o x o).1⟩,?_⟩
 ·have e:Qw Zi (L++[c])=Qw Zi L++Zi c:=by simp[Qw]
  rwa[e,Qo]
 ·intro y hy;have hy:y=g5:=by simpa[Qd,qo]using hy
  subst hy;rcases x6 with x6|x6
  ·exact x0.o _ x6
  rw[U8,c8.o]at x6;have h1:=b7.o;have h2:=p6.o;exact⟨by omega,by omega,by omega⟩
 rw[r3.left_eq,p4.o.left_eq];exact b1.o
end
def Ls(w:World):Prop:=Lib.TabIs prog w "internal/strconv.uint64pow10" .u64 Lib.pow10Tab
def Jy(w:World):Prop:=YU w∧Ls w
def Sq:(prog.globalNamed "internal/strconv.uint64pow10").map (fun g=>decide<|g<10)=some true:=by kernel_rfl
def Jy.kept{S w w'}(a:Jy w)(hk:Qb S w w')(c:∀x∈S,10≤x):Jy w':=by
 refine⟨a.1.kept hk (fun a=>by have:=c 0 a;omega),?_⟩;have b:=a.2;unfold Ls Lib.TabIs World.var? at b ⊢;have hp:=Sq;cases hg:prog.globalNamed "internal/strconv.uint64pow10" with
 |none=>rw[hg]at hp;cases hp
 |some g=>
  rw[hg]at b hp;simp only[Av,Option.some.injEq,Zu]at hp;simp only[Option.bind_some]at b ⊢;cases ho:w.heap[g]? with
  |none=>rw[ho]at b;cases b
  |some o=>rw[hk.heap ho (fun a=>by have:=c g a;omega)];rwa[ho]at b
def Jy.kZ{w w'}(a:Jy w)(hk:Qb [] w w'):Jy w':=a.kept hk (by simp)
def Qb.grow(w k os):Qb [] w (Go.Sort.grow (w.drewN k) os):=
 ⟨rfl,rfl,rfl,by simp[Go.Sort.grow],fun a hi _=>by simp[Go.Sort.grow,Array.getElem?_append,hi]⟩
def uP(n)(a:100≤n)(a:n<1000):Lib.decDigits n=VB n:=by rw[Lib.decDigits,dif_neg<|by omega,Lib.decDigits,dif_neg<|by omega,Lib.decDigits,dif_pos<|by omega];simp[VB,PK]
def vI(n:Nat)(b:100≤n)(d:n<1000)(w)(c:Jy w):Calls prog 156 #[n] w fun e w'=>e=.returned (str<|VB n)∧Qb [] w w':=by
 have a:=Qa<|Tryz.itoa n (by omega) (by omega) w c.2;rw[show Lib.itoa (n:Int)=VB n by unfold Lib.itoa;rw[Qe<|by omega];exact uP n b d]at a;have:¬(n:Int)<0:=by omega
 go_enter func156,ntmps156;go_wp2_with (go_at_call 198;refine a.o.mono ?_;rintro e c⟨rfl,b,os,rfl⟩);go_ret;exact⟨rfl,Qb.grow _ _ _⟩
def bG(c r):∀{x:List UInt8},c∉x→Lib.indexByte (x++c::r) c=x.length
 | [],_=>by simp[Lib.indexByte]
 |b::x,h=>by simp only[QB,JN]at h;rw[Yf,Lib.indexByte,Qe<|by simpa using fun a=>h.1 a.symm,bG c r h.2,Qe<|by simp];simp
def Wq(c x r)(a:c∉x):Lib.cut (x++c::r) [c]=(x,r,true):=by unfold Lib.cut;rw[Lib.index_one,bG c r a,Qg<|by omega,Zw,CR,Ff];simp
def uO(n)(a:n<1000):∀b∈VB n,48≤b.toNat∧b.toNat≤57:=by intro b hb;simp only[VB,QB,Fl,or_false]at hb;rcases hb with rfl|rfl|rfl<;>(rw[US,XQ<|by omega];omega)
def YY:List UInt8:=[112,97,116,104]
def Qcu(v):str (VB<|v.length+10)++⟨#[32]⟩++⟨#[112,97,116,104]⟩++⟨#[61]⟩++str v++⟨#[10]⟩=str (ZY v):=by
 rw[←VH (_++_),ZY]
 congr 1
def Qdw(g v w)(hA:Qf w g 172 [.string ⟨#[112,97,116,104]⟩,str v])(hE:Jy w)(h1:100<v.length)(h2:v.length≤200):
 Calls prog 113 #[.slice g 1 1] w fun e w'=>e=.returned (.tuple #[str<|ZY v,(0:Int)])∧Qb [] w w':=by
 have x0:=Qa fun W=>Tryz.strHas1 ⟨#[112,97,116,104]⟩ 61 W;rw[show(⟨#[112,97,116,104]⟩:ByteArray).data.toList=YY from rfl,show decide (0≤Lib.indexByte YY 61)=false by decide]at x0;have⟨n,hn⟩:=qx v.length;have y2:(str v).size=n:=hn;rw[hn]at h1 h2;have⟨x5,HP⟩:=qb (fun(k:Nat)(y0:100≤k)(h9:k<1000) W (hW:Qb [] w W)=>vI k y0 h9 W<|hE.kZ hW)<|Qcu v;have h3:∀k,(str<|VB k).size=3:=fun _=>rfl
 rw[hn]at HP;have HA:=Qa hA;have c0:=hA.cell (i:=0) (u:=.string ⟨#[112,97,116,104]⟩) rfl;have c1:=hA.cell (i:=1) (u:=.string<|str v) rfl;clear hA hE hn;go_enter func113,ntmps113
 go_wp2
 go_loopg [14] 1 (fun k y4 wr=>(∃i:Nat,i≤1∧k=1-i∧y4=.int .i64 (i:Nat))∧Hid (Qb [] w wr))
 ·exact⟨⟨0,by omega,rfl,rfl⟩,Qa<|Qc _ _⟩
 obtain⟨⟨i,hi,hk,rfl⟩,q⟩:=hrel
 by_cases h0:i=0
 ·subst h0;have d0:=q.o.cZ c0 (by simp);have d1:=q.o.cZ c1 (by simp);go_wp2_with (go_at_call 155;refine(x0.o _).mono ?_;rintro e w2⟨rfl,rfl⟩)
  go_roundg 0
  ·exact⟨⟨1,by omega,rfl,rfl⟩,Qa<|q.o.alloc _⟩
  omega
 obtain rfl:i=1:=by omega
 have c0:=q.o.cZ c0 (by simp);have c1:=q.o.cZ c1 (by simp);obtain⟨o,rfl⟩:∃o,o=wr:=⟨_,rfl⟩
 go_wp2
 go_loopg [4,29] 1 (fun k x4 x2 w2=>(k=1∧x2=.int .i64 0∧x4=.int .i64 0∨k=0∧x2=.int .i64 1∧x4=.int .i64 ((n+10:Nat):Int))∧Hid (Ye o o.heap.size (if k=1 then []else ZY v) w2))
 ·exact⟨.inl ⟨rfl,rfl,rfl⟩,Qa<|Ye.new o⟩
 obtain⟨⟨hk,rfl,rfl⟩|⟨hk,rfl,rfl⟩,HB⟩:=hrel
 ·have h5:=Qa (show Ye o o.heap.size [] wr by have:=HB.o;rwa[Qg hk]at this);have d0:=h5.o.2.cZ c0 (by simp);have d1:=h5.o.2.cZ c1 (by simp);obtain⟨y,rfl⟩:∃y,y=wr:=⟨_,rfl⟩;have x7:=Qa (q.o.trans h5.o.2<|by simp);clear HB
  go_wp2
  go_loopg [11] 1 (fun k y3 w2=>(∃j m:Nat,j≤1∧k=1-j∧y3=.int .i64 (m:Nat)∧Hid (m=n+8+2*j))∧Hid (Qb [] (y.alloc<|.cells #[.string ⟨#[112,97,116,104]⟩,str v] 172) w2))
  ·exact⟨⟨0,n+8,by omega,rfl,by go_num,Qa rfl⟩,Qa<|Qc _ _⟩
  obtain⟨⟨j,m,hj,y5,rfl,HM⟩,x6⟩:=hrel;have HD:=Qa (fun W (hW:Qb [] (y.alloc<|.cells #[.string ⟨#[112,97,116,104]⟩,str v] 172) W)=>x5.o m (by have:=HM.o;omega) (by have:=HM.o;omega) W<|(x7.o.alloc _).trans hW<|by simp);have h:=x6.o;have x1:((m:Nat):Int)=n+8+2*j:=by have:=HM.o;omega
  by_cases x9:j=0
  ·subst x9;have q0:¬(3:Int)+(4+(n:Int)+3)=(m:Int):=(by omega);clear x1;go_wp2_with (go_at_call 156;refine(HD.o _ h).mono ?_;rintro e w4⟨rfl,h8⟩;replace h:=h.trans h8<|by simp)
   go_roundg 0
   ·exact⟨⟨1,n+10,by omega,rfl,by go_num,Qa<|by omega⟩,Qa h⟩
   omega
  obtain rfl:j=1:=by omega
  obtain⟨q0,q1⟩:(3:Int)+(4+(n:Int)+3)=(m:Int)∧¬(262144:Int)<m:=by omega
  have y1:=HM.o;have x3:=Qa fun(W:World)(hW:Qb [] (y.alloc<|.cells #[.string ⟨#[112,97,116,104]⟩,str v] 172) W)=>((h5.o.kept<|(Qc [] y).alloc _).kept hW).write (str<|ZY v) (by have:=Gn v;have:(str<|ZY v).size=(ZY v).length:=rfl;have:v.length=n:=y2;simp only[Yg];omega);rw[show n+10=m by omega]at HP;clear x1 y1;go_wp2_with (go_at_call 156;refine(HD.o _ h).mono ?_;rintro e w4⟨rfl,h8⟩;replace h:=h.trans h8<|by simp);have A1:=(Qx y [.string ⟨#[112,97,116,104]⟩,str v] 172).kept h (by simp);have e0:=A1.cell (i:=0) (u:=.string ⟨#[112,97,116,104]⟩) rfl;have e1:=A1.cell (i:=1) (u:=.string<|str v) rfl;clear A1 h8 d0 d1 c0 c1
  go_region_with (first
   |(go_at_call 156;refine(HD.o _<|by first|exact h|exact h.drew).mono ?_;rintro e w5⟨rfl,h4⟩;first|replace h:=h.trans h4 (by simp)|replace h:=h.drew.trans h4 (by simp)
     replace e0:=h4.cZ e0 (by simp);replace e1:=h4.cZ e1 (by simp);clear h4)
   |(go_at_call 58;rw[HP.o];refine(x3.o _<|by first|exact h|exact h.drew).mono ?_;rintro e w6⟨rfl,x8⟩))
  all_goals
   go_wp2
   go_roundg 0
   ·exact⟨.inr ⟨rfl,rfl,by have:=HM.o;congr 1;omega⟩,Qa<|by rwa[Qe<|by decide]⟩
   omega
 have HS:=Qa (show Ye o o.heap.size (ZY v) wr by have:=HB.o;rwa[Qe<|by omega]at this).str;clear HB;go_wp2_with (go_at_call 60;refine HS.o.mono ?_;rintro e w2⟨rfl,h9⟩);go_ret2;exact⟨rfl,q.o.trans h9<|by simp⟩
section
open Go.Sort Go.Shelf
structure Vt(w:World)(a d:Nat)(nv pv mv:Value)(s:Vst):Prop where
 arr:Qf w a 76 [.pointer d,s.gen,s.next,mv,.bool false]
 dk:Dk w d nv pv s.dev
 mem:Qp w 69 5 mv s.mem.length (Qw Zi s.mem)
 apart:a∉Q6 d nv pv∧a∉Qd mv∧Qr (Qd mv) (Q6 d nv pv)
def Vt.kZ{w w' a d c e mv s}(b:Vt w a d c e mv s)(hk:Qb [] w w'):Vt w' a d c e mv s:=
 ⟨b.arr.kept hk<|by simp,b.dk.kZ hk,b.mem.kept hk<|Z9 _,b.apart⟩
section
variable {a d:Nat} {nv pv mv:Value} {s:Vst} {w:World}
def OM(b:Vt w a d nv pv mv s)(hs:s.dev.Ok):Calls prog 76 #[.pointer a] w fun e w'=>e=.returned (0:Int)∧w'=w:=by have c:=Qa<|Mr b.dk hs;have c0:=b.arr.cell (i:=0) (u:=.pointer d) rfl;have:=b.arr.cell (i:=4) (u:=.bool false) rfl;go_enter func76,ntmps76;go_wp2_with (go_at_call 33;refine c.o.mono ?_;rintro e b⟨rfl,rfl⟩);go_ret;exact⟨rfl,rfl⟩
def Gg(b:Vt w a d nv pv mv s)(e:s.mem.length≤1000):Calls prog 10 #[.pointer a] w (Fo s.mem w):=by have c:=Qa (sV mv s.mem w b.mem.memA<|by omega);have c3:=b.arr.cell (i:=3) (u:=mv) rfl;go_enter func10,ntmps10;go_wp2_with (go_at_call 32;refine c.o.mono ?_;rintro f g⟨e,rfl,b⟩);go_ret;exact⟨e,rfl,b⟩
def Qh1(b:Vt w a d nv pv mv s)(hs:s.dev.Ok):Calls prog 56 #[.pointer a] w fun e w'=>e=.returned s.dev.cap∧w'=w:=by have c:=Qa<|Dg b.dk hs;have c0:=b.arr.cell (i:=0) (u:=.pointer d) rfl;go_enter func56,ntmps56;go_wp2_with (go_at_call 14;refine c.o.mono ?_;rintro e b⟨rfl,rfl⟩);go_ret;exact⟨rfl,rfl⟩
def My(h:Vt w a d nv pv mv s)(hl:s.mem.length≤1000):Calls prog 77 #[.pointer a] w (DM s.exts w):=by
 obtain⟨a1,c1,rfl,x1,y0⟩:=h.mem.memA;have d3:=h.arr.cell (i:=3) (u:=.slice a1 s.mem.length c1) rfl;have x0:=Qa x1;have⟨l,h5⟩:=qx s.mem;have HX:=Qa (by rw[←h5];rfl:s.exts=l.map fun m=>(m.start,m.eZ));rw[h5]at x0 d3 hl;have⟨n,h8⟩:=qx l.length;rw[h8]at d3 hl;have HN:=Qa h8;have HE:∀v w',Qp w' 109 2 v n (Qw Q3<|l.map fun m=>(m.start,m.eZ))→Qb [] w w'→(∀x∈Qd v,w.heap.size≤x)→DM s.exts w (.returned v) w':=fun v w' h1 h2 h3=>
  ⟨v,rfl,by rwa[HX.o,QG,HN.o],h2,h3⟩
 have x6:=Qa HE;go_enter func77,ntmps77
 go_wp2
 go_loopg [3,5,11] n (fun k x3 x5 y2 wr=>(∃(i:Nat)(v5:Value),i≤n∧k=n-i∧v5=x3∧y2=.int .i64 (i:Nat)∧Hid (Qp wr 109 2 v5 i<|Qw Q3<|(l.take i).map fun m=>(m.start,m.eZ))∧Hid (∀x∈Qd v5,w.heap.size≤x))∧Hid (Qb [] w wr))
 ·exact⟨⟨0,_,by omega,by omega,rfl,rfl,Qa<|Qp.nil _ _ _,Qa<|by simp[Qd,qo]⟩,Qa<|Qc _ _⟩
 obtain⟨⟨i,v5,hi,hk,rfl,rfl,h9,h4⟩,o⟩:=hrel
 by_cases hlt:i<n
 ·have q0:(i:Int)<n:=by omega
  have⟨m,hm⟩:=qy l i (by have:=HN.o;omega);have x2:=x0.o.kZ o.o;obtain⟨g,y3,rfl,c0,e1,e2,e3,e4⟩:=Ru x2 hm;have x4:(l.take<|i+1).map (fun m=>(m.start,m.eZ))=(l.take i).map (fun m=>(m.start,m.eZ))++[(m.start,m.eZ)]:=by rw[ZE,hm];simp
  have x7:=Qa x4;have L1:i+1≤maxLen:=by simp only[maxLen];omega
  have L2:(i+1)*16≤140737488355328:=by omega
  go_wp2_with (at_builtin;(refine Ba (wr.alloc<|.cells #[.string<|str m.path,.int .i64 m.start,.int .i64 m.eZ,.int .i64 m.size,.int .u32 m.sum] 69) rfl _ _ 106 rfl 109 (.agg #[(0:Int),(0:Int)]) 2 16 RW Bo rfl (by decide) v5 i _ (Q3 (m.start,m.eZ)) rfl (by rw[U8];rfl) rfl rfl (Ev _) (World.ownsRow.alloc h9.o _) L1 L2 ?_;intro g5 c5 w5 y1 x9 x8))
  go_roundg (n-(i+1))
  case measure=>omega
  refine⟨⟨i+1,_,by omega,rfl,rfl,by go_num,Qa ?_,Qa ?_⟩,Qa ?_⟩
  ·rw[x7.o];have e:∀X:List QL,Qw Q3 (X++[(m.start,m.eZ)])=Qw Q3 X++Q3 (m.start,m.eZ):=fun X=>by simp[Qw]
   rwa[e]
  ·intro y q;simp[Qd,qo]at q;subst q;have:=o.o.size;rcases x8 with h|h
   ·exact h4.o _ h
   simp at h;omega
  exact(o.o.alloc _).trans x9 fun y q=>.inr<|h4.o y q
 obtain rfl:i=n:=by omega
 have q0:¬(i:Int)<i:=by omega
 go_wp2
 go_ret;refine x6.o _ _ ?_ o.o h4.o;have:=h9.o;rwa[Zd (by rw[HN.o];exact Ql _)]at this
end
end
section
open Go.Sort Go.Shelf
abbrev QY(a d:Nat)(nv pv mv:Value):List Nat:=a::(Qd mv++Q6 d nv pv)
structure Ze(w:World)(a d:Nat)(nv pv mv:Value)(s:Vst):Prop where
 vt:Vt w a d nv pv mv s
 env:Jy w
 low:∀x∈QY a d nv pv mv,10≤x
def ZS(w:World)(a d:Nat)(c f mv:Value)(s:Vst)(w':World):Prop:=∃e g b,Ze w' a d e g b s∧Qb (QY a d c f mv) w w'∧QT w.heap.size (QY a d c f mv) (QY a d e g b)
section
variable {a d:Nat} {nv pv mv:Value} {s s':Vst} {w w1:World}
def Vt.lt(c:Vt w a d nv pv mv s):∀x∈QY a d nv pv mv,x<w.heap.size:=fun x b=>by
 simp only[QY,QB,Q5]at b;rcases b with rfl|b|b
 ·exact c.arr.lt
 ·exact c.mem.lt x b
 exact c.dk.lt x (by simpa[Q6]using b)
def Ze.kZ(b:Ze w a d nv pv mv s)(hk:Qb [] w w1):Ze w1 a d nv pv mv s:=⟨b.vt.kZ hk,b.env.kZ hk,b.low⟩
def Ze.refl(b:Ze w a d nv pv mv s):ZS w a d nv pv mv s w:=⟨nv,pv,mv,b,Qc _ _,QT.refl _ _⟩
def Ze.post(b:Ze w a d nv pv mv s){nv' pv' mv'}(k:Vt w1 a d nv' pv' mv' s')(hk:Qb (QY a d nv pv mv) w w1)(e:QT w.heap.size (QY a d nv pv mv) (QY a d nv' pv' mv')):ZS w a d nv pv mv s' w1:=
 ⟨nv',pv',mv',⟨k,b.env.kept hk b.low,fun f c=>by
  rcases e f c with c|c
  ·exact b.low f c
  have:=b.vt.lt a (by simp);have:=b.low a (by simp);omega⟩,hk,e⟩
def ZS.trans{f}(h:ZS w a d nv pv mv s' w1){g}(j:∀c e b,Ze w1 a d c e b s'→ZS w1 a d c e b f g):ZS w a d nv pv mv f g:=by obtain⟨c,e,b,i,f,g⟩:=h;obtain⟨l,m,k,g1,h,g3⟩:=j c e b i;exact⟨l,m,k,g1,f.trans h fun c b=>g c b,g.trans g3 f.size⟩
def Vt.dev(b:Vt w a d nv pv mv s){c}(hp:Q7 w d nv pv c w1):∃nv' pv',Vt w1 a d nv' pv' mv {s with dev:=c}∧Qb (Q6 d nv pv) w w1∧QT w.heap.size (Q6 d nv pv) (Q6 d nv' pv'):=by
 obtain⟨nv',pv',i,c,e⟩:=hp;obtain⟨f,h,g⟩:=b.apart;refine⟨nv',pv',⟨b.arr.kept c f,i,b.mem.kept c g,fun i=>?_,h,g.grow b.mem.lt e⟩,c,e⟩;rcases e a i with c|c
 ·exact f c
 have:=b.arr.lt;omega
def Vt.turned{mv'}(c:Vt w a d nv pv mv s)(hk:Qb [a] w w1)(ha:Qf w1 a 76 [.pointer d,s'.gen,s'.next,mv',.bool false])(b:Qp w 69 5 mv' s'.mem.length (Qw Zi s'.mem))(f:a∉Qd mv')(g:Qr (Qd mv') (Q6 d nv pv))(e:s'.dev=s.dev):Vt w1 a d nv pv mv' s':=
 ⟨ha,e▸c.dk.kept hk (fun h e b=>by rw[Q8]at b;subst b;exact c.apart.1 e),b.kept hk (fun h e b=>by rw[Q8]at b;subst b;exact f e),c.apart.1,f,g⟩
def MC{n nv' pv'}(c:QT n (Q6 d nv pv) (Q6 d nv' pv')):QT n (QY a d nv pv mv) (QY a d nv' pv' mv):=fun e b=>by
 simp only[QY,QB,Q5]at b ⊢;rcases b with b|b|b
 ·exact .inl<|.inl b
 ·exact .inl<|.inr<|.inl b
 rcases c e (by simpa[Q6]using b)with b|b
 ·exact .inl (.inr<|.inr<|by simpa[Q6]using b)
 exact .inr b
def Q7.cell{b k u}(c:Q7 w d nv pv b w1)(e:w.cell? ⟨a,k,none⟩=some u)(f:a∉Q6 d nv pv):w1.cell? ⟨a,k,none⟩=some u:=by obtain⟨_,_,_,b,_⟩:=c;exact b.cZ e f
def Vok.rm{c}(b:Vok s c):∀m∈s.mem,RT m:=fun m d=>by have a:=b.mems m d;have e:=b.inX d;have:=b.dev.c2;have b:=MO<|c m.path;have:=a.big;have h6:=a.size;have h7:=a.sum;obtain⟨d,q2,f⟩:=e;unfold Zc at b;exact {ok:=a.ok,st:=⟨d,q2,by omega⟩,sz:=⟨by omega,by omega⟩,sm:=⟨by omega,by omega⟩}
def eQ{cap l}(a:ZX cap l=true)(b:cap≤4096):ZX 4096 l=true:=by rw[YA]at a ⊢;exact⟨fun c b=>⟨(a.1 c b).1,(a.1 c b).2.1,by have:=(a.1 c b).2.2;omega⟩,a.2⟩
def NX{c}(b:Ze w a d nv pv mv s)(f:Vok s c)(n:Nat)(g:n≤20)(p:s.dev.lZ+6≤1000000000):
 Calls prog 50 #[.pointer a,n] w fun e w'=>e=.returned (0:Int)∧ZS w a d nv pv mv (s.room n) w':=by
 have h:=f.next;have l:=f.gen
 by_cases hf:n+s.next≤20
 ·have j:s.room n=s:=by unfold Vst.room;rw[Qg hf]
  rw[j];have g:=Qa b.refl;have c2:=b.vt.arr.cell (i:=2) (u:=.int .i64 s.next) rfl;have g1:(n:Int)≤20-(s.next:Int):=by omega
  clear b f j;go_enter func50,ntmps50
  go_wp2
  go_ret;exact⟨rfl,g.o⟩
 have j:s.room n=s.save:=by unfold Vst.room;rw[Qe hf]
 rw[j];have g:=f.ext;have q:=eQ g (by have:=f.dev.c2;omega);have⟨o,k,m⟩:=qc (fun m (k:Qb [] w m)=>Wp mv s.mem (s.gen+1) d nv pv s.dev m (b.vt.dk.kZ k) f.dev (b.vt.mem.memA.kZ k) (b.env.kZ k).1 (by omega) f.rm f.rise f.few g q (by have:=f.pZ;omega) p) b.vt.apart.1 b;have g1:¬(n:Int)≤20-(s.next:Int):=by omega
 have c0:=b.vt.arr.cell (i:=0) (u:=.pointer d) rfl;have c1:=b.vt.arr.cell (i:=1) (u:=.int .i64 s.gen) rfl;have c2:=b.vt.arr.cell (i:=2) (u:=.int .i64 s.next) rfl;have c3:=b.vt.arr.cell (i:=3) (u:=mv) rfl;have p:IntKind.i64.wrap ((s.gen:Int)+1)=((s.gen+1:Nat):Int):=by rw[Q2 _<|by omega];push_cast;rfl
 have r:=Qa p;clear b f j g q p;go_enter func50,ntmps50;rw[←r.o]at o;go_wp2_with fail
 go_region_held3 (fun w'=>w'.cell? ⟨a,0,none⟩=some (.pointer d)∧w'.cell? ⟨a,1,none⟩=some (.int .i64 s.gen)∧w'.cell? ⟨a,3,none⟩=some mv) (first|exact⟨c0,c1,c3⟩|exact⟨b,f,j⟩|go_keep)
  ((go_at_call 38;refine(o.o _ (Qc [] w).drew).mono ?_;rintro e p⟨rfl,hp⟩;have:=Qa hp;have b:=hp.cell c0 k.o;have f:=hp.cell c1 k.o;have j:=hp.cell c3 k.o))
 obtain⟨j,k,h,l,f⟩:=(m.o.vt.kZ (Qc [] w).drew).dev hp;have:=h.arr.free 1;have:=h.arr.free 2;have:=h.arr.cell (i:=2) (u:=.int .i64 s.next) rfl;have⟨b,o,g⟩:=qc h (show Qb (QY a d nv pv mv) w p from(Qb.trans (Qc (Q6 d nv pv) w).drew l fun q g=>.inl g).mono (fun q g=>by simp only[QY,QB,Q5];exact .inr<|.inr<|by simpa[Q6]using g))<|show QT w.heap.size (QY a d nv pv mv) (QY a d j k mv)from MC f;clear h l f hp
 go_wp2
 go_ret;refine⟨rfl,m.o.post (nv':=j) (pv':=k) (mv':=mv) ?_ ((o.o.setCell (.inl<|by simp) _).setCell (.inl<|by simp) _) g.o⟩;refine b.o.turned ((Qc [a] p).setCell (.inl<|by simp) _|>.setCell (.inl<|by simp) _) ((b.o.arr.set 1 _).set 2 _) b.o.mem b.o.apart.2.1 b.o.apart.2.2 rfl
def Ml{g j cc ns}(f:Ze w a d nv pv mv s)(hs:s.dev.Ok)(l:Qn w 6 (some ⟨g,j,none⟩) ns.length (Qw Xi ns))(v:g∉QY a d nv pv mv)(r:s.gen≤4611686018427387904)(x:∀n∈ns,He n)(t:∀n∈ns,Y5 n.2)(k:1≤ns.length)(b:s.next+ns.length+1≤20)(y:UR s.mem)(h:∀m∈s.mem,RT m)(hf:s.mem.length≤16)(q:30≤s.dev.cap)(p:s.dev.lZ+30≤1000000000):
 Calls prog 51 #[.pointer a,.slice (some ⟨g,j,none⟩) ns.length cc] w fun e w'=>e=.returned (0:Int)∧ZS w a d nv pv mv (s.commit ns) w':=by
 have⟨z,C,j,c,A,B⟩:=qf (fun c (o:Qb [] w c)=>Qh5 g j cc ns s.gen s.next d nv pv s.dev c (f.vt.dk.kZ o) hs (l.kZ o) r x k (by omega) q p) (fun c (o:Vq c mv s.mem)(hNN:Ln c (.slice (some ⟨g,j,none⟩) ns.length cc) ns)(hB:YU c)=>kX mv _ s.mem ns c o hNN hB (by omega) (by omega) y (fun m c=>(h m c).ms) t) f f.vt.apart.1 (show g∉Q6 d nv pv from fun hh=>v (by simp only[QY,QB,Q5];exact .inr<|.inr<|by simpa[Q6]using hh)) l;have c0:=f.vt.arr.cell (i:=0) (u:=.pointer d) rfl;have c1:=f.vt.arr.cell (i:=1) (u:=.int .i64 s.gen) rfl;have c2:=f.vt.arr.cell (i:=2) (u:=.int .i64 s.next) rfl;go_enter func51,ntmps51;go_wp2_with fail
 go_region_held3 (fun w'=>w'.cell? ⟨a,0,none⟩=some (.pointer d)∧w'.cell? ⟨a,1,none⟩=some (.int .i64 s.gen)∧w'.cell? ⟨a,2,none⟩=some (.int .i64 s.next)) (first|exact⟨c0,c1,c2⟩|exact⟨f,o,p⟩|go_keep)
  ((go_at_call 88;refine(z.o _ (Qc [] w).drew).mono ?_;rintro e l⟨rfl,hp⟩;have:=Qa hp;have f:=hp.cell c0 c.o;have o:=hp.cell c1 c.o;have p:=hp.cell c2 c.o))
 obtain⟨v,x,g1,o,g3⟩:=(j.o.vt.kZ (Qc [] w).drew).dev hp;have:=g1.arr.free 2;have:=g1.arr.free 3;have:=g1.arr.cell (i:=3) (u:=mv) rfl;have r:=Qa g1;have f:Qb (Q6 d nv pv) w l:=Qb.trans (Qc (Q6 d nv pv) w).drew o fun c b=>.inl b;have⟨q,z⟩:=qb (show Qb (QY a d nv pv mv) w l from f.mono (fun c b=>by simp only[QY,QB,Q5];exact .inr<|.inr<|by simpa[Q6]using b))<|show QT w.heap.size (QY a d nv pv mv) (QY a d v x mv)from MC g3;have p:=g1.mem.memA;have D:=Qa<|C.o l p ⟨_,_,rfl,B.o.kept f (by intro c b;have b:c=g:=(by simpa[fZ]using b);subst b;exact A.o)⟩ (j.o.env.kept f fun c b=>j.o.low c (by simp only[QY,QB,Q5];exact .inr<|.inr<|by simpa[Q6]using b)).1;go_wp2_with (go_at_call 36;refine D.o.mono ?_;rintro e C⟨I,rfl,p,o,t⟩;obtain⟨a2,c2,rfl,-,-⟩:=p.memA;have B:=Qa p;have A:=Qa o;have y:=Qa t;have f:=Qa<|r.o.kZ o;have:=f.o.arr.free 2;have:=f.o.arr.cell (i:=2) (u:=.int .i64 s.next) rfl;have:=f.o.arr.cell (i:=3) (u:=mv) rfl;have:=f.o.arr.free 3);go_ret;have hlt:=r.o.lt;have o:∀c∈Qd (Value.slice a2 (Zo s.mem ns).length c2),l.heap.size≤c:=y.o;refine⟨rfl,j.o.post (nv':=v) (pv':=x) (mv':=.slice a2 (Zo s.mem ns).length c2) ?_ (((q.o.trans A.o<|by simp).setCell (.inl<|by simp) _).setCell (.inl<|by simp) _) ?_⟩
 ·refine f.o.turned (s':={s.commit ns with dev:=(s.dev.wr (10+s.next)<|RE s.gen s.next ns).tick 1}) ((Qc [a] C).setCell (.inl<|by simp) _|>.setCell (.inl<|by simp) _) ((f.o.arr.set 2 _).set 3 _) B.o ?_ ?_ rfl
  ·intro h;have k:=o a h;have f:=hlt a (by simp);omega
  intro c b h;have k:=o c b;have f:=hlt c (by simp only[QY,QB,Q5];exact .inr<|.inr<|by simpa[Q6]using h);omega
 intro c b;simp only[QY,QB,Q5]at b;rcases b with rfl|b|b
 ·exact .inl (by simp)
 ·exact .inr<|QU q.o.size<|o c b
 exact z.o c (by simp only[QY,QB,Q5];exact .inr<|.inr<|by simpa[Q6]using b)
end
end
section
open Go.Sort Go.Shelf
def Qa5(p m)(b:Nat)(w)(hb:w.cell? ⟨b,0,none⟩=some (.string<|str p)):Calls prog 87 #[.agg (Zi m).toArray,.pointer b] w fun e w'=>e=.returned (.bool<|m.path==p)∧Qb [] w w':=by
 have hlt:=Ro w _ hb;have c0:(w.alloc<|.cells #[str m.path,m.start,m.eZ,m.size,.int .u32 m.sum] 69).cell? ⟨b,0,none⟩=some (.string<|str p):=((Qc [] w).alloc _).cZ hb (by simp);have a:=Qa fun c=>(Qc [] w).alloc c;unfold Zi;go_enter func87,ntmps87
 go_wp2
 go_ret;refine⟨?_,a.o _⟩;show Ending.returned (.bool<|(str m.path).toList==(str p).toList)=_;rw[XN,XN];rfl
def KO(l:List RM)(p:List UInt8)(r:Int):Prop:=(∃(b:Nat)(a:RM),l[b]?=some a∧l.find? (fun a=>a.path==p)=some a∧r=(b:Int))∨(l.find? (fun a=>a.path==p)=none∧r= -1)
def yS(v l p b w)(h:Vq w v l)(hb:w.cell? ⟨b,0,none⟩=some (.string<|str p))(hl:l.length≤1000):
 Calls prog 86 #[v,.func (.func 87) #[] #[.pointer b]] w fun e w'=>(∃r,e=.returned (.int .i64 r)∧KO l p r)∧Qb [] w w':=by
 obtain⟨a,c,rfl,hs,hn⟩:=h;have⟨HS,HB⟩:=qb hs hb;have⟨n,h3⟩:=qx l.length;rw[h3]at HS hl ⊢;have HN:=Qa h3;go_enter func86,ntmps86
 go_wp2
 go_loopg [8] n (fun k x8 wr=>(∃i:Nat,i≤n∧k=n-i∧x8=.int .i64 (i:Nat)∧Hid (∀x∈l.take i,(x.path==p)=false))∧Hid (Qb [] w wr))
 ·exact⟨⟨0,by omega,by omega,rfl,Qa<|by simp⟩,Qa<|Qc _ _⟩
 obtain⟨⟨i,hi,hk,rfl,HA⟩,o⟩:=hrel
 by_cases hlt:i<n
 ·have q0:(i:Int)<n:=by omega
  have⟨m,hm⟩:=qy l i (by have:=HN.o;omega);obtain⟨g,h4,rfl,c0,e1,e2,e3,e4⟩:=Ru (HS.o.kZ o.o) hm;have HM:=Qa hm;have y:=Qa5 p m b wr (o.o.cZ HB.o<|by simp);unfold Zi at y;have⟨q,hq⟩:=qx<|(m.path==p);rw[hq]at y;have⟨HQ,HC⟩:=qb hq y;cases q with
  |true=>
   go_wp2_with ((refine HC.o.mono ?_;rintro e w1⟨rfl,h2⟩));go_ret;refine⟨⟨_,rfl,.inl ⟨i,m,HM.o,?_,rfl⟩⟩,o.o.trans h2<|by simp⟩;have e:l=l.take i++m::l.drop (i+1):=(by have:=(Qz.1 HM.o);rw[←this.2,List.getElem_cons_drop,VP]);rw[e,List.find?_append,GP.2 (by intro x hx;simp[HA.o x hx]),Option.none_or,List.find?_cons,HQ.o]
  |false=>
   go_wp2_with ((refine HC.o.mono ?_;rintro e w1⟨rfl,h2⟩))
   go_roundg (n-(i+1))
   ·refine⟨⟨i+1,by omega,rfl,by go_num,Qa ?_⟩,Qa<|o.o.trans h2<|by simp⟩;rw[ZE,HM.o];intro x hx;rcases Q5.1 hx with h1|h1
    ·exact HA.o x h1
    obtain rfl:x=m:=(by simpa using h1);exact HQ.o
   omega
 obtain rfl:i=n:=by omega
 have q0:¬(i:Int)<i:=by omega
 go_wp2
 go_ret;refine⟨⟨_,rfl,.inr ⟨?_,rfl⟩⟩,o.o⟩;rw[GP];intro x hx;have:=HA.o x (by rwa[Zd (by rw[HN.o];exact Ql _)]);simp[this]
def NS{fn:Func}{p u:Tmp}(c:fn.results=#[.cell p 69,.tmp u])(tmps w){b v0 a v2 v3 v4}(A:Qf w b 69 [v0,a,v2,v3,v4])(hp:tmps.getD p undef=.pointer b):
 (results fn tmps).run prog w=.ok (.tuple #[.agg #[v0,a,v2,v3,v4],tmps.getD u undef]) w:=by
 rw[results_cell_tmp c,hp];simp only[asAddr,Sem.run_pure,Ut];rw[run_loadVar_row w b 69 69 _ _ _ A underlying69 rfl<|by kernel_rfl];rfl
def Og{w w1 b l}(A:Qf w1 b 69 l)(hk:Qb [] w w1)(hb:w.heap.size≤b)(v0 a v2 v3 v4):
 Qb [] w (((((w1.setCell ⟨b,0,none⟩ v0).setCell ⟨b,1,none⟩ a).setCell ⟨b,2,none⟩ v2).setCell ⟨b,3,none⟩ v3).setCell ⟨b,4,none⟩ v4)∧
 Qf (((((w1.setCell ⟨b,0,none⟩ v0).setCell ⟨b,1,none⟩ a).setCell ⟨b,2,none⟩ v2).setCell ⟨b,3,none⟩ v3).setCell ⟨b,4,none⟩ v4) b 69 (((((l.set 0 v0).set 1 a).set 2 v2).set 3 v3).set 4 v4):=
 ⟨((((hk.setCell (.inr hb) _).setCell (.inr hb) _).setCell (.inr hb) _).setCell (.inr hb) _).setCell (.inr hb) _,((((A.set 0 v0).set 1 a).set 2 v2).set 3 v3).set 4 v4⟩
def Nn{a d nv pv mv s w}(h:Ze w a d nv pv mv s)(hs:s.dev.Ok)(hl:s.mem.length≤1000)(p)(hp:p.length≤1000000):
 Calls prog 49 #[.pointer a,str p] w fun e w'=>e=.returned (.tuple #[.agg (Zi (s.find p).2).toArray,.int .i64 (s.find p).1])∧Qb [] w w':=by
 have⟨y1,h9⟩:=qb (fun W (hW:Qb [] w W)=>OM (h.vt.kZ hW) hs) fun W=>FF (str p) W hp;rw[YS]at h9;have⟨y6,x9,z8⟩:=qc (fun b W (hW:Qb [] w W) hb=>yS mv s.mem p b W (h.vt.mem.memA.kZ hW) hb hl) (fun W (hW:Qb [] w W)=>(h.vt.kZ hW).arr.cell (i:=3) (u:=mv) rfl) fun W (hW:Qb [] w W)=>h.vt.mem.memA.kZ hW;have y7:Qb [] w (w.alloc<|.cells #[str p] 9):=(Qc [] w).alloc _;have y4:=y7.alloc<|.cells #[.string ⟨#[]⟩,(0:Int),(0:Int),(0:Int),.int .u32 0] 69;have q0:=x9.o _ y4;have⟨h8,y5⟩:=qb y4<|show((w.alloc<|.cells #[str p] 9).alloc<|.cells #[.string ⟨#[]⟩,(0:Int),(0:Int),(0:Int),.int .u32 0] 69).cell? ⟨w.heap.size,0,none⟩=some (.string<|str p)from((Qc [] _).alloc _).cZ ((Qx w [str p] 9).cell (i:=0) rfl) (by simp);obtain⟨am,cm,rfl,y8,-⟩:=h.vt.mem.memA;have z6:=Qa y8;have⟨b4,z7⟩:=qx<|w.heap.size+1;have hA:Qf ((w.alloc<|.cells #[str p] 9).alloc<|.cells #[.string ⟨#[]⟩,(0:Int),(0:Int),(0:Int),.int .u32 0] 69) b4 69 [.string ⟨#[]⟩,(0:Int),(0:Int),(0:Int),.int .u32 0]:=by have:=Qx (w.alloc<|.cells #[str p] 9) [.string ⟨#[]⟩,(0:Int),(0:Int),(0:Int),.int .u32 0] 69;rwa[U8,z7]at this
 have⟨HA,y3⟩:=qb hA (show w.heap.size≤b4 from by omega);cases hok:Yn p with
 |false=>
  have e1:Ua p=140:=by simp[Ua,hok]
  have e2:s.find p=(140,⟨[],0,0,0,0⟩):=by simp[Vst.find,hok]
  rw[e2];rw[e1]at h9;go_enter func49,So;go_wp2_with (first
   |(go_at_call 76;with_reducible refine(y1.o _ h8.o).mono ?_;rintro e w1⟨rfl,rfl⟩)
   |(go_at_call 17;with_reducible refine(h9.o _).mono ?_;rintro e w1⟨rfl,y⟩
     have o:=HA.o.kept y (by simp);have a0:=o.cell (i:=0) rfl;have a1:=o.cell (i:=1) rfl;have a2:=o.cell (i:=2) rfl;have a3:=o.cell (i:=3) rfl;have a4:=o.cell (i:=4) rfl;have x0:=o.free 0;have x1:=o.free 1;have x2:=o.free 2;have x3:=o.free 3;have x4:=o.free 4;have y9:=Qa y))
  obtain⟨x7,x5⟩:=Og o (h8.o.trans y9.o<|by simp) y3.o (.string ⟨#[]⟩) (0:Int) (0:Int) (0:Int)<|.int .u32 0;refine Q9 (NS rfl _ _ x5 rfl) rfl ⟨rfl,x7⟩
 |true=>
  have e1:Ua p=0:=by simp[Ua,hok]
  rw[e1]at h9;cases hfd:s.mem.find? (fun m=>m.path==p)with
  |none=>
   have e2:s.find p=(240,⟨[],0,0,0,0⟩):=(by simp[Vst.find,hok,hfd]);rw[e2];have y0:=Qa hfd;go_enter func49,So;go_wp2_with (first
   |(go_at_call 76;with_reducible refine(y1.o _ h8.o).mono ?_;rintro e w1⟨rfl,rfl⟩)
   |(go_at_call 17;with_reducible refine(h9.o _).mono ?_;rintro e w1⟨rfl,y⟩
     have x8:=h8.o.trans y (by simp);have z3:=x9.o _ x8;have h4:=Qa x8;have y2:=Qa (y.cZ y5.o<|by simp))
   |(go_at_call 86;with_reducible refine(y6.o _ _ h4.o y2.o).mono ?_;rintro e w2⟨⟨r,rfl,hr⟩,h5⟩;obtain rfl:r= -1:=(by unfold KO at hr;rcases hr with⟨i,m,h1,q,h3⟩|⟨-,h3⟩;(·rw[y0.o]at q;cases q);exact h3)
     have o:=(HA.o.kept y<|by simp).kept h5 (by simp);have a0:=o.cell (i:=0) rfl;have a1:=o.cell (i:=1) rfl;have a2:=o.cell (i:=2) rfl;have a3:=o.cell (i:=3) rfl;have a4:=o.cell (i:=4) rfl;have x0:=o.free 0;have x1:=o.free 1;have x2:=o.free 2;have x3:=o.free 3;have x4:=o.free 4;have x6:=h4.o.trans h5 (by simp);have z1:=Qa x6))
   obtain⟨x7,x5⟩:=Og o x6 y3.o (.string ⟨#[]⟩) (0:Int) (0:Int) (0:Int)<|.int .u32 0;refine Q9 (NS rfl _ _ x5 rfl) rfl ⟨rfl,x7⟩
  |some m=>
   have e2:s.find p=(0,m):=(by simp[Vst.find,hok,hfd]);rw[e2];have y0:=Qa hfd;unfold Zi;go_enter func49,So;go_wp2_with (first
   |(go_at_call 76;with_reducible refine(y1.o _ h8.o).mono ?_;rintro e w1⟨rfl,rfl⟩)
   |(go_at_call 17;with_reducible refine(h9.o _).mono ?_;rintro e w1⟨rfl,y⟩
     have x8:=h8.o.trans y (by simp);have z3:=x9.o _ x8;have h4:=Qa x8;have y2:=Qa (y.cZ y5.o<|by simp))
   |(go_at_call 86;with_reducible refine(y6.o _ _ h4.o y2.o).mono ?_;rintro e w2⟨⟨r,rfl,hr⟩,h5⟩;obtain⟨i,hi,rfl⟩:∃i:Nat,s.mem[i]?=some m∧r=(i:Int):=(by unfold KO at hr;rcases hr with⟨i,m',h1,q,h3⟩|⟨q,-⟩;(·rw[y0.o]at q;injection q with q;subst q;exact⟨i,h1,h3⟩);rw[y0.o]at q;cases q)
     have z3:=x9.o _ (h4.o.trans h5<|by simp);have p0:¬(i:Int)<0:=(by omega);have p1:i<s.mem.length:=(Qz.1 hi).1;obtain⟨gm,om,rfl,m0,m1,m2,m3,m4⟩:=Ru (z6.o.kZ<|h4.o.trans h5<|by simp) hi;have o:=(HA.o.kept y<|by simp).kept h5 (by simp);have a0:=o.cell (i:=0) rfl;have a1:=o.cell (i:=1) rfl;have a2:=o.cell (i:=2) rfl;have a3:=o.cell (i:=3) rfl;have a4:=o.cell (i:=4) rfl;have x0:=o.free 0;have x1:=o.free 1;have x2:=o.free 2;have x3:=o.free 3;have x4:=o.free 4;have x6:=h4.o.trans h5 (by simp);have z1:=Qa x6))
   obtain⟨x7,x5⟩:=Og o x6 y3.o (.string<|str m.path) (.int .i64 m.start) (.int .i64 m.eZ) (.int .i64 m.size)<|.int .u32 m.sum;refine Q9 (NS rfl _ _ x5 rfl) rfl ⟨rfl,x7⟩
end
section
open Go.Sort Go.Shelf
def uZ(v l w)(h:RN w v l)(hl:l.length≤1000)(hk:ZX 4096 l=true):
 Calls prog 82 #[v] w fun e w'=>e=.returned (.int .i64<|l.foldl (fun e x=>max e<|x.1+x.2) 30)∧Qb [] w w':=by
 have hc:=Kr v l 4096 w h (by omega) (by decide) (by decide);rw[hk]at hc;have⟨HC,x4⟩:=qb hc (show ∀x∈l,0≤x.1+x.2∧x.1+x.2≤4096 from fun x o=>by have:=((YA _ _).1 hk).1 x o;unfold K.inX at this;omega);obtain⟨a1,c1,rfl,h8,x9⟩:=h;have x8:=Qa h8;have⟨n,h2⟩:=qx l.length;rw[h2]at HC hl ⊢;have HN:=Qa h2;go_enter func82,ntmps82;go_wp2_with (go_at_call 72;refine HC.o.mono ?_;rintro e w1⟨rfl,h5⟩);have h3:=Qa h5
 go_loopg [3,5,12] n (fun k x3 x5 y0 wr=>(∃(i:Nat)(f:Int),i≤n∧k=n-i∧x3=.int .i64 f∧y0=.int .i64 (i:Nat)∧0≤f∧f≤4096∧Hid (l.foldl (fun e x=>max e<|x.1+x.2) 30=(l.drop i).foldl (fun e x=>max e<|x.1+x.2) f))∧Hid (Qb [] w1 wr))
 ·exact⟨⟨0,30,by omega,by omega,rfl,rfl,by omega,by omega,Qa rfl⟩,Qa<|Qc _ _⟩
 obtain⟨⟨i,f,hi,hk,rfl,rfl,y1,y2,HF⟩,h1⟩:=hrel
 by_cases hlt:i<n
 ·have q0:(i:Int)<n:=by omega
  have⟨x,o⟩:=qy l i (by have:=HN.o;omega);have h9:=(x8.o.kZ h3.o).kZ h1.o;obtain⟨g,y3,rfl,c0,c1⟩:=Mv h9 o;have x2:=x4.o x<|QC o;have h4:l.drop i=x::l.drop (i+1):=by
   have hl:=(Qz.1 o).1;rw[Xa hl]
   congr 1
   exact(Qz.1 o).2
  have hf:=HF.o;rw[h4,BR]at hf;have x6:=Qa hf;obtain⟨q,y⟩:=x;simp only[]at c0 c1 x2;have v2:IntKind.i64.wrap (q+y)=q+y:=by rw[Zx];omega
  have HM:=Qa (by omega:0≤max f (q+y)∧max f (q+y)≤4096)
  go_wp2
  go_roundg (n-(i+1))
  ·exact⟨⟨i+1,max f<|q+y,by omega,rfl,rfl,by go_num,HM.o.1,HM.o.2,x6⟩,Qa<|h1.o.alloc _⟩
  omega
 obtain rfl:i=n:=by omega
 have q0:¬(i:Int)<i:=by omega
 have x7:=Qa (show l.foldl (fun e x=>max e<|x.1+x.2) 30=f by have:=HF.o;rwa[JB (by rw[HN.o];exact Ql _)]at this)
 go_wp2
 go_ret;exact⟨by rw[x7.o];rfl,h3.o.trans h1.o<|by simp⟩
end
