import Derived.Maps.OwnSet
import Derived.Maps.RangeWalk
import Derived.StringKeys
import Derived.Laws.ResultCell
import Derived.Laws.Rows
import Derived.Test.YtickjpnkoppmgaaGreatDoorBl
import Derived.Test.YtickjpnkoppmgaaGreatDoorBk
set_option linter.all false
set_option maxHeartbeats 4000000
set_option maxRecDepth 100000
namespace Go.Proofs.YtickjpnkoppmgaaGreatDoor
open Go.Proofs.Tryz Go.RowKit K
section
open Go.Maps
def Ak(m:RM):DataW Unit:=.agg [.lit (.string m.path),.lit (.int .i64 m.start),.lit (.int .i64 m.eZ),.lit (.int .i64 m.size),.lit (.int .u32 m.sum)]
def Qbl{a b}(c:Ak a=Ak b):a=b:=by obtain⟨d,d,d,d,d⟩:=a;obtain⟨d,d,d,d,d⟩:=b;simp only[Ak,DataW.agg.injEq,List.cons.injEq,DataW.lit.injEq,Lit.string.injEq,Lit.int.injEq,EP,and_true]at c;obtain⟨rfl,rfl,rfl,rfl,rfl⟩:=c;rfl
def Qbn{a b}(c:Vd a=Vd b):a=b:=by
 obtain⟨e,d,d,d,d⟩:=a;obtain⟨f,d,d,d,d⟩:=b;simp only[Vd,Value.agg.injEq,Array.mk.injEq,List.cons.injEq,Value.string.injEq,Value.int.injEq,EP,and_true]at c;obtain⟨d,rfl,rfl,rfl,rfl⟩:=c;have:e=f:=by have:=Qu (fun b:BA=>b.data.toList) d;exact this
 subst this;rfl
open Classical in
noncomputable def Uv(v:VL):Option (DataW Unit × List MemPlace):=if h:∃a:RM,v=Vd a then some (Ak h.choose,[])else none
def Ou(m):Uv (Vd m)=some (Ak m,[]):=by have a:∃b:RM,Vd m=Vd b:=⟨m,rfl⟩;unfold Uv;rw[dif_pos a,←Qbn a.choose_spec]
def Qel(v)(y:DataW Unit × List MemPlace)(h:Uv v=some y):∃m,v=Vd m:=by
 unfold Uv at h
 split at h
 ·rename_i o;exact o
 cases h
abbrev U4:=LU→Option RM
def YL(b:U4)(p:LU)(c:Option RM):U4:=fun a=>if a=p then c else b a
def Ra(D:DataW Unit)(b:U4):Prop:=∀a,(∀c,D.atKey (.string a) c=(b a).elim c Ak)∧Maps.has D (.string a)=(b a).isSome
def Qer:Ra (.map []) (fun _=>none):=fun a=>⟨fun a=>rfl,rfl⟩
def FX{p a}(b:a≠p):(Lit.string a)≠.string p:=fun a=>b (by injection a)
def gF{D:DataW Unit}{a:U4}(c:Ra D a)(d:IsMap D)(p m):Ra (D.put (.string p)<|Ak m) (YL a p<|some m):=fun a=>by
 unfold YL
 by_cases b:a=p
 ·subst b;rw[Qg rfl];exact⟨fun e=>atKey_put_same d (show WideAt.IsKeyLit (.string a)from True.intro) _ _,has_put_same d (show WideAt.IsKeyLit (.string a)from True.intro) _⟩
 rw[Qf b];exact⟨fun e=>by rw[atKey_put_other<|FX b];exact(c a).1 e,by rw[has_put_other<|FX b];exact(c a).2⟩
def Qeq{D:DataW Unit}{a:U4}(c:Ra D a)(p):Ra (D.del<|.string p) (YL a p none):=fun b=>by
 unfold YL
 by_cases a:b=p
 ·subst a;rw[Qg rfl];exact⟨fun d=>atKey_del_same _,has_del_same⟩
 rw[Qf a];exact⟨fun d=>by rw[atKey_del_other<|FX a];exact(c b).1 d,by rw[has_del_other<|FX a];exact(c b).2⟩
structure Vn(M:U4)(l:List RM):Prop where
 rise:U5 l
 mem:∀m,m∈l↔M m.path=some m
 key:∀p m,M p=some m→m.path=p
def Qgb:Vn (fun _=>none) []:=⟨List.Pairwise.nil,by simp,by simp⟩
def Qgc{a:U4}{l i x}(d:Vn a (l.take i))(f:U5 l)(g:l[i]?=some x):Vn (YL a x.path<|some x) (l.take<|i+1):=by
 have hi:=Qz.1 g;have h:∀c∈l.take i,c.path≠x.path:=fun c a b=>by obtain⟨j,e,rfl⟩:=PT a;rw[List.getElem_take]at b;have:=Jp.1 f j i (by rw[Zl]at e;omega) hi.1 (by rw[Zl]at e;omega);rw[hi.2,b,Dc]at this;omega
 refine⟨f.sublist<|LA _ _,fun c=>?_,fun e c a=>?_⟩
 ·rw[Zt,g];unfold YL;simp only[Fk,Q6,Za];constructor
  ·rintro(a|rfl)
   ·rw[Qf<|h c a];exact(d.mem c).1 a
   rw[Qg rfl]
  intro a
  by_cases b:c.path=x.path
  ·rw[Qg b]at a;injection a with a;exact .inr a.symm
  rw[Qf b]at a;exact .inl<|(d.mem c).2 a
 unfold YL at a
 by_cases b:e=x.path
 ·rw[Qg b]at a;injection a with a;rw[←a];exact b.symm
 rw[Qf b]at a;exact d.key e c a
def Qga{a:U4}{l}(c:Vn a l)(x):Vn (YL a x.path<|some x) (Vs x l):=by
 refine⟨Cz c.rise,fun d=>?_,fun e d a=>?_⟩
 ·rw[Dm c.rise];unfold YL
  by_cases b:d.path=x.path
  ·rw[Qg b];constructor
   ·rintro(rfl|⟨-,h2⟩)
    ·rfl
    exact absurd b h2
   intro a;injection a with a;exact .inl a.symm
  rw[Qf b,←c.mem d];constructor
  ·rintro(rfl|⟨f,-⟩)
   ·exact absurd rfl b
   exact f
  exact fun a=>.inr ⟨a,b⟩
 unfold YL at a
 by_cases b:e=x.path
 ·rw[Qg b]at a;injection a with a;rw[←a];exact b.symm
 rw[Qf b]at a;exact c.key e d a
def Qf9{b:U4}{l}(a:Vn b l)(p):Vn (YL b p none) (Ci p l):=by
 refine⟨OC a.rise,fun d=>?_,fun e d c=>?_⟩
 ·rw[dW];unfold YL
  by_cases b:d.path=p
  ·rw[Qg b];exact⟨fun a=>absurd b a.2,fun a=>by cases a⟩
  rw[Qf b,←a.mem d];exact⟨fun a=>a.1,fun a=>⟨a,b⟩⟩
 unfold YL at c
 by_cases b:e=p
 ·rw[Qg b]at c;cases c
 rw[Qf b]at c;exact a.key e d c
structure DG(M:U4)(left:Lit→Bool)(L:List RM):Prop where
 nodup:(L.map (·.path)).Nodup
 mem:∀m,m∈L↔M m.path=some m∧left (.string m.path)=false
def uN{D:DataW Unit}{b:U4}(a:Ra D b):DG b (Maps.has D) []:=⟨List.nodup_nil,fun b=>by
 rw[(a b.path).2];constructor
 ·intro a;cases a
 rintro⟨b,a⟩;rw[b]at a;cases a⟩
def uO{D:DataW Unit}{a:U4}{b:Lit→Bool}{L}{c:DataW Unit × List MemPlace}{m p}(f:Ra D a)(hk:∀p m,a p=some m→m.path=p)(e:DG a b L)(h:b (.string p)=true)(d:Uv (Vd m)=some c)(g:∀z,D.atKey (.string p) z=c.1):
 a p=some m∧m.path=p∧DG a (fun z=>b z&&!z.sameKey (.string p)) (L++[m]):=by
 rw[Ou]at d;injection d with d;have c:a p=some m:=by
  cases hp:a p with
  |none=>have a:=(f p).1 (.lit<|.bool true);have b:=(f p).1 (.lit<|.bool false);rw[g,hp]at a b;have:(DataW.lit (.bool true):DataW Unit)=.lit (.bool false):=a.symm.trans b;injection this with this;injection this with this;cases this
  |some m'=>
   have a:=(f p).1 (.lit<|.bool true);rw[g,hp,←d]at a;rw[Qbl a]
 have hp:=hk p m c;refine⟨c,hp,?_,fun d=>?_⟩
 ·rw[Xi,BX];refine⟨e.nodup,by simp,fun f ha f hb=>?_⟩;simp at hb;subst hb;obtain⟨d,g,rfl⟩:=QB.1 ha;intro f;have:=((e.mem d).1 g).2;rw[f,hp,h]at this;cases this
 simp only[Q6,Za,Bool.and_eq_false_iff,Bool.not_eq_false'];rw[e.mem d];constructor
 ·rintro(⟨a,b⟩|rfl)
  ·exact⟨a,.inl b⟩
  exact⟨by rwa[hp],.inr (by rw[hp];simp[Lit.sameKey])⟩
 rintro⟨a,b|b⟩
 ·exact .inl ⟨a,b⟩
 have:=WideAt.sameKey_eq b;injection this with this;rw[this,c]at a;injection a with a;exact .inr a.symm
def uL{c:U4}{d:Lit→Bool}{L l' A}(f:DG c d L)(h0:∀z,d z=false)(g:Vn c A)(hp:l'.Perm L)(hs:l'.Pairwise fun a b=>¬Xd b.path a.path<0):l'=A:=by
 have l:(l'.map (·.path)).Nodup:=(hp.map _).nodup_iff.2 f.nodup;refine KB (pt:=RM.path) ?_ g.rise fun j=>?_
 ·refine Jp.2 fun c d hi i h=>?_
  have:=Jp.1 hs c d hi i h;have k:l'[c].path≠l'[d].path:=fun e=>by have:=Jp.1 l c d (by simpa using hi) (by simpa using i) h;simp at this;exact this e
  have:Xd l'[c].path l'[d].path≠0:=fun e=>k<|El e
  have:=Ek l'[c].path l'[d].path;omega
 rw[hp.mem_iff,f.mem j,g.mem j,h0];simp
end
section
open Go.Sort Go.Shelf
def Qb.by{w w' v}(a:Qb (Qd v) w w'):w.grownBy w' v.ownBlock:=⟨a.os,a.tape,a.output,a.size,fun c hk b=>a.block c hk (by intro a;exact b<|by simpa[Qd,eq_comm]using a)⟩
def AT:Go.Maps.Keyed prog 9:=Go.Maps.string_keyed Yj
def key_inv(key)(b:Lit)(a:keyOf prog 9 key=some b):∃x:BA,key=.string x:=by obtain⟨c,b,-,-⟩:=Go.WideMaps.string_of_keyOf Yj a;exact⟨c,b⟩
def uM{b:U4}{c:Lit→Bool}{L A}(a:DG b c L)(e:Vn b A):L.length≤A.length:=by
 classical
 have d:=GC (fun _:RM=>1) (l:=L) (l':=A) (by have:=a.nodup;exact List.Pairwise.imp (fun a b=>a<|by rw[b])<|V5.1 this) fun c f=>(e.mem c).2 ((a.mem c).1 f).1;have b:∀a:List RM,(a.map fun _=>1).sum=a.length:=fun a=>by
  induction a with
  |nil=>rfl
  |cons c a ih=>rw[QR,Z9,ih,Q0];omega
 rwa[b,b]at d
def LK(w:WD)(v:VL)(ns:List Note):Prop:=∃a b,v=.slice a ns.length b∧Qp w 6 a ns.length (Qx Xj ns)
def rI(x a)(h:Y9 x)(i:Y9 a)(w)(d:YN w):Calls prog 69 #[.agg (Zi x).toArray,.agg (Zi a).toArray] w fun e w'=>e=.returned (.int .i64<|Xd x.path a.path)∧∃c f,w'=grow (w.drewN c) f:=by
 have g:=Qa fun b d=>Wk (str x.path) (str a.path) b (by have:=h.1;show x.path.length≤_;omega) (by have:=i.1;show a.path.length≤_;omega) d;rw[show Xd (str x.path).data.toList (str a.path).data.toList=Xd x.path a.path from rfl]at g;have h:∀a b:Obj,YN ((w.alloc a).alloc b):=fun a b=>d.kept (((Qc [] w).alloc a).alloc b) (by simp)
 have⟨i,a⟩:=qb (show ∀(a b:Obj) c os,∃j f,grow (((w.alloc a).alloc b).drewN c) os=grow (w.drewN j) f from fun a b c os=>⟨c,#[a]++#[b]++os,by rw[alloc_eq_grow,alloc_eq_grow,grow_grow];simp[grow,World.drewN]⟩) h;unfold Zi;go_enter func69,ntmps69;go_wp2_with (go_at_call 70;refine(g.o _<|a.o _ _).mono ?_;rintro e b⟨rfl,c,os,rfl⟩);go_ret;exact⟨rfl,i.o _ _ _ _⟩
def lH(v nv l ns w)(h:Uf w v l)(hN:LK w nv ns)(hB:YN w)(hl:l.length≤100)(hn:ns.length≤100)(hr:U5 l)(r1:∀m∈l,Y9 m)(r2:∀n∈ns,Y9 n.2):
 Calls prog 36 #[v,nv] w (Fh (Zn l ns) w):=by
 obtain⟨a1,c1,rfl,x3,d8⟩:=h;obtain⟨a2,c2,rfl,z8⟩:=hN;have⟨n,z1⟩:=qx l.length;have⟨k2,x7⟩:=qx ns.length;rw[z1]at x3 hl ⊢;rw[x7]at z8 hn ⊢;have⟨HN,y3,b9,c6,HR,p3,HB⟩:=qg z1 x7 x3 z8 hr (Qr r1 r2) hB;clear x3 z8 d8 hB hr r1 r2 z1 x7;have d7:=@run_makeMap prog;go_enter func36,ntmps36;go_wp2_with fail;have⟨B,x9⟩:=qx w.heap.size;have p2:=Qa x9;have z6:=World.ownsMap_made w prog 9 Uv;rw[x9]at z6;have b3:=Qa z6;rw[x9];clear x9 z6 d7
 go_loopg [16] n (fun k e6 wr=>(∃(i:Nat)(D:DataW Unit)(M:U4),i≤n∧k=n-i∧e6=.int .i64 (i:Nat)∧Hid (wr.ownsMap prog 9 Uv B i D∧Ra D M∧Vn M (l.take i)∧∀p m,M p=some m→Y9 m))∧Hid (Qb [] w wr))
 ·exact⟨⟨0,_,_,by omega,rfl,rfl,Qa ⟨b3.o,Qer,Qgb,fun p m h=>by cases h⟩⟩,Qa<|(Qc [] w).alloc _⟩
 obtain⟨⟨i,D,M,hi,hk,rfl,HM⟩,y5⟩:=hrel
 by_cases hlt:i<n
 ·have g0:(i:Int)<n:=by omega
  have⟨m,hm⟩:=qy l i (by have:=HN.o;omega);have r7:=b9.o.kZ y5.o;obtain⟨g,off,rfl,d0,d1,d2,d3,d4⟩:=VT r7 hm;obtain⟨h3,h8,q,h5⟩:=HM.o;have x1:=p3.o.1 m<|QA hm;have y0:keyOf prog 9 (.string<|str m.path)=some (.string m.path):=Lj Yj (s:=str m.path) (by have:=x1.1;show m.path.length≤_;simp only[maxLen];omega);have p0:Uv (.agg #[.string<|str m.path,.int .i64 m.start,.int .i64 m.eZ,.int .i64 m.size,.int .u32 m.sum])=some (Ak m,[]):=Ou m;have x5:=Qa<|h3.alloc<|.cells #[.string<|str m.path,.int .i64 m.start,.int .i64 m.eZ,.int .i64 m.size,.int .u32 m.sum] 69;have h4:=Qa (show Ra (D.put (.string m.path)<|Ak m) (YL M m.path<|some m)∧Vn (YL M m.path<|some m) (l.take<|i+1)∧∀p x,YL M m.path (some m) p=some x→Y9 x from⟨gF h8 (h3.tidy AT).isMap _ _,Qgc q HR.o hm,fun p x o=>by
   unfold YL at o
   split at o
   ·injection o with o;rwa[←o]
   exact h5 p x o⟩)
  have y9:i<maxLen:=by simp only[maxLen];omega
  clear h3 h8 q h5 x1 r7 hm;go_wp2_with (at_mapUpdate;refine lN _ rfl _ _ _ 136 rfl 9 69 AT Mm Uv B i D rfl x5.o y9 _ _ _ rfl rfl y0 _ [] p0 ?_;intro w2 x8 y7)
  go_roundg (n-(i+1))
  ·refine⟨⟨i+1,_,_,by omega,rfl,by go_num,Qa ⟨x8,h4.o.1,h4.o.2.1,h4.o.2.2⟩⟩,Qa<|(y5.o.alloc _).grown y7 (by intro k hk;injection hk with hk;subst hk;exact .inr<|Nat.le_of_eq p2.o)⟩
  omega
 obtain rfl:i=n:=by omega
 have g0:¬(i:Int)<i:=by omega
 have b2:=Qa<|show _ from HM.o;have q:=HM.o.2.2.1;rw[Q8 (by rw[HN.o];exact Ql _)]at q;have b5:=Qa (show wr.ownsMap prog 9 Uv B (i+0) D∧Ra D M∧Vn M (Zn l<|ns.take 0)∧∀p m,M p=some m→Y9 m from⟨HM.o.1,HM.o.2.1,q,HM.o.2.2.2⟩);clear q b2 HM
 go_wp2
 go_loopg [27] k2 (fun k e7 wq=>(∃(j:Nat)(D:DataW Unit)(M:U4),j≤k2∧k=k2-j∧e7=.int .i64 (j:Nat)∧Hid (wq.ownsMap prog 9 Uv B (i+j) D∧Ra D M∧Vn M (Zn l<|ns.take j)∧∀p m,M p=some m→Y9 m))∧Hid (Qb [] w wq))
 ·exact⟨⟨0,_,_,by omega,rfl,rfl,b5⟩,y5⟩
 obtain⟨⟨j,D,M,hj,e9,rfl,HM⟩,x4⟩:=hrel
 by_cases f0:j<k2
 ·have g1:(j:Int)<k2:=by omega
  obtain⟨⟨b,m⟩,o⟩:∃x,ns[j]?=some x:=⟨_,Qj (by have:=y3.o;omega)⟩;obtain⟨g,off,rfl,h9⟩:=WN (c6.o.kZ x4.o) o;obtain⟨h3,h8,q,h5⟩:=HM.o;have x1:Y9 m:=p3.o.2 _<|QA o;have y0:keyOf prog 9 (.string<|str m.path)=some (.string m.path):=Lj Yj (s:=str m.path) (by have:=x1.1;show m.path.length≤_;simp only[maxLen];omega);have p0:Uv (.agg #[.string<|str m.path,.int .i64 m.start,.int .i64 m.eZ,.int .i64 m.size,.int .u32 m.sum])=some (Ak m,[]):=Ou m;have hap:Zn l (ns.take<|j+1)=Bd (Zn l<|ns.take j) (b,m):=by unfold Zn;rw[Zt,o];simp[DK]
  have y9:i+j<maxLen:=by simp only[maxLen];omega
  have y6:∀k,some B=some k→k∈([]:LN)∨w.heap.size≤k:=by intro k hk;injection hk with hk;subst hk;exact .inr<|Nat.le_of_eq p2.o
  have p1:=Qa y6;have c1:=h9 1 (.string<|str m.path) rfl;have c2:=h9 2 (.int .i64 m.start) rfl;have c3:=h9 3 (.int .i64 m.eZ) rfl;have c4:=h9 4 (.int .i64 m.size) rfl;have c5:=h9 5 (.int .u32 m.sum) rfl;cases b with
  |true=>
   have c0:=h9 0 (1:Int) rfl;rw[Jb]at c0;have x5:=Qa<|h3.alloc<|.cells #[(1:Int),.string<|str m.path,.int .i64 m.start,.int .i64 m.eZ,.int .i64 m.size,.int .u32 m.sum] 104;have h4:=Qa (show Ra (D.put (.string m.path)<|Ak m) (YL M m.path<|some m)∧Vn (YL M m.path<|some m) (Zn l<|ns.take<|j+1)∧∀p x,YL M m.path (some m) p=some x→Y9 x from⟨gF h8 (h3.tidy AT).isMap _ _,by rw[hap];exact Qga q m,fun p x o=>by
    unfold YL at o
    split at o
    ·injection o with o;rwa[←o]
    exact h5 p x o⟩)
   clear h3 h8 q h5 x1 o hap h9 y6;go_wp2_with (at_mapUpdate;refine lN _ rfl _ _ _ 136 rfl 9 69 AT Mm Uv B (i+j) D rfl x5.o y9 _ _ _ rfl rfl y0 _ [] p0 ?_;intro w2 x8 y7)
   go_roundg (k2-(j+1))
   ·exact⟨⟨j+1,_,_,by omega,rfl,by go_num,Qa ⟨x8,h4.o.1,h4.o.2.1,h4.o.2.2⟩⟩,Qa<|(x4.o.alloc _).grown y7 p1.o⟩
   omega
  |false=>
   have c0:=h9 0 (2:Int) rfl;rw[Jb]at c0;have x5:=Qa<|h3.alloc<|.cells #[(2:Int),.string<|str m.path,.int .i64 m.start,.int .i64 m.eZ,.int .i64 m.size,.int .u32 m.sum] 104;have h4:=Qa (show Ra (D.del<|.string m.path) (YL M m.path none)∧Vn (YL M m.path none) (Zn l<|ns.take<|j+1)∧∀p x,YL M m.path none p=some x→Y9 x from⟨Qeq h8 _,by rw[hap];exact Qf9 q m.path,fun p x o=>by
    unfold YL at o
    split at o
    ·cases o
    exact h5 p x o⟩)
   clear h3 h8 q h5 x1 o hap h9 y6;go_wp2_with (at_delete;refine wpList_delete_own _ rfl _ _ 136 9 rfl 69 AT Mm Uv B (i+j) D rfl x5.o _ _ rfl y0 ?_;intro w2 x8 e4)
   go_roundg (k2-(j+1))
   ·exact⟨⟨j+1,_,_,by omega,rfl,by go_num,Qa ⟨x8.mono<|DW _,h4.o.1,h4.o.2.1,h4.o.2.2⟩⟩,Qa<|(x4.o.alloc _).grown e4.grown p1.o⟩
   omega
 obtain rfl:j=k2:=by omega
 have g1:¬(j:Int)<j:=by omega
 have q:=HM.o.2.2.1;rw[Q8 (by rw[y3.o];exact Ql _)]at q;obtain⟨h3,h8,-,h5⟩:=HM.o;have⟨HX,b4⟩:=qb (Qr h8<|Qr q h5) h3;have c9:(Zn l ns).length≤200:=by have:=Ty ns l;rw[HN.o,y3.o]at this;omega
 have⟨A,hA⟩:=qx<|Zn l ns;rw[hA]at HX c9;have r9:=Qa hA;obtain⟨wA,rfl⟩:∃wA,wA=wr:=⟨_,rfl⟩;have⟨r,hr⟩:=qx wA.heap.size;have b7:=Qa (show B<r from by have:=h3.lt;omega);have p6:=Qa (show w.heap.size≤r from by have:=x4.o.size;omega);clear q h3 h8 h5 hA HM;go_wp2_with (first
  |(at_range;refine wpList_range_own _ rfl _ 136 rfl 9 69 AT Mm Uv B (i+j) D rfl b4.o ?_;intro w0 z7 q1 e2)
  |go_in)
 rw[hr]at z7;have q6:Qb [] w w0:=x4.o.grown q1 (by intro k hk;cases hk)
 go_loopw [10] (fun e5 wq=>∃(y2:Lit→Bool)(Rz:Nat)(L:List RM)(x2:VL),x2=e5∧wq.ranges prog 9 Uv B r (i+j) D y2 Rz∧DG M y2 L∧Qn wq 69 5 x2 L.length (Qx Zi L)∧(∀x∈Qd x2,w.heap.size≤x∧x≠B∧x≠r)∧Qb [] w wq) (fun _ wq=>wq.rangeLeft B r)
 ·exact⟨_,_,[],_,rfl,z7,uN HX.o.1,Qn.nil _ _ _,by simp[Qd,qo],q6⟩
 obtain⟨y2,Rz,L,x2,rfl,y1,hC,r5,q0,q5⟩:=hrel;have⟨HC,p5,x0,y4,p4⟩:=qe hC r5 q0 q5 y1;have e8:L.length≤200:=by have:=uM hC HX.o.2.1;omega
 clear hC r5 q0 q5 z7 q1 e2 q6;go_wp2_with (first
  |(at_next;refine wpList_next_ranges _ rfl _ rfl 9 AT Uv (fun s:BA=>Value.string s) Vd key_inv Qel B r (i+j) D _ _ rfl y1 ?_ ?_)
  |go_in)
 ·intro d5 q8;have⟨a8,c7⟩:=qb q8 (iW 69 (fun x y=>Xd x.path y.path) (Qhm fun x:MS=>x.1.path) (enters_of func69 (by kernel_rfl) rfl) (fun x y o hy W hB=>rI x y o hy W hB) x2 L wr p5.o (fun m hm=>HX.o.2.2 _ _ ((HC.o.mem m).1 hm).1) (HB.o.kept y4.o<|by simp) (fun h0=>by have h1:=(x0.o 0 h0).1;obtain⟨z,hz⟩:=HB.o;have:=JN w _ hz;simp at this;omega)<|by omega);clear y1 d5 q8;go_wp2_with (go_at_call 68;with_reducible refine c7.o.mono ?_;rintro e w2⟨rfl,l',hp,hs,e0,x7⟩);go_ret;have e:l'=A:=uL HC.o a8.o HX.o.2.1 hp (hs.imp fun h=>by omega);subst e;exact⟨x2,rfl,by rwa[r9.o],y4.o.trans x7 fun x o=>.inr (x0.o x o).1,fun x o=>(x0.o x o).1⟩
 intro x c kl yd ys w1 p7 q7 r0 hy p9 r4 q9 q3 x3 d6;obtain⟨s,es,ek,-⟩:=Go.WideMaps.string_of_keyOf Yj q7;subst ek;have e3:=uO (D:=D) HX.o.1 HX.o.2.1.key HC.o r0 hy p9;obtain⟨hM,d9,p8⟩:=e3;have⟨a6,b6⟩:=qb p8 r4;have y8:Qb [r] wr w1:=(Qc [r] wr).grown q3 (by intro k hk;injection hk with hk;subst hk;exact .inl<|by simp);have r6:=p5.o.kept y8 (fun x o=>by have:=(x0.o x o).2.2;simpa using this);have⟨b8,a7⟩:=qb r6<|y4.o.trans y8 fun x o=>.inr (by simp at o;subst o;exact p6.o);have L1:L.length+1≤maxLen:=by simp only[maxLen];omega
 have L2:(L.length+1)*48≤140737488355328:=by omega
 have⟨c8,b1⟩:=qb x3 q9;clear hM d9 p8 r4 y8 r6 hy p9 r0 q7 y1 q3 x3 q9;unfold Vd at d6 ⊢;go_wp2_with (at_builtin;(refine RO (w1.alloc<|.cells #[str c.path,c.start,c.eZ,c.size,.int .u32 c.sum] 69) rfl _ _ 38 rfl 69 (.agg #[.string ⟨#[]⟩,(0:Int),(0:Int),(0:Int),.int .u32 0]) 5 48 Ij Sw rfl (by decide) x2 L.length _ (Zi c) rfl (by rw[Vo];rfl) rfl rfl (MT _) (World.ownsRow.alloc b8.o _) L1 L2 ?_;intro g5 c5 w5 e1 q4 x6));have f1:r<wr.heap.size:=p4.o.lt;have r3:w5.ranges prog 9 Uv B r (i+j) D (fun z=>y2 z&&!z.sameKey (Lit.string x)) p7:=((b6.o.alloc _).kept q4.by (fun e=>(x0.o B<|by simp[Qd,←e]).2.1 rfl) fun e=>(x0.o r<|by simp[Qd,←e]).2.2 rfl);refine⟨⟨_,p7,L++[c],_,rfl,r3,a6.o,?_,?_,(a7.o.alloc _).trans q4 fun x o=>.inr (x0.o x o).1⟩,?_⟩
 ·have e:Qx Zi (L++[c])=Qx Zi L++Zi c:=by simp[Qx]
  rwa[e,Qo]
 ·intro y hy;have hy:y=g5:=by simpa[Qd,qo]using hy
  subst hy;rcases x6 with x6|x6
  ·exact x0.o _ x6
  rw[Vo,c8.o]at x6;have h1:=b7.o;have h2:=p6.o;exact⟨by omega,by omega,by omega⟩
 rw[r3.left_eq,p4.o.left_eq];exact b1.o
end
def LR(w:WD):Prop:=Lib.TabIs prog w "internal/strconv.uint64pow10" .u64 Lib.pow10Tab
def JF(w:WD):Prop:=YN w∧LR w
def SK:(prog.globalNamed "internal/strconv.uint64pow10").map (fun g=>decide<|g<10)=some true:=by kernel_rfl
def JF.kept{S w w'}(a:JF w)(hk:Qb S w w')(c:∀x∈S,10≤x):JF w':=by
 refine⟨a.1.kept hk (fun a=>by have:=c 0 a;omega),?_⟩;have b:=a.2;unfold LR Lib.TabIs World.var? at b ⊢;have hp:=SK;cases hg:prog.globalNamed "internal/strconv.uint64pow10" with
 |none=>rw[hg]at hp;cases hp
 |some g=>
  rw[hg]at b hp;simp only[AC,Option.some.injEq,Zv]at hp;simp only[Option.bind_some]at b ⊢;cases ho:w.heap[g]? with
  |none=>rw[ho]at b;cases b
  |some o=>rw[hk.heap ho (fun a=>by have:=c g a;omega)];rwa[ho]at b
def JF.kZ{w w'}(a:JF w)(hk:Qb [] w w'):JF w':=a.kept hk (by simp)
def vC(n)(a:100≤n)(a:n<1000):Lib.decDigits n=VR n:=by rw[Lib.decDigits,dif_neg<|by omega,Lib.decDigits,dif_neg<|by omega,Lib.decDigits,dif_pos<|by omega];simp[VR,Si]
def vT(n:Nat)(b:100≤n)(d:n<1000)(w)(c:JF w):Calls prog 156 #[n] w fun e w'=>e=.returned (str<|VR n)∧Qb [] w w':=by
 have a:=Qa<|Tryz.itoa n (by omega) (by omega) w c.2;rw[show Lib.itoa (n:Int)=VR n by unfold Lib.itoa;rw[Qf<|by omega];exact vC n b d]at a;have:¬(n:Int)<0:=by omega
 go_enter func156,ntmps156;go_wp2_with (go_at_call 198;refine a.o.mono ?_;rintro e c⟨rfl,b,os,rfl⟩);go_ret;exact⟨rfl,Qb.grow _ _ _⟩
def bR(c r):∀{x:LU},c∉x→Lib.indexByte (x++c::r) c=x.length
 | [],_=>by simp[Lib.indexByte]
 |b::x,h=>by simp only[QE,JU]at h;rw[Yf,Lib.indexByte,Qf<|by simpa using fun a=>h.1 a.symm,bR c r h.2,Qf<|by simp];simp
def Wx(c x r)(a:c∉x):Lib.cut (x++c::r) [c]=(x,r,true):=by unfold Lib.cut;rw[Lib.index_one,bR c r a,Qg<|by omega,Zs,CQ,EZ];simp
def vB(n)(a:n<1000):∀b∈VR n,48≤b.toNat∧b.toNat≤57:=by intro b hb;simp only[VR,QE,Ff,or_false]at hb;rcases hb with rfl|rfl|rfl<;>(rw[U7,XP<|by omega];omega)
def Y6:LU:=[112,97,116,104]
def Qdg(v):str (VR<|v.length+10)++⟨#[32]⟩++⟨#[112,97,116,104]⟩++⟨#[61]⟩++str v++⟨#[10]⟩=str (ZY v):=by
 rw[←VY (_++_),ZY]
 congr 1
def Qei(g v w)(hA:Qe w g 172 [.string ⟨#[112,97,116,104]⟩,str v])(hE:JF w)(h1:100<v.length)(h2:v.length≤200):
 Calls prog 113 #[.slice g 1 1] w fun e w'=>e=.returned (.tuple #[str<|ZY v,(0:Int)])∧Qb [] w w':=by
 have x0:=Qa fun W=>Tryz.strHas1 ⟨#[112,97,116,104]⟩ 61 W;rw[show(⟨#[112,97,116,104]⟩:BA).data.toList=Y6 from rfl,show decide (0≤Lib.indexByte Y6 61)=false by decide]at x0;have⟨n,hn⟩:=qx v.length;have y2:(str v).size=n:=hn;rw[hn]at h1 h2;have⟨x5,HP⟩:=qb (fun(k:Nat)(y0:100≤k)(h9:k<1000) W (hW:Qb [] w W)=>vT k y0 h9 W<|hE.kZ hW)<|Qdg v;have h3:∀k,(str<|VR k).size=3:=fun _=>rfl
 rw[hn]at HP;have HA:=Qa hA;have c0:=hA.cell (i:=0) (u:=.string ⟨#[112,97,116,104]⟩) rfl;have c1:=hA.cell (i:=1) (u:=.string<|str v) rfl;clear hA hE hn;go_enter func113,ntmps113
 go_wp2
 go_loopg [14] 1 (fun k y4 wr=>(∃i:Nat,i≤1∧k=1-i∧y4=.int .i64 (i:Nat))∧Hid (Qb [] w wr))
 ·exact⟨⟨0,by omega,rfl,rfl⟩,Qa<|Qc _ _⟩
 obtain⟨⟨i,hi,hk,rfl⟩,q⟩:=hrel
 by_cases h0:i=0
 ·subst h0;have d0:=q.o.cZ c0 (by simp);have d1:=q.o.cZ c1 (by simp);go_wp2_with (go_at_call 155;refine(x0.o _).mono ?_;rintro e w2⟨rfl,rfl⟩)
  go_roundg 0
  ·exact⟨⟨1,by omega,rfl,rfl⟩,Qa<|q.o.alloc _⟩
  omega
 obtain rfl:i=1:=by omega
 have c0:=q.o.cZ c0 (by simp);have c1:=q.o.cZ c1 (by simp);obtain⟨o,rfl⟩:∃o,o=wr:=⟨_,rfl⟩
 go_wp2
 go_loopg [4,29] 1 (fun k x4 x2 w2=>(k=1∧x2=.int .i64 0∧x4=.int .i64 0∨k=0∧x2=.int .i64 1∧x4=.int .i64 ((n+10:Nat):Int))∧Hid (Ye o o.heap.size (if k=1 then []else ZY v) w2))
 ·exact⟨.inl ⟨rfl,rfl,rfl⟩,Qa<|Ye.new o⟩
 obtain⟨⟨hk,rfl,rfl⟩|⟨hk,rfl,rfl⟩,HB⟩:=hrel
 ·have h5:=Qa (show Ye o o.heap.size [] wr by have:=HB.o;rwa[Qg hk]at this);have d0:=h5.o.2.cZ c0 (by simp);have d1:=h5.o.2.cZ c1 (by simp);obtain⟨y,rfl⟩:∃y,y=wr:=⟨_,rfl⟩;have x7:=Qa (q.o.trans h5.o.2<|by simp);clear HB
  go_wp2
  go_loopg [11] 1 (fun k y3 w2=>(∃j m:Nat,j≤1∧k=1-j∧y3=.int .i64 (m:Nat)∧Hid (m=n+8+2*j))∧Hid (Qb [] (y.alloc<|.cells #[.string ⟨#[112,97,116,104]⟩,str v] 172) w2))
  ·exact⟨⟨0,n+8,by omega,rfl,by go_num,Qa rfl⟩,Qa<|Qc _ _⟩
  obtain⟨⟨j,m,hj,y5,rfl,HM⟩,x6⟩:=hrel;have HD:=Qa (fun W (hW:Qb [] (y.alloc<|.cells #[.string ⟨#[112,97,116,104]⟩,str v] 172) W)=>x5.o m (by have:=HM.o;omega) (by have:=HM.o;omega) W<|(x7.o.alloc _).trans hW<|by simp);have h:=x6.o;have x1:((m:Nat):Int)=n+8+2*j:=by have:=HM.o;omega
  by_cases x9:j=0
  ·subst x9;have q0:¬(3:Int)+(4+(n:Int)+3)=(m:Int):=(by omega);clear x1;go_wp2_with (go_at_call 156;refine(HD.o _ h).mono ?_;rintro e w4⟨rfl,h8⟩;replace h:=h.trans h8<|by simp)
   go_roundg 0
   ·exact⟨⟨1,n+10,by omega,rfl,by go_num,Qa<|by omega⟩,Qa h⟩
   omega
  obtain rfl:j=1:=by omega
  obtain⟨q0,q1⟩:(3:Int)+(4+(n:Int)+3)=(m:Int)∧¬(262144:Int)<m:=by omega
  have y1:=HM.o;have x3:=Qa fun(W:WD)(hW:Qb [] (y.alloc<|.cells #[.string ⟨#[112,97,116,104]⟩,str v] 172) W)=>((h5.o.kept<|(Qc [] y).alloc _).kept hW).write (str<|ZY v) (by have:=Gi v;have:(str<|ZY v).size=(ZY v).length:=rfl;have:v.length=n:=y2;simp only[Yg];omega);rw[show n+10=m by omega]at HP;clear x1 y1;go_wp2_with (go_at_call 156;refine(HD.o _ h).mono ?_;rintro e w4⟨rfl,h8⟩;replace h:=h.trans h8<|by simp);have A1:=(Qy y [.string ⟨#[112,97,116,104]⟩,str v] 172).kept h (by simp);have e0:=A1.cell (i:=0) (u:=.string ⟨#[112,97,116,104]⟩) rfl;have e1:=A1.cell (i:=1) (u:=.string<|str v) rfl;clear A1 h8 d0 d1 c0 c1
  go_region_with (first
   |(go_at_call 156;refine(HD.o _<|by first|exact h|exact h.drew).mono ?_;rintro e w5⟨rfl,h4⟩;first|replace h:=h.trans h4 (by simp)|replace h:=h.drew.trans h4 (by simp)
     replace e0:=h4.cZ e0 (by simp);replace e1:=h4.cZ e1 (by simp);clear h4)
   |(go_at_call 58;rw[HP.o];refine(x3.o _<|by first|exact h|exact h.drew).mono ?_;rintro e w6⟨rfl,x8⟩))
  all_goals
   go_wp2
   go_roundg 0
   ·exact⟨.inr ⟨rfl,rfl,by have:=HM.o;congr 1;omega⟩,Qa<|by rwa[Qf<|by decide]⟩
   omega
 have HS:=Qa (show Ye o o.heap.size (ZY v) wr by have:=HB.o;rwa[Qf<|by omega]at this).str;clear HB;go_wp2_with (go_at_call 60;refine HS.o.mono ?_;rintro e w2⟨rfl,h9⟩);go_ret2;exact⟨rfl,q.o.trans h9<|by simp⟩
section
open Go.Sort Go.Shelf
structure Vt(w:WD)(a d:Nat)(nv pv mv:VL)(s:Vst):Prop where
 arr:Qe w a 76 [.pointer d,s.gen,s.next,mv,.bool false]
 dk:Dk w d nv pv s.dev
 mem:Qn w 69 5 mv s.mem.length (Qx Zi s.mem)
 apart:a∉Q7 d nv pv∧a∉Qd mv∧Qq (Qd mv) (Q7 d nv pv)
def Vt.kZ{w w' a d c e mv s}(b:Vt w a d c e mv s)(hk:Qb [] w w'):Vt w' a d c e mv s:=
 ⟨b.arr.kept hk<|by simp,b.dk.kZ hk,b.mem.kept hk<|ZM _,b.apart⟩
section
variable {a d:Nat} {nv pv mv:VL} {s:Vst} {w:WD}
def Pn(b:Vt w a d nv pv mv s)(hs:s.dev.Ok):Calls prog 76 #[.pointer a] w fun e w'=>e=.returned (0:Int)∧w'=w:=by have c:=Qa<|MP b.dk hs;have c0:=b.arr.cell (i:=0) (u:=.pointer d) rfl;have:=b.arr.cell (i:=4) (u:=.bool false) rfl;go_enter func76,ntmps76;go_wp2_with (go_at_call 33;refine c.o.mono ?_;rintro e b⟨rfl,rfl⟩);go_ret;exact⟨rfl,rfl⟩
def Do(b:Vt w a d nv pv mv s)(e:s.mem.length≤1000):Calls prog 10 #[.pointer a] w (Fh s.mem w):=by have c:=Qa (tI mv s.mem w b.mem.memA<|by omega);have c3:=b.arr.cell (i:=3) (u:=mv) rfl;go_enter func10,ntmps10;go_wp2_with (go_at_call 32;refine c.o.mono ?_;rintro f g⟨e,rfl,b⟩);go_ret;exact⟨e,rfl,b⟩
def Qis(b:Vt w a d nv pv mv s)(hs:s.dev.Ok):Calls prog 56 #[.pointer a] w fun e w'=>e=.returned s.dev.cap∧w'=w:=by have c:=Qa<|Cg b.dk hs;have c0:=b.arr.cell (i:=0) (u:=.pointer d) rfl;go_enter func56,ntmps56;go_wp2_with (go_at_call 14;refine c.o.mono ?_;rintro e b⟨rfl,rfl⟩);go_ret;exact⟨rfl,rfl⟩
def MY(h:Vt w a d nv pv mv s)(hl:s.mem.length≤1000):Calls prog 77 #[.pointer a] w (DH s.exts w):=by
 obtain⟨a1,c1,rfl,x1,y0⟩:=h.mem.memA;have d3:=h.arr.cell (i:=3) (u:=.slice a1 s.mem.length c1) rfl;have x0:=Qa x1;have⟨l,h5⟩:=qx s.mem;have HX:=Qa (by rw[←h5];rfl:s.exts=l.map fun m=>(m.start,m.eZ));rw[h5]at x0 d3 hl;have⟨n,h8⟩:=qx l.length;rw[h8]at d3 hl;have HN:=Qa h8;have HE:∀v w',Qn w' 109 2 v n (Qx Q4<|l.map fun m=>(m.start,m.eZ))→Qb [] w w'→(∀x∈Qd v,w.heap.size≤x)→DH s.exts w (.returned v) w':=fun v w' h1 h2 h3=>
  ⟨v,rfl,by rwa[HX.o,QH,HN.o],h2,h3⟩
 have x6:=Qa HE;go_enter func77,ntmps77
 go_wp2
 go_loopg [3,5,11] n (fun k x3 x5 y2 wr=>(∃(i:Nat)(v5:VL),i≤n∧k=n-i∧v5=x3∧y2=.int .i64 (i:Nat)∧Hid (Qn wr 109 2 v5 i<|Qx Q4<|(l.take i).map fun m=>(m.start,m.eZ))∧Hid (∀x∈Qd v5,w.heap.size≤x))∧Hid (Qb [] w wr))
 ·exact⟨⟨0,_,by omega,by omega,rfl,rfl,Qa<|Qn.nil _ _ _,Qa<|by simp[Qd,qo]⟩,Qa<|Qc _ _⟩
 obtain⟨⟨i,v5,hi,hk,rfl,rfl,h9,h4⟩,o⟩:=hrel
 by_cases hlt:i<n
 ·have q0:(i:Int)<n:=by omega
  have⟨m,hm⟩:=qy l i (by have:=HN.o;omega);have x2:=x0.o.kZ o.o;obtain⟨g,off,rfl,c0,e1,e2,e3,e4⟩:=VT x2 hm;have x4:(l.take<|i+1).map (fun m=>(m.start,m.eZ))=(l.take i).map (fun m=>(m.start,m.eZ))++[(m.start,m.eZ)]:=by rw[Zt,hm];simp
  have x7:=Qa x4;have L1:i+1≤maxLen:=by simp only[maxLen];omega
  have L2:(i+1)*16≤140737488355328:=by omega
  go_wp2_with (at_builtin;(refine RO (wr.alloc<|.cells #[.string<|str m.path,.int .i64 m.start,.int .i64 m.eZ,.int .i64 m.size,.int .u32 m.sum] 69) rfl _ _ 106 rfl 109 (.agg #[(0:Int),(0:Int)]) 2 16 R9 Bt rfl (by decide) v5 i _ (Q4 (m.start,m.eZ)) rfl (by rw[Vo];rfl) rfl rfl (Ep _) (World.ownsRow.alloc h9.o _) L1 L2 ?_;intro g5 c5 w5 y1 x9 x8))
  go_roundg (n-(i+1))
  case measure=>omega
  refine⟨⟨i+1,_,by omega,rfl,rfl,by go_num,Qa ?_,Qa ?_⟩,Qa ?_⟩
  ·rw[x7.o];have e:∀X:List QN,Qx Q4 (X++[(m.start,m.eZ)])=Qx Q4 X++Q4 (m.start,m.eZ):=fun X=>by simp[Qx]
   rwa[e]
  ·intro y q;simp[Qd,qo]at q;subst q;have:=o.o.size;rcases x8 with h|h
   ·exact h4.o _ h
   simp at h;omega
  exact(o.o.alloc _).trans x9 fun y q=>.inr<|h4.o y q
 obtain rfl:i=n:=by omega
 have q0:¬(i:Int)<i:=by omega
 go_wp2
 go_ret;refine x6.o _ _ ?_ o.o h4.o;have:=h9.o;rwa[Q8 (by rw[HN.o];exact Ql _)]at this
end
end
section
open Go.Sort Go.Shelf
abbrev QT(a d:Nat)(nv pv mv:VL):LN:=a::(Qd mv++Q7 d nv pv)
structure Zj(w:WD)(a d:Nat)(nv pv mv:VL)(s:Vst):Prop where
 vt:Vt w a d nv pv mv s
 env:JF w
 low:∀x∈QT a d nv pv mv,10≤x
def ZQ(w:WD)(a d:Nat)(c f mv:VL)(s:Vst)(w':WD):Prop:=∃e g b,Zj w' a d e g b s∧Qb (QT a d c f mv) w w'∧QP w.heap.size (QT a d c f mv) (QT a d e g b)
section
variable {a d:Nat} {nv pv mv:VL} {s s':Vst} {w w1:WD}
def Vt.lt(c:Vt w a d nv pv mv s):∀x∈QT a d nv pv mv,x<w.heap.size:=fun x b=>by
 simp only[QT,QE,Q6]at b;rcases b with rfl|b|b
 ·exact c.arr.lt
 ·exact c.mem.lt x b
 exact c.dk.lt x (by simpa[Q7]using b)
def Zj.kZ(b:Zj w a d nv pv mv s)(hk:Qb [] w w1):Zj w1 a d nv pv mv s:=⟨b.vt.kZ hk,b.env.kZ hk,b.low⟩
def Zj.refl(b:Zj w a d nv pv mv s):ZQ w a d nv pv mv s w:=⟨nv,pv,mv,b,Qc _ _,QP.refl _ _⟩
def Zj.post(b:Zj w a d nv pv mv s){nv' pv' mv'}(k:Vt w1 a d nv' pv' mv' s')(hk:Qb (QT a d nv pv mv) w w1)(e:QP w.heap.size (QT a d nv pv mv) (QT a d nv' pv' mv')):ZQ w a d nv pv mv s' w1:=
 ⟨nv',pv',mv',⟨k,b.env.kept hk b.low,fun f c=>by
  rcases e f c with c|c
  ·exact b.low f c
  have:=b.vt.lt a (by simp);have:=b.low a (by simp);omega⟩,hk,e⟩
def ZQ.trans{f}(h:ZQ w a d nv pv mv s' w1){g}(j:∀c e b,Zj w1 a d c e b s'→ZQ w1 a d c e b f g):ZQ w a d nv pv mv f g:=by obtain⟨c,e,b,i,f,g⟩:=h;obtain⟨l,m,k,g1,h,g3⟩:=j c e b i;exact⟨l,m,k,g1,f.trans h fun c b=>g c b,g.trans g3 f.size⟩
def Vt.dev(b:Vt w a d nv pv mv s){c}(hp:Q9 w d nv pv c w1):∃nv' pv',Vt w1 a d nv' pv' mv {s with dev:=c}∧Qb (Q7 d nv pv) w w1∧QP w.heap.size (Q7 d nv pv) (Q7 d nv' pv'):=by
 obtain⟨nv',pv',i,c,e⟩:=hp;obtain⟨f,h,g⟩:=b.apart;refine⟨nv',pv',⟨b.arr.kept c f,i,b.mem.kept c g,fun i=>?_,h,g.grow b.mem.lt e⟩,c,e⟩;rcases e a i with c|c
 ·exact f c
 have:=b.arr.lt;omega
def Vt.turned{mv'}(c:Vt w a d nv pv mv s)(hk:Qb [a] w w1)(ha:Qe w1 a 76 [.pointer d,s'.gen,s'.next,mv',.bool false])(b:Qn w 69 5 mv' s'.mem.length (Qx Zi s'.mem))(f:a∉Qd mv')(g:Qq (Qd mv') (Q7 d nv pv))(e:s'.dev=s.dev):Vt w1 a d nv pv mv' s':=
 ⟨ha,e▸c.dk.kept hk (fun h e b=>by rw[Za]at b;subst b;exact c.apart.1 e),b.kept hk (fun h e b=>by rw[Za]at b;subst b;exact f e),c.apart.1,f,g⟩
def Nc{n nv' pv'}(c:QP n (Q7 d nv pv) (Q7 d nv' pv')):QP n (QT a d nv pv mv) (QT a d nv' pv' mv):=fun e b=>by
 simp only[QT,QE,Q6]at b ⊢;rcases b with b|b|b
 ·exact .inl<|.inl b
 ·exact .inl<|.inr<|.inl b
 rcases c e (by simpa[Q7]using b)with b|b
 ·exact .inl (.inr<|.inr<|by simpa[Q7]using b)
 exact .inr b
def Q9.cell{b k u}(c:Q9 w d nv pv b w1)(e:w.cell? ⟨a,k,none⟩=some u)(f:a∉Q7 d nv pv):w1.cell? ⟨a,k,none⟩=some u:=by obtain⟨_,_,_,b,_⟩:=c;exact b.cZ e f
def Vok.rm{c}(b:Vok s c):∀m∈s.mem,RZ m:=fun m d=>by have a:=b.mems m d;have e:=b.inX d;have:=b.dev.c2;have b:=Np<|c m.path;have:=a.big;have h6:=a.size;have h7:=a.sum;obtain⟨d,q2,f⟩:=e;unfold Zf at b;exact {ok:=a.ok,st:=⟨d,q2,by omega⟩,sz:=⟨by omega,by omega⟩,sm:=⟨by omega,by omega⟩}
def fC{cap l}(a:ZX cap l=true)(b:cap≤4096):ZX 4096 l=true:=by rw[YD]at a ⊢;exact⟨fun c b=>⟨(a.1 c b).1,(a.1 c b).2.1,by have:=(a.1 c b).2.2;omega⟩,a.2⟩
def OE{c}(b:Zj w a d nv pv mv s)(f:Vok s c)(n:Nat)(g:n≤20)(p:s.dev.lZ+6≤1000000000):
 Calls prog 50 #[.pointer a,n] w fun e w'=>e=.returned (0:Int)∧ZQ w a d nv pv mv (s.room n) w':=by
 have h:=f.next;have l:=f.gen
 by_cases hf:n+s.next≤20
 ·have j:s.room n=s:=by unfold Vst.room;rw[Qg hf]
  rw[j];have g:=Qa b.refl;have c2:=b.vt.arr.cell (i:=2) (u:=.int .i64 s.next) rfl;have g1:(n:Int)≤20-(s.next:Int):=by omega
  clear b f j;go_enter func50,ntmps50
  go_wp2
  go_ret;exact⟨rfl,g.o⟩
 have j:s.room n=s.save:=by unfold Vst.room;rw[Qf hf]
 rw[j];have g:=f.ext;have q:=fC g (by have:=f.dev.c2;omega);have⟨o,k,m⟩:=qc (fun m (k:Qb [] w m)=>Ww mv s.mem (s.gen+1) d nv pv s.dev m (b.vt.dk.kZ k) f.dev (b.vt.mem.memA.kZ k) (b.env.kZ k).1 (by omega) f.rm f.rise f.few g q (by have:=f.pZ;omega) p) b.vt.apart.1 b;have g1:¬(n:Int)≤20-(s.next:Int):=by omega
 have c0:=b.vt.arr.cell (i:=0) (u:=.pointer d) rfl;have c1:=b.vt.arr.cell (i:=1) (u:=.int .i64 s.gen) rfl;have c2:=b.vt.arr.cell (i:=2) (u:=.int .i64 s.next) rfl;have c3:=b.vt.arr.cell (i:=3) (u:=mv) rfl;have p:IntKind.i64.wrap ((s.gen:Int)+1)=((s.gen+1:Nat):Int):=by rw[Q3 _<|by omega];push_cast;rfl
 have r:=Qa p;clear b f j g q p;go_enter func50,ntmps50;rw[←r.o]at o;go_wp2_with fail
 go_region_held3 (fun w'=>w'.cell? a=some (.pointer d)∧w'.cell? ⟨a,1,none⟩=some (.int .i64 s.gen)∧w'.cell? ⟨a,3,none⟩=some mv) (first|exact⟨c0,c1,c3⟩|exact⟨b,f,j⟩|go_keep)
  ((go_at_call 38;refine(o.o _ (Qc [] w).drew).mono ?_;rintro e p⟨rfl,hp⟩;have:=Qa hp;have b:=hp.cell c0 k.o;have f:=hp.cell c1 k.o;have j:=hp.cell c3 k.o))
 obtain⟨j,k,h,l,f⟩:=(m.o.vt.kZ (Qc [] w).drew).dev hp;have:=h.arr.free 1;have:=h.arr.free 2;have:=h.arr.cell (i:=2) (u:=.int .i64 s.next) rfl;have⟨b,o,g⟩:=qc h (show Qb (QT a d nv pv mv) w p from(Qb.trans (Qc (Q7 d nv pv) w).drew l fun q g=>.inl g).mono (fun q g=>by simp only[QT,QE,Q6];exact .inr<|.inr<|by simpa[Q7]using g))<|show QP w.heap.size (QT a d nv pv mv) (QT a d j k mv)from Nc f;clear h l f hp
 go_wp2
 go_ret;refine⟨rfl,m.o.post (nv':=j) (pv':=k) (mv':=mv) ?_ ((o.o.setCell (.inl<|by simp) _).setCell (.inl<|by simp) _) g.o⟩;refine b.o.turned ((Qc [a] p).setCell (.inl<|by simp) _|>.setCell (.inl<|by simp) _) ((b.o.arr.set 1 _).set 2 _) b.o.mem b.o.apart.2.1 b.o.apart.2.2 rfl
def MJ{g off cc ns}(f:Zj w a d nv pv mv s)(hs:s.dev.Ok)(l:Qp w 6 (some ⟨g,off,none⟩) ns.length (Qx Xj ns))(t:g∉QT a d nv pv mv)(q:s.gen≤4611686018427387904)(v:∀n∈ns,Hc n)(r:∀n∈ns,Y9 n.2)(k:1≤ns.length)(b:s.next+ns.length+1≤20)(x:U5 s.mem)(h:∀m∈s.mem,RZ m)(hf:s.mem.length≤16)(p:30≤s.dev.cap)(o:s.dev.lZ+30≤1000000000):
 Calls prog 51 #[.pointer a,.slice (some ⟨g,off,none⟩) ns.length cc] w fun e w'=>e=.returned (0:Int)∧ZQ w a d nv pv mv (s.commit ns) w':=by
 have⟨y,C,j,c,A,B⟩:=qf (fun c (j:Qb [] w c)=>Qiw g off cc ns s.gen s.next d nv pv s.dev c (f.vt.dk.kZ j) hs (l.kZ j) q v k (by omega) p o) (fun c (j:Uf c mv s.mem)(hNN:LK c (.slice (some ⟨g,off,none⟩) ns.length cc) ns)(hB:YN c)=>lH mv _ s.mem ns c j hNN hB (by omega) (by omega) x (fun m c=>(h m c).ms) r) f f.vt.apart.1 (show g∉Q7 d nv pv from fun hh=>t (by simp only[QT,QE,Q6];exact .inr<|.inr<|by simpa[Q7]using hh)) l;have c0:=f.vt.arr.cell (i:=0) (u:=.pointer d) rfl;have c1:=f.vt.arr.cell (i:=1) (u:=.int .i64 s.gen) rfl;have c2:=f.vt.arr.cell (i:=2) (u:=.int .i64 s.next) rfl;go_enter func51,ntmps51;go_wp2_with fail
 go_region_held3 (fun w'=>w'.cell? a=some (.pointer d)∧w'.cell? ⟨a,1,none⟩=some (.int .i64 s.gen)∧w'.cell? ⟨a,2,none⟩=some (.int .i64 s.next)) (first|exact⟨c0,c1,c2⟩|exact⟨f,o,p⟩|go_keep)
  ((go_at_call 88;refine(y.o _ (Qc [] w).drew).mono ?_;rintro e l⟨rfl,hp⟩;have:=Qa hp;have f:=hp.cell c0 c.o;have o:=hp.cell c1 c.o;have p:=hp.cell c2 c.o))
 obtain⟨v,x,g1,o,g3⟩:=(j.o.vt.kZ (Qc [] w).drew).dev hp;have:=g1.arr.free 2;have:=g1.arr.free 3;have:=g1.arr.cell (i:=3) (u:=mv) rfl;have r:=Qa g1;have f:Qb (Q7 d nv pv) w l:=Qb.trans (Qc (Q7 d nv pv) w).drew o fun c b=>.inl b;have⟨q,z⟩:=qb (show Qb (QT a d nv pv mv) w l from f.mono (fun c b=>by simp only[QT,QE,Q6];exact .inr<|.inr<|by simpa[Q7]using b))<|show QP w.heap.size (QT a d nv pv mv) (QT a d v x mv)from Nc g3;have p:=g1.mem.memA;have D:=Qa<|C.o l p ⟨_,_,rfl,B.o.kept f (by intro c b;have b:c=g:=(by simpa[fZ]using b);subst b;exact A.o)⟩ (j.o.env.kept f fun c b=>j.o.low c (by simp only[QT,QE,Q6];exact .inr<|.inr<|by simpa[Q7]using b)).1;go_wp2_with (go_at_call 36;refine D.o.mono ?_;rintro e C⟨I,rfl,p,o,t⟩;obtain⟨a2,c2,rfl,-,-⟩:=p.memA;have B:=Qa p;have A:=Qa o;have y:=Qa t;have f:=Qa<|r.o.kZ o;have:=f.o.arr.free 2;have:=f.o.arr.cell (i:=2) (u:=.int .i64 s.next) rfl;have:=f.o.arr.cell (i:=3) (u:=mv) rfl;have:=f.o.arr.free 3);go_ret;have hlt:=r.o.lt;have o:∀c∈Qd (Value.slice a2 (Zn s.mem ns).length c2),l.heap.size≤c:=y.o;refine⟨rfl,j.o.post (nv':=v) (pv':=x) (mv':=.slice a2 (Zn s.mem ns).length c2) ?_ (((q.o.trans A.o<|by simp).setCell (.inl<|by simp) _).setCell (.inl<|by simp) _) ?_⟩
 ·refine f.o.turned (s':={s.commit ns with dev:=(s.dev.wr (10+s.next)<|RJ s.gen s.next ns).tick 1}) ((Qc [a] C).setCell (.inl<|by simp) _|>.setCell (.inl<|by simp) _) ((f.o.arr.set 2 _).set 3 _) B.o ?_ ?_ rfl
  ·intro h;have k:=o a h;have f:=hlt a (by simp);omega
  intro c b h;have k:=o c b;have f:=hlt c (by simp only[QT,QE,Q6];exact .inr<|.inr<|by simpa[Q7]using h);omega
 intro c b;simp only[QT,QE,Q6]at b;rcases b with rfl|b|b
 ·exact .inl (by simp)
 ·exact .inr<|QS q.o.size<|o c b
 exact z.o c (by simp only[QT,QE,Q6];exact .inr<|.inr<|by simpa[Q7]using b)
end
end
section
open Go.Sort Go.Shelf
def Qbo(p m)(b:Nat)(w)(hb:w.cell? b=some (.string<|str p)):Calls prog 87 #[.agg (Zi m).toArray,.pointer b] w fun e w'=>e=.returned (.bool<|m.path==p)∧Qb [] w w':=by
 have hlt:=JN w _ hb;have c0:(w.alloc<|.cells #[str m.path,m.start,m.eZ,m.size,.int .u32 m.sum] 69).cell? b=some (.string<|str p):=((Qc [] w).alloc _).cZ hb (by simp);have a:=Qa fun c=>(Qc [] w).alloc c;unfold Zi;go_enter func87,ntmps87
 go_wp2
 go_ret;refine⟨?_,a.o _⟩;show Ending.returned (.bool<|(str m.path).toList==(str p).toList)=_;rw[X6,X6];rfl
def Li(l:List RM)(p:LU)(r:Int):Prop:=(∃(b:Nat)(a:RM),l[b]?=some a∧l.find? (fun a=>a.path==p)=some a∧r=(b:Int))∨(l.find? (fun a=>a.path==p)=none∧r= -1)
def zJ(v l p b w)(h:Uf w v l)(hb:w.cell? ⟨b,0,none⟩=some (.string<|str p))(hl:l.length≤1000):
 Calls prog 86 #[v,.func (.func 87) #[] #[.pointer b]] w fun e w'=>(∃r,e=.returned (.int .i64 r)∧Li l p r)∧Qb [] w w':=by
 obtain⟨a,c,rfl,hs,hn⟩:=h;have⟨HS,HB⟩:=qb hs hb;have⟨n,h3⟩:=qx l.length;rw[h3]at HS hl ⊢;have HN:=Qa h3;go_enter func86,ntmps86
 go_wp2
 go_loopg [8] n (fun k x8 wr=>(∃i:Nat,i≤n∧k=n-i∧x8=.int .i64 (i:Nat)∧Hid (∀x∈l.take i,(x.path==p)=false))∧Hid (Qb [] w wr))
 ·exact⟨⟨0,by omega,by omega,rfl,Qa<|by simp⟩,Qa<|Qc _ _⟩
 obtain⟨⟨i,hi,hk,rfl,HA⟩,o⟩:=hrel
 by_cases hlt:i<n
 ·have q0:(i:Int)<n:=by omega
  have⟨m,hm⟩:=qy l i (by have:=HN.o;omega);obtain⟨g,off,rfl,c0,e1,e2,e3,e4⟩:=VT (HS.o.kZ o.o) hm;have HM:=Qa hm;have y:=Qbo p m b wr (o.o.cZ HB.o<|by simp);unfold Zi at y;have⟨q,hq⟩:=qx<|(m.path==p);rw[hq]at y;have⟨HQ,HC⟩:=qb hq y;cases q with
  |true=>
   go_wp2_with ((refine HC.o.mono ?_;rintro e w1⟨rfl,h2⟩));go_ret;refine⟨⟨_,rfl,.inl ⟨i,m,HM.o,?_,rfl⟩⟩,o.o.trans h2<|by simp⟩;have e:l=l.take i++m::l.drop (i+1):=(by have:=(Qz.1 HM.o);rw[←this.2,List.getElem_cons_drop,V6]);rw[e,List.find?_append,GN.2 (by intro x hx;simp[HA.o x hx]),Option.none_or,List.find?_cons,HQ.o]
  |false=>
   go_wp2_with ((refine HC.o.mono ?_;rintro e w1⟨rfl,h2⟩))
   go_roundg (n-(i+1))
   ·refine⟨⟨i+1,by omega,rfl,by go_num,Qa ?_⟩,Qa<|o.o.trans h2<|by simp⟩;rw[Zt,HM.o];intro x hx;rcases Q6.1 hx with h1|h1
    ·exact HA.o x h1
    obtain rfl:x=m:=(by simpa using h1);exact HQ.o
   omega
 obtain rfl:i=n:=by omega
 have q0:¬(i:Int)<i:=by omega
 go_wp2
 go_ret;refine⟨⟨_,rfl,.inr ⟨?_,rfl⟩⟩,o.o⟩;rw[GN];intro x hx;have:=HA.o x (by rwa[Q8 (by rw[HN.o];exact Ql _)]);simp[this]
def Oz{fn:Func}{p u:Tmp}(c:fn.results=#[.cell p 69,.tmp u])(tmps w){b v0 a v2 v3 v4}(A:Qe w b 69 [v0,a,v2,v3,v4])(hp:tmps.getD p undef=.pointer b):
 (results fn tmps).run prog w=.ok (.tuple #[.agg #[v0,a,v2,v3,v4],tmps.getD u undef]) w:=by
 rw[results_cell_tmp c,hp];simp only[asAddr,Sem.run_pure,UF];rw[run_loadVar_row w b 69 69 _ _ _ A underlying69 rfl<|by kernel_rfl];rfl
def OM{w w1 b l}(A:Qe w1 b 69 l)(hk:Qb [] w w1)(hb:w.heap.size≤b)(v0 a v2 v3 v4):
 Qb [] w (((((w1.setCell ⟨b,0,none⟩ v0).setCell ⟨b,1,none⟩ a).setCell ⟨b,2,none⟩ v2).setCell ⟨b,3,none⟩ v3).setCell ⟨b,4,none⟩ v4)∧
 Qe (((((w1.setCell ⟨b,0,none⟩ v0).setCell ⟨b,1,none⟩ a).setCell ⟨b,2,none⟩ v2).setCell ⟨b,3,none⟩ v3).setCell ⟨b,4,none⟩ v4) b 69 (((((l.set 0 v0).set 1 a).set 2 v2).set 3 v3).set 4 v4):=
 ⟨((((hk.setCell (.inr hb) _).setCell (.inr hb) _).setCell (.inr hb) _).setCell (.inr hb) _).setCell (.inr hb) _,((((A.set 0 v0).set 1 a).set 2 v2).set 3 v3).set 4 v4⟩
def NP{a d nv pv mv s w}(h:Zj w a d nv pv mv s)(hs:s.dev.Ok)(hl:s.mem.length≤1000)(p)(hp:p.length≤1000000):
 Calls prog 49 #[.pointer a,str p] w fun e w'=>e=.returned (.tuple #[.agg (Zi (s.find p).2).toArray,.int .i64 (s.find p).1])∧Qb [] w w':=by
 have⟨y1,h9⟩:=qb (fun W (hW:Qb [] w W)=>Pn (h.vt.kZ hW) hs) fun W=>FE (str p) W hp;rw[Jz]at h9;have⟨y6,x9,z8⟩:=qc (fun b W (hW:Qb [] w W) hb=>zJ mv s.mem p b W (h.vt.mem.memA.kZ hW) hb hl) (fun W (hW:Qb [] w W)=>(h.vt.kZ hW).arr.cell (i:=3) (u:=mv) rfl) fun W (hW:Qb [] w W)=>h.vt.mem.memA.kZ hW;have y7:Qb [] w (w.alloc<|.cells #[str p] 9):=(Qc [] w).alloc _;have y4:=y7.alloc<|.cells #[.string ⟨#[]⟩,(0:Int),(0:Int),(0:Int),.int .u32 0] 69;have q0:=x9.o _ y4;have⟨h8,y5⟩:=qb y4<|show((w.alloc<|.cells #[str p] 9).alloc<|.cells #[.string ⟨#[]⟩,(0:Int),(0:Int),(0:Int),.int .u32 0] 69).cell? w=some (.string<|str p)from((Qc [] _).alloc _).cZ ((Qy w [str p] 9).cell (i:=0) rfl) (by simp);obtain⟨am,cm,rfl,y8,-⟩:=h.vt.mem.memA;have z6:=Qa y8;have⟨b4,z7⟩:=qx<|w.heap.size+1;have hA:Qe ((w.alloc<|.cells #[str p] 9).alloc<|.cells #[.string ⟨#[]⟩,(0:Int),(0:Int),(0:Int),.int .u32 0] 69) b4 69 [.string ⟨#[]⟩,(0:Int),(0:Int),(0:Int),.int .u32 0]:=by have:=Qy (w.alloc<|.cells #[str p] 9) [.string ⟨#[]⟩,(0:Int),(0:Int),(0:Int),.int .u32 0] 69;rwa[Vo,z7]at this
 have⟨HA,y3⟩:=qb hA (show w.heap.size≤b4 from by omega);cases hok:Yp p with
 |false=>
  have e1:Un p=140:=by simp[Un,hok]
  have e2:s.find p=(140,⟨[],0,0,0,0⟩):=by simp[Vst.find,hok]
  rw[e2];rw[e1]at h9;go_enter func49,SJ;go_wp2_with (first
   |(go_at_call 76;with_reducible refine(y1.o _ h8.o).mono ?_;rintro e w1⟨rfl,rfl⟩)
   |(go_at_call 17;with_reducible refine(h9.o _).mono ?_;rintro e w1⟨rfl,y⟩
     have o:=HA.o.kept y (by simp);have a0:=o.cell (i:=0) rfl;have a1:=o.cell (i:=1) rfl;have a2:=o.cell (i:=2) rfl;have a3:=o.cell (i:=3) rfl;have a4:=o.cell (i:=4) rfl;have x0:=o.free 0;have x1:=o.free 1;have x2:=o.free 2;have x3:=o.free 3;have x4:=o.free 4;have y9:=Qa y))
  obtain⟨x7,x5⟩:=OM o (h8.o.trans y9.o<|by simp) y3.o (.string ⟨#[]⟩) (0:Int) (0:Int) (0:Int)<|.int .u32 0;refine Q5 (Oz rfl _ _ x5 rfl) rfl ⟨rfl,x7⟩
 |true=>
  have e1:Un p=0:=by simp[Un,hok]
  rw[e1]at h9;cases hfd:s.mem.find? (fun m=>m.path==p)with
  |none=>
   have e2:s.find p=(240,⟨[],0,0,0,0⟩):=(by simp[Vst.find,hok,hfd]);rw[e2];have y0:=Qa hfd;go_enter func49,SJ;go_wp2_with (first
   |(go_at_call 76;with_reducible refine(y1.o _ h8.o).mono ?_;rintro e w1⟨rfl,rfl⟩)
   |(go_at_call 17;with_reducible refine(h9.o _).mono ?_;rintro e w1⟨rfl,y⟩
     have x8:=h8.o.trans y (by simp);have z3:=x9.o _ x8;have h4:=Qa x8;have y2:=Qa (y.cZ y5.o<|by simp))
   |(go_at_call 86;with_reducible refine(y6.o _ _ h4.o y2.o).mono ?_;rintro e w2⟨⟨r,rfl,hr⟩,h5⟩;obtain rfl:r= -1:=(by unfold Li at hr;rcases hr with⟨i,m,h1,q,h3⟩|⟨-,h3⟩;(·rw[y0.o]at q;cases q);exact h3)
     have o:=(HA.o.kept y<|by simp).kept h5 (by simp);have a0:=o.cell (i:=0) rfl;have a1:=o.cell (i:=1) rfl;have a2:=o.cell (i:=2) rfl;have a3:=o.cell (i:=3) rfl;have a4:=o.cell (i:=4) rfl;have x0:=o.free 0;have x1:=o.free 1;have x2:=o.free 2;have x3:=o.free 3;have x4:=o.free 4;have x6:=h4.o.trans h5 (by simp);have z1:=Qa x6))
   obtain⟨x7,x5⟩:=OM o x6 y3.o (.string ⟨#[]⟩) (0:Int) (0:Int) (0:Int)<|.int .u32 0;refine Q5 (Oz rfl _ _ x5 rfl) rfl ⟨rfl,x7⟩
  |some m=>
   have e2:s.find p=(0,m):=(by simp[Vst.find,hok,hfd]);rw[e2];have y0:=Qa hfd;unfold Zi;go_enter func49,SJ;go_wp2_with (first
   |(go_at_call 76;with_reducible refine(y1.o _ h8.o).mono ?_;rintro e w1⟨rfl,rfl⟩)
   |(go_at_call 17;with_reducible refine(h9.o _).mono ?_;rintro e w1⟨rfl,y⟩
     have x8:=h8.o.trans y (by simp);have z3:=x9.o _ x8;have h4:=Qa x8;have y2:=Qa (y.cZ y5.o<|by simp))
   |(go_at_call 86;with_reducible refine(y6.o _ _ h4.o y2.o).mono ?_;rintro e w2⟨⟨r,rfl,hr⟩,h5⟩;obtain⟨i,hi,rfl⟩:∃i:Nat,s.mem[i]?=some m∧r=(i:Int):=(by unfold Li at hr;rcases hr with⟨i,m',h1,q,h3⟩|⟨q,-⟩;(·rw[y0.o]at q;injection q with q;subst q;exact⟨i,h1,h3⟩);rw[y0.o]at q;cases q)
     have z3:=x9.o _ (h4.o.trans h5<|by simp);have p0:¬(i:Int)<0:=(by omega);have p1:i<s.mem.length:=(Qz.1 hi).1;obtain⟨gm,om,rfl,m0,m1,m2,m3,m4⟩:=VT (z6.o.kZ<|h4.o.trans h5<|by simp) hi;have o:=(HA.o.kept y<|by simp).kept h5 (by simp);have a0:=o.cell (i:=0) rfl;have a1:=o.cell (i:=1) rfl;have a2:=o.cell (i:=2) rfl;have a3:=o.cell (i:=3) rfl;have a4:=o.cell (i:=4) rfl;have x0:=o.free 0;have x1:=o.free 1;have x2:=o.free 2;have x3:=o.free 3;have x4:=o.free 4;have x6:=h4.o.trans h5 (by simp);have z1:=Qa x6))
   obtain⟨x7,x5⟩:=OM o x6 y3.o (.string<|str m.path) (.int .i64 m.start) (.int .i64 m.eZ) (.int .i64 m.size)<|.int .u32 m.sum;refine Q5 (Oz rfl _ _ x5 rfl) rfl ⟨rfl,x7⟩
end
section
open Go.Sort Go.Shelf
def vL(v l w)(h:RS w v l)(hl:l.length≤1000)(hk:ZX 4096 l=true):
 Calls prog 82 #[v] w fun e w'=>e=.returned (.int .i64<|l.foldl (fun e x=>max e<|x.1+x.2) 30)∧Qb [] w w':=by
 have hc:=KK v l 4096 w h (by omega) (by decide) (by decide);rw[hk]at hc;have⟨HC,x4⟩:=qb hc (show ∀x∈l,0≤x.1+x.2∧x.1+x.2≤4096 from fun x o=>by have:=((YD _ _).1 hk).1 x o;unfold K.inX at this;omega);obtain⟨a1,c1,rfl,h8,x9⟩:=h;have x8:=Qa h8;have⟨n,h2⟩:=qx l.length;rw[h2]at HC hl ⊢;have HN:=Qa h2;go_enter func82,ntmps82;go_wp2_with (go_at_call 72;refine HC.o.mono ?_;rintro e w1⟨rfl,h5⟩);have h3:=Qa h5
 go_loopg [3,5,12] n (fun k x3 x5 y0 wr=>(∃(i:Nat)(f:Int),i≤n∧k=n-i∧x3=.int .i64 f∧y0=.int .i64 (i:Nat)∧0≤f∧f≤4096∧Hid (l.foldl (fun e x=>max e<|x.1+x.2) 30=(l.drop i).foldl (fun e x=>max e<|x.1+x.2) f))∧Hid (Qb [] w1 wr))
 ·exact⟨⟨0,30,by omega,by omega,rfl,rfl,by omega,by omega,Qa rfl⟩,Qa<|Qc _ _⟩
 obtain⟨⟨i,f,hi,hk,rfl,rfl,y1,y2,HF⟩,h1⟩:=hrel
 by_cases hlt:i<n
 ·have q0:(i:Int)<n:=by omega
  have⟨x,o⟩:=qy l i (by have:=HN.o;omega);have h9:=(x8.o.kZ h3.o).kZ h1.o;obtain⟨g,off,rfl,c0,c1⟩:=MU h9 o;have x2:=x4.o x<|QA o;have h4:l.drop i=x::l.drop (i+1):=by
   have hl:=(Qz.1 o).1;rw[Z8 hl]
   congr 1
   exact(Qz.1 o).2
  have hf:=HF.o;rw[h4,BW]at hf;have x6:=Qa hf;obtain⟨q,y⟩:=x;simp only[]at c0 c1 x2;have v2:IntKind.i64.wrap (q+y)=q+y:=by rw[Zz];omega
  have HM:=Qa (by omega:0≤max f (q+y)∧max f (q+y)≤4096)
  go_wp2
  go_roundg (n-(i+1))
  ·exact⟨⟨i+1,max f<|q+y,by omega,rfl,rfl,by go_num,HM.o.1,HM.o.2,x6⟩,Qa<|h1.o.alloc _⟩
  omega
 obtain rfl:i=n:=by omega
 have q0:¬(i:Int)<i:=by omega
 have x7:=Qa (show l.foldl (fun e x=>max e<|x.1+x.2) 30=f by have:=HF.o;rwa[JI (by rw[HN.o];exact Ql _)]at this)
 go_wp2
 go_ret;exact⟨by rw[x7.o];rfl,h3.o.trans h1.o<|by simp⟩
end
section
open Go.Sort Go.Shelf
section
variable {a d:Nat} {nv pv mv:VL} {s:Vst} {w w1 w2:WD}
def ZQ.from(hk:Qb [] w w1)(b:ZQ w1 a d nv pv mv s w2):ZQ w a d nv pv mv s w2:=by
 obtain⟨h,i,g,c,e,f⟩:=b;refine⟨h,i,g,c,(hk.mono (T:=QT a d nv pv mv)<|by simp).trans e fun c b=>.inl b,fun c b=>?_⟩;rcases f c b with b|b
 ·exact .inl b
 exact .inr<|QS hk.size b
def ZQ.kept(b:ZQ w a d nv pv mv s w1)(hk:Qb [] w1 w2):ZQ w a d nv pv mv s w2:=by obtain⟨h,i,g,c,e,f⟩:=b;exact⟨h,i,g,c.kZ hk,e.trans hk<|by simp,f⟩
def ZQ.next{e f c}(hk:Qb (QT a d nv pv mv) w w1)(b:QP w.heap.size (QT a d nv pv mv) (QT a d e f c))(g:ZQ w1 a d e f c s w2):ZQ w a d nv pv mv s w2:=by obtain⟨f,h,e,g1,c,g3⟩:=g;exact⟨f,h,e,g1,hk.trans c fun e c=>b e c,b.trans g3 hk.size⟩
def Zj.note(b:Zj w a d nv pv mv s)(n):Zj (w.alloc<|.cells (Xj n).toArray 104) a d nv pv mv s∧Qp (w.alloc<|.cells (Xj n).toArray 104) 6 w.heap.size 1 (Qx Xj [n])∧w.heap.size∉QT a d nv pv mv:=
 ⟨b.kZ<|(Qc [] w).alloc _,by have:=(Qy w (Xj n) 104).sees (size:=6) (n:=1) rfl;rwa[show Qx Xj [n]=Xj n by simp[Qx]],fun c=>absurd (b.vt.lt _ c)<|DX _⟩
def Wz{c}(h:Zj w a d nv pv mv s)(g:Vok s c)(p)(hp:p.length≤1000000)(b:s.dev.lZ+100≤1000000000):
 Calls prog 28 #[.pointer a,str p] w fun e w'=>e=.returned (.int .i64 (s.del p).1)∧ZQ w a d nv pv mv (s.del p).2 w':=by
 have⟨b,r⟩:=qb (NP h g.dev (by have:=g.few;omega) p hp) h
 by_cases h0:(s.find p).1=0
 ·have e:s.del p=(0,(s.room 2).commit [(false,⟨p,0,0,0,0⟩)]):=by unfold Vst.del;rw[Qf<|by simp[h0]]
  have n:Yp p=true:=by
   unfold Vst.find at h0
   by_cases hh:Yp p=true
   ·exact hh
   simp[hh]at h0
  rw[e];rw[h0]at b;have t:=Qa (fun i (f:Qb [] w i)=>OE (h.kZ f) g 2 (by decide)<|by omega);have f:=g.room 2 (by omega);have u:=s.room_calls 2;have v:=Vst.room_next (s:=s) (n:=2) (by decide);have q:=Qa (fun l m k j i (o:Zj i a d l m k (s.room 2))(hS:Qp i 6 (some ⟨j,0,none⟩) 1 (Qx Xj [(false,(⟨p,0,0,0,0⟩:RM))]))(hg:j∉QT a d l m k)=>
   MJ (cc:=1) (ns:=[(false,⟨p,0,0,0,0⟩)]) o f.dev hS hg (by have:=f.gen;omega) (by intro j i;rw[Za]at i;subst i;exact .inr ⟨rfl,n,rfl⟩)
    (by intro j i;rw[Za]at i;subst i;exact⟨(YK n).2.2,Av 0,show(0:Int)≤4096 by decide⟩) (by simp) (by simp;omega) f.rise f.rm f.few (by have:=f.pZ;omega) (by omega))
  have⟨j,i⟩:=qx<|(s.find p).2;rw[i]at b;unfold Zi at b;go_enter func28,ntmps28;go_wp2_with (first
   |(go_at_call 49;refine b.o.mono ?_;rintro e z⟨rfl,f⟩)
   |(go_at_call 50;refine(t.o _<|f.alloc _).mono ?_;rintro e A⟨rfl,x⟩;obtain⟨l,m,k,o,v,u⟩:=x)
   |(go_at_call 51;have n:=o.note (false,⟨p,0,0,0,0⟩);refine(q.o l m k _ _ n.1 n.2.1 n.2.2).mono ?_;rintro e B⟨rfl,y⟩))
  go_ret;exact⟨rfl,.from (f.alloc _)<|.next (v.trans ((Qc [] A).alloc _)<|by simp) u y⟩
 have e:s.del p=((s.find p).1,s):=by unfold Vst.del;rw[Qg h0]
 rw[e];have⟨j,i⟩:=qx<|(s.find p).2;have⟨c1,j⟩:=qx<|(s.find p).1;rw[i]at b;rw[j]at b h0 ⊢;unfold Zi at b;have:(c1==0)=false:=Zb.2 h0;go_enter func28,ntmps28;go_wp2_with (first
  |(go_at_call 49;refine b.o.mono ?_;rintro e z⟨rfl,f⟩))
 go_ret;exact⟨rfl,r.o.refl.kept<|f.alloc _⟩
def Zj.dev(c:Zj w a d nv pv mv s){b}(hp:Q9 w d nv pv b w1):ZQ w a d nv pv mv {s with dev:=b} w1:=by obtain⟨b,b,b,e,f⟩:=c.vt.dev hp;exact c.post b (e.mono fun b b=>by simp only[QT,QE,Q6];exact .inr<|.inr<|by simpa[Q7]using b)<|Nc f
def vS(c:Zj w a d nv pv mv s):Calls prog 78 #[.pointer a,(0:Int)] w fun e w'=>e=.returned (0:Int)∧ZQ w a d nv pv mv s w':=by
 have b:=Qa c;have:=c.vt.arr.cell (i:=4) (u:=.bool false) rfl;have:=c.vt.arr.free 4;go_enter func78,ntmps78
 go_wp2
 go_ret;have hk:∀c:LN,a∈c→Qb c w (w.setCell ⟨a,4,none⟩<|.bool false):=fun c f=>(Qc c w).setCell (.inl f) _
 exact⟨rfl,b.o.post (b.o.vt.turned (hk _<|by simp) (b.o.vt.arr.set 4 _) b.o.vt.mem b.o.vt.apart.2.1 b.o.vt.apart.2.2 rfl) (hk _<|by simp)<|QP.refl _ _⟩
def kR{c}(h:Zj w a d nv pv mv s)(o:Vok s c)(hc:s.dev.lZ+100≤1000000000):
 Calls prog 43 #[.pointer a] w fun e w'=>e=.returned s.trim.1∧ZQ w a d nv pv mv s.trim.2 w':=by
 have⟨h8,x1⟩:=qb (Pn h.vt o.dev)<|MY h.vt (by have:=o.few;omega);have h5:=fC o.ext (by have:=o.dev.c2;omega);have⟨h1,x2,h9⟩:=qc (fun v W hA=>vL v s.exts W hA (by unfold Vst.exts;rw[QH];have:=o.few;omega) h5) (fun W (hW:Qb [] w W)=>Ey (h.vt.dk.kZ hW) o.dev) fun W (hW:Qb [] w W)=>(h.vt.kZ hW).arr.cell (i:=0) (u:=.pointer d) rfl;have⟨E,hE⟩:=qx<|Vst.endX s.exts;have y5:30≤E:=by rw[←hE];exact(Vst.endX_ge s.exts 30).1
 rw[show s.exts.foldl (fun e x=>max e<|x.1+x.2) 30=E from hE]at h1;have HH:=Qa h
 by_cases hf:(s.dev.img.length:Int)≤E
 ·have e:s.trim=(0,s):=by unfold Vst.trim;rw[hE,Qg hf]
  rw[e];go_enter func43,ntmps43;go_wp2_with (first
   |(go_at_call 76;with_reducible refine h8.o.mono ?_;rintro e w⟨rfl,rfl⟩)
   |(go_at_call 77;refine x1.o.mono ?_;rintro e w1⟨v1,rfl,h4,h2,-⟩)
   |(go_at_call 82;with_reducible refine(h1.o _ _ h4.exA).mono ?_;rintro e w2⟨rfl,h3⟩;have q:=h2.trans h3 (by simp);have c0:=h9.o _ q)
   |(go_at_call 24;with_reducible refine(x2.o _ q).mono ?_;rintro e w3⟨rfl,rfl⟩))
  go_ret;exact⟨rfl,HH.o.refl.kept q⟩
 have e:s.trim=(0,{s with dev:=(s.dev.cut E.toNat).tick 1}):=by unfold Vst.trim;rw[hE,Qf hf]
 rw[e];have g0:¬(s.dev.img.length:Int)≤E:=hf;have x0:=Qa (fun W (hW:Qb [] w W)=>uZ (h.vt.dk.kZ hW) o.dev E.toNat<|by omega);rw[Rs<|by omega]at x0;have x8:=Qa<|show(s.dev.cut E.toNat).Ok from⟨o.dev.c1,o.dev.c2,(by show(s.dev.img.take _).length≤_;rw[Zl];exact QS (Nat.min_le_right _ _) o.dev.len),fun y hy=>o.dev.sec y<|VE hy,(by show s.dev.lZ+1≤_;omega)⟩;go_enter func43,ntmps43;go_wp2_with (first
  |(go_at_call 76;with_reducible refine h8.o.mono ?_;rintro e w⟨rfl,rfl⟩)
  |(go_at_call 77;refine x1.o.mono ?_;rintro e w1⟨v1,rfl,h4,h2,-⟩)
  |(go_at_call 82;with_reducible refine(h1.o _ _ h4.exA).mono ?_;rintro e w2⟨rfl,h3⟩;have q:=h2.trans h3 (by simp);have c0:=h9.o _ q)
  |(go_at_call 24;with_reducible refine(x2.o _ q).mono ?_;rintro e w3⟨rfl,rfl⟩)
  |(go_at_call 83;refine(x0.o _ q).mono ?_;rintro e w4⟨rfl,x4⟩;have q4:=(HH.o.kZ q).dev x4))
 obtain⟨z6,p0,y8,hV,y2,y0⟩:=q4;have HV:=Qa hV;have d0:=hV.vt.arr.cell (i:=0) (u:=.pointer d) rfl;have x7:=Qa fun W (hW:Qb [] w4 W)=>kC (hV.vt.dk.kZ hW) x8.o
 go_region_held3 (fun w'=>w'.cell? a=some (.pointer d)) (first|exact d0|exact d5|exact d6|go_keep)
  (first
    |(go_at_call 75;refine(x7.o _ (Qc [] w4).drew).mono ?_;rintro e w5⟨rfl,y4⟩;obtain⟨z7,p1,y9,x3,y3,y1⟩:=(HV.o.kZ (Qc [] w4).drew).dev y4;have d5:=x3.vt.arr.cell (i:=0) (u:=.pointer d) rfl)
    |(go_at_call 78;refine(vS x3).mono ?_;rintro e w6⟨rfl,x5⟩;have x6:=Qa x5;obtain⟨z8,p2,z1,x9,y7,y6⟩:=x5;have d6:=x9.vt.arr.cell (i:=0) (u:=.pointer d) rfl))
 go_wp2
 go_ret;exact⟨rfl,.from q<|.next y2 y0<|.from (Qc [] w4).drew<|.next y3 y1 x6.o⟩
end
end
