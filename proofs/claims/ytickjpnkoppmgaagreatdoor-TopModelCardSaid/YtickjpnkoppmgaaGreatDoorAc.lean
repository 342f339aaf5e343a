import Derived.Test.YtickjpnkoppmgaaGreatDoorAa
set_option linter.all false
namespace Go.Proofs.YtickjpnkoppmgaaGreatDoor
open Go.Proofs.Tryz Go.RowKit K
structure Qb(S:LN)(w w':WD):Prop where
 os:w'.os=w.os
 tape:w'.tape=w.tape
 output:w'.output=w.output
 size:w.heap.size<=w'.heap.size
 block:∀k,k<w.heap.size->k∉S->w'.heap[k]?=w.heap[k]?
abbrev RK(v:VL)(w:WD)(e:Ending)(w':WD):Prop:=e=.returned v/\Qb [] w w'
def Qc(S:LN)(w:WD):Qb S w w:=⟨rfl,rfl,rfl,Qk _,fun _ _ _=>rfl⟩
def Qb.trans{S T a b c}(h:Qb S a b)(k:Qb T b c)(e:∀x∈T,x∈S\/a.heap.size<=x):Qb S a c:=
 ⟨k.os.trans h.os,k.tape.trans h.tape,k.output.trans h.output,QS h.size k.size,fun d hi g=>
  (k.block d (Av hi h.size) (fun i=>by rcases e d i with e|e;exact g e;omega)).trans (h.block d hi g)⟩
def Qb.mono{S T a b}(h:Qb S a b)(d:∀x∈S,x∈T):Qb T a b:=
 ⟨h.os,h.tape,h.output,h.size,fun c hi g=>h.block c hi fun e=>g<|d c e⟩
def Qb.drew{S a b}(h:Qb S a b):Qb S a b.drew:=⟨h.os,h.tape,h.output,h.size,h.block⟩
def Qb.drewN{S a b}(h:Qb S a b)(n):Qb S a (b.drewN n):=⟨h.os,h.tape,h.output,h.size,h.block⟩
def Qb.alloc{S a b}(h:Qb S a b)(c):Qb S a (b.alloc c):=
 h.trans (T:=[]) ⟨rfl,rfl,rfl,sx,fun k hk _=>Below.heap_alloc _ _ _ hk⟩ sx
def Qb.setCell{S a b}(h:Qb S a b){p}(hp:p.block∈S\/a.heap.size<=p.block)(u):Qb S a (b.setCell p u):=
 h.trans (T:=[p.block]) ⟨rfl,rfl,rfl,by simp[World.setCell],fun k hk c=>Below.heap_setCell _ _ _ _<|by simpa using c⟩ (by simpa using hp)
def Qb.set2{S:LN}{a b:WD}(h:Qb S a b){g:Nat}(hp:g∈S\/a.heap.size<=g){u v:VL}:Qb S a ((b.setCell ⟨g,0,none⟩ u).setCell ⟨g,1,none⟩ v):=
 (h.setCell (p:=g) hp u).setCell (p:=⟨g,1,none⟩) hp v
def Qb.grown{S a b c row}(h:Qb S a b)(d:b.grownBy c row)(g:∀k,row=some k->k∈S\/a.heap.size<=k):Qb S a c:=
 h.trans (T:=row.toList) ⟨d.os,d.tape,d.output,d.size,fun k hk e=>d.block k hk (by rintro rfl;simp at e)⟩ (by intro e d;exact g e<|by simpa using d)
def Qb.below{a b}(h:Qb [] a b):Below a.heap.size a b:=⟨h.os,h.tape,h.output,h.size,fun k hk=>h.block k hk sx⟩
def Qb.of_below{a b}(h:Below a.heap.size a b):Qb [] a b:=⟨h.os,h.tape,h.output,h.size,fun k hk _=>h.block k hk⟩
def Qb.cell{S w w'}(h:Qb S w w'){p}(hp:p.block<w.heap.size)(c:p.block∉S):w'.cell? p=w.cell? p:=
 World.cell?_of_block (w:=w) (h.block p.block hp c)
def Qb.cZ{S w w'}(h:Qb S w w'){p v}(c:w.cell? p=some v)(d:p.block∉S):w'.cell? p=some v:=
 (h.cell (Uc w p c) d).trans c
def Qb.oZ{S w w'}(h:Qb S w w'){p v}(c:w.cell? p=some v)(d:p.block∉S):w'.frozen? p=w.frozen? p:=
 World.frozen?_of_block (w:=w) (h.block p.block (Uc w p c) d)
def Qb.heap{S w w'}(h:Qb S w w'){b c}(hb:w.heap[b]?=some c)(d:b∉S):w'.heap[b]?=some c:=
 (h.block b (Ci hb) d).trans hb
def kS{k:IntKind}{a b}(h:a=b):Ending.returned (.int k a)=.returned (.int k b):=by rw[h]
def Lv{P}{f:FuncId}{args}{w:WD}{a n v}(h:Calls P f args (w.drewN<|a+n) fun e w'=>e=.returned v/\w.drewN (a+n)=w'):
 Calls P f args (w.drewN<|a+n) fun e c=>e=.returned v/\∃m,c=w.drewN (a+m):=h.mono fun _ _ ⟨c,d⟩=>⟨c,n,d.symm⟩
def Qd(v:VL):LN:=v.ownBlock.toList
def Qh(w:WD)(e:TypeId)(v:VL)(xs:LV):Prop:=w.ownsRow 0 e 1 v xs.length xs
def Qh.nil(w e):Qh w e (.slice none 0 0) []:=Nu w 0 e 1
def Qh.kept{S w w' e v xs}(h:Qh w e v xs)(hk:Qb S w w')(j:∀k∈Qd v,k∉S):Qh w' e v xs:=by
 refine⟨h.1,?_⟩;rcases h.2 with i|⟨c,cap,g,d,l,hh,r⟩
 ·exact Or.inl i
 exact Or.inr ⟨c,cap,g,d,l,hk.heap hh<|j c<|by simp[Qd,d,qo],r⟩
def Qh.setCell{w e v xs}(h:Qh w e v xs){p}(hp:p.block∉Qd v)(u):Qh (w.setCell p u) e v xs:=
 h.kept (S:=[p.block]) ((Qc _ _).setCell sx u) (by intro k hk;simp;rintro rfl;exact hp hk)
def Qh.drew{w e v xs}(h:Qh w e v xs):Qh w.drew e v xs:=h
def Qh.drewN{w e v xs}(h:Qh w e v xs)(n):Qh (w.drewN n) e v xs:=h
def Qh.alloc{w e v xs}(h:Qh w e v xs)(c):Qh (w.alloc c) e v xs:=World.ownsRow.alloc h c
def Qh.lt{w e v xs}(h:Qh w e v xs):∀k∈Qd v,k<w.heap.size:=by intro k hk;exact(World.ownsRow.lt h k<|by simpa[Qd]using hk).2
def Qh.open{w e v xs}(h:Qh w e v xs)(h0:0<xs.length):∃g cap,v=.slice (some ⟨g,0,none⟩) xs.length cap/\xs.length<=cap/\cap<=maxLen/\
 (∀i u,xs[i]?=some u->w.cell? ⟨g,i,none⟩=some u)/\(∀i,w.frozen? ⟨g,i,none⟩=false)/\
 (∀i u,Qh (w.setCell ⟨g,i,none⟩ u) e (.slice (some ⟨g,0,none⟩) xs.length cap)<|xs.set i u):=by
 rcases h.2 with⟨rfl,h2⟩|⟨g,cap,h3,rfl,hb,hg,h1,y,h4,ht⟩
 ·omega
 have o:w.ownsRow 0 e 1 (.slice (some ⟨g,0,none⟩) xs cap) xs xs:=h;refine⟨g,cap,rfl,h1,y,fun i u q=>?_,fun i=>o.frozenAt i,fun i u=>?_⟩
 ·have hi:=(Qy.1 q).1;rw[o.cellAt i ox,q]
 have:=(o.stored i u).1;simpa[Qh]using this
def Qh.len{w e a n cap xs}(h:Qh w e (.slice a n cap) xs):xs.length=n:=by
 rcases h.2 with⟨c,d⟩|⟨g,g,g,g,hb,i,i,i,i,i⟩
 ·injection c;omega
 injection g with c d h3;exact d.symm
def Qh.aZ{w e}{g n cap:Nat}{xs}(h:Qh w e (.slice g n cap) xs){j u}(d:xs[j]?=some u):w.cell? ⟨g,j,none⟩=some u:=by have c:=h.len;subst c;obtain⟨c,c,c,-,-,i,-,-⟩:=h.open (yx ((Qy.1 d).1));injection c with c h2 h3;injection c with c;injection c with c;subst c;exact i j u d
def Qh.free{w e}{g n cap:Nat}{xs}(h:Qh w e (.slice g n cap) xs)(j):w.frozen? ⟨g,j,none⟩=false:=by have c:=h.len;subst c;exact World.ownsRow.frozenAt h j
def Qh.put{w e}{g n cap:Nat}{xs}(h:Qh w e (.slice g n cap) xs)(j u):Qh (w.setCell ⟨g,j,none⟩ u) e (.slice g n cap) (xs.set j u):=by have c:=h.len;subst c;have:=(World.ownsRow.stored h j u).1;simpa[Qh]using this
def Qq(F c:LN):Prop:=∀d∈F,d∉c
def QQ(n:Nat)(F d:LN):Prop:=∀c∈d,c∈F\/n<=c
def Qq.grow{n F c d}(h:Qq F c)(e:∀x∈F,x<n)(g:QQ n c d):Qq F d:=fun x d c=>by
 rcases g x c with c|c
 ·exact h x d c
 have:=e x d;omega
def Qq.symm{F c}(h:Qq F c):Qq c F:=fun e d c=>h e c d
def Qq.fresh{n F c}(d:∀x∈F,x<n)(e:∀x∈c,n<=x):Qq F c:=fun x g c=>by have:=d x g;have:=e x c;omega
def Zy(F:LN):Qq F []:=fun _ _ c=>by cases c
def Qq.sub{F c d}(h:Qq F c)(hs:∀x∈d,x∈F):Qq d c:=fun x c=>h x<|hs x c
def QQ.refl(n F):QQ n F F:=fun _ c=>.inl c
def QQ.trans{n m F c d}(h:QQ n F c)(k:QQ m c d)(c:n<=m):QQ n F d:=fun d c=>by
 rcases k d c with c|c
 ·exact h d c
 exact .inr ox
def Qu(n:Nat)(F:LN):Prop:=∀c∈F,n<=c
def Qu.grow{n m F c}(h:Qu n F)(e:QQ m F c)(d:n<=m):Qu n c:=fun d c=>by
 rcases e d c with c|c
 ·exact h d c
 omega
def Qu.mono{n m F}(h:Qu n F)(c:m<=n):Qu m F:=fun e d=>QS c<|h e d
def Qb.new{a b c F}(h:Qb [] a b)(k:Qb F b c)(hf:Qu a.heap.size F):Qb [] a c:=h.trans k fun e d=>.inr<|hf e d
def Qp(w:WD)(size:Nat)(a:OA)(n:Nat)(xs:LV):Prop:=
 xs=n*size/\∀c d,xs[c]?=some d->∃b off,a=some ⟨b,off,none⟩/\w.cell? ⟨b,off+c,none⟩=some d
def fZ(a:OA):LN:=(a.map Addr.block).toList
def Qp.at{w size a n xs}(h:Qp w size a n xs)(h0:0<xs.length):∃b off,a=some ⟨b,off,none⟩/\∀j u,xs[j]?=some u->w.cell? ⟨b,off+j,none⟩=some u:=by obtain⟨b,off,ha,-⟩:=h.2 0 _<|Qj h0;refine⟨b,off,ha,fun j u e=>?_⟩;obtain⟨c,c,c,d⟩:=h.2 j u e;rw[ha]at c;injection c with c;injection c with c h2;subst c;subst h2;exact d
def Qp.kept{S w w' size a n xs}(h:Qp w size a n xs)(hk:Qb S w w')(ha:Qq (fZ a) S):Qp w' size a n xs:=by refine⟨h.1,fun g i e=>?_⟩;obtain⟨b,off,c,d⟩:=h.2 g i e;exact⟨b,off,c,hk.cZ d<|ha b<|by simp[fZ,c]⟩
def Qp.lt{w size a n xs}(h:Qp w size a n xs)(h0:0<xs.length):∀x∈fZ a,x<w.heap.size:=by obtain⟨b,off,e,d⟩:=h.2 0 _<|Qj h0;intro x c;simp only[fZ,e,Bg,EL,Zb]at c;subst c;exact Uc w _ d
def Qp.kZ{w w' size a n xs}(h:Qp w size a n xs)(hk:Qb [] w w'):Qp w' size a n xs:=h.kept hk<|Zy _
def Qh.sees{w e v xs}(h:Qh w e v xs):∃a cap,v=.slice a xs.length cap/\xs.length<=cap/\cap<=maxLen/\Qp w 1 a xs.length xs/\fZ a=Qd v:=by
 rcases h.2 with⟨rfl,q⟩|⟨g,cap,h4,rfl,hb,hg,h1,y,h5,ht⟩
 ·refine⟨none,0,by rw[q],ox,Zv _,⟨sx,fun j u o=>?_⟩,rfl⟩;have:=(Qy.1 o).1;omega
 have h3:w.ownsRow 0 e 1 (.slice g xs cap) xs xs:=h;refine⟨_,cap,rfl,h1,y,⟨sx,fun j u o=>⟨g,0,rfl,?_⟩⟩,rfl⟩;have hi:=(Qy.1 o).1;rw[Zu,h3.cellAt j ox,o]
def Jp{P w o p d a g}(x:d.guard=none)(l c:Operand)(t)(B:d.op=Op.makeSlice t l c)(e z bytes)(hu:P.underlying t=some (.slice e))(T:(P.info? e).map (fun i=>(i.zero,i.size,i.bytes))=some (some z,1,bytes))(hz:z.cells=#[z])(m j:IntKind)(L C)(n k:Nat)(y:a.eval l=.int m L)(v:a.eval c=.int j C)(u:L=(n:Int))(q:C=(k:Int))(A:n<=k)(hb:bytes*k<=281474976710656)(h:k<=maxLen)(s:∀w',Qh w' e (.slice w.heap.size n k) (List.replicate n z)->Qb [] w w'->wpList P o g p (a.put d.dst<|.slice w.heap.size n k) w'):
 wpList P o g (d::p) a w:=by
 obtain⟨i,hi,h0,d,g⟩:=VR T;subst g;subst u;subst q;have o:(i.bytes:Int)*k<=281474976710656:=by
  have g:((i.bytes*k:Nat):Int)<=281474976710656:=ox
  rwa[Int.natCast_mul]at g
 have p:=run_make (P:=P) w t e i z hu hi h0 m j n k ox ox o (by simp only[maxLen]at h;omega);refine El x fun g g=>?_
 unfold Oper.wp;simp[execOp,B,y,v,p,Result.andThen];refine g _ _<|s _ ⟨sx,.inr ⟨w.heap.size,k,_,sx,Zv _,Xq w _,by simpa using A,h,by rw[d];simp[size_madeCells],?_⟩⟩<|(Qc _ _).alloc _;rw[d,hz,RW,Sv];simp[List.take_replicate];omega
def Cp{P}(w t ty e z size bytes)(hu:P.underlying t=some (.slice e))(T:(P.info? e).map (fun i=>(i.zero,i.size,i.bytes))=some (some z,size,bytes))(x2:z.cells.size=size)(x1:0<size)(v n xs)(y:w.ownsRow 0 e size v n xs)(a m c news)(hl:news.length=m*size)(h3:∀j u,news[j]?=some u->w.cell? (a.add j)=some u)(h1:∀u∈news,u.oneCell'=true)(h5:n+m<=maxLen)(h8:(n+m)*bytes<=140737488355328):
 ∃o w',(Builtin.append_ #[t,t] ty #[v,.slice (some a) m c]).run P w=.ok o w'/\w'.ownsRow 0 e size o (n+m) (xs++news)/\Qb (Qd v) w w'/\
  (∀k∈Qd o,k∈Qd v\/w.heap.size<=k):=by
 obtain⟨i,hi,h0,h4,h9⟩:=VR T;have K:∀w',w.grownBy w' v.ownBlock->Qb (Qd v) w w':=fun w' hg=>(Qc _ w).grown hg (by intro k hk;left;simp[Qd,hk])
 rcases y.2 with⟨rfl,rfl⟩|⟨g,cap,x0,rfl,hb,hg,x6,x4,x5,x7⟩
 ·have hx:xs=[]:=J4 (by simpa using y.1);subst hx;obtain⟨o,w',r,q,h2,-⟩:=run_append_own (P:=P) w w t ty e i z size bytes hu hi h0 h4 h9 x2 x1 _ 0 [] (Nu _ _ _ _) a m c news hl h3 h1 h5 h8<|Qk _;refine⟨o,w',r,⟨q.1,?_⟩,K _ h2,fun k hk=>.inr (q.lt k<|by simpa[Qd]using hk).1⟩;rcases q.2 with h|⟨g,cap,x0,hv,hb,r⟩
  ·exact .inl h
  exact .inr ⟨g,cap,x0,hv,Zv _,r⟩
 by_cases x3:n+m<=cap
 ·obtain⟨w',r,q,h2⟩:=run_append_fits (P:=P) w 0 t ty e i size hu hi h4 g n cap xs y a m c news hl h3 h1 x3;exact⟨_,w',r,q,K _ h2,fun k hk=>.inl hk⟩
 obtain⟨o,w',r,q,h2,-⟩:=run_append_own (P:=P) w 0 t ty e i z size bytes hu hi h0 h4 h9 x2 x1 _ n xs y a m c news hl h3 h1 h5 h8<|Zv _;have holds:∀j u,xs[j]?=some u->w.cell? ((⟨g,0,none⟩:Addr).add j)=some u:=y.cells (g:=g) rfl;subst h4;subst h9;have r2:=run_append_grow (P:=P) w t ty e i z hu hi h0 ⟨g,0,none⟩ n cap xs y.1 holds a m c news hl h3 ox (by simp only[maxLen]at h5;omega)<|KR ox h8;have hv:o=.slice w (n+m) (grownCap w (n+m) cap e):=by have:=r.symm.trans r2;injection this
 refine⟨o,w',r,q,K _ h2,fun k hk=>.inr ?_⟩;rw[hv]at hk;simp[Qd,qo]at hk;omega
def Dt{P}(w0){w j l c a h}(n:c.guard=none)(s x:Operand)(t)(q:c.op=Op.call {callee:=Callee.builtin Builtin.append,args:=#[s,x],argTypes:=#[t,t]})(e z bytes)(hu:P.underlying t=some (.slice e))(T:(P.info? e).map (fun i=>(i.zero,i.size,i.bytes))=some (some z,1,bytes))(hz:z.cells.size=1)(v u xs)(hs:a.eval s=v)(d:a.eval x=.slice w0.heap.size 1 1)(hw:w=w0.alloc (.cells #[u] e))(p:u.oneCell'=true)(y:Qh w0 e v xs)(o:xs.length+1<=maxLen)(hb:(xs.length+1)*bytes<=140737488355328)(m:∀g cap w',Qh w' e (.slice (some ⟨g,0,none⟩) (xs.length+1) cap) (xs++[u])->Qb (Qd v) w0 w'->(g∈Qd v\/w0.heap.size<=g)->
  wpList P j h l (a.put c.dst<|.slice (some ⟨g,0,none⟩) (xs.length+1) cap) w'):
 wpList P j h (c::l) a w:=by
 subst hw;obtain⟨h,w',j,h,hk,hf⟩:=Cp (P:=P) (w0.alloc<|.cells #[u] e) t c.type e z 1 bytes hu T hz dx v xs xs (World.ownsRow.alloc y _)
  ⟨w0.heap.size,0,none⟩ 1 1 [u] rfl (by intro l c c;match l,c with|0,c=>simp at c;subst c;simp[Addr.add]) (by simpa using p) o hb
 refine El n fun c c=>?_
 unfold Oper.wp;simp only[execOp,q,resolve,invoke,builtin,Sem.run_bind,Sem.run_pure,Ua,Bc,QV,Y6,hs,d,j];rcases h.2 with⟨-,h0⟩|⟨g,cap,j,rfl,-⟩
 ·omega
 refine c _ _<|m g cap w' (by simpa[Qh]using h) (((Qc (Qd v) w0).alloc _).trans hk fun x d=>.inl d) ?_;refine(hf g<|by simp[Qd,qo]).imp id fun c=>?_
 simp at c;omega
def Du{P w h9 x0 o a Q}(hg:o.guard=none)(s x:Operand)(t)(x5:o.op=Op.call {callee:=Callee.builtin Builtin.append,args:=#[s,x],argTypes:=#[t,t]})(e z bytes)(hu:P.underlying t=some (.slice e))(T:(P.info? e).map (fun i=>(i.zero,i.size,i.bytes))=some (some z,1,bytes))(hz:z.cells.size=1)(v xs news ao m c)(hs:a.eval s=v)(hx:a.eval x=.slice ao m c)(x4:∀u∈news,u.oneCell'=true)(h4:Qh w e v xs)(h5:Qp w 1 ao m news)(x2:ao=none->c=0)(hm:xs.length+m<=maxLen)(hb:(xs.length+m)*bytes<=140737488355328)(hK:∀a' y w',Qh w' e (.slice a' (xs.length+m) y) (xs++news)->Qb (Qd v) w w'->QQ w.heap.size (Qd v) (Qd<|.slice a' (xs.length+m) y)->
  wpList P h9 Q x0 (a.put o.dst<|.slice a' (xs.length+m) y) w'):
 wpList P h9 Q (o::x0) a w:=by
 have h3:news=m:=yx h5.1
 have key:∃v' w',(Builtin.append_ #[t,t] o.type #[v,.slice ao m c]).run P w=.ok v' w'/\w'.ownsRow 0 e 1 v' (xs.length+m) (xs++news)/\Qb (Qd v) w w'/\QQ w (Qd v) (Qd v'):=by
  cases ao with
  |some ad=>
   exact Cp (P:=P) w t o.type e z 1 bytes hu T hz dx v xs xs h4 ad m c news ox (fun j u hj=>by obtain⟨b,off,q,h2⟩:=h5.2 j u hj;injection q with q;subst q;rwa[Jc]) x4 hm hb
  |none=>
   have hn:news=[]:=by
    rcases news with _|⟨u,r⟩
    ·rfl
    obtain⟨b,off,q,-⟩:=h5.2 0 u rfl;cases q
   subst hn;have hc:=x2 rfl;simp only[YE]at h3;subst h3;subst hc;obtain⟨i,hi,h0,q,h2⟩:=VR T;have hr:=run_append_owned_none (P:=P) w 0 t o.type e i 1 hu hi v xs xs h4;exact⟨v,w,hr,by simpa[Qh]using h4,Qc _ _,QQ.refl _ _⟩
 obtain⟨v',w',hr,ho,hk,x3⟩:=key;have h8:Qh w' e v' (xs++news):=by unfold Qh;rwa[Qo,h3]
 obtain⟨a',y,hv,-⟩:=h8.sees;rw[Qo,h3]at hv;subst hv;refine El hg fun K x1=>?_
 unfold Oper.wp;simp only[execOp,x5,resolve,invoke,builtin,Sem.run_bind,Sem.run_pure,Ua,Bc,QV,Y6,hs,hx,hr];exact x1 _ _<|hK a' y w' h8 hk x3
def wraps_i64'(n)(h0:0<=n)(c:n<2^62):IntKind.i64.wrap n=n:=by rw[Zq];omega
def uN(x:Nat)(h:x<2^62):bits .and .i64 (x:Int) 1=((x%2:Nat):Int):=by have:=bits_mask .i64 62 dx wraps_i64' 1 dx (x:Int) ox (by exact_mod_cast h);rw[show(2:Int)^1-1=1 from rfl,show(2:Int)^1=2 from rfl]at this;rw[this];omega
def Qm(w:WD)(e:TypeId)(size:Nat)(v:VL)(n:Nat)(xs:LV):Prop:=w.ownsRow 0 e size v n xs
def Qm.nil(w e size):Qm w e size (.slice none 0 0) 0 []:=Nu w 0 e size
def Qm.kept{S w w' e size v n xs}(h:Qm w e size v n xs)(hk:Qb S w w')(j:Qq (Qd v) S):Qm w' e size v n xs:=by
 refine⟨h.1,?_⟩;rcases h.2 with i|⟨c,cap,g,d,l,hh,r⟩
 ·exact Or.inl i
 exact Or.inr ⟨c,cap,g,d,l,hk.heap hh<|j c<|by simp[Qd,d,qo],r⟩
def Qm.lt{w e size v n xs}(h:Qm w e size v n xs):∀k∈Qd v,k<w.heap.size:=by intro k hk;exact(World.ownsRow.lt h k<|by simpa[Qd]using hk).2
def Qm.sees{w e size v n xs}(h:Qm w e size v n xs):∃a cap,v=.slice a n cap/\n<=cap/\cap<=maxLen/\Qp w size a n xs/\fZ a=Qd v:=by
 rcases h.2 with⟨rfl,o⟩|⟨g,cap,h4,rfl,hb,hg,h1,y,h5,ht⟩
 ·refine⟨none,0,by rw[o],ox,Zv _,⟨h.1,fun j u hj=>?_⟩,rfl⟩;have:=(Qy.1 hj).1;rw[h.1,o]at this;omega
 have h3:w.ownsRow 0 e size (.slice g n cap) n xs:=h;refine⟨_,cap,rfl,h1,y,⟨h.1,fun j u q=>⟨g,0,rfl,?_⟩⟩,rfl⟩;have hi:=(Qy.1 q).1;rw[Zu,h3.cellAt j<|by rwa[<-h.1],q]
def X7(a n c):Qd (.slice a n c)=fZ a:=by cases a<;>rfl
def Rr{P}(w0){w j l c a h}(o:c.guard=none)(s x:Operand)(t)(y:c.op=Op.call {callee:=Callee.builtin Builtin.append,args:=#[s,x],argTypes:=#[t,t]})(e z size bytes)(hu:P.underlying t=some (.slice e))(T:(P.info? e).map (fun i=>(i.zero,i.size,i.bytes))=some (some z,size,bytes))(hz:z.cells.size=size)(h0:0<size)(v n xs news)(hs:a.eval s=v)(d:a.eval x=.slice w0.heap.size 1 1)(hw:w=w0.alloc (.cells news.toArray e))(m:news.length=size)(q:∀u∈news,u.oneCell'=true)(A:Qm w0 e size v n xs)(p:n+1<=maxLen)(hb:(n+1)*bytes<=140737488355328)(m:∀g cap w',Qm w' e size (.slice (some ⟨g,0,none⟩) (n+1) cap) (n+1) (xs++news)->Qb (Qd v) w0 w'->(g∈Qd v\/w0.heap.size<=g)->
  wpList P j h l (a.put c.dst<|.slice (some ⟨g,0,none⟩) (n+1) cap) w'):
 wpList P j h (c::l) a w:=by
 subst hw;obtain⟨h,w',j,h,hk,hf⟩:=Cp (P:=P) (w0.alloc<|.cells news.toArray e) t c.type e z size bytes hu T hz h0 v n xs (World.ownsRow.alloc A _)
  ⟨w0.heap.size,0,none⟩ 1 1 news ox (by intro c c c;rw[Jc,Zu];rw[WL _ _ _ _ rfl];simpa using c) q p hb
 refine El o fun c c=>?_
 unfold Oper.wp;simp only[execOp,y,resolve,invoke,builtin,Sem.run_bind,Sem.run_pure,Ua,Bc,QV,Y6,hs,d,j];rcases h.2 with⟨-,h0⟩|⟨g,cap,j,rfl,-⟩
 ·omega
 refine c _ _<|m g cap w' h (((Qc (Qd v) w0).alloc _).trans hk fun x d=>.inl d) ?_;refine(hf g<|by simp[Qd,qo]).imp id fun c=>?_
 simp at c;omega
def Qh7{P w}(t ty e z bytes)(hu:P.underlying t=some (.slice e))(T:(P.info? e).map (fun i=>(i.zero,i.size,i.bytes))=some (some z,1,bytes))(hz:z.cells.size=1)(v xs news ao m c)(x1:∀u∈news,u.oneCell'=true)(h4:Qh w e v xs)(h5:Qp w 1 ao m news)(h9:ao=none->c=0)(hm:xs.length+m<=maxLen)(hb:(xs.length+m)*bytes<=140737488355328):
 ∃a' q w',(Builtin.append_ #[t,t] ty #[v,.slice ao m c]).run P w=.ok (.slice a' (xs.length+m) q) w'/\Qh w' e (.slice a' (xs.length+m) q) (xs++news)/\Qb (Qd v) w w'/\
  QQ w.heap.size (Qd v) (Qd<|.slice a' (xs.length+m) q):=by
 have h3:news=m:=yx h5.1
 have key:∃y w',(Builtin.append_ #[t,t] ty #[v,.slice ao m c]).run P w=.ok y w'/\w'.ownsRow 0 e 1 y (xs.length+m) (xs++news)/\Qb (Qd v) w w'/\QQ w (Qd v) (Qd y):=by
  cases ao with
  |some ad=>
   exact Cp (P:=P) w t ty e z 1 bytes hu T hz dx v xs xs h4 ad m c news ox (fun j u hj=>by obtain⟨b,off,o,h2⟩:=h5.2 j u hj;injection o with o;subst o;rwa[Jc]) x1 hm hb
  |none=>
   have hn:news=[]:=by
    rcases news with _|⟨u,r⟩
    ·rfl
    obtain⟨b,off,o,-⟩:=h5.2 0 u rfl;cases o
   subst hn;have hc:=h9 rfl;simp only[YE]at h3;subst h3;subst hc;obtain⟨i,hi,h0,o,h2⟩:=VR T;have hr:=run_append_owned_none (P:=P) w 0 t ty e i 1 hu hi v xs xs h4;exact⟨v,w,hr,by simpa[Qh]using h4,Qc _ _,QQ.refl _ _⟩
 obtain⟨y,w',hr,ho,hk,x0⟩:=key;have h8:Qh w' e y (xs++news):=by unfold Qh;rwa[Qo,h3]
 obtain⟨a',q,hv,-⟩:=h8.sees;rw[Qo,h3]at hv;subst hv;exact⟨a',q,w',hr,h8,hk,x0⟩
def Qji{P w h d a K l}{j:Prop}(p:d.guard=none)(s x:Operand)(t)(A:d.op=Op.call {callee:=Callee.builtin Builtin.append,args:=#[s,x],argTypes:=#[t,t]})(e z bytes)(hu:P.underlying t=some (.slice e))(T:(P.info? e).map (fun i=>(i.zero,i.size,i.bytes))=some (some z,1,bytes))(hz:z.cells.size=1)(v xs news ao m c)(hs:a.eval s=v)(D:a.eval x=.slice ao m c)(y:∀u∈news,u.oneCell'=true)(B:Qh w e v xs)(C:Qp w 1 ao m news)(o:ao=none->c=0)(q:xs.length+m<=maxLen)(hb:(xs.length+m)*bytes<=140737488355328)(n:∀a' g w',Qh w' e (.slice a' (xs.length+m) g) (xs++news)->Qb (Qd v) w w'->QQ w.heap.size (Qd v) (Qd<|.slice a' (xs.length+m) g)->
  K (a.put d.dst<|.slice a' (xs.length+m) g) w'):
 if Region.wanted d (yielded h a.tmps)=true then Oper.wp P d a w K l else j:=by
 have hw:Region.wanted d (yielded h a.tmps)=true:=by simp[Region.wanted,p]
 rw[Qg hw];obtain⟨a',g,w',p,h,j,l⟩:=Qh7 (P:=P) t d.type e z bytes hu T hz v xs news ao m c y B C o q hb;unfold Oper.wp;simp only[execOp,A,resolve,invoke,builtin,Sem.run_bind,Sem.run_pure,Ua,Bc,QV,Y6,hs,D,p];exact n a' g w' h j l
def Qh9{P}(w t p e z size bytes)(hu:P.underlying t=some (.slice e))(T:(P.info? e).map (fun i=>(i.zero,i.size,i.bytes))=some (some z,size,bytes))(E:z.cells.size=size)(D:0<size)(g n cap:Nat)(xs)(d:w.ownsRow 0 e size (.slice g n cap) n xs)(a m c news)(q:news.length=m*size)(s:∀j u,news[j]?=some u->w.cell? (a.add j)=some u)(x:∀u∈news,u.oneCell'=true)(y:n+m<=maxLen)(A:(n+m)*bytes<=140737488355328):
 ∃h l w',(Builtin.append_ #[t,t] p #[.slice g n cap,.slice (some a) m c]).run P w=.ok (.slice (some ⟨h,0,none⟩) (n+m) l) w'/\
  w'.ownsRow 0 e size (.slice (some ⟨h,0,none⟩) (n+m) l) (n+m) (xs++news)/\Qb [g] w w'/\(h=g\/w.heap.size<=h)/\
  (∀j u,xs[j]?=some u->w'.cell? ⟨g,j,none⟩=some u):=by
 obtain⟨i,hi,h0,v,C⟩:=VR T;have holds:∀j u,xs[j]?=some u->w.cell? ((⟨g,0,none⟩:Addr).add j)=some u:=d.cells (g:=g) rfl;have:g<w:=(World.ownsRow.lt d g<|by simp[qo]).2
 by_cases h:n+m<=cap
 ·obtain⟨w',r,o,B⟩:=run_append_fits (P:=P) w 0 t p e i size hu hi v g n cap xs d a m c news q s x h;refine⟨g,cap,w',r,o,(Qc _ w).grown B (by intro k hk;left;cases hk;simp),.inl rfl,fun j u l=>?_⟩;have h:=o.cells (g:=g) rfl j u (by rwa[Xc (Qy.1 l).1]);rwa[Jc,Zu]at h
 obtain⟨F,w',r,o,B,-⟩:=run_append_own (P:=P) w 0 t p e i z size bytes hu hi h0 v C E D _ n xs d a m c news q s x y A<|Zv _;subst v;subst C;have v:=run_append_grow (P:=P) w t p e i z hu hi h0 ⟨g,0,none⟩ n cap xs d.1 holds a m c news q s ox (by simp only[maxLen]at y;omega)<|KR ox A;have d:=r.symm.trans v;injection d with d hw;subst d;refine⟨w.heap.size,_,w',r,o,?_,.inr<|Qk _,fun j u l=>?_⟩
 ·rw[hw];exact((Qc _ w).drew).alloc _
 have h:=holds j u l;rw[Jc,Zu]at h;rw[hw];exact(((Qc [] w).drew).alloc _).cZ h sx
def mP{P:Program}{w:WD}{p:Array Oper}{d:Oper}{a:Act}{K:Act->WD->Prop}{v:Exit->Act->WD->Prop}{q:Prop}
 (y:d.guard=none)(s x:Operand)(t:TypeId)(F:d.op=Op.call {callee:=Callee.builtin Builtin.append,args:=#[s,x],argTypes:=#[t,t]})
 (e:TypeId)(z:VL)(size bytes:Nat)(hu:P.underlying t=some (.slice e))(T:(P.info? e).map (fun i=>(i.zero,i.size,i.bytes))=some (some z,size,bytes))(hz:z.cells.size=size)(I:0<size)
 (g n cap:Nat)(xs news:LV)(o:Addr)(m c:Nat)(hs:a.eval s=.slice g n cap)(J:a.eval x=.slice (some o) m c)(E:∀u∈news,u.oneCell'=true)
 (G:w.ownsRow 0 e size (.slice g n cap) n xs)(B:news=m*size)(D:∀j u,news[j]?=some u->w.cell? (o.add j)=some u)(C:n+m<=maxLen)(hb:(n+m)*bytes<=140737488355328)
 (A:∀h l w',w'.ownsRow 0 e size (.slice (some ⟨h,0,none⟩) (n+m) l) (n+m) (xs++news)->Qb [g] w w'->(h=g\/w.heap.size<=h)->(∀j u,xs[j]?=some u->w'.cell? ⟨g,j,none⟩=some u)->
  K (a.put d.dst<|.slice (some ⟨h,0,none⟩) (n+m) l) w'):
 if Region.wanted d (yielded p a.tmps)=true then Oper.wp P d a w K v else q:=by
 have hw:Region.wanted d (yielded p a.tmps)=true:=by simp[Region.wanted,y]
 rw[Qg hw];obtain⟨h,l,w',H,p,q,v,y⟩:=Qh9 (P:=P) w t d.type e z size bytes hu T hz I g n cap xs G o m c news B D E C hb;unfold Oper.wp;simp only[execOp,F,resolve,invoke,builtin,Sem.run_bind,Sem.run_pure,Ua,Bc,QV,Y6,hs,J,H];exact A h l w' p q v y
def DQ{P:Program}{g:Array Oper}{l:Exit->Act->WD->Prop}{o:Region.Mode}{S:WD->Prop}{p:Nat}{n:Array Bool}{a:Act}{w:WD}(i d:Nat)
 (e:(g[i]?).map (fun j=>j.dst)=some (some d))(hs:Region.noSelect g=true)(hf:Region.free o g n i=true)(t:(Region.ready o g n).contains i=true)
 (q:∀c a w,l (.panic c) (a.put (some d) undef) w->l (.panic c) a w)(m:(g[i]?).map (fun j=>Region.wanted j<|yielded g a.tmps)=some false)(s:S w)
 (h:wpAnyH P o g l S p (n.setIfInBounds i true) (a.put (some d) undef) w):wpAnyH P o g l S (p+1) n a w:=by
 cases ho:g[i]? with
 |none=>rw[ho]at e;cases e
 |some j=>rw[ho]at e m;injection e with e;have e:j.dst=some d:=e;injection m with m;exact wpAnyH_take ho hs hf t (by rwa[e]) (Or.inr ⟨m,rfl⟩) s (by rwa[e])
def KX{P:Program}{e:Array Oper}{l:Exit->Act->WD->Prop}{o:Region.Mode}{S:WD->Prop}{p:Nat}{n:Array Bool}{a:Act}{w:WD}(i d:Nat)(v:VL)
 (g:(e[i]?).map (fun j=>j.dst)=some (some d))(hs:Region.noSelect e=true)(hf:Region.free o e n i=true)(t:(Region.ready o e n).contains i=true)
 (q:∀c a w,l (.panic c) (a.put (some d) v) w->l (.panic c) a w)(m:(e[i]?).map (fun j=>Region.wanted j<|yielded e a.tmps)=some true)
 (u:∀j,e[i]?=some j->∀w,S w->(execOp a.eval j).run P w=.ok (.value v) w)(s:S w)
 (h:wpAnyH P o e l S p (n.setIfInBounds i true) (a.put (some d) v) w):wpAnyH P o e l S (p+1) n a w:=by
 cases ho:e[i]? with
 |none=>rw[ho]at g;cases g
 |some j=>rw[ho]at g m;injection g with g;have g:j.dst=some d:=g;injection m with m;exact wpAnyH_take ho hs hf t (by rwa[g]) (Or.inl ⟨m,u j ho⟩) s (by rwa[g])
