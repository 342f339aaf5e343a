import Derived.Test.YtickjpnkoppmgaaGreatDoorAa
set_option linter.all false
namespace Go.Proofs.YtickjpnkoppmgaaGreatDoor
open Go.Proofs.Tryz Go.RowKit K
structure Qb(S:LN)(w w':WD):Prop where
 os:w'.os=w.os
 tape:w'.tape=w.tape
 output:w'.output=w.output
 size:w.heap.size≤w'.heap.size
 block:∀k,k<w.heap.size→k∉S→w'.heap[k]?=w.heap[k]?
def Qc(S:LN)(w:WD):Qb S w w:=⟨rfl,rfl,rfl,Ql _,fun _ _ _=>rfl⟩
def Qb.trans{S T a b c}(d:Qb S a b)(k:Qb T b c)(f:∀x∈T,x∈S∨a.heap.size≤x):Qb S a c:=
 ⟨k.os.trans d.os,k.tape.trans d.tape,k.output.trans d.output,QS d.size k.size,fun e hi g=>
  (k.block e (Az hi d.size) (fun h=>by rcases f e h with f|f;exact g f;omega)).trans (d.block e hi g)⟩
def Qb.mono{S T a b}(c:Qb S a b)(e:∀x∈S,x∈T):Qb T a b:=
 ⟨c.os,c.tape,c.output,c.size,fun d hi f=>c.block d hi fun c=>f<|e d c⟩
def Qb.drew{S a b}(c:Qb S a b):Qb S a b.drew:=⟨c.os,c.tape,c.output,c.size,c.block⟩
def Qb.drewN{S a b}(c:Qb S a b)(n):Qb S a (b.drewN n):=⟨c.os,c.tape,c.output,c.size,c.block⟩
def Qb.alloc{S a b}(c:Qb S a b)(d):Qb S a (b.alloc d):=
 c.trans (T:=[]) ⟨rfl,rfl,rfl,by simp,fun c hk _=>Below.heap_alloc _ _ _ hk⟩ (by simp)
def Qb.setCell{S a b}(c:Qb S a b){p}(hp:p.block∈S∨a.heap.size≤p.block)(u):Qb S a (b.setCell p u):=
 c.trans (T:=[p.block]) ⟨rfl,rfl,rfl,by simp[World.setCell],fun c hk c=>Below.heap_setCell _ _ _ _<|by simpa using c⟩ (by simpa using hp)
def Qb.set2{S:LN}{a b:WD}(c:Qb S a b){g:Nat}(hp:g∈S∨a.heap.size≤g){u v:VL}:Qb S a ((b.setCell ⟨g,0,none⟩ u).setCell ⟨g,1,none⟩ v):=
 (c.setCell (p:=g) hp u).setCell (p:=⟨g,1,none⟩) hp v
def Qb.grown{S a b c row}(e:Qb S a b)(d:b.grownBy c row)(f:∀k,row=some k→k∈S∨a.heap.size≤k):Qb S a c:=
 e.trans (T:=row.toList) ⟨d.os,d.tape,d.output,d.size,fun k hk e=>d.block k hk (by rintro rfl;simp at e)⟩ (by intro e d;exact f e<|by simpa using d)
def Qb.below{a b}(c:Qb [] a b):Below a.heap.size a b:=⟨c.os,c.tape,c.output,c.size,fun d hk=>c.block d hk<|by simp⟩
def Qb.of_below{a b}(c:Below a.heap.size a b):Qb [] a b:=⟨c.os,c.tape,c.output,c.size,fun d hk _=>c.block d hk⟩
def Qb.cell{S w w'}(a:Qb S w w'){p}(hp:p.block<w.heap.size)(b:p.block∉S):w'.cell? p=w.cell? p:=
 World.cell?_of_block (w:=w) (a.block p.block hp b)
def Qb.cZ{S w w'}(b:Qb S w w'){p v}(a:w.cell? p=some v)(c:p.block∉S):w'.cell? p=some v:=
 (b.cell (JN w p a) c).trans a
def Qb.oZ{S w w'}(a:Qb S w w'){p v}(b:w.cell? p=some v)(c:p.block∉S):w'.frozen? p=w.frozen? p:=
 World.frozen?_of_block (w:=w) (a.block p.block (JN w p b) c)
def Qb.heap{S w w'}(c:Qb S w w'){b a}(hb:w.heap[b]?=some a)(d:b∉S):w'.heap[b]?=some a:=
 (c.block b (BF hb) d).trans hb
def gM{k:IntKind}{a b}(c:a=b):Ending.returned (.int k a)=.returned (.int k b):=by rw[c]
def Kx{P}{f:FuncId}{args}{w:WD}{a n v}(b:Calls P f args (w.drewN<|a+n) fun e w'=>e=.returned v∧w.drewN (a+n)=w'):
 Calls P f args (w.drewN<|a+n) fun e c=>e=.returned v∧∃m,c=w.drewN (a+m):=b.mono fun _ _ ⟨b,c⟩=>⟨b,n,c.symm⟩
def Qd(v:VL):LN:=v.ownBlock.toList
def Qh(w:WD)(e:TypeId)(v:VL)(xs:LV):Prop:=w.ownsRow 0 e 1 v xs.length xs
def Qh.nil(w e):Qh w e (.slice none 0 0) []:=Mp w 0 e 1
def Qh.kept{S w w' e v xs}(a:Qh w e v xs)(hk:Qb S w w')(f:∀k∈Qd v,k∉S):Qh w' e v xs:=by
 refine⟨a.1,?_⟩;rcases a.2 with d|⟨a,cap,c,b,g,hh,h⟩
 ·exact Or.inl d
 exact Or.inr ⟨a,cap,c,b,g,hk.heap hh<|f a<|by simp[Qd,b,qo],h⟩
def Qh.setCell{w e v xs}(a:Qh w e v xs){p}(hp:p.block∉Qd v)(u):Qh (w.setCell p u) e v xs:=
 a.kept (S:=[p.block]) ((Qc _ _).setCell (by simp) u) (by intro a hk;simp;rintro rfl;exact hp hk)
def Qh.drew{w e v xs}(a:Qh w e v xs):Qh w.drew e v xs:=a
def Qh.drewN{w e v xs}(a:Qh w e v xs)(n):Qh (w.drewN n) e v xs:=a
def Qh.alloc{w e v xs}(b:Qh w e v xs)(a):Qh (w.alloc a) e v xs:=World.ownsRow.alloc b a
def Qh.lt{w e v xs}(a:Qh w e v xs):∀k∈Qd v,k<w.heap.size:=by intro k hk;exact(World.ownsRow.lt a k<|by simpa[Qd]using hk).2
def Qh.open{w e v xs}(h:Qh w e v xs)(h0:0<xs.length):∃g cap,v=.slice (some ⟨g,0,none⟩) xs.length cap∧xs.length≤cap∧cap≤maxLen∧
 (∀i u,xs[i]?=some u→w.cell? ⟨g,i,none⟩=some u)∧(∀i,w.frozen? ⟨g,i,none⟩=false)∧
 (∀i u,Qh (w.setCell ⟨g,i,none⟩ u) e (.slice (some ⟨g,0,none⟩) xs.length cap)<|xs.set i u):=by
 rcases h.2 with⟨rfl,h2⟩|⟨g,cap,h3,rfl,hb,hg,h1,y,h4,ht⟩
 ·omega
 have o:w.ownsRow 0 e 1 (.slice (some ⟨g,0,none⟩) xs.length cap) xs.length xs:=h;refine⟨g,cap,rfl,h1,y,fun i u q=>?_,fun i=>o.frozenAt i,fun i u=>?_⟩
 ·have hi:=(Qz.1 q).1;rw[o.cellAt i<|by omega,q]
 have:=(o.stored i u).1;simpa[Qh]using this
def Qh.len{w e a n cap xs}(b:Qh w e (.slice a n cap) xs):xs.length=n:=by
 rcases b.2 with⟨b,c⟩|⟨d,d,d,d,hb,f,f,f,f,f⟩
 ·injection b;omega
 injection d with b c h3;exact c.symm
def Qh.aZ{w e}{g n cap:Nat}{xs}(a:Qh w e (.slice g n cap) xs){j u}(b:xs[j]?=some u):w.cell? ⟨g,j,none⟩=some u:=by have c:=a.len;subst c;obtain⟨c,c,d,-,-,c,-,-⟩:=a.open (by have:=(Qz.1 b).1;omega);injection d with a h2 h3;injection a with a;injection a with a;subst a;exact c j u b
def Qh.free{w e}{g n cap:Nat}{xs}(a:Qh w e (.slice g n cap) xs)(j):w.frozen? ⟨g,j,none⟩=false:=by have b:=a.len;subst b;exact World.ownsRow.frozenAt a j
def Qh.put{w e}{g n cap:Nat}{xs}(a:Qh w e (.slice g n cap) xs)(j u):Qh (w.setCell ⟨g,j,none⟩ u) e (.slice g n cap) (xs.set j u):=by have b:=a.len;subst b;have:=(World.ownsRow.stored a j u).1;simpa[Qh]using this
def Qq(F a:LN):Prop:=∀b∈F,b∉a
def QP(n:Nat)(F b:LN):Prop:=∀a∈b,a∈F∨n≤a
def Qq.grow{n F a b}(c:Qq F a)(d:∀x∈F,x<n)(e:QP n a b):Qq F b:=fun x b a=>by
 rcases e x a with a|a
 ·exact c x b a
 have:=d x b;omega
def Qq.symm{F a}(b:Qq F a):Qq a F:=fun d c a=>b d a c
def Qq.fresh{n F a}(b:∀x∈F,x<n)(c:∀x∈a,n≤x):Qq F a:=fun x d a=>by have:=b x d;have:=c x a;omega
def ZM(F:LN):Qq F []:=fun _ _ a=>by cases a
def Qq.sub{F a b}(c:Qq F a)(hs:∀x∈b,x∈F):Qq b a:=fun x a=>c x<|hs x a
def QP.refl(n F):QP n F F:=fun _ a=>.inl a
def QP.trans{n m F a b}(c:QP n F a)(k:QP m a b)(a:n≤m):QP n F b:=fun b a=>by
 rcases k b a with a|a
 ·exact c b a
 exact .inr (by omega)
def Qs(n:Nat)(F:LN):Prop:=∀a∈F,n≤a
def Qs.grow{n m F a}(c:Qs n F)(d:QP m F a)(b:n≤m):Qs n a:=fun b a=>by
 rcases d b a with a|a
 ·exact c b a
 omega
def Qs.mono{n m F}(a:Qs n F)(b:m≤n):Qs m F:=fun d c=>QS b<|a d c
def Qb.new{a b c F}(d:Qb [] a b)(k:Qb F b c)(hf:Qs a.heap.size F):Qb [] a c:=d.trans k fun e d=>.inr<|hf e d
def Qp(w:WD)(size:Nat)(a:OA)(n:Nat)(xs:LV):Prop:=
 xs.length=n*size∧∀c d,xs[c]?=some d→∃b off,a=some ⟨b,off,none⟩∧w.cell? ⟨b,off+c,none⟩=some d
def fZ(a:OA):LN:=(a.map Addr.block).toList
def Qp.at{w size a n xs}(d:Qp w size a n xs)(h0:0<xs.length):∃b off,a=some ⟨b,off,none⟩∧∀j u,xs[j]?=some u→w.cell? ⟨b,off+j,none⟩=some u:=by obtain⟨b,off,ha,-⟩:=d.2 0 _<|Qj h0;refine⟨b,off,ha,fun j u f=>?_⟩;obtain⟨c,c,c,e⟩:=d.2 j u f;rw[ha]at c;injection c with c;injection c with c h2;subst c;subst h2;exact e
def Qp.kept{S w w' size a n xs}(c:Qp w size a n xs)(hk:Qb S w w')(ha:Qq (fZ a) S):Qp w' size a n xs:=by refine⟨c.1,fun g h f=>?_⟩;obtain⟨b,off,d,e⟩:=c.2 g h f;exact⟨b,off,d,hk.cZ e<|ha b<|by simp[fZ,d]⟩
def Qp.lt{w size a n xs}(b:Qp w size a n xs)(h0:0<xs.length):∀x∈fZ a,x<w.heap.size:=by obtain⟨c,off,d,c⟩:=b.2 0 _<|Qj h0;intro x b;simp only[fZ,d,AC,Fk,Za]at b;subst b;exact JN w _ c
def Qp.kZ{w w' size a n xs}(b:Qp w size a n xs)(hk:Qb [] w w'):Qp w' size a n xs:=b.kept hk<|ZM _
def Qh.sees{w e v xs}(h:Qh w e v xs):∃a cap,v=.slice a xs.length cap∧xs.length≤cap∧cap≤maxLen∧Qp w 1 a xs.length xs∧fZ a=Qd v:=by
 rcases h.2 with⟨rfl,q⟩|⟨g,cap,h4,rfl,hb,hg,h1,y,h5,ht⟩
 ·refine⟨none,0,by rw[q],by omega,ZF _,⟨by simp,fun j u o=>?_⟩,rfl⟩;have:=(Qz.1 o).1;omega
 have h3:w.ownsRow 0 e 1 (.slice g xs.length cap) xs.length xs:=h;refine⟨_,cap,rfl,h1,y,⟨by simp,fun j u o=>⟨g,0,rfl,?_⟩⟩,rfl⟩;have hi:=(Qz.1 o).1;rw[ZE,h3.cellAt j<|by omega,o]
def YZ{P w j m b a d}(s:b.guard=none)(l c:Operand)(t)(x:b.op=Op.makeSlice t l c)(e z bytes)(y:P.underlying t=some (.slice e))(T:(P.info? e).map (fun i=>(i.zero,i.size,i.bytes))=some (some z,1,bytes))(hz:z.cells=#[z])(h g:IntKind)(L C)(n k:Nat)(u:a.eval l=.int h L)(r:a.eval c=.int g C)(q:L=(n:Int))(o:C=(k:Int))(v:n≤k)(hb:bytes*k≤281474976710656)(f:k≤maxLen)(p:∀w',Qh w' e (.slice w.heap.size n k) (List.replicate n z)→Qb [] w w'→wpList P j d m (a.put b.dst<|.slice w.heap.size n k) w'):
 wpList P j d (b::m) a w:=by
 obtain⟨i,hi,h0,b,d⟩:=Vr T;subst d;subst q;subst o;have j:(i.bytes:Int)*k≤281474976710656:=by
  have d:((i.bytes*k:Nat):Int)≤281474976710656:=by omega
  rwa[Int.natCast_mul]at d
 have m:=run_make (P:=P) w t e i z y hi h0 h g n k (by omega) (by omega) j (by simp only[maxLen]at f;omega);refine DC s fun d d=>?_
 unfold Oper.wp;simp[execOp,x,u,r,m,Result.andThen];refine d _ _<|p _ ⟨by simp,.inr ⟨w.heap.size,k,_,by simp,ZF _,Xf w _,by simpa using v,f,by rw[b];simp[size_madeCells],?_⟩⟩<|(Qc _ _).alloc _;rw[b,hz,RY,Pd];simp[List.take_replicate];omega
def BN{P}(w t ty e z size bytes)(hu:P.underlying t=some (.slice e))(T:(P.info? e).map (fun i=>(i.zero,i.size,i.bytes))=some (some z,size,bytes))(x2:z.cells.size=size)(x1:0<size)(v n xs)(y:w.ownsRow 0 e size v n xs)(a m c news)(hl:news.length=m*size)(h3:∀j u,news[j]?=some u→w.cell? (a.add j)=some u)(h1:∀u∈news,u.oneCell'=true)(h5:n+m≤maxLen)(h8:(n+m)*bytes≤140737488355328):
 ∃o w',(Builtin.append_ #[t,t] ty #[v,.slice (some a) m c]).run P w=.ok o w'∧w'.ownsRow 0 e size o (n+m) (xs++news)∧Qb (Qd v) w w'∧
  (∀k∈Qd o,k∈Qd v∨w.heap.size≤k):=by
 obtain⟨i,hi,h0,h4,h9⟩:=Vr T;have K:∀w',w.grownBy w' v.ownBlock→Qb (Qd v) w w':=fun w' hg=>(Qc _ w).grown hg (by intro k hk;left;simp[Qd,hk])
 rcases y.2 with⟨rfl,rfl⟩|⟨g,cap,x0,rfl,hb,hg,x6,x4,x5,x7⟩
 ·have hx:xs=[]:=J3 (by simpa using y.1);subst hx;obtain⟨o,w',r,q,h2,-⟩:=run_append_own (P:=P) w w.heap.size t ty e i z size bytes hu hi h0 h4 h9 x2 x1 _ 0 [] (Mp _ _ _ _) a m c news hl h3 h1 h5 h8<|Ql _;refine⟨o,w',r,⟨q.1,?_⟩,K _ h2,fun k hk=>.inr (q.lt k<|by simpa[Qd]using hk).1⟩;rcases q.2 with h|⟨g,cap,x0,hv,hb,r⟩
  ·exact .inl h
  exact .inr ⟨g,cap,x0,hv,ZF _,r⟩
 by_cases x3:n+m≤cap
 ·obtain⟨w',r,q,h2⟩:=run_append_fits (P:=P) w 0 t ty e i size hu hi h4 g n cap xs y a m c news hl h3 h1 x3;exact⟨_,w',r,q,K _ h2,fun k hk=>.inl hk⟩
 obtain⟨o,w',r,q,h2,-⟩:=run_append_own (P:=P) w 0 t ty e i z size bytes hu hi h0 h4 h9 x2 x1 _ n xs y a m c news hl h3 h1 h5 h8<|ZF _;have holds:∀j u,xs[j]?=some u→w.cell? ((⟨g,0,none⟩:Addr).add j)=some u:=y.cells (g:=g) rfl;subst h4;subst h9;have r2:=run_append_grow (P:=P) w t ty e i z hu hi h0 ⟨g,0,none⟩ n cap xs y.1 holds a m c news hl h3 (by omega) (by simp only[maxLen]at h5;omega)<|IW (by omega) h8;have hv:o=.slice w.heap.size (n+m) (grownCap w (n+m) cap e):=by have:=r.symm.trans r2;injection this
 refine⟨o,w',r,q,K _ h2,fun k hk=>.inr ?_⟩;rw[hv]at hk;simp[Qd,qo]at hk;omega
def ES{P}(w0){w f h b a d}(k:b.guard=none)(s x:Operand)(t)(n:b.op=Op.call {callee:=Callee.builtin Builtin.append,args:=#[s,x],argTypes:=#[t,t]})(e z bytes)(p:P.underlying t=some (.slice e))(T:(P.info? e).map (fun i=>(i.zero,i.size,i.bytes))=some (some z,1,bytes))(hz:z.cells.size=1)(v u xs)(hs:a.eval s=v)(c:a.eval x=.slice w0.heap.size 1 1)(hw:w=w0.alloc (.cells #[u] e))(m:u.oneCell'=true)(o:Qh w0 e v xs)(l:xs.length+1≤maxLen)(hb:(xs.length+1)*bytes≤140737488355328)(j:∀g cap w',Qh w' e (.slice (some ⟨g,0,none⟩) (xs.length+1) cap) (xs++[u])→Qb (Qd v) w0 w'→(g∈Qd v∨w0.heap.size≤g)→
  wpList P f d h (a.put b.dst<|.slice (some ⟨g,0,none⟩) (xs.length+1) cap) w'):
 wpList P f d (b::h) a w:=by
 subst hw;obtain⟨d,w',f,d,hk,hf⟩:=BN (P:=P) (w0.alloc<|.cells #[u] e) t b.type e z 1 bytes p T hz (by decide) v xs.length xs (World.ownsRow.alloc o _)
  ⟨w0.heap.size,0,none⟩ 1 1 [u] rfl (by intro h b b;match h,b with|0,b=>simp at b;subst b;simp[Addr.add]) (by simpa using m) l hb
 refine DC k fun b b=>?_
 unfold Oper.wp;simp only[execOp,n,resolve,invoke,builtin,Sem.run_bind,Sem.run_pure,UF,Ax,QR,YG,hs,c,f];rcases d.2 with⟨-,h0⟩|⟨g,cap,f,rfl,-⟩
 ·omega
 refine b _ _<|j g cap w' (by simpa[Qh]using d) (((Qc (Qd v) w0).alloc _).trans hk fun x c=>.inl c) ?_;refine(hf g<|by simp[Qd,qo]).imp id fun b=>?_
 simp at b;omega
def CI{P w h9 x0 o a Q}(hg:o.guard=none)(s x:Operand)(t)(x5:o.op=Op.call {callee:=Callee.builtin Builtin.append,args:=#[s,x],argTypes:=#[t,t]})(e z bytes)(hu:P.underlying t=some (.slice e))(T:(P.info? e).map (fun i=>(i.zero,i.size,i.bytes))=some (some z,1,bytes))(hz:z.cells.size=1)(v xs news ao m c)(hs:a.eval s=v)(hx:a.eval x=.slice ao m c)(x4:∀u∈news,u.oneCell'=true)(h4:Qh w e v xs)(h5:Qp w 1 ao m news)(x2:ao=none→c=0)(hm:xs.length+m≤maxLen)(hb:(xs.length+m)*bytes≤140737488355328)(hK:∀a' q w',Qh w' e (.slice a' (xs.length+m) q) (xs++news)→Qb (Qd v) w w'→QP w.heap.size (Qd v) (Qd<|.slice a' (xs.length+m) q)→
  wpList P h9 Q x0 (a.put o.dst<|.slice a' (xs.length+m) q) w'):
 wpList P h9 Q (o::x0) a w:=by
 have h3:news.length=m:=by have:=h5.1;omega
 have key:∃y w',(Builtin.append_ #[t,t] o.type #[v,.slice ao m c]).run P w=.ok y w'∧w'.ownsRow 0 e 1 y (xs.length+m) (xs++news)∧Qb (Qd v) w w'∧QP w.heap.size (Qd v) (Qd y):=by
  cases ao with
  |some ad=>
   exact BN (P:=P) w t o.type e z 1 bytes hu T hz (by decide) v xs.length xs h4 ad m c news (by omega) (fun j u hj=>by obtain⟨b,off,h,h2⟩:=h5.2 j u hj;injection h with h;subst h;rwa[YM]) x4 hm hb
  |none=>
   have hn:news=[]:=by
    rcases news with _|⟨u,r⟩
    ·rfl
    obtain⟨b,off,h,-⟩:=h5.2 0 u rfl;cases h
   subst hn;have hc:=x2 rfl;simp only[Yg]at h3;subst h3;subst hc;obtain⟨i,hi,h0,h,h2⟩:=Vr T;have hr:=run_append_owned_none (P:=P) w 0 t o.type e i 1 hu hi v xs.length xs h4;exact⟨v,w,hr,by simpa[Qh]using h4,Qc _ _,QP.refl _ _⟩
 obtain⟨y,w',hr,ho,hk,x3⟩:=key;have h8:Qh w' e y (xs++news):=by unfold Qh;rwa[Qo,h3]
 obtain⟨a',q,hv,-⟩:=h8.sees;rw[Qo,h3]at hv;subst hv;refine DC hg fun K x1=>?_
 unfold Oper.wp;simp only[execOp,x5,resolve,invoke,builtin,Sem.run_bind,Sem.run_pure,UF,Ax,QR,YG,hs,hx,hr];exact x1 _ _<|hK a' q w' h8 hk x3
def wraps_i64'(n)(h0:0≤n)(a:n<2^62):IntKind.i64.wrap n=n:=by rw[Zz];omega
def rF(x:Nat)(a:x<2^62):bits .and .i64 (x:Int) 1=((x%2:Nat):Int):=by have:=bits_mask .i64 62 (by decide) wraps_i64' 1 (by decide) (x:Int) (by omega) (by exact_mod_cast a);rw[show(2:Int)^1-1=1 from rfl,show(2:Int)^1=2 from rfl]at this;rw[this];omega
def Qn(w:WD)(e:TypeId)(size:Nat)(v:VL)(n:Nat)(xs:LV):Prop:=w.ownsRow 0 e size v n xs
def Qn.nil(w e size):Qn w e size (.slice none 0 0) 0 []:=Mp w 0 e size
def Qn.kept{S w w' e size v n xs}(a:Qn w e size v n xs)(hk:Qb S w w')(f:Qq (Qd v) S):Qn w' e size v n xs:=by
 refine⟨a.1,?_⟩;rcases a.2 with d|⟨a,cap,c,b,g,hh,h⟩
 ·exact Or.inl d
 exact Or.inr ⟨a,cap,c,b,g,hk.heap hh<|f a<|by simp[Qd,b,qo],h⟩
def Qn.lt{w e size v n xs}(a:Qn w e size v n xs):∀k∈Qd v,k<w.heap.size:=by intro k hk;exact(World.ownsRow.lt a k<|by simpa[Qd]using hk).2
def Qn.sees{w e size v n xs}(h:Qn w e size v n xs):∃a cap,v=.slice a n cap∧n≤cap∧cap≤maxLen∧Qp w size a n xs∧fZ a=Qd v:=by
 rcases h.2 with⟨rfl,o⟩|⟨g,cap,h4,rfl,hb,hg,h1,y,h5,ht⟩
 ·refine⟨none,0,by rw[o],by omega,ZF _,⟨h.1,fun j u hj=>?_⟩,rfl⟩;have:=(Qz.1 hj).1;rw[h.1,o]at this;omega
 have h3:w.ownsRow 0 e size (.slice g n cap) n xs:=h;refine⟨_,cap,rfl,h1,y,⟨h.1,fun j u q=>⟨g,0,rfl,?_⟩⟩,rfl⟩;have hi:=(Qz.1 q).1;rw[ZE,h3.cellAt j<|by rwa[←h.1],q]
def XK(a n c):Qd (.slice a n c)=fZ a:=by cases a<;>rfl
def RO{P}(w0){w f h b a d}(k:b.guard=none)(s x:Operand)(t)(o:b.op=Op.call {callee:=Callee.builtin Builtin.append,args:=#[s,x],argTypes:=#[t,t]})(e z size bytes)(q:P.underlying t=some (.slice e))(T:(P.info? e).map (fun i=>(i.zero,i.size,i.bytes))=some (some z,size,bytes))(hz:z.cells.size=size)(h0:0<size)(v n xs news)(hs:a.eval s=v)(c:a.eval x=.slice w0.heap.size 1 1)(hw:w=w0.alloc (.cells news.toArray e))(j:news.length=size)(m:∀u∈news,u.oneCell'=true)(p:Qn w0 e size v n xs)(l:n+1≤maxLen)(hb:(n+1)*bytes≤140737488355328)(j:∀g cap w',Qn w' e size (.slice (some ⟨g,0,none⟩) (n+1) cap) (n+1) (xs++news)→Qb (Qd v) w0 w'→(g∈Qd v∨w0.heap.size≤g)→
  wpList P f d h (a.put b.dst<|.slice (some ⟨g,0,none⟩) (n+1) cap) w'):
 wpList P f d (b::h) a w:=by
 subst hw;obtain⟨d,w',f,d,hk,hf⟩:=BN (P:=P) (w0.alloc<|.cells news.toArray e) t b.type e z size bytes q T hz h0 v n xs (World.ownsRow.alloc p _)
  ⟨w0.heap.size,0,none⟩ 1 1 news (by omega) (by intro b b b;rw[YM,ZE];rw[To _ _ _ _ rfl];simpa using b) m l hb
 refine DC k fun b b=>?_
 unfold Oper.wp;simp only[execOp,o,resolve,invoke,builtin,Sem.run_bind,Sem.run_pure,UF,Ax,QR,YG,hs,c,f];rcases d.2 with⟨-,h0⟩|⟨g,cap,f,rfl,-⟩
 ·omega
 refine b _ _<|j g cap w' d (((Qc (Qd v) w0).alloc _).trans hk fun x c=>.inl c) ?_;refine(hf g<|by simp[Qd,qo]).imp id fun b=>?_
 simp at b;omega
def Qfr{P w}(t ty e z bytes)(hu:P.underlying t=some (.slice e))(T:(P.info? e).map (fun i=>(i.zero,i.size,i.bytes))=some (some z,1,bytes))(hz:z.cells.size=1)(v xs news ao m c)(x0:∀u∈news,u.oneCell'=true)(h3:Qh w e v xs)(h4:Qp w 1 ao m news)(h8:ao=none→c=0)(hm:xs.length+m≤maxLen)(hb:(xs.length+m)*bytes≤140737488355328):
 ∃a' o w',(Builtin.append_ #[t,t] ty #[v,.slice ao m c]).run P w=.ok (.slice a' (xs.length+m) o) w'∧Qh w' e (.slice a' (xs.length+m) o) (xs++news)∧Qb (Qd v) w w'∧
  QP w.heap.size (Qd v) (Qd<|.slice a' (xs.length+m) o):=by
 have y:news.length=m:=by have:=h4.1;omega
 have key:∃q w',(Builtin.append_ #[t,t] ty #[v,.slice ao m c]).run P w=.ok q w'∧w'.ownsRow 0 e 1 q (xs.length+m) (xs++news)∧Qb (Qd v) w w'∧QP w.heap.size (Qd v) (Qd q):=by
  cases ao with
  |some ad=>
   exact BN (P:=P) w t ty e z 1 bytes hu T hz (by decide) v xs.length xs h3 ad m c news (by omega) (fun j u hj=>by obtain⟨b,off,h,h2⟩:=h4.2 j u hj;injection h with h;subst h;rwa[YM]) x0 hm hb
  |none=>
   have hn:news=[]:=by
    rcases news with _|⟨u,r⟩
    ·rfl
    obtain⟨b,off,h,-⟩:=h4.2 0 u rfl;cases h
   subst hn;have hc:=h8 rfl;simp only[Yg]at y;subst y;subst hc;obtain⟨i,hi,h0,h,h2⟩:=Vr T;have hr:=run_append_owned_none (P:=P) w 0 t ty e i 1 hu hi v xs.length xs h3;exact⟨v,w,hr,by simpa[Qh]using h3,Qc _ _,QP.refl _ _⟩
 obtain⟨q,w',hr,ho,hk,h9⟩:=key;have h5:Qh w' e q (xs++news):=by unfold Qh;rwa[Qo,y]
 obtain⟨a',o,hv,-⟩:=h5.sees;rw[Qo,y]at hv;subst hv;exact⟨a',o,w',hr,h5,hk,h9⟩
def Qg4{P w f b a K h}{g:Prop}(l:b.guard=none)(s x:Operand)(t)(p:b.op=Op.call {callee:=Callee.builtin Builtin.append,args:=#[s,x],argTypes:=#[t,t]})(e z bytes)(y:P.underlying t=some (.slice e))(T:(P.info? e).map (fun i=>(i.zero,i.size,i.bytes))=some (some z,1,bytes))(hz:z.cells.size=1)(v xs news ao m c)(hs:a.eval s=v)(A:a.eval x=.slice ao m c)(o:∀u∈news,u.oneCell'=true)(q:Qh w e v xs)(r:Qp w 1 ao m news)(k:ao=none→c=0)(n:xs.length+m≤maxLen)(hb:(xs.length+m)*bytes≤140737488355328)(j:∀a' d w',Qh w' e (.slice a' (xs.length+m) d) (xs++news)→Qb (Qd v) w w'→QP w.heap.size (Qd v) (Qd<|.slice a' (xs.length+m) d)→
  K (a.put b.dst<|.slice a' (xs.length+m) d) w'):
 if Region.wanted b (yielded f a.tmps)=true then Oper.wp P b a w K h else g:=by
 have hw:Region.wanted b (yielded f a.tmps)=true:=by simp[Region.wanted,l]
 rw[Qg hw];obtain⟨a',d,w',l,f,g,h⟩:=Qfr (P:=P) t b.type e z bytes y T hz v xs news ao m c o q r k n hb;unfold Oper.wp;simp only[execOp,p,resolve,invoke,builtin,Sem.run_bind,Sem.run_pure,UF,Ax,QR,YG,hs,A,l];exact j a' d w' f g h
def Qft{P}(w t l e z size bytes)(r:P.underlying t=some (.slice e))(T:(P.info? e).map (fun i=>(i.zero,i.size,i.bytes))=some (some z,size,bytes))(C:z.cells.size=size)(B:0<size)(g n cap:Nat)(xs)(b:w.ownsRow 0 e size (.slice g n cap) n xs)(a m c news)(o:news.length=m*size)(p:∀j u,news[j]?=some u→w.cell? (a.add j)=some u)(s:∀u∈news,u.oneCell'=true)(v:n+m≤maxLen)(x:(n+m)*bytes≤140737488355328):
 ∃d f w',(Builtin.append_ #[t,t] l #[.slice g n cap,.slice (some a) m c]).run P w=.ok (.slice (some ⟨d,0,none⟩) (n+m) f) w'∧
  w'.ownsRow 0 e size (.slice (some ⟨d,0,none⟩) (n+m) f) (n+m) (xs++news)∧Qb [g] w w'∧(d=g∨w.heap.size≤d)∧
  (∀j u,xs[j]?=some u→w'.cell? ⟨g,j,none⟩=some u):=by
 obtain⟨i,hi,h0,q,A⟩:=Vr T;have holds:∀j u,xs[j]?=some u→w.cell? ((⟨g,0,none⟩:Addr).add j)=some u:=b.cells (g:=g) rfl;have:g<w.heap.size:=(World.ownsRow.lt b g<|by simp[qo]).2
 by_cases d:n+m≤cap
 ·obtain⟨w',k,h,y⟩:=run_append_fits (P:=P) w 0 t l e i size r hi q g n cap xs b a m c news o p s d;refine⟨g,cap,w',k,h,(Qc _ w).grown y (by intro d hk;left;cases hk;simp),.inl rfl,fun j u f=>?_⟩;have d:=h.cells (g:=g) rfl j u (by rwa[Xp (Qz.1 f).1]);rwa[YM,ZE]at d
 obtain⟨D,w',k,h,y,-⟩:=run_append_own (P:=P) w 0 t l e i z size bytes r hi h0 q A C B _ n xs b a m c news o p s v x<|ZF _;subst q;subst A;have q:=run_append_grow (P:=P) w t l e i z r hi h0 ⟨g,0,none⟩ n cap xs b.1 holds a m c news o p (by omega) (by simp only[maxLen]at v;omega)<|IW (by omega) x;have b:=k.symm.trans q;injection b with b hw;subst b;refine⟨w.heap.size,_,w',k,h,?_,.inr<|Ql _,fun j u f=>?_⟩
 ·rw[hw];exact((Qc _ w).drew).alloc _
 have d:=holds j u f;rw[YM,ZE]at d;rw[hw];exact(((Qc [] w).drew).alloc _).cZ d (by simp)
def jJ{P:Program}{w:WD}{k:Array Oper}{b:Oper}{a:Act}{K:Act→WD→Prop}{o:Exit→Act→WD→Prop}{l:Prop}
 (p:b.guard=none)(s x:Operand)(t:TypeId)(B:b.op=Op.call {callee:=Callee.builtin Builtin.append,args:=#[s,x],argTypes:=#[t,t]})
 (e:TypeId)(z:VL)(size bytes:Nat)(F:P.underlying t=some (.slice e))(T:(P.info? e).map (fun i=>(i.zero,i.size,i.bytes))=some (some z,size,bytes))(hz:z.cells.size=size)(E:0<size)
 (g n cap:Nat)(xs news:LV)(h:Addr)(m c:Nat)(hs:a.eval s=.slice g n cap)(G:a.eval x=.slice (some h) m c)(A:∀u∈news,u.oneCell'=true)
 (C:w.ownsRow 0 e size (.slice g n cap) n xs)(r:news.length=m*size)(y:∀j u,news[j]?=some u→w.cell? (h.add j)=some u)(v:n+m≤maxLen)(hb:(n+m)*bytes≤140737488355328)
 (q:∀d f w',w'.ownsRow 0 e size (.slice (some ⟨d,0,none⟩) (n+m) f) (n+m) (xs++news)→Qb [g] w w'→(d=g∨w.heap.size≤d)→(∀j u,xs[j]?=some u→w'.cell? ⟨g,j,none⟩=some u)→
  K (a.put b.dst<|.slice (some ⟨d,0,none⟩) (n+m) f) w'):
 if Region.wanted b (yielded k a.tmps)=true then Oper.wp P b a w K o else l:=by
 have hw:Region.wanted b (yielded k a.tmps)=true:=by simp[Region.wanted,p]
 rw[Qg hw];obtain⟨d,f,w',D,k,l,o,p⟩:=Qft (P:=P) w t b.type e z size bytes F T hz E g n cap xs C h m c news r y A v hb;unfold Oper.wp;simp only[execOp,B,resolve,invoke,builtin,Sem.run_bind,Sem.run_pure,UF,Ax,QR,YG,hs,G,D];exact q d f w' k l o p
def Dg{P:Program}{e:Array Oper}{g:Exit→Act→WD→Prop}{k:Region.Mode}{S:WD→Prop}{l:Nat}{j:Array Bool}{a:Act}{w:WD}(i d:Nat)
 (b:(e[i]?).map (fun f=>f.dst)=some (some d))(hs:Region.noSelect e=true)(hf:Region.free k e j i=true)(p:(Region.ready k e j).contains i=true)
 (n:∀c a w,g (.panic c) (a.put (some d) undef) w→g (.panic c) a w)(h:(e[i]?).map (fun f=>Region.wanted f<|yielded e a.tmps)=some false)(o:S w)
 (m:wpAnyH P k e g S l (j.setIfInBounds i true) (a.put (some d) undef) w):wpAnyH P k e g S (l+1) j a w:=by
 cases ho:e[i]? with
 |none=>rw[ho]at b;cases b
 |some f=>rw[ho]at b h;injection b with b;have b:f.dst=some d:=b;injection h with h;exact wpAnyH_take ho hs hf p (by rwa[b]) (Or.inr ⟨h,rfl⟩) o (by rwa[b])
def Kb{P:Program}{b:Array Oper}{g:Exit→Act→WD→Prop}{k:Region.Mode}{S:WD→Prop}{l:Nat}{j:Array Bool}{a:Act}{w:WD}(i d:Nat)(v:VL)
 (e:(b[i]?).map (fun f=>f.dst)=some (some d))(hs:Region.noSelect b=true)(hf:Region.free k b j i=true)(p:(Region.ready k b j).contains i=true)
 (n:∀c a w,g (.panic c) (a.put (some d) v) w→g (.panic c) a w)(h:(b[i]?).map (fun f=>Region.wanted f<|yielded b a.tmps)=some true)
 (q:∀f,b[i]?=some f→∀w,S w→(execOp a.eval f).run P w=.ok (.value v) w)(o:S w)
 (m:wpAnyH P k b g S l (j.setIfInBounds i true) (a.put (some d) v) w):wpAnyH P k b g S (l+1) j a w:=by
 cases ho:b[i]? with
 |none=>rw[ho]at e;cases e
 |some f=>rw[ho]at e h;injection e with e;have e:f.dst=some d:=e;injection h with h;exact wpAnyH_take ho hs hf p (by rwa[e]) (Or.inl ⟨h,q f ho⟩) o (by rwa[e])
