import Derived.Lib.AppendStr
import Derived.Shelf.Abstract
import Derived.Shelf.RegionOpen
import Derived.OwnWalkIn
import Derived.TacticsInMore
import Derived.LoopNIn
import Derived.LoopIn
import Derived.Sort.LoopGhostIn
import Derived.WalkMore
import Derived.Deep.CutRange
import Derived.Deep.CutBlock
import Derived.Deep.QuietTactic
import Derived.Test.YtickjpnkoppmgaaGreatDoorAz
set_option linter.all false
set_option maxHeartbeats 4000000
set_option maxRecDepth 100000
namespace Go.Proofs.YtickjpnkoppmgaaGreatDoor
open Go.Proofs.Tryz Go.RowKit K
section
open Go.Lib
def Qh8{P}(w t u g e)(m:P.underlying t=some (.slice e))(hu:P.underlying u=some .string)(T:(P.info? e).map (fun i=>(i.zero,i.size,i.bytes))=some (some<|.int .u8 0,1,1))(v xs)(y:Qh w e v xs)(s:BA)(hb:xs.length+s.size<=140737488355328):
 ∃h w',(Builtin.append_ #[t,u] g #[v,s]).run P w=.ok h w'/\w'.ownsRow 0 e 1 h (xs.length+s.size) (xs++strCells s)/\Qb (Qd v) w w'/\QQ w.heap.size (Qd v) (Qd h):=by
 obtain⟨i,hi,h0,l,z⟩:=VR T;have n:∀w',w.grownBy w' v.ownBlock->Qb (Qd v) w w':=fun w' p=>(Qc _ w).grown p (by intro k hk;left;simp[Qd,hk])
 have o:xs.length+s.size<=maxLen:=by simp only[maxLen];omega
 obtain⟨h,w',r,x,q,-⟩:=run_append_own_string (P:=P) w 0 t u g e i m hu hi h0 l z v xs xs y s o hb<|Zv _;rcases y.2 with⟨rfl,hz⟩|⟨j,cap,A,rfl,c,p,c,c,c,c⟩
 ·have c:xs=[]:=J4 hz;subst c;obtain⟨v2,c,d,B,c,-⟩:=run_append_own_string (P:=P) w w t u g e i m hu hi h0 l z () 0 [] (Nu _ _ _ _) s o hb<|Qk _;have:=r.symm.trans d;injection this with c h2;subst c h2;exact⟨_,_,r,x,n _ q,fun k hk=>.inr (B.lt k<|by simpa[Qd]using hk).1⟩
 by_cases B:xs.length+s.size<=cap
 ·have d:=run_append_room_string (P:=P) w t u g e i m hu hi l j xs cap A p s B ox;have:=r.symm.trans d;injection this with c h2;subst c;exact⟨_,_,r,x,n _ q,fun k hk=>.inl<|by simpa[Qd,qo]using hk⟩
 have holds:∀p u,xs[p]?=some u->w.cell? ((⟨j,0,none⟩:Addr).add p)=some u:=y.cells (g:=j) rfl;have d:=run_append_grow_string (P:=P) w t u g e i (.int .u8 0) m hu hi h0 ⟨j,0,none⟩ xs cap xs (by rw[l,RW]) holds s ox (by simp only[maxLen]at o;omega) (KR ox<|by rwa[z,RW]);have:=r.symm.trans d;injection this with c h2;refine⟨h,w',r,x,n _ q,fun k hk=>.inr ?_⟩;rw[c]at hk;simp[Qd,qo]at hk;omega
def SH{P w h j d a g}(n:d.guard=none)(c x:Operand)(t u)(p:d.op=Op.call {callee:=Callee.builtin Builtin.append,args:=#[c,x],argTypes:=#[t,u]})(e)(y:P.underlying t=some (.slice e))(hu:P.underlying u=some .string)(T:(P.info? e).map (fun i=>(i.zero,i.size,i.bytes))=some (some<|.int .u8 0,1,1))(v xs s m)(o:s.size=m)(hs:a.eval c=v)(z:a.eval x=.string s)(q:Qh w e v xs)(hb:xs.length+m<=140737488355328)(l:∀a' c w',Qh w' e (.slice a' (xs.length+m) c) (xs++strCells s)->Qb (Qd v) w w'->QQ w.heap.size (Qd v) (Qd<|.slice a' (xs.length+m) c)->
  wpList P h g j (a.put d.dst<|.slice a' (xs.length+m) c) w'):
 wpList P h g (d::j) a w:=by
 subst o;obtain⟨o,w',j,g,hk,h⟩:=Qh8 (P:=P) w t u d.type e y hu T v xs q s hb;have d:Qh w' e o (xs++strCells s):=by unfold Qh;rwa[Qo,strCells_length]
 obtain⟨a',c,g,-⟩:=d.sees;rw[Qo,strCells_length]at g;subst g;refine El n fun g g=>?_
 unfold Oper.wp;simp only[execOp,p,resolve,invoke,builtin,Sem.run_bind,Sem.run_pure,Ua,Bc,QV,Y6,hs,z,j];exact g _ _<|l a' c w' d hk h
end
section
open Go.Shelf
def str(l:LU):BA:=⟨l.toArray⟩
def Cr(l):(str l).size=l.length:=rfl
def XW(l):(str l).data.toList=l:=rfl
def Do(s:BA)(h:0<s.size):s.toList.isEmpty=false:=by
 rw[Xk];have:=Zr s;cases hl:s.data.toList with
 |nil=>rw[hl]at this;simp at this;omega
 |cons=>rfl
def Qh.ao{w e a n c xs}(h:Qh w e (.slice a n c) xs):(a=none->c=0)/\n<=c/\c<=maxLen:=by
 rcases h.2 with⟨d,-⟩|⟨g,cap,g,d,-,-,i,g,-⟩
 ·injection d with d i g;subst i g;exact⟨fun _=>rfl,Qk _,Zv _⟩
 injection d with d h4 h5;subst d h5;exact⟨(fun h=>(by cases h)),ox,g⟩
def Qe.sees{w g size n xs t}(h:Qe w g t xs)(c:xs.length=n*size):Qp w size g n xs:=
 ⟨c,fun c c c=>⟨g,0,rfl,by rw[Zu];exact h.cell c⟩⟩
def Qp.get1{w b off n xs}(h:Qp w 1 (some ⟨b,off,none⟩) n xs){j u}(hu:xs[j]?=some u):w.cell? ⟨b,off+j,none⟩=some u:=by obtain⟨c,c,c,d⟩:=h.2 j u hu;injection c with c;injection c with c h2;subst c h2;exact d
def aG{P}(t e)(i:TypeInfo)(hu:P.underlying t=some (.slice e))(hi:P.info? e=some i)(W):
 (Instr.buildSlice t 0 #[]).run P W=.ok (.slice W.heap.size 0 0) (W.alloc<|.cells #[] e):=by
 simp[Instr.buildSlice,Jn hu,sizeOf,typeInfo,hi,Instr.fill,newRow];rw[show(Array.map (fun c:Nat=>(default:VL))<|Array.range 0)=#[]from Array.eq_empty_of_size_eq_zero sx]
def Qh.mt{W:WD}(e):Qh (W.alloc<|.cells #[] e) e (.slice W.heap.size 0 0) []:=
 ⟨rfl,.inr ⟨W.heap.size,0,#[],rfl,Zv _,Xq W _,Qk _,Zv _,rfl,rfl⟩⟩
def Sf{P}(t e)(i:TypeInfo)(hu:P.underlying t=some (.slice e))(hi:P.info? e=some i)(g:i.size=1)(b off n c k:Nat)(x)(d:x=(k:Int))(h:k<=n)(j:k<c)(W):
 (Instr.slice t (.slice (some ⟨b,off,none⟩) n c) (some<|.int .i64 x) none none).run P W=.ok (.slice (some ⟨b,off+k,none⟩) (n-k)<|c-k) W:=by
 subst d;obtain⟨d,j⟩: ¬c=k/\(k:Int)<=n:=ox
 simp[Instr.slice,Jn hu,sizeOf,typeInfo,hi,g,Instr.sliceBounds,Instr.sliceBound,asIntOf,j,h,d,Jc]
def Qm.cells{w e size v n xs}(h:Qm w e size v n xs):∀b∈Qd v,∃c:Obj,w.heap[b]?=some c/\c.isCells=true:=by
 intro b hb;rcases h.2 with⟨rfl,-⟩|⟨c,cap,c,rfl,-,c,-⟩
 ·simp[Qd,qo]at hb
 simp[Qd,qo]at hb;subst hb;exact⟨_,c,rfl⟩
def keeps_of{S A d}(k:Qb S A d)(h:∀b∈S,∃c:Obj,A.heap[b]?=some c/\c.isCells=true):KeepsOthers A d:=
 ⟨k.size,fun b c hb c=>k.heap hb (fun g=>by obtain⟨d,d,e⟩:=h b g;rw[d]at hb;injection hb with hb;subst hb;rw[e]at c;cases c)⟩
def oV{F:Fence}{n P}(w0){w l m c a j}(p:c.guard=none)(s x:Operand)(t)(d:c.op=Op.call {callee:=Callee.builtin Builtin.append,args:=#[s,x],argTypes:=#[t,t]})(e z size bytes)(hu:P.underlying t=some (.slice e))(T:(P.info? e).map (fun i=>(i.zero,i.size,i.bytes))=some (some z,size,bytes))(hz:z.cells.size=size)(h0:0<size)(v k xs news)(hs:a.eval s=v)(h:a.eval x=.slice w0.heap.size 1 1)(hw:w=w0.alloc (.cells news.toArray e))(o:news.length=size)(y:∀u∈news,u.oneCell'=true)(A:Qm w0 e size v k xs)(q:k+1<=maxLen)(hb:(k+1)*bytes<=140737488355328)(o:∀g cap w',Qm w' e size (.slice (some ⟨g,0,none⟩) (k+1) cap) (k+1) (xs++news)->Qb (Qd v) w0 w'->(g∈Qd v\/w0.heap.size<=g)->
  wpListIn F n P l j m (a.put c.dst<|.slice (some ⟨g,0,none⟩) (k+1) cap) w'):
 wpListIn F n P l j (c::m) a w:=by
 subst hw;obtain⟨j,w',m,j,hk,hf⟩:=Cp (P:=P) (w0.alloc<|.cells news.toArray e) t c.type e z size bytes hu T hz h0 v k xs (World.ownsRow.alloc A _)
  ⟨w0.heap.size,0,none⟩ 1 1 news ox (by intro c c c;rw[Jc,Zu];rw[WL _ _ _ _ rfl];simpa using c) y q hb
 refine wpListIn_plain p fun c c=>?_
 unfold Oper.wpIn;refine⟨by simp[Oper.about,d,resolve,Target.leads,Sem.run_pure],?_⟩;rw[Oper.semAt_plain F _ _ (by rw[d];intro l l;cases l)];rcases j.2 with⟨-,h0⟩|⟨g,cap,l,rfl,-⟩
 ·omega
 simp only[execOp,d,resolve,invoke,builtin,Sem.run_bind,Sem.run_pure,Ua,Bc,QV,Y6,hs,h,m];refine c _ _<|o g cap w' j (((Qc (Qd v) w0).alloc _).trans hk fun x h=>.inl h) ?_;refine(hf g<|by simp[Qd,qo]).imp id fun c=>?_
 simp at c;omega
def Qe7{F:Fence}{n P w w' l c a K g}{e:Prop}{v}(i:c.guard=none)(s x:Operand)(t)(d:c.op=Op.call {callee:=Callee.builtin Builtin.append,args:=#[s,x],argTypes:=#[t,t]})(j:(Builtin.append_ #[t,t] c.type #[a.eval s,a.eval x]).run P w=.ok v w')(h:K (a.put c.dst v) w'):if Region.wanted c (yielded l a.tmps)=true then Oper.wpIn F n P c a w K g else e:=by
 rw[Qg<|by simp[Region.wanted,i]];unfold Oper.wpIn;refine⟨by simp[Oper.about,d,resolve,Target.leads,Sem.run_pure],?_⟩;rw[Oper.semAt_plain F _ _ (by rw[d];intro c c;cases c)];simp only[execOp,d,resolve,invoke,builtin,Sem.run_bind,Sem.run_pure,Ua,Bc,QV,Y6,j];exact h
def lU{w:World}{p c u v x}(h:w.cell? ⟨c,0,none⟩=some x)(hne:c≠p):((w.setCell ⟨p,0,none⟩ u).setCell ⟨p,1,none⟩ v).cell? ⟨c,0,none⟩=some x:=
 (((Qc [p] w).setCell (p:=⟨p,0,none⟩) sx _).setCell (p:=⟨p,1,none⟩) sx _).cZ h (by simpa using hne)
def Qb.put{S a b}(h:Qb S a b){l}(c:l∈S\/a.heap.size<=l)(d):Qb S a (b.putObj l d):=
 h.trans (T:=[l]) ⟨rfl,rfl,rfl,sx,fun k hk d=>World.putObj_heap_other<|by simpa using d⟩ (by simpa using c)
def Hl{P w A c a K l}{h:Prop}(n:c.guard=none)(s x:Operand)(t)(q:c.op=Op.call {callee:=Callee.builtin Builtin.append,args:=#[s,x],argTypes:=#[t,t]})(e z size bytes)(hu:P.underlying t=some (.slice e))(T:(P.info? e).map (fun i=>(i.zero,i.size,i.bytes))=some (some z,size,bytes))(hz:z.cells.size=size)(h0:0<size)(v k xs news d)(hs:a.eval s=v)(B:a.eval x=.slice (some d) 1 1)(j:Qp w size (some d) 1 news)(p:∀u∈news,u.oneCell'=true)(y:Qm w e size v k xs)(o:k+1<=maxLen)(hb:(k+1)*bytes<=140737488355328)(m:∀g cap w',Qm w' e size (.slice (some ⟨g,0,none⟩) (k+1) cap) (k+1) (xs++news)->Qb (Qd v) w w'->(g∈Qd v\/w.heap.size<=g)->K (a.put c.dst<|.slice (some ⟨g,0,none⟩) (k+1) cap) w'):
 if Region.wanted c (yielded A a.tmps)=true then Oper.wp P c a w K l else h:=by
 obtain⟨h,w',A,h,hk,hf⟩:=Cp (P:=P) w t c.type e z size bytes hu T hz h0 v k xs y d 1 1 news (yx j.1) (by intro y u l;obtain⟨b,off,c,d⟩:=j.2 y u l;injection c with c;subst c;rwa[Jc]) p o hb;rcases h.2 with⟨-,h0⟩|⟨g,cap,c,rfl,-⟩
 ·omega
 rw[Qg<|by simp[Region.wanted,n]];unfold Oper.wp;simp only[execOp,q,resolve,invoke,builtin,Sem.run_bind,Sem.run_pure,Ua,Bc,QV,Y6,hs,B,A];exact m g cap w' h hk (hf g<|by simp[Qd,qo])
end
namespace K
def Yo(b:UInt8):Nat->LU->Nat
 |0,_=>0
 |_,[]=>0
 |f+1,x::r=>if x=b then Yo b f r+1 else 0
def He(b):∀(f:Nat)(l:LU),Yo b f l<=f/\Yo b f l<=l.length
 |0,l=>by simp[Yo]
 |f+1,[]=>by simp[Yo]
 |f+1,x::r=>by
  have:=He b f r;rw[Yo]
  split
  ·simp;omega
  simp
def PW(b):∀(f:Nat)(l:LU),l.take (Yo b f l)=List.replicate (Yo b f l) b
 |0,l=>by simp[Yo]
 |f+1,[]=>by simp[Yo]
 |f+1,x::r=>by
  rw[Yo]
  split
  ·rename_i h;subst h;rw[FW,PW x f r,JB]
  simp
def lH(b):∀(f:Nat)(l:LU),Yo b f l<f->∀x,(l.drop<|Yo b f l).head?=some x->x≠b
 |0,l,h,x,hx=>by omega
 |f+1,[],h,x,hx=>by simp[Yo]at hx
 |f+1,y::r,h,x,hx=>by
  rw[Yo]at h hx
  split at h
  ·rename_i o;rw[Qg o,List.drop_succ_cons]at hx;exact lH b f r ox x hx
  rename_i o;rw[Qf o]at hx;simp at hx;rwa[<-hx]
def BF(b:UInt8)(n:Nat):LU:=if n<4 then List.replicate n b else List.replicate 4 b++[UInt8.ofNat (n-4)]
def Co:Nat->LU->LU
 |0,_=>[]
 |_,[]=>[]
 |f+1,b::r=>BF b (1+Yo b 254 r)++Co f (r.drop (Yo b 254 r))
def ZF(s:LU):LU:=Co s.length s
def Qhj:∀(f:Nat)(s:LU),s.length<=f->Co f s=ZF s:=by
 have key:∀(f c:Nat)(s:LU),s<=f->s<=c->Co f s=Co c s:=by
  intro f
  induction f with
  |zero=>intro c s e d;have:s=[]:=J4 ox;subst this;cases c<;>rfl
  |succ f ih=>
   intro c s e d;cases s with
   |nil=>cases c<;>rfl
   |cons b r=>
    cases c with
    |zero=>simp at d
    |succ c=>have:=He b 254 r;rw[Co,Co,ih c _ (by rw[YN];simp at e;omega) (by rw[YN];simp at d;omega)]
 exact fun f s c=>key f s s c<|Qk _
def LH:ZF []=[]:=rfl
def LG(b r):ZF (b::r)=BF b (1+Yo b 254 r)++ZF (r.drop<|Yo b 254 r):=by show Co (r.length+1) (b::r)=_;rw[Co,Qhj _ _ (by rw[YN];omega)]
def lI(b n)(h:1<=n):1<=(BF b n).length/\4*(BF b n).length<=5*n:=by
 unfold BF
 split
 ·simp;omega
 simp;omega
def Ed(s):4*(ZF s).length<=5*s.length:=by
 induction hn:s.length using Nat.strongRecOn generalizing s with
 |_ k ih=>
  cases s with
  |nil=>simp[LH]
  |cons b r=>have:=He b 254 r;have:=(lI b (1+Yo b 254 r) ox).2;have c:=ih (r.drop<|Yo b 254 r).length (by rw[YN];simp at hn;omega) _ rfl;rw[YN]at c;rw[LG,Qo];simp at hn;omega
def Fw(s)(h:s≠[]):0<(ZF s).length:=by
 cases s with
 |nil=>exact absurd rfl h
 |cons b r=>rw[LG,Qo];have:=(lI b (1+Yo b 254 r) ox).1;omega
def JK:Nat->UInt8->LU->LU->Option LU
 |same,_,out,[]=>if same=4 then none else some out
 |same,last,out,x::r=>
  if same=4 then(if 262144<out.length+x.toNat then none else JK 0 last (out++List.replicate x.toNat last) r)
  else if out.length=262144 then none else JK (if 0<same/\x=last then same+1 else 1) x (out++[x]) r
def lA(b):∀(n:Nat)(same:Nat)(out c:LU),0<same->same+n<=4->out.length+n<=262144->JK same b out (List.replicate n b++c)=JK (same+n) b (out++List.replicate n b) c
 |0,same,out,c,h0,h4,hl=>by simp
 |n+1,same,out,c,h0,h4,hl=>by rw[JB,XY,JK,Qf ox,Qf ox,Qg ⟨h0,rfl⟩,lA b n (same+1) _ c ox ox zx];rw[show same+1+n=same+(n+1)by omega];simp
def Qhh(b n same last out d)(hs:same<4)(hb:same=0\/b≠last)(h:1<=n)(c:n<=255)(c:out.length+n<=262144):
 JK same last out (BF b n++d)=JK (if n<4 then n else 0) b (out++List.replicate n b) d:=by
 have first:∀(k:Nat)(c:LU),1<=k->k<=4->k<=n->JK same last out (List.replicate k b++c)=JK k b (out++List.replicate k b) c:=by intro k c hk e e;obtain⟨k,rfl⟩:∃e,k=e+1:=⟨k-1,ox⟩;rw[JB,XY,JK,Qf ox,Qf ox,Qf (by rintro⟨e,g⟩;exact hb.elim (fun e=>ox) fun e=>e g),lA b k 1 _ c ox ox zx,CD 1 k];simp
 unfold BF
 by_cases c:n<4
 ·rw[Qg c,Qg c,first n d h ox<|Qk _]
 have d:(UInt8.ofNat<|n-4).toNat=n-4:=by rw[U6];omega
 rw[Qf c,Qf c,QR,first 4 _ ox ox ox,XY,JK,Qg rfl,d,Qf zx,YU,QR,Tp,(ox:4+(n-4)=n)]
def Qhm:∀(k:Nat)(s:LU)(same:Nat)(last:UInt8)(out:LU),s.length<=k->same<4->(same=0\/∀x,s.head?=some x->x≠last)->out.length+s.length<=262144->JK same last out (ZF s)=some (out++s):=by
 intro k
 induction k with
 |zero=>intro s same last out c d hb e;have:s=[]:=J4 ox;subst this;rw[LH,JK,Qf ox,XX]
 |succ k ih=>
  intro s same last out c d hb e;cases s with
  |nil=>rw[LH,JK,Qf ox,XX]
  |cons b r=>
   obtain⟨g1,g⟩:=He b 254 r;have g3:=PW b 254 r;simp only[QW]at c e;rw[LG,Qhh b _ same last out _ d (by exact hb.imp id fun c=>c b rfl) ox ox ox];have d:List.replicate (1+Yo b 254 r) b++r.drop (Yo b 254 r)=b::r:=(by rw[CD,JB,XY,<-g3,V3]);rw[ih (r.drop<|Yo b 254 r) _ b _ (by rw[YN];omega) (by split<;>omega) ?_ zx,QR,d]
   by_cases c:1+Yo b 254 r<4
   ·rw[Qg c];exact .inr (lH b 254 r ox)
   rw[Qf c];exact .inl rfl
def Bo:Nat->Nat->LN
 |0,_=>[]
 |f+1,k=>if k=0 then []else(k-1)%2::Bo f ((k-1)/2)
def JE(k:Nat):LN:=Bo k k
def cE:∀(f g k:Nat),k<=f->k<=g->Bo f k=Bo g k
 |0,g,k,h1,h2=>by
  have:k=0:=ox
  subst this;cases g<;>simp[Bo]
 |f+1,0,k,h1,h2=>by
  have:k=0:=ox
  subst this;simp[Bo]
 |f+1,g+1,k,h1,h2=>by
  rw[Bo,Bo]
  split
  ·rfl
  rw[cE f g _ ox ox]
def Gz:JE 0=[]:=rfl
def KB(k)(h:k≠0):JE k=(k-1)%2::JE ((k-1)/2):=by obtain⟨c,rfl⟩:∃c,k=c+1:=⟨k-1,ox⟩;show Bo (c+1) (c+1)=_;rw[Bo,Qf h,cE c ((c+1-1)/2) _ ox<|Qk _];rfl
def cF(k):∀x∈JE k,x<2:=by
 induction k using Nat.strongRecOn with
 |_ k ih=>
  intro x c
  by_cases d:k=0
  ·subst d;simp[Gz]at c
  rw[KB k d]at c;rcases QD.1 c with rfl|c
  ·omega
  exact ih _ ox x c
def KA(k):(JE k).length<=k:=by
 induction k using Nat.strongRecOn with
 |_ k ih=>
  by_cases c:k=0
  ·subst c;simp[Gz]
  have:=ih ((k-1)/2) ox;rw[KB k c,QW];omega
def zE(n:Nat):Nat->LN->LN
 |run,[]=>JE run++[n+1]
 |run,0::r=>zE n (run+1) r
 |run,(x+1)::r=>JE run++(x+2)::zE n 0 r
def zD(n c:Nat):Nat->Nat->LN->LN->Option LN
 |_,_,_,[]=>none
 |run,w,out,s::r=>
  if n+1<s then none else if s<2 then(if c<w\/c<out.length+(run+(s+1)*w)then none else zD n c (run+(s+1)*w) (2*w) out r)
  else if s=n+1 then(if r=[]then some (out++List.replicate run 0)else none)
  else if(out++List.replicate run 0).length=c then none else zD n c 0 1 (out++List.replicate run 0++[s-1]) r
def pE(n d)(c:1<=n)(out g e):∀(k c w:Nat),1<=w->out.length+(c+w*k)<=d->(∀w',zD n d (c+w*k) w' out g=e)->zD n d c w out (JE k++g)=e:=by
 intro k
 induction k using Nat.strongRecOn with
 |_ k ih=>
  intro c w hw c g
  by_cases e:k=0
  ·subst e;rw[Gz,YU];exact g w
  have:(k-1)%2<2:=ox
  obtain⟨c,d,h,j,hk⟩:∃c d,(k-1)%2=c/\(k-1)/2=d/\k=c+1+2*d:=⟨_,_,rfl,rfl,ox⟩;have i:w*k=(c+1)*w+2*w*d:=by rw[hk,EJ,V6 w<|c+1,<-FZ,V6 w 2]
  have:w<=(c+1)*w:=Nat.le_mul_of_pos_left w ox;rw[KB k e,h,j,XY,zD,Qf ox,Qg ox,Qf ox];refine ih d ox _ _ ox ox fun w'=>?_
  rw[Y7,<-i];exact g w'
def SL(n d)(e:1<=n):∀(l:LN)(c:Nat)(out:LN),(∀x∈l,x<n)->out.length+c+l.length<=d->zD n d 0 1 out (zE n c l)=some (out++List.replicate c 0++l)
 | [],c,out,h,hl=>by
   rw[zE];refine pE n d e out [n+1] _ c 0 1 ox (by simp at hl;omega) fun i=>?_
   rw[zD,Qf ox,Qf ox,Qg rfl,Qg rfl];simp
 |0::r,c,out,h,hl=>by rw[zE,SL n d e r (c+1) out (fun x g=>h x<|by simp[g]) (by simp at hl;omega),FV];simp
 |(x+1)::r,c,out,h,hl=>by
  have g:=h (x+1) sx;simp only[QW]at hl;rw[zE];refine pE n d e out _ _ c 0 1 ox ox fun i=>?_
  rw[zD,Qf ox,Qf ox,Qf ox,Qf zx,Zu,Nat.one_mul,SL n d e r 0 _ (fun x g=>h x<|by simp[g]) zx];simp
def Mi(n)(j:1<=n):∀(l:LN)(c:Nat),(∀x∈l,x<n)->∃pre,zE n c l=pre++[n+1]/\(∀x∈pre,x<n+1)/\pre.length<=c+l.length
 | [],c,d=>⟨JE c,rfl,fun x e=>by have:=cF c x e;omega,by have:=KA c;simp;omega⟩
 |0::r,c,d=>by
  obtain⟨i,g,h,m⟩:=Mi n j r (c+1) fun x e=>d x (by simp[e])
  exact⟨i,g,h,zx⟩
 |(x+1)::r,c,d=>by
  obtain⟨i,g,h,m⟩:=Mi n j r 0 fun x e=>d x (by simp[e])
  have e:=d (x+1) sx;refine⟨JE c++(x+2)::i,by rw[zE,g];simp,fun e g=>?_,?_⟩
  ·rcases Q4.1 g with d|d
   ·have:=cF c e d;omega
   rcases QD.1 d with rfl|d
   ·omega
   exact h e d
  have:=KA c;simp;omega
end K
def Gt(s:BA)(i)(h:i<s.size):s.data.toList.drop i=s[i]'h::s.data.toList.drop (i+1):=by rw[Xf<|by rwa[Zr]];rfl
def UV(s)(i:Nat)(x)(h:i<s.size)(c:x=(i:Int))(W):(Instr.index 9 (.string s) x).run prog W=.ok (.int .u8 ((s[i]'h).toNat:Int)) W:=by subst c;rw[run_index_string W _ _ _ _ Yw,dif_pos ⟨ox,ox⟩];simp
def NB(s:BA)(i)(h:s.size<=i):s.data.toList.drop i=[]:=CA (by rw[Zr];exact h)
def RJ(s:BA)(i:Nat):Nat:=match s.data.toList.drop i with| []=>1|b::r=>1+Yo b 254 r
def lJ(s i)(h:i<s.size):RJ s i=1+Yo (s[i]'h) 254 (s.data.toList.drop<|i+1):=by unfold RJ;rw[Gt s i h]
def lM(s:BA)(i w)(hi:i<s.size)(hs:s.size<=140737488351232):Calls prog 199 #[s,(i:Int)] w (RK (RJ s i:Nat) w):=by
 have d:=Qa<|lJ s i hi;have:(i:Int)<s.size:=ox
 go_enter func199,ntmps199
 go_wp2
 go_loopg [5] 254 (fun k a wr=>∃c:Nat,k=255-c/\1<=c/\c<=255/\i+c<=s.size/\a=.int .i64 (c:Nat)/\Hid (RJ s i=c+Yo (s[i]'hi) (255-c) (s.data.toList.drop<|i+c))/\Hid (Qb [] w wr))
 ·exact⟨1,ox,ox,ox,ox,rfl,d,Qa<|Qc _ _⟩
 obtain⟨c,hk,d,d,d,rfl,l,j⟩:=hrel;have m:=Qa hk;clear hk;have:IntKind.i64.wrap ((i:Int)+c)=(i:Int)+c:=Za _ ox;have hw:wrap64 ((i:Int)+c)=(i:Int)+c:=by unfold wrap64;omega
 by_cases d:c<255
 ·have p:(c:Int)<255:=ox
  by_cases hlt:i+c<s.size
  ·have o:(i:Int)+c<(s.size:Int):=ox;have:=UV s (i+c) ((i:Int)+c) hlt ox;have i2:=UV s i (i:Int) hi rfl;have d:=l.o;rw[Gt s (i+c) hlt,(ox:255-c=255-(c+1)+1),Yo]at d
   by_cases g:s[i+c]'hlt=s[i]'hi
   ·have n:(((s[i+c]'hlt).toNat:Int)==((s[i]'hi).toNat:Int))=true:=(by rw[g];simp);rw[Qg g]at d;have h:=Qa d;clear d g;go_wp2_with fail;go_quiet (fail)
    go_wp2
    go_roundg (255-(c+1))
    ·exact⟨c+1,rfl,ox,ox,ox,by go_num,Qa (by rw[h.o,(ox:i+(c+1)=i+c+1)];omega),Qa<|j.o.drewN _⟩
    have:=m.o;omega
   have g1:¬((s[i+c]'hlt).toNat:Int)=((s[i]'hi).toNat:Int):=fun m=>g (DK.1 ox)
   have n:(((s[i+c]'hlt).toNat:Int)==((s[i]'hi).toNat:Int))=false:=Ze.2 g1;rw[Qf g]at d;have h:=Qa d;clear d g;go_wp2_with fail;go_quiet (fail)
   go_wp2
   go_ret;exact⟨by rw[h.o];rfl,j.o.drewN _⟩
  have o:decide ((i:Int)+c<(s.size:Int))=false:=X0 ox;have d:=l.o;rw[NB s (i+c) ox]at d;have h:=Qa d;clear d;go_wp2_with fail;go_quiet (fail)
  go_wp2
  go_ret;exact⟨by rw[h.o];cases 255-c<;>rfl,j.o.drewN _⟩
 obtain rfl:c=255:=ox
 have p:¬(255:Int)<255:=ox
 go_wp2_with fail;go_quiet (fail)
 go_wp2
 go_ret;exact⟨by rw[l.o];rfl,j.o.drewN _⟩
def lN(s i)(h:i<s.size):1<=RJ s i/\RJ s i<=255/\i+RJ s i<=s.size/\(s.data.toList.drop i).take (RJ s i)=List.replicate (RJ s i) (s[i]'h)/\
 ZF (s.data.toList.drop i)=BF (s[i]'h) (RJ s i)++ZF (s.data.toList.drop<|i+RJ s i):=by
 have c:=lJ s i h;obtain⟨g1,d⟩:=He (s[i]'h) 254<|s.data.toList.drop<|i+1;rw[YN,Zr]at d;refine⟨ox,ox,ox,?_,?_⟩
 ·rw[Gt s i h,c,CD 1,FW,PW,JB]
 rw[Gt s i h,LG,<-c,Aq,c]
 congr 3
 omega
def cX(s:BA)(i n)(h:i+n<=s.size):(s.extract i<|i+n).size=n:=by rw[ByteArray.size_extract];omega
def cW(s:BA)(i n)(h:i+n<=s.size):Lib.strCells (s.extract i<|i+n)=Qn ((s.data.toList.drop i).take n):=by
 have c:(s.extract i<|i+n).data.toList=(s.data.toList.drop i).take n:=by simp[ByteArray.extract,ByteArray.copySlice,List.extract_eq_take_drop]
 unfold Lib.strCells Qn;rw[c]
def Sx(a b):Qn (a++b)=Qn a++Qn b:=by simp[Qn]
def Qhk(s:BA)(w)(hs:s.size<=1000000):Calls prog 159 #[s] w (RK (.string ⟨(ZF s).toArray⟩) w):=by
 have⟨m,hm⟩:=qx<|s.size/4;have y9:(s.size:Int).tdiv 4=(m:Int):=by rw[FN ox];omega
 obtain⟨z1,z8⟩:(s.size:Int)/4=(m:Int)/\m<=250000:=ox
 go_enter func159,ntmps159;go_wp2_with ((at_make;refine Jp rfl _ _ 88 rfl 5 (.int .u8 0) 1 Xo Jg rfl .i64 .i64 _ _ 0 (s.size+m) rfl rfl rfl (by go_num) ox ox (by simp only[maxLen];omega) ?_;intro w2 x9 x8));have⟨y2,y3⟩:=qb x8 x9;have p1:w.heap.size<=w.heap.size:=Qk _;clear x8 x9 hm y9 z1
 go_loopg [3,4,5] s.size (fun k a b c wr=>∃(i:Nat)(o:LU)(p:OA)(c:Nat),k=s.size-i/\i<=s.size/\a=.slice p o c/\b=.int .i64 (i:Nat)/\Hid (o++ZF (s.data.toList.drop i)=ZF s)/\Hid (Qh wr 5 (.slice p o c)<|Qn o)/\Hid (Qb [] w wr)/\Hid (Qu w.heap.size<|Qd<|.slice p o c))
 ·exact⟨0,[],_,_,ox,ox,rfl,rfl,Qa rfl,y3,y2,Qa<|by simp[Qu,Qd,qo]⟩
 obtain⟨i,o,p,c,hk,hi,rfl,rfl,HE,HR,HK,HF⟩:=hrel;have Hk:=Qa hk;clear hk
 by_cases hlt:i<s.size
 ·have y8:(i:Int)<s.size:=ox
  obtain⟨n1,n2,n3,n4,n5⟩:=lN s i hlt;have x3:=lM s i wr hlt ox;have⟨n,hn⟩:=qx<|RJ s i;rw[hn]at n1 n2 n3 n4 n5 x3;have⟨H5,H4,HC⟩:=qc n5 n4 x3;have z6:=Ed s;rw[<-HE.o,Qo,Zr]at z6;have hw:IntKind.i64.wrap ((i:Int)+n)=(i:Int)+n:=Za _ ox;have p3:wrap64 ((i:Int)+n)=(i:Int)+n:=by unfold wrap64;omega
  clear hn n4 n5 x3;go_wp2_with fail;go_fit HC.o;rintro e w3⟨rfl,x2⟩;have h2:=Qa (HK.o.trans x2 sx);have x4:=HR.o.kept x2 sx;clear x2
  by_cases h4:n<4
  ·have y5:(n:Int)<4:=ox;have h1:=cW s i n n3;rw[H4.o]at h1;have y:=cX s i n n3;have x0:=Qa h1;have hb:(Qn o).length+n<=140737488355328:=(by rw[Yi];omega);have h5:=Qa y;clear h1 y;go_wp2_with ((at_builtin;refine SH rfl _ _ 88 9 rfl 5 Xo Yw Jg _ _ _ n h5.o rfl rfl x4 hb ?_;intro a5 x1 w5 h3 h9 h8))
   go_roundg (s.size-(i+n))
   ·rw[x0.o]at h3;rw[Yi]at h3 h8;refine⟨i+n,o++List.replicate n (s[i]'hlt),a5,x1,rfl,n3,by simp[Yi],by go_num,Qa ?_,Qa ?_,Qa<|h2.o.new h9 HF.o,Qa ?_⟩
    ·rw[QR,<-HE.o,H5.o];unfold BF;rw[Qg h4]
    ·rwa[Sx,Qo,As]
    rw[Qo,As];exact HF.o.grow h8 h2.o.size
   have:=Hk.o;omega
  have y5:¬(n:Int)<4:=ox
  obtain⟨q,hq⟩:∃q:Nat,(n:Int)-4=(q:Int):=⟨n-4,ox⟩;obtain⟨p0,z7⟩:(q:Int)%256=(q:Int)/\n-4=q:=ox
  have p2:IntKind.i64.wrap ((i:Int)+4)=(i:Int)+4:=Za _ ox;have h1:=cW s i 4 ox;have y0:(s.data.toList.drop i).take 4=List.replicate 4 (s[i]'hlt):=by have:=Qt (List.take 4) H4.o;rwa[List.take_take,List.take_replicate,Iy ox]at this
  rw[y0]at h1;have y:=cX s i 4 ox;have x0:=Qa h1;have hb:(Qn o).length+4<=140737488355328:=by rw[Yi];omega
  have L1:(Qn o++Lib.strCells (s.extract i<|i+4)).length+1<=maxLen:=by rw[Qo,Yi,Mv,y];simp only[maxLen];omega
  have L2:((Qn o++Lib.strCells (s.extract i<|i+4)).length+1)*1<=140737488355328:=by rw[Qo,Yi,Mv,y];omega
  have h5:=Qa y;clear h1 y0 y;go_wp2_with (first|(at_builtin;have hh:=x4;clear x4;refine SH rfl _ _ 88 9 rfl 5 Xo Yw Jg _ _ _ 4 h5.o rfl rfl hh hb ?_;intro a5 x1 w5 h3 h9 h8;clear hh)|(at_builtin;refine Vn _ rfl _ _ 88 rfl 5 (.int .u8 0) 1 Xo Jg rfl _ _ [.int .u8 (q:Int)] 1 rfl rfl rfl rfl (by simp[Value.oneCell']) h3 L1 L2 ?_;intro a6 y4 w6 x5 y6 x7))
  go_roundg (s.size-(i+n))
  case measure=>have:=Hk.o;omega
  have y:=h5.o;have y7:(Qn o++Lib.strCells (s.extract i<|i+4)).length+1=o.length+5:=by rw[Qo,Yi,Mv,y]
  have x6:Qu w (Qd<|.slice a5 ((Qn o).length+4) x1):=HF.o.grow h8 h2.o.size;rw[y7]at x5 x7;rw[x0.o]at x5;refine⟨i+n,o++(List.replicate 4 (s[i]'hlt)++[UInt8.ofNat<|n-4]),a6,y4,rfl,n3,by rw[show(o++(List.replicate 4 (s[i]'hlt)++[UInt8.ofNat<|n-4])).length=o.length+5 by simp,Yi,Mv,y],by go_num,Qa ?_,Qa ?_,Qa<|(h2.o.new h9 HF.o).new y6 x6,Qa ?_⟩
  ·rw[QR,<-HE.o,H5.o];unfold BF;rw[Qf h4]
  ·have hu:Qn [UInt8.ofNat<|n-4]=[.int .u8 (q:Int)]:=(by unfold Qn;rw[z7,QV,Y6,U6,XH ox]);rw[Sx,Sx,hu,<-QR];simpa using x5
  have:=x6.grow x7 (h2.o.new h9 HF.o).size;simpa using this
 obtain rfl:i=s.size:=ox
 have y8:¬(s.size:Int)<s.size:=ox
 have he:=HE.o;rw[NB s s.size<|Qk _,LH,XX]at he;have ht:=HR.o.text;have y1:=Qa he;clear he
 go_wp2
 go_ret;rw[y1.o];exact⟨rfl,HK.o⟩
def zZ(s:BA)(h w)(hs:s.size<=1000000)(c:5*s.size<=4*h)(c:h<=10000000):Calls prog 158 #[s,(h:Int)] w (RK (s.size:Nat) w):=by
 go_enter func158,ntmps158
 go_wp2
 go_loopg [5,6,7,8] s.size (fun k a b c c wr=>∃c g:Nat,k=s.size-c/\c<=s.size/\a=.int .i64 (g:Nat)/\b=.int .i64 (c:Nat)/\4*g<=5*c/\Hid (Qb [] w wr))
 ·exact⟨0,0,ox,ox,rfl,rfl,ox,Qa<|Qc _ _⟩
 obtain⟨c,g,hk,hi,rfl,rfl,d,l⟩:=hrel;have m:=Qa hk
 by_cases hlt:c<s.size
 ·have p:(c:Int)<s.size:=ox
  obtain⟨o,n2,j,-,-⟩:=lN s c hlt;have i:=lM s c wr hlt ox;have⟨d,n⟩:=qx<|RJ s c;rw[n]at o n2 j i;have o:=Qa i;go_wp2_with fail;go_fit o.o;rintro e i⟨rfl,n⟩;have i:=Qa (l.o.trans n sx)
  by_cases n:3<d
  ·obtain⟨n,o⟩:(3:Int)<d/\¬(h:Int)-g<5:=ox
   go_wp2
   go_roundg (s.size-(c+d))
   ·exact⟨c+d,g+5,rfl,j,by go_num,by go_num,ox,i⟩
   have:=m.o;omega
  obtain⟨n,_,o⟩: ¬(3:Int)<d/\min (d:Int) 3=(d:Int)/\¬(h:Int)-g<(d:Int):=ox
  go_wp2
  go_roundg (s.size-(c+d))
  ·exact⟨c+d,g+d,rfl,j,by go_num,by go_num,ox,i⟩
  have:=m.o;omega
 obtain rfl:c=s.size:=ox
 have p:¬(s.size:Int)<s.size:=ox
 go_wp2
 go_ret;exact⟨rfl,l.o⟩
def qU(l:LN)(w:WD)(e:Ending)(w':WD):Prop:=
 ∃a c,e=.returned (.slice a l c)/\Qh w' 3 (.slice a l c) (Qi l)/\Qb [] w w'/\Qu w (Qd (.slice a l c))
def yN(k:Nat)(w)(hk:k<=1000000000):Calls prog 203 #[(k:Int)] w (qU (JE k) w):=by
 go_enter func203,ntmps203
 go_wp2
 go_loopg [0,3] k (fun h a b wr=>∃(c:Nat)(e:LN)(g:OA)(d:Nat),h=c/\c<=k/\a=.int .i64 (c:Nat)/\b=.slice g e d/\Hid (e++JE c=JE k)/\Hid (Qh wr 3 (.slice g e d)<|Qi e)/\Hid (Qb [] w wr)/\Hid (Qu w.heap.size<|Qd<|.slice g e d))
 ·exact⟨k,[],none,0,rfl,ox,rfl,rfl,Qa rfl,Qa<|Qh.nil _ _,Qa<|Qc _ _,Qa<|by simp[Qu,Qd,qo]⟩
 obtain⟨c,e,g,d,d,g,rfl,rfl,h,l,j,i⟩:=hrel;have p:=Qa d;clear d
 by_cases h0:0<c
 ·have:(0:Int)<c:=ox
  have g:=h.o;rw[KB c ox]at g;have⟨d,m⟩:=qx<|c-1;rw[m]at g;have:(c:Int)-1=(d:Int):=ox
  have hb:bits .and .i64 (d:Int) 1=(d:Int)%2:=by rw[uN d ox];omega
  have n:=KA k;rw[<-h.o,Qo]at n;have q:(Qi e).length+1<=maxLen:=by rw[QF];simp only[maxLen];omega
  have s:((Qi e).length+1)*8<=140737488355328:=by rw[QF];omega
  have v:=l.o;have o:=Qa g;clear g m;go_wp2_with ((at_builtin;refine Vn _ rfl _ _ 51 rfl 3 (0:Int) 8 XP XZ rfl _ _ [.int .i64<|(d:Int)%2] 1 rfl rfl rfl rfl (by simp[Value.oneCell']) v q s ?_;intro a5 t x n u m))
  go_roundg (d/2)
  ·rw[QF]at n m;refine⟨d/2,e++[d%2],a5,t,rfl,ox,by go_num,by simp[QF],Qa ?_,Qa ?_,Qa<|j.o.new u i.o,Qa ?_⟩
   ·rw[QR];exact o.o
   ·rwa[DV,Qo]
   rw[Qo];exact i.o.grow m j.o.size
  have:=p.o;omega
 obtain rfl:c=0:=ox
 have g:=h.o;rw[Gz,XX]at g;subst g
 go_wp2
 go_ret;exact⟨_,_,rfl,l.o,j.o,i.o⟩
def Qlu(n l)(h:1<=n)(e:∀x∈l,x<n)(c):(K.zE n c l).length<=c+l.length+1:=by obtain⟨d,d,-,g⟩:=Mi n h l c e;rw[d,Qo];simp;omega
def iK(l):∀u∈Qi l,u.oneCell'=true:=by intro u c;obtain⟨d,-,rfl⟩:=QA.1 c;rfl
def RV(l:LN)(d:Nat)(w:WD)(e:Ending)(w':WD):Prop:=
 ∃a c,e=.returned (.tuple #[.slice a l c,(d:Nat)])/\Qh w' 3 (.slice a l c) (Qi l)/\Qb [] w w'/\Qu w (Qd (.slice a l c))
def RV.of{l L w w' e a c m xs}(h:l=L)(g:e=.returned (.tuple #[.slice a m c,(0:Int)]))(d:Qh w' 3 (.slice a m c) xs)(i:xs=Qi l)(hk:Qb [] w w')(hf:Qu w.heap.size (Qd<|.slice a m c)):RV L 0 w e w':=by
 subst h i;have h:m=l:=by obtain⟨i,i,i,-⟩:=d.sees;injection i with _ h2 _;rw[h2,QF]
 subst h;exact⟨a,c,g,d,hk,hf⟩
def ZI(n:Nat)(l:LN)(w:WD)(i e:Nat)(d:LN)(p:OA)(c:Nat)(wr:WD):Prop:=
 d++K.zE n e (l.drop i)=K.zE n 0 l/\Qh wr 3 (.slice p d c) (Qi d)/\Qb [] w wr/\Qu w (Qd (.slice p d c))
def Qlv(n a c l w)(hn:1<=n/\n<=256)(h:Qp w 1 a l.length (Qi l))(hl:∀x∈l,x<n)(q8:l.length<=1000000):
 Calls prog 163 #[(n:Int),.slice a l.length c] w (RV (K.zE n 0 l) 0 w):=by
 have⟨HS,HL⟩:=qb h hl;have q7:=Qlu n l hn.1 hl 0;obtain⟨h1,h2⟩:=hn;obtain⟨g1,g2⟩: ¬(n:Int)<1/\¬(256:Int)<n:=ox
 clear h hl;go_enter func163,ntmps163;go_wp2_with fail;clear g1 g2
 go_loopg [6,7,8] (l.length) (fun k x6 x7 x8 wr=>∃(i:Nat)(o:LN)(p:OA)(c:Nat),k=l.length-i/\i<=l/\x6=.slice p o c/\x7=.int .i64 (i:Nat)/\Hid (ZI n l w i 0 o p c wr))
 ·exact⟨0,[],none,0,ox,ox,rfl,rfl,Qa ⟨sx,Qh.nil _ _,Qc _ _,by simp[Qu,Qd,qo]⟩⟩
 obtain⟨i,o,p,c6,hk,hi,rfl,rfl,HZ⟩:=hrel;have Hk:=Qa hk;clear hk
 by_cases hlt:i<l
 ·have p9:(i:Int)<l.length:=ox
  go_wp2_with fail
  go_step3
  go_wp2_with fail
  go_step3
  go_upto_block 2 with fail
  go_cut [7,8] (fun x7 x8 y6=>∃(j q:Nat),i<=j/\j<=l/\x7=.int .i64 (j:Nat)/\x8=.int .i64 (q:Nat)/\q<=l/\Hid (ZI n l w j q o p c6 wr)/\Hid (∀x,l[j]?=some x->x≠0)/\wr=y6)
  ·go_wp2
   go_loopg [7,8] (l.length-i) (fun k x7 x8 y6=>∃(j q:Nat),k=l.length-j/\i<=j/\j<=l/\x7=.int .i64 (j:Nat)/\x8=.int .i64 (q:Nat)/\q+i=j/\Hid (ZI n l w j q o p c6 wr)/\wr=y6)
   ·exact⟨i,0,ox,ox,ox,rfl,rfl,ox,HZ,rfl⟩
   obtain⟨j,q,z6,y0,hj,rfl,rfl,QX,h3,rfl⟩:=hrel;have p5:=Qa z6;clear z6 HZ
   by_cases q0:j<l
   ·have z7:(j:Int)<l.length:=ox;have⟨x,hx⟩:=qy l j q0;obtain⟨b,off,rfl,e0⟩:=(HS.o.kZ h3.o.2.2.1).2 j (.int .i64 (x:Int)) (by unfold Qi;rw[Zz,hx];rfl);have HX:=Qa hx;clear hx
    by_cases h0:x=0
    ·subst h0
     go_wp2
     go_roundg (l.length-(j+1))
     ·refine⟨j+1,q+1,rfl,ox,ox,by go_num,by go_num,ox,Qa ⟨?_,h3.o.2⟩,rfl⟩;have hz:=h3.o.1;obtain⟨p8,q4⟩:=Qy.1 HX.o;rwa[Xf p8,q4,K.zE]at hz
     have:=p5.o;omega
    have g0:((x:Int) != 0)=true:=zx
    go_wp2
    go_meet;exact⟨j,q,y0,ox,rfl,rfl,ox,h3,Qa (fun y hy=>by rw[HX.o]at hy;injection hy with hy;omega),rfl⟩
   have z7:¬(j:Int)<l.length:=ox
   go_wp2
   go_meet;exact⟨j,q,y0,hj,rfl,rfl,ox,h3,Qa (fun y hy=>by rw[QU ox]at hy;cases hy),rfl⟩
  obtain⟨j,q,y0,hj,rfl,rfl,QX,h3,p3,rfl⟩:=hcut;have q6:=KA q;obtain⟨y5,p0,p1,p2⟩:=h3.o;have q3:o.length+(K.zE n q<|l.drop j).length<=2000001:=by rw[<-Qo,y5];omega
  have⟨x3,HR,HK,HF,HC⟩:=qe y5 p0 p1 p2 (yN q wr ox);clear y5 p0 p1 p2 HZ h3;go_wp2_with fail;go_fit HC.o;rintro e w3⟨a3,c3,rfl,y2,y1,p7⟩;have h8:=Qa (HK.o.trans y1 sx);have x2:=HR.o.kept y1 sx;have z8:=y2.sZ;have y8:a3=none->c3=0:=fun h=>by
   subst h;rcases y2.2 with⟨h1,-⟩|⟨g,cap,q5,h1,-⟩
   ·injection h1
   cases h1
  have L1:(Qi o).length+(JE q).length<=maxLen:=by rw[QF];simp only[maxLen];omega
  have L2:((Qi o).length+(JE q).length)*8<=140737488355328:=by rw[QF];omega
  clear y1 p7 y2
  by_cases y9:j=l
  ·have g1:((j:Int)==(l:Int))=true:=zx;go_wp2_with ((at_builtin;refine Du rfl _ _ 51 rfl 3 (0:Int) 8 XP XZ rfl _ _ (Qi<|JE q) _ _ _ rfl rfl (iK _) x2 z8 y8 L1 L2 ?_;intro a5 p6 w5 y3 x4 x9));rw[Exit.noGoto_exit];have M1:(Qi o++Qi (JE q)).length+1<=maxLen:=(by rw[Qo,QF,QF];simp only[maxLen];omega);have M2:((Qi o++Qi (JE q)).length+1)*8<=140737488355328:=(by rw[Qo,QF,QF];omega);have x0:=HF.o.grow x9 h8.o.size;have h9:=Qa<|h8.o.new x4 HF.o;go_wp2_with ((at_builtin;refine Vn _ rfl _ _ 51 rfl 3 (0:Int) 8 XP XZ rfl _ _ [.int .i64<|(n:Int)+1] 1 rfl rfl rfl rfl (by simp[Value.oneCell']) y3 M1 M2 ?_;intro a6 x5 w6 h4 x1 h5));go_ret2;rw[Qo]at h4 h5;subst y9;have hz:=x3.o;rw[Ij,K.zE]at hz;exact RV.of hz rfl h4 (by simp[Qi]) (h9.o.new x1 x0)<|x0.grow h5 h9.o.size
  have g1:((j:Int)==(l:Int))=false:=Ze.2 ox;obtain⟨z1,z7⟩:j<l/\(j:Int)<l.length:=ox
  have⟨x,hx⟩:=qy l j z1;have q9:=p3.o x hx;have r0:=HL.o x<|QB hx;have y4:(Qi l)[j]?=some (.int .i64 (x:Int)):=by unfold Qi;rw[Zz,hx];rfl
  obtain⟨b,off,rfl,-⟩:=HS.o.2 j _ y4;have⟨p4,HX⟩:=qb y4 hx;obtain⟨q1,q2⟩: ¬(x:Int)<0/\¬(n:Int)<=x:=ox
  clear hx y4 y9;have M1:(Qi o++Qi (JE q)).length+1<=maxLen:=by rw[Qo,QF,QF];simp only[maxLen];omega
  have M2:((Qi o++Qi (JE q)).length+1)*8<=140737488355328:=by rw[Qo,QF,QF];omega
  go_wp2_with (first|(at_builtin;have hh:=x2;clear x2;refine Du rfl _ _ 51 rfl 3 (0:Int) 8 XP XZ rfl _ _ (Qi<|JE q) _ _ _ rfl rfl (iK _) hh z8 y8 L1 L2 ?_;intro a5 p6 w5 y3 x4 x9;clear hh;have c0:=(HS.o.kZ<|h8.o.new x4 HF.o).get1 p4.o)|(at_builtin;refine Vn _ rfl _ _ 51 rfl 3 (0:Int) 8 XP XZ rfl _ _ [.int .i64<|(x:Int)+1] 1 rfl rfl rfl rfl (by simp[Value.oneCell']) y3 M1 M2 ?_;intro a6 x5 w6 h4 x1 h5))
  rw[Exit.noGoto_normal]
  go_wp2
  go_roundg (l.length-(j+1))
  case measure=>have:=Hk.o;omega
  have x0:=HF.o.grow x9 h8.o.size;have h9:=h8.o.new x4 HF.o;have y7:=x0.grow h5 h9.size;rw[Qo,QF,QF]at h4 y7;refine⟨j+1,o++(JE q++[x+1]),a6,x5,rfl,ox,by simp[QF];omega,by go_num,Qa ⟨?_,?_,h9.new x1 x0,?_⟩⟩
  ·have hz:=x3.o;rw[Xf z1,show l[j]=x from(Qy.1 HX.o).2]at hz;obtain⟨y,rfl⟩:∃y,x=y+1:=⟨x-1,ox⟩;rw[<-hz,K.zE];simp
  ·simpa[Qi,Y7]using h4
  simpa[Y7]using y7
 obtain rfl:i=l:=ox
 have p9:¬(l:Int)<l.length:=ox
 obtain⟨hz,x2,hk,hf⟩:=HZ.o;have q3:o.length<=2000001:=by have:=Qt List.length hz;rw[Qo]at this;omega
 have⟨x3,HK,HF⟩:=qc hz hk hf;have M1:(Qi o).length+1<=maxLen:=by rw[QF];simp only[maxLen];omega
 have M2:((Qi o).length+1)*8<=140737488355328:=by rw[QF];omega
 clear hz hk hf HZ;go_wp2_with ((at_builtin;refine Vn _ rfl _ _ 51 rfl 3 (0:Int) 8 XP XZ rfl _ _ [.int .i64<|(n:Int)+1] 1 rfl rfl rfl rfl (by simp[Value.oneCell']) x2 M1 M2 ?_;intro a6 x5 w6 h4 x1 h5));go_ret2;have hz:=x3.o;rw[Ij,K.zE,Gz]at hz;exact RV.of hz rfl h4 (by simp[Qi]) (HK.o.new x1 HF.o)<|HF.o.grow h5 HK.o.size
def K.Qlt{n o q w s:Nat}{out r L:LN}(h:K.zD n o q w out (s::r)=some L):s<=n+1/\
 (s<2->w<=o/\out.length+(q+(s+1)*w)<=o/\K.zD n o (q+(s+1)*w) (2*w) out r=some L)/\
 (2<=s->s=n+1->r=[]/\out++List.replicate q 0=L)/\
 (2<=s->s≠n+1->out.length+q≠o/\K.zD n o 0 1 (out++List.replicate q 0++[s-1]) r=some L):=by
 unfold K.zD at h
 split at h
 ·cases h
 refine⟨ox,fun y=>?_,fun y hs=>?_,fun y hs=>?_⟩
 ·rw[Qg y]at h
  split at h
  ·cases h
  exact⟨ox,ox,h⟩
 ·rw[Qf ox,Qg hs]at h
  split at h
  ·rename_i hr;injection h with h;exact⟨hr,h⟩
  cases h
 rw[Qf ox,Qf hs]at h
 split at h
 ·cases h
 rename_i hl;exact⟨by simpa using hl,h⟩
def iM(m):List.replicate m (Value.int .i64 0)=Qi (List.replicate m 0):=by simp[Qi]
def Qls(n y a c l L w)(hn:1<=n/\n<=256)(hm:y<=262144)(h:Qp w 1 a l.length (Qi l))(hl:l.length<=1000000)(hL:K.zD n y 0 1 [] l=some L):
 Calls prog 227 #[(n:Int),(y:Int),.slice a l.length c] w (RV L 0 w):=by
 have⟨HS,HL⟩:=qb h hL;obtain⟨h1,h2⟩:=hn;obtain⟨g1,g2,g3,g4⟩: ¬(n:Int)<1/\¬(256:Int)<n/\¬(y:Int)<0/\¬(262144:Int)<y:=ox
 go_enter func227,ntmps227
 go_wp2
 go_loopg [8,9,10,29] (l.length) (fun k x8 x9 z6 z7 wr=>∃(i q wt:Nat)(o:LN)(p:OA)(c:Nat),k=l.length-i/\i<=l/\x8=.slice p o c/\x9=.int .i64 (q:Nat)/\z6=.int .i64 (wt:Nat)/\z7=.int .i64 (i:Nat)/\o.length+q<=y/\wt<=600000/\
  Hid (K.zD n y q wt o (l.drop i)=some L)/\Hid (Qh wr 3 (.slice p o c)<|Qi o)/\Hid (Qb [] w wr)/\Hid (Qu w.heap.size<|Qd<|.slice p o c))
 ·exact⟨0,0,1,[],none,0,ox,ox,rfl,rfl,rfl,rfl,sx,ox,HL,Qa<|Qh.nil _ _,Qa<|Qc _ _,Qa<|by simp[Qu,Qd,qo]⟩
 obtain⟨i,q,wt,o,p,c8,hk,hi,rfl,rfl,rfl,rfl,p0,p2,HZ,HR,HK,HF⟩:=hrel;have Hk:=Qa hk
 by_cases hlt:i<l
 ·have z8:(i:Int)<l.length:=ox
  have⟨x,hx⟩:=qy l i hlt;have hz:=HZ.o;rw[Xf hlt,show l[i]=x from(Qy.1 hx).2]at hz;obtain⟨z0,z1,z2,z3⟩:=Qlt hz;have⟨Z1,Z2,Z3⟩:=qc z1 z2 z3;have x5:(Qi l)[i]?=some (.int .i64 (x:Int)):=by unfold Qi;rw[Zz,hx];rfl
  obtain⟨b,off,rfl,c0⟩:=(HS.o.kZ HK.o).2 i _ x5;obtain⟨q1,q2⟩: ¬(x:Int)<0/\¬(n:Int)+1<(x:Int):=ox
  by_cases y9:x<2
  ·obtain⟨y1,y2,y3⟩:=Z1.o y9;have Y3:=Qa y3;have hp:(x+1)*wt<=1200000:=(by have:(x+1)*wt<=2*wt:=Be _ ox;omega);have⟨pr,x0⟩:=qx<|(x+1)*wt;have p1:((x:Int)+1)*(wt:Int)=pr:=by rw[<-x0];push_cast;rfl
   rw[x0]at y2 hp;obtain⟨r1,r2,r3⟩:(x:Int)<2/\¬(y:Int)<wt/\¬(y:Int)-o.length<(q:Int)+pr:=ox
   go_wp2
   go_roundg (l.length-(i+1))
   ·refine⟨i+1,q+pr,2*wt,o,p,c8,rfl,ox,rfl,by go_num,by go_num,by go_num,ox,ox,Qa ?_,HR,HK,HF⟩;have:=Y3.o;rwa[x0]at this
   have:=Hk.o;omega
  have r1:¬(x:Int)<2:=ox
  have x1:=HR.o;have M1:(Qi o).length+q<=maxLen:=by rw[QF];simp only[maxLen];omega
  have M2:((Qi o).length+q)*8<=140737488355328:=by rw[QF];omega
  by_cases h4:x=n+1
  ·obtain⟨y1,y2⟩:=Z2.o ox h4;have y7:i+1=l:=(by have:=Qt List.length y1;rw[YN]at this;simp at this;omega);have e1:((x:Int)==(n:Int)+1)=true:=zx;have e2:¬(i:Int)+1<(l:Int):=ox;have Y2:=Qa y2;go_wp2_with ((at_builtin;refine oX rfl _ _ 51 3 rfl 3 (0:Int) 8 XP Vv XZ rfl rfl _ _ q rfl rfl x1 M1 M2 ?_;intro a5 x6 w5 h3 h8 h5));go_ret2;rw[iM,<-DV,Y2.o]at h3;exact RV.of rfl rfl h3 rfl (HK.o.new h8 HF.o)<|HF.o.grow h5 HK.o.size
  obtain⟨y1,y2⟩:=Z3.o ox h4;have e1:((x:Int)==(n:Int)+1)=false:=Ze.2 ox;have e2:(((Qi o).length:Int)+q==(y:Int))=false:=Ze.2 (by rw[QF];omega);have Y2:=Qa y2;have N1:(Qi o++List.replicate q (Value.int .i64 0)).length+1<=maxLen:=by simp[QF];simp only[maxLen];omega
  have N2:((Qi o++List.replicate q (Value.int .i64 0)).length+1)*8<=140737488355328:=by simp[QF];omega
  have y4:o.length+q+1<=y:=ox
  go_wp2_with (first|(at_builtin;have hh:=x1;refine oX rfl _ _ 51 3 rfl 3 (0:Int) 8 XP Vv XZ rfl rfl _ _ q rfl rfl hh M1 M2 ?_;intro a5 x6 w5 h3 h8 h5)|(at_builtin;refine Vn _ rfl _ _ 51 rfl 3 (0:Int) 8 XP XZ rfl _ _ [.int .i64<|(x:Int)-1] 1 rfl rfl rfl rfl (by simp[Value.oneCell']) h3 N1 N2 ?_;intro a6 x7 w6 x2 y6 y5))
  go_roundg (l.length-(i+1))
  case measure=>have:=Hk.o;omega
  have x4:=HF.o.grow h5 HK.o.size;have x3:=HK.o.new h8 HF.o;have y0:=x4.grow y5 x3.size;rw[iM,<-DV]at x2;have h9:(Qi o).length+q+1=(o++List.replicate q 0++[x-1]).length:=by simp[QF];omega
  have y8:(o++List.replicate q 0++[x-1]).length+0<=y:=zx
  refine⟨i+1,0,1,o++List.replicate q 0++[x-1],a6,x7,rfl,ox,by rw[<-h9],rfl,rfl,by go_num,y8,ox,Qa Y2.o,Qa ?_,Qa<|x3.new y6 x4,Qa ?_⟩
  ·rw[<-h9];have e:(x:Int)-1=((x-1:Nat):Int):=ox;rw[e]at x2;simpa[Qi,QF]using x2
  rw[<-h9];simpa[QF]using y0
 obtain rfl:i=l:=ox
 have hz:=HZ.o;rw[Ij,K.zD]at hz;cases hz
def K.Qhi{same:Nat}{last x:UInt8}{out r L:LU}(h:JK same last out (x::r)=some L):
 (same=4->out.length+x.toNat<=262144/\JK 0 last (out++List.replicate x.toNat last) r=some L)/\
 (same≠4->out.length≠262144/\JK (if 0<same/\x=last then same+1 else 1) x (out++[x]) r=some L):=by
 unfold JK at h;refine⟨fun c=>?_,fun c=>?_⟩
 ·rw[Qg c]at h
  split at h
  ·cases h
  exact⟨ox,h⟩
 rw[Qf c]at h
 split at h
 ·cases h
 exact⟨by assumption,h⟩
def AB(c:LU)(same:Nat)(last:UInt8):Prop:=∃d,c=d++List.replicate same last
def AB.get{c same last}(h:AB c same last){j}(d:j<same):(Qn c)[c.length-same+j]?=some (.int .u8 (last.toNat:Int)):=by obtain⟨c,rfl⟩:=h;unfold Qn;rw[Zz,Zm sx];simp[V1,d]
def AB.le{c same last}(h:AB c same last):same<=c.length:=by obtain⟨c,rfl⟩:=h;simp
def AB.step{o same last}(h:AB o same last)(x)(hs:same<=4)(y:same≠4):AB (o++[x]) (if 0<same/\x=last then same+1 else 1) x/\(if 0<same/\x=last then same+1 else 1)<=4:=by
 split
 ·rename_i hh;obtain⟨-,rfl⟩:=hh;obtain⟨q,rfl⟩:=h;exact⟨⟨q,by rw[FV];simp⟩,ox⟩
 exact⟨⟨o,rfl⟩,ox⟩
def part(n m:Nat)(b:UInt8):LU:=List.replicate n b++List.replicate (m-n) 0
def jM(n m b)(h:n<=m):(part n m b).length=m:=by simp[part];omega
def Qfu(n m k b)(h:n+k<=m):splice (Qn<|part n m b) n (List.replicate k<|.int .u8 (b.toNat:Int))=Qn (part (n+k) m b):=by unfold splice Qn part;rw[XC,XC,List.take_left' sx,];simp only[Io,As];rw[FP,List.drop_replicate,List.drop_replicate];simp only[As];rw[(ox:n-(n+k)=0),show m-n-(n+k-n)=m-(n+k)by omega];simp[Tp];rw[<-QR,Tp]
def Qhg(s:BA)(L w)(hs:s.size<=1000000)(hL:JK 0 0 [] s=some L):
 Calls prog 230 #[s] w (DJ (L,0) w):=by
 have HL:=Qa hL;obtain⟨iU,x9,-,z6,-⟩:=VR Jg;have r3:=aG (P:=prog) 88 5 iU Xo x9;clear hL;go_enter func230,ntmps230;go_wp2_with fail
 go_step3
 go_wp2_with fail;clear r3
 go_step3
 go_wp2_with fail
 go_wp2
 go_loopg [4,5,6] s.size (fun k x4 x5 x6 wr=>∃(i same:Nat)(last:UInt8)(o:LU)(p:OA)(c:Nat),k=s.size-i/\i<=s.size/\x4=.slice p o c/\x5=.int .i64 (same:Nat)/\x6=.int .i64 (i:Nat)/\same<=4/\o.length<=262144/\Hid (AB o same last)/\
  Hid (JK same last o (s.data.toList.drop i)=some L)/\Hid (Qh wr 5 (.slice p o c)<|Qn o)/\Hid (Qb [] w wr)/\Hid (Qu w.heap.size<|Qd<|.slice p o c))
 ·exact⟨0,0,0,[],_,0,ox,ox,rfl,rfl,rfl,ox,sx,Qa ⟨[],rfl⟩,HL,Qa<|Qh.mt _,Qa<|(Qc _ _).alloc _,Qa<|by simp[Qu,Qd,qo]⟩
 obtain⟨i,same,last,o,p,c,hk,hi,rfl,rfl,rfl,h4,b3,HT,HZ,HR,HK,HF⟩:=hrel;have Hk:=Qa hk;obtain⟨y,r2⟩:∃y:WD,y=wr:=⟨_,rfl⟩;subst r2;clear hk
 by_cases hlt:i<s.size
 ·have r6:(i:Int)<s.size:=ox
  have hz:=HZ.o;rw[Gt s i hlt]at hz;obtain⟨z1,z2⟩:=Qhi hz;have⟨x,hx⟩:=qx<|s[i]'hlt;have i2:=UV s i (i:Int) hlt rfl;rw[hx]at z1 z2 i2;clear hz HZ
  by_cases e4:same=4
  ·obtain⟨y1,y2⟩:=z1 e4;subst e4;have⟨m,hm⟩:=qx x.toNat;rw[hm]at y1 y2 i2;have Y2:=Qa y2;have a7:m<256:=(by rw[<-hm];exact x.toNat_lt);have a8:(m:Int)%256=(m:Int):=ox;clear y2 z1 z2 hm;have b9:0<=y.heap.size:=Zv _;go_wp2_with ((at_make;refine Jp rfl _ _ 88 rfl 5 (.int .u8 0) 1 Xo Jg rfl .i64 .i64 _ _ m m rfl rfl (by go_num) (by go_num) ox ox (by simp only[maxLen];omega) ?_;intro w2 p0 h3));have⟨HB,p8,q8,q5⟩:=qd (by have:=p0.blk;simpa[part,Qn]using this:QJ w2 y (Qn<|part 0 m last)) (HK.o.trans h3 sx) (HR.o.kept h3 sx) HR.o.lt;have b4:=HK.o.size;have b7:=h3.size;clear p0 h3 HK HR
   go_loopg [8] m (fun k x8 p4=>∃n:Nat,k=m-n/\n<=m/\x8=.int .i64 (n:Nat)/\Hid (QJ p4 y.heap.size<|Qn<|part n m last)/\Hid (Qb [y.heap.size] w2 p4))
   ·exact⟨0,rfl,ox,rfl,HB,Qa<|Qc _ _⟩
   obtain⟨n,h3,hn,rfl,y6,x0⟩:=hrel;have q9:=Qa h3;have z7:=q8.o.kept x0.o (by intro x hx hm;have h1:=q5.o x hx;simp at hm;omega);have a1:=HT.o.le;obtain⟨gb,cap,hv,x3,-,h8,-,-⟩:=z7.open (by rw[Yi];omega);injection hv with y5 hv2 hv3;subst y5;subst hv3;rw[Yi]at x3;clear hv2;have p5:=Qa fun j (hj:j<4)=>h8 _ _<|HT.o.get hj;clear h3 HB h8
   by_cases b2:n<m
   ·have r7:(n:Int)<m:=ox;obtain⟨q,hq⟩:∃q,o.length=q+4:=⟨o.length-4,ox⟩;have c4:IntKind.i64.wrap ((o:Int)-4)=(q:Int):=(by rw[Za _ ox];omega);have p2:=Sf (P:=prog) 88 5 iU Xo x9 z6 gb 0 o c q (q:Int) rfl ox ox;have p3:=Sf (P:=prog) 88 5 iU Xo x9 z6 y 0 m m n (n:Int) rfl ox ox;rw[Zu]at p2 p3;have c5:IntKind.i64.wrap (q:Int)=(q:Int):=Za _ ox;obtain⟨b6,q0,q1,q3,q4,q6⟩:(o:Int)-4=(q:Int)/\(0:Int)<=q/\(q:Int)<=o.length/\¬c=q/\¬m=n/\(n:Int)<=m:=ox;have Hq:=Qa hq;clear hq p2 p3;go_wp2_with fail;have⟨kk,y3⟩:=qx<|Nat.min (o.length-q)<|m-n;have r5:kk<=4/\n+kk<=m/\0<kk:=by rw[<-y3];simp only[Nat.min_def];split<;>omega
    obtain⟨c8,p1,c9⟩:=r5;have p9:=Qa (show(List.replicate kk<|Value.int .u8 (last.toNat:Int)).length=Nat.min (o.length-q) (m-n)by rw[y3];simp);have q7:=Qa (show ∀W,Qb [] wr W->0<(List.replicate kk<|Value.int .u8 (last.toNat:Int)).length->(some ⟨y.heap.size,n,none⟩:OA)=some ⟨y.heap.size,n,none⟩/\∃ad:Addr,(some ⟨gb,q,none⟩:OA)=some ad/\∀j v,(List.replicate kk<|Value.int .u8 (last.toNat:Int))[j]?=some v->W.cell? (ad.add j)=some v from
     fun W hW _=>⟨rfl,_,rfl,fun j v hj=>by
      rw[V1]at hj
      split at hj
      ·injection hj with hj;subst hj;have:=p5.o j ox;rw[show o.length-4+j=q+j by have:=Hq.o;omega]at this;rw[Jc];exact hW.cZ this sx
      cases hj⟩)
    have p7:=Qa (by rw[Yi,jM n m last hn];simp;omega:n+(List.replicate kk<|Value.int .u8 (last.toNat:Int)).length<=(Qn<|part n m last).length);have c6:IntKind.i64.wrap ((n:Int)+kk)=(n:Int)+kk:=Za _ ox;clear y3
    go_region_held3 (fun w'=>True) (exact trivial) ((refine Ma rfl _ _ 88 88 rfl 5 Xo Gh (some ⟨y.heap.size,n,none⟩) (some ⟨gb,q,none⟩) (m-n) (m-n) (o.length-q) (c-q) rfl rfl y n (Qn<|part n m last) (List.replicate kk<|Value.int .u8 (last.toNat:Int)) (y6.o.kept (Qc [] _).drew sx) p9.o (q7.o _ (Qc [] _).drew) p7.o (by intro v hv;rw[BR hv];rfl) ?_;intro w1 y9 r4))
    rw[Qfu n m kk last p1]at y9
    go_wp2
    go_roundg (m-(n+kk))
    ·exact⟨n+kk,rfl,p1,by go_num,Qa y9,Qa<|x0.o.drew.trans r4 fun x hx=>.inl hx⟩
    have:=q9.o;omega
   obtain rfl:n=m:=ox;have r7:¬(n:Int)<n:=ox;have hl:(Qn<|part n n last).length=n:=(by rw[Yi,jM n n last<|Qk _]);have r9:Qp wr 1 y n (Qn<|part n n last):=(by have h:=y6.o.sees;rwa[hl]at h);have M1:(Qn o).length+n<=maxLen:=(by rw[Yi];simp only[maxLen];omega);have M2:((Qn o).length+n)*1<=140737488355328:=(by rw[Yi];omega);have HE:=Qa (by simp[Qn,part]:Qn o++Qn (part n n last)=Qn (o++List.replicate n last));clear hl;go_wp2_with ((at_builtin;refine Du rfl _ _ 88 rfl 5 (.int .u8 0) 1 Xo Jg rfl _ _ (Qn<|part n n last) _ _ _ rfl rfl (oD _) z7 r9 (fun h=>by cases h) M1 M2 ?_;intro a5 x2 w5 h9 y0 x7));have y7:=p8.o.new x0.o (by intro x hx;simp at hx;omega)
   go_roundg (s.size-(i+1))
   ·have he:(Qn o).length+n=(o++List.replicate n last).length:=(by simp[Yi]);rw[HE.o]at h9;refine⟨i+1,0,last,o++List.replicate n last,a5,x2,rfl,ox,by rw[<-he],rfl,by go_num,ox,by rw[<-he,Yi];omega,Qa ⟨_,by simp;rfl⟩,Qa Y2.o,Qa ?_,Qa<|y7.new y0 HF.o,Qa ?_⟩
    ·rwa[<-he]
    rw[<-he];exact HF.o.grow x7 y7.size
   have:=Hk.o;omega
  obtain⟨y1,y2⟩:=z2 e4;have Y2:=Qa y2;have d4:((same:Int)==4)=false:=Ze.2 ox;have dm:((o:Int)==262144)=false:=Ze.2 ox;have c7:(x.toNat:Int)<256:=yx x.toNat_lt
  have hy:o.length+1<=262144:=ox
  have z8:=HR.o;have M1:(Qn o).length+1<=maxLen:=by rw[Yi];simp only[maxLen];omega
  have M2:((Qn o).length+1)*1<=140737488355328:=by rw[Yi];omega
  clear y2 z1 z2 y1 HR;obtain⟨t1,t2⟩:=HT.o.step x h4 e4;have⟨sm,y4⟩:=qx<|(if 0<same/\x=last then same+1 else 1);have Y3:=Qa Y2.o;rw[y4]at t1 t2 Y3;have⟨T1,x1⟩:=qb t1 y4;clear Y2 t1 y4
  by_cases h0:0<same
  case' neg=>have r0:decide ((0:Int)<same)=false:=X0 ox;have h2:(sm:Int)=1:=(by rw[<-x1.o,Qf fun h=>h0 h.1];rfl);have HV:=Qa h2;clear h2;refine ?cC
  case' pos=>
   have r0:(0:Int)<same:=ox;obtain⟨gb,cap,hv,x3,-,h8,-,-⟩:=z8.open (by rw[Yi];have:=HT.o.le;omega);injection hv with y5 hv2 hv3;subst y5;subst hv3;have a6:=HT.o.le;obtain⟨q,hq⟩:∃q,o.length=q+1:=⟨o.length-1,ox⟩;have c0:=h8 q (.int .u8 (last.toNat:Int)) (by have:=HT.o.get (j:=same-1) ox;rwa[(ox:o.length-same+(same-1)=q)]at this);have b5:(o:Int)-1=(q:Int):=ox;have b8:IntKind.i64.wrap (q:Int)=(q:Int):=Za _ ox;obtain⟨q0,q1⟩:(0:Int)<=q/\(q:Int)<o.length:=ox;clear hv2 h8 x3 hq
   by_cases h5:x=last
  case' neg=>have b1:((x.toNat:Int)==(last.toNat:Int))=false:=Ze.2 (fun e=>h5<|DK.1 ox);have h2:(sm:Int)=1:=(by rw[<-x1.o,Qf fun h=>h5 h.2];rfl);have HV:=Qa h2;clear h5 h2;refine ?cB
  case' pos=>have b1:((x.toNat:Int)==(last.toNat:Int))=true:=(by rw[h5];simp);have h2:(sm:Int)=same+1:=(by rw[<-x1.o,Qg ⟨h0,h5⟩];omega);have HV:=Qa h2;clear h5 h2
  all_goals
   go_wp2_with fail;go_quiet (fail);go_wp2_with ((at_builtin;refine Vn (y.drewN _) rfl _ _ 88 rfl 5 (.int .u8 0) 1 Xo Jg rfl _ _ [.int .u8 (x.toNat:Int)] 1 rfl rfl rfl rfl (by simp[Value.oneCell']) (z8.drewN _) M1 M2 ?_;intro a5 x2 w5 h9 y0 x7))
   go_roundg (s.size-(i+1))
   ·have he:(Qn o).length+1=(o++[x]).length:=(by simp[Yi]);have r1:=(HK.o.drewN _).new y0 HF.o;refine⟨i+1,sm,x,o++[x],a5,x2,rfl,ox,by rw[<-he],by rw[HV.o],by go_num,t2,zx,T1,Y3,Qa ?_,Qa r1,Qa ?_⟩
    ·rw[<-he];simpa[Qn]using h9
    rw[<-he];exact HF.o.grow x7 HK.o.size
   have:=Hk.o;omega
 obtain rfl:i=s.size:=ox
 have r6:¬(s.size:Int)<s.size:=ox
 have hz:=HZ.o;rw[NB s s.size<|Qk _,JK]at hz;have y8:same≠4:=by intro e;rw[Qg e]at hz;cases hz
 rw[Qf y8]at hz;injection hz with hz;have d4:((same:Int)==4)=false:=Ze.2 ox;have ht:=HR.o.text;have p6:=Qa hz;clear hz y8 HZ
 go_wp2
 go_ret2;exact⟨by rw[p6.o];rfl,HK.o⟩
