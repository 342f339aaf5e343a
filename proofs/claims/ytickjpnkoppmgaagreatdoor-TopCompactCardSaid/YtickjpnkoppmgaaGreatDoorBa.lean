import Derived.Lib.AppendStr
import Derived.Shelf.Abstract
import Derived.Shelf.RegionOpen
import Derived.OwnWalkIn
import Derived.TacticsInMore
import Derived.LoopNIn
import Derived.LoopIn
import Derived.Sort.LoopGhostIn
import Derived.WalkMore
import Derived.Deep.CutRange
import Derived.Deep.CutBlock
import Derived.Deep.QuietTactic
import Derived.Test.YtickjpnkoppmgaaGreatDoorAz
set_option linter.all false
set_option maxHeartbeats 2000000
set_option maxRecDepth 100000
namespace Go.Proofs.YtickjpnkoppmgaaGreatDoor
open Go.Proofs.Tryz Go.RowKit K
def Py(z m)(a:z.cells=#[z]):(Builtin.zeroCells z.cells m).toList=List.replicate m z:=by
 rw[a];apply List.ext_getElem
 ·simp[Builtin.zeroCells]
 intro a a a;simp[Builtin.zeroCells,Nat.mod_one]
def Qfu{P}(w t u b e z bytes)(k:P.underlying t=some (.slice e))(d:P.underlying u=some (.int .i64))(T:(P.info? e).map (fun i=>(i.zero,i.size,i.bytes))=some (some z,1,bytes))(hz:z.cells=#[z])(G:z.oneCell'=true)(v xs)(D:Qh w e v xs)(m)(q:xs.length+m≤maxLen)(hb:(xs.length+m)*bytes≤140737488355328):
 ∃a' a w',(Builtin.append_ #[t,u] b #[v,(m:Int)]).run P w=.ok (.slice a' (xs.length+m) a) w'∧Qh w' e (.slice a' (xs.length+m) a) (xs++List.replicate m z)∧Qb (Qd v) w w'∧
  QP w.heap.size (Qd v) (Qd<|.slice a' (xs.length+m) a):=by
 obtain⟨i,hi,h0,j,a⟩:=Vr T;subst a;have g:xs.length+m≤9223372036854775807:=by simp only[maxLen]at q;omega
 have hw:IntKind.i64.wrap (m:Int)=(m:Int):=Q3 _ (by omega);have y:¬((m:Int)<0):=by omega
 have F:IntKind.i64.wrap 0=0:=by decide
 have:m*i.bytes≤140737488355328:=QS (AA _<|by omega) hb;have a:¬((2:Int)^48<(m:Int)*i.bytes):=by
  have:((m*i.bytes:Nat):Int)=m*(i.bytes:Int):=by push_cast;rfl
  rw[←this];omega
 have x:¬(281474976710656<(m:Int)*i.bytes):=by simpa using a
 have:(xs++List.replicate m z).length=(xs.length+m)*1:=by simp
 have A:=Py z m hz;have ha:∀(n:Int)(a:WD),Sem.run P (asInt<|.int .i64 n) a=.ok n a:=fun _ _=>rfl
 have E:∀a:LV,List.take (xs.length+m) (xs++(List.replicate m z++a))=xs++List.replicate m z:=fun a=>by rw[←QQ];exact List.take_left' (by simp)
 have fresh:∀(old:Nat),old<xs.length+m→∀(b:Array VL)(a:Nat),xs.length+m≤a→a≤maxLen→b.size=a→b.toList.take (xs.length+m)=xs++List.replicate m z→
  Qh (w.drew.alloc<|.cells b e) e (.slice w.heap.size (xs.length+m) a) (xs++List.replicate m z):=fun old f b a g1 f g3 g4=>
  ⟨by simp,.inr ⟨w.heap.size,a,_,by simp,ZF _,Xf w.drew _,by simp;exact g1,f,by simpa using g3,by simpa using g4⟩⟩
 have kept:∀b:Array VL,Qb (Qd v) w (w.drew.alloc<|.cells b e):=fun b=>((Qc _ w).drew).alloc _
 have B:∀a,QP w.heap.size (Qd v) (Qd<|.slice w.heap.size (xs.length+m) a):=fun a n l=>.inr (by simp[Qd,qo]at l;omega)
 rcases D.2 with⟨rfl,l⟩|⟨a,cap,f,rfl,b,C,b,r,b,I⟩
 ·have b:xs=[]:=J3 l;subst b
  by_cases b:m=0
  ·subst b;refine⟨none,0,w,?_,by simpa using Qh.nil w e,Qc _ _,QP.refl _ _⟩;simp[Builtin.append_,YX k,YX d,sizeOf,typeInfo,hi,j,ha,F]
  have s:=grownCap_ge w m 0 e;have r:=Nd w m 0 e (by simpa using q);have p:¬(9223372036854775807<(m:Int)):=by simp at g;omega
  have o:¬(281474976710656<Builtin.nextslicecap m 0*i.bytes):=by rw[nextslicecap_zero<|by omega];omega
  refine⟨_,_,_,?_,fresh 0 (by simp;omega) (Builtin.zeroCells z.cells m++Builtin.zeroCells z.cells (grownCap w m 0 e-m)) (grownCap w m 0 e) (by simpa using s) r ?_ ?_,kept _,B _⟩
  ·simp[Builtin.append_,YX k,YX d,sizeOf,typeInfo,zeroValue,hi,h0,j,ha,hw,y,x,b,p,o,Question.forced,run_firstCells_none,newRow,grownCap]
  ·simp[size_zeroCells,hz];omega
  simp[Le,A]
 by_cases h:xs.length+m≤cap
 ·have H:xs.length*1+(List.replicate m z).length≤f.size:=by simp;omega
  have g:=run_storeCells_at P a (xs.length*1) e (List.replicate m z) 0 f w C (by simpa using H) (by intro u d;rw[Bl d];exact G);simp only[Jb]at g;refine⟨some ⟨a,0,none⟩,cap,w.setRow a (f.toList.take (xs.length*1)++List.replicate m z++f.toList.drop (xs.length*1+(List.replicate m z).length)).toArray,?_,⟨by simp,.inr ⟨a,cap,_,by simp,ZF _,KL w a f _ e _ C,by simp;exact h,r,?_,?_⟩⟩,?_,?_⟩
  ·simp only[RY,RV]at g ⊢
   by_cases b:m=0
   ·subst b;simp[Builtin.append_,YX k,YX d,sizeOf,typeInfo,hi,j,ha,F,h,YM]at g ⊢;have r:xs.length≤cap:=h;simp[g,r]
   simp[Builtin.append_,YX k,YX d,sizeOf,typeInfo,zeroValue,hi,h0,j,ha,hw,y,x,b,h,YM,A];simp at g;rw[g];rfl
  ·simp;omega
  ·have:f.toList.take xs.length=xs:=(by simpa using I);simp[this,E]
  ·exact(Qc _ w).grown (c:=w.setRow a _) (row:=some a) ⟨rfl,rfl,rfl,by simp,fun f _ hk=>setRow_other w a f _ fun e=>hk<|by simp[e]⟩ (by intro f hk;left;simp[Qd,qo]at hk ⊢;exact hk.symm)
  intro n l;left;simpa[Qd,qo]using l
 have holds:∀f u,xs[f]?=some u→w.cell? ((⟨a,0,none⟩:Addr).add f)=some u:=World.ownsRow.cells D (g:=a) rfl;have s:=grownCap_ge w (xs.length+m) cap e;have f:=Nd w (xs.length+m) cap e q;have g:=run_firstCells_some (P:=P) w.drew 1 xs.length ⟨a,0,none⟩ xs.length cap xs (by simp) (by simpa using holds);have p:¬(9223372036854775807<((xs.length:Int)+m)):=by omega
 have o:¬(281474976710656<Builtin.nextslicecap (xs.length+m) cap*i.bytes):=by have:=IW (need:=xs.length+m) (old:=cap) (by omega) hb;omega
 have b:m≠0:=by omega
 refine⟨_,_,_,?_,fresh cap (by omega) (xs.toArray++Builtin.zeroCells z.cells m++Builtin.zeroCells z.cells (grownCap w (xs.length+m) cap e-(xs.length+m))) (grownCap w (xs.length+m) cap e) (by simpa using s) f ?_ ?_,kept _,B _⟩
 ·simp[Builtin.append_,YX k,YX d,sizeOf,typeInfo,zeroValue,hi,h0,j,ha,hw,y,x,b,h,p,o,Question.forced,g,newRow,grownCap]
 ·simp[size_zeroCells,hz];omega
 simp[Le,A,E]
def lO{P w f g c a d}(l:c.guard=none)(s x:Operand)(t u)(n:c.op=Op.call {callee:=Callee.builtin Builtin.append,args:=#[s,x],argTypes:=#[t,u]})(e z bytes)(p:P.underlying t=some (.slice e))(q:P.underlying u=some (.int .i64))(T:(P.info? e).map (fun i=>(i.zero,i.size,i.bytes))=some (some z,1,bytes))(hz:z.cells=#[z])(h:z.oneCell'=true)(v xs m)(hs:a.eval s=v)(r:a.eval x=.int .i64 (m:Int))(o:Qh w e v xs)(k:xs.length+m≤maxLen)(hb:(xs.length+m)*bytes≤140737488355328)(j:∀a' b w',Qh w' e (.slice a' (xs.length+m) b) (xs++List.replicate m z)→Qb (Qd v) w w'→QP w.heap.size (Qd v) (Qd<|.slice a' (xs.length+m) b)→
  wpList P f d g (a.put c.dst<|.slice a' (xs.length+m) b) w'):
 wpList P f d (c::g) a w:=by
 obtain⟨a',b,w',f,g,hk,d⟩:=Qfu (P:=P) w t u c.type e z bytes p q T hz h v xs o m k hb;refine DC l fun c c=>?_
 unfold Oper.wp;simp only[execOp,n,resolve,invoke,builtin,Sem.run_bind,Sem.run_pure,UF,Ax,QR,YG,hs,r,f];exact c _ _<|j a' b w' g hk d
section
open Go.Lib
def Qfs{P}(w t u d e)(j:P.underlying t=some (.slice e))(k:P.underlying u=some .string)(T:(P.info? e).map (fun i=>(i.zero,i.size,i.bytes))=some (some<|.int .u8 0,1,1))(v xs)(r:Qh w e v xs)(s:BA)(hb:xs.length+s.size≤140737488355328):
 ∃f w',(Builtin.append_ #[t,u] d #[v,s]).run P w=.ok f w'∧w'.ownsRow 0 e 1 f (xs.length+s.size) (xs++strCells s)∧Qb (Qd v) w w'∧QP w.heap.size (Qd v) (Qd f):=by
 obtain⟨i,hi,h0,h,x⟩:=Vr T;have m:∀w',w.grownBy w' v.ownBlock→Qb (Qd v) w w':=fun w' o=>(Qc _ w).grown o (by intro l hk;left;simp[Qd,hk])
 have n:xs.length+s.size≤maxLen:=by simp only[maxLen];omega
 obtain⟨f,w',a,q,p,-⟩:=run_append_own_string (P:=P) w 0 t u d e i j k hi h0 h x v xs.length xs r s n hb<|ZF _;rcases r.2 with⟨rfl,hz⟩|⟨g,cap,y,rfl,b,o,b,b,b,b⟩
 ·have b:xs=[]:=J3 hz;subst b;obtain⟨v2,b,c,z,b,-⟩:=run_append_own_string (P:=P) w w.heap.size t u d e i j k hi h0 h x (.slice none 0 0) 0 [] (Mp _ _ _ _) s n hb<|Ql _;have:=a.symm.trans c;injection this with b h2;subst b h2;exact⟨_,_,a,q,m _ p,fun l hk=>.inr (z.lt l<|by simpa[Qd]using hk).1⟩
 by_cases z:xs.length+s.size≤cap
 ·have c:=run_append_room_string (P:=P) w t u d e i j k hi h g xs.length cap y o s z (by omega);have:=a.symm.trans c;injection this with b h2;subst b;exact⟨_,_,a,q,m _ p,fun l hk=>.inl<|by simpa[Qd,qo]using hk⟩
 have holds:∀o u,xs[o]?=some u→w.cell? ((⟨g,0,none⟩:Addr).add o)=some u:=r.cells (g:=g) rfl;have c:=run_append_grow_string (P:=P) w t u d e i (.int .u8 0) j k hi h0 ⟨g,0,none⟩ xs.length cap xs (by rw[h,RY]) holds s (by omega) (by simp only[maxLen]at n;omega) (IW (by omega)<|by rwa[x,RY]);have:=a.symm.trans c;injection this with b h2;refine⟨f,w',a,q,m _ p,fun l hk=>.inr ?_⟩;rw[b]at hk;simp[Qd,qo]at hk;omega
def Pr{P w f g c a d}(j:c.guard=none)(b x:Operand)(t u)(l:c.op=Op.call {callee:=Callee.builtin Builtin.append,args:=#[b,x],argTypes:=#[t,u]})(e)(o:P.underlying t=some (.slice e))(p:P.underlying u=some .string)(T:(P.info? e).map (fun i=>(i.zero,i.size,i.bytes))=some (some<|.int .u8 0,1,1))(v xs s m)(k:s.size=m)(hs:a.eval b=v)(q:a.eval x=.string s)(n:Qh w e v xs)(hb:xs.length+m≤140737488355328)(h:∀a' b w',Qh w' e (.slice a' (xs.length+m) b) (xs++strCells s)→Qb (Qd v) w w'→QP w.heap.size (Qd v) (Qd<|.slice a' (xs.length+m) b)→
  wpList P f d g (a.put c.dst<|.slice a' (xs.length+m) b) w'):
 wpList P f d (c::g) a w:=by
 subst k;obtain⟨k,w',g,d,hk,f⟩:=Qfs (P:=P) w t u c.type e o p T v xs n s hb;have c:Qh w' e k (xs++strCells s):=by unfold Qh;rwa[Qo,strCells_length]
 obtain⟨a',b,d,-⟩:=c.sees;rw[Qo,strCells_length]at d;subst d;refine DC j fun d d=>?_
 unfold Oper.wp;simp only[execOp,l,resolve,invoke,builtin,Sem.run_bind,Sem.run_pure,UF,Ax,QR,YG,hs,q,g];exact d _ _<|h a' b w' c hk f
end
section
open Go.Shelf
def str(l:LU):BA:=⟨l.toArray⟩
def BP(l):(str l).size=l.length:=rfl
def Jz(l):(str l).data.toList=l:=rfl
def CD(s:BA)(a:0<s.size):s.toList.isEmpty=false:=by
 rw[X6];have:=Zo s;cases hl:s.data.toList with
 |nil=>rw[hl]at this;simp at this;omega
 |cons=>rfl
def Qh.ao{w e a n c xs}(d:Qh w e (.slice a n c) xs):(a=none→c=0)∧n≤c∧c≤maxLen:=by
 rcases d.2 with⟨b,-⟩|⟨f,cap,f,b,-,-,g,f,-⟩
 ·injection b with b g f;subst g f;exact⟨fun _=>rfl,Ql _,ZF _⟩
 injection b with b h4 h5;subst b h5;exact⟨(fun d=>(by cases d)),(by omega),f⟩
def Qe.sees{w g size n xs t}(a:Qe w g t xs)(b:xs.length=n*size):Qp w size g n xs:=
 ⟨b,fun b b b=>⟨g,0,rfl,by rw[ZE];exact a.cell b⟩⟩
def Qp.get1{w b off n xs}(d:Qp w 1 (some ⟨b,off,none⟩) n xs){j u}(e:xs[j]?=some u):w.cell? ⟨b,off+j,none⟩=some u:=by obtain⟨a,a,a,c⟩:=d.2 j u e;injection a with a;injection a with a h2;subst a h2;exact c
def TK{P}(t e)(i:TypeInfo)(a:P.underlying t=some (.slice e))(hi:P.info? e=some i)(W):
 (Instr.buildSlice t 0 #[]).run P W=.ok (.slice W.heap.size 0 0) (W.alloc<|.cells #[] e):=by
 simp[Instr.buildSlice,YX a,sizeOf,typeInfo,hi,Instr.fill,newRow];rw[show(Array.map (fun a:Nat=>(default:VL))<|Array.range 0)=#[]from Array.eq_empty_of_size_eq_zero (by simp)]
def Qh.mt{W:WD}(e):Qh (W.alloc<|.cells #[] e) e (.slice W.heap.size 0 0) []:=
 ⟨rfl,.inr ⟨W.heap.size,0,#[],rfl,ZF _,Xf W _,Ql _,ZF _,rfl,rfl⟩⟩
def OP{P}(t e)(i:TypeInfo)(h:P.underlying t=some (.slice e))(hi:P.info? e=some i)(f:i.size=1)(b off n c k:Nat)(x)(a:x=(k:Int))(d:k≤n)(g:k<c)(W):
 (Instr.slice t (.slice (some ⟨b,off,none⟩) n c) (some<|.int .i64 x) none none).run P W=.ok (.slice (some ⟨b,off+k,none⟩) (n-k)<|c-k) W:=by
 subst a;obtain⟨a,g⟩: ¬c=k∧(k:Int)≤n:=by omega
 simp[Instr.slice,YX h,sizeOf,typeInfo,hi,f,Instr.sliceBounds,Instr.sliceBound,asIntOf,g,d,a,YM]
def Qn.cells{w e size v n xs}(c:Qn w e size v n xs):∀b∈Qd v,∃a:Obj,w.heap[b]?=some a∧a.isCells=true:=by
 intro b hb;rcases c.2 with⟨rfl,-⟩|⟨a,cap,a,rfl,-,a,-⟩
 ·simp[Qd,qo]at hb
 simp[Qd,qo]at hb;subst hb;exact⟨_,a,rfl⟩
def keeps_of{S A c}(k:Qb S A c)(d:∀b∈S,∃a:Obj,A.heap[b]?=some a∧a.isCells=true):KeepsOthers A c:=
 ⟨k.size,fun b a hb a=>k.heap hb (fun f=>by obtain⟨c,c,e⟩:=d b f;rw[c]at hb;injection hb with hb;subst hb;rw[e]at a;cases a)⟩
def lM{F:Fence}{n P}(w0){w h j b a f}(m:b.guard=none)(s x:Operand)(t)(c:b.op=Op.call {callee:=Callee.builtin Builtin.append,args:=#[s,x],argTypes:=#[t,t]})(e z size bytes)(r:P.underlying t=some (.slice e))(T:(P.info? e).map (fun i=>(i.zero,i.size,i.bytes))=some (some z,size,bytes))(hz:z.cells.size=size)(h0:0<size)(v k xs news)(hs:a.eval s=v)(d:a.eval x=.slice w0.heap.size 1 1)(hw:w=w0.alloc (.cells news.toArray e))(l:news.length=size)(p:∀u∈news,u.oneCell'=true)(q:Qn w0 e size v k xs)(o:k+1≤maxLen)(hb:(k+1)*bytes≤140737488355328)(l:∀g cap w',Qn w' e size (.slice (some ⟨g,0,none⟩) (k+1) cap) (k+1) (xs++news)→Qb (Qd v) w0 w'→(g∈Qd v∨w0.heap.size≤g)→
  wpListIn F n P h f j (a.put b.dst<|.slice (some ⟨g,0,none⟩) (k+1) cap) w'):
 wpListIn F n P h f (b::j) a w:=by
 subst hw;obtain⟨f,w',j,f,hk,hf⟩:=BN (P:=P) (w0.alloc<|.cells news.toArray e) t b.type e z size bytes r T hz h0 v k xs (World.ownsRow.alloc q _)
  ⟨w0.heap.size,0,none⟩ 1 1 news (by omega) (by intro b b b;rw[YM,ZE];rw[To _ _ _ _ rfl];simpa using b) p o hb
 refine wpListIn_plain m fun b b=>?_
 unfold Oper.wpIn;refine⟨by simp[Oper.about,c,resolve,Target.leads,Sem.run_pure],?_⟩;rw[Oper.semAt_plain F _ _ (by rw[c];intro h h;cases h)];rcases f.2 with⟨-,h0⟩|⟨g,cap,h,rfl,-⟩
 ·omega
 simp only[execOp,c,resolve,invoke,builtin,Sem.run_bind,Sem.run_pure,UF,Ax,QR,YG,hs,d,j];refine b _ _<|l g cap w' f (((Qc (Qd v) w0).alloc _).trans hk fun x d=>.inl d) ?_;refine(hf g<|by simp[Qd,qo]).imp id fun b=>?_
 simp at b;omega
def Qcp{F:Fence}{n P w w' i b a K e}{d:Prop}{v}(g:b.guard=none)(s x:Operand)(t)(c:b.op=Op.call {callee:=Callee.builtin Builtin.append,args:=#[s,x],argTypes:=#[t,t]})(h:(Builtin.append_ #[t,t] b.type #[a.eval s,a.eval x]).run P w=.ok v w')(f:K (a.put b.dst v) w'):if Region.wanted b (yielded i a.tmps)=true then Oper.wpIn F n P b a w K e else d:=by
 rw[Qg<|by simp[Region.wanted,g]];unfold Oper.wpIn;refine⟨by simp[Oper.about,c,resolve,Target.leads,Sem.run_pure],?_⟩;rw[Oper.semAt_plain F _ _ (by rw[c];intro b b;cases b)];simp only[execOp,c,resolve,invoke,builtin,Sem.run_bind,Sem.run_pure,UF,Ax,QR,YG,h];exact f
def iO{w:World}{p a u v x}(b:w.cell? ⟨a,0,none⟩=some x)(hne:a≠p):((w.setCell ⟨p,0,none⟩ u).setCell ⟨p,1,none⟩ v).cell? ⟨a,0,none⟩=some x:=
 (((Qc [p] w).setCell (p:=⟨p,0,none⟩) (by simp) _).setCell (p:=⟨p,1,none⟩) (by simp) _).cZ b (by simpa using hne)
def Qb.put{S a b}(c:Qb S a b){l}(d:l∈S∨a.heap.size≤l)(e):Qb S a (b.putObj l e):=
 c.trans (T:=[l]) ⟨rfl,rfl,rfl,by simp,fun c hk c=>World.putObj_heap_other<|by simpa using c⟩ (by simpa using d)
def Gs{P w q b a K h}{d:Prop}(l:b.guard=none)(s x:Operand)(t)(o:b.op=Op.call {callee:=Callee.builtin Builtin.append,args:=#[s,x],argTypes:=#[t,t]})(e z size bytes)(r:P.underlying t=some (.slice e))(T:(P.info? e).map (fun i=>(i.zero,i.size,i.bytes))=some (some z,size,bytes))(hz:z.cells.size=size)(h0:0<size)(v k xs news c)(hs:a.eval s=v)(y:a.eval x=.slice (some c) 1 1)(f:Qp w size (some c) 1 news)(n:∀u∈news,u.oneCell'=true)(p:Qn w e size v k xs)(m:k+1≤maxLen)(hb:(k+1)*bytes≤140737488355328)(j:∀g cap w',Qn w' e size (.slice (some ⟨g,0,none⟩) (k+1) cap) (k+1) (xs++news)→Qb (Qd v) w w'→(g∈Qd v∨w.heap.size≤g)→K (a.put b.dst<|.slice (some ⟨g,0,none⟩) (k+1) cap) w'):
 if Region.wanted b (yielded q a.tmps)=true then Oper.wp P b a w K h else d:=by
 obtain⟨d,w',q,d,hk,hf⟩:=BN (P:=P) w t b.type e z size bytes r T hz h0 v k xs p c 1 1 news (by have:=f.1;omega) (by intro p u h;obtain⟨b,off,b,c⟩:=f.2 p u h;injection b with b;subst b;rwa[YM]) n m hb;rcases d.2 with⟨-,h0⟩|⟨g,cap,b,rfl,-⟩
 ·omega
 rw[Qg<|by simp[Region.wanted,l]];unfold Oper.wp;simp only[execOp,o,resolve,invoke,builtin,Sem.run_bind,Sem.run_pure,UF,Ax,QR,YG,hs,y,q];exact j g cap w' d hk (hf g<|by simp[Qd,qo])
end
namespace K
def X3(b:UInt8):Nat→LU→Nat
 |0,_=>0
 |_,[]=>0
 |f+1,x::r=>if x=b then X3 b f r+1 else 0
def Gl(b):∀(f:Nat)(l:LU),X3 b f l≤f∧X3 b f l≤l.length
 |0,l=>by simp[X3]
 |f+1,[]=>by simp[X3]
 |f+1,x::r=>by
  have:=Gl b f r;rw[X3]
  split
  ·simp;omega
  simp
def OH(b):∀(f:Nat)(l:LU),l.take (X3 b f l)=List.replicate (X3 b f l) b
 |0,l=>by simp[X3]
 |f+1,[]=>by simp[X3]
 |f+1,x::r=>by
  rw[X3]
  split
  ·rename_i h;subst h;rw[Sd,OH x f r,Y8]
  simp
def iB(b):∀(f:Nat)(l:LU),X3 b f l<f→∀x,(l.drop<|X3 b f l).head?=some x→x≠b
 |0,l,h,x,hx=>by omega
 |f+1,[],h,x,hx=>by simp[X3]at hx
 |f+1,y::r,h,x,hx=>by
  rw[X3]at h hx
  split at h
  ·rename_i o;rw[Qg o,List.drop_succ_cons]at hx;exact iB b f r (by omega) x hx
  rename_i o;rw[Qf o]at hx;simp at hx;rwa[←hx]
def Bb(b:UInt8)(n:Nat):LU:=if n<4 then List.replicate n b else List.replicate 4 b++[UInt8.ofNat (n-4)]
def BM:Nat→LU→LU
 |0,_=>[]
 |_,[]=>[]
 |f+1,b::r=>Bb b (1+X3 b 254 r)++BM f (r.drop (X3 b 254 r))
def Zw(s:LU):LU:=BM s.length s
def Qe2:∀(f:Nat)(s:LU),s.length≤f→BM f s=Zw s:=by
 have key:∀(f a:Nat)(s:LU),s.length≤f→s.length≤a→BM f s=BM a s:=by
  intro f
  induction f with
  |zero=>intro a s d c;have:s=[]:=J3 (by omega);subst this;cases a<;>rfl
  |succ f ih=>
   intro a s d c;cases s with
   |nil=>cases a<;>rfl
   |cons b r=>
    cases a with
    |zero=>simp at c
    |succ a=>have:=Gl b 254 r;rw[BM,BM,ih a _ (by rw[Y0];simp at d;omega) (by rw[Y0];simp at c;omega)]
 exact fun f s a=>key f s.length s a<|Ql _
def KE:Zw []=[]:=rfl
def KD(b r):Zw (b::r)=Bb b (1+X3 b 254 r)++Zw (r.drop<|X3 b 254 r):=by show BM (r.length+1) (b::r)=_;rw[BM,Qe2 _ _ (by rw[Y0];omega)]
def iC(b n)(a:1≤n):1≤(Bb b n).length∧4*(Bb b n).length≤5*n:=by
 unfold Bb
 split
 ·simp;omega
 simp;omega
def Dw(s):4*(Zw s).length≤5*s.length:=by
 induction hn:s.length using Nat.strongRecOn generalizing s with
 |_ k ih=>
  cases s with
  |nil=>simp[KE]
  |cons b r=>have:=Gl b 254 r;have:=(iC b (1+X3 b 254 r)<|by omega).2;have a:=ih (r.drop<|X3 b 254 r).length (by rw[Y0];simp at hn;omega) _ rfl;rw[Y0]at a;rw[KD,Qo];simp at hn;omega
def EH(s)(a:s≠[]):0<(Zw s).length:=by
 cases s with
 |nil=>exact absurd rfl a
 |cons b r=>rw[KD,Qo];have:=(iC b (1+X3 b 254 r)<|by omega).1;omega
def Jk:Nat→UInt8→LU→LU→Option LU
 |same,_,out,[]=>if same=4 then none else some out
 |same,last,out,x::r=>
  if same=4 then(if 262144<out.length+x.toNat then none else Jk 0 last (out++List.replicate x.toNat last) r)
  else if out.length=262144 then none else Jk (if 0<same∧x=last then same+1 else 1) x (out++[x]) r
def gU(b):∀(n:Nat)(same:Nat)(a c:LU),0<same→same+n≤4→a.length+n≤262144→Jk same b a (List.replicate n b++c)=Jk (same+n) b (a++List.replicate n b) c
 |0,same,a,c,h0,h4,hl=>by simp
 |n+1,same,a,c,h0,h4,hl=>by rw[Y8,Yf,Jk,Qf<|by omega,Qf<|by omega,Qg ⟨h0,rfl⟩,gU b n (same+1) _ c (by omega) (by omega) (by simp;omega)];rw[show same+1+n=same+(n+1)by omega];simp
def Qe0(b n same last c e)(hs:same<4)(hb:same=0∨b≠last)(g:1≤n)(a:n≤255)(a:c.length+n≤262144):
 Jk same last c (Bb b n++e)=Jk (if n<4 then n else 0) b (c++List.replicate n b) e:=by
 have first:∀(a:Nat)(d:LU),1≤a→a≤4→a≤n→Jk same last c (List.replicate a b++d)=Jk a b (c++List.replicate a b) d:=by intro a d hk c c;obtain⟨a,rfl⟩:∃c,a=c+1:=⟨a-1,by omega⟩;rw[Y8,Yf,Jk,Qf<|by omega,Qf<|by omega,Qf (by rintro⟨c,f⟩;exact hb.elim (fun c=>by omega) fun c=>c f),gU b a 1 _ d (by omega) (by omega) (by simp;omega),BY 1 a];simp
 unfold Bb
 by_cases a:n<4
 ·rw[Qg a,Qg a,first n e g (by omega)<|Ql _]
 have c:(UInt8.ofNat<|n-4).toNat=n-4:=by rw[U7];omega
 rw[Qf a,Qf a,QQ,first 4 _ (by omega) (by omega)<|by omega,Yf,Jk,Qg rfl,c,Qf (by simp;omega),Yy,QQ,Sb,show 4+(n-4)=n by omega]
def Qe5:∀(k:Nat)(s:LU)(same:Nat)(last:UInt8)(a:LU),s.length≤k→same<4→(same=0∨∀x,s.head?=some x→x≠last)→a.length+s.length≤262144→Jk same last a (Zw s)=some (a++s):=by
 intro k
 induction k with
 |zero=>intro s same last a c d hb e;have:s=[]:=J3 (by omega);subst this;rw[KE,Jk,Qf<|by omega,XH]
 |succ k ih=>
  intro s same last a c d hb e;cases s with
  |nil=>rw[KE,Jk,Qf<|by omega,XH]
  |cons b r=>
   obtain⟨g1,f⟩:=Gl b 254 r;have g3:=OH b 254 r;simp only[Q0]at c e;rw[KD,Qe0 b _ same last a _ d (by exact hb.imp id fun a=>a b rfl) (by omega) (by omega)<|by omega];have c:List.replicate (1+X3 b 254 r) b++r.drop (X3 b 254 r)=b::r:=(by rw[BY,Y8,Yf,←g3,V6]);rw[ih (r.drop<|X3 b 254 r) _ b _ (by rw[Y0];omega) (by split<;>omega) ?_ (by simp;omega),QQ,c]
   by_cases a:1+X3 b 254 r<4
   ·rw[Qg a];exact .inr (iB b 254 r<|by omega)
   rw[Qf a];exact .inl rfl
def AK:Nat→Nat→LN
 |0,_=>[]
 |f+1,k=>if k=0 then []else(k-1)%2::AK f ((k-1)/2)
def Je(k:Nat):LN:=AK k k
def WE:∀(f g k:Nat),k≤f→k≤g→AK f k=AK g k
 |0,g,k,h1,h2=>by
  have:k=0:=by omega
  subst this;cases g<;>simp[AK]
 |f+1,0,k,h1,h2=>by
  have:k=0:=by omega
  subst this;simp[AK]
 |f+1,g+1,k,h1,h2=>by
  rw[AK,AK]
  split
  ·rfl
  rw[WE f g _ (by omega)<|by omega]
def FI:Je 0=[]:=rfl
def IH(k)(b:k≠0):Je k=(k-1)%2::Je ((k-1)/2):=by obtain⟨a,rfl⟩:∃a,k=a+1:=⟨k-1,by omega⟩;show AK (a+1) (a+1)=_;rw[AK,Qf b,WE a ((a+1-1)/2) _ (by omega)<|Ql _];rfl
def WG(k):∀x∈Je k,x<2:=by
 induction k using Nat.strongRecOn with
 |_ k ih=>
  intro x a
  by_cases b:k=0
  ·subst b;simp[FI]at a
  rw[IH k b]at a;rcases QE.1 a with rfl|a
  ·omega
  exact ih _ (by omega) x a
def IG(k):(Je k).length≤k:=by
 induction k using Nat.strongRecOn with
 |_ k ih=>
  by_cases a:k=0
  ·subst a;simp[FI]
  have:=ih ((k-1)/2) (by omega);rw[IH k a,Q0];omega
def zE(n:Nat):Nat→LN→LN
 |run,[]=>Je run++[n+1]
 |run,0::r=>zE n (run+1) r
 |run,(x+1)::r=>Je run++(x+2)::zE n 0 r
def zD(n a:Nat):Nat→Nat→LN→LN→Option LN
 |_,_,_,[]=>none
 |run,w,out,s::r=>
  if n+1<s then none else if s<2 then(if a<w∨a<out.length+(run+(s+1)*w)then none else zD n a (run+(s+1)*w) (2*w) out r)
  else if s=n+1 then(if r=[]then some (out++List.replicate run 0)else none)
  else if(out++List.replicate run 0).length=a then none else zD n a 0 1 (out++List.replicate run 0++[s-1]) r
def lT(n b)(a:1≤n)(c e d):∀(k a w:Nat),1≤w→c.length+(a+w*k)≤b→(∀w',zD n b (a+w*k) w' c e=d)→zD n b a w c (Je k++e)=d:=by
 intro k
 induction k using Nat.strongRecOn with
 |_ k ih=>
  intro a w hw a d
  by_cases c:k=0
  ·subst c;rw[FI,Yy];exact d w
  have:(k-1)%2<2:=by omega
  obtain⟨a,b,e,g,hk⟩:∃a b,(k-1)%2=a∧(k-1)/2=b∧k=a+1+2*b:=⟨_,_,rfl,rfl,by omega⟩;have f:w*k=(a+1)*w+2*w*b:=by rw[hk,DY,RX w<|a+1,←GX,RX w 2]
  have:w≤(a+1)*w:=Nat.le_mul_of_pos_left w (by omega);rw[IH k c,e,g,Yf,zD,Qf<|by omega,Qg<|by omega,Qf<|by omega];refine ih b (by omega) _ _ (by omega) (by omega) fun w'=>?_
  rw[Ja,←f];exact d w'
def Pw(n c)(d:1≤n):∀(l:LN)(b:Nat)(a:LN),(∀x∈l,x<n)→a.length+b+l.length≤c→zD n c 0 1 a (zE n b l)=some (a++List.replicate b 0++l)
 | [],b,a,h,hl=>by
   rw[zE];refine lT n c d a [n+1] _ b 0 1 (by omega) (by simp at hl;omega) fun f=>?_
   rw[zD,Qf<|by omega,Qf<|by omega,Qg rfl,Qg rfl];simp
 |0::r,b,a,h,hl=>by rw[zE,Pw n c d r (b+1) a (fun x e=>h x<|by simp[e]) (by simp at hl;omega),Fg];simp
 |(x+1)::r,b,a,h,hl=>by
  have e:=h (x+1) (by simp);simp only[Q0]at hl;rw[zE];refine lT n c d a _ _ b 0 1 (by omega) (by omega) fun f=>?_
  rw[zD,Qf<|by omega,Qf<|by omega,Qf<|by omega,Qf (by simp;omega),ZE,Nat.one_mul,Pw n c d r 0 _ (fun x e=>h x<|by simp[e]) (by simp;omega)];simp
def KZ(n)(g:1≤n):∀(l:LN)(a:Nat),(∀x∈l,x<n)→∃pre,zE n a l=pre++[n+1]∧(∀x∈pre,x<n+1)∧pre.length≤a+l.length
 | [],a,b=>⟨Je a,rfl,fun x c=>by have:=WG a x c;omega,by have:=IG a;simp;omega⟩
 |0::r,a,b=>by
  obtain⟨f,d,e,h⟩:=KZ n g r (a+1) fun x c=>b x (by simp[c])
  exact⟨f,d,e,by simp;omega⟩
 |(x+1)::r,a,b=>by
  obtain⟨f,d,e,h⟩:=KZ n g r 0 fun x c=>b x (by simp[c])
  have c:=b (x+1) (by simp);refine⟨Je a++(x+2)::f,by rw[zE,d];simp,fun c d=>?_,?_⟩
  ·rcases Q6.1 d with b|b
   ·have:=WG a c b;omega
   rcases QE.1 b with rfl|b
   ·omega
   exact e c b
  have:=IG a;simp;omega
end K
def FC(s:BA)(i)(a:i<s.size):s.data.toList.drop i=s[i]'a::s.data.toList.drop (i+1):=by rw[Z8<|by rwa[Zo]];rfl
def Ux(s)(i:Nat)(x)(a:i<s.size)(b:x=(i:Int))(W):(Instr.index 9 (.string s) x).run prog W=.ok (.int .u8 ((s[i]'a).toNat:Int)) W:=by subst b;rw[run_index_string W _ _ _ _ Yj,dif_pos ⟨by omega,by omega⟩];simp
def Mw(s:BA)(i)(a:s.size≤i):s.data.toList.drop i=[]:=BV (by rw[Zo];exact a)
def Rl(s:BA)(i:Nat):Nat:=match s.data.toList.drop i with| []=>1|b::r=>1+X3 b 254 r
def iD(s i)(a:i<s.size):Rl s i=1+X3 (s[i]'a) 254 (s.data.toList.drop<|i+1):=by unfold Rl;rw[FC s i a]
def iG(s:BA)(i w)(hi:i<s.size)(hs:s.size≤140737488351232):Calls prog 199 #[s,(i:Int)] w fun e w'=>e=.returned (Rl s i:Nat)∧Qb [] w w':=by
 have b:=Qa<|iD s i hi;have:(i:Int)<s.size:=by omega
 go_enter func199,ntmps199
 go_wp2
 go_loopg [5] 254 (fun d c wr=>∃a:Nat,d=255-a∧1≤a∧a≤255∧i+a≤s.size∧c=.int .i64 (a:Nat)∧Hid (Rl s i=a+X3 (s[i]'hi) (255-a) (s.data.toList.drop<|i+a))∧Hid (Qb [] w wr))
 ·exact⟨1,by omega,by omega,by omega,by omega,rfl,b,Qa<|Qc _ _⟩
 obtain⟨a,hk,b,b,b,rfl,g,f⟩:=hrel;have h:=Qa hk;clear hk;have:IntKind.i64.wrap ((i:Int)+a)=(i:Int)+a:=Q3 _ (by omega);have hw:wrap64 ((i:Int)+a)=(i:Int)+a:=by unfold wrap64;omega
 by_cases b:a<255
 ·have l:(a:Int)<255:=by omega
  by_cases hlt:i+a<s.size
  ·have k:(i:Int)+a<(s.size:Int):=(by omega);have:=Ux s (i+a) ((i:Int)+a) hlt (by omega);have i2:=Ux s i (i:Int) hi rfl;have b:=g.o;rw[FC s (i+a) hlt,show 255-a=255-(a+1)+1 by omega,X3]at b
   by_cases c:s[i+a]'hlt=s[i]'hi
   ·have j:(((s[i+a]'hlt).toNat:Int)==((s[i]'hi).toNat:Int))=true:=(by rw[c];simp);rw[Qg c]at b;have d:=Qa b;clear b c;go_wp2_with fail;go_quiet (fail)
    go_wp2
    go_roundg (255-(a+1))
    ·exact⟨a+1,rfl,by omega,by omega,by omega,by go_num,Qa (by rw[d.o,show i+(a+1)=i+a+1 by omega];omega),Qa<|f.o.drewN _⟩
    have:=h.o;omega
   have g1:¬((s[i+a]'hlt).toNat:Int)=((s[i]'hi).toNat:Int):=fun h=>c (CZ.1<|by omega)
   have j:(((s[i+a]'hlt).toNat:Int)==((s[i]'hi).toNat:Int))=false:=Zb.2 g1;rw[Qf c]at b;have d:=Qa b;clear b c;go_wp2_with fail;go_quiet (fail)
   go_wp2
   go_ret;exact⟨by rw[d.o];rfl,f.o.drewN _⟩
  have k:decide ((i:Int)+a<(s.size:Int))=false:=Xz (by omega);have b:=g.o;rw[Mw s (i+a)<|by omega]at b;have d:=Qa b;clear b;go_wp2_with fail;go_quiet (fail)
  go_wp2
  go_ret;exact⟨by rw[d.o];cases 255-a<;>rfl,f.o.drewN _⟩
 obtain rfl:a=255:=by omega
 have l:¬(255:Int)<255:=by omega
 go_wp2_with fail;go_quiet (fail)
 go_wp2
 go_ret;exact⟨by rw[g.o];rfl,f.o.drewN _⟩
def iH(s i)(a:i<s.size):1≤Rl s i∧Rl s i≤255∧i+Rl s i≤s.size∧(s.data.toList.drop i).take (Rl s i)=List.replicate (Rl s i) (s[i]'a)∧
 Zw (s.data.toList.drop i)=Bb (s[i]'a) (Rl s i)++Zw (s.data.toList.drop<|i+Rl s i):=by
 have b:=iD s i a;obtain⟨g1,c⟩:=Gl (s[i]'a) 254<|s.data.toList.drop<|i+1;rw[Y0,Zo]at c;refine⟨by omega,by omega,by omega,?_,?_⟩
 ·rw[FC s i a,b,BY 1,Sd,OH,Y8]
 rw[FC s i a,KD,←b,GL,b]
 congr 3
 omega
def WS(s:BA)(i n)(a:i+n≤s.size):(s.extract i<|i+n).size=n:=by rw[ByteArray.size_extract];omega
def WR(s:BA)(i n)(a:i+n≤s.size):Lib.strCells (s.extract i<|i+n)=Qm ((s.data.toList.drop i).take n):=by
 have a:(s.extract i<|i+n).data.toList=(s.data.toList.drop i).take n:=by simp[ByteArray.extract,ByteArray.copySlice,List.extract_eq_take_drop]
 unfold Lib.strCells Qm;rw[a]
def Pg(a b):Qm (a++b)=Qm a++Qm b:=by simp[Qm]
def Qe3(s:BA)(w)(hs:s.size≤1000000):Calls prog 159 #[s] w fun e w'=>e=.returned (.string ⟨(Zw s).toArray⟩)∧Qb [] w w':=by
 have⟨m,hm⟩:=qx<|s.size/4;have y8:(s.size:Int).tdiv 4=(m:Int):=by rw[GG<|by omega];omega
 obtain⟨y9,z7⟩:(s.size:Int)/4=(m:Int)∧m≤250000:=by omega
 go_enter func159,ntmps159;go_wp2_with ((at_make;refine YZ rfl _ _ 88 rfl 5 (.int .u8 0) 1 Xb YQ rfl .i64 .i64 _ _ 0 (s.size+m) rfl rfl rfl (by go_num) (by omega) (by omega) (by simp only[maxLen];omega) ?_;intro w2 x8 x7));have⟨y1,y2⟩:=qb x7 x8;have p0:w.heap.size≤w.heap.size:=Ql _;clear x7 x8 hm y8 y9
 go_loopg [3,4,5] s.size (fun k a b c wr=>∃(i:Nat)(o:LU)(p:OA)(c:Nat),k=s.size-i∧i≤s.size∧a=.slice p o.length c∧b=.int .i64 (i:Nat)∧Hid (o++Zw (s.data.toList.drop i)=Zw s)∧Hid (Qh wr 5 (.slice p o.length c)<|Qm o)∧Hid (Qb [] w wr)∧Hid (Qs w.heap.size<|Qd<|.slice p o.length c))
 ·exact⟨0,[],_,_,by omega,by omega,rfl,rfl,Qa rfl,y2,y1,Qa<|by simp[Qs,Qd,qo]⟩
 obtain⟨i,o,p,c,hk,hi,rfl,rfl,HE,HR,HK,HF⟩:=hrel;have Hk:=Qa hk;clear hk
 by_cases hlt:i<s.size
 ·have y7:(i:Int)<s.size:=by omega
  obtain⟨n1,n2,n3,n4,n5⟩:=iH s i hlt;have x2:=iG s i wr hlt (by omega);have⟨n,hn⟩:=qx<|Rl s i;rw[hn]at n1 n2 n3 n4 n5 x2;have⟨H5,H4,HC⟩:=qc n5 n4 x2;have z1:=Dw s;rw[←HE.o,Qo,Zo]at z1;have hw:IntKind.i64.wrap ((i:Int)+n)=(i:Int)+n:=Q3 _ (by omega);have p2:wrap64 ((i:Int)+n)=(i:Int)+n:=by unfold wrap64;omega
  clear hn n4 n5 x2;go_wp2_with fail;refine HC.o.mono ?_;rintro e w3⟨rfl,x1⟩;have h1:=Qa (HK.o.trans x1<|by simp);have x3:=HR.o.kept x1 (by simp);clear x1
  by_cases h4:n<4
  ·have y4:(n:Int)<4:=(by omega);have y:=WR s i n n3;rw[H4.o]at y;have h:=WS s i n n3;have h9:=Qa y;have hb:(Qm o).length+n≤140737488355328:=(by rw[XU];omega);have h3:=Qa h;clear y h;go_wp2_with ((at_builtin;refine Pr rfl _ _ 88 9 rfl 5 Xb Yj YQ _ _ _ n h3.o rfl rfl x3 hb ?_;intro a5 x0 w5 h2 h8 h5))
   go_roundg (s.size-(i+n))
   ·rw[h9.o]at h2;rw[XU]at h2 h5;refine⟨i+n,o++List.replicate n (s[i]'hlt),a5,x0,rfl,n3,by simp[XU],by go_num,Qa ?_,Qa ?_,Qa<|h1.o.new h8 HF.o,Qa ?_⟩
    ·rw[QQ,←HE.o,H5.o];unfold Bb;rw[Qg h4]
    ·rwa[Pg,Qo,RV]
    rw[Qo,RV];exact HF.o.grow h5 h1.o.size
   have:=Hk.o;omega
  have y4:¬(n:Int)<4:=by omega
  obtain⟨q,hq⟩:∃q:Nat,(n:Int)-4=(q:Int):=⟨n-4,by omega⟩;obtain⟨z8,z6⟩:(q:Int)%256=(q:Int)∧n-4=q:=by omega
  have p1:IntKind.i64.wrap ((i:Int)+4)=(i:Int)+4:=Q3 _ (by omega);have y:=WR s i 4 (by omega);have x9:(s.data.toList.drop i).take 4=List.replicate 4 (s[i]'hlt):=by have:=Qu (List.take 4) H4.o;rwa[List.take_take,List.take_replicate,GW<|by omega]at this
  rw[x9]at y;have h:=WS s i 4 (by omega);have h9:=Qa y;have hb:(Qm o).length+4≤140737488355328:=by rw[XU];omega
  have L1:(Qm o++Lib.strCells (s.extract i<|i+4)).length+1≤maxLen:=by rw[Qo,XU,Ll,h];simp only[maxLen];omega
  have L2:((Qm o++Lib.strCells (s.extract i<|i+4)).length+1)*1≤140737488355328:=by rw[Qo,XU,Ll,h];omega
  have h3:=Qa h;clear y x9 h;go_wp2_with (first
   |(at_builtin;have hh:=x3;clear x3;refine Pr rfl _ _ 88 9 rfl 5 Xb Yj YQ _ _ _ 4 h3.o rfl rfl hh hb ?_;intro a5 x0 w5 h2 h8 h5;clear hh)
   |(at_builtin;refine UW _ rfl _ _ 88 rfl 5 (.int .u8 0) 1 Xb YQ rfl _ _ [.int .u8 (q:Int)] 1 rfl rfl rfl rfl (by simp[Value.oneCell']) h2 L1 L2 ?_;intro a6 y3 w6 x4 y5 x6))
  go_roundg (s.size-(i+n))
  case measure=>have:=Hk.o;omega
  have h:=h3.o;have y6:(Qm o++Lib.strCells (s.extract i<|i+4)).length+1=o.length+5:=by rw[Qo,XU,Ll,h]
  have x5:Qs w.heap.size (Qd<|.slice a5 ((Qm o).length+4) x0):=HF.o.grow h5 h1.o.size;rw[y6]at x4 x6;rw[h9.o]at x4;refine⟨i+n,o++(List.replicate 4 (s[i]'hlt)++[UInt8.ofNat<|n-4]),a6,y3,rfl,n3,by rw[show(o++(List.replicate 4 (s[i]'hlt)++[UInt8.ofNat<|n-4])).length=o.length+5 by simp,XU,Ll,h],by go_num,Qa ?_,Qa ?_,Qa<|(h1.o.new h8 HF.o).new y5 x5,Qa ?_⟩
  ·rw[QQ,←HE.o,H5.o];unfold Bb;rw[Qf h4]
  ·have hu:Qm [UInt8.ofNat<|n-4]=[.int .u8 (q:Int)]:=(by unfold Qm;rw[z6,QR,YG,U7,XP<|by omega]);rw[Pg,Pg,hu,←QQ];simpa using x4
  have:=x5.grow x6 (h1.o.new h8 HF.o).size;simpa using this
 obtain rfl:i=s.size:=by omega
 have y7:¬(s.size:Int)<s.size:=by omega
 have he:=HE.o;rw[Mw s s.size<|Ql _,KE,XH]at he;have ht:=HR.o.text;have y0:=Qa he;clear he
 go_wp2
 go_ret;rw[y0.o];exact⟨rfl,HK.o⟩
def wM(s:BA)(d w)(hs:s.size≤1000000)(a:5*s.size≤4*d)(a:d≤10000000):Calls prog 158 #[s,(d:Int)] w fun e w'=>e=.returned (s.size:Nat)∧Qb [] w w':=by
 go_enter func158,ntmps158
 go_wp2
 go_loopg [5,6,7,8] s.size (fun g b f a a wr=>∃a c:Nat,g=s.size-a∧a≤s.size∧b=.int .i64 (c:Nat)∧f=.int .i64 (a:Nat)∧4*c≤5*a∧Hid (Qb [] w wr))
 ·exact⟨0,0,by omega,by omega,rfl,rfl,by omega,Qa<|Qc _ _⟩
 obtain⟨a,c,hk,hi,rfl,rfl,b,h⟩:=hrel;have i:=Qa hk
 by_cases hlt:a<s.size
 ·have l:(a:Int)<s.size:=by omega
  obtain⟨k,m,g,-,-⟩:=iH s a hlt;have f:=iG s a wr hlt (by omega);have⟨b,j⟩:=qx<|Rl s a;rw[j]at k m g f;have k:=Qa f;go_wp2_with fail;refine k.o.mono ?_;rintro e f⟨rfl,j⟩;have f:=Qa (h.o.trans j<|by simp)
  by_cases j:3<b
  ·obtain⟨j,k⟩:(3:Int)<b∧¬(d:Int)-c<5:=by omega
   go_wp2
   go_roundg (s.size-(a+b))
   ·exact⟨a+b,c+5,rfl,g,by go_num,by go_num,by omega,f⟩
   have:=i.o;omega
  obtain⟨j,_,k⟩: ¬(3:Int)<b∧min (b:Int) 3=(b:Int)∧¬(d:Int)-c<(b:Int):=by omega
  go_wp2
  go_roundg (s.size-(a+b))
  ·exact⟨a+b,c+b,rfl,g,by go_num,by go_num,by omega,f⟩
  have:=i.o;omega
 obtain rfl:a=s.size:=by omega
 have l:¬(s.size:Int)<s.size:=by omega
 go_wp2
 go_ret;exact⟨rfl,h.o⟩
def nI(l:LN)(w:WD)(e:Ending)(w':WD):Prop:=
 ∃a b,e=.returned (.slice a l.length b)∧Qh w' 3 (.slice a l.length b) (Qi l)∧Qb [] w w'∧Qs w.heap.size (Qd (.slice a l.length b))
def vD(k:Nat)(w)(hk:k≤1000000000):Calls prog 203 #[(k:Int)] w (nI (Je k) w):=by
 go_enter func203,ntmps203
 go_wp2
 go_loopg [0,3] k (fun g e f wr=>∃(a:Nat)(c:LN)(d:OA)(b:Nat),g=a∧a≤k∧e=.int .i64 (a:Nat)∧f=.slice d c.length b∧Hid (c++Je a=Je k)∧Hid (Qh wr 3 (.slice d c.length b)<|Qi c)∧Hid (Qb [] w wr)∧Hid (Qs w.heap.size<|Qd<|.slice d c.length b))
 ·exact⟨k,[],none,0,rfl,by omega,rfl,rfl,Qa rfl,Qa<|Qh.nil _ _,Qa<|Qc _ _,Qa<|by simp[Qs,Qd,qo]⟩
 obtain⟨a,c,d,b,b,d,rfl,rfl,e,h,g,f⟩:=hrel;have m:=Qa b;clear b
 by_cases h0:0<a
 ·have:(0:Int)<a:=by omega
  have d:=e.o;rw[IH a<|by omega]at d;have⟨b,i⟩:=qx<|a-1;rw[i]at d;have:(a:Int)-1=(b:Int):=by omega
  have hb:bits .and .i64 (b:Int) 1=(b:Int)%2:=by rw[rF b<|by omega];omega
  have j:=IG k;rw[←e.o,Qo]at j;have n:(Qi c).length+1≤maxLen:=by rw[QF];simp only[maxLen];omega
  have o:((Qi c).length+1)*8≤140737488355328:=by rw[QF];omega
  have r:=h.o;have l:=Qa d;clear d i;go_wp2_with ((at_builtin;refine UW _ rfl _ _ 51 rfl 3 (0:Int) 8 XC XJ rfl _ _ [.int .i64<|(b:Int)%2] 1 rfl rfl rfl rfl (by simp[Value.oneCell']) r n o ?_;intro a5 p s j q i))
  go_roundg (b/2)
  ·rw[QF]at j i;refine⟨b/2,c++[b%2],a5,p,rfl,by omega,by go_num,by simp[QF],Qa ?_,Qa ?_,Qa<|g.o.new q f.o,Qa ?_⟩
   ·rw[QQ];exact l.o
   ·rwa[Dp,Qo]
   rw[Qo];exact f.o.grow i g.o.size
  have:=m.o;omega
 obtain rfl:a=0:=by omega
 have d:=e.o;rw[FI,XH]at d;subst d
 go_wp2
 go_ret;exact⟨_,_,rfl,h.o,g.o,f.o⟩
def Qje(n l)(b:1≤n)(d:∀x∈l,x<n)(a):(K.zE n a l).length≤a+l.length+1:=by obtain⟨c,c,-,e⟩:=KZ n b l a d;rw[c,Qo];simp;omega
def eJ(l):∀u∈Qi l,u.oneCell'=true:=by intro u a;obtain⟨b,-,rfl⟩:=QB.1 a;rfl
def Ru(l:LN)(c:Nat)(w:WD)(e:Ending)(w':WD):Prop:=
 ∃a b,e=.returned (.tuple #[.slice a l.length b,(c:Nat)])∧Qh w' 3 (.slice a l.length b) (Qi l)∧Qb [] w w'∧Qs w.heap.size (Qd (.slice a l.length b))
def Ru.of{l L w w' e a c m xs}(f:l=L)(d:e=.returned (.tuple #[.slice a m c,(0:Int)]))(b:Qh w' 3 (.slice a m c) xs)(g:xs=Qi l)(hk:Qb [] w w')(hf:Qs w.heap.size (Qd<|.slice a m c)):Ru L 0 w e w':=by
 subst f g;have f:m=l.length:=by obtain⟨g,g,g,-⟩:=b.sees;injection g with _ h2 _;rw[h2,QF]
 subst f;exact⟨a,c,d,b,hk,hf⟩
def ZI(n:Nat)(l:LN)(w:WD)(i b:Nat)(a:LN)(p:OA)(c:Nat)(wr:WD):Prop:=
 a++K.zE n b (l.drop i)=K.zE n 0 l∧Qh wr 3 (.slice p a.length c) (Qi a)∧Qb [] w wr∧Qs w.heap.size (Qd (.slice p a.length c))
def Qjf(n a c l w)(d:1≤n∧n≤256)(j:Qp w 1 a l.length (Qi l))(b:∀x∈l,x<n)(e:l.length≤1000000):
 Calls prog 163 #[(n:Int),.slice a l.length c] w (Ru (K.zE n 0 l) 0 w):=by
 have⟨B,Q⟩:=qb j b;have:=Qje n l d.1 b 0;obtain⟨m,e⟩:=d;obtain⟨g1,d⟩: ¬(n:Int)<1∧¬(256:Int)<n:=by omega
 clear j b;go_enter func163,ntmps163;go_wp2_with fail;clear g1 d
 go_loopg [6,7,8] (l.length) (fun k b h i wr=>∃(f:Nat)(e:LN)(g:OA)(c:Nat),k=l.length-f∧f≤l.length∧b=.slice g e.length c∧h=.int .i64 (f:Nat)∧Hid (ZI n l w f 0 e g c wr))
 ·exact⟨0,[],none,0,by omega,by omega,rfl,rfl,Qa ⟨by simp,Qh.nil _ _,Qc _ _,by simp[Qs,Qd,qo]⟩⟩
 obtain⟨f,e,g,q,hk,hi,rfl,rfl,o⟩:=hrel;have S:=Qa hk;clear hk
 by_cases hlt:f<l.length
 ·have V:(f:Int)<l.length:=by omega
  go_wp2_with fail
  go_step3
  go_wp2_with fail
  go_step3
  go_upto_block 2 with fail
  go_cut [7,8] (fun h i p=>∃(b d:Nat),f≤b∧b≤l.length∧h=.int .i64 (b:Nat)∧i=.int .i64 (d:Nat)∧d≤l.length∧Hid (ZI n l w b d e g q wr)∧Hid (∀x,l[b]?=some x→x≠0)∧wr=p)
  ·go_wp2
   go_loopg [7,8] (l.length-f) (fun k h i p=>∃(b d:Nat),k=l.length-b∧f≤b∧b≤l.length∧h=.int .i64 (b:Nat)∧i=.int .i64 (d:Nat)∧d+f=b∧Hid (ZI n l w b d e g q wr)∧wr=p)
   ·exact⟨f,0,by omega,by omega,by omega,rfl,rfl,by omega,o,rfl⟩
   obtain⟨b,d,g,k,p,rfl,rfl,QU,i,rfl⟩:=hrel;have h:=Qa g;clear g o
   by_cases q:b<l.length
   ·have G:(b:Int)<l.length:=(by omega);have⟨x,g⟩:=qy l b q;obtain⟨T,off,rfl,q⟩:=(B.o.kZ i.o.2.2.1).2 b (.int .i64 (x:Int)) (by unfold Qi;rw[ZD,g];rfl);have v:=Qa g;clear g
    by_cases h0:x=0
    ·subst h0
     go_wp2
     go_roundg (l.length-(b+1))
     ·refine⟨b+1,d+1,rfl,by omega,by omega,by go_num,by go_num,by omega,Qa ⟨?_,i.o.2⟩,rfl⟩;have hz:=i.o.1;obtain⟨h,q⟩:=Qz.1 v.o;rwa[Z8 h,q,K.zE]at hz
     have:=h.o;omega
    have:((x:Int) != 0)=true:=by simp;omega
    go_wp2
    go_meet;exact⟨b,d,k,by omega,rfl,rfl,by omega,i,Qa (fun A h=>by rw[v.o]at h;injection h with h;omega),rfl⟩
   have G:¬(b:Int)<l.length:=by omega
   go_wp2
   go_meet;exact⟨b,d,k,p,rfl,rfl,by omega,i,Qa (fun A h=>by rw[QX<|by omega]at h;cases h),rfl⟩
  obtain⟨b,d,k,p,rfl,rfl,QU,i,R,rfl⟩:=hcut;have:=IG d;obtain⟨k,p,q,r⟩:=i.o;have W:e.length+(K.zE n d<|l.drop b).length≤2000001:=by rw[←Qo,k];omega
  have⟨y,z,u,h,s⟩:=qe k p q r (vD d wr<|by omega);clear k p q r o i;go_wp2_with fail;refine s.o.mono ?_;rintro i i⟨a3,c3,rfl,p,i,q⟩;have k:=Qa (u.o.trans i<|by simp);have t:=z.o.kept i (by simp);have O:=p.sZ;have J:a3=none→c3=0:=fun j=>by
   subst j;rcases p.2 with⟨m,-⟩|⟨j,cap,j,m,-⟩
   ·injection m
   cases m
  have H:(Qi e).length+(Je d).length≤maxLen:=by rw[QF];simp only[maxLen];omega
  have I:((Qi e).length+(Je d).length)*8≤140737488355328:=by rw[QF];omega
  clear i q p
  by_cases L:b=l.length
  ·have g1:((b:Int)==(l.length:Int))=true:=(by simp;omega);go_wp2_with ((at_builtin;refine CI rfl _ _ 51 rfl 3 (0:Int) 8 XC XJ rfl _ _ (Qi<|Je d) _ _ _ rfl rfl (eJ _) t O J H I ?_;intro a5 U X F z E));rw[Exit.noGoto_exit];have p:(Qi e++Qi (Je d)).length+1≤maxLen:=(by rw[Qo,QF,QF];simp only[maxLen];omega);have q:((Qi e++Qi (Je d)).length+1)*8≤140737488355328:=(by rw[Qo,QF,QF];omega);have r:=h.o.grow E k.o.size;have m:=Qa<|k.o.new z h.o;go_wp2_with ((at_builtin;refine UW _ rfl _ _ 51 rfl 3 (0:Int) 8 XC XJ rfl _ _ [.int .i64<|(n:Int)+1] 1 rfl rfl rfl rfl (by simp[Value.oneCell']) F p q ?_;intro C D P i s j));go_ret2;rw[Qo]at i j;subst L;have hz:=y.o;rw[Lo,K.zE]at hz;exact Ru.of hz rfl i (by simp[Qi]) (m.o.new s r)<|r.grow j m.o.size
  have g1:((b:Int)==(l.length:Int))=false:=Zb.2 (by omega);obtain⟨M,G⟩:b<l.length∧(b:Int)<l.length:=by omega
  have⟨x,g⟩:=qy l b M;have:=R.o x g;have:=Q.o x<|QA g;have G:(Qi l)[b]?=some (.int .i64 (x:Int)):=by unfold Qi;rw[ZD,g];rfl
  obtain⟨T,off,rfl,-⟩:=B.o.2 b _ G;have⟨Q,v⟩:=qb G g;have:¬(x:Int)<0:=by omega
  have q2:¬(n:Int)≤x:=by omega
  clear g G L;have p:(Qi e++Qi (Je d)).length+1≤maxLen:=by rw[Qo,QF,QF];simp only[maxLen];omega
  have q:((Qi e++Qi (Je d)).length+1)*8≤140737488355328:=by rw[Qo,QF,QF];omega
  go_wp2_with (first
   |(at_builtin;have hh:=t;clear t;refine CI rfl _ _ 51 rfl 3 (0:Int) 8 XC XJ rfl _ _ (Qi<|Je d) _ _ _ rfl rfl (eJ _) hh O J H I ?_;intro a5 U X F z E;clear hh;have c0:=(B.o.kZ<|k.o.new z h.o).get1 Q.o)
   |(at_builtin;refine UW _ rfl _ _ 51 rfl 3 (0:Int) 8 XC XJ rfl _ _ [.int .i64<|(x:Int)+1] 1 rfl rfl rfl rfl (by simp[Value.oneCell']) F p q ?_;intro C D P i s j))
  rw[Exit.noGoto_normal]
  go_wp2
  go_roundg (l.length-(b+1))
  case measure=>have:=S.o;omega
  have r:=h.o.grow E k.o.size;have m:=k.o.new z h.o;have g:=r.grow j m.size;rw[Qo,QF,QF]at i g;refine⟨b+1,e++(Je d++[x+1]),C,D,rfl,by omega,by simp[QF];omega,by go_num,Qa ⟨?_,?_,m.new s r,?_⟩⟩
  ·have hz:=y.o;rw[Z8 M,show l[b]=x from(Qz.1 v.o).2]at hz;obtain⟨A,rfl⟩:∃A,x=A+1:=⟨x-1,by omega⟩;rw[←hz,K.zE];simp
  ·simpa[Qi,Ja]using i
  simpa[Ja]using g
 obtain rfl:f=l.length:=by omega
 have V:¬(l.length:Int)<l.length:=by omega
 obtain⟨hz,t,hk,hf⟩:=o.o;have W:e.length≤2000001:=by have:=Qu List.length hz;rw[Qo]at this;omega
 have⟨y,u,h⟩:=qc hz hk hf;have p:(Qi e).length+1≤maxLen:=by rw[QF];simp only[maxLen];omega
 have q:((Qi e).length+1)*8≤140737488355328:=by rw[QF];omega
 clear hz hk hf o;go_wp2_with ((at_builtin;refine UW _ rfl _ _ 51 rfl 3 (0:Int) 8 XC XJ rfl _ _ [.int .i64<|(n:Int)+1] 1 rfl rfl rfl rfl (by simp[Value.oneCell']) t p q ?_;intro C D P i s j));go_ret2;have hz:=y.o;rw[Lo,K.zE,FI]at hz;exact Ru.of hz rfl i (by simp[Qi]) (u.o.new s h.o)<|h.o.grow j u.o.size
def K.Qjd{n o y w s:Nat}{q r L:LN}(h:K.zD n o y w q (s::r)=some L):s≤n+1∧
 (s<2→w≤o∧q.length+(y+(s+1)*w)≤o∧K.zD n o (y+(s+1)*w) (2*w) q r=some L)∧
 (2≤s→s=n+1→r=[]∧q++List.replicate y 0=L)∧
 (2≤s→s≠n+1→q.length+y≠o∧K.zD n o 0 1 (q++List.replicate y 0++[s-1]) r=some L):=by
 unfold K.zD at h
 split at h
 ·cases h
 refine⟨by omega,fun h2=>?_,fun h2 hs=>?_,fun h2 hs=>?_⟩
 ·rw[Qg h2]at h
  split at h
  ·cases h
  exact⟨by omega,by omega,h⟩
 ·rw[Qf<|by omega,Qg hs]at h
  split at h
  ·rename_i hr;injection h with h;exact⟨hr,h⟩
  cases h
 rw[Qf<|by omega,Qf hs]at h
 split at h
 ·cases h
 rename_i hl;exact⟨by simpa using hl,h⟩
def eL(m):List.replicate m (Value.int .i64 0)=Qi (List.replicate m 0):=by simp[Qi]
def Qjc(n y a c l L w)(hn:1≤n∧n≤256)(hm:y≤262144)(h:Qp w 1 a l.length (Qi l))(hl:l.length≤1000000)(hL:K.zD n y 0 1 [] l=some L):
 Calls prog 227 #[(n:Int),(y:Int),.slice a l.length c] w (Ru L 0 w):=by
 have⟨HS,HL⟩:=qb h hL;obtain⟨h1,h2⟩:=hn;obtain⟨g1,g2,g3,g4⟩: ¬(n:Int)<1∧¬(256:Int)<n∧¬(y:Int)<0∧¬(262144:Int)<y:=by omega
 go_enter func227,ntmps227
 go_wp2
 go_loopg [8,9,10,29] (l.length) (fun k x8 x9 z6 z7 wr=>∃(i q wt:Nat)(o:LN)(p:OA)(c:Nat),k=l.length-i∧i≤l.length∧x8=.slice p o.length c∧x9=.int .i64 (q:Nat)∧z6=.int .i64 (wt:Nat)∧z7=.int .i64 (i:Nat)∧o.length+q≤y∧wt≤600000∧
  Hid (K.zD n y q wt o (l.drop i)=some L)∧Hid (Qh wr 3 (.slice p o.length c)<|Qi o)∧Hid (Qb [] w wr)∧Hid (Qs w.heap.size<|Qd<|.slice p o.length c))
 ·exact⟨0,0,1,[],none,0,by omega,by omega,rfl,rfl,rfl,rfl,by simp,by omega,HL,Qa<|Qh.nil _ _,Qa<|Qc _ _,Qa<|by simp[Qs,Qd,qo]⟩
 obtain⟨i,q,wt,o,p,c8,hk,hi,rfl,rfl,rfl,rfl,p0,p2,HZ,HR,HK,HF⟩:=hrel;have Hk:=Qa hk
 by_cases hlt:i<l.length
 ·have z8:(i:Int)<l.length:=by omega
  have⟨x,hx⟩:=qy l i hlt;have hz:=HZ.o;rw[Z8 hlt,show l[i]=x from(Qz.1 hx).2]at hz;obtain⟨z0,z1,z2,z3⟩:=Qjd hz;have⟨Z1,Z2,Z3⟩:=qc z1 z2 z3;have x5:(Qi l)[i]?=some (.int .i64 (x:Int)):=by unfold Qi;rw[ZD,hx];rfl
  obtain⟨b,off,rfl,c0⟩:=(HS.o.kZ HK.o).2 i _ x5;obtain⟨q1,q2⟩: ¬(x:Int)<0∧¬(n:Int)+1<(x:Int):=by omega
  by_cases y9:x<2
  ·obtain⟨y1,y2,y3⟩:=Z1.o y9;have Y3:=Qa y3;have hp:(x+1)*wt≤1200000:=(by have:(x+1)*wt≤2*wt:=AA _ (by omega);omega);have⟨pr,x0⟩:=qx<|(x+1)*wt;have p1:((x:Int)+1)*(wt:Int)=pr:=by rw[←x0];push_cast;rfl
   rw[x0]at y2 hp;obtain⟨r1,r2,r3⟩:(x:Int)<2∧¬(y:Int)<wt∧¬(y:Int)-o.length<(q:Int)+pr:=by omega
   go_wp2
   go_roundg (l.length-(i+1))
   ·refine⟨i+1,q+pr,2*wt,o,p,c8,rfl,by omega,rfl,by go_num,by go_num,by go_num,by omega,by omega,Qa ?_,HR,HK,HF⟩;have:=Y3.o;rwa[x0]at this
   have:=Hk.o;omega
  have r1:¬(x:Int)<2:=by omega
  have x1:=HR.o;have M1:(Qi o).length+q≤maxLen:=by rw[QF];simp only[maxLen];omega
  have M2:((Qi o).length+q)*8≤140737488355328:=by rw[QF];omega
  by_cases h4:x=n+1
  ·obtain⟨y1,y2⟩:=Z2.o (by omega) h4;have y7:i+1=l.length:=(by have:=Qu List.length y1;rw[Y0]at this;simp at this;omega);have e1:((x:Int)==(n:Int)+1)=true:=(by simp;omega);have e2:¬(i:Int)+1<(l.length:Int):=(by omega);have Y2:=Qa y2;go_wp2_with ((at_builtin;refine lO rfl _ _ 51 3 rfl 3 (0:Int) 8 XC U6 XJ rfl rfl _ _ q rfl rfl x1 M1 M2 ?_;intro a5 x6 w5 h3 h8 h5));go_ret2;rw[eL,←Dp,Y2.o]at h3;exact Ru.of rfl rfl h3 rfl (HK.o.new h8 HF.o)<|HF.o.grow h5 HK.o.size
  obtain⟨y1,y2⟩:=Z3.o (by omega) h4;have e1:((x:Int)==(n:Int)+1)=false:=Zb.2 (by omega);have e2:(((Qi o).length:Int)+q==(y:Int))=false:=Zb.2 (by rw[QF];omega);have Y2:=Qa y2;have N1:(Qi o++List.replicate q (Value.int .i64 0)).length+1≤maxLen:=by simp[QF];simp only[maxLen];omega
  have N2:((Qi o++List.replicate q (Value.int .i64 0)).length+1)*8≤140737488355328:=by simp[QF];omega
  have y4:o.length+q+1≤y:=by omega
  go_wp2_with (first
   |(at_builtin;have hh:=x1;refine lO rfl _ _ 51 3 rfl 3 (0:Int) 8 XC U6 XJ rfl rfl _ _ q rfl rfl hh M1 M2 ?_;intro a5 x6 w5 h3 h8 h5)
   |(at_builtin;refine UW _ rfl _ _ 51 rfl 3 (0:Int) 8 XC XJ rfl _ _ [.int .i64<|(x:Int)-1] 1 rfl rfl rfl rfl (by simp[Value.oneCell']) h3 N1 N2 ?_;intro a6 x7 w6 x2 y6 y5))
  go_roundg (l.length-(i+1))
  case measure=>have:=Hk.o;omega
  have x4:=HF.o.grow h5 HK.o.size;have x3:=HK.o.new h8 HF.o;have y0:=x4.grow y5 x3.size;rw[eL,←Dp]at x2;have h9:(Qi o).length+q+1=(o++List.replicate q 0++[x-1]).length:=by simp[QF];omega
  have y8:(o++List.replicate q 0++[x-1]).length+0≤y:=by simp;omega
  refine⟨i+1,0,1,o++List.replicate q 0++[x-1],a6,x7,rfl,by omega,by rw[←h9],rfl,rfl,by go_num,y8,by omega,Qa Y2.o,Qa ?_,Qa<|x3.new y6 x4,Qa ?_⟩
  ·rw[←h9];have e:(x:Int)-1=((x-1:Nat):Int):=(by omega);rw[e]at x2;simpa[Qi,QF]using x2
  rw[←h9];simpa[QF]using y0
 obtain rfl:i=l.length:=by omega
 have hz:=HZ.o;rw[Lo,K.zD]at hz;cases hz
