import Derived.Test.YtickjpnkoppmgaaGreatDoorBh
import Derived.Test.YtickjpnkoppmgaaGreatDoorBf
set_option linter.all false
namespace Go.Proofs.YtickjpnkoppmgaaGreatDoor
open Go.Proofs.Tryz Go.RowKit K Go.Shelf Go.Sort
set_option maxRecDepth 20000 in
set_option maxHeartbeats 4000000 in
def Wa(v l cap w)(r:Uf w v l)(s:YN w)(V:1≤cap)(W:cap≤4096)(b:∀m∈l,RZ m)(c:U5 l)(h:l.length≤16)(g:ZX cap (l.map fun m=>(m.start,m.eZ))=true):
 Calls prog 37 #[v,cap] w fun e w'=>e=.returned (0:Int)∧Qb [] w w':=by
 obtain⟨a,c1,rfl,d,i⟩:=r;have⟨M,D,H,T,I⟩:=qe d b c g s;have⟨f,a⟩:=qx l.length;rw[a]at h ⊢;have n:=Qa a;have:¬(16:Int)<f:=by omega
 clear d i b c g s a;go_enter func37,ntmps37
 go_wp2
 go_loopg [5,6,7,13] f (fun b d a a c wr=>(∃(a:Nat)(v5:VL),a≤f∧b=f-a∧v5=d∧c=.int .i64 (a:Nat)∧Hid (Qn wr 109 2 v5 a<|Qx Q4<|(l.take a).map fun m=>(m.start,m.eZ))∧Hid (∀b∈Qd v5,w.heap.size≤b))∧Hid (Qb [] w wr))
 ·exact⟨⟨0,_,by omega,by omega,rfl,rfl,Qa<|Qn.nil _ _ _,Qa<|by simp[Qd,qo]⟩,Qa<|Qc _ _⟩
 obtain⟨⟨a,v5,hi,hk,rfl,rfl,E,J⟩,q⟩:=hrel
 by_cases hlt:a<f
 ·have X:(a:Int)<f:=by omega
  have⟨m,h⟩:=qy l a (by have:=n.o;omega);have t:=M.o.kZ q.o;obtain⟨b,off,rfl,c0,c1,c2,c3,x⟩:=VT t h;have p:=D.o m<|QA h;have b:=Qy wr [.string<|str m.path,.int .i64 m.start,.int .i64 m.eZ,.int .i64 m.size,.int .u32 m.sum] 69;have j:=q.o.alloc<|Obj.cells [.string<|str m.path,.int .i64 m.start,.int .i64 m.eZ,.int .i64 m.size,.int .u32 m.sum].toArray 69;have L:=Qa (show ∀k,Calls prog 71 #[.agg #[.string<|str m.path,.int .i64 m.start,.int .i64 m.eZ,.int .i64 m.size,.int .u32 m.sum]] k fun e w'=>e=.returned (0:Int)∧Qb [] k w' from fun k=>gC m k p);have o:=E.o.lt;go_wp2_with fail;have⟨d,g⟩:=qx<|wr.alloc<|Obj.cells [.string<|str m.path,.int .i64 m.start,.int .i64 m.eZ,.int .i64 m.size,.int .u32 m.sum].toArray 69;have⟨c,i⟩:=qx wr.heap.size;have y:Qn d 109 2 v5 a (Qx Q4<|(l.take a).map fun m=>(m.start,m.eZ)):=by rw[←g];exact World.ownsRow.alloc E.o _
  rw[show(Obj.cells #[.string<|str m.path,.int .i64 m.start,.int .i64 m.eZ,.int .i64 m.size,.int .u32 m.sum] 69)=Obj.cells [.string<|str m.path,.int .i64 m.start,.int .i64 m.eZ,.int .i64 m.size,.int .u32 m.sum].toArray 69 from rfl,g,i];rw[g]at b j;rw[i]at b o;have⟨S,C,c⟩:=qc y j b;have:=Qa o;have F:Qb [] d d:=Qc _ _;have z:=b.cell (i:=0) (u:=.string<|str m.path) rfl;have O:=b.cell (i:=1) (u:=.int .i64 m.start) rfl;have P:=b.cell (i:=2) (u:=.int .i64 m.eZ) rfl;have A:=b.cell (i:=3) (u:=.int .i64 m.size) rfl;have B:=b.cell (i:=4) (u:=.int .u32 m.sum) rfl;clear g i y b j o p c0 c1 c2 c3 x t;have:=Qa h;have:=Qa (I.o.kept (q.o)<|by simp);clear z O P A B F;have z:=fun w' (hk:Qb [] d w')=>hk.cZ (c.o.cell (i:=0) (u:=.string<|str m.path) rfl) (by simp)
  have o:=fun w' (hk:Qb [] d w')=>hk.cZ (c.o.cell (i:=1) (u:=.int .i64 m.start) rfl) (by simp)
  have p:=fun w' (hk:Qb [] d w')=>hk.cZ (c.o.cell (i:=2) (u:=.int .i64 m.eZ) rfl) (by simp)
  have A:=fun w' (hk:Qb [] d w')=>hk.cZ (c.o.cell (i:=3) (u:=.int .i64 m.size) rfl) (by simp)
  have B:=fun w' (hk:Qb [] d w')=>hk.cZ (c.o.cell (i:=4) (u:=.int .u32 m.sum) rfl) (by simp)
  have x:=D.o m<|QA h
  go_cut [36]from 18 to 35 (fun b w'=>b=.bool false∧Hid (Qb [] d w'))
  ·by_cases h0:a=0
   ·subst h0;clear h x;refine KW d (by kernel_rfl) (by kernel_rfl) (Qc _ _) ?_
    repeat
     first
      |go_big_quiet_skip
      |(go_big_quiet_want
        go_big_quiet_op
        first
         |go_big_quiet_on
         |(apply Exists.intro
           refine⟨fun c b=>?_,?_⟩
           ·first
             |with_reducible rfl
             |(go_at_call 71;exact Calls.keptK b<|L.o c)
             |(simp only[z c b,o c b,p c b,A c b,B c b,UF];exact⟨trivial,rfl⟩)
           go_big_quiet_on))
    refine wpQuiet_nil ?_;intro c b
    go_wp2
    go_meet
    case rel=>exact⟨rfl,Qa b⟩
   obtain⟨j,Q⟩:∃j,a=j+1:=⟨a-1,by omega⟩;have⟨g,i⟩:=qy l j (by have:=n.o;omega);have F:=(Qz.1 i);have G:=(Qz.1 h);have t:=Jp.1 H.o j a F.1 G.1 (by omega);rw[F.2,G.2]at t;have⟨v,H⟩:=qx<|Xd g.path m.path;rw[H]at t;have R:=D.o g<|QA i;have D:=Qa fun k s=>Wl (str g.path) (str m.path) k (by have:=(YK R.ok).2.2;show g.path.length≤_;omega) (by have:=(YK x.ok).2.2;show m.path.length≤_;omega) s;rw[show Xd (str g.path).data.toList (str m.path).data.toList=v from H]at D;obtain⟨k,k,k,s,-⟩:=VT (M.o.kZ C.o) i;injection k with k;injection k with k ee2;subst k ee2;have k:=fun w' (hk:Qb [] d w')=>hk.cZ s (by simp)
   obtain⟨M,g1,_,g3⟩:(0:Int)<a∧((a:Int)-1)=(j:Int)∧(j:Int)<f∧¬(0:Int)≤v:=(by omega);have g4:decide ((0:Int)≤v)=false:=Xz g3;have U:decide ((0:Int)<a)=true:=Xs M;have:0<a:=(by omega);have:IntKind.i64.wrap (j:Int)=j:=(by rw[Zz];omega);have:=Qa Q;have:=Qa t;clear Q F G R x H s h i h0 t;refine KW d (by kernel_rfl) (by kernel_rfl) (Qc _ _) ?_
   repeat
    first
     |go_big_quiet_skip
     |(go_big_quiet_want
       go_big_quiet_op
       first
        |go_big_quiet_on
        |(apply Exists.intro
          refine⟨fun c b=>?_,?_⟩
          ·first
            |with_reducible rfl
            |(go_at_call 71;exact Calls.keptK b<|L.o c)
            |(go_at_call 70;exact Calls.keptK b<|D.o c<|I.o.kept (C.o.trans b<|by simp)<|by simp)
            |(simp only[k c b,UF];exact⟨trivial,rfl⟩)
            |(simp only[z c b,o c b,p c b,A c b,B c b,UF];exact⟨trivial,rfl⟩)
          go_big_quiet_on))
   refine wpQuiet_nil ?_;intro c b
   go_wp2
   go_meet
   case rel=>exact⟨rfl,Qa b⟩
  obtain⟨rfl,c⟩:=hcut;have O:=o wc c.o;have P:=p wc c.o;have b:=S.o.kept c.o<|ZM _;have j:=Qa (show(l.take<|a+1).map (fun m=>(m.start,m.eZ))=(l.take a).map (fun m=>(m.start,m.eZ))++[(m.start,m.eZ)]by rw[Zt,h];simp);have k:a+1≤maxLen:=by simp only[maxLen];omega
  have s:(a+1)*16≤140737488355328:=by omega
  have d:=Qa (C.o.trans c.o<|by simp);clear h x z o p A B;go_wp2_with (at_builtin;(refine RO wc rfl _ _ 106 rfl 109 (.agg #[(0:Int),(0:Int)]) 2 16 R9 Bt rfl (by decide) v5 a _ (Q4 (m.start,m.eZ)) rfl rfl rfl rfl (Ep _) b k s ?_;intro U o p y c h))
  go_roundg (f-(a+1))
  case measure=>omega
  refine⟨⟨a+1,_,by omega,rfl,rfl,by go_num,Qa ?_,Qa ?_⟩,Qa<|d.o.trans c fun g i=>.inr<|J.o g i⟩
  ·rw[j.o];have e:∀c:List QN,Qx Q4 (c++[(m.start,m.eZ)])=Qx Q4 c++Q4 (m.start,m.eZ):=fun c=>by simp[Qx]
   rwa[e]
  intro g i;simp[Qd,qo]at i;subst i;have:=d.o.size;rcases h with r|r
  ·exact J.o _ r
  omega
 obtain rfl:a=f:=by omega
 have X:¬(a:Int)<a:=by omega
 have b:=E.o;rw[Q8 (by rw[n.o];exact Ql _)]at b;have a:=KK v5 (l.map fun m=>(m.start,m.eZ)) cap wr (Qn.exA<|by rwa[QH,n.o]) (by rw[QH,n.o];omega) V W;rw[T.o,Qg rfl]at a;have c:=Qa a;clear a b;go_wp2_with (go_at_call 72;with_reducible refine c.o.mono ?_;rintro e b⟨rfl,a⟩);go_ret;exact⟨rfl,q.o.trans a<|by simp⟩
