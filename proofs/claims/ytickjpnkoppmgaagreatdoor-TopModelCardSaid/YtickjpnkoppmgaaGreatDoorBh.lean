import Derived.Test.YtickjpnkoppmgaaGreatDoorBg
import Derived.Test.YtickjpnkoppmgaaGreatDoorBe
set_option linter.all false
namespace Go.Proofs.YtickjpnkoppmgaaGreatDoor
open Go.Proofs.Tryz Go.RowKit K Go.Shelf Go.Sort
set_option maxRecDepth 20000 in
set_option maxHeartbeats 4000000 in
def Kr(v l cap w)(h:J6 w v l)(A:Yt w)(h1:1<=cap)(h2:cap<=4096)(d:∀m∈l,UH m)(g:Uv l)(o:l.length<=16)(n:ZZ cap (l.map fun m=>(m.start,m.eZ))=true):
 Calls prog 37 #[v,cap] w (RK (0:Int) w):=by
 obtain⟨c,c1,rfl,i,p⟩:=h;have⟨S,I,O,Y,P⟩:=qe i d g n A;have⟨j,c⟩:=qx l.length;rw[c]at o ⊢;have t:=Qa c;have:¬(16:Int)<j:=ox
 clear i p d g n A c;go_enter func37,ntmps37
 go_wp2
 go_loopg [5,6,7,13] j (fun k g c c d wr=>(∃(c:Nat)(v5:VL),c<=j/\k=j-c/\v5=g/\d=.int .i64 (c:Nat)/\Hid (Qm wr 109 2 v5 c<|Qs Zc<|(l.take c).map fun m=>(m.start,m.eZ))/\Hid (∀d∈Qd v5,w.heap.size<=d))/\Hid (Qb [] w wr))
 ·exact⟨⟨0,_,ox,ox,rfl,rfl,Qa<|Qm.nil _ _ _,Qa<|by simp[Qd,qo]⟩,Qa<|Qc _ _⟩
 obtain⟨⟨c,v5,hi,hk,rfl,rfl,J,Q⟩,z⟩:=hrel
 by_cases hlt:c<j
 ·have h3:(c:Int)<j:=ox
  have⟨m,o⟩:=qy l c (yx t.o);have B:=S.o.kZ z.o;obtain⟨d,off,rfl,c0,c1,c2,c3,C⟩:=RA B o;have y:=I.o m<|QB o;have d:=Qx wr [.string<|str m.path,.int .i64 m.start,.int .i64 m.eZ,.int .i64 m.size,.int .u32 m.sum] 69;have q:=z.o.alloc<|Obj.cells [.string<|str m.path,.int .i64 m.start,.int .i64 m.eZ,.int .i64 m.size,.int .u32 m.sum].toArray 69;have R:=Qa (show ∀s,Calls prog 71 #[.agg #[.string<|str m.path,.int .i64 m.start,.int .i64 m.eZ,.int .i64 m.size,.int .u32 m.sum]] s (RK (0:Int) s) from fun s=>PJ m s y);have x:=J.o.lt;go_wp2_with fail;have⟨i,n⟩:=qx<|wr.alloc<|Obj.cells [.string<|str m.path,.int .i64 m.start,.int .i64 m.eZ,.int .i64 m.size,.int .u32 m.sum].toArray 69;have⟨g,p⟩:=qx wr.heap.size;have D:Qm i 109 2 v5 c (Qs Zc<|(l.take c).map fun m=>(m.start,m.eZ)):=by rw[<-n];exact World.ownsRow.alloc J.o _
  rw[show(Obj.cells #[.string<|str m.path,.int .i64 m.start,.int .i64 m.eZ,.int .i64 m.size,.int .u32 m.sum] 69)=Obj.cells [.string<|str m.path,.int .i64 m.start,.int .i64 m.eZ,.int .i64 m.size,.int .u32 m.sum].toArray 69 from rfl,n,p];rw[n]at d q;rw[p]at d x;have⟨X,H,g⟩:=qc D q d;have:=Qa x;have L:Qb [] i i:=Qc _ _;have E:=d.cq 0 (u:=.string<|str m.path);have T:=d.cq 1 (u:=.int .i64 m.start);have U:=d.cq 2 (u:=.int .i64 m.eZ);have F:=d.cq 3 (u:=.int .i64 m.size);have G:=d.cq 4 (u:=.int .u32 m.sum);clear n p D d q x y c0 c1 c2 c3 C B;have:=Qa o;have:=Qa (P.o.kept (z.o) sx);clear E T U F G L;have E:=fun w' (hk:Qb [] i w')=>hk.cZ (g.o.cq 0 (u:=.string<|str m.path)) sx
  have x:=fun w' (hk:Qb [] i w')=>hk.cZ (g.o.cq 1 (u:=.int .i64 m.start)) sx
  have y:=fun w' (hk:Qb [] i w')=>hk.cZ (g.o.cq 2 (u:=.int .i64 m.eZ)) sx
  have F:=fun w' (hk:Qb [] i w')=>hk.cZ (g.o.cq 3 (u:=.int .i64 m.size)) sx
  have G:=fun w' (hk:Qb [] i w')=>hk.cZ (g.o.cq 4 (u:=.int .u32 m.sum)) sx
  have C:=I.o m<|QB o
  go_cut [36]from 18 to 35 (fun d w'=>d=.bool false/\Hid (Qb [] i w'))
  ·by_cases h0:c=0
   ·subst h0;clear o C;refine Mh i kx kx (Qc _ _) ?_
    repeat
     first
      |go_big_quiet_skip
      |(go_big_quiet_want
        go_big_quiet_op
        first
         |go_big_quiet_on
         |(apply Exists.intro
           refine⟨fun g d=>?_,?_⟩
           ·first
             |with_reducible rfl
             |(go_at_call 71;exact Calls.keptK d<|R.o g)
             |(simp only[E g d,x g d,y g d,F g d,G g d,Ua];exact⟨trivial,rfl⟩)
           go_big_quiet_on))
    refine wpQuiet_nil ?_;intro g d
    go_wp2
    go_meet
    case rel=>exact⟨rfl,Qa d⟩
   obtain⟨q,V⟩:∃q,c=q+1:=⟨c-1,ox⟩;have⟨n,p⟩:=qy l q (yx t.o);have L:=(Qy.1 p);have M:=(Qy.1 o);have B:=JP.1 O.o q c L.1 M.1 ox;rw[L.2,M.2]at B;have⟨v,O⟩:=qx<|Xp n.path m.path;rw[O]at B;have W:=I.o n<|QB p;have I:=Qa fun s A=>bK (str n.path) (str m.path) s (by have:=(XU W.ok).2.2;show n.path.length<=_;omega) (by have:=(XU C.ok).2.2;show m.path.length<=_;omega) A;rw[show Xp (str n.path).data.toList (str m.path).data.toList=v from O]at I;obtain⟨s,s,s,A,-⟩:=RA (S.o.kZ H.o) p;injection s with s;injection s with s ee2;subst s ee2;have s:=fun w' (hk:Qb [] i w')=>hk.cZ A sx
   obtain⟨S,g1,_,g3⟩:(0:Int)<c/\((c:Int)-1)=(q:Int)/\(q:Int)<j/\¬(0:Int)<=v:=ox;have g4:decide ((0:Int)<=v)=false:=X0 g3;have Z:decide ((0:Int)<c)=true:=XE S;have:0<c:=ox;have:IntKind.i64.wrap (q:Int)=q:=(by rw[Zq];omega);have:=Qa V;have:=Qa B;clear V L M W C O A o p h0 B;refine Mh i kx kx (Qc _ _) ?_
   repeat
    first
     |go_big_quiet_skip
     |(go_big_quiet_want
       go_big_quiet_op
       first
        |go_big_quiet_on
        |(apply Exists.intro
          refine⟨fun g d=>?_,?_⟩
          ·first
            |with_reducible rfl
            |(go_at_call 71;exact Calls.keptK d<|R.o g)
            |(go_at_call 70;exact Calls.keptK d<|I.o g<|P.o.kept (H.o.trans d sx) sx)
            |(simp only[s g d,Ua];exact⟨trivial,rfl⟩)
            |(simp only[E g d,x g d,y g d,F g d,G g d,Ua];exact⟨trivial,rfl⟩)
          go_big_quiet_on))
   refine wpQuiet_nil ?_;intro g d
   go_wp2
   go_meet
   case rel=>exact⟨rfl,Qa d⟩
  obtain⟨rfl,g⟩:=hcut;have T:=x wc g.o;have U:=y wc g.o;have d:=X.o.kept g.o<|Zy _;have q:=Qa (show(l.take<|c+1).map (fun m=>(m.start,m.eZ))=(l.take c).map (fun m=>(m.start,m.eZ))++[(m.start,m.eZ)]by rw[Zh,o];simp);have s:c+1<=maxLen:=by simp only[maxLen];omega
  have A:(c+1)*16<=140737488355328:=ox
  have i:=Qa (H.o.trans g.o sx);clear o C E x y F G;go_wp2_with (at_builtin;(refine Rr wc rfl _ _ 106 rfl 109 (.agg #[(0:Int),(0:Int)]) 2 16 AC BW rfl dx v5 c _ (Zc (m.start,m.eZ)) rfl rfl rfl rfl (Fc _) d s A ?_;intro Z x y D g o))
  go_roundg (j-(c+1))
  case measure=>omega
  refine⟨⟨c+1,_,ox,rfl,rfl,by go_num,Qa ?_,Qa ?_⟩,Qa<|i.o.trans g fun n p=>.inr<|Q.o n p⟩
  ·rw[q.o];have e:∀g:List QP,Qs Zc (g++[(m.start,m.eZ)])=Qs Zc g++Zc (m.start,m.eZ):=fun g=>by simp[Qs]
   rw[e];exact D
  intro n p;simp[Qd,qo]at p;subst p;have:=i.o.size;rcases o with h|h
  ·exact Q.o _ h
  omega
 obtain rfl:c=j:=ox
 have h3:¬(c:Int)<c:=ox
 have d:=J.o;rw[Q5 (by rw[t.o];exact Qk _)]at d;have c:=LQ v5 (l.map fun m=>(m.start,m.eZ)) cap wr (Qm.exA<|by rwa[QH,t.o]) (by rw[QH,t.o];omega) h1 h2;rw[Y.o,Qg rfl]at c;have g:=Qa c;clear c d;go_wp2_with (go_at_call 72;with_reducible refine g.o.mono ?_;rintro e d⟨rfl,c⟩);go_ret;exact⟨rfl,z.o.trans c sx⟩
