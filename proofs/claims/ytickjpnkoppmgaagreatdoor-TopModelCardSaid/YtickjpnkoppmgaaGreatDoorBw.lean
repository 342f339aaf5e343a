import Derived.HandedShaped
import Derived.LaidSub
import Derived.LaidHandle
import Derived.LaidLaws
import Derived.Lib.LaidTab
import Derived.Shelf.Vars
import Derived.Test.YtickjpnkoppmgaaGreatDoorRows
import Derived.Test.YtickjpnkoppmgaaGreatDoorTie
import Derived.Test.YtickjpnkoppmgaaGreatDoorCards
import Derived.Test.YtickjpnkoppmgaaGreatDoorBs
set_option linter.all false
namespace Go.Proofs.YtickjpnkoppmgaaGreatDoor
open Go.Proofs.Tryz Go.RowKit K Go.ChangeAt Go.ChangeShapes Go.WideShapes
def Qda{g enc}{a:Assume}{C:Checked}{os:Os}{f:FuncId}{fn:Func}{s:ChangeSpec}{d apart fresh h Yj}{X:WD->Array VL->Prop}(m:∀(w w':WD)(args:Array VL),w.heap=w'.heap->X w args->X w' args)(own:ownKnob C.prog.godebug=none)(p:os.Started)(o:C.prog.inits.idxOf? f=none)(n:C.prog.funcs[f]?=some fn)(q:∃(w:WD)(tape:Tape)(i:Input),w.os=os/\(w.forCall tape i).Shaped C.prog/\i.vars=[]/\Input.okWide C.prog (w.forCall tape i) .any w.heap.size f i/\
  ((s.pre enc C.prog fn d apart (w.forCall tape i).memory i.args/\X (w.forCall tape i).memory i.args)/\sizedMet enc C.prog fn (OpenSpec.ofChange s) apart (w.forCall tape i).memory i.args)/\a.holds C.prog (lone (Frame.enter C.prog f i.args .normal) [] (w.forCall tape i)))(l:∀(W:WD)(base:Nat)(args:Array VL)(ds c:List (DataW g))(UK:List MemPlace),
  (∀(j:Nat) t v,fn.params[j]?=some t->args[j]?=some v->Value.okWide C.prog W .any base t v)->
  DataW.Whole enc C.prog fn.params.toList s.vars apart W args.toList ds c UK->
  d.all (PathCond.test C.prog ⟨fn.params.toList,ds,s.plain.varTypes C.prog,c⟩)=true->
  (DataW.weightsEach C.prog (fn.params.toList++s.plain.varTypes C.prog)<|ds++c).all (· <=reachBytes)=true->X W args->W.ShapedOpen C.prog->
  a.holds C.prog (lone (Frame.enter C.prog f args .normal) [] W)->
  Calls C.prog f args W fun e g=>∃v,e=.returned v/\s.post enc C.prog fn apart fresh h Yj W args v g):
 ReturnsInHanded a C os f .any (fun w args=>(s.pre enc C.prog fn d apart w args/\X w args)/\sizedMet enc C.prog fn (OpenSpec.ofChange s) apart w args) (s.post enc C.prog fn apart fresh h Yj):=by
 refine returnsInHanded_of_calls own p o q ?_;intro w tape i _ u _ p q o;obtain⟨_,_,_,d,h,_,_,_,_,x⟩:=p;have e:d=fn:=Option.some.inj<|h.symm.trans n;subst e;obtain⟨⟨⟨ds,c,UK,hw,d⟩,n⟩,hz⟩:=q;have h:=DataW.Whole.of_heap (w':=w.forCall tape i) (by rfl) hw;refine(l (w.forCall tape i) w i.args ds c UK x h d (hz.weights hw) (m _ _ _ (by rfl) n) u o).mono fun e g ⟨v,c,hp⟩=>?_
 subst c;exact ChangeSpec.post_blind hp
def fN:DataW Unit->LV
 | .lit (.int k x)=>[.int k x]
 |_=>[]
def fO:DataW Unit->LV
 | .agg ds=>ds.flatMap fN
 |d=>fN d
def Qdc:DataW Unit->LV
 | .agg ds=>ds.flatMap fO
 |d=>fO d
noncomputable def zK(h:Array Obj)(x:String × DataW Unit):Array Obj:=match prog.globalNamed x.1 with
 |some g=>h.modify g fun
   | .cells _ t fr=>.cells (Qdc x.2).toArray t fr
   |o=>o
 |none=>h
abbrev DR:List (String × DataW Unit):=[("math/bits.deBruijn32tab",Rows.laid_math_bits_deBruijn32tab),("math/bits.deBruijn64tab",Rows.laid_math_bits_deBruijn64tab),("internal/strconv.uint64pow10",Rows.laid_internal_strconv_uint64pow10),("unicode/utf8.acceptRanges",Rows.laid_unicode_utf8_acceptRanges),("unicode/utf8.first",Rows.laid_unicode_utf8_first)]
noncomputable def fG(os:Os):WD:=
 let c:=World.holding prog os ⟨#[],#[],[]⟩
 {c with heap:=DR.foldl zK c.heap}
def Qcz(os:Os)(args):laidMetH prog DR ((fG os).forCall (fun _ _=>0) ⟨#[],args,[]⟩).memory:=
 laidMetH_of_parts (laidMet_of_run' 8 kx kx) kx
def Qb0{W:WD}(h:W.ShapedOpen prog):10<=W.heap.size:=by
 have c:decide (10<=(begin prog (fun _ _=>0) default).world.heap.size)=true:=kx
 have c:=Df c;obtain⟨i,c⟩:=h;have hz:∃d,W.heap[9]?=some d:=by
  by_cases g:prog.globals.size<=9
  ·obtain⟨d,_,e,_⟩:=c 9 g ox;exact⟨d,e⟩
  have c:(((begin prog (fun _ _=>0) default).world.heap[9]?).bind Obj.row?).isSome=true\/prog.globals.size<=9:=by
   first|exact .inl kx|exact .inr (Df kx)
  rcases c with c|c
  ·obtain⟨⟨zero,l⟩,j⟩:=Option.isSome_iff_exists.1 c;obtain⟨m,e,-⟩:=i 9 zero l ox j;exact⟨_,e⟩
  exact absurd c g
 obtain⟨d,c⟩:=hz;have:=(RR.1 c).1;omega
def vO{W}(h:W.ShapedOpen prog):Yt W:=
 cell_of_shapedOpen_int (P:=prog) (g:=0) (t:=3) (zero:=#[.int .i64 0]) h (Df kx) kx rfl kx kx Vv
def Qgp{W}(h:laidMetH prog DR W):MY W:=by
 have g:=laidMetH_iff.1<|h.filter fun c=>c.1== "internal/strconv.uint64pow10";have e:(((DR.filter fun c=>c.1== "internal/strconv.uint64pow10").filter fun c=>c.2.handleName?.isNone))=[("internal/strconv.uint64pow10",Lib.tabData .u64 Lib.pow10Tab)]:=by rfl
 have d:=g.1;rw[e]at d;obtain⟨c,e⟩:∃c,prog.globalNamed "internal/strconv.uint64pow10" =some c:=by
  have hp:=Wa;cases e:prog.globalNamed "internal/strconv.uint64pow10" with
  |none=>rw[e]at hp;cases hp
  |some c=>exact⟨c,rfl⟩
 exact Lib.tabIs_of_head (g:=3) (t:=394) (e:=214) (n:=20) kx kx underlying394 Gm kx kx d
