import Derived.HandedShaped
import Derived.LaidSub
import Derived.LaidHandle
import Derived.LaidLaws
import Derived.Lib.LaidTab
import Derived.Shelf.Vars
import Derived.Test.YtickjpnkoppmgaaGreatDoorRows
import Derived.Test.YtickjpnkoppmgaaGreatDoorTie
import Derived.Test.YtickjpnkoppmgaaGreatDoorCards
import Derived.Test.YtickjpnkoppmgaaGreatDoorBu
set_option linter.all false
namespace Go.Proofs.YtickjpnkoppmgaaGreatDoor
open Go.Proofs.Tryz Go.RowKit K Go.ChangeAt Go.ChangeShapes Go.WideShapes
def Qas{d enc}{a:Assume}{C:Checked}{os:Os}{f:FuncId}{fn:Func}{s:ChangeSpec}{c apart fresh g XX}{X:WD→Array VL→Prop}(k:∀(w w':WD)(args:Array VL),w.heap=w'.heap→X w args→X w' args)(own:ownKnob C.prog.godebug=none)(n:os.Started)(m:C.prog.inits.idxOf? f=none)(l:C.prog.funcs[f]?=some fn)(o:∃(w:WD)(tape:Tape)(i:Input),w.os=os∧(w.forCall tape i).Shaped C.prog∧i.vars=[]∧Input.okWide C.prog (w.forCall tape i) .any w.heap.size f i∧
  ((s.pre enc C.prog fn c apart (w.forCall tape i).memory i.args∧X (w.forCall tape i).memory i.args)∧sizedMet enc C.prog fn (OpenSpec.ofChange s) apart (w.forCall tape i).memory i.args)∧a.holds C.prog (lone (Frame.enter C.prog f i.args .normal) [] (w.forCall tape i)))(h:∀(W:WD)(base:Nat)(args:Array VL)(ds b:List (DataW d))(Uk:List MemPlace),
  (∀(j:Nat) t v,fn.params[j]?=some t→args[j]?=some v→Value.okWide C.prog W .any base t v)→
  DataW.Whole enc C.prog fn.params.toList s.vars apart W args.toList ds b Uk→
  c.all (PathCond.test C.prog ⟨fn.params.toList,ds,s.plain.varTypes C.prog,b⟩)=true→
  (DataW.weightsEach C.prog (fn.params.toList++s.plain.varTypes C.prog)<|ds++b).all (· ≤reachBytes)=true→X W args→W.ShapedOpen C.prog→
  a.holds C.prog (lone (Frame.enter C.prog f args .normal) [] W)→
  Calls C.prog f args W fun e d=>∃v,e=.returned v∧s.post enc C.prog fn apart fresh g XX W args v d):
 ReturnsInHanded a C os f .any (fun w args=>(s.pre enc C.prog fn c apart w args∧X w args)∧sizedMet enc C.prog fn (OpenSpec.ofChange s) apart w args) (s.post enc C.prog fn apart fresh g XX):=by
 refine returnsInHanded_of_calls own n m o ?_;intro w tape i _ p _ n o m;obtain⟨_,_,_,c,g,_,_,_,_,q⟩:=n;have e:c=fn:=Option.some.inj<|g.symm.trans l;subst e;obtain⟨⟨⟨ds,b,Uk,hw,c⟩,l⟩,hz⟩:=o;have g:=DataW.Whole.of_heap (w':=w.forCall tape i) (by rfl) hw;refine(h (w.forCall tape i) w.heap.size i.args ds b Uk q g c (hz.weights hw) (k _ _ _ (by rfl) l) p m).mono fun e d ⟨v,b,hp⟩=>?_
 subst b;exact ChangeSpec.post_blind hp
def cM:DataW Unit→LV
 | .lit (.int k x)=>[.int k x]
 |_=>[]
def cN:DataW Unit→LV
 | .agg ds=>ds.flatMap cM
 |d=>cM d
def Qau:DataW Unit→LV
 | .agg ds=>ds.flatMap cN
 |d=>cN d
noncomputable def vW(a:Array Obj)(x:String × DataW Unit):Array Obj:=match prog.globalNamed x.1 with
 |some g=>a.modify g fun
   | .cells _ t fr=>.cells (Qau x.2).toArray t fr
   |o=>o
 |none=>a
abbrev Dh:List (String × DataW Unit):=[("math/bits.deBruijn32tab",Rows.laid_math_bits_deBruijn32tab),("math/bits.deBruijn64tab",Rows.laid_math_bits_deBruijn64tab),("internal/strconv.uint64pow10",Rows.laid_internal_strconv_uint64pow10),("unicode/utf8.acceptRanges",Rows.laid_unicode_utf8_acceptRanges),("unicode/utf8.first",Rows.laid_unicode_utf8_first)]
noncomputable def cE(os:Os):WD:=
 let a:=World.holding prog os ⟨#[],#[],[]⟩
 {a with heap:=Dh.foldl vW a.heap}
def Qah(os:Os)(args):laidMetH prog Dh ((cE os).forCall (fun _ _=>0) ⟨#[],args,[]⟩).memory:=
 laidMetH_of_parts (laidMet_of_run' 8 (by kernel_rfl)<|by kernel_rfl) (by kernel_rfl)
def yX{W:WD}(b:W.ShapedOpen prog):10≤W.heap.size:=by
 have a:decide (10≤(begin prog (fun _ _=>0) default).world.heap.size)=true:=by kernel_rfl
 have a:=Ct a;obtain⟨e,a⟩:=b;have hz:∃b,W.heap[9]?=some b:=by
  by_cases d:prog.globals.size≤9
  ·obtain⟨b,_,c,_⟩:=a 9 d (by omega);exact⟨b,c⟩
  have a:(((begin prog (fun _ _=>0) default).world.heap[9]?).bind Obj.row?).isSome=true∨prog.globals.size≤9:=by
   first|exact .inl (by kernel_rfl)|exact .inr (Ct<|by kernel_rfl)
  rcases a with a|a
  ·obtain⟨⟨zero,g⟩,f⟩:=Option.isSome_iff_exists.1 a;obtain⟨h,c,-⟩:=e 9 zero g (by omega) f;exact⟨_,c⟩
  exact absurd a d
 obtain⟨b,a⟩:=hz;have:=(Rq.1 a).1;omega
def sI{W}(a:W.ShapedOpen prog):YN W:=
 cell_of_shapedOpen_int (P:=prog) (g:=0) (t:=3) (zero:=#[.int .i64 0]) a (Ct<|by kernel_rfl) (by kernel_rfl) rfl (by kernel_rfl) (by kernel_rfl) U6
def Qd7{W}(a:laidMetH prog Dh W):LR W:=by
 have d:=laidMetH_iff.1<|a.filter fun a=>a.1== "internal/strconv.uint64pow10";have c:(((Dh.filter fun a=>a.1== "internal/strconv.uint64pow10").filter fun a=>a.2.handleName?.isNone))=[("internal/strconv.uint64pow10",Lib.tabData .u64 Lib.pow10Tab)]:=by rfl
 have b:=d.1;rw[c]at b;obtain⟨a,c⟩:∃a,prog.globalNamed "internal/strconv.uint64pow10" =some a:=by
  have hp:=SK;cases c:prog.globalNamed "internal/strconv.uint64pow10" with
  |none=>rw[c]at hp;cases hp
  |some a=>exact⟨a,rfl⟩
 exact Lib.tabIs_of_head (g:=3) (t:=394) (e:=214) (n:=20) (by kernel_rfl) (by kernel_rfl) underlying394 Fw (by kernel_rfl) (by kernel_rfl) b
