import Derived.Test.YtickjpnkoppmgaaGreatDoorAv
set_option linter.all false
set_option maxHeartbeats 4000000
set_option maxRecDepth 100000
namespace Go.Proofs.YtickjpnkoppmgaaGreatDoor
open Go.Proofs.Tryz Go.RowKit K
def dG(n)(a:n≤1000000000):∃a:Array VL,a.toList=List.replicate n (.int .i64 0)∧∀W:WD,(Instr.makeSlice 51 n n).run prog W=.ok (.slice (some ⟨W.heap.size,0,none⟩) n n) (W.alloc<|.cells a 3):=by
 obtain⟨a,hi,h0,b,c⟩:=Vr XJ;refine⟨madeCells (Value.int .i64 0).cells<|n*a.size,?_,fun W=>?_⟩
 ·rw[b,show(Value.int .i64 0).cells=#[Value.int .i64 0]from rfl,RY,Pd]
 have:=run_make (P:=prog) W 51 3 a (0:Int) XC hi h0 .i64 .i64 n n (by omega) (by omega) (by rw[c];omega) (by omega);simpa using this
def Qa7(n)(a:n≤1000000000):∃a:Array VL,a.toList=List.replicate n (.slice none 0 0)∧∀W:WD,(Instr.makeSlice 253 n n).run prog W=.ok (.slice (some ⟨W.heap.size,0,none⟩) n n) (W.alloc<|.cells a 51):=by
 obtain⟨a,hi,h0,b,c⟩:=Vr Hn;refine⟨madeCells (Value.slice none 0 0).cells<|n*a.size,?_,fun W=>?_⟩
 ·rw[b,show(Value.slice none 0 0).cells=#[Value.slice none 0 0]from rfl,RY,Pd]
 have:=run_make (P:=prog) W 253 51 a (.slice none 0 0) Mj hi h0 .i64 .i64 n n (by omega) (by omega) (by rw[c];omega) (by omega);simpa using this
def Qh.at_any(W)(b n:Nat)(a z e)(c:a.toList=List.replicate n z)(d:n≤1000000000)(hb:W.heap[b]?=some (.cells a e (0,0))):Qh W e (.slice b n n) (List.replicate n z):=by
 have hs:a.size=n:=by rw[←Rr,c];simp
 refine⟨by simp,.inr ⟨b,n,_,by simp,ZF _,hb,by simp,by simp only[maxLen];omega,by simp[hs],?_⟩⟩;rw[c];simp
def PF(W:WD)(m a:Nat)(f:VL)(e:WD):Prop:=
 ∃d b c,f=.pointer (some ⟨c,0,none⟩)∧Qh e 51 (.slice (some ⟨d,0,none⟩) m m) (List.replicate m (.slice none 0 0))∧Qh e 3 (.slice (some ⟨b,0,none⟩) a a) (List.replicate a (.int .i64 0))∧
  Qe e c 255 [.slice (some ⟨d,0,none⟩) m m,.slice (some ⟨b,0,none⟩) a a]∧Qb [] W e∧W.heap.size≤d∧W.heap.size≤b∧W.heap.size≤c∧d≠c∧b≠c∧d≠b
def Ej(W b m d g f gT c e)(n:g.toList=List.replicate m (.slice none 0 0))(l:f.toList=List.replicate d (.int .i64 0))(o:m≤1000000000)(k:d≤1000000000)(hk:Qb [] W b)(h:b.heap[gT]?=some (.cells g 51 (0,0)))(i:b.heap[c]?=some (.cells f 3 (0,0)))(j:b.heap[e]?=some (.cells #[.slice gT m m,.slice c d d] 255 (0,0)))(a:W.heap.size≤gT∧W.heap.size≤c∧W.heap.size≤e∧gT≠e∧c≠e∧gT≠c):PF W m d (.pointer e) b.drew:=
 ⟨gT,c,e,rfl,(Qh.at_any b gT m g _ _ n o h).drew,(Qh.at_any b c d f _ _ l k i).drew,j,hk.drew,a⟩
def YS(W x b z p a r m)(c:W.heap.size=m):
 (((W.alloc<|.cells x p).alloc<|.cells b a).alloc<|.cells z r).heap[m]?=some (.cells x p (0,0))∧(((W.alloc<|.cells x p).alloc<|.cells b a).alloc<|.cells z r).heap[m+1]?=some (.cells b a (0,0))∧
 (((W.alloc<|.cells x p).alloc<|.cells b a).alloc<|.cells z r).heap[m+1+1]?=some (.cells z r (0,0))∧Qb [] W (((W.alloc<|.cells x p).alloc<|.cells b a).alloc<|.cells z r):=by
 subst c;have g:=Xf W<|.cells x p;have c:=Xf (W.alloc<|.cells x p)<|.cells b a;have d:=Xf ((W.alloc<|.cells x p).alloc<|.cells b a)<|.cells z r;have k1:Qb [] (W.alloc<|.cells x p) ((W.alloc<|.cells x p).alloc<|.cells b a):=(Qc _ _).alloc _;have k2:Qb [] ((W.alloc<|.cells x p).alloc<|.cells b a) (((W.alloc<|.cells x p).alloc<|.cells b a).alloc<|.cells z r):=(Qc _ _).alloc _;have e:(W.alloc<|.cells x p).heap.size=W.heap.size+1:=by simp
 have f:((W.alloc<|.cells x p).alloc<|.cells b a).heap.size=W.heap.size+1+1:=by simp
 rw[e]at c;rw[f]at d;exact⟨(k1.trans k2<|by simp).heap g<|by simp,k2.heap c<|by simp,d,(((Qc _ _).alloc _).alloc _).alloc _⟩
structure RQ(w:WD)(aL:OA)(c n:Nat)(L:LN)(gP gT gK m G N:Nat)(wr:WD):Prop where
 lst:Qe wr w.heap.size 51 [.slice aL L.length c]
 res:Qe wr (w.heap.size+1) 255 [.slice none 0 0,.slice none 0 0]
 plan:Qe wr gP 255 [.slice gT m m,.slice gK G G]
 kept:Qb [] w wr
 big:N≤wr.heap.size
def RQ.on{S w f c n L b gT g m e N wr h}(a:RQ w f c n L b gT g m e N wr)(hk:Qb S wr h)(d:∀x∈S,w.heap.size+1<x∧x≠b):RQ w f c n L b gT g m e N h:=
 ⟨a.lst.kept hk (fun b=>by have:=d _ b;omega),a.res.kept hk (fun b=>by have:=d _ b;omega),a.plan.kept hk (fun b=>by have:=d _ b;omega),a.kept.trans hk fun x b=>.inr (by have:=d x b;omega),QS a.big hk.size⟩
structure U2(wr:WD)(gW n m:Nat)(bs:LN)(rows:List LN):Prop where
 top:Qh wr 51 (.slice gW m m) ((bs.map fun b=>Value.slice (some ⟨b,0,none⟩) n n)++List.replicate (m-bs.length) (.slice none 0 0))
 len:bs.length=rows.length
 nd:bs.Nodup
 gt:∀b∈bs,gW<b
 row:∀(i b:Nat)(r:LN),bs[i]?=some b→rows[i]?=some r→Qh wr 3 (.slice (some ⟨b,0,none⟩) n n) (Qi r)
def U2.on{S wr d b n m bs c}(a:U2 wr b n m bs c)(hk:Qb S wr d)(e:∀x∈S,x≠b∧x∉bs):U2 d b n m bs c:=
 ⟨a.top.kept hk (by intro x b c;simp[Qd,qo]at b;subst b;exact(e _ c).1 rfl),a.len,a.nd,a.gt,fun h f i d g=>(a.row h f i d g).kept hk (by intro x b c;simp[Qd,qo]at b;subst b;exact(e _ c).2 (QA d))⟩
def U2.put{wr d n m bs c}(a:U2 wr d n m bs c){i b r}(hb:bs[i]?=some b)(k:c[i]?=some r)(s x:Nat):
 U2 (wr.setCell ⟨b,s,none⟩ (x:Int)) d n m bs (c.set i<|r.set s x):=by
 have hk:Qb [b] wr (wr.setCell ⟨b,s,none⟩ (x:Int)):=(Qc _ _).setCell (p:=⟨b,s,none⟩) (by simp) _;refine⟨a.top.kept hk ?_,by rw[Jo];exact a.len,a.nd,a.gt,fun g j l d c=>?_⟩
 ·intro o f e;simp[Qd,qo]at f e;have:=a.gt b<|QA hb;omega
 rw[YO]at c
 by_cases h:i=g
 ·subst h;rw[Qg rfl]at c
  split at c
  ·injection c with c;subst c;rw[hb]at d;injection d with d;subst d;rw[AV];exact(a.row i b r hb k).put s _
  cases c
 rw[Qf h]at c;refine(a.row g j l d c).kept hk ?_;intro o f e;simp[Qd,qo]at f e;subst e;subst f;have c:=(Qz.1 hb);have e:=(Qz.1 d);rcases Nat.lt_or_gt_of_ne h with hlt|hlt
 ·exact Jp.1 a.nd i g c.1 e.1 hlt<|c.2.trans e.2.symm
 exact Jp.1 a.nd g i e.1 c.1 hlt<|e.2.trans c.2.symm
def U2.cellRow{wr a n m bs d}(c:U2 wr a n m bs d){i b:Nat}(hb:bs[i]?=some b):wr.cell? ⟨a,i,none⟩=some (.slice b n n):=by have hi:=(Qz.1 hb).1;exact c.top.aZ (by rw[Xp<|by rwa[QH],ZD,hb];rfl)
def U2.more{wr f c n m bs e r}(b:U2 wr c n m bs e)(a:bs.length<m)(hk:Qb [] wr f)(q:Qh f 3 (.slice wr.heap.size n n) (Qi r)):
 U2 (f.setCell ⟨c,bs.length,none⟩<|.slice wr.heap.size n n) c n m (bs++[wr.heap.size]) (e++[r]):=by
 have k:c<wr.heap.size:=b.top.lt c (by simp[Qd,qo]);have l:∀a∈bs,a<wr.heap.size:=by intro a hb;obtain⟨h,hi⟩:=Fc hb;have⟨d,i⟩:=qy e h (by rw[←b.len];exact(Qz.1 hi).1);exact(b.row h a d hi i).lt a (by simp[Qd,qo])
 have j:=b.on hk (by simp);have o:Qb [c] f (f.setCell ⟨c,bs.length,none⟩<|.slice wr.heap.size n n):=(Qc _ _).setCell (p:=⟨c,bs.length,none⟩) (by simp) _;refine⟨?_,by simp[b.len],?_,?_,?_⟩
 ·have e:=j.top.put bs.length<|.slice wr.heap.size n n;have g:((bs.map fun a=>Value.slice (some ⟨a,0,none⟩) n n)++List.replicate (m-bs.length) (Value.slice none 0 0)).set bs.length (Value.slice wr.heap.size n n)=
   (((bs++[wr.heap.size]).map fun a=>Value.slice (some ⟨a,0,none⟩) n n)++List.replicate (m-(bs++[wr.heap.size]).length) (Value.slice none 0 0)):=by
   rw[Ly,Qf (by rw[QH];omega),QH,ZO,show m-bs.length=(m-(bs.length+1))+1 by omega,Y8];simp
  rwa[g]at e
 ·rw[BX];refine⟨b.nd,by simp,fun e ha a hb=>?_⟩;have:=l e ha;simp at hb;omega
 ·intro a hb;rcases Q6.1 hb with hb|hb
  ·exact b.gt a hb
  rwa[Za.1 hb]
 intro h a d e g;have l:∀a d,c<a→Qh f 3 (.slice (some ⟨a,0,none⟩) n n) (Qi d)→Qh (f.setCell ⟨c,bs.length,none⟩<|.slice wr.heap.size n n) 3 (.slice (some ⟨a,0,none⟩) n n) (Qi d):=by intro a d hb i;refine i.kept o ?_;intro c f c;simp[Qd,qo]at f c;omega
 rcases Xq h bs.length with hi|hi
 ·rw[Xp hi]at e;rw[Xp<|by rwa[←b.len]]at g;exact l a d (b.gt a<|QA e)<|j.row h a d e g
 rw[Zx hi]at e;rw[Zx<|by rwa[←b.len]]at g;have h0:h-bs.length=0:=by have:=(Qz.1 e).1;simp at this;omega
 rw[h0]at e;rw[←b.len,h0]at g;simp at e g;subst e g;exact l _ _ k q
def Vp(L P:LN)(n m i:Nat):List LN:=(List.range m).map fun a=>YT L P a n i
def FG(L P n m i t)(a:t<m):(Vp L P n m i)[t]?=some (YT L P t n i):=by simp[Vp,Xa a]
def uC(L P n m i b x c)(hp:P.getD (i/50) 0=b)(hx:L[i]?=some x)(hc:(YT L P b n i)[x]?=some c)(hb:b<m):(Vp L P n m i).set b ((YT L P b n i).set x<|c+1)=Vp L P n m (i+1):=by
 rw[tV L P b n i x hp hx c hc];apply Xo;intro t;rw[YO]
 by_cases o:t<m
 ·rw[FG _ _ _ _ _ _ o,FG _ _ _ _ _ _ o]
  by_cases h:b=t
  ·subst h;rw[Qg rfl,Qg (by simp[Vp];exact o)]
  rw[Qf h,tW L P t n i<|by rwa[hp]]
 have q:(Vp L P n m<|i+1)[t]?=none:=QX (by simp[Vp];omega);have y:(Vp L P n m i)[t]?=none:=QX (by simp[Vp];omega);rw[q,y]
 split
 ·split
  ·rename_i h3 h4;simp[Vp]at h4;omega
  rfl
 rfl
def uD(L P n m):Vp L P n m 0=List.replicate m (List.replicate n 0):=by
 unfold Vp;apply Xo;intro b
 by_cases a:b<m
 ·simp[Xa a,a,tX]
 rw[QX (by simp;omega),QX (by simp;omega)]
def xN(a c xs n w)(e:Qp w 1 a xs.length (QM xs))(h:xs.length≤17592186043904)(g:X2 xs n=false):
 Calls prog 204 #[.slice a xs.length c,n] w (Cb [] [] 2 w):=by
 have hk:Qb [] w ((w.alloc<|.cells #[.slice a xs.length c] 51).alloc<|.cells #[.slice none 0 0,.slice none 0 0] 255):=((Qc _ _).alloc _).alloc _;have f:=Qy w [.slice a xs.length c] 51;have b:=Qy (w.alloc<|.cells #[.slice a xs.length c] 51) [.slice none 0 0,.slice none 0 0] 255;rw[show(w.alloc<|.cells #[.slice a xs.length c] 51).heap.size=w.heap.size+1 by simp]at b;have d:=IU a c xs n _ (e.kZ hk) h;rw[g]at d;have b0:=(f.kept ((Qc [] _).alloc<|.cells #[.slice none 0 0,.slice none 0 0] 255)<|by simp).cell (i:=0) (u:=.slice a xs.length c) rfl;have j:((w.alloc<|.cells #[.slice a xs.length c] 51).alloc<|.cells #[.slice none 0 0,.slice none 0 0] 255).cell? ⟨w.heap.size+1,0,none⟩=some (.slice none 0 0):=b.cell (i:=0) rfl;have k:((w.alloc<|.cells #[.slice a xs.length c] 51).alloc<|.cells #[.slice none 0 0,.slice none 0 0] 255).cell? ⟨w.heap.size+1,1,none⟩=some (.slice none 0 0):=b.cell (i:=1) rfl;have h:=Qa hk;clear e g hk b f;go_enter func204,ntmps204;go_wp2_with fail;refine d.mono ?_;rintro b b⟨rfl,rfl⟩;go_wp2_with fail;refine Q5 (v:=.tuple #[QZ none 0 0 none 0 0,(2:Int)]) (by simp[results,results204,go_sem,QZ,j,k]) rfl ?_;exact⟨none,0,none,0,rfl,Xv.nil _,h.o,by simp,by simp⟩
def mQ(w:WD)(f:OA)(c n:Nat)(L:LN)(g gT d m b N:Nat)(k:Nat)(v:VL)(wr:WD):Prop:=
 ∃(a:Nat)(e:LV),k=m-a∧a≤m∧v=.int .i64 (a:Nat)∧Hid (e.length=a)∧Hid (Qh wr 51 (.slice gT m m) (e++List.replicate (m-a) (.slice none 0 0)))∧Hid (Zy wr [w.heap.size+1,gT,d] e (((Cp n m).take a).map QY))∧
  Hid (Qh wr 3 (.slice d b b) (List.replicate b (.int .i64 0)))∧Hid (RQ w f c n L g gT d m b N wr)
def mR(w:WD)(g:OA)(c n:Nat)(L:LN)(h gT e m d N t b:Nat)(f:LV)(row:LN)(k:Nat)(v:VL)(wr:WD):Prop:=
 ∃a:Nat,k=n-a∧a≤n∧v=.int .i64 (a:Nat)∧Hid (Qh wr 51 (.slice gT m m) (f++.slice b n n::List.replicate (m-(t+1)) (.slice none 0 0)))∧Hid (Qh wr 3 (.slice b n n) (Qi (row.take a++List.replicate (n-a) 0)))∧
  Hid (Zy wr [w.heap.size+1,gT,e,b] f (((Cp n m).take t).map QY))∧Hid (Qh wr 3 (.slice e d d) (List.replicate d (.int .i64 0)))∧Hid (RQ w g c n L h gT e m d N wr)
def wB(row:LN)(n s x)(a:row.length=n)(a:row[s]?=some x):(row.take s++List.replicate (n-s) 0).set s x=row.take (s+1)++List.replicate (n-(s+1)) 0:=by
 have hs:=(Qz.1 a).1;have b:(row.take s).length=s:=by rw[Zl];omega
 rw[Ly,Qf<|by omega,b,ZO,show n-s=(n-(s+1))+1 by omega,Y8,Zt,a,QQ];rfl
def aN{w wr e:WD}{i:OA}{c n h gT d m a N b s x:Nat}{L row:LN}{g k:LV}{T}(r:row.length=n)(t:row[s]?=some x)(o:Qh wr 51 (.slice gT m m) (g++.slice b n n::k))(q:Zy wr [w.heap.size+1,gT,d,b] g T)(p:Qh wr 3 (.slice d a a) (List.replicate a<|.int .i64 0))(l:RQ w i c n L h gT d m a N wr)(hb:b≠gT∧b≠d∧b≠h∧w.heap.size+1<b)(f:Qb [b] wr e)(j:Qh e 3 (.slice b n n) ((Qi<|row.take s++List.replicate (n-s) 0).set s (x:Int))):
 Qh e 51 (.slice gT m m) (g++.slice b n n::k)∧Qh e 3 (.slice b n n) (Qi<|row.take (s+1)++List.replicate (n-(s+1)) 0)∧Zy e [w.heap.size+1,gT,d,b] g T∧
  Qh e 3 (.slice d a a) (List.replicate a<|.int .i64 0)∧RQ w i c n L h gT d m a N e:=by
 rw[←AV,wB row n s x r t]at j;exact⟨o.kept f (by intro e a d;simp[Qd,qo]at a d;omega),j,q.step (f.mono (by intro e a;simp at a;simp[a]))<|QP.refl _ _,p.kept f (by intro e a d;simp[Qd,qo]at a d;omega),l.on f (by intro e a;simp at a;omega)⟩
def mS(w:WD)(f:OA)(c n:Nat)(L:LN)(g gT d m b N:Nat)(k:Nat)(v:VL)(wr:WD):Prop:=
 ∃(a:Nat)(e:LV),k=4-a∧a≤4∧v=.int .i64 (a:Nat)∧Hid (Qh wr 51 (.slice gT m m) e)∧Hid (Zy wr [w.heap.size+1,gT,d] e ((Ar L n m a).map QY))∧
  Hid (Qh wr 3 (.slice d b b) (Qi (Rj L n m a)))∧Hid (RQ w f c n L g gT d m b N wr)
structure YF(w:WD)(aL:OA)(c n:Nat)(L:LN)(gP gT gK m G N gW:Nat)(bs:LN)(vs:LV)(T:List LN)(P:LN)(rows:List LN)(wr:WD):Prop where
 base:RQ w aL c n L gP gT gK m G N wr
 tops:Qh wr 51 (.slice gT m m) vs
 tabs:Zy wr ([w.heap.size+1,gT,gK,gW]++bs) vs (T.map QY)
 picks:Qh wr 3 (.slice gK G G) (Qi P)
 mat:U2 wr gW n m bs rows
 top:N≤gW
def YF.write{w wr h c n e gT a m g N j L bs P k T f}(d:YF w h c n L e gT a m g N j bs k T P f wr)(l:gT<N∧a<N∧e<N∧w.heap.size+1<N){i b r}(hb:bs[i]?=some b)(l:f[i]?=some r)(s x:Nat):
 YF w h c n L e gT a m g N j bs k T P (f.set i<|r.set s x) (wr.setCell ⟨b,s,none⟩ (x:Int)):=by
 have hk:Qb [b] wr (wr.setCell ⟨b,s,none⟩ (x:Int)):=(Qc _ _).setCell (p:=⟨b,s,none⟩) (by simp) _;have g:=QA hb;have:=d.mat.gt b g;have h:=d.top;exact⟨d.base.on hk (by intro f a;simp at a;omega),d.tops.kept hk (by intro f a e;simp[Qd,qo]at a e;omega),d.tabs.step (hk.mono (by intro f a;simp at a;subst a;simp[g]))<|QP.refl _ _,d.picks.kept hk (by intro f a e;simp[Qd,qo]at a e;omega),d.mat.put hb l s x,h⟩
def YF.pick{w wr:WD}{f:OA}{c n d gT a m e N g:Nat}{L bs P:LN}{i:LV}{T h:List LN}(b:YF w f c n L d gT a m e N g bs i T P h wr)(k:gT<N∧a<N∧d<N∧w.heap.size+1<N)(k:w.heap.size+1<gT∧w.heap.size+1<a∧w.heap.size+1<d∧gT≠d∧a≠d∧gT≠a)(j x:Nat):
 YF w f c n L d gT a m e N g bs i T (P.set j x) h (wr.setCell ⟨a,j,none⟩ (x:Int)):=by
 have hk:Qb [a] wr (wr.setCell ⟨a,j,none⟩ (x:Int)):=(Qc _ _).setCell (p:=⟨a,j,none⟩) (by simp) _;have f:=b.top;have hp:=b.picks.put j (x:Int);rw[←AV]at hp;exact⟨b.base.on hk (by intro e a;simp at a;omega),b.tops.kept hk (by intro e a d;simp[Qd,qo]at a d;omega),b.tabs.step (hk.mono (by intro e a;simp at a;subst a;simp))<|QP.refl _ _,hp,b.mat.on hk (by intro e a;simp at a;subst a;exact⟨by omega,fun d=>by have:=b.mat.gt _ d;omega⟩),f⟩
def YF.on0{w wr j:WD}{d:OA}{c n f gT e m b N g:Nat}{L bs P:LN}{i:LV}{T h:List LN}(a:YF w d c n L f gT e m b N g bs i T P h wr)(hk:Qb [] wr j):YF w d c n L f gT e m b N g bs i T P h j:=
 ⟨a.base.on hk<|by simp,a.tops.kept hk<|by simp,a.tabs.kZ hk,a.picks.kept hk<|by simp,a.mat.on hk<|by simp,a.top⟩
def YF.more{w wr a:WD}{h:OA}{c n f gT d m g N b:Nat}{L bs P r:LN}{j:LV}{T i:List LN}(e:YF w h c n L f gT d m g N b bs j T P i wr)(k:gT<N∧d<N∧f<N∧w.heap.size+1<N)(k:bs.length<m)(hk:Qb [] wr a)
 (l:Qh a 3 (.slice wr.heap.size n n) (Qi r)):YF w h c n L f gT d m g N b (bs++[wr.heap.size]) j T P (i++[r]) (a.setCell ⟨b,bs.length,none⟩<|.slice wr.heap.size n n):=by
 have h:=e.on0 hk;have f:Qb [b] a (a.setCell ⟨b,bs.length,none⟩<|.slice wr.heap.size n n):=(Qc _ _).setCell (p:=⟨b,bs.length,none⟩) (by simp) _;have j:=e.top;refine⟨h.base.on f (by intro g a;simp at a;omega),h.tops.kept f (by intro g a i;simp[Qd,qo]at a i;omega),?_,h.picks.kept f (by intro g a i;simp[Qd,qo]at a i;omega),e.mat.more k hk l,j⟩;refine e.tabs.step ((hk.mono (T:=[w.heap.size+1,gT,d,b]++bs)<|by simp).trans f (by intro g a;simp at a;subst a;left;simp)) ?_;intro g a;rw[←QQ]at a;rcases Q6.1 a with a|a
 ·exact .inl a
 exact .inr (by rw[Za.1 a];exact Ql _)
def YF.table{w wr i:WD}{k:OA}{c n f gT a m h N j:Nat}{L bs P ls:LN}{o:LV}{T l:List LN}{e:OA}{g:Nat}(d:YF w k c n L f gT a m h N j bs o T P l wr)(q:gT<N∧a<N∧f<N∧w.heap.size+1<N)
 (q:w.heap.size+1<gT∧w.heap.size+1<a∧w.heap.size+1<f∧gT≠f∧a≠f∧gT≠a)(hk:Qb [] wr i)(q:Qh i 3 (.slice e ls.length g) (Qi ls))(hf:Qs wr.heap.size (fZ e))(t:Nat):
 YF w k c n L f gT a m h N j bs (o.set t<|.slice e ls.length g) (T.set t ls) P l (i.setCell ⟨gT,t,none⟩<|.slice e ls.length g):=by
 have h:=d.on0 hk;have k:Qb [gT] i (i.setCell ⟨gT,t,none⟩<|.slice e ls.length g):=(Qc _ _).setCell (p:=⟨gT,t,none⟩) (by simp) _;have r:=d.top;refine⟨h.base.on k (by intro o f;simp at f;omega),h.tops.put t _,?_,h.picks.kept k (by intro o f i;simp[Qd,qo]at f i;omega),h.mat.on k (by intro o f;simp at f;subst f;exact⟨by omega,fun i=>by have:=d.mat.gt _ i;omega⟩),r⟩;have hlt:∀f∈[w.heap.size+1,gT,a,j]++bs,f<wr.heap.size:=by
  intro f a;have:=d.base.big;rcases Q6.1 a with a|a
  ·simp at a;have:=d.mat.top.lt j (by simp[Qd,qo]);omega
  obtain⟨i,hi⟩:=Fc a;have⟨a,j⟩:=qy l i (by rw[←d.mat.len];exact(Qz.1 hi).1);exact(d.mat.row i f a hi j).lt f (by simp[Qd,qo])
 have:=h.tabs.setRow (w0:=wr) (b:=e) (c:=g) (i:=t) (gT:=gT) (t:=QY ls) hlt (by rwa[XF,AI]) hf (by simp);rw[XF]at this;rw[Bp];exact this
def mT(w:WD)(d:OA)(c n:Nat)(L:LN)(f gT e m b N g:Nat)(h:LV)(T:List LN)(P:LN)(k:Nat)(v:VL)(wr:WD):Prop:=
 ∃(a:Nat)(bs:LN),k=m-a∧a≤m∧v=.int .i64 (a:Nat)∧Hid (bs.length=a)∧Hid (YF w d c n L f gT e m b N g bs h T P (List.replicate a (List.replicate n 0)) wr)
def mU(w:WD)(f:OA)(c n:Nat)(L:LN)(h gT g m b N i:Nat)(bs:LN)(j:LV)(T:List LN)(e d:LN)(k:Nat)(v:VL)(wr:WD):Prop:=
 ∃a:Nat,k=b-a∧a≤b∧v=.int .i64 (a:Nat)∧Hid (YF w f c n L h gT g m b N i bs j T (d.take a++e.drop a) (Vp L d n m (min (50*a) L.length)) wr)
def mV(w:WD)(e:OA)(c n:Nat)(L:LN)(h gT f m b N i:Nat)(bs:LN)(l:LV)(T:List LN)(P d:LN)(j:Nat)(g:LN)(k:Nat)(v:VL)(wr:WD):Prop:=
 ∃a:Nat,k=g.length-a∧a≤g.length∧v=.int .i64 (a:Nat)∧Hid (YF w e c n L h gT f m b N i bs l T P (Vp L d n m (50*j+a)) wr)
def mW(w:WD)(f:OA)(c n:Nat)(L:LN)(h gT g m d N i:Nat)(bs:LN)(T e:List LN)(b:LN)(k:Nat)(v:VL)(wr:WD):Prop:=
 ∃(a:Nat)(j:LV),k=m-a∧a≤m∧v=.int .i64 (a:Nat)∧Hid (YF w f c n L h gT g m d N i bs j (e.take a++T.drop a) b (Vp L b n m L.length) wr)
def xO(a:OA)(c n:Nat)(L:LN)(w:WD)(h:Qp w 1 a L.length (Qi L))(hc:L.length≤c)(l6:c≤maxLen)(hm:X2 (QY L) (n:Int)=true)(hl:L.length≤20000):
 Calls prog 204 #[.slice a L.length c,(n:Int)] w (Cb ((Ar L n (Yd (L.length:Int)).1 4).map QY) (QY<|Rj L n (Yd (L.length:Int)).1 4) 0 w):=by
 obtain⟨u4,m4,f2,n0,w5,l3⟩:=Bx hm;rw[XF]at n0 w5;obtain⟨m4,f2⟩:3≤n∧n≤258:=by omega
 have j6:∀s∈L,s<n:=by intro s hs;have:=l3 (s:Int)<|QB.2 ⟨s,hs,rfl⟩;omega
 have hk:Qb [] w ((w.alloc<|.cells #[.slice a L.length c] 51).alloc<|.cells #[.slice none 0 0,.slice none 0 0] 255):=((Qc _ _).alloc _).alloc _;have hB:=Qy w [.slice a L.length c] 51;have hA:=Qy (w.alloc<|.cells #[.slice a L.length c] 51) [.slice none 0 0,.slice none 0 0] 255;rw[show(w.alloc<|.cells #[.slice a L.length c] 51).heap.size=w.heap.size+1 by simp]at hA;have r6:=hB.kept ((Qc [] _).alloc<|.cells #[.slice none 0 0,.slice none 0 0] 255) (by simp);have M:=IU a c (QY L) (n:Int) _ (by rw[XF,AI];exact h.kZ hk) (by rw[XF];omega);rw[hm,XF]at M;obtain⟨t1,t2,t3⟩:=kE L.length n0;obtain⟨⟨m,e0⟩,a8⟩:∃R,Yd (L.length:Int)=R:=⟨_,rfl⟩;rw[a8]at t1 t2 t3;have t1:e0=0:=t1;subst t1;have t2:2≤m:=t2;have t3:m≤6:=t3;have o9:=Qa a8;rw[a8];have s9:ZH L.length≤1000:=by unfold ZH;omega
 have n7:=Qa (by unfold ZH;omega:L.length≤50*ZH L.length);have⟨G,hG⟩:=qx<|ZH L.length;have⟨y6,n5⟩:=qb hG (fun W=>show Calls prog 211 #[L.length] W (fun e w'=>e=.returned (.int .i64 (G:Nat))∧W=w')by rw[←hG];exact Nb L.length W<|by omega);rw[hG]at s9;have⟨W,hW⟩:=qx<|(w.alloc<|.cells #[.slice a L.length c] 51).alloc<|.cells #[.slice none 0 0,.slice none 0 0] 255;have h8:W.heap.size=w.heap.size+1+1:=by rw[←hW];simp
 have b0:((w.alloc<|.cells #[.slice a L.length c] 51).alloc<|.cells #[.slice none 0 0,.slice none 0 0] 255).cell? w=some (.slice a L.length c):=r6.cell (i:=0) rfl;have d0:W.cell? w=some (.slice a L.length c):=by rwa[←hW]
 have HW:=Qa hW;rw[hW]at hk hA r6;have⟨HS,HK,HA,HB,g8⟩:=qe h hk hA r6 j6;obtain⟨ZT,l2,u7⟩:=Qa7 m (by omega);obtain⟨ZK,l0,u5⟩:=dG G (by omega);have⟨y9,y8⟩:=qb l2 l0;clear h hk hA hB r6 l3 u4 hm j6 a8 hW l2 l0 hG;go_enter func204,ntmps204;go_wp2_with fail;refine M.mono ?_;rintro e w1⟨rfl,rfl⟩;clear M;go_wp2_with fail;refine(yI (L.length:Int) _).mono ?_;intro e w' hp;unfold Hj at hp;rw[o9.o]at hp;obtain⟨rfl,rfl⟩:=hp;rw[HW.o];clear b0 HW
 go_upto_region 4 with(fail)
 go_cut [8] (fun v8 wc=>PF W m G v8 wc)
 ·go_region_held3 (fun w'=>w'.cell? w=some (.slice a L.length c)) (first|(refine Qb.cZ (w:=W) (S:=[]) ?_ d0 (by simp);repeat (first|exact Qc _ _|refine Qb.drew ?_|refine Qb.alloc ?_ _|refine Qb.setCell ?_ (.inr (by simp;try omega)) _))) (first|(go_at_call 211;refine(n5.o _).mono ?_;rintro e w4⟨rfl,rfl⟩))
  all_goals
   go_wp2
   go_meet
   first
    |exact Ej W _ m G ZT ZK _ _ _ y9.o y8.o (by omega) (by omega) (YS W _ _ _ _ _ _ (w.heap.size+1+1) h8).2.2.2 (YS W _ _ _ _ _ _ (w.heap.size+1+1) h8).1 (YS W _ _ _ _ _ _ (w.heap.size+1+1) h8).2.1 (YS W _ _ _ _ _ _ (w.heap.size+1+1) h8).2.2.1 (by omega)
    |exact Ej W _ m G ZT ZK _ _ _ y9.o y8.o (by omega) (by omega) (YS W _ _ _ _ _ _ (w.heap.size+1+1) h8).2.2.2 (YS W _ _ _ _ _ _ (w.heap.size+1+1) h8).1 (YS W _ _ _ _ _ _ (w.heap.size+1+1) h8).2.2.1 (YS W _ _ _ _ _ _ (w.heap.size+1+1) h8).2.1 (by omega)
    |exact Ej W _ m G ZT ZK _ _ _ y9.o y8.o (by omega) (by omega) (YS W _ _ _ _ _ _ (w.heap.size+1+1) h8).2.2.2 (YS W _ _ _ _ _ _ (w.heap.size+1+1) h8).2.1 (YS W _ _ _ _ _ _ (w.heap.size+1+1) h8).1 (YS W _ _ _ _ _ _ (w.heap.size+1+1) h8).2.2.1 (by omega)
    |exact Ej W _ m G ZT ZK _ _ _ y9.o y8.o (by omega) (by omega) (YS W _ _ _ _ _ _ (w.heap.size+1+1) h8).2.2.2 (YS W _ _ _ _ _ _ (w.heap.size+1+1) h8).2.1 (YS W _ _ _ _ _ _ (w.heap.size+1+1) h8).2.2.1 (YS W _ _ _ _ _ _ (w.heap.size+1+1) h8).1 (by omega)
    |exact Ej W _ m G ZT ZK _ _ _ y9.o y8.o (by omega) (by omega) (YS W _ _ _ _ _ _ (w.heap.size+1+1) h8).2.2.2 (YS W _ _ _ _ _ _ (w.heap.size+1+1) h8).2.2.1 (YS W _ _ _ _ _ _ (w.heap.size+1+1) h8).1 (YS W _ _ _ _ _ _ (w.heap.size+1+1) h8).2.1 (by omega)
    |exact Ej W _ m G ZT ZK _ _ _ y9.o y8.o (by omega) (by omega) (YS W _ _ _ _ _ _ (w.heap.size+1+1) h8).2.2.2 (YS W _ _ _ _ _ _ (w.heap.size+1+1) h8).2.2.1 (YS W _ _ _ _ _ _ (w.heap.size+1+1) h8).2.1 (YS W _ _ _ _ _ _ (w.heap.size+1+1) h8).1 (by omega)
 obtain⟨o,gK,gP,rfl,z8,f3,q9,b5,z1,z2,z3,z4,z5,z6⟩:=hcut;rw[h8]at z1 z2 z3;have⟨HO,HZ⟩:=qb (by omega:w.heap.size+1<o∧w.heap.size+1<gK∧w.heap.size+1<gP∧o≠gP∧gK≠gP∧o≠gK)<|show o<wc.heap.size∧gK<wc.heap.size∧gP<wc.heap.size from⟨z8.lt o<|by simp[Qd,qo],f3.lt gK<|by simp[Qd,qo],q9.lt⟩;have⟨N,hN⟩:=qx wc.heap.size;have h9:=Qa<|show RQ w a c n L gP o gK m G N wc from⟨HB.o.kept b5<|by simp,HA.o.kept b5<|by simp,q9,HK.o.trans b5<|by simp,by omega⟩;rw[hN]at HZ;have⟨j1,x4⟩:=qb z8 f3;obtain⟨ZN,l1,u6⟩:=dG n (by omega);have⟨j5,g7⟩:=qb l1<|zK n m;have e0:=q9.cell (i:=0) (u:=.slice o m m) rfl;clear z8 f3 b5 z1 z2 z3 z4 z5 z6 d0 u7 u5 l1 HA HB HK hN q9;go_wp2_with fail;clear e0
 go_loopg [41] m (fun k v wr=>mQ w a c n L gP o gK m G N k v wr)
 ·exact⟨0,[],by omega,by omega,rfl,Qa rfl,Qa<|by simpa using j1.o,Qa<|Zy.nil _ _,x4,h9⟩
 clear j1 x4 h9;obtain⟨t,vs,hk,ht,rfl,y1,HR,HT,x4,h9⟩:=hrel;have Hk:=Qa hk;clear hk
 by_cases hlt:t<m
 ·have t8:(t:Int)<m:=by omega
  have j0:=Qa<|g7.o t hlt;have⟨row,x0⟩:=qx<|((List.range n).map fun s=>if s*m/n=t then 1 else 15);have o4:=Qa (by intro s hs;rw[←x0];simp[Xa hs]: ∀s,s<n→row[s]?=some (if s*m/n=t then 1 else 15));rw[x0]at j0;have p3:=Qa (by rw[←x0];simp:row.length=n);have q3:=HR.o;rw[show m-t=(m-(t+1))+1 by omega,Y8]at q3;have i6:=Qa q3;have e0:=h9.o.plan.cell (i:=0) (u:=.slice o m m) rfl;have e1:=q3.aZ (j:=t) (u:=.slice none 0 0) (by rw[Zx (by have:=y1.o;omega),y1.o,ZO];rfl);have e2:=q3.free t;have s6:=h9.o.big;have hz:=HZ.o.1;have p8:o<wr.heap.size:=by omega
  have s8:gP<wr.heap.size:=by have:=HZ.o.2.2;omega
  clear x0 q3;go_wp2_with fail
  go_region_held3 (fun w'=>w'.cell? gP=some (.slice o m m)) (first|exact e0|exact((Qc [] wr).drew.alloc _).cZ e0 (by simp)|exact(((Qc [o] wr).drew.setCell (p:=⟨o,t,none⟩) (by simp) _).alloc _).cZ e0 (by simp;have:=HO.o;omega)|exact(((Qc [o] wr).drew.alloc _).setCell (p:=⟨o,t,none⟩) (by simp) _).cZ e0 (by simp;have:=HO.o;omega)) (fail)
  have⟨b,hb⟩:=qx wr.heap.size;have⟨W8,p5⟩:=qx<|((wr.setCell ⟨o,t,none⟩<|.slice (some ⟨wr.heap.size,0,none⟩) n n).alloc<|.cells ZN 3).drew;rw[p5];have b4:Qb [o] wr W8:=by rw[←p5];exact(((Qc [o] wr).setCell (p:=⟨o,t,none⟩) (by simp) _).alloc _).drew
  have z8:Qh W8 51 (.slice o m m) (vs++.slice (some ⟨b,0,none⟩) n n::List.replicate (m-(t+1)) (.slice none 0 0)):=by rw[←p5,hb];have h:=(i6.o.put t<|.slice (some ⟨b,0,none⟩) n n).alloc<|.cells ZN 3;rw[Ly,Qf (by have:=y1.o;omega),y1.o,ZO,UY]at h;exact h.drew
  have m5:Qh W8 3 (.slice (some ⟨b,0,none⟩) n n) (Qi<|row.take 0++List.replicate (n-0) 0):=by rw[LC,Yy,Br,show Qi (List.replicate n 0)=List.replicate n (.int .i64 0)by simp[Qi],←p5,←hb];have h:=Xf (wr.setCell ⟨o,t,none⟩<|.slice (some ⟨wr.heap.size,0,none⟩) n n)<|.cells ZN 3;rw[show(wr.setCell ⟨o,t,none⟩<|.slice (some ⟨wr.heap.size,0,none⟩) n n).heap.size=wr.heap.size by simp[World.setCell]]at h;exact(Qh.at_any _ wr.heap.size n ZN _ _ j5.o (by omega) h).drew
  have x9:b≠o∧b≠gK∧b≠gP∧w.heap.size+1<b:=by have h1:=HZ.o;have h2:=HO.o;omega
  have j8:Zy W8 [w.heap.size+1,o,gK,b] vs (((Cp n m).take t).map QY):=HT.o.step (b4.mono (by intro x hx;simp at hx;simp[hx])) (by
   intro x hx;simp at hx;rcases hx with h|h|h|h
   ·exact .inl (by simp[h])
   ·exact .inl (by simp[h])
   ·exact .inl (by simp[h])
   exact .inr (by omega))
  have⟨i8,f7,j4,g5,f8,x6⟩:=qf z8 m5 j8 (x4.o.kept b4 (by intro x hx hm;simp[Qd,qo]at hx hm;have:=HO.o;omega)) (h9.o.on b4 (by intro x hx;simp at hx;have:=HO.o;omega)) x9;rw[hb];clear p5 b4 z8 m5 j8 hb HR i6 HT x4 h9 e0 e1 e2 s6 p8 s8 x9 hz
  go_wp2
  go_loopg [51] n (fun k v x3=>mR w a c n L gP o gK m G N t b vs row k v x3)
  ·exact⟨0,by omega,by omega,rfl,i8,f7,j4,g5,f8⟩
  clear i8 f7 j4 g5 f8;obtain⟨s,hk,hs,rfl,HR,HB,HT,x4,h9⟩:=hrel;have x5:=Qa hk;clear hk
  by_cases z7:s<n
  ·have m1:(s:Int)<n:=(by omega);have m7:s*m≤258*6:=Fj (by omega) t3;have⟨pr,b7⟩:=qx<|s*m;have ai:(s:Int)*m=(pr:Int):=by rw[←b7];push_cast;rfl
   have⟨q,hq⟩:=qx<|s*m/n;have u8:(pr:Int)/n=(q:Int):=(by rw[←hq,b7];rfl);have ag:(pr:Int).tdiv (n:Int)=q:=(by rwa[GG<|by omega]);have ak:IntKind.i64.wrap (pr:Int)=(pr:Int):=Q3 _ (by omega);have af:q≤258*6:=(by rw[←hq];exact QS (DV _ _) m7);have am:IntKind.i64.wrap (q:Int)=(q:Int):=Q3 _ (by omega);have ae:((n:Int)==0)=false:=(by simp;omega);have y4:=o4.o s z7;rw[hq]at y4;have e0:=h9.o.plan.cell (i:=0) (u:=.slice o m m) rfl;have e1:=HR.o.aZ (j:=t) (u:=.slice (some ⟨b,0,none⟩) n n) (by rw[Zx (by have:=y1.o;omega),y1.o,ZO];rfl);have e2:=HB.o.aZ (j:=s) (u:=.int .i64 0) (by
    have h:(row.take s++List.replicate (n-s) 0)[s]?=some 0:=(by have ht:(row.take s).length=s:=(by rw[Zl,p3.o];omega);rw[Zx<|by omega,ht,ZO,V4,Qg<|by omega]);exact AX h)
   have e3:=HB.o.free s;have n1:¬b=o:=x6.o.1;have n2:¬b=gP:=x6.o.2.2.1;have n3:¬o=b:=fun h=>n1 h.symm
   have n4:¬gP=b:=fun h=>n2 h.symm
   rw[b7]at m7;clear hq b7
   by_cases he:q=t
   ·have q1:((q:Int)==(t:Int))=true:=(by simp;omega);rw[Qg he]at y4;have d4:=Qa y4;clear y4 he
    go_wp2
    go_roundg (n-(s+1))
    ·have e8:Qb [b] wr ((wr.setCell ⟨b,s,none⟩ (15:Int)).setCell ⟨b,s,none⟩ ((1:Nat):Int)):=((Qc _ _).setCell (p:=⟨b,s,none⟩) (by simp) _).setCell (p:=⟨b,s,none⟩) (by simp) _;have b8:=(HB.o.put s (15:Int)).put s ((1:Nat):Int);rw[List.set_set]at b8;obtain⟨r1,r2,r3,r4,r5⟩:=aN (x:=1) p3.o d4.o HR.o HT.o x4.o h9.o x6.o e8 b8;exact⟨s+1,rfl,by omega,by simp,Qa r1,Qa r2,Qa r3,Qa r4,Qa r5⟩
    have:=x5.o;omega
   have q1:((q:Int)==(t:Int))=false:=(by simp;omega);rw[Qf he]at y4;have d4:=Qa y4;clear y4 he
   go_wp2
   go_roundg (n-(s+1))
   ·have e8:Qb [b] wr (wr.setCell ⟨b,s,none⟩ ((15:Nat):Int)):=(Qc _ _).setCell (p:=⟨b,s,none⟩) (by simp) _;have b8:=HB.o.put s ((15:Nat):Int);obtain⟨r1,r2,r3,r4,r5⟩:=aN (x:=15) p3.o d4.o HR.o HT.o x4.o h9.o x6.o e8 b8;exact⟨s+1,rfl,by omega,by simp,Qa r1,Qa r2,Qa r3,Qa r4,Qa r5⟩
   have:=x5.o;omega
  obtain rfl:n=s:=by omega
  have u0:¬(n:Int)<n:=by omega
  go_wp2
  go_roundg (m-(t+1))
  ·have m6:=HB.o;rw[Q8 (by rw[p3.o];exact Ql _),ZO,CP,XH,←AI]at m6;have x1:(QY row).length=n:=(by rw[XF,p3.o]);have ht:=(HT.o.less (F2:=[w.heap.size+1,o,gK]) (by intro x hx;simp at hx;rcases hx with rfl|rfl|rfl<;>simp)).snocA (b:=some ⟨b,0,none⟩) (c:=n) (t:=QY row) (by rwa[x1]) (by intro x hx hm;simp[fZ]at hx hm;have:=x6.o;omega);rw[x1]at ht;refine⟨t+1,vs++[.slice (some ⟨b,0,none⟩) n n],rfl,by omega,by simp,Qa (by simp;exact y1.o),Qa (by have:=HR.o;rw[QQ];exact this),Qa ?_,x4,h9⟩;rwa[Zt,j0.o,Xi]
  have:=Hk.o;omega
 obtain rfl:m=t:=by omega
 have ad:¬(m:Int)<m:=by omega
 have hR:=HR.o;rw[ZO,CP,XH]at hR;have hT:=HT.o;rw[Q8 (by rw[(bV n m).1];exact Ql _)]at hT;have i7:=Qa hR;have j3:=Qa<|show Zy wr [w.heap.size+1,o,gK] vs ((Ar L n m 0).map QY)from hT;have p2:=Qa (show Qh wr 3 (.slice gK G G) (Qi<|Rj L n m 0)by
  have e:Qi (Rj L n m 0)=List.replicate G (.int .i64 0):=by unfold Rj;rw[y6.o];simp[Qi]
  rw[e];exact x4.o)
 have y7:=Qa (by have h1:=HZ.o;have h2:=HO.o;omega:o<N∧gK<N∧gP<N∧w.heap.size+1<N);clear hR hT HR HT x4 y1 Hk g7 j5 u6
 go_wp2
 go_loopg [78] 4 (fun k v wr=>mS w a c n L gP o gK m G N k v wr)
 ·exact⟨0,vs,by omega,by omega,rfl,i7,j3,p2,h9⟩
 clear i7 j3 p2 h9;obtain⟨r,vs,hk,hr,rfl,HR,HT,HP,h9⟩:=hrel;have Hk:=Qa hk;clear hk;have y0:=Qa<|OY L n m ⟨m4,f2⟩ (by omega) r;have⟨T,d8⟩:=qx<|Ar L n m r;obtain⟨P0,r7⟩:∃P,Rj L n m r=P:=⟨_,rfl⟩;have⟨d7,q6⟩:=qb d8 (by rw[←r7,Oh,y6.o]:P0.length=G);rw[d8]at HT y0;rw[r7]at HP;have o3:=Qa r7;clear d8 r7
 by_cases hlt:r<4
 ·have t8:(r:Int)<4:=by omega
  obtain⟨P1,y3⟩:∃P,Cw T L m=P:=⟨_,rfl⟩;have p2:=Qa y3;have q7:=Qa (by rw[←y3,fP,y6.o]:P1.length=G);have o2:=Qa (by intro j hj;rw[←y3];exact Qdl T L m j (by rwa[y6.o]): ∀j,j<G→P1[j]?=some (U8 T (Xt L j)<|m-1));clear y3;go_wp2_with ((at_make;refine YZ rfl _ _ 253 rfl 51 (.slice none 0 0) 24 Mj Hn rfl .i64 .i64 _ _ m m rfl rfl rfl rfl (Ql _) (by omega) (by simp only[maxLen];omega) ?_;intro w2 f4 p9));have⟨gW,l8⟩:=qx wr.heap.size;rw[l8]at f4 ⊢;have h5:=Qa (show YF w a c n L gP o gK m G N gW [] vs T P0 (List.replicate 0<|List.replicate n 0) w2 from
   ⟨h9.o.on p9<|by simp,HR.o.kept p9<|by simp,HT.o.step (p9.mono<|by simp) (by
    intro x hx;simp at hx;rcases hx with h|h|h|h
    ·exact .inl (by simp[h])
    ·exact .inl (by simp[h])
    ·exact .inl (by simp[h])
    exact .inr (by omega)),HP.o.kept p9<|by simp,⟨by simpa using f4,rfl,List.nodup_nil,by simp,by simp⟩,by have:=h9.o.big;omega⟩)
  clear f4 p9 l8 h9 HR HT HP
  go_loopg [84] m (fun k v x3=>mT w a c n L gP o gK m G N gW vs T P0 k v x3)
  ·exact⟨0,[],by omega,by omega,rfl,Qa rfl,h5⟩
  clear h5;obtain⟨i,bs,hk,hi,rfl,y2,h5⟩:=hrel;have x5:=Qa hk;clear hk
  by_cases z7:i<m
  ·have m1:(i:Int)<m:=(by omega);have k2:=h5.o.mat.top.aZ (j:=i) (u:=.slice none 0 0) (by rw[Zx (by rw[QH,y2.o];exact Ql _),QH,y2.o,ZO,V4,Qg<|by omega]);go_wp2_with ((at_make;refine YZ rfl _ _ 51 rfl 3 (0:Int) 8 XC XJ rfl .i64 .i64 _ _ n n rfl rfl rfl rfl (Ql _) (by omega) (by simp only[maxLen];omega) ?_;intro w4 u9 e7;have k0:=e7.cZ k2 (by simp);have k1:=(h5.o.mat.top.kept e7<|by simp).free i))
   go_roundg (m-(i+1))
   ·have h1:=h5.o.more y7.o (by rwa[y2.o]) e7 (r:=List.replicate n 0) (by rw[show Qi (List.replicate n 0)=List.replicate n (.int .i64 0)by simp[Qi]];exact u9);rw[y2.o]at h1;refine⟨i+1,bs++[wr.heap.size],rfl,by omega,by simp,Qa (by simp;exact y2.o),Qa ?_⟩;rwa[Fg]
   have:=x5.o;omega
  obtain rfl:m=i:=by omega
  have u0:¬(m:Int)<m:=by omega
  have x2:=h5.o;rw[←uD L P1 n m]at x2;have f9:=Qa x2;have e1:=x2.base.plan.cell (i:=1) (u:=.slice gK G G) rfl;clear x2 h5 x5;go_wp2_with fail;clear e1
  go_loopg [96] G (fun k v x3=>mU w a c n L gP o gK m G N gW bs vs T P0 P1 k v x3)
  ·exact⟨0,by omega,by omega,rfl,Qa<|by simpa using f9.o⟩
  clear f9;obtain⟨j,hk,hj,rfl,h5⟩:=hrel;have x5:=Qa hk;clear hk
  by_cases z7:j<G
  ·have m1:(j:Int)<G:=(by omega);have m0:50*j<L.length:=yE L j (by rwa[y6.o]);have e9:min (50*j) L.length=50*j:=(by omega);have x2:=h5.o;rw[e9]at x2;have⟨h5,j2,c9⟩:=qc x2 (x2.tabs.seesN (Qc _ _) x2.tops.sZ)<|HS.o.kZ x2.base.kept;have e0:=x2.base.lst.cell (i:=0) (u:=.slice a L.length c) rfl;have e1:=x2.base.plan.cell (i:=0) (u:=.slice o m m) rfl;have q5:=Qa fun(t:Nat)(ht:t<m)=>xP w.heap.size gP o m c n t j a L T wr e0 c9.o hc l6 e1 j2.o y0.o ht t3 m0 (by omega) g8.o f2;have p8:(Xt L j).length=min 50 (L.length-50*j):=IV L j;have e6:∀s∈Xt L j,s<n:=fun s hs=>g8.o s (GQ<|VE hs)
   have e5:=yD L j;have⟨q8,p1⟩:=qb (o2.o j z7) fun(W:WD)(hW:Qp W 1 a L.length (Qi L))=>aR a c j (Qi L) W (by rwa[QF]) (by rwa[QF]) l6 (by rwa[QF]) (by rw[QF];omega);have l9:Xt (Qi L) j=Qi (Xt L j):=aY _ _ _;unfold PL at p1;rw[l9,QF,QF]at p1;have⟨g,hg⟩:=qx<|Xt L j;rw[hg]at q5 p8 e6 e5 q8 p1;have⟨c8,n8,o0,aa⟩:=qd (by intro t ht;obtain⟨row,x0⟩:∃r,T[t]?=some r:=⟨_,Qj<|by rwa[y0.o.1]⟩;rw[List.getD,x0];have:=MN row 20 (y0.o.2 row<|QA x0).2 g;simp only[VI];omega: ∀t,t<m→YU (T.getD t []) g≤1000) e6 e5 e9;clear x2 l9 hg e6 e5 e9 e0 e1
   go_wp2
   go_loopg [15,16] (m-1) (fun k w9 v x3=>∃t:Nat,k=m-t∧1≤t∧t≤m∧v=.int .i64 (t:Nat)∧w9=.int .i64 (U8 T g (t-1):Nat)∧wr=x3)
   ·exact⟨1,by omega,by omega,by omega,rfl,rfl,rfl⟩
   obtain⟨t,hk,aj,ht,rfl,rfl,rfl⟩:=hrel;have p4:=Qa hk;clear hk;have l4:=Mt T g<|t-1
   by_cases x8:t<m
   ·have m2:(t:Int)<m:=(by omega);have p0:=Qa (show U8 T g t=if YU (T.getD t []) g<YU (T.getD (U8 T g<|t-1) []) g then t else U8 T g (t-1)by
     obtain⟨u,rfl⟩:∃u,t=u+1:=⟨t-1,by omega⟩;rw[U8,UE])
    have⟨best,p6⟩:=qx<|U8 T g<|t-1;rw[p6]at l4 p0 ⊢;have⟨c4,c5⟩:=qb (q5.o t x8) (q5.o best<|by omega);have s4:=c8.o t x8;have s5:=c8.o best (by omega);have⟨x,hx⟩:=qx<|YU (T.getD t []) g;have⟨y,hy⟩:=qx<|YU (T.getD best []) g;rw[hx]at c4 s4 p0;rw[hy]at c5 s5 p0;clear p6 hx hy
    by_cases hb:x<y
    ·have q1:(x:Int)<y:=(by omega);have HB:=Qa (by rw[p0.o,Qg hb]:U8 T g t=t);go_wp2_with fail;refine c4.o.mono ?_;rintro e w6⟨rfl,rfl⟩;go_wp2_with fail;refine c5.o.mono ?_;rintro e w6⟨rfl,rfl⟩
     go_wp2
     go_roundg (m-(t+1))
     ·exact⟨t+1,rfl,by omega,by omega,by simp,by rw[UE,HB.o],rfl⟩
     have:=p4.o;omega
    have q1:¬(x:Int)<y:=(by omega);have HB:=Qa (by rw[p0.o,Qf hb]:U8 T g t=best);go_wp2_with fail;refine c4.o.mono ?_;rintro e w6⟨rfl,rfl⟩;go_wp2_with fail;refine c5.o.mono ?_;rintro e w6⟨rfl,rfl⟩
    go_wp2
    go_roundg (m-(t+1))
    ·exact⟨t+1,rfl,by omega,by omega,by simp,by rw[UE,HB.o],rfl⟩
    have:=p4.o;omega
   obtain rfl:m=t:=(by omega);have u1:¬(m:Int)<m:=(by omega);have⟨best,p6⟩:=qx<|U8 T g<|m-1;rw[p6]at l4 q8 ⊢;have b2:best<m:=(by omega);obtain⟨old,q0⟩:∃old,(Qi<|P1.take j++P0.drop j)[j]?=some old:=⟨_,Qj (by rw[QF,Qo,Zl,Y0,q7.o,q6.o];omega)⟩;have e1:=h5.o.base.plan.cell (i:=1) (u:=.slice gK G G) rfl;have e2:=h5.o.picks.aZ q0;have e3:=h5.o.picks.free j;have p7:=h5.o.pick y7.o HO.o j best;rw[eA P1 P0 j best q8.o (by rw[q6.o];omega)]at p7;have e4:=p7.base.lst.cell (i:=0) (u:=.slice a L.length c) rfl;have g2:=Qa<|p1.o _<|HS.o.kZ p7.base.kept;have x7:=Qa p7;have n1:¬w.heap.size=gK:=(by have:=HO.o;omega);clear p6 q0 h5 q5 c8 p4 j2 c9 p1 p7;go_wp2_with fail;refine g2.o.mono ?_;rintro e w6⟨a6,c6,rfl,f5,rfl,l7⟩;have⟨W7,j9⟩:=qx<|wr.setCell ⟨gK,j,none⟩<|.int .i64 (best:Int);rw[j9]at f5 x7 ⊢;have o5:=Qa (show Bj W7 ([w.heap.size+1,o,gK,gW]++bs) a6 g.length (Qi g)from fun w' hw=>f5.kept hw fun x hx hm=>by
    rw[l7]at hx;have h1:=HS.o.lt (by rw[QF];omega) x hx;have h2:=HO.o;have h3:=x7.o.top;have h4:=y7.o;rcases Q6.1 hm with hm|hm
    ·simp at hm;omega
    have:=x7.o.mat.gt x hm;omega)
   have⟨bb,x9⟩:=qy bs best (by rwa[y2.o]);have⟨x6,n6⟩:=qb x9 p8;have ac:g.length≤50:=(by omega);clear f5 j9 e1 e2 e3 e4 g2 l7 x9 p8
   go_wp2
   go_loopg [123] g.length (fun k v x3=>Hid (Qb ([w.heap.size+1,o,gK,gW]++bs) W7 x3)∧mV w a c n L gP o gK m G N gW bs vs T (P1.take (j+1)++P0.drop (j+1)) P1 j g k v x3)
   ·exact⟨Qa<|Qc _ _,0,by omega,by omega,rfl,Qa<|by simpa using x7.o⟩
   clear x7;obtain⟨g6,i,hk,hi,rfl,h5⟩:=hrel;have p4:=Qa hk;clear hk
   by_cases x8:i<g.length
   ·have m2:(i:Int)<g.length:=(by omega);have⟨x,hx⟩:=qy g i x8;have w8:=n8.o x<|QA hx;have an:(x:Int)<n:=(by omega);have j7:L[50*j+i]?=some x:=(by rwa[←o0.o i x8]);obtain⟨b6,o6,rfl,l5⟩:=(o5.o _ g6.o).at (by rw[QF];omega);have e1:=l5 i _<|AX hx;have e2:=h5.o.mat.cellRow x6.o;have x0:=h5.o.mat.row best bb _ x6.o<|FG L P1 n m (50*j+i) best b2;obtain⟨cv,b3⟩:∃cv,(YT L P1 best n<|50*j+i)[x]?=some cv:=⟨_,Qj<|by rwa[RA]⟩;have ab:cv≤20000:=(by have:=IA L P1 best n (50*j+i) cv<|QA b3;omega);have e3:=x0.aZ<|AX b3;have e4:=x0.free x;have y3:P1.getD ((50*j+i)/50) 0=best:=(by rw[show(50*j+i)/50=j by omega,List.getD,q8.o];rfl);have⟨o1,HW⟩:=qb (uC L P1 n m (50*j+i) best x cv y3 j7 b3 b2)<|h5.o.write y7.o x6.o (FG L P1 n m (50*j+i) best b2) x<|cv+1;clear hx j7 l5 x0 b3 y3
    go_wp2
    go_roundg (g.length-(i+1))
    ·have h1:=HW.o;rw[o1.o]at h1;have t7:Qb ([w.heap.size+1,o,gK,gW]++bs) wr (wr.setCell ⟨bb,x,none⟩<|.int .i64 ((cv+1:Nat):Int)):=(Qc _ _).setCell (p:=⟨bb,x,none⟩) (.inl<|Q6.2<|.inr<|QA x6.o) _;exact⟨Qa<|g6.o.trans t7 fun y hy=>.inl hy,i+1,rfl,by omega,by simp,Qa h1⟩
    have:=p4.o;omega
   obtain rfl:i=g.length:=(by omega);have u3:¬(g.length:Int)<g.length:=by omega
   go_wp2
   go_roundg (G-(j+1))
   ·have h1:=h5.o;rw[show 50*j+g.length=min (50*(j+1)) L.length by have:=n6.o;omega]at h1;exact⟨j+1,rfl,by omega,by simp,Qa h1⟩
   have:=x5.o;omega
  obtain rfl:G=j:=by omega
  have u1:¬(G:Int)<G:=by omega
  have h1:=h5.o;rw[show min (50*G) L.length=L.length by have:=n7.o;have:=y6.o;omega,←q7.o,dZ P1 P0<|by rw[q7.o,q6.o],q7.o]at h1;have⟨T2,a1⟩:=qx<|EJ L n m P1;have⟨o7,o8,d5,g0⟩:=qd a1 (by intro t ht;rw[←a1];simp[EJ,Xa ht]: ∀t,t<m→T2[t]?=some (Cr<|YT L P1 t n L.length)) (by rw[←a1];simp[EJ]:T2.length=m) h1;clear a1 h1 h5 x5
  go_wp2
  go_loopg [140] m (fun k v x3=>mW w a c n L gP o gK m G N gW bs T T2 P1 k v x3)
  ·exact⟨0,vs,by omega,by omega,rfl,Qa<|by simpa using g0.o⟩
  clear g0;obtain⟨t,vs,hk,ht,rfl,h5⟩:=hrel;have x5:=Qa hk;clear hk
  by_cases x8:t<m
  ·have m2:(t:Int)<m:=(by omega);have x1:=RA L P1 t n L.length;have d9:=IA L P1 t n L.length;have⟨b9,d3,d6⟩:=qc (dF (YT L P1 t n L.length) (by rw[x1];omega) (by rw[x1];omega) (fun c hc=>by have:=d9 c hc;omega)) (NG (YT L P1 t n L.length) (by rw[x1];omega) (by rw[x1];omega) (fun c hc=>by have:=d9 c hc;omega))<|o8.o t x8;have⟨bb,x9⟩:=qy bs t (by rwa[y2.o]);have x0:=h5.o.mat.row t bb _ x9<|FG L P1 n m L.length t x8;have d1:=h5.o.mat.cellRow x9;have⟨ws,m9⟩:=qx<|YT L P1 t n L.length;rw[m9]at x1 b9 d3 d6 x0;have⟨ls,m3⟩:=qx<|Cr ws;rw[m3]at b9 d3 d6;have c9:=Qa (by rw[d3.o.1,x1]:ls.length=n);have m8:Qp wr 1 (some ⟨bb,0,none⟩) (QY ws).length (QM<|QY ws):=(by rw[XF,AI,x1];exact x0.sZ);have g9:=Qa fun(W:WD)(hW:Qb [] wr W)=>Qi2 (some ⟨bb,0,none⟩) n (QY ws) 17 (ls,0) W (m8.kZ hW) (by rw[XF,x1];omega) b9.o;rw[XF,x1]at g9;have d0:=h5.o.base.plan.cell (i:=0) (u:=.slice o m m) rfl;have⟨old,q0⟩:=qy vs t (by have:=h5.o.tops.len;omega);have d2:=h5.o.tops.aZ q0;have i1:=Qa (by have h1:=HO.o;have h2:=h5.o.top;have h3:=y7.o;omega:gP≠o∧gW≠o);have w3:t<m:=x8;clear m9 m3 x1 d9 x0 m8 q0 x9;go_wp2_with fail
   go_region_held3 (fun w'=>w'.cell? gP=some (.slice o m m)∧w'.cell? ⟨gW,t,none⟩=some (.slice (some ⟨bb,0,none⟩) n n))
    (first|exact⟨d0,d1⟩|exact⟨((Qc [o] w7).setCell (p:=⟨o,t,none⟩) (by simp) _).cZ (y5.cZ d0<|by simp) (by simp;exact i1.o.1),((Qc [o] w7).setCell (p:=⟨o,t,none⟩) (by simp) _).cZ (y5.cZ d1<|by simp) (by simp;exact i1.o.2)⟩|exact⟨y5.cZ d0<|by simp,y5.cZ d1<|by simp⟩)
    (first|(go_at_call 253;refine(g9.o _ (Qc [] wr).drew).mono ?_;rintro e w7⟨a7,c7,rfl,v1,t6,s7⟩;have y5:Qb [] wr w7:=(Qc [] wr).drew.trans t6 (by simp);have k0:=y5.cZ d2 (by simp);have k1:=(h5.o.tops.kept y5<|by simp).free t))
   rename_i hS;clear hS
   go_wp2
   go_roundg (m-(t+1))
   ·have h1:=h5.o.table y7.o HO.o y5 (ls:=ls) v1 s7 t;rw[eA T2 T t ls d6.o<|by rwa[y0.o.1]]at h1;exact⟨t+1,_,rfl,by omega,by simp,Qa h1⟩
   have:=x5.o;omega
  obtain rfl:m=t:=by omega
  have u3:¬(m:Int)<m:=by omega
  have h1:=h5.o;rw[←d5.o,dZ T2 T<|by rw[d5.o,y0.o.1],d5.o]at h1;have x7:=Qa h1;clear h1 h5 x5
  go_wp2
  go_roundg (4-(r+1))
  ·have e1:Ar L n m (r+1)=T2:=(by rw[Ar,d7.o,p2.o,o7.o]);have e2:Rj L n m (r+1)=P1:=(by rw[Rj,d7.o,p2.o]);exact⟨r+1,vs,rfl,by omega,by simp,Qa x7.o.tops,Qa (by rw[e1];exact x7.o.tabs.less (by intro x hx;simp at hx;rcases hx with rfl|rfl|rfl<;>simp)),Qa (by rw[e2];exact x7.o.picks),Qa x7.o.base⟩
  have:=Hk.o;omega
 obtain rfl:r=4:=by omega
 have ah:¬((4:Nat):Int)<4:=by omega
 have d0:=h9.o.plan.cell (i:=0) (u:=.slice o m m) rfl;have d1:=h9.o.plan.cell (i:=1) (u:=.slice gK G G) rfl;obtain⟨r0,r1,f0,f1,s0,s1⟩:=h9.o.res.six (.slice o m m)<|.slice gK G G;go_wp2_with fail;refine Q5 (v:=.tuple #[QZ o m m gK G G,(0:Int)]) (by simp[results,results204,go_sem,QZ,s0,s1]) rfl ?_;have q4:Qb [w.heap.size+1] wr ((wr.setCell ⟨w.heap.size+1,0,none⟩<|.slice o m m).setCell ⟨w.heap.size+1,1,none⟩<|.slice gK G G):=((Qc [w.heap.size+1] wr).setCell (p:=⟨w.heap.size+1,0,none⟩) (by simp) _).setCell (p:=⟨w.heap.size+1,1,none⟩) (by simp) _;have⟨WF,s3⟩:=qx<|(wr.setCell ⟨w.heap.size+1,0,none⟩<|.slice o m m).setCell ⟨w.heap.size+1,1,none⟩<|.slice gK G G;rw[s3]at q4 ⊢;rw[d7.o,o3.o];have v7:Qb [w.heap.size+1,o,gK] wr WF:=q4.mono (by intro x hx;simp at hx;simp[hx]);have v6:Qp WF 1 o m vs:=HR.o.sZ.kept q4 (by intro x hx hm;simp[fZ]at hx hm;have:=HO.o;omega);have hM:=HT.o.seesM v7 v6;have s2:Qp WF 1 gK G (QM<|QY P0):=by rw[AI];exact HP.o.sZ.kept q4 (by intro x hx hm;simp[fZ]at hx hm;have:=HO.o;omega)
 have b1:(T.map QY).length=m:=by rw[QH];exact y0.o.1
 have r9:(QY P0).length=G:=by rw[XF];exact q6.o
 refine⟨some ⟨o,0,none⟩,m,some ⟨gK,0,none⟩,G,by rw[b1,r9];rfl,⟨by rwa[b1],by rwa[r9],by rw[b1];omega,by rw[r9];omega,fun t ht=>?_⟩,h9.o.kept.trans q4 (by intro x hx;simp at hx;subst hx;exact .inr<|DW _),by rw[b1];exact Ql _,by rw[r9];exact Ql _⟩;obtain⟨u,hu,rfl⟩:=QB.1 ht;rw[XF,(y0.o.2 u hu).1];omega
