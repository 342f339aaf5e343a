import Derived.Test.YtickjpnkoppmgaaGreatDoorAv
set_option linter.all false
namespace Go.Proofs.YtickjpnkoppmgaaGreatDoor
open Go.Proofs.Tryz Go.RowKit K
def gG(n)(c:n<=1000000000):∃c:Array VL,c.toList=List.replicate n (.int .i64 0)/\∀W:WD,(Instr.makeSlice 51 n n).run prog W=.ok (.slice (some ⟨W.heap.size,0,none⟩) n n) (W.alloc<|.cells c 3):=by
 obtain⟨c,hi,h0,d,e⟩:=VR XZ;refine⟨madeCells (Value.int .i64 0).cells<|n*c.size,?_,fun W=>?_⟩
 ·rw[d,show(Value.int .i64 0).cells=#[Value.int .i64 0]from rfl,RW,Sv]
 have:=run_make (P:=prog) W 51 3 c (0:Int) XP hi h0 .i64 .i64 n n ox ox (by rw[e];omega) ox;simpa using this
def Qdp(n)(c:n<=1000000000):∃c:Array VL,c.toList=List.replicate n (.slice none 0 0)/\∀W:WD,(Instr.makeSlice 253 n n).run prog W=.ok (.slice (some ⟨W.heap.size,0,none⟩) n n) (W.alloc<|.cells c 51):=by
 obtain⟨c,hi,h0,d,e⟩:=VR IL;refine⟨madeCells (Value.slice none 0 0).cells<|n*c.size,?_,fun W=>?_⟩
 ·rw[d,show(Value.slice none 0 0).cells=#[Value.slice none 0 0]from rfl,RW,Sv]
 have:=run_make (P:=prog) W 253 51 c () No hi h0 .i64 .i64 n n ox ox (by rw[e];omega) ox;simpa using this
def Qh.at_any(W)(b n:Nat)(c z e)(d:c.toList=List.replicate n z)(g:n<=1000000000)(hb:W.heap[b]?=some (.cells c e (0,0))):Qh W e (.slice b n n) (List.replicate n z):=by
 have hs:c.size=n:=by rw[<-RS,d];simp
 refine⟨sx,.inr ⟨b,n,_,sx,Zv _,hb,sx,by simp only[maxLen];omega,by simp[hs],?_⟩⟩;rw[d];simp
def SR(W:WD)(m c:Nat)(i:VL)(h:WD):Prop:=
 ∃g d e,i=.pointer (some ⟨e,0,none⟩)/\Qh h 51 (.slice (some ⟨g,0,none⟩) m m) (List.replicate m (.slice none 0 0))/\Qh h 3 (.slice (some ⟨d,0,none⟩) c c) (List.replicate c (.int .i64 0))/\
  Qe h e 255 [.slice (some ⟨g,0,none⟩) m m,.slice (some ⟨d,0,none⟩) c c]/\Qb [] W h/\W<=g/\W<=d/\W<=e/\g≠e/\d≠e/\g≠d
def EU(W c m e i h gT d g)(q:i.toList=List.replicate m (.slice none 0 0))(p:h.toList=List.replicate e (.int .i64 0))(s:m<=1000000000)(o:e<=1000000000)(hk:Qb [] W c)(j:c.heap[gT]?=some (.cells i 51 (0,0)))(l:c.heap[d]?=some (.cells h 3 (0,0)))(n:c.heap[g]?=some (.cells #[.slice gT m m,.slice d e e] 255 (0,0)))(a:W.heap.size<=gT/\W.heap.size<=d/\W.heap.size<=g/\gT≠g/\d≠g/\gT≠d):SR W m e (.pointer g) c.drew:=
 ⟨gT,d,g,rfl,(Qh.at_any c gT m i _ _ q s j).drew,(Qh.at_any c d e h _ _ p o l).drew,n,hk.drew,a⟩
def Ji(W x d z p c r m)(e:W.heap.size=m):
 (((W.alloc<|.cells x p).alloc<|.cells d c).alloc<|.cells z r).heap[m]?=some (.cells x p (0,0))/\(((W.alloc<|.cells x p).alloc<|.cells d c).alloc<|.cells z r).heap[m+1]?=some (.cells d c (0,0))/\
 (((W.alloc<|.cells x p).alloc<|.cells d c).alloc<|.cells z r).heap[m+1+1]?=some (.cells z r (0,0))/\Qb [] W (((W.alloc<|.cells x p).alloc<|.cells d c).alloc<|.cells z r):=by
 subst e;have j:=Xq W<|.cells x p;have e:=Xq (W.alloc<|.cells x p)<|.cells d c;have g:=Xq ((W.alloc<|.cells x p).alloc<|.cells d c)<|.cells z r;have k1:Qb [] (W.alloc<|.cells x p) ((W.alloc<|.cells x p).alloc<|.cells d c):=(Qc _ _).alloc _;have k2:Qb [] ((W.alloc<|.cells x p).alloc<|.cells d c) (((W.alloc<|.cells x p).alloc<|.cells d c).alloc<|.cells z r):=(Qc _ _).alloc _;have h:(W.alloc<|.cells x p).heap.size=W.heap.size+1:=sx
 have i:((W.alloc<|.cells x p).alloc<|.cells d c).heap.size=W.heap.size+1+1:=sx
 rw[h]at e;rw[i]at g;exact⟨(k1.trans k2 sx).heap j sx,k2.heap e sx,g,(((Qc _ _).alloc _).alloc _).alloc _⟩
structure Am(w:WD)(aL:OA)(c n:Nat)(L:LN)(gP gT gK m G N:Nat)(wr:WD):Prop where
 lst:Qe wr w.heap.size 51 [.slice aL L.length c]
 res:Qe wr (w.heap.size+1) 255 [.slice none 0 0,.slice none 0 0]
 plan:Qe wr gP 255 [.slice gT m m,.slice gK G G]
 kept:Qb [] w wr
 big:N<=wr.heap.size
def Am.on{S w i c n L d gT j m g N wr l}(h:Am w i c n L d gT j m g N wr)(hk:Qb S wr l)(e:∀x∈S,w.heap.size+1<x/\x≠d):Am w i c n L d gT j m g N l:=
 ⟨h.lst.kept hk (fun d=>by have:=e _ d;omega),h.res.kept hk (fun d=>by have:=e _ d;omega),h.plan.kept hk (fun d=>by have:=e _ d;omega),h.kept.trans hk fun x d=>.inr (yx (e x d)),QS h.big hk.size⟩
structure Vq(wr:WD)(gW n m:Nat)(bs:LN)(rows:List LN):Prop where
 top:Qh wr 51 (.slice gW m m) ((bs.map fun b=>Value.slice (some ⟨b,0,none⟩) n n)++List.replicate (m-bs.length) (.slice none 0 0))
 len:bs.length=rows.length
 nd:bs.Nodup
 gt:∀b∈bs,gW<b
 row:∀(i b:Nat)(r:LN),bs[i]?=some b->rows[i]?=some r->Qh wr 3 (.slice (some ⟨b,0,none⟩) n n) (Qi r)
def Vq.on{S wr e c n m bs d}(h:Vq wr c n m bs d)(hk:Qb S wr e)(g:∀x∈S,x≠c/\x∉bs):Vq e c n m bs d:=
 ⟨h.top.kept hk (by intro x c d;simp[Qd,qo]at c;subst c;exact(g _ d).1 rfl),h.len,h.nd,h.gt,fun j b r e i=>(h.row j b r e i).kept hk (by intro x c d;simp[Qd,qo]at c;subst c;exact(g _ d).2 (QB e))⟩
def Vq.put{wr d n m bs c}(h:Vq wr d n m bs c){i b r}(hb:bs[i]?=some b)(q:c[i]?=some r)(s x:Nat):
 Vq (wr.setCell ⟨b,s,none⟩ (x:Int)) d n m bs (c.set i<|r.set s x):=by
 have hk:Qb [b] wr (wr.setCell ⟨b,s,none⟩ (x:Int)):=(Qc _ _).setCell (p:=⟨b,s,none⟩) sx _;refine⟨h.top.kept hk ?_,by rw[JO];exact h.len,h.nd,h.gt,fun j o t d c=>?_⟩
 ·intro u g e;simp[Qd,qo]at g e;have:=h.gt b<|QB hb;omega
 rw[Je]at c
 by_cases l:i=j
 ·subst l;rw[Qg rfl]at c
  split at c
  ·injection c with c;subst c;rw[hb]at d;injection d with d;subst d;rw[Bz];exact(h.row i b r hb q).put s _
  cases c
 rw[Qf l]at c;refine(h.row j o t d c).kept hk ?_;intro u g e;simp[Qd,qo]at g e;subst e;subst g;have c:=(Qy.1 hb);have e:=(Qy.1 d);rcases Nat.lt_or_gt_of_ne l with hlt|hlt
 ·exact JP.1 h.nd i j c.1 e.1 hlt<|c.2.trans e.2.symm
 exact JP.1 h.nd j i e.1 c.1 hlt<|e.2.trans c.2.symm
def Vq.cellRow{wr c n m bs d}(h:Vq wr c n m bs d){i b:Nat}(hb:bs[i]?=some b):wr.cell? ⟨c,i,none⟩=some (.slice b n n):=by have hi:=(Qy.1 hb).1;exact h.top.aZ (by rw[Xc<|by rwa[QH],Zz,hb];rfl)
def Vq.more{wr g c n m bs e r}(h:Vq wr c n m bs e)(d:bs.length<m)(hk:Qb [] wr g)(u:Qh g 3 (.slice wr.heap.size n n) (Qi r)):
 Vq (g.setCell ⟨c,bs.length,none⟩<|.slice wr.heap.size n n) c n m (bs++[wr.heap.size]) (e++[r]):=by
 have q:c<wr:=h.top.lt c (by simp[Qd,qo]);have s:∀b∈bs,b<wr.heap.size:=by intro b hb;obtain⟨j,hi⟩:=FT hb;have⟨d,l⟩:=qy e j (by rw[<-h.len];exact(Qy.1 hi).1);exact(h.row j b d hi l).lt b (by simp[Qd,qo])
 have o:=h.on hk sx;have t:Qb [c] g (g.setCell ⟨c,bs.length,none⟩<|.slice wr n n):=(Qc _ _).setCell (p:=⟨c,bs.length,none⟩) sx _;refine⟨?_,by simp[h.len],?_,?_,?_⟩
 ·have e:=o.top.put bs.length<|.slice wr n n;have i:((bs.map fun b=>Value.slice (some ⟨b,0,none⟩) n n)++List.replicate (m-bs.length) (Value.slice none 0 0)).set bs (Value.slice wr n n)=
   (((bs++[wr.heap.size]).map fun b=>Value.slice (some ⟨b,0,none⟩) n n)++List.replicate (m-(bs++[wr.heap.size]).length) (Value.slice none 0 0)):=by
   rw[MH,Qf (by rw[QH];omega),QH,ZM,(ox:m-bs.length=(m-(bs.length+1))+1),JB];simp
  rwa[i]at e
 ·rw[CC];refine⟨h.nd,sx,fun a ha b hb=>?_⟩;have:=s a ha;simp at hb;omega
 ·intro b hb;rcases Q4.1 hb with hb|hb
  ·exact h.gt b hb
  rwa[Zb.1 hb]
 intro j b d e i;have s:∀b d,c<b->Qh g 3 (.slice (some ⟨b,0,none⟩) n n) (Qi d)->Qh (g.setCell ⟨c,bs.length,none⟩<|.slice wr n n) 3 (.slice (some ⟨b,0,none⟩) n n) (Qi d):=by intro b d hb l;refine l.kept t ?_;intro c g c;simp[Qd,qo]at g c;omega
 rcases Xw j bs with hi|hi
 ·rw[Xc hi]at e;rw[Xc<|by rwa[<-h.len]]at i;exact s b d (h.gt b<|QB e)<|o.row j b d e i
 rw[Zm hi]at e;rw[Zm<|by rwa[<-h.len]]at i;have h0:j-bs.length=0:=by have:=(Qy.1 e).1;simp at this;omega
 rw[h0]at e;rw[<-h.len,h0]at i;simp at e i;subst e i;exact s _ _ q u
def VP(L P:LN)(n m i:Nat):List LN:=(List.range m).map fun c=>Jj L P c n i
def Gw(L P n m i t)(h:t<m):(VP L P n m i)[t]?=some (Jj L P t n i):=by simp[VP,Xl h]
def xL(L P n m i b x c)(hp:P.getD (i/50) 0=b)(hx:L[i]?=some x)(hc:(Jj L P b n i)[x]?=some c)(hb:b<m):(VP L P n m i).set b ((Jj L P b n i).set x<|c+1)=VP L P n m (i+1):=by
 rw[xE L P b n i x hp hx c hc];apply XB;intro t;rw[Je]
 by_cases q:t<m
 ·rw[Gw _ _ _ _ _ _ q,Gw _ _ _ _ _ _ q]
  by_cases o:b=t
  ·subst o;rw[Qg rfl,Qg (by simp[VP];exact q)]
  rw[Qf o,xF L P t n i<|by rwa[hp]]
 have y:(VP L P n m<|i+1)[t]?=none:=QU (by simp[VP];omega);have h2:(VP L P n m i)[t]?=none:=QU (by simp[VP];omega);rw[y,h2]
 split
 ·split
  ·rename_i h3 h4;simp[VP]at h4;omega
  rfl
 rfl
def xM(L P n m):VP L P n m 0=List.replicate m (List.replicate n 0):=by
 unfold VP;apply XB;intro d
 by_cases c:d<m
 ·simp[Xl c,c,xG]
 rw[QU zx,QU zx]
def qB(w:WD)(i:OA)(c n:Nat)(L:LN)(j gT g m e N:Nat)(k:Nat)(v:VL)(wr:WD):Prop:=
 ∃(d:Nat)(h:LV),k=m-d/\d<=m/\v=.int .i64 (d:Nat)/\Hid (h=d)/\Hid (Qh wr 51 (.slice gT m m) (h++List.replicate (m-d) (.slice none 0 0)))/\Hid (ZJ wr [w.heap.size+1,gT,g] h (((CY n m).take d).map Q0))/\
  Hid (Qh wr 3 (.slice g e e) (List.replicate e (.int .i64 0)))/\Hid (Am w i c n L j gT g m e N wr)
def qC(w:WD)(i:OA)(c n:Nat)(L:LN)(j gT g m e N t b:Nat)(h:LV)(row:LN)(k:Nat)(v:VL)(wr:WD):Prop:=
 ∃d:Nat,k=n-d/\d<=n/\v=.int .i64 (d:Nat)/\Hid (Qh wr 51 (.slice gT m m) (h++.slice b n n::List.replicate (m-(t+1)) (.slice none 0 0)))/\Hid (Qh wr 3 (.slice b n n) (Qi (row.take d++List.replicate (n-d) 0)))/\
  Hid (ZJ wr [w.heap.size+1,gT,g,b] h (((CY n m).take t).map Q0))/\Hid (Qh wr 3 (.slice g e e) (List.replicate e (.int .i64 0)))/\Hid (Am w i c n L j gT g m e N wr)
def zO(row:LN)(n s x)(c:row.length=n)(c:row[s]?=some x):(row.take s++List.replicate (n-s) 0).set s x=row.take (s+1)++List.replicate (n-(s+1)) 0:=by
 have hs:=(Qy.1 c).1;have d:(row.take s).length=s:=by rw[Zd];omega
 rw[MH,Qf ox,d,ZM,(ox:n-s=(n-(s+1))+1),JB,Zh,c,QR];rfl
def dR{w wr g:WD}{l:OA}{c n j gT e m d N b s x:Nat}{L row:LN}{i p:LV}{T}(y:row.length=n)(z:row[s]?=some x)(t:Qh wr 51 (.slice gT m m) (i++.slice b n n::p))(v:ZJ wr [w.heap.size+1,gT,e,b] i T)(u:Qh wr 3 (.slice e d d) (List.replicate d<|.int .i64 0))(q:Am w l c n L j gT e m d N wr)(hb:b≠gT/\b≠e/\b≠j/\w.heap.size+1<b)(h:Qb [b] wr g)(o:Qh g 3 (.slice b n n) ((Qi<|row.take s++List.replicate (n-s) 0).set s (x:Int))):
 Qh g 51 (.slice gT m m) (i++.slice b n n::p)/\Qh g 3 (.slice b n n) (Qi<|row.take (s+1)++List.replicate (n-(s+1)) 0)/\ZJ g [w.heap.size+1,gT,e,b] i T/\
  Qh g 3 (.slice e d d) (List.replicate d<|.int .i64 0)/\Am w l c n L j gT e m d N g:=by
 rw[<-Bz,zO row n s x y z]at o;exact⟨t.kept h (by intro g d e;simp[Qd,qo]at d e;omega),o,v.step (h.mono (by intro g d;simp at d;simp[d]))<|QQ.refl _ _,u.kept h (by intro g d e;simp[Qd,qo]at d e;omega),q.on h (by intro g d;simp at d;omega)⟩
def qD(w:WD)(h:OA)(c n:Nat)(L:LN)(i gT e m d N:Nat)(k:Nat)(v:VL)(wr:WD):Prop:=
 ∃(r:Nat)(g:LV),k=4-r/\r<=4/\v=.int .i64 (r:Nat)/\Hid (Qh wr 51 (.slice gT m m) g)/\Hid (ZJ wr [w.heap.size+1,gT,e] g ((AW L n m r).map Q0))/\
  Hid (Qh wr 3 (.slice e d d) (Qi (RG L n m r)))/\Hid (Am w h c n L i gT e m d N wr)
structure Y4(w:WD)(aL:OA)(c n:Nat)(L:LN)(gP gT gK m G N gW:Nat)(bs:LN)(vs:LV)(T:List LN)(P:LN)(rows:List LN)(wr:WD):Prop where
 base:Am w aL c n L gP gT gK m G N wr
 tops:Qh wr 51 (.slice gT m m) vs
 tabs:ZJ wr ([w.heap.size+1,gT,gK,gW]++bs) vs (T.map Q0)
 picks:Qh wr 3 (.slice gK G G) (Qi P)
 mat:Vq wr gW n m bs rows
 top:N<=gW
def Y4.write{w wr l c n e gT d m j N o L bs P q T g}(h:Y4 w l c n L e gT d m j N o bs q T P g wr)(t:gT<N/\d<N/\e<N/\w.heap.size+1<N){i b r}(hb:bs[i]?=some b)(t:g[i]?=some r)(s x:Nat):
 Y4 w l c n L e gT d m j N o bs q T P (g.set i<|r.set s x) (wr.setCell ⟨b,s,none⟩ (x:Int)):=by
 have hk:Qb [b] wr (wr.setCell ⟨b,s,none⟩ (x:Int)):=(Qc _ _).setCell (p:=⟨b,s,none⟩) sx _;have j:=QB hb;have:=h.mat.gt b j;have l:=h.top;exact⟨h.base.on hk (by intro g d;simp at d;omega),h.tops.kept hk (by intro g d e;simp[Qd,qo]at d e;omega),h.tabs.step (hk.mono (by intro g d;simp at d;subst d;simp[j]))<|QQ.refl _ _,h.picks.kept hk (by intro g d e;simp[Qd,qo]at d e;omega),h.mat.put hb t s x,l⟩
def Y4.pick{w wr:WD}{i:OA}{c n e gT d m g N l:Nat}{L bs P:LN}{q:LV}{T o:List LN}(h:Y4 w i c n L e gT d m g N l bs q T P o wr)(s:gT<N/\d<N/\e<N/\w.heap.size+1<N)(s:w.heap.size+1<gT/\w.heap.size+1<d/\w.heap.size+1<e/\gT≠e/\d≠e/\gT≠d)(j x:Nat):
 Y4 w i c n L e gT d m g N l bs q T (P.set j x) o (wr.setCell ⟨d,j,none⟩ (x:Int)):=by
 have hk:Qb [d] wr (wr.setCell ⟨d,j,none⟩ (x:Int)):=(Qc _ _).setCell (p:=⟨d,j,none⟩) sx _;have i:=h.top;have hp:=h.picks.put j (x:Int);rw[<-Bz]at hp;exact⟨h.base.on hk (by intro g d;simp at d;omega),h.tops.kept hk (by intro g d e;simp[Qd,qo]at d e;omega),h.tabs.step (hk.mono (by intro g d;simp at d;subst d;simp))<|QQ.refl _ _,hp,h.mat.on hk (by intro g d;simp at d;subst d;exact⟨ox,fun e=>by have:=h.mat.gt _ e;omega⟩),i⟩
def Y4.on0{w wr p:WD}{e:OA}{c n i gT g m d N j:Nat}{L bs P:LN}{o:LV}{T l:List LN}(h:Y4 w e c n L i gT g m d N j bs o T P l wr)(hk:Qb [] wr p):Y4 w e c n L i gT g m d N j bs o T P l p:=
 ⟨h.base.on hk sx,h.tops.kept hk sx,h.tabs.kZ hk,h.picks.kept hk sx,h.mat.on hk sx,h.top⟩
def Y4.more{w wr d:WD}{l:OA}{c n i gT g m j N e:Nat}{L bs P r:LN}{q:LV}{T o:List LN}(h:Y4 w l c n L i gT g m j N e bs q T P o wr)(s:gT<N/\g<N/\i<N/\w.heap.size+1<N)(s:bs.length<m)(hk:Qb [] wr d)
 (t:Qh d 3 (.slice wr.heap.size n n) (Qi r)):Y4 w l c n L i gT g m j N e (bs++[wr.heap.size]) q T P (o++[r]) (d.setCell ⟨e,bs.length,none⟩<|.slice wr.heap.size n n):=by
 have l:=h.on0 hk;have i:Qb [e] d (d.setCell ⟨e,bs.length,none⟩<|.slice wr n n):=(Qc _ _).setCell (p:=⟨e,bs.length,none⟩) sx _;have q:=h.top;refine⟨l.base.on i (by intro j d;simp at d;omega),l.tops.kept i (by intro j d o;simp[Qd,qo]at d o;omega),?_,l.picks.kept i (by intro j d o;simp[Qd,qo]at d o;omega),h.mat.more s hk t,q⟩;refine h.tabs.step ((hk.mono (T:=[w.heap.size+1,gT,g,e]++bs) sx).trans i (by intro j d;simp at d;subst d;left;simp)) ?_;intro j d;rw[<-QR]at d;rcases Q4.1 d with d|d
 ·exact .inl d
 exact .inr (by rw[Zb.1 d];exact Qk _)
def Y4.table{w wr l:WD}{q:OA}{c n g gT d m j N o:Nat}{L bs P ls:LN}{u:LV}{T s:List LN}{e:OA}{i:Nat}(h:Y4 w q c n L g gT d m j N o bs u T P s wr)(v:gT<N/\d<N/\g<N/\w.heap.size+1<N)
 (v:w.heap.size+1<gT/\w.heap.size+1<d/\w.heap.size+1<g/\gT≠g/\d≠g/\gT≠d)(hk:Qb [] wr l)(v:Qh l 3 (.slice e ls.length i) (Qi ls))(hf:Qu wr.heap.size (fZ e))(t:Nat):
 Y4 w q c n L g gT d m j N o bs (u.set t<|.slice e ls.length i) (T.set t ls) P s (l.setCell ⟨gT,t,none⟩<|.slice e ls.length i):=by
 have j:=h.on0 hk;have q:Qb [gT] l (l.setCell ⟨gT,t,none⟩<|.slice e ls i):=(Qc _ _).setCell (p:=⟨gT,t,none⟩) sx _;have x:=h.top;refine⟨j.base.on q (by intro u g;simp at g;omega),j.tops.put t _,?_,j.picks.kept q (by intro u g l;simp[Qd,qo]at g l;omega),j.mat.on q (by intro u g;simp at g;subst g;exact⟨ox,fun l=>by have:=h.mat.gt _ l;omega⟩),x⟩;have hlt:∀g∈[w.heap.size+1,gT,d,o]++bs,g<wr.heap.size:=by
  intro g d;have:=h.base.big;rcases Q4.1 d with d|d
  ·simp at d;have:=h.mat.top.lt o (by simp[Qd,qo]);omega
  obtain⟨l,hi⟩:=FT d;have⟨d,o⟩:=qy s l (by rw[<-h.mat.len];exact(Qy.1 hi).1);exact(h.mat.row l g d hi o).lt g (by simp[Qd,qo])
 have:=j.tabs.setRow (w0:=wr) (b:=e) (c:=i) (i:=t) (gT:=gT) (t:=Q0 ls) hlt (by rwa[XS,Bl]) hf sx;rw[XS]at this;rw[BU];exact this
def qE(w:WD)(g:OA)(c n:Nat)(L:LN)(i gT h m e N j:Nat)(l:LV)(T:List LN)(P:LN)(k:Nat)(v:VL)(wr:WD):Prop:=
 ∃(d:Nat)(bs:LN),k=m-d/\d<=m/\v=.int .i64 (d:Nat)/\Hid (bs=d)/\Hid (Y4 w g c n L i gT h m e N j bs l T P (List.replicate d (List.replicate n 0)) wr)
def qF(w:WD)(i:OA)(c n:Nat)(L:LN)(l gT j m e N o:Nat)(bs:LN)(p:LV)(T:List LN)(h g:LN)(k:Nat)(v:VL)(wr:WD):Prop:=
 ∃d:Nat,k=e-d/\d<=e/\v=.int .i64 (d:Nat)/\Hid (Y4 w i c n L l gT j m e N o bs p T (g.take d++h.drop d) (VP L g n m (min (50*d) L)) wr)
def qG(w:WD)(i:OA)(c n:Nat)(L:LN)(o gT l m e N p:Nat)(bs:LN)(q:LV)(T:List LN)(P h:LN)(j:Nat)(g:LN)(k:Nat)(v:VL)(wr:WD):Prop:=
 ∃d:Nat,k=g.length-d/\d<=g/\v=.int .i64 (d:Nat)/\Hid (Y4 w i c n L o gT l m e N p bs q T P (VP L h n m (50*j+d)) wr)
def qH(w:WD)(i:OA)(c n:Nat)(L:LN)(l gT j m g N o:Nat)(bs:LN)(T h:List LN)(e:LN)(k:Nat)(v:VL)(wr:WD):Prop:=
 ∃(d:Nat)(p:LV),k=m-d/\d<=m/\v=.int .i64 (d:Nat)/\Hid (Y4 w i c n L l gT j m g N o bs p (h.take d++T.drop d) e (VP L e n m L) wr)
set_option maxRecDepth 100000 in
set_option maxHeartbeats 4000000 in
def Qa0(a:OA)(c n:Nat)(L:LN)(w:WD)(h:Qp w 1 a L.length (Qi L))(hc:L.length<=c)(l7:c<=maxLen)(hm:Ym (Q0 L) (n:Int)=true)(hl:L.length<=20000):
 Calls prog 204 #[.slice a L.length c,(n:Int)] w (CH ((AW L n (YC (L.length:Int)).1 4).map Q0) (Q0<|RG L n (YC (L.length:Int)).1 4) 0 w):=by
 obtain⟨u5,m5,f2,n5,w8,l4⟩:=BZ hm;rw[XS]at n5 w8;obtain⟨m5,f2⟩:3<=n/\n<=258:=ox
 have j7:∀s∈L,s<n:=by intro s hs;have:=l4 (s:Int)<|QA.2 ⟨s,hs,rfl⟩;omega
 have hk:Qb [] w ((w.alloc<|.cells #[.slice a L c] 51).alloc<|.cells #[.slice none 0 0,.slice none 0 0] 255):=((Qc _ _).alloc _).alloc _;have hB:=Qx w [.slice a L c] 51;have hA:=Qx (w.alloc<|.cells #[.slice a L c] 51) [.slice none 0 0,.slice none 0 0] 255;rw[show(w.alloc<|.cells #[.slice a L c] 51).heap.size=w.heap.size+1 by simp]at hA;have r6:=hB.kept ((Qc [] _).alloc<|.cells #[.slice none 0 0,.slice none 0 0] 255) sx;have M:=KO a c (Q0 L) (n:Int) _ (by rw[XS,Bl];exact h.kZ hk) (by rw[XS];omega);rw[hm,XS]at M;obtain⟨t1,t2,t3⟩:=nI L n5;obtain⟨⟨m,e0⟩,a8⟩:∃R,YC (L:Int)=R:=⟨_,rfl⟩;rw[a8]at t1 t2 t3;have t1:e0=0:=t1;subst t1;have t2:2<=m:=t2;have t3:m<=6:=t3;have s2:=Qa a8;rw[a8];have t6:ZP L.length<=1000:=by unfold ZP;omega
 have n8:=Qa (by unfold ZP;omega:L<=50*ZP L);have⟨G,hG⟩:=qx<|ZP L;have⟨y6,n6⟩:=qb hG (fun W=>show Calls prog 211 #[L.length] W (fun e w'=>e=.returned (.int .i64 (G:Nat))/\W=w')by rw[<-hG];exact Og L W ox);rw[hG]at t6;have⟨W,hW⟩:=qx<|(w.alloc<|.cells #[.slice a L c] 51).alloc<|.cells #[.slice none 0 0,.slice none 0 0] 255;have h8:W.heap.size=w.heap.size+1+1:=by rw[<-hW];simp
 have b0:((w.alloc<|.cells #[.slice a L c] 51).alloc<|.cells #[.slice none 0 0,.slice none 0 0] 255).cell? w=some (.slice a L c):=r6.cq 0;have d0:W.cell? w=some (.slice a L c):=by rwa[<-hW]
 have HW:=Qa hW;rw[hW]at hk hA r6;have⟨HS,HK,HA,HB,g9⟩:=qe h hk hA r6 j7;obtain⟨ZT,l3,u8⟩:=Qdp m ox;obtain⟨ZK,l1,u6⟩:=gG G ox;have⟨y9,y8⟩:=qb l3 l1;clear h hk hA hB r6 l4 u5 hm j7 a8 hW l3 l1 hG;go_enter func204,ntmps204;go_wp2_with fail;go_fit M;rintro e w1⟨rfl,rfl⟩;clear M;go_wp2_with fail;go_fit(Qbk (L:Int) _);intro e w' hp;unfold IJ at hp;rw[s2.o]at hp;obtain⟨rfl,rfl⟩:=hp;rw[HW.o];clear b0 HW
 go_upto_region 4 with(fail)
 go_cut [8] (fun v8 wc=>SR W m G v8 wc)
 ·go_region_held3 (fun w'=>w'.cell? w=some (.slice a L c)) (first|(refine Qb.cZ (w:=W) (S:=[]) ?_ d0 sx;repeat (first|exact Qc _ _|refine Qb.drew ?_|refine Qb.alloc ?_ _|refine Qb.setCell ?_ (.inr (by simp;try omega)) _))) (first|(go_fit(n6.o _);rintro e w4⟨rfl,rfl⟩))
  all_goals
   go_wp2
   go_meet
   first
    |exact EU W _ m G ZT ZK _ _ _ y9.o y8.o ox ox (Ji W _ _ _ _ _ _ (w.heap.size+1+1) h8).2.2.2 (Ji W _ _ _ _ _ _ (w.heap.size+1+1) h8).1 (Ji W _ _ _ _ _ _ (w.heap.size+1+1) h8).2.1 (Ji W _ _ _ _ _ _ (w.heap.size+1+1) h8).2.2.1 ox
    |exact EU W _ m G ZT ZK _ _ _ y9.o y8.o ox ox (Ji W _ _ _ _ _ _ (w.heap.size+1+1) h8).2.2.2 (Ji W _ _ _ _ _ _ (w.heap.size+1+1) h8).1 (Ji W _ _ _ _ _ _ (w.heap.size+1+1) h8).2.2.1 (Ji W _ _ _ _ _ _ (w.heap.size+1+1) h8).2.1 ox
    |exact EU W _ m G ZT ZK _ _ _ y9.o y8.o ox ox (Ji W _ _ _ _ _ _ (w.heap.size+1+1) h8).2.2.2 (Ji W _ _ _ _ _ _ (w.heap.size+1+1) h8).2.1 (Ji W _ _ _ _ _ _ (w.heap.size+1+1) h8).1 (Ji W _ _ _ _ _ _ (w.heap.size+1+1) h8).2.2.1 ox
    |exact EU W _ m G ZT ZK _ _ _ y9.o y8.o ox ox (Ji W _ _ _ _ _ _ (w.heap.size+1+1) h8).2.2.2 (Ji W _ _ _ _ _ _ (w.heap.size+1+1) h8).2.1 (Ji W _ _ _ _ _ _ (w.heap.size+1+1) h8).2.2.1 (Ji W _ _ _ _ _ _ (w.heap.size+1+1) h8).1 ox
    |exact EU W _ m G ZT ZK _ _ _ y9.o y8.o ox ox (Ji W _ _ _ _ _ _ (w.heap.size+1+1) h8).2.2.2 (Ji W _ _ _ _ _ _ (w.heap.size+1+1) h8).2.2.1 (Ji W _ _ _ _ _ _ (w.heap.size+1+1) h8).1 (Ji W _ _ _ _ _ _ (w.heap.size+1+1) h8).2.1 ox
    |exact EU W _ m G ZT ZK _ _ _ y9.o y8.o ox ox (Ji W _ _ _ _ _ _ (w.heap.size+1+1) h8).2.2.2 (Ji W _ _ _ _ _ _ (w.heap.size+1+1) h8).2.2.1 (Ji W _ _ _ _ _ _ (w.heap.size+1+1) h8).2.1 (Ji W _ _ _ _ _ _ (w.heap.size+1+1) h8).1 ox
 obtain⟨o,gK,gP,rfl,z8,f3,q9,b5,z1,z2,z3,z4,z5,z6⟩:=hcut;rw[h8]at z1 z2 z3;have⟨HO,HZ⟩:=qb (ox:w.heap.size+1<o/\w.heap.size+1<gK/\w.heap.size+1<gP/\o≠gP/\gK≠gP/\o≠gK)<|show o<wc/\gK<wc/\gP<wc from⟨z8.lt o<|by simp[Qd,qo],f3.lt gK<|by simp[Qd,qo],q9.lt⟩;have⟨N,hN⟩:=qx wc.heap.size;have h9:=Qa<|show Am w a c n L gP o gK m G N wc from⟨HB.o.kept b5 sx,HA.o.kept b5 sx,q9,HK.o.trans b5 sx,ox⟩;rw[hN]at HZ;have⟨j2,x4⟩:=qb z8 f3;obtain⟨ZN,l2,u7⟩:=gG n ox;have⟨j6,g7⟩:=qb l2<|Qcc n m;have e0:=q9.cq 0 (u:=.slice o m m);clear z8 f3 b5 z1 z2 z3 z4 z5 z6 d0 u8 u6 l2 HA HB HK hN q9;go_wp2_with fail;clear e0
 go_loopg [41] m (fun k v wr=>qB w a c n L gP o gK m G N k v wr)
 ·exact⟨0,[],ox,ox,rfl,Qa rfl,Qa<|by simpa using j2.o,Qa<|ZJ.nil _ _,x4,h9⟩
 clear j2 x4 h9;obtain⟨t,vs,hk,ht,rfl,y1,HR,HT,x4,h9⟩:=hrel;have Hk:=Qa hk;clear hk
 by_cases hlt:t<m
 ·have u0:(t:Int)<m:=ox
  have j1:=Qa<|g7.o t hlt;have⟨row,x0⟩:=qx<|((List.range n).map fun s=>if s*m/n=t then 1 else 15);have o5:=Qa (by intro s hs;rw[<-x0];simp[Xl hs]: ∀s,s<n->row[s]?=some (if s*m/n=t then 1 else 15));rw[x0]at j1;have p3:=Qa (by rw[<-x0];simp:row=n);have q3:=HR.o;rw[(ox:m-t=(m-(t+1))+1),JB]at q3;have i7:=Qa q3;have e0:=h9.o.plan.cq 0 (u:=.slice o m m);have e1:=q3.aZ (j:=t) (u:=.slice none 0 0) (by rw[Zm (yx y1.o),y1.o,ZM];rfl);have e2:=q3.free t;have s7:=h9.o.big;have hz:=HZ.o.1;have p8:o<wr:=ox
  have s9:gP<wr:=yx HZ.o.2.2
  clear x0 q3;go_wp2_with fail
  go_region_held3 (fun w'=>w'.cell? gP=some (.slice o m m)) (first|exact e0|exact((Qc [] wr).drew.alloc _).cZ e0 sx|exact(((Qc [o] wr).drew.setCell (p:=⟨o,t,none⟩) sx _).alloc _).cZ e0 (by simp;have:=HO.o;omega)|exact(((Qc [o] wr).drew.alloc _).setCell (p:=⟨o,t,none⟩) sx _).cZ e0 (by simp;have:=HO.o;omega)) (fail)
  have⟨b,hb⟩:=qx wr.heap.size;have⟨W8,p5⟩:=qx<|((wr.setCell ⟨o,t,none⟩<|.slice (some ⟨wr.heap.size,0,none⟩) n n).alloc<|.cells ZN 3).drew;rw[p5];have b4:Qb [o] wr W8:=by rw[<-p5];exact(((Qc [o] wr).setCell (p:=⟨o,t,none⟩) sx _).alloc _).drew
  have z8:Qh W8 51 (.slice o m m) (vs++.slice (some ⟨b,0,none⟩) n n::List.replicate (m-(t+1)) (.slice none 0 0)):=by rw[<-p5,hb];have h:=(i7.o.put t<|.slice (some ⟨b,0,none⟩) n n).alloc<|.cells ZN 3;rw[MH,Qf (yx y1.o),y1.o,ZM,Vp]at h;exact h.drew
  have m6:Qh W8 3 (.slice (some ⟨b,0,none⟩) n n) (Qi<|row.take 0++List.replicate (n-0) 0):=by rw[DB,YU,Aw,show Qi (List.replicate n 0)=List.replicate n (.int .i64 0)by simp[Qi],<-p5,<-hb];have h:=Xq (wr.setCell ⟨o,t,none⟩<|.slice (some ⟨wr.heap.size,0,none⟩) n n)<|.cells ZN 3;rw[show(wr.setCell ⟨o,t,none⟩<|.slice (some ⟨wr.heap.size,0,none⟩) n n).heap.size=wr.heap.size by simp[World.setCell]]at h;exact(Qh.at_any _ wr n ZN _ _ j6.o ox h).drew
  have x9:b≠o/\b≠gK/\b≠gP/\w.heap.size+1<b:=by have h1:=HZ.o;have h2:=HO.o;omega
  have j9:ZJ W8 [w.heap.size+1,o,gK,b] vs (((CY n m).take t).map Q0):=HT.o.step (b4.mono (by intro x hx;simp at hx;simp[hx])) (by
   intro x hx;simp at hx;rcases hx with h|h|h|h
   ·exact .inl (by simp[h])
   ·exact .inl (by simp[h])
   ·exact .inl (by simp[h])
   exact .inr ox)
  have⟨j0,f7,j5,g5,f8,x6⟩:=qf z8 m6 j9 (x4.o.kept b4 (by intro x hx hm;simp[Qd,qo]at hx hm;have:=HO.o;omega)) (h9.o.on b4 (by intro x hx;simp at hx;have:=HO.o;omega)) x9;rw[hb];clear p5 b4 z8 m6 j9 hb HR i7 HT x4 h9 e0 e1 e2 s7 p8 s9 x9 hz
  go_wp2
  go_loopg [51] n (fun k v x3=>qC w a c n L gP o gK m G N t b vs row k v x3)
  ·exact⟨0,ox,ox,rfl,j0,f7,j5,g5,f8⟩
  clear j0 f7 j5 g5 f8;obtain⟨s,hk,hs,rfl,HR,HB,HT,x4,h9⟩:=hrel;have x5:=Qa hk;clear hk
  by_cases z7:s<n
  ·have m2:(s:Int)<n:=ox;have m8:s*m<=258*6:=Ga ox t3;have⟨pr,b7⟩:=qx<|s*m;have aj:(s:Int)*m=(pr:Int):=by rw[<-b7];push_cast;rfl
   have⟨q,hq⟩:=qx<|s*m/n;have u9:(pr:Int)/n=(q:Int):=(by rw[<-hq,b7];rfl);have ah:(pr:Int).tdiv (n:Int)=q:=(by rwa[FN ox]);have am:IntKind.i64.wrap (pr:Int)=(pr:Int):=Za _ ox;have ag:q<=258*6:=(by rw[<-hq];exact QS (EI _ _) m8);have aq:IntKind.i64.wrap (q:Int)=(q:Int):=Za _ ox;have af:((n:Int)==0)=false:=zx;have y4:=o5.o s z7;rw[hq]at y4;have e0:=h9.o.plan.cq 0 (u:=.slice o m m);have e1:=HR.o.aZ (j:=t) (u:=.slice (some ⟨b,0,none⟩) n n) (by rw[Zm (yx y1.o),y1.o,ZM];rfl);have e2:=HB.o.aZ (j:=s) (u:=.int .i64 0) (by
    have h:(row.take s++List.replicate (n-s) 0)[s]?=some 0:=(by have ht:(row.take s).length=s:=(by rw[Zd,p3.o];omega);rw[Zm ox,ht,ZM,V1,Qg ox]);exact BB h)
   have e3:=HB.o.free s;have n1:¬b=o:=x6.o.1;have n2:¬b=gP:=x6.o.2.2.1;have n3:¬o=b:=fun h=>n1 h.symm
   have n4:¬gP=b:=fun h=>n2 h.symm
   rw[b7]at m8;clear hq b7
   by_cases he:q=t
   ·have q1:((q:Int)==(t:Int))=true:=zx;rw[Qg he]at y4;have d4:=Qa y4;clear y4 he
    go_wp2
    go_roundg (n-(s+1))
    ·have e8:Qb [b] wr ((wr.setCell ⟨b,s,none⟩ (15:Int)).setCell ⟨b,s,none⟩ ((1:Nat):Int)):=((Qc _ _).setCell (p:=⟨b,s,none⟩) sx _).setCell (p:=⟨b,s,none⟩) sx _;have b8:=(HB.o.put s (15:Int)).put s ((1:Nat):Int);rw[List.set_set]at b8;obtain⟨r1,r2,r3,r4,r5⟩:=dR (x:=1) p3.o d4.o HR.o HT.o x4.o h9.o x6.o e8 b8;exact⟨s+1,rfl,ox,sx,Qa r1,Qa r2,Qa r3,Qa r4,Qa r5⟩
    have:=x5.o;omega
   have q1:((q:Int)==(t:Int))=false:=zx;rw[Qf he]at y4;have d4:=Qa y4;clear y4 he
   go_wp2
   go_roundg (n-(s+1))
   ·have e8:Qb [b] wr (wr.setCell ⟨b,s,none⟩ ((15:Nat):Int)):=(Qc _ _).setCell (p:=⟨b,s,none⟩) sx _;have b8:=HB.o.put s ((15:Nat):Int);obtain⟨r1,r2,r3,r4,r5⟩:=dR (x:=15) p3.o d4.o HR.o HT.o x4.o h9.o x6.o e8 b8;exact⟨s+1,rfl,ox,sx,Qa r1,Qa r2,Qa r3,Qa r4,Qa r5⟩
   have:=x5.o;omega
  obtain rfl:n=s:=ox
  have u1:¬(n:Int)<n:=ox
  go_wp2
  go_roundg (m-(t+1))
  ·have m7:=HB.o;rw[Q5 (by rw[p3.o];exact Qk _),ZM,Dz,XX,<-Bl]at m7;have x1:(Q0 row).length=n:=(by rw[XS,p3.o]);have ht:=(HT.o.less (F2:=[w.heap.size+1,o,gK]) (by intro x hx;simp at hx;rcases hx with rfl|rfl|rfl<;>simp)).snocA (b:=some ⟨b,0,none⟩) (c:=n) (t:=Q0 row) (by rwa[x1]) (by intro x hx hm;simp[fZ]at hx hm;have:=x6.o;omega);rw[x1]at ht;refine⟨t+1,vs++[.slice (some ⟨b,0,none⟩) n n],rfl,ox,sx,Qa (by simp;exact y1.o),Qa (by have:=HR.o;rw[QR];exact this),Qa ?_,x4,h9⟩;rwa[Zh,j1.o,XC]
  have:=Hk.o;omega
 obtain rfl:m=t:=ox
 have ae:¬(m:Int)<m:=ox
 have hR:=HR.o;rw[ZM,Dz,XX]at hR;have hT:=HT.o;rw[Q5 (by rw[(eW n m).1];exact Qk _)]at hT;have i8:=Qa hR;have j4:=Qa<|show ZJ wr [w.heap.size+1,o,gK] vs ((AW L n m 0).map Q0)from hT;have p2:=Qa (show Qh wr 3 (.slice gK G G) (Qi<|RG L n m 0)by
  have e:Qi (RG L n m 0)=List.replicate G (.int .i64 0):=by unfold RG;rw[y6.o];simp[Qi]
  rw[e];exact x4.o)
 have y7:=Qa (by have h1:=HZ.o;have h2:=HO.o;omega:o<N/\gK<N/\gP<N/\w.heap.size+1<N);clear hR hT HR HT x4 y1 Hk g7 j6 u7
 go_wp2
 go_loopg [78] 4 (fun k v wr=>qD w a c n L gP o gK m G N k v wr)
 ·exact⟨0,vs,ox,ox,rfl,i8,j4,p2,h9⟩
 clear i8 j4 p2 h9;obtain⟨r,vs,hk,hr,rfl,HR,HT,HP,h9⟩:=hrel;have Hk:=Qa hk;clear hk;have y0:=Qa<|Sq L n m ⟨m5,f2⟩ ox r;have⟨T,d8⟩:=qx<|AW L n m r;obtain⟨P0,r7⟩:∃P,RG L n m r=P:=⟨_,rfl⟩;have⟨d7,q6⟩:=qb d8 (by rw[<-r7,Pz,y6.o]:P0=G);rw[d8]at HT y0;rw[r7]at HP;have o4:=Qa r7;clear d8 r7
 by_cases hlt:r<4
 ·have u0:(r:Int)<4:=ox
  obtain⟨P1,y3⟩:∃P,Dh T L m=P:=⟨_,rfl⟩;have p2:=Qa y3;have q7:=Qa (by rw[<-y3,jS,y6.o]:P1=G);have o3:=Qa (by intro j hj;rw[<-y3];exact Qf3 T L m j (by rwa[y6.o]): ∀j,j<G->P1[j]?=some (Vw T (XF L j)<|m-1));clear y3;go_wp2_with ((at_make;refine Jp rfl _ _ 253 rfl 51 (.slice none 0 0) 24 No IL rfl .i64 .i64 _ _ m m rfl rfl rfl rfl (Qk _) ox (by simp only[maxLen];omega) ?_;intro w2 f4 p9));have⟨gW,l9⟩:=qx wr.heap.size;rw[l9]at f4 ⊢;have h5:=Qa (show Y4 w a c n L gP o gK m G N gW [] vs T P0 (List.replicate 0<|List.replicate n 0) w2 from
   ⟨h9.o.on p9 sx,HR.o.kept p9 sx,HT.o.step (p9.mono sx) (by
    intro x hx;simp at hx;rcases hx with h|h|h|h
    ·exact .inl (by simp[h])
    ·exact .inl (by simp[h])
    ·exact .inl (by simp[h])
    exact .inr ox),HP.o.kept p9 sx,⟨by simpa using f4,rfl,List.nodup_nil,sx,sx⟩,yx h9.o.big⟩)
  clear f4 p9 l9 h9 HR HT HP
  go_loopg [84] m (fun k v x3=>qE w a c n L gP o gK m G N gW vs T P0 k v x3)
  ·exact⟨0,[],ox,ox,rfl,Qa rfl,h5⟩
  clear h5;obtain⟨i,bs,hk,hi,rfl,y2,h5⟩:=hrel;have x5:=Qa hk;clear hk
  by_cases z7:i<m
  ·have m2:(i:Int)<m:=ox;have k2:=h5.o.mat.top.aZ (j:=i) (u:=.slice none 0 0) (by rw[Zm (by rw[QH,y2.o];exact Qk _),QH,y2.o,ZM,V1,Qg ox]);go_wp2_with ((at_make;refine Jp rfl _ _ 51 rfl 3 (0:Int) 8 XP XZ rfl .i64 .i64 _ _ n n rfl rfl rfl rfl (Qk _) ox (by simp only[maxLen];omega) ?_;intro w4 v1 e7;have k0:=e7.cZ k2 sx;have k1:=(h5.o.mat.top.kept e7 sx).free i))
   go_roundg (m-(i+1))
   ·have h1:=h5.o.more y7.o (by rwa[y2.o]) e7 (r:=List.replicate n 0) (by rw[show Qi (List.replicate n 0)=List.replicate n (.int .i64 0)by simp[Qi]];exact v1);rw[y2.o]at h1;refine⟨i+1,bs++[wr.heap.size],rfl,ox,sx,Qa (by simp;exact y2.o),Qa ?_⟩;rwa[FV]
   have:=x5.o;omega
  obtain rfl:m=i:=ox
  have u1:¬(m:Int)<m:=ox
  have x2:=h5.o;rw[<-xM L P1 n m]at x2;have f9:=Qa x2;have e1:=x2.base.plan.cq 1 (u:=.slice gK G G);clear x2 h5 x5;go_wp2_with fail;clear e1
  go_loopg [96] G (fun k v x3=>qF w a c n L gP o gK m G N gW bs vs T P0 P1 k v x3)
  ·exact⟨0,ox,ox,rfl,Qa<|by simpa using f9.o⟩
  clear f9;obtain⟨j,hk,hj,rfl,h5⟩:=hrel;have x5:=Qa hk;clear hk
  by_cases z7:j<G
  ·have m2:(j:Int)<G:=ox;have m1:50*j<L:=Qbg L j (by rwa[y6.o]);have e9:min (50*j) L=50*j:=ox;have x2:=h5.o;rw[e9]at x2;have⟨h5,j3,c9⟩:=qc x2 (x2.tabs.seesN (Qc _ _) x2.tops.sZ)<|HS.o.kZ x2.base.kept;have e0:=x2.base.lst.cq 0 (u:=.slice a L c);have e1:=x2.base.plan.cq 0 (u:=.slice o m m);have q5:=Qa fun(t:Nat)(ht:t<m)=>Qa1 w gP o m c n t j a L T wr e0 c9.o hc l7 e1 j3.o y0.o ht t3 m1 ox g9.o f2;have p8:(XF L j).length=min 50 (L.length-50*j):=KP L j;have e6:∀s∈XF L j,s<n:=fun s hs=>g9.o s (MD<|Rv hs)
   have e5:=Qbf L j;have⟨q8,p1⟩:=qb (o3.o j z7) fun(W:WD)(hW:Qp W 1 a L (Qi L))=>dU a c j (Qi L) W (by rwa[QF]) (by rwa[QF]) l7 (by rwa[QF]) (by rw[QF];omega);have m0:XF (Qi L) j=Qi (XF L j):=dZ _ _ _;unfold SY at p1;rw[m0,QF,QF]at p1;have⟨g,hg⟩:=qx<|XF L j;rw[hg]at q5 p8 e6 e5 q8 p1;have⟨c8,o0,o1,ab⟩:=qd (by intro t ht;obtain⟨row,x0⟩:∃r,T[t]?=some r:=⟨_,Qj<|by rwa[y0.o.1]⟩;rw[List.getD,x0];have:=NU row 20 (y0.o.2 row<|QB x0).2 g;simp only[V9];omega: ∀t,t<m->Jk (T.getD t []) g<=1000) e6 e5 e9;clear x2 m0 hg e6 e5 e9 e0 e1
   go_wp2
   go_loopg [15,16] (m-1) (fun k aa v x3=>∃t:Nat,k=m-t/\1<=t/\t<=m/\v=.int .i64 (t:Nat)/\aa=.int .i64 (Vw T g (t-1):Nat)/\wr=x3)
   ·exact⟨1,ox,ox,ox,rfl,rfl,rfl⟩
   obtain⟨t,hk,ak,ht,rfl,rfl,rfl⟩:=hrel;have p4:=Qa hk;clear hk;have l5:=Ny T g<|t-1
   by_cases x8:t<m
   ·have m3:(t:Int)<m:=ox;have p0:=Qa (show Vw T g t=if Jk (T.getD t []) g<Jk (T.getD (Vw T g<|t-1) []) g then t else Vw T g (t-1)by
     obtain⟨u,rfl⟩:∃u,t=u+1:=⟨t-1,ox⟩;rw[Vw,U3])
    have⟨best,p6⟩:=qx<|Vw T g<|t-1;rw[p6]at l5 p0 ⊢;have⟨c4,c5⟩:=qb (q5.o t x8) (q5.o best ox);have s5:=c8.o t x8;have s6:=c8.o best ox;have⟨x,hx⟩:=qx<|Jk (T.getD t []) g;have⟨y,hy⟩:=qx<|Jk (T.getD best []) g;rw[hx]at c4 s5 p0;rw[hy]at c5 s6 p0;clear p6 hx hy
    by_cases hb:x<y
    ·have q1:(x:Int)<y:=ox;have HB:=Qa (by rw[p0.o,Qg hb]:Vw T g t=t);go_wp2_with fail;go_fit c4.o;rintro e w6⟨rfl,rfl⟩;go_wp2_with fail;go_fit c5.o;rintro e w6⟨rfl,rfl⟩
     go_wp2
     go_roundg (m-(t+1))
     ·exact⟨t+1,rfl,ox,ox,sx,by rw[U3,HB.o],rfl⟩
     have:=p4.o;omega
    have q1:¬(x:Int)<y:=ox;have HB:=Qa (by rw[p0.o,Qf hb]:Vw T g t=best);go_wp2_with fail;go_fit c4.o;rintro e w6⟨rfl,rfl⟩;go_wp2_with fail;go_fit c5.o;rintro e w6⟨rfl,rfl⟩
    go_wp2
    go_roundg (m-(t+1))
    ·exact⟨t+1,rfl,ox,ox,sx,by rw[U3,HB.o],rfl⟩
    have:=p4.o;omega
   obtain rfl:m=t:=ox;have u3:¬(m:Int)<m:=ox;have⟨best,p6⟩:=qx<|Vw T g<|m-1;rw[p6]at l5 q8 ⊢;have b2:best<m:=ox;obtain⟨old,q0⟩:∃old,(Qi<|P1.take j++P0.drop j)[j]?=some old:=⟨_,Qj (by rw[QF,Qo,Zd,YN,q7.o,q6.o];omega)⟩;have e1:=h5.o.base.plan.cq 1 (u:=.slice gK G G);have e2:=h5.o.picks.aZ q0;have e3:=h5.o.picks.free j;have p7:=h5.o.pick y7.o HO.o j best;rw[iD P1 P0 j best q8.o (by rw[q6.o];omega)]at p7;have e4:=p7.base.lst.cq 0 (u:=.slice a L c);have g2:=Qa<|p1.o _<|HS.o.kZ p7.base.kept;have x7:=Qa p7;have n1:¬w=gK:=(yx HO.o);clear p6 q0 h5 q5 c8 p4 j3 c9 p1 p7;go_wp2_with fail;go_fit g2.o;rintro e w6⟨a6,c6,rfl,f5,rfl,l8⟩;have⟨W7,l0⟩:=qx<|wr.setCell ⟨gK,j,none⟩<|.int .i64 (best:Int);rw[l0]at f5 x7 ⊢;have o7:=Qa (show BO W7 ([w.heap.size+1,o,gK,gW]++bs) a6 g (Qi g)from fun w' hw=>f5.kept hw fun x hx hm=>by
    rw[l8]at hx;have h1:=HS.o.lt (by rw[QF];omega) x hx;have h2:=HO.o;have h3:=x7.o.top;have h4:=y7.o;rcases Q4.1 hm with hm|hm
    ·simp at hm;omega
    have:=x7.o.mat.gt x hm;omega)
   have⟨bb,x9⟩:=qy bs best (by rwa[y2.o]);have⟨x6,n7⟩:=qb x9 p8;have ad:g.length<=50:=ox;clear f5 l0 e1 e2 e3 e4 g2 l8 x9 p8
   go_wp2
   go_loopg [123] g (fun k v x3=>Hid (Qb ([w.heap.size+1,o,gK,gW]++bs) W7 x3)/\qG w a c n L gP o gK m G N gW bs vs T (P1.take (j+1)++P0.drop (j+1)) P1 j g k v x3)
   ·exact⟨Qa<|Qc _ _,0,ox,ox,rfl,Qa<|by simpa using x7.o⟩
   clear x7;obtain⟨g6,i,hk,hi,rfl,h5⟩:=hrel;have p4:=Qa hk;clear hk
   by_cases x8:i<g
   ·have m3:(i:Int)<g.length:=ox;have⟨x,hx⟩:=qy g i x8;have w9:=o0.o x<|QB hx;have au:(x:Int)<n:=ox;have j8:L[50*j+i]?=some x:=(by rwa[<-o1.o i x8]);obtain⟨b6,o6,rfl,l6⟩:=(o7.o _ g6.o).at (by rw[QF];omega);have e1:=l6 i _<|BB hx;have e2:=h5.o.mat.cellRow x6.o;have x0:=h5.o.mat.row best bb _ x6.o<|Gw L P1 n m (50*j+i) best b2;obtain⟨cv,b3⟩:∃cv,(Jj L P1 best n<|50*j+i)[x]?=some cv:=⟨_,Qj<|by rwa[R9]⟩;have ac:cv<=20000:=(yx (Ku L P1 best n (50*j+i) cv<|QB b3));have e3:=x0.aZ<|BB b3;have e4:=x0.free x;have y3:P1.getD ((50*j+i)/50) 0=best:=(by rw[show(50*j+i)/50=j by omega,List.getD,q8.o];rfl);have⟨o2,HW⟩:=qb (xL L P1 n m (50*j+i) best x cv y3 j8 b3 b2)<|h5.o.write y7.o x6.o (Gw L P1 n m (50*j+i) best b2) x<|cv+1;clear hx j8 l6 x0 b3 y3
    go_wp2
    go_roundg (g.length-(i+1))
    ·have h1:=HW.o;rw[o2.o]at h1;have t8:Qb ([w.heap.size+1,o,gK,gW]++bs) wr (wr.setCell ⟨bb,x,none⟩<|.int .i64 ((cv+1:Nat):Int)):=(Qc _ _).setCell (p:=⟨bb,x,none⟩) (.inl<|Q4.2<|.inr<|QB x6.o) _;exact⟨Qa<|g6.o.trans t8 fun y hy=>.inl hy,i+1,rfl,ox,sx,Qa h1⟩
    have:=p4.o;omega
   obtain rfl:i=g:=ox;have u4:¬(g:Int)<g.length:=ox
   go_wp2
   go_roundg (G-(j+1))
   ·have h1:=h5.o;rw[show 50*j+g.length=min (50*(j+1)) L by have:=n7.o;omega]at h1;exact⟨j+1,rfl,ox,sx,Qa h1⟩
   have:=x5.o;omega
  obtain rfl:G=j:=ox
  have u3:¬(G:Int)<G:=ox
  have h1:=h5.o;rw[show min (50*G) L.length=L.length by have:=n8.o;have:=y6.o;omega,<-q7.o,iC P1 P0<|by rw[q7.o,q6.o],q7.o]at h1;have⟨T2,a1⟩:=qx<|Fy L n m P1;have⟨o8,o9,d5,g0⟩:=qd a1 (by intro t ht;rw[<-a1];simp[Fy,Xl ht]: ∀t,t<m->T2[t]?=some (Db<|Jj L P1 t n L)) (by rw[<-a1];simp[Fy]:T2=m) h1;clear a1 h1 h5 x5
  go_wp2
  go_loopg [140] m (fun k v x3=>qH w a c n L gP o gK m G N gW bs T T2 P1 k v x3)
  ·exact⟨0,vs,ox,ox,rfl,Qa<|by simpa using g0.o⟩
  clear g0;obtain⟨t,vs,hk,ht,rfl,h5⟩:=hrel;have x5:=Qa hk;clear hk
  by_cases x8:t<m
  ·have m3:(t:Int)<m:=ox;have x1:=R9 L P1 t n L;have d9:=Ku L P1 t n L;have⟨b9,d3,d6⟩:=qc (gF (Jj L P1 t n L) (by rw[x1];omega) (by rw[x1];omega) (fun c hc=>by have:=d9 c hc;omega)) (OS (Jj L P1 t n L) (by rw[x1];omega) (by rw[x1];omega) (fun c hc=>by have:=d9 c hc;omega))<|o9.o t x8;have⟨bb,x9⟩:=qy bs t (by rwa[y2.o]);have x0:=h5.o.mat.row t bb _ x9<|Gw L P1 n m L t x8;have d1:=h5.o.mat.cellRow x9;have⟨ws,n0⟩:=qx<|Jj L P1 t n L;rw[n0]at x1 b9 d3 d6 x0;have⟨ls,m4⟩:=qx<|Db ws;rw[m4]at b9 d3 d6;have c9:=Qa (by rw[d3.o.1,x1]:ls=n);have m9:Qp wr 1 (some ⟨bb,0,none⟩) (Q0 ws).length (QO<|Q0 ws):=(by rw[XS,Bl,x1];exact x0.sZ);have i1:=Qa fun(W:WD)(hW:Qb [] wr W)=>Qlh (some ⟨bb,0,none⟩) n (Q0 ws) 17 (ls,0) W (m9.kZ hW) (by rw[XS,x1];omega) b9.o;rw[XS,x1]at i1;have d0:=h5.o.base.plan.cq 0 (u:=.slice o m m);have⟨old,q0⟩:=qy vs t (yx h5.o.tops.len);have d2:=h5.o.tops.aZ q0;have i6:=Qa (by have h1:=HO.o;have h2:=h5.o.top;have h3:=y7.o;omega:gP≠o/\gW≠o);have w5:t<m:=x8;clear n0 m4 x1 d9 x0 m9 q0 x9;go_wp2_with fail
   go_region_held3 (fun w'=>w'.cell? gP=some (.slice o m m)/\w'.cell? ⟨gW,t,none⟩=some (.slice (some ⟨bb,0,none⟩) n n))
    (first|exact⟨d0,d1⟩|exact⟨((Qc [o] w7).setCell (p:=⟨o,t,none⟩) sx _).cZ (y5.cZ d0 sx) (by simp;exact i6.o.1),((Qc [o] w7).setCell (p:=⟨o,t,none⟩) sx _).cZ (y5.cZ d1 sx) (by simp;exact i6.o.2)⟩|exact⟨y5.cZ d0 sx,y5.cZ d1 sx⟩)
    (first|(go_fit(i1.o _ (Qc [] wr).drew);rintro e w7⟨a7,c7,rfl,v6,t7,s8⟩;have y5:Qb [] wr w7:=(Qc [] wr).drew.trans t7 sx;have k0:=y5.cZ d2 sx;have k1:=(h5.o.tops.kept y5 sx).free t))
   rename_i hS;clear hS
   go_wp2
   go_roundg (m-(t+1))
   ·have h1:=h5.o.table y7.o HO.o y5 (ls:=ls) v6 s8 t;rw[iD T2 T t ls d6.o<|by rwa[y0.o.1]]at h1;exact⟨t+1,_,rfl,ox,sx,Qa h1⟩
   have:=x5.o;omega
  obtain rfl:m=t:=ox
  have u4:¬(m:Int)<m:=ox
  have h1:=h5.o;rw[<-d5.o,iC T2 T<|by rw[d5.o,y0.o.1],d5.o]at h1;have x7:=Qa h1;clear h1 h5 x5
  go_wp2
  go_roundg (4-(r+1))
  ·have e1:AW L n m (r+1)=T2:=(by rw[AW,d7.o,p2.o,o8.o]);have e2:RG L n m (r+1)=P1:=(by rw[RG,d7.o,p2.o]);exact⟨r+1,vs,rfl,ox,sx,Qa x7.o.tops,Qa (by rw[e1];exact x7.o.tabs.less (by intro x hx;simp at hx;rcases hx with rfl|rfl|rfl<;>simp)),Qa (by rw[e2];exact x7.o.picks),Qa x7.o.base⟩
  have:=Hk.o;omega
 obtain rfl:r=4:=ox
 have ai:¬((4:Nat):Int)<4:=ox
 have d0:=h9.o.plan.cq 0 (u:=.slice o m m);have d1:=h9.o.plan.cq 1 (u:=.slice gK G G);obtain⟨r0,r1,f0,f1,s0,s1⟩:=h9.o.res.six (.slice o m m)<|.slice gK G G;go_wp2_with fail;refine Zj (v:=.tuple #[ZL o m m gK G G,(0:Int)]) (by simp[results,results204,go_sem,ZL,s0,s1]) rfl ?_;have q4:Qb [w.heap.size+1] wr ((wr.setCell ⟨w.heap.size+1,0,none⟩<|.slice o m m).setCell ⟨w.heap.size+1,1,none⟩<|.slice gK G G):=((Qc [w.heap.size+1] wr).setCell (p:=⟨w.heap.size+1,0,none⟩) sx _).setCell (p:=⟨w.heap.size+1,1,none⟩) sx _;have⟨WF,s4⟩:=qx<|(wr.setCell ⟨w.heap.size+1,0,none⟩<|.slice o m m).setCell ⟨w.heap.size+1,1,none⟩<|.slice gK G G;rw[s4]at q4 ⊢;rw[d7.o,o4.o];have w3:Qb [w.heap.size+1,o,gK] wr WF:=q4.mono (by intro x hx;simp at hx;simp[hx]);have v7:Qp WF 1 o m vs:=HR.o.sZ.kept q4 (by intro x hx hm;simp[fZ]at hx hm;have:=HO.o;omega);have hM:=HT.o.seesM w3 v7;have s3:Qp WF 1 gK G (QO<|Q0 P0):=by rw[Bl];exact HP.o.sZ.kept q4 (by intro x hx hm;simp[fZ]at hx hm;have:=HO.o;omega)
 have b1:(T.map Q0).length=m:=by rw[QH];exact y0.o.1
 have r9:(Q0 P0).length=G:=by rw[XS];exact q6.o
 refine⟨some ⟨o,0,none⟩,m,some ⟨gK,0,none⟩,G,by rw[b1,r9];rfl,⟨by rwa[b1],by rwa[r9],by rw[b1];omega,by rw[r9];omega,fun t ht=>?_⟩,h9.o.kept.trans q4 (by intro x hx;simp at hx;subst hx;exact .inr<|DF _),by rw[b1];exact Qk _,by rw[r9];exact Qk _⟩;obtain⟨u,hu,rfl⟩:=QA.1 ht;rw[XS,(y0.o.2 u hu).1];omega
