import Derived.Deep.WholeRow
import Derived.StillTailTactics
import Derived.Test.YtickjpnkoppmgaaGreatDoorAd
import Derived.Test.YtickjpnkoppmgaaGreatDoorAe
set_option linter.all false
namespace Go.Proofs.YtickjpnkoppmgaaGreatDoor
open Go.Proofs.Tryz Go.RowKit K
def CM(s:BA)(i)(h:i<s.size):s.data.toList.getD i 0=s[i]'h:=by
 have c:i<s.data.toList:=by rwa[RS]
 rw[List.getD,Qj c];rfl
def Kq(s:BA)(i)(h:i<s.size):s.data.toList.take (i+1)=s.data.toList.take i++[s[i]'h]:=by
 have c:i<s.data.toList:=by rwa[RS]
 rw[Bd c];rfl
def Zr(s:BA):s.data.toList.length=s.size:=by rw[RS];rfl
def sJ(s:BA)(w0:WD)(k:Nat)(c:VL)(w:WD):Prop:=
 ∃d,1<=d/\d<=s.size+1/\k=s.size+1-d/\c=.int .i64 (d:Nat)/\(∀e,e+1<d->e+1<s.size->s.data.toList.getD e 0<s.data.toList.getD (e+1) 0)/\Qb [] w0 w
def Sh(s:BA)(w)(hs:s.size<=140737488351232):
 Calls prog 201 #[s] w (RK (.bool<|VB s) w):=by
 go_enter func201,ntmps201
 go_wp2
 go_loopg [3] (s.size+1-1) (fun k c wr=>sJ s w k c wr)
 ·exact⟨1,ox,ox,ox,rfl,fun g h=>ox,Qc _ _⟩
 obtain⟨c,d,hi,hk,rfl,l,d⟩:=hrel;have⟨o,j,i⟩:=qc hk l d
 by_cases hlt:c<s.size
 ·have:(c:Int)<s.size:=ox
  have:IntKind.i64.wrap ((c:Int)-1)=(c:Int)-1:=Za _ ox;have h0:(0:Int)<=c-1:=ox
  have:(1:Int)<=c:=ox
  have:((c:Int)-1).toNat=c-1:=ox
  have l:c-1<s.size:=ox
  have:(c:Int)-1<(s.size:Int):=ox
  by_cases d:s[c]<=s[c-1]
  ·have g1:decide (s[c].toNat<=s[c-1].toNat)=true:=XE<|UInt8.le_iff_toNat_le.1 d;have m:=Qdz s (c-1) (by rw[Zr];omega) (by rw[(ox:c-1+1=c),CM s _ l,CM s _ hlt];exact EQ.2 d);have n:=Qa m;go_wp2_with fail;go_quiet (fail)
   go_wp2
   go_ret;exact⟨by rw[n.o];rfl,i.o.drewN _⟩
  have g1:decide (s[c].toNat<=s[c-1].toNat)=false:=X0 fun h=>d<|UInt8.le_iff_toNat_le.2 h
  have m:=Qa<|UInt8.not_le.1 d;go_wp2_with fail;go_quiet (fail)
  go_wp2
  go_roundg (s.size+1-(c+1))
  ·refine⟨c+1,ox,ox,rfl,by go_num,fun g d n=>?_,i.o.drewN _⟩
   by_cases o:g+1<c
   ·exact j.o g o n
   obtain rfl:g=c-1:=ox;rw[(ox:c-1+1=c),CM s _ l,CM s _ hlt];exact m.o
  have:=o.o;omega
 go_wp2
 go_ret;refine⟨?_,i.o⟩
 by_cases hz:s.size=0
 ·have:s.data.toList=[]:=J4 (by rwa[Zr]);rw[this];simp[VB,Xk,this]
 have hne:s.data.toList≠[]:=fun h=>hz (by rw[<-Zr,h];rfl)
 rw[Qd0 _ hne fun g d=>j.o g (by rw[Zr]at d;omega) (by rw[Zr]at d;omega)];have c:¬s.data=#[]:=by simpa using hne
 simp[Xk,c]
def Md(l p)(h:p<l.length):(Qn l)[p]?=some (.int .u8 ((l.getD p 0).toNat:Nat)):=by simp[Qn,List.getD,Qj h]
def Yi(l):(Qn l).length=l.length:=by simp[Qn]
def oD(l):∀v∈Qn l,v.oneCell'=true:=by intro v c;simp only[Qn,QA]at c;obtain⟨b,-,rfl⟩:=c;rfl
def Gh:(prog.info? 5).map (·.size)=some 1:=by kernel_rfl
def Qec(g c p:Nat)(l w)(hp:p<l.length)(hc:l.length<=c)(hl:l.length<=140737488351232)(h:QJ w g (Qn l)):
 Calls prog 202 #[.slice g l.length c,p] w fun e w'=>e=.returned (.int .u8 ((l.getD p 0).toNat:Nat))/\QJ w' g (Qn<|K.turned l p)/\Qb [g] w w':=by
 have c0:=h.cell<|Md l p hp;have y7:IntKind.i64.wrap ((p:Int)+1)=(p:Int)+1:=Za _ ox;obtain⟨h0,h1,h2,h3,h4,h5⟩:(0:Int)<=p+1/\((p:Int)+1).toNat=p+1/\(p:Int)<=c/\(p:Int)+1<=(c:Int)/\(1:Int)<=p+1/\(p:Int)<l.length:=ox
 have y0:∀v∈(Qn l).take p,v.oneCell'=true:=fun v hv=>oD l v<|Rv hv
 have x4:((Qn l).take p).length=p:=by rw[Zd,Yi];omega
 have x8:1+((Qn l).take p).length<=(Qn l).length:=by rw[x4,Yi];omega
 have y1:∀j v,((Qn l).take p)[j]?=some v->w.cell? ⟨g,j,none⟩=some v:=fun j v hj=>h.cell (by
  rw[BT]at hj
  split at hj
  ·exact hj
  cases hj)
 have x9:=mH (fun b:UInt8=>Value.int .u8 (b.toNat:Int)) l p hp;have⟨HB,x7,x5,x0,y2,x6⟩:=qf h y0 x4 x8 y1 x9
 by_cases y3:c=1
 ·obtain rfl:p=0:=ox
  have y5:l.length=1:=ox
  subst y3;have y6:IntKind.i64.wrap 1=1:=dx
  go_enter func202,ntmps202;go_wp2_with fail;have h9:0<((Qn l).take 0).length->(some ⟨g,0,none⟩:OA)=some ⟨g,1,none⟩/\∃ad:Addr,(some ⟨g,0,none⟩:OA)=some ad/\∀j v,((Qn l).take 0)[j]?=some v->w.cell? (ad.add j)=some v:=
   fun h=>by simp at h
  have x2:=Qa h9
  go_region_held3 (fun w'=>True) (exact trivial) ((refine Ma rfl _ _ 88 88 rfl 5 Xo Gh g g 0 0 0 1 rfl rfl g 1 (Qn l) ((Qn l).take 0) (HB.o.kept (Qc [] w).drew sx) (by rw[x5.o];rfl) x2.o x0.o x7.o ?_;intro w1 q x3))
  have h8:(splice (Qn l) 1<|(Qn l).take 0).length=l.length:=by rw[OL _ _ _ x0.o,Yi]
  have d0:=q.cell<|Qj (by rw[h8];omega:0<(splice (Qn l) 1<|(Qn l).take 0).length);have f0:=q.free (by rw[h8];omega:0<(splice (Qn l) 1<|(Qn l).take 0).length);have o:=q.set 0 (.int .u8 ((l.getD 0 0).toNat:Nat)) (by rw[h8];omega);have o:QJ (w1.setCell ⟨g,0,none⟩<|.int .u8 ((l.getD 0 0).toNat:Nat)) g (Qn<|K.turned l 0):=by have e:=x6.o;have e2:splice (Qn l) 1 ((Qn l).take 0)=splice (l.map fun b:UInt8=>Value.int .u8 (b.toNat:Int)) 1 ((l.map fun b:UInt8=>Value.int .u8 (b.toNat:Int)).take 0):=rfl;rw[e2]at o;rwa[Qn,<-e]
  have y:(l.getD 0 0)=l[0]:=by rw[List.getD,Qj hp];rfl
  rw[y]at o;have⟨x1,HD⟩:=qb o y
  go_wp2
  go_ret;exact⟨by first|rfl|(rw[HD.o];rfl),x1.o,((Qc [g] w).drew.trans x3 fun x hx=>.inl hx).setCell sx _⟩
 have y4:(1:Int)<c:=ox
 go_enter func202,ntmps202;go_wp2_with fail;have h9:0<((Qn l).take p).length->(some ⟨g,1,none⟩:OA)=some ⟨g,1,none⟩/\∃ad:Addr,(some ⟨g,0,none⟩:OA)=some ad/\∀j v,((Qn l).take p)[j]?=some v->w.cell? (ad.add j)=some v:=
  fun _=>⟨rfl,_,rfl,fun j v hj=>by rw[Jc,Zu];exact y2.o j v hj⟩
 have x2:=Qa h9
 go_region_held3 (fun w'=>True) (exact trivial)
  (first
    |(refine Ma rfl _ _ 88 88 rfl 5 Xo Gh (some ⟨g,1,none⟩) g p (c-1) p c rfl rfl g 1 (Qn l) ((Qn l).take p) (HB.o.kept (Qc [] w).drew sx) (by rw[x5.o];exact(Nat.min_self p).symm) x2.o x0.o x7.o ?_;intro w1 q x3))
 have h8:(splice (Qn l) 1<|(Qn l).take p).length=l.length:=by rw[OL _ _ _ x0.o,Yi]
 have d0:=q.cell<|Qj (by rw[h8];omega:0<(splice (Qn l) 1<|(Qn l).take p).length);have f0:=q.free (by rw[h8];omega:0<(splice (Qn l) 1<|(Qn l).take p).length);have o:=q.set 0 (.int .u8 ((l.getD p 0).toNat:Nat)) (by rw[h8];omega);have o:QJ (w1.setCell ⟨g,0,none⟩<|.int .u8 ((l.getD p 0).toNat:Nat)) g (Qn<|K.turned l p):=by have e:=x6.o;have e2:splice (Qn l) 1 ((Qn l).take p)=splice (l.map fun b:UInt8=>Value.int .u8 (b.toNat:Int)) 1 ((l.map fun b:UInt8=>Value.int .u8 (b.toNat:Int)).take p):=rfl;rw[e2]at o;rwa[Qn,<-e]
 have y:(l.getD p 0)=l[p]:=by rw[List.getD,Qj hp];rfl
 rw[y]at o;have⟨x1,HD⟩:=qb o y
 go_wp2
 go_ret;exact⟨by first|rfl|(rw[HD.o];rfl),x1.o,((Qc [g] w).drew.trans x3 fun x hx=>.inl hx).setCell sx _⟩
def tX(w):(zeroValue 295).run prog w=.ok (.agg<|Array.replicate 256<|.bool false) w:=
 (zero_of_info (P:=prog) (t:=295) (v:=.agg<|Array.replicate 256<|.bool false) (n:=256) kx).1 w
def VA(l:LU):LV:=(List.range 256).map fun b=>.bool (decide (UInt8.ofNat b∈l))
def GR(l):(VA l).length=256:=by simp[VA]
def Qdr:(Array.replicate 256<|Value.bool false)=(VA []).toArray:=by
 apply Array.ext
 ·simp[VA]
 intro c c c;simp[VA]
def Le(l b)(h:b<256):(VA l)[b]?=some (.bool<|decide<|UInt8.ofNat b∈l):=by simp[VA,Xl h]
def Qds(l b):(VA l).set b.toNat (.bool true)=VA (l++[b]):=by
 apply XB;intro c;rw[Je];have hb:=Rc b
 by_cases hi:c<256
 ·rw[Le _ _ hi,Le _ _ hi,GR]
  by_cases d:b.toNat=c
  ·rw[Qg d,Qg ox];subst d;simp
  rw[Qf d];have:¬UInt8.ofNat c=b:=fun e=>d (by rw[<-e,U6];omega)
  simp[this]
 have d:(VA l)[c]?=none:=QU (by rw[GR];omega);have e:(VA<|l++[b])[c]?=none:=QU (by rw[GR];omega);rw[d,e,Qf ox]
def sK(s:BA)(w0:WD)(g:Nat)(k:Nat)(c:VL)(w:WD):Prop:=
 ∃d,d<=s.size/\k=s.size-d/\c=.int .i64 (d:Nat)/\QJ w g (VA (s.data.toList.take d))/\Qb [] w0 w
def sL(s:BA)(w0:WD)(g:Nat)(k:Nat)(v c:VL)(w:WD):Prop:=
 ∃d,d<=256/\k=256-d/\c=.int .i64 (d:Nat)/\Qh w 5 v (Qn (JZ s d))/\QJ w g (VA s)/\Qb [] w0 w/\Qu w0 (Qd v)/\g∉Qd v
def Qix(s:BA)(w)(hs:s.size<=140737488351232):
 Calls prog 161 #[s] w (RK (.string ⟨(QM s).toArray⟩) w):=by
 have hz:=tX;go_enter func161,ntmps161;go_wp2_with fail;rw[Qdr];have g:=QJ.new w (VA []) 295;have i:Qb [] w (w.alloc<|.cells (VA []).toArray 295):=(Qc _ _).alloc _;generalize w.alloc (.cells (VA []).toArray 295)=W0 at g i ⊢;have⟨h,c⟩:=qx w.heap.size;rw[c]at g ⊢;have n:=Qa c
 go_loopg [9] s.size (fun k l wr=>sK s w h k l wr)
 ·exact⟨0,ox,ox,rfl,g,i⟩
 obtain⟨c,hi,hk,rfl,hb,d⟩:=hrel;have⟨o,j⟩:=qb hk d
 by_cases hlt:c<s.size
 ·have v:(c:Int)<s.size:=ox
  have i:=Rc<|s[c]'hlt;have c0:=hb.cell<|Le _ (s[c]'hlt).toNat i;have:=hb.free (i:=(s[c]'hlt).toNat) (by rwa[GR]);have g:=hb.set (s[c]'hlt).toNat (.bool true) (by rwa[GR]);rw[Qds,<-Kq s c hlt]at g;have m:=Qa g
  go_wp2
  go_roundg (s.size-(c+1))
  ·exact⟨c+1,ox,rfl,by go_num,m.o,j.o.setCell (.inr (by rw[n.o];exact Qk _)) _⟩
  have:=o.o;omega
 obtain rfl:c=s.size:=ox
 rw[Q5 (by rw[Zr];exact Qk _)]at hb;have g:=Qa hb;go_wp2_with fail;have t:=Qh.empty wr 5;have p:=g.o.kept ((Qc [] wr).alloc<|.cells #[] 5) sx;have q:=j.o.alloc<|.cells #[] 5;have m:Qu w (Qd<|.slice (some ⟨wr.heap.size,0,none⟩) 0 0):=by intro c i;simp[Qd,qo]at i;have:=j.o.size;omega
 have n:h∉Qd (.slice (some ⟨wr.heap.size,0,none⟩) 0 0):=by have:=g.o.lt;simp[Qd,qo];omega
 generalize wr.alloc (.cells #[] 5)=W1 at t p q ⊢
 go_loopg [5,18] 256 (fun k c l wr=>sL s w h k c l wr)
 ·exact⟨0,ox,ox,rfl,t,p,q,m,n⟩
 obtain⟨c,i,hk,rfl,o,hb,d,m,n⟩:=hrel;have u:=Qa hk;have x:=oI s c
 by_cases hlt:c<256
 ·have v:(c:Int)<256:=ox
  have c0:=hb.cell<|Le _ c hlt;have:IntKind.u8.wrap (c:Int)=(c:Int):=by rw[Cz];omega
  have⟨g,j,q,t⟩:=qd hb d m n
  by_cases i:UInt8.ofNat c∈s.data.toList
  ·have l:=oK s c i;have y:(Qn<|JZ s c).length+1<=maxLen:=(by rw[Yi];simp only[maxLen];omega);have z:((Qn<|JZ s c).length+1)*1<=140737488355328:=(by rw[Yi];omega);rw[XE i]at c0;have p:=Qa l;go_wp2_with ((at_builtin;refine Vn _ rfl _ _ 88 rfl 5 (.int .u8 0) 1 Xo Jg rfl _ _ [.int .u8 (c:Int)] 1 rfl rfl rfl rfl (by simp[Value.oneCell']) o y z ?_;intro a5 B C A x v))
   go_roundg (256-(c+1))
   ·refine⟨c+1,ox,rfl,by go_num,?_,g.o.kept x t.o,j.o.new x q.o,q.o.grow v j.o.size,?_⟩
    ·rw[p.o,show Qn (JZ s c++[UInt8.ofNat c])=Qn (JZ s c)++[.int .u8 (c:Int)]by simp[Qn,U6,XH hlt]];exact A
    intro x;rcases v h x with h|h
    ·exact t.o h
    have:=g.o.lt;omega
   have:=u.o;omega
  have l:=oJ s c i;rw[X0 i]at c0;have p:=Qa l
  go_wp2
  go_roundg (256-(c+1))
  ·exact⟨c+1,ox,rfl,by go_num,by rwa[p.o],g.o,j.o,q.o,t.o⟩
  have:=u.o;omega
 obtain rfl:c=256:=ox
 have:=Qh.text o;have j:=Qa d
 go_wp2
 go_ret;exact⟨rfl,j.o⟩
def Qi(l:LN):LV:=l.map fun c:Nat=>.int .i64 (c:Int)
def QF(l):(Qi l).length=l.length:=by simp[Qi]
def DV(a b):Qi (a++b)=Qi a++Qi b:=by simp[Qi]
def Dd(l):Qi l=QO (l.map fun n:Nat=>(n:Int)):=by simp[Qi,QO]
def Y8(p:LN × Nat)(w:WD)(e:Ending)(w':WD):Prop:=
 ∃a c,e=.returned (.tuple #[.slice a p.1.length c,(p.2:Nat)])/\Qh w' 3 (.slice a p.1.length c) (Qi p.1)/\Qb [] w w'/\Qu w (fZ a)
def Y8.err{w w' e n}(c:e=.returned (.tuple #[.slice none 0 0,(n:Nat)]))(hk:Qb [] w w'):Y8 ([],n) w e w':=
 ⟨none,0,c,Qh.nil _ _,hk,by simp[Qu,fZ]⟩
def Y8.ok{w w' e l a c}(d:e=.returned (.tuple #[.slice a l.length c,(0:Int)]))(g:Qh w' 3 (.slice a l.length c) (Qi l))(hk:Qb [] w w')(hf:Qu w.heap.size (Qd<|.slice a l.length c)):Y8 (l,0) w e w':=
 ⟨a,c,d,g,hk,by rwa[<-X7 a l c]⟩
def Qh.fZ{w e a n c xs}(h:Qh w e (.slice a n c) xs):Qd (.slice a n c)=fZ a:=X7 a n c
def Qb7(l:LU)(b p)(hp:p<l.length)(h:∀j,j<p->l.getD j 0≠b)(c:l.getD p 0=b):l.idxOf b=p:=by
 have e:l=l.take p++l[p]::l.drop (p+1):=by rw[<-Xf hp,V3]
 have hb:l[p]=b:=by rwa[List.getD,Qj hp]at c
 have c:b∉l.take p:=by intro c;obtain⟨j,g,d⟩:=Th c;rw[Zd]at g;refine h j ox ?_;rw[List.getD,Qj (ox:j<l)];rwa[List.getElem_take]at d
 rw[e,List.idxOf_append,Qf c,Zd,hb,List.idxOf_cons_self];omega
def Qb9(l:LU)(b)(g:∀j,j<l.length->l.getD j 0≠b):l.idxOf b=l.length:=by apply List.idxOf_eq_length;intro e;obtain⟨j,c,d⟩:=Th e;refine g j c ?_;rwa[List.getD,Qj c]
def iI(g c p n l w)(j:l.length=n)(hp:p<n)(d:n<=c)(i:n<=140737488351232)(h:QJ w g (Qn l)):
 Calls prog 202 #[.slice g n c,p] w fun e w'=>e=.returned (.int .u8 ((l.getD p 0).toNat:Nat))/\QJ w' g (Qn<|K.turned l p)/\Qb [g] w w':=by
 subst j;exact Qec g c p l w hp d i h
def sH(s t:BA)(w0:WD)(g:Nat)(k:Nat)(v c:VL)(w:WD):Prop:=
 ∃d e out,d<=s.size/\k=s.size-d/\c=.int .i64 (d:Nat)/\Qh w 3 v (Qi out)/\out.length=d/\QJ w g (Qn e)/\e=t.size/\
  K.front t.data.toList s.data.toList=(K.front e (s.data.toList.drop d)).map (out++ ·)/\Qb [] w0 w/\Qu w0 (g::Qd v)/\g∉Qd v
def sI(b:UInt8)(e:LU)(w0:WD)(k:Nat)(c:VL)(w:WD):Prop:=
 ∃d h,d<=e.length/\k=e.length-d/\c=.int .i64 (d:Nat)/\(∀g,g<d->e.getD g 0≠b)/\w=w0.drewN h
set_option maxHeartbeats 1000000 in
def Qik(s t:BA)(w)(hs:s.size<=1000000)(c:t.size<=1000000000):
 Calls prog 162 #[s,t] w (Y8 (AJ s.data.toList t.data.toList) w):=by
 go_enter func162,ntmps162;go_wp2_with fail;go_fit(Sh t _ ox);rintro O c⟨rfl,d⟩;have C:=Qa d;clear d;rcases J1 (VB t.data.toList)with m|m
 ·have q:AJ s.data.toList t.data.toList=match K.front t.data.toList s.data.toList with|none=>([],60)|some l=>(l,0):=by unfold AJ;rw[m];rfl
  have z:=Qa q;rw[m];obtain⟨cap,g,H⟩:=NC c t;have d:=QJ.bytes c.drew t cap H;have j:Qb [] c (c.drew.alloc<|.cells (bytesRow t cap) 5 ((bytesRow t cap).size,(bytesRow t cap).size+1)):=(Qc _ _).drew.alloc _;have e:(c.drew.alloc<|.cells (bytesRow t cap) 5 ((bytesRow t cap).size,(bytesRow t cap).size+1)).heap.size=c.heap.size+1:=sx
  have o:c.drew.heap.size=c.heap.size:=rfl;rw[o]at d;generalize c.drew.alloc (.cells (bytesRow t cap) 5 ((bytesRow t cap).size,(bytesRow t cap).size+1))=W0 at d j g e;have⟨i,h⟩:=qx c.heap.size;rw[h]at d g e;have⟨u,c,v,n⟩:=qd h d j e;clear q m d j e o h;go_wp2_with ((at_make;refine Jp rfl _ _ 51 rfl 3 (0:Int) 8 XP XZ rfl .i64 .i64 _ _ 0 s.size rfl rfl rfl rfl ox ox (by simp only[maxLen];omega) ?_;intro e L d));have p:=Qa (c.o.kept d sx);have:i<W0:=yx n.o
  have o:Qb [] w e:=(C.o.new v.o<|by simp[Qu]).new d (by simp[Qu]);have j:Qu w (i::Qd (.slice W0 0 s.size)):=by
   have h:=C.o.size;have:=u.o;intro e c;simp[Qd,qo]at c;rcases c with rfl|rfl
   ·omega
   have:=n.o;omega
  have n:i∉Qd (.slice W0 0 s.size):=by simp[Qd,qo];omega
  have⟨u,x,v⟩:=qc j n o;clear d o j n g
  go_loopg [7,20] s.size (fun k g d wr=>sH s t w i k g d wr)
  ·exact⟨0,t.data.toList,[],ox,ox,rfl,L,rfl,p.o,Zr t,sx,v.o,u.o,x.o⟩
  obtain⟨g,j,out,hi,hk,rfl,J,I,hb,A,o,u,n,E⟩:=hrel;have⟨R,B,p,F,G,v,y,x⟩:=qh hk o A I J hb u n;have D:=Qa E;clear hk L o A I J hb u n E
  by_cases hlt:g<s.size
  ·have:(g:Int)<s.size:=ox;have n:s.data.toList.drop g=s[g]::s.data.toList.drop (g+1):=(by have h:g<s.data.toList:=(by rw[Zr];exact hlt);exact Xf h);have I:=Qa n;clear n;obtain⟨h,rfl⟩:∃h:WD,h=wr:=⟨_,rfl⟩
   go_wp2
   go_loopg [9] j (fun k d wr=>sI s[g] j h k d wr)
   ·exact⟨0,0,ox,ox,rfl,fun o P=>ox,rfl⟩
   obtain⟨d,n,hp,hk,rfl,n,rfl⟩:=hrel;have⟨S,E⟩:=qb hk n;have:d<=t.size:=(yx p.o);clear hk n
   by_cases L:d<t.size
   ·have A:d<j:=(yx p.o);obtain⟨_,_⟩:(d:Int)<t.size/\(d:Int)<cap:=ox;have c0:=v.o.cell<|Md j d A;have⟨e,c⟩:=qx<|j.getD d 0;rw[c]at c0;have M:=Qa c;clear c
    by_cases n:e=s[g]
    ·have u:=Qb7 j s[g] d A E.o<|M.o.trans n;rw[n]at c0;have J:=Qa u;clear u n;go_wp2_with fail;go_quiet (fail);go_wp2_with fail;go_fit(iI i cap d t.size j _ p.o L H ox<|by exact v.o);rintro O H⟨rfl,O,v⟩;have v:Qb [i] h H:=((Qc [i] h).drewN _).trans v fun e c=>.inl c;have V:=G.o.kept v (fun e c h=>D.o<|by rwa[Zb.1 h]at c);have T:(Qi out).length+1<=maxLen:=(by rw[QF,F.o];simp only[maxLen];omega);have U:((Qi out).length+1)*8<=140737488355328:=(by rw[QF,F.o];omega);have⟨H,L⟩:=qb O v;clear O v;go_wp2_with ((at_builtin;refine Vn _ rfl _ _ 51 rfl 3 (0:Int) 8 XP XZ rfl _ _ [(d:Int)] 1 rfl rfl rfl rfl (by simp[Value.oneCell']) V T U ?_;intro a5 v X W Q O))
     go_roundg (s.size-(g+1))
     case measure=>have:=R.o;omega
     have v:Qu w (Qd u7):=fun e c=>x.o e (by simp[c])
     refine⟨g+1,K.turned j d,out++[d],ox,rfl,by go_num,?_,by simp[F.o],H.o.kept Q D.o,by rw[Ej _ _ A,p.o],?_,?_,?_,?_⟩
     ·rw[DV];exact W
     ·rw[B.o,I.o,Qam _ _ _ (by rw[J.o];exact A),J.o,gH]
     ·exact(y.o.trans L.o fun e c=>.inr (by rw[Zb.1 c];exact x.o i sx)).new Q v
     ·intro e c;rcases QD.1 c with rfl|c
      ·exact x.o _ sx
      rcases O e c with h|h
      ·exact v e h
      exact QS y.o.size<|QS L.o.size h
     intro m;rcases O i m with h|h
     ·exact D.o h
     have:=H.o.lt;omega
    have v:¬e.toNat=(s[g]'hlt).toNat:=fun h=>n<|DK.1 h
    have g1:(((e.toNat:Nat):Int) != (((s[g]'hlt).toNat:Nat):Int))=true:=Rf.2 ox;have i:=Qa n;clear n v;go_wp2_with fail;go_quiet (fail)
    go_wp2
    go_roundg (j.length-(d+1))
    ·refine⟨d+1,_,ox,rfl,by go_num,fun o P=>?_,rfl⟩;rcases Xw o d with h|h
     ·exact E.o o h
     obtain rfl:o=d:=ox;rw[M.o];exact i.o
    have:=S.o;omega
   obtain rfl:d=t.size:=ox;have u:=Qb9 j s[g] (fun o P=>E.o o (yx p.o));have d:AJ s.data.toList t.data.toList=([],60):=(by rw[z.o,B.o,I.o,Qap _ _ _ u];rfl);have h:=Qa d;clear u d;go_wp2_with fail;go_quiet (fail)
   go_wp2
   go_ret2;rw[h.o];exact Y8.err (by rfl)<|y.o.drewN _
  obtain rfl:g=s.size:=ox
  have d:s.data.toList.drop s.size=[]:=Jq (by rw[Zr];exact Qk _);have g:AJ s.data.toList t.data.toList=(out,0):=by rw[z.o,B.o,d];simp[K.front]
  have i:=Qa g;obtain⟨h,h,h,-,-,-,-⟩:=G.o.sees;rw[QF]at h;subst h;clear d g
  go_wp2
  go_ret2;rw[i.o];exact Y8.ok (by rfl) G.o y.o (fun e c=>x.o e<|by simp[c])
 have q:AJ s.data.toList t.data.toList=([],2):=by unfold AJ;rw[m];rfl
 have z:=Qa q;rw[m];clear q m
 go_wp2
 go_ret2;rw[z.o];exact Y8.err (by rfl) C.o
def DJ(p:LU × Nat)(w:WD)(e:Ending)(w':WD):Prop:=
 e=.returned (.tuple #[.string ⟨p.1.toArray⟩,(p.2:Nat)])/\Qb [] w w'
def sG(xs:LI)(t:BA)(w0:WD)(g:Nat)(k:Nat)(v c:VL)(w:WD):Prop:=
 ∃d e out,d<=xs.length/\k=xs.length-d/\c=.int .i64 (d:Nat)/\Qh w 5 v (Qn out)/\out.length=d/\QJ w g (Qn e)/\e=t.size/\
  K.back t xs=(K.back e (xs.drop d)).map (out++ ·)/\Qb [] w0 w/\Qu w0 (g::Qd v)/\g∉Qd v
set_option maxHeartbeats 1000000 in
def Qie(a c xs)(t:BA)(w)(h:Qp w 1 a xs.length (QO xs))(hs:xs.length<=1000000)(d:t.size<=1000000000):
 Calls prog 228 #[.slice a xs.length c,t] w (DJ (Bk xs t) w):=by
 have v:=Qa h;clear h;go_enter func228,ntmps228;go_wp2_with fail;go_fit(Sh t _ ox);rintro O c⟨rfl,d⟩;have z:=Qa d;clear d;rcases J1 (VB t)with j|j
 ·have q:Bk xs t=match K.back t xs with|none=>([],60)|some l=>(l,0):=by unfold Bk;rw[j];rfl
  have p:=Qa q;rw[j];obtain⟨cap,g,D⟩:=NC c t;have d:=QJ.bytes c.drew t cap D;have n:Qb [] c (c.drew.alloc<|.cells (bytesRow t cap) 5 ((bytesRow t cap).size,(bytesRow t cap).size+1)):=(Qc _ _).drew.alloc _;have e:(c.drew.alloc<|.cells (bytesRow t cap) 5 ((bytesRow t cap).size,(bytesRow t cap).size+1)).heap.size=c.heap.size+1:=sx
  have s:c.drew.heap.size=c.heap.size:=rfl;rw[s]at d;generalize c.drew.alloc (.cells (bytesRow t cap) 5 ((bytesRow t cap).size,(bytesRow t cap).size+1))=W0 at d n g e;have⟨i,m⟩:=qx c.heap.size;rw[m]at d g e;have⟨x,c,y,o⟩:=qd m d n e;clear q j d n e s m;go_wp2_with ((at_make;refine Jp rfl _ _ 88 rfl 5 (.int .u8 0) 1 Xo Jg rfl .i64 .i64 _ _ 0 xs rfl rfl rfl rfl ox ox (by simp only[maxLen];omega) ?_;intro d J e));have u:=Qa (c.o.kept e sx);have:i<W0:=yx o.o
  have s:Qb [] w d:=(z.o.new y.o<|by simp[Qu]).new e (by simp[Qu]);have n:Qu w (i::Qd (.slice W0 0 xs)):=by
   have m:=z.o.size;have:=x.o;intro d c;simp[Qd,qo]at c;rcases c with rfl|rfl
   ·omega
   have:=o.o;omega
  have o:i∉Qd (.slice W0 0 xs):=by simp[Qd,qo];omega
  have⟨x,A,y⟩:=qc n o s;clear e s n o g
  go_loopg [7,20] xs (fun k g e wr=>sG xs t w i k g e wr)
  ·exact⟨0,t.data.toList,[],ox,ox,rfl,J,rfl,u.o,Zr t,sx,y.o,x.o,A.o⟩
  obtain⟨g,n,out,hi,hk,rfl,I,H,hb,E,e,B,x,G⟩:=hrel;have⟨M,s,u,C,F,L,o,y⟩:=qh hk e E H I hb B x;have A:=Qa G;clear hk J e E H I hb B x G
  by_cases hlt:g<xs
  ·have:(g:Int)<xs.length:=ox;have⟨d,c⟩:=qy xs g hlt;have e:xs.drop g=d::xs.drop (g+1):=(by obtain⟨m,rfl⟩:=Qy.1 c;exact Xf m);have x:=Qa e;obtain⟨b0,off,rfl,-⟩:=v.o.at (by rw[Xx];omega);have c0:=(v.o.kZ o.o).int c;clear e c
   by_cases v:d<0
   ·have m:Bk xs t=([],60):=(by rw[p.o,s.o,x.o,K.back,Qg<|.inl v];rfl);have B:=Qa m;have g1:decide (d<0)=true:=XE v;clear m
    go_wp2
    go_ret2;rw[B.o];exact⟨by rfl,o.o⟩
   have g1:decide (d<0)=false:=X0 v;obtain⟨e,rfl⟩:=Yu (ox:0<=d)
   by_cases E:t.size<=e
   ·have m:Bk xs t=([],60):=(by rw[p.o,s.o,x.o,K.back,Qg<|.inr (yx u.o)];rfl);have B:=Qa m;have E:(t.size:Int)<=e:=ox;clear m
    go_wp2
    go_ret2;rw[B.o];exact⟨by rfl,o.o⟩
   obtain⟨E,m⟩: ¬(t.size:Int)<=e/\e<t.size:=ox;have P:e<n:=(yx u.o);clear v;go_wp2_with fail;go_fit(iI i cap e t.size n _ u.o m D ox<|by exact L.o);rintro O m⟨rfl,G,v⟩;have L:=F.o.kept v (fun d c h=>A.o<|by rwa[Zb.1 h]at c);have I:(Qn out).length+1<=maxLen:=(by rw[Yi,C.o];simp only[maxLen];omega);have J:((Qn out).length+1)*1<=140737488355328:=(by rw[Yi,C.o];omega);have⟨m,B⟩:=qx<|n.getD e 0;rw[B];have⟨H,D,E⟩:=qc B G v;clear G v B c0;go_wp2_with ((at_builtin;refine Vn _ rfl _ _ 88 rfl 5 (.int .u8 0) 1 Xo Jg rfl _ _ [.int .u8 (m.toNat:Int)] 1 rfl rfl rfl rfl (by simp[Value.oneCell']) L I J ?_;intro a5 v Q O G B))
   go_roundg (xs.length-(g+1))
   case measure=>have:=M.o;omega
   have v:Qu w (Qd u7):=fun d c=>y.o d (by simp[c])
   refine⟨g+1,K.turned n e,out++[m],ox,rfl,by go_num,?_,by simp[C.o],D.o.kept G A.o,by rw[Ej _ _ P,u.o],?_,?_,?_,?_⟩
   ·rw[show Qn (out++[m])=Qn out++[.int .u8 (m.toNat:Int)]by simp[Qn]];exact O
   ·have u:K.back n ((e:Int)::xs.drop (g+1))=(K.back (K.turned n e)<|xs.drop<|g+1).map (m:: ·):=(by rw[K.back,Qf ox,ZH,show n.getD e default=m from H.o]);rw[s.o,x.o,u,gH]
   ·exact(o.o.trans E.o fun d c=>.inr (by rw[Zb.1 c];exact y.o i sx)).new G v
   ·intro d c;rcases QD.1 c with rfl|c
    ·exact y.o _ sx
    rcases B d c with h|h
    ·exact v d h
    exact QS o.o.size<|QS E.o.size h
   intro j;rcases B i j with h|h
   ·exact A.o h
   have:=D.o.lt;omega
  obtain rfl:g=xs:=ox
  have c:xs.drop xs.length=[]:=Jq<|Qk _;have d:Bk xs t=(out,0):=by rw[p.o,s.o,c];simp[K.back]
  have e:=Qa d;have:=Qh.text F.o;clear c d
  go_wp2
  go_ret2;rw[e.o];exact⟨by rfl,o.o⟩
 have q:Bk xs t=([],2):=by unfold Bk;rw[j];rfl
 have p:=Qa q;rw[j];clear q j
 go_wp2
 go_ret2;rw[p.o];exact⟨by rfl,z.o⟩
def Ud(x c:Int × Int):Int:=if x.1=c.1 then x.2-c.2 else x.1-c.1
def Nw(x c):Ud x c<0↔x.1<c.1\/(x.1=c.1/\x.2<c.2):=by unfold Ud;split<;>omega
def Rb(x:Int × Int):Prop:=(-1000000000000<=x.1/\x.1<=1000000000000)/\(-1000000000000<=x.2/\x.2<=1000000000000)
def UX(x:Int × Int):VL:=.agg #[x.1,x.2]
def Eh(x:Int × Int):LV:=[x.1,x.2]
def Xb(l:List (Int × Int)):LV:=l.flatMap Eh
def Ei(l):(Xb l).length=l.length*2:=by
 induction l with
 |nil=>rfl
 |cons x l ih=>rw[Xb,Jd,Qo,<-Xb,ih];simp[Eh];omega
def nV(a b):Xb (a++b)=Xb a++Xb b:=by simp[Xb]
def Ds{l i x}(h:l[i]?=some x):(Xb l)[i*2]?=some (.int .i64 x.1)/\(Xb l)[i*2+1]?=some (.int .i64 x.2):=by
 induction l generalizing i with
 |nil=>simp at h
 |cons y l ih=>
  cases i with
  |zero=>simp at h;subst h;exact⟨rfl,rfl⟩
  |succ i=>have c:=ih (i:=i) (by simpa using h);rw[show(i+1)*2=i*2+1+1 by omega,Xb,Jd,Eh];simp only[XY,YU,Ru];exact c
def nW(l i x):((Xb l).set (i*2) x.1).set (i*2+1) x.2=Xb (l.set i x):=by
 induction l generalizing i with
 |nil=>simp[Xb]
 |cons y l ih=>
  cases i with
  |zero=>rfl
  |succ i=>have c:=ih i;rw[show(i+1)*2=i*2+1+1 by omega];simp only[Xb,Jd,Eh,XY,YU,U2]at c ⊢;rw[c]
def Qkk(l k):(Xb l).take (k*2)=Xb (l.take k):=by
 induction l generalizing k with
 |nil=>simp[Xb]
 |cons y l ih=>
  cases k with
  |zero=>rfl
  |succ k=>have c:=ih k;rw[show(k+1)*2=k*2+1+1 by omega];simp only[Xb,Jd,Eh,XY,YU,FW]at c ⊢;rw[c]
def Oa(a b c d:Int)(w):(binOp .eql 364 (.agg #[a,b])<|.agg #[c,d]).run prog w=.ok (.bool<|a==c&&b==d) w:=by
 rw[run_eql_struct,run_equalIn_agg _ _ _ _ _ kx kx];simp[Program.fieldsOf,underlying364,Op.eqFields,go_sem,part,Vv]
 by_cases e:a=c<;>by_cases g:b=d<;>simp[e,g]
def pG(x c:Int × Int)(w:WD)(e:Ending)(w':WD):Prop:=e=.returned (.int .i64 (Ud x c))/\Qb [] w w'
def uE(x d w)(g:Rb x)(h:Rb d):Calls prog 284 #[UX x,UX d] w (pG x d w):=by
 obtain⟨a,b⟩:=x;obtain⟨c,e⟩:=d;obtain⟨⟨d,i⟩,j,l⟩:=g;obtain⟨⟨g,m⟩,n,o⟩:=h;simp only at d i j l g m n o;unfold UX;have i:=fun d=>Oa a b c e d
 by_cases d:a=c
 ·by_cases j:b=e
  ·subst d;subst j;have h:(a==a&&b==b)=true:=sx;rw[h]at i;have g:=Qa (by unfold Ud;simp:Ud (a,b) (a,b)=0);go_enter func284,Gd
   go_wp2
   go_ret;exact⟨by rw[g.o];rfl,((Qc _ _).alloc _).alloc _⟩
  have h:(a==c&&b==e)=false:=by simp[j]
  rw[h]at i;have g:=Qa (by unfold Ud;simp[d]:Ud (a,b) (c,e)=b-e);have g1:(a==c)=true:=by simp[d]
  have j:(a != c)=false:=by simp[d]
  have:=Qa d;go_enter func284,Gd
  go_wp2
  go_ret;exact⟨by rw[g.o];rfl,((Qc _ _).alloc _).alloc _⟩
 have h:(a==c&&b==e)=false:=by simp[d]
 rw[h]at i;have g:=Qa (by unfold Ud;simp[d]:Ud (a,b) (c,e)=a-c);have g1:(a==c)=false:=by simp[d]
 have j:(a != c)=true:=by simp[d]
 go_enter func284,Gd
 go_wp2
 go_ret;exact⟨by rw[g.o];rfl,((Qc _ _).alloc _).alloc _⟩
def Qp.tree{w b off n i l x}(h:Qp w 2 (some ⟨b,off,none⟩) n (Xb l))(c:l[i]?=some x):
 w.cell? ⟨b,off+i*2,none⟩=some (.int .i64 x.1)/\w.cell? ⟨b,off+i*2+1,none⟩=some (.int .i64 x.2):=by
 obtain⟨d,e⟩:=Ds c;obtain⟨c,c,c,c1⟩:=h.2 _ _ d;obtain⟨d,d,d,c2⟩:=h.2 _ _ e;cases c;cases d;exact⟨c1,c2⟩
def Ta(l:List (Int × Int))(m:Int × Int):Prop:=∀c∈l,¬(c.1<m.1\/(c.1=m.1/\c.2<m.2))
def rD(l:List (Int × Int))(w:WD)(e:Ending)(w':WD):Prop:=∃c:Int × Int,e=.returned (UX c)/\c∈l/\Ta l c/\Qb [] w w'
def rC(w0:WD)(l:List (Int × Int))(g e:Nat)(k:Nat)(v:VL)(wr:WD):Prop:=
 ∃(c:Nat)(d:Int × Int),1<=c/\c<=l/\k=l.length-c/\v=.int .i64 (c:Nat)/\Hid (d∈l/\Ta (l.take c) d)/\Hid (Qe wr e 364 [d.1,d.2])/\
  Hid (Qe wr g 364 [(0:Int),(0:Int)])/\Hid (Qb [] w0 wr)
def Qd7(a c l w)(h:Qp w 2 a l.length (Xb l))(h0:1<=l.length)(hl:l.length<=1000000)(hb:∀x∈l,Rb x):
 Calls prog 304 #[.slice a l.length c,.func (.func 284) #[] #[]] w (rD l w):=by
 have HS:=Qa h;obtain⟨b,off,rfl,-⟩:=h.at (by rw[Ei];omega);obtain⟨x0,x2⟩:∃x,l[0]?=some x:=⟨_,Qj ox⟩;obtain⟨c0,c1⟩:=HS.o.tree x2;have g0:decide ((l:Int)<1)=false:=zx
 have y2:(0:Int)<l.length:=ox
 have⟨x4,HB⟩:=qb x2 hb;rw[IA,Jt]at c0 c1;have x8:b<w:=Uc w _ c0;go_enter func304,ntmps304;go_wp2_with fail;have⟨HG,HR,HK⟩:=qc (Qx (w.alloc<|.cells #[(0:Int),(0:Int)] 364) [x0.1,x0.2] 364) ((Qx w [(0:Int),(0:Int)] 364).kept ((Qc [] _).alloc<|.cells #[x0.1,x0.2] 364) sx)<|((Qc [] w).alloc<|.cells #[(0:Int),(0:Int)] 364).alloc<|.cells #[x0.1,x0.2] 364;have e1:(w.alloc<|.cells #[(0:Int),(0:Int)] 364).heap.size=w.heap.size+1:=sx
 rw[e1]at HG
 go_loopg [6] (l.length-1) (fun k v wr=>rC w l w (w.heap.size+1) k v wr)
 case atStart=>exact⟨1,x0,Qk _,h0,ox,rfl,Qa ⟨QB x4.o,fun x hx=>by
  have:l.take 1=[x0]:=by
   have hh:=x4.o;cases l with
   |nil=>simp at hh
   |cons y r=>simp at hh;subst hh;rfl
  rw[this]at hx;simp at hx;subst hx;omega⟩,HG,HR,HK⟩
 obtain⟨i,m,h1,hi,hk,rfl,HM,HG,HR,HK⟩:=hrel;have Hk:=Qa hk
 by_cases hlt:i<l
 ·have y0:(i:Int)<l.length:=ox
  have⟨x,hx⟩:=qy l i hlt;obtain⟨d0,d1⟩:=(HS.o.kZ HK.o).tree hx;have d2:wr.cell? ⟨w.heap.size+1,0,none⟩=some (.int .i64 m.1):=HG.o.cq 0;have d3:wr.cell? ⟨w.heap.size+1,1,none⟩=some (.int .i64 m.2):=HG.o.cq 1;have⟨HA,HX⟩:=qb (fun W=>uE x m W (HB.o x<|QB hx)<|HB.o m HM.o.1) hx;unfold UX at HA
  by_cases x1:Ud x m<0
  ·have x7:decide (Ud x m<0)=true:=XE x1;go_wp2_with fail
   go_region_held3 (fun q=>Qb [] wr q/\q.cell? ⟨b,off+i*2,none⟩=some (.int .i64 x.1)/\q.cell? ⟨b,off+i*2+1,none⟩=some (.int .i64 x.2)/\q.cell? ⟨w.heap.size+1,0,none⟩=some (.int .i64 m.1)/\q.cell? ⟨w.heap.size+1,1,none⟩=some (.int .i64 m.2))
    (first|exact⟨(Qc _ _).drew,d0,d1,d2,d3⟩|exact⟨o,o.cZ d0 sx,o.cZ d1 sx,o.cZ d2 sx,o.cZ d3 sx⟩)
    (first|(go_fit(HA.o _);rintro e w2⟨rfl,h9⟩;have o:Qb [] wr w2:=(Qc [] wr).drew.trans h9 sx))
   rename_i hS;have⟨h3,h5,h4⟩:=qc (HG.o.kept o sx) (HR.o.kept o sx) (HK.o.trans o sx);have e0:=o.cZ d0 sx;have e1:=o.cZ d1 sx;have e2:=o.cZ d2 sx;have e3:=o.cZ d3 sx;have f0:=h3.o.free 0;have f1:=h3.o.free 1;have x9:w.heap.size+1<w2.heap.size:=h3.o.lt;have⟨x5,x6,h8⟩:=qc ((h3.o.set 0<|.int .i64 x.1).set 1<|.int .i64 x.2) ((h5.o.kept (((Qc [w.heap.size+1] w2).setCell (p:=⟨w.heap.size+1,0,none⟩) sx<|.int .i64 x.1).setCell (p:=⟨w.heap.size+1,1,none⟩) sx<|.int .i64 x.2) sx))<|(h4.o.setCell (p:=⟨w.heap.size+1,0,none⟩) sx<|.int .i64 x.1).setCell (p:=⟨w.heap.size+1,1,none⟩) sx<|.int .i64 x.2
   go_wp2
   go_roundg (l.length-(i+1))
   ·refine⟨i+1,x,ox,ox,rfl,sx,Qa ⟨QB HX.o,fun y hy=>?_⟩,x5,x6,h8⟩;rw[Nw]at x1;rw[Zh,HX.o]at hy;rcases Q4.1 hy with h|h
    ·have:=HM.o.2 y h;omega
    simp at h;subst h;omega
   have:=Hk.o;omega
  have x7:decide (Ud x m<0)=false:=X0 x1;go_wp2_with fail
  go_region_held3 (fun q=>Qb [] wr q/\q.cell? ⟨b,off+i*2,none⟩=some (.int .i64 x.1)/\q.cell? ⟨b,off+i*2+1,none⟩=some (.int .i64 x.2)/\q.cell? ⟨w.heap.size+1,0,none⟩=some (.int .i64 m.1)/\q.cell? ⟨w.heap.size+1,1,none⟩=some (.int .i64 m.2))
   (first|exact⟨(Qc _ _).drew,d0,d1,d2,d3⟩|exact⟨o,o.cZ d0 sx,o.cZ d1 sx,o.cZ d2 sx,o.cZ d3 sx⟩)
   (first|(go_fit(HA.o _);rintro e w2⟨rfl,h9⟩;have o:Qb [] wr w2:=(Qc [] wr).drew.trans h9 sx))
  rename_i hS;have⟨h3,h5,h4⟩:=qc (HG.o.kept o sx) (HR.o.kept o sx) (HK.o.trans o sx)
  go_wp2
  go_roundg (l.length-(i+1))
  ·refine⟨i+1,m,ox,ox,rfl,sx,Qa ⟨HM.o.1,fun y hy=>?_⟩,h3,h5,h4⟩;rw[Zh,HX.o]at hy;rcases Q4.1 hy with h|h
   ·exact HM.o.2 y h
   simp at h;rw[h];have h2:=Nw x m;omega
  have:=Hk.o;omega
 obtain rfl:i=l:=ox
 have y1:¬(l:Int)<l.length:=ox
 have d2:wr.cell? ⟨w.heap.size+1,0,none⟩=some (.int .i64 m.1):=HG.o.cq 0;have d3:wr.cell? ⟨w.heap.size+1,1,none⟩=some (.int .i64 m.2):=HG.o.cq 1;have r0:wr.cell? w=some (.int .i64 0):=HR.o.cq 0;have r1:wr.cell? ⟨w.heap.size,1,none⟩=some (.int .i64 0):=HR.o.cq 1;have f0:=HR.o.free 0;have f1:=HR.o.free 1;have s0:((wr.setCell ⟨w.heap.size,0,none⟩ m.1).setCell ⟨w.heap.size,1,none⟩ m.2).cell? w=some (.int .i64 m.1):=((HR.o.set 0 m.1).set 1 m.2).cq 0;have s1:((wr.setCell ⟨w.heap.size,0,none⟩ m.1).setCell ⟨w.heap.size,1,none⟩ m.2).cell? ⟨w.heap.size,1,none⟩=some (.int .i64 m.2):=((HR.o.set 0 m.1).set 1 m.2).cq 1;have hM:=HM.o;rw[Q5<|Qk _]at hM;have⟨x3,h8⟩:=qb hM<|(HK.o.setCell (p:=w) sx m.1).setCell (p:=⟨w.heap.size,1,none⟩) sx m.2;go_wp2_with fail;refine Zj (v:=UX m) (by simp[results,results304,go_sem,UX,s0,s1]) rfl ?_;exact⟨m,rfl,x3.o.1,x3.o.2,h8.o⟩
def qQ(l:List (Int × Int))(x:Int × Int)(w:WD)(e:Ending)(w':WD):Prop:=∃c:Nat,e=.returned (c:Nat)/\l[c]?=some x/\Qb [] w w'
def Qb6(a c l x w)(h:Qp w 2 a l.length (Xb l))(d:l.length<=1000000)(d:x∈l):
 Calls prog 305 #[.slice a l.length c,UX x] w (qQ l x w):=by
 have⟨m,s⟩:=qb h d;have:0<l.length:=Ti d;obtain⟨b,off,rfl,-⟩:=h.at (by rw[Ei];omega);unfold UX;go_enter func305,ntmps305;go_wp2_with fail;have⟨i,g⟩:=qb (Qx w [x.1,x.2] 364)<|(Qc [] w).alloc<|.cells #[x.1,x.2] 364
 go_loopg [8] l (fun k e wr=>∃d:Nat,d<=l/\k=l.length-d/\e=.int .i64 (d:Nat)/\Hid (x∉l.take d)/\Hid (Qe wr w 364 [x.1,x.2])/\Hid (Qb [] w wr))
 ·exact⟨0,ox,ox,rfl,Qa sx,i,g⟩
 obtain⟨d,hi,hk,rfl,o,i,g⟩:=hrel;have t:=Qa hk
 by_cases hlt:d<l
 ·have:(d:Int)<l.length:=ox
  have⟨e,j⟩:=qy l d hlt;obtain⟨n,n⟩:=(m.o.kZ g.o).tree j;have:wr.cell? w=some (.int .i64 x.1):=i.o.cq 0;have:wr.cell? ⟨w.heap.size,1,none⟩=some (.int .i64 x.2):=i.o.cq 1;have q:=fun m=>Oa x.1 x.2 e.1 e.2 m
  have p:=Qa j
  by_cases j:x=e
  ·have m:(x.1==e.1&&x.2==e.2)=true:=(by rw[j];simp);rw[m]at q;have n:=Qa j;go_wp2_with fail;go_quiet (fail)
   go_wp2
   go_ret;exact⟨d,rfl,by rw[n.o];exact p.o,g.o.drewN _⟩
  have m:(x.1==e.1&&x.2==e.2)=false:=by
   rw[Bool.and_eq_false_iff,Ze,Ze];rcases Classical.em (x.1=e.1)with h|h
   ·exact .inr fun e=>j<|Prod.ext h e
   exact .inl h
  rw[m]at q;have n:=Qa j;go_wp2_with fail;go_quiet (fail)
  go_wp2
  go_roundg (l.length-(d+1))
  ·refine⟨d+1,ox,ox,sx,Qa fun e=>?_,Qa<|i.o.kept ((Qc [] wr).drewN _) sx,Qa<|g.o.drewN _⟩;rw[Zh,p.o]at e;rcases Q4.1 e with h|h
   ·exact o.o h
   simp at h;exact n.o h
  have:=t.o;omega
 obtain rfl:d=l:=ox
 have:=o.o;rw[Q5<|Qk _]at this;exact absurd s.o this
def Qhp(ls)(h:0<ls.length):0<K.room ls:=by
 cases ls with
 |nil=>simp at h
 |cons x ls=>
  have c:K.room (x::ls)=2^(20-x)+K.room ls:=by simp[K.room]
  have:=DH<|20-x;rw[c];omega
def Vm(xs:LI):Nat:=if JU xs then K.room (QE xs)else 0
def tB(w0:WD)(xs:LI)(k:Nat)(n c:VL)(w:WD):Prop:=
 ∃d,d<=xs.length/\k=xs.length-d/\c=.int .i64 (d:Nat)/\n=.int .i64 (K.room (QE (xs.take d)):Nat)/\((xs.take d).all fun d=>decide (1<=d/\d<=20))=true/\w0=w
def Qei(xs x):QE (xs++[x])=QE xs++[x.toNat]:=by simp[QE]
def Qgo(m):2^(20-m)<=1048576:=by have:(2:Nat)^(20-m)<=2^20:=Ju dx ox;exact this
def Qc3(xs)(c:2<=xs.length/\xs.length<=258)(h:((xs.take xs.length).all fun x=>decide<|1<=x/\x<=20)=true):JU xs=true:=by rw[VM]at h;unfold JU;rw[h];simp;exact c
def Qjt(a cap xs w)(h:Qp w 1 a xs.length (QO xs))(c:xs.length<=140737488351232):
 Calls prog 265 #[.slice a xs.length cap] w fun e w'=>e=.returned (Vm xs:Nat)/\w=w':=by
 have m:=Qa h;clear h
 by_cases c:xs.length<2
 ·have g1:decide ((xs:Int)<2)=true:=zx
  have g:Vm xs=0:=by unfold Vm;rw[OM xs ox];rfl
  have j:=Qa g;clear g;go_enter func265,TY
  go_wp2
  go_ret;exact⟨by rw[j.o];rfl,rfl⟩
 have g1:decide ((xs:Int)<2)=false:=zx
 by_cases c:258<xs.length
 ·have l:decide (258<(xs:Int))=true:=zx
  have g:Vm xs=0:=by unfold Vm;rw[OM xs ox];rfl
  have j:=Qa g;clear g;go_enter func265,TY
  go_wp2
  go_ret;exact⟨by rw[j.o];rfl,rfl⟩
 have l:decide (258<(xs:Int))=false:=zx
 go_enter func265,TY;go_wp2_with fail;clear g1 l
 go_loopg [3,16] xs (fun k d c wr=>tB w xs k d c wr)
 ·exact⟨0,ox,ox,rfl,rfl,rfl,rfl⟩
 obtain⟨d,hi,hk,rfl,rfl,c,rfl⟩:=hrel;have⟨u,q⟩:=qb hk c;have n:=Qho<|QE<|xs.take d;have i:(QE<|xs.take d).length<=258:=by rw[Vi,Zd];omega
 have:K.room (QE<|xs.take d)<=300000000:=ox
 clear hk c n i
 by_cases hlt:d<xs
 ·have:(d:Int)<xs.length:=ox
  have⟨c,i⟩:=qy xs d hlt;obtain⟨b0,off,rfl,-⟩:=m.o.at (by rw[Xx];omega);have c0:=m.o.int i;have m:xs.take (d+1)=xs.take d++[c]:=by rw[Zh,i];rfl
  have⟨o,t⟩:=qb m i;clear m i
  by_cases i:1<=c/\c<=20
  ·have g1:decide (c<1)=false:=zx;have l:decide (20<c)=false:=zx;obtain⟨m,rfl⟩:=Yu (ox:0<=c);have⟨i,n⟩:=qx<|20-m;have:IntKind.i64.wrap (20-(m:Int))=(i:Int):=(by rw[Za _ ox];omega);have hp:=Qgo m;rw[n]at hp;have:i<=20:=ox;have s:(2:Int)^i=((2^i:Nat):Int):=(by norm_cast);have hrs:K.room (QE<|xs.take<|d+1)=K.room (QE<|xs.take d)+2^i:=(by rw[o.o,Qei,Qhq,ZH,n]);generalize (2:Nat)^i=p at hp s hrs;have s:=Qa hrs;have i:((([((m:Nat):Int)]:LI).all fun c=>decide<|1<=c/\c<=20))=true:=zx;have m:=Qa i;clear n hrs i
   go_wp2
   go_roundg (xs.length-(d+1))
   ·exact⟨d+1,ox,rfl,by go_num,by rw[s.o];go_num,by rw[o.o,List.all_append,q.o,Rt];exact m.o,rfl⟩
   have:=u.o;omega
  have m:Vm xs=0:=by unfold Vm;rw[fJ xs d c t.o ox];rfl
  have i:=Qa m;clear m
  by_cases m:c<1
  ·have g1:decide (c<1)=true:=zx
   go_wp2
   go_ret;exact⟨by rw[i.o];rfl,rfl⟩
  have g1:decide (c<1)=false:=zx
  have l:decide (20<c)=true:=zx
  go_wp2
  go_ret;exact⟨by rw[i.o];rfl,rfl⟩
 obtain rfl:d=xs:=ox
 have c:=Qc3 xs ox q.o;have g:Vm xs=K.room (QE<|xs.take xs):=by unfold Vm;rw[c,VM];rfl
 have j:=Qa g;clear c g
 go_wp2
 go_ret;exact⟨by rw[j.o];rfl,rfl⟩
def Qjr(xs):XM xs=(decide (Vm xs≠0)&&decide (Vm xs<=1048576)):=by
 unfold Vm XM;rcases J1 (JU xs)with c|c
 ·have:=((Ve xs).1 c).1;have:=Qhp (QE xs) (by rw[Vi];omega);rw[c,Qg rfl];have:K.room (QE xs)≠0:=ox
  simp[this]
 rw[c];simp
def Uy(xs:LI):Nat:=if XM xs then 0 else 80
def Gv(a cap xs w)(h:Qp w 1 a xs.length (QO xs))(d:xs.length<=140737488351232):
 Calls prog 225 #[.slice a xs.length cap] w fun e w'=>e=.returned (Uy xs:Nat)/\w=w':=by
 have⟨c,g⟩:=qb h<|Qjr xs;go_enter func225,ntmps225;go_wp2_with fail;go_fit(Qjt a cap xs _ c.o d);rintro e w'⟨rfl,rfl⟩;generalize Vm xs=n at g ⊢
 by_cases h0:n=0
 ·have c:Uy xs=80:=by unfold Uy;rw[g.o,h0];rfl
  have d:=Qa c;subst h0
  go_wp2
  go_ret;exact⟨by rw[d.o];rfl,rfl⟩
 have g1:((n:Int)==0)=false:=zx
 by_cases i:n<=1048576
 ·have c:Uy xs=0:=by unfold Uy;rw[g.o];simp[h0,i]
  have d:=Qa c;have i:decide (1048576<(n:Int))=false:=zx
  go_wp2
  go_ret;exact⟨by rw[d.o];rfl,rfl⟩
 have c:Uy xs=80:=by unfold Uy;rw[g.o];simp[h0];omega
 have d:=Qa c;have i:decide (1048576<(n:Int))=true:=zx
 go_wp2
 go_ret;exact⟨by rw[d.o];rfl,rfl⟩
def rB(xs:LI)(w:WD)(e:Ending)(w':WD):Prop:=∃c:Int,e=.returned c/\c∈xs/\(∀d∈xs,c<=d)/\w=w'
def rA(xs:LI)(w:WD)(e:Ending)(w':WD):Prop:=∃c:Int,e=.returned c/\c∈xs/\(∀d∈xs,d<=c)/\w=w'
def Mc{xs:LI}{k x c}(d:xs[k]?=some x)(h:c∈xs.take (k+1)):c∈xs.take k\/c=x:=by
 rw[Zh,d]at h;rcases Q4.1 h with h|h
 ·exact .inl h
 exact .inr (by simpa using h)
def Qd8(a c xs w)(h:Qp w 1 a xs.length (QO xs))(h0:1<=xs.length)(hl:xs.length<=1000000):
 Calls prog 302 #[.slice a xs.length c] w (rB xs w):=by
 have HS:=Qa h;obtain⟨b,off,rfl,-⟩:=h.at (by rw[Xx];omega);obtain⟨x0,h2⟩:∃x,xs[0]?=some x:=⟨_,Qj ox⟩;have c0:=HS.o.int h2;have g0:decide ((xs:Int)<1)=false:=zx
 have h8:(0:Int)<xs.length:=ox
 have h3:=Qa h2;rw[Jt]at c0;go_enter func302,ntmps302
 go_wp2
 go_loopg [3,4] (xs.length-1) (fun k v u wr=>∃(i:Nat)(m:Int),1<=i/\i<=xs.length/\k=xs.length-i/\v=.int .i64 m/\u=.int .i64 (i:Nat)/\Hid (m∈xs/\∀x∈xs.take i,m<=x)/\w=wr)
 case atStart=>exact⟨1,x0,Qk _,h0,ox,rfl,rfl,Qa ⟨QB h3.o,fun x o=>by
  rcases Mc h3.o o with h|h
  ·simp at h
  omega⟩,rfl⟩
 obtain⟨i,m,h1,hi,hk,rfl,rfl,q,rfl⟩:=hrel;have Hk:=Qa hk
 by_cases hlt:i<xs
 ·have h4:(i:Int)<xs.length:=ox
  have⟨x,o⟩:=qy xs i hlt;have d0:=HS.o.int o;have HX:=Qa o;go_wp2_with fail
  all_goals
   rename_i h
   go_roundg (xs.length-(i+1))
   ·refine⟨i+1,_,ox,ox,rfl,rfl,sx,Qa ⟨?_,fun y hy=>?_⟩,rfl⟩
    ·first
      |exact q.o.1
      |exact QB HX.o
    rcases Mc HX.o hy with h'|h'
    ·have:=q.o.2 y h';omega
    omega
   have:=Hk.o;omega
 obtain rfl:i=xs:=ox
 have h5:¬(xs:Int)<xs.length:=ox
 go_wp2
 go_ret;have:=q.o;rw[Q5<|Qk _]at this;exact⟨m,rfl,this.1,this.2,rfl⟩
def gQ(a c xs w)(h:Qp w 1 a xs.length (QO xs))(h0:1<=xs.length)(hl:xs.length<=1000000):
 Calls prog 282 #[.slice a xs.length c] w (rA xs w):=by
 have HS:=Qa h;obtain⟨b,off,rfl,-⟩:=h.at (by rw[Xx];omega);obtain⟨x0,h2⟩:∃x,xs[0]?=some x:=⟨_,Qj ox⟩;have c0:=HS.o.int h2;have g0:decide ((xs:Int)<1)=false:=zx
 have h8:(0:Int)<xs.length:=ox
 have h3:=Qa h2;rw[Jt]at c0;go_enter func282,ntmps282
 go_wp2
 go_loopg [3,4] (xs.length-1) (fun k v u wr=>∃(i:Nat)(m:Int),1<=i/\i<=xs.length/\k=xs.length-i/\v=.int .i64 m/\u=.int .i64 (i:Nat)/\Hid (m∈xs/\∀x∈xs.take i,x<=m)/\w=wr)
 case atStart=>exact⟨1,x0,Qk _,h0,ox,rfl,rfl,Qa ⟨QB h3.o,fun x o=>by
  rcases Mc h3.o o with h|h
  ·simp at h
  omega⟩,rfl⟩
 obtain⟨i,m,h1,hi,hk,rfl,rfl,q,rfl⟩:=hrel;have Hk:=Qa hk
 by_cases hlt:i<xs
 ·have h4:(i:Int)<xs.length:=ox
  have⟨x,o⟩:=qy xs i hlt;have d0:=HS.o.int o;have HX:=Qa o;go_wp2_with fail
  all_goals
   rename_i h
   go_roundg (xs.length-(i+1))
   ·refine⟨i+1,_,ox,ox,rfl,rfl,sx,Qa ⟨?_,fun y hy=>?_⟩,rfl⟩
    ·first
      |exact q.o.1
      |exact QB HX.o
    rcases Mc HX.o hy with h'|h'
    ·have:=q.o.2 y h';omega
    omega
   have:=Hk.o;omega
 obtain rfl:i=xs:=ox
 have h5:¬(xs:Int)<xs.length:=ox
 go_wp2
 go_ret;have:=q.o;rw[Q5<|Qk _]at this;exact⟨m,rfl,this.1,this.2,rfl⟩
def YA(xs:LI):Bool:=decide (2<=xs.length)&&decide (xs.length<=258)&&xs.all fun c=>decide (0<=c/\c<=1073741824)
def pM(b:Bool)(w:WD)(e:Ending)(w':WD):Prop:=e=.returned (.bool b)/\w=w'
def Qdu{xs}(c:2<=xs.length)(d:xs.length<=258)(lo hi)(i:lo∈xs)(h:hi∈xs)(e:∀x∈xs,lo<=x)(g:∀x∈xs,x<=hi):
 YA xs=(decide (0<=lo)&&decide (hi<=1073741824)):=by
 unfold YA;rw[XE c,XE d,Rt,Rt,Cw,Yb,Xt,ZE,ZE];constructor
 ·intro c;have a:=c lo i;have b:=c hi h;rw[ZE]at a b;omega
 intro c x c;have a:=e x c;have b:=g x c;rw[ZE];omega
def Mg(a c xs w)(h:Qp w 1 a xs.length (QO xs))(hl:xs.length<=17592186043904):
 Calls prog 279 #[.slice a xs.length c] w (pM (YA xs) w):=by
 by_cases h2:2<=xs.length
 ·have g1:decide (2<=(xs:Int))=true:=zx
  by_cases h3:xs.length<=258
  ·have g2:decide ((xs:Int)<=258)=true:=zx;have A:=Qd8 a c xs w h ox ox;have B:=gQ a c xs w h ox ox;go_enter func279,TX;go_wp2_with fail;go_fit A;rintro e w'⟨lo,rfl,h8,h4,rfl⟩;have q:=Qa (Qr h8 h4)
   by_cases h5:0<=lo
   ·have g3:decide (0<=lo)=true:=zx;go_wp2_with fail;go_fit B;rintro e w'⟨hi,rfl,h1,h6,rfl⟩;have y:=Qa<|Qr h1 h6;have g4:YA xs=decide (hi<=1073741824):=(by rw[Qdu h2 h3 lo hi q.o.1 y.o.1 q.o.2 y.o.2,g3,Rt]);have o:=Qa g4
    go_wp2
    go_ret;exact⟨by rw[o.o];rfl,rfl⟩
   have g3:decide (0<=lo)=false:=zx;have g4:YA xs=false:=(by rw[BN];intro hh;unfold YA at hh;rw[Xt,Yb]at hh;have:=hh.2 lo q.o.1;rw[ZE]at this;omega);have o:=Qa g4
   go_wp2
   go_ret;exact⟨by rw[o.o];rfl,rfl⟩
  have g2:decide ((xs:Int)<=258)=false:=zx
  have o:=Qa (by unfold YA;rw[X0 h3,Mp,Mq]:YA xs=false);go_enter func279,TX
  go_wp2
  go_ret;exact⟨by rw[o.o];rfl,rfl⟩
 have g1:decide (2<=(xs:Int))=false:=zx
 have o:=Qa (by unfold YA;rw[X0 h2,Mq,Mq]:YA xs=false);go_enter func279,TX
 go_wp2
 go_ret;exact⟨by rw[o.o];rfl,rfl⟩

def Fm{c}(h:YA c=true):2<=c.length/\c.length<=258/\∀x∈c,0<=x/\x<=1073741824:=by unfold YA at h;rw[Xt,Xt,Yb,ZE,ZE]at h;exact⟨h.1.1,h.1.2,fun x c=>by have:=h.2 x c;rwa[ZE]at this⟩
def Br(xs:LI):Bool:=decide (Vm xs=1048576)
def Zo(t:Nat × Nat):Int × Int:=((t.1:Int),(t.2:Int))
def Qm.less{w e size o n k c xs}(h:Qm w e size (.slice (some o) n c) n xs)(hk:k<=n):Qm w e size (.slice (some o) k c) k (xs.take<|k*size):=by
 have hl:=h.1;have h5:k*size<=n*size:=Be _ hk;refine⟨by rw[Zd,hl];omega,.inr ?_⟩;rcases h.2 with⟨y,h2⟩|⟨g,cap,q,hv,hb,hg,h8,h3,h4,ht⟩
 ·cases y
 cases hv;refine⟨g,c,q,rfl,hb,hg,ox,h3,h4,?_⟩;rw[<-ht,List.take_take,Iy h5]
def Qm.aZ{w e}{size g n c j:Nat}{xs u}(h:Qm w e size (.slice g n c) n xs)(d:xs[j]?=some u):w.cell? ⟨g,j,none⟩=some u:=by have:=World.ownsRow.cells (g:=g) h rfl j u d;rwa[Jc,Zu]at this
def Qm.free{w e}{size g n c:Nat}{xs}(h:Qm w e size (.slice g n c) n xs)(j):w.frozen? ⟨g,j,none⟩=false:=World.ownsRow.frozenAt h j
def Qm.put{w e}{size g n c:Nat}{xs}(h:Qm w e size (.slice g n c) n xs)(j u):Qm (w.setCell ⟨g,j,none⟩ u) e size (.slice g n c) n (xs.set j u):=(World.ownsRow.stored h j u).1
def Qm.sZ{w e size a n c m xs}(h:Qm w e size (.slice a n c) m xs):Qp w size a n xs/\n=m:=by obtain⟨d,d,g,-,-,d,-⟩:=h.sees;cases g;exact⟨d,rfl⟩
def pX(j g c k:Nat)(l:List (Nat × Nat))(w:WD)(e:Ending)(w':WD):Prop:=
 ∃(d:Nat × Nat)(i:Nat),e=.returned (UX (Zo d))/\l[i]?=some d/\(∀h∈l,¬(h.1<d.1\/(h.1=d.1/\h.2<d.2)))/\Qe w' j 362 [.slice g k c]/\
  Qm w' 364 2 (.slice g k c) k (Xb ((Jl l i).map Zo))/\Qb [j,g] w w'
def dG(d g c k:Nat)(l w)(e:Qe w d 362 [.slice g (k+1) c])(h:Qm w 364 2 (.slice g (k+1) c) (k+1) (Xb<|l.map Zo))(i:l.length=k+1)(hk:k<=1000000-1)(hb:∀t∈l,t.1<=1000000000000/\t.2<=1000000000000)(hne:d≠g):
 Calls prog 303 #[.pointer d] w (pX d g c k l w):=by
 have⟨F,y,x,u,G⟩:=qe e h i hb hne;have c0:w.cell? d=some (.slice g (k+1) c):=e.cq 0;have:d<w:=e.lt;have:g<w:=h.lt _ (by simp[Qd,qo]);go_enter func303,ntmps303;have q:=Qa<|(Qc [] w).alloc<|.cells #[(0:Int),(0:Int)] 364;have h:(l.map Zo).length=k+1:=by rw[QH];exact x.o
 have e:=Qd7 g c (l.map Zo) (w.alloc<|.cells #[(0:Int),(0:Int)] 364) (by rw[h];exact(Qm.sZ<|Qm.kept y.o q.o<|by simp[Qq]).1) ox ox (by intro E i;obtain⟨t,j,rfl⟩:=QA.1 i;have:=u.o t j;unfold Rb Zo;simp only;omega);rw[h]at e;have⟨s,n⟩:=qb h e;go_wp2_with fail;go_fit n.o;rintro H m⟨h,rfl,o,D,z⟩;obtain⟨t,j,rfl⟩:=QA.1 o;have A:=Qa (q.o.trans z sx);have⟨B,C,F,O,y⟩:=qe (Qm.kept y.o A.o<|by simp[Qq]) (F.o.kept A.o sx) ((Qx w [(0:Int),(0:Int)] 364).kept z sx) (show ∀h∈l,¬(h.1<t.1\/(h.1=t.1/\h.2<t.2))from fun h y=>by have:=D (Zo h)<|QA.2 ⟨h,y,rfl⟩;simp only[Zo]at this;omega) o;have:w.heap.size<m.heap.size:=F.o.lt;have:=Qa<|u.o t j;have j:=Qa<|(Qc [] m).alloc<|.cells #[.int .i64 (Zo t).1,.int .i64 (Zo t).2] 364;have e:=Qb6 g c (l.map Zo) (Zo t) (m.alloc<|.cells #[.int .i64 (Zo t).1,.int .i64 (Zo t).2] 364) (by rw[s.o];exact(Qm.sZ<|Qm.kept B.o j.o<|by simp[Qq]).1) (by rw[s.o];omega) y.o;rw[s.o]at e;have n:=Qa e;have c1:m.cell? d=some (.slice g (k+1) c):=C.o.cq 0;have:d<m:=C.o.lt;unfold UX at n ⊢;go_wp2_with fail;go_fit n.o;rintro H u⟨e,rfl,hi,D⟩;have s:l[e]?=some t:=by
  rw[Zz]at hi;cases hli:l[e]? with
  |none=>rw[hli]at hi;simp at hi
  |some h=>rw[hli]at hi;simp[Zo]at hi;have:h=t:=Prod.ext ox ox;rw[this]
 have:e<=k:=by have:=(Qy.1 s).1;have:=x.o;omega
 have⟨M,y⟩:=qb s (j.o.trans D sx);have⟨q,H,J,L⟩:=qd (Qm.kept B.o y.o<|by simp[Qq]) (C.o.kept y.o sx) (F.o.kept y.o sx) ((Qx m [.int .i64 (Zo t).1,.int .i64 (Zo t).2] 364).kept D sx);have⟨j,hz⟩:=qy l k (yx x.o);have C:(l.map Zo)[k]?=some (Zo j):=by rw[Zz,hz];rfl
 have h:(l.map Zo)[e]?=some (Zo t):=by rw[Zz,s];rfl
 have P:=Qa hz;have k0:u.cell? d=some (.slice g (k+1) c):=H.o.cq 0;have k1:=q.o.aZ (Ds C).1;have k2:=q.o.aZ (Ds C).2;have k3:=q.o.aZ (Ds h).1;have k4:=q.o.aZ (Ds h).2;have Q:=q.o.free<|e*2;have R:=q.o.free<|e*2+1;have:(e:Int)<k+1:=ox
 have:IntKind.i64.wrap ((k:Int)+1-1)=(k:Int):=by rw[Int.add_sub_cancel];exact Za _ ox
 go_wp2_with fail
 go_region
 have s:Qb [g] u ((u.setCell ⟨g,e*2,none⟩<|.int .i64 (Zo j).1).setCell ⟨g,e*2+1,none⟩<|.int .i64 (Zo j).2).drew:=(((Qc [g] u).setCell (p:=⟨g,e*2,none⟩) sx _).setCell (p:=⟨g,e*2+1,none⟩) sx _).drew;have C:Qm ((u.setCell ⟨g,e*2,none⟩<|.int .i64 (Zo j).1).setCell ⟨g,e*2+1,none⟩<|.int .i64 (Zo j).2).drew 364 2 (.slice g (k+1) c) (k+1) (Xb<|(l.map Zo).set e<|Zo j):=by rw[<-nW];exact((q.o.put _ _).put _ _)
 have⟨h,F⟩:=qx<|((u.setCell ⟨g,e*2,none⟩<|.int .i64 (Zo j).1).setCell ⟨g,e*2+1,none⟩<|.int .i64 (Zo j).2).drew;rw[F]at s C ⊢;have S:g≠m:=yx (B.o.lt g (by simp[Qd,qo]))
 have I:g≠w:=ox
 have u:=H.o.kept s (by simp;exact G.o);have D:=J.o.kept s (by simp;exact fun n=>I n.symm);have B:=L.o.kept s (by simp;exact fun n=>S n.symm);have⟨J,H,G⟩:=qc (u.set 0<|.slice g k c) (Qm.kept (Qm.less C<|DF k) ((Qc [d] h).setCell (p:=d) sx<|.slice g k c) (by intro E i o;simp[Qd,qo]at i o;subst i;exact G.o o.symm))<|((A.o.trans y.o sx).mono (T:=[g]) sx).trans s fun E i=>.inl i;have:h.cell? d=some (.slice g (k+1) c):=u.cq 0;have:=u.free 0;have⟨A,y⟩:=qb (ox:d≠m) (ox:d≠w);have:(h.setCell ⟨d,0,none⟩<|.slice g k c).cell? m=some (.int .i64 (Zo t).1):=(B.kept ((Qc [d] h).setCell (p:=d) sx _) (by simp;exact fun n=>A.o n.symm)).cq 0;have:(h.setCell ⟨d,0,none⟩<|.slice g k c).cell? ⟨m.heap.size,1,none⟩=some (.int .i64 (Zo t).2):=(B.kept ((Qc [d] h).setCell (p:=d) sx _) (by simp;exact fun n=>A.o n.symm)).cq 1;have m:=D.kept ((Qc [d] h).setCell (p:=d) sx<|.slice g k c) (by simp;exact fun n=>y.o n.symm);have:(h.setCell ⟨d,0,none⟩<|.slice g k c).cell? w=some (.int .i64 0):=m.cq 0;have:(h.setCell ⟨d,0,none⟩<|.slice g k c).cell? ⟨w.heap.size,1,none⟩=some (.int .i64 0):=m.cq 1;have q2:=m.free 0;have:=m.free 1;have s0:=((m.set 0<|.int .i64 (Zo t).1).set 1<|.int .i64 (Zo t).2).cq 0 (u:=.int .i64 (Zo t).1);have s1:=((m.set 0<|.int .i64 (Zo t).1).set 1<|.int .i64 (Zo t).2).cq 1 (u:=.int .i64 (Zo t).2);have:(k:Int)<=c:=by obtain⟨n,n,n,A,-⟩:=Qm.sees q.o;cases n;omega
 have z:(0:Int)<=k:=ox
 go_wp2_with fail;refine Zj (v:=UX<|Zo t) (by simp[results,results303,go_sem,UX,s0,s1]) rfl ?_;have n:Qb [d,g] w (((h.setCell ⟨d,0,none⟩<|.slice g k c).setCell ⟨w.heap.size,0,none⟩<|.int .i64 (Zo t).1).setCell ⟨w.heap.size,1,none⟩<|.int .i64 (Zo t).2):=
  (((G.o.mono (T:=[d,g]) sx).setCell (p:=d) sx _).setCell (p:=w) sx _).setCell (p:=⟨w.heap.size,1,none⟩) sx _
 have m:Qb [w.heap.size] (h.setCell ⟨d,0,none⟩<|.slice g k c) (((h.setCell ⟨d,0,none⟩<|.slice g k c).setCell ⟨w.heap.size,0,none⟩<|.int .i64 (Zo t).1).setCell ⟨w.heap.size,1,none⟩<|.int .i64 (Zo t).2):=
  ((Qc [w.heap.size] _).setCell (p:=w) sx _).setCell (p:=⟨w.heap.size,1,none⟩) sx _
 refine⟨t,e,rfl,M.o,O.o,J.o.kept m (by simp;exact y.o),?_,n⟩;have i:(Xb<|(l.map Zo).set e<|Zo j).take (k*2)=Xb ((Jl l e).map Zo):=by
  rw[Qkk]
  congr 1
  unfold Jl;rw[x.o,U3,List.getD,P.o,V9,List.dropLast_eq_take,JO,x.o,U3,Ey,BU]
 rw[<-i];exact Qm.kept H.o m (by intro E i o;simp[Qd,qo]at i o;subst i;exact I o)
