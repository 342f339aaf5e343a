import Derived.Deep.WholeRow
import Derived.StillTailTactics
import Derived.Test.YtickjpnkoppmgaaGreatDoorAd
import Derived.Test.YtickjpnkoppmgaaGreatDoorAe
set_option linter.all false
namespace Go.Proofs.YtickjpnkoppmgaaGreatDoor
open Go.Proofs.Tryz Go.RowKit K
def Ce(s:BA)(i)(a:i<s.size):s.data.toList.getD i 0=s[i]'a:=by
 have b:i<s.data.toList.length:=by rwa[Rr]
 rw[List.getD,Qj b];rfl
def Iw(s:BA)(i)(a:i<s.size):s.data.toList.take (i+1)=s.data.toList.take i++[s[i]'a]:=by
 have b:i<s.data.toList.length:=by rwa[Rr]
 rw[Ay b];rfl
def Zo(s:BA):s.data.toList.length=s.size:=by rw[Rr];rfl
def pC(s:BA)(w0:WD)(k:Nat)(c:VL)(w:WD):Prop:=
 ∃a,1≤a∧a≤s.size+1∧k=s.size+1-a∧c=.int .i64 (a:Nat)∧(∀b,b+1<a→b+1<s.size→s.data.toList.getD b 0<s.data.toList.getD (b+1) 0)∧Qb [] w0 w
def OR(s:BA)(w)(hs:s.size≤140737488351232):
 Calls prog 201 #[s] w fun e w'=>e=.returned (.bool<|Vc s)∧Qb [] w w':=by
 go_enter func201,ntmps201
 go_wp2
 go_loopg [3] (s.size+1-1) (fun b a wr=>pC s w b a wr)
 ·exact⟨1,by omega,by omega,by omega,rfl,fun c d=>by omega,Qc _ _⟩
 obtain⟨a,b,hi,hk,rfl,h,b⟩:=hrel;have⟨k,g,f⟩:=qc hk h b
 by_cases hlt:a<s.size
 ·have:(a:Int)<s.size:=by omega
  have:IntKind.i64.wrap ((a:Int)-1)=(a:Int)-1:=Q3 _ (by omega);have h0:(0:Int)≤a-1:=by omega
  have:(1:Int)≤a:=by omega
  have:((a:Int)-1).toNat=a-1:=by omega
  have h:a-1<s.size:=by omega
  have:(a:Int)-1<(s.size:Int):=by omega
  by_cases b:s[a]≤s[a-1]
  ·have g1:decide (s[a].toNat≤s[a-1].toNat)=true:=Xs<|UInt8.le_iff_toNat_le.1 b;have i:=Qbh s (a-1) (by rw[Zo];omega) (by rw[show a-1+1=a by omega,Ce s _ h,Ce s _ hlt];exact Ee.2 b);have j:=Qa i;go_wp2_with fail;go_quiet (fail)
   go_wp2
   go_ret;exact⟨by rw[j.o];rfl,f.o.drewN _⟩
  have g1:decide (s[a].toNat≤s[a-1].toNat)=false:=Xz fun d=>b<|UInt8.le_iff_toNat_le.2 d
  have i:=Qa<|UInt8.not_le.1 b;go_wp2_with fail;go_quiet (fail)
  go_wp2
  go_roundg (s.size+1-(a+1))
  ·refine⟨a+1,by omega,by omega,rfl,by go_num,fun c b j=>?_,f.o.drewN _⟩
   by_cases k:c+1<a
   ·exact g.o c k j
   obtain rfl:c=a-1:=(by omega);rw[show a-1+1=a by omega,Ce s _ h,Ce s _ hlt];exact i.o
  have:=k.o;omega
 go_wp2
 go_ret;refine⟨?_,f.o⟩
 by_cases hz:s.size=0
 ·have:s.data.toList=[]:=J3 (by rwa[Zo]);rw[this];simp[Vc,X6,this]
 have hne:s.data.toList≠[]:=fun d=>hz (by rw[←Zo,d];rfl)
 rw[Qbi _ hne fun c b=>g.o c (by rw[Zo]at b;omega) (by rw[Zo]at b;omega)];have a:¬s.data=#[]:=by simpa using hne
 simp[X6,a]
def KT(l p)(a:p<l.length):(Qm l)[p]?=some (.int .u8 ((l.getD p 0).toNat:Nat)):=by simp[Qm,List.getD,Qj a]
def XU(l):(Qm l).length=l.length:=by simp[Qm]
def kV(l):∀v∈Qm l,v.oneCell'=true:=by intro v a;simp only[Qm,QB]at a;obtain⟨b,-,rfl⟩:=a;rfl
def Fs:(prog.info? 5).map (·.size)=some 1:=by kernel_rfl
def Qbu(g c p:Nat)(l w)(hp:p<l.length)(hc:l.length≤c)(hl:l.length≤140737488351232)(h:QK w g (Qm l)):
 Calls prog 202 #[.slice g l.length c,p] w fun e w'=>e=.returned (.int .u8 ((l.getD p 0).toNat:Nat))∧QK w' g (Qm<|K.turned l p)∧Qb [g] w w':=by
 have c0:=h.cell<|KT l p hp;have y7:IntKind.i64.wrap ((p:Int)+1)=(p:Int)+1:=Q3 _ (by omega);obtain⟨h0,h1,h2,h3,h4,h5⟩:(0:Int)≤p+1∧((p:Int)+1).toNat=p+1∧(p:Int)≤c∧(p:Int)+1≤(c:Int)∧(1:Int)≤p+1∧(p:Int)<l.length:=by omega
 have y0:∀v∈(Qm l).take p,v.oneCell'=true:=fun v hv=>kV l v<|VE hv
 have x4:((Qm l).take p).length=p:=by rw[Zl,XU];omega
 have x8:1+((Qm l).take p).length≤(Qm l).length:=by rw[x4,XU];omega
 have y1:∀j v,((Qm l).take p)[j]?=some v→w.cell? ⟨g,j,none⟩=some v:=fun j v hj=>h.cell (by
  rw[Bm]at hj
  split at hj
  ·exact hj
  cases hj)
 have x9:=jB (fun b:UInt8=>Value.int .u8 (b.toNat:Int)) l p hp;have⟨HB,x7,x5,x0,y2,x6⟩:=qf h y0 x4 x8 y1 x9
 by_cases y3:c=1
 ·obtain rfl:p=0:=by omega
  have y5:l.length=1:=by omega
  subst y3;have y6:IntKind.i64.wrap 1=1:=by decide
  go_enter func202,ntmps202;go_wp2_with fail;have h9:0<((Qm l).take 0).length→(some ⟨g,0,none⟩:OA)=some ⟨g,1,none⟩∧∃ad:Addr,(some ⟨g,0,none⟩:OA)=some ad∧∀j v,((Qm l).take 0)[j]?=some v→w.cell? (ad.add j)=some v:=
   fun h=>by simp at h
  have x2:=Qa h9
  go_region_held3 (fun w'=>True) (exact trivial) ((refine KO rfl _ _ 88 88 rfl 5 Xb Fs g g 0 0 0 1 rfl rfl g 1 (Qm l) ((Qm l).take 0) (HB.o.kept (Qc [] w).drew<|by simp) (by rw[x5.o];rfl) x2.o x0.o x7.o ?_;intro w1 q x3))
  have h8:(splice (Qm l) 1<|(Qm l).take 0).length=l.length:=by rw[Nz _ _ _ x0.o,XU]
  have d0:=q.cell<|Qj (by rw[h8];omega:0<(splice (Qm l) 1<|(Qm l).take 0).length);have f0:=q.free (by rw[h8];omega:0<(splice (Qm l) 1<|(Qm l).take 0).length);have o:=q.set 0 (.int .u8 ((l.getD 0 0).toNat:Nat)) (by rw[h8];omega);have o:QK (w1.setCell ⟨g,0,none⟩<|.int .u8 ((l.getD 0 0).toNat:Nat)) g (Qm<|K.turned l 0):=by have e:=x6.o;have e2:splice (Qm l) 1 ((Qm l).take 0)=splice (l.map fun b:UInt8=>Value.int .u8 (b.toNat:Int)) 1 ((l.map fun b:UInt8=>Value.int .u8 (b.toNat:Int)).take 0):=rfl;rw[e2]at o;rwa[Qm,←e]
  have y:(l.getD 0 0)=l[0]:=by rw[List.getD,Qj hp];rfl
  rw[y]at o;have⟨x1,HD⟩:=qb o y
  go_wp2
  go_ret;exact⟨by first|rfl|(rw[HD.o];rfl),x1.o,((Qc [g] w).drew.trans x3 fun x hx=>.inl hx).setCell (by simp) _⟩
 have y4:(1:Int)<c:=by omega
 go_enter func202,ntmps202;go_wp2_with fail;have h9:0<((Qm l).take p).length→(some ⟨g,1,none⟩:OA)=some ⟨g,1,none⟩∧∃ad:Addr,(some ⟨g,0,none⟩:OA)=some ad∧∀j v,((Qm l).take p)[j]?=some v→w.cell? (ad.add j)=some v:=
  fun _=>⟨rfl,_,rfl,fun j v hj=>by rw[YM,ZE];exact y2.o j v hj⟩
 have x2:=Qa h9
 go_region_held3 (fun w'=>True) (exact trivial)
  (first
    |(refine KO rfl _ _ 88 88 rfl 5 Xb Fs (some ⟨g,1,none⟩) g p (c-1) p c rfl rfl g 1 (Qm l) ((Qm l).take p) (HB.o.kept (Qc [] w).drew<|by simp) (by rw[x5.o];exact(Nat.min_self p).symm) x2.o x0.o x7.o ?_;intro w1 q x3))
 have h8:(splice (Qm l) 1<|(Qm l).take p).length=l.length:=by rw[Nz _ _ _ x0.o,XU]
 have d0:=q.cell<|Qj (by rw[h8];omega:0<(splice (Qm l) 1<|(Qm l).take p).length);have f0:=q.free (by rw[h8];omega:0<(splice (Qm l) 1<|(Qm l).take p).length);have o:=q.set 0 (.int .u8 ((l.getD p 0).toNat:Nat)) (by rw[h8];omega);have o:QK (w1.setCell ⟨g,0,none⟩<|.int .u8 ((l.getD p 0).toNat:Nat)) g (Qm<|K.turned l p):=by have e:=x6.o;have e2:splice (Qm l) 1 ((Qm l).take p)=splice (l.map fun b:UInt8=>Value.int .u8 (b.toNat:Int)) 1 ((l.map fun b:UInt8=>Value.int .u8 (b.toNat:Int)).take p):=rfl;rw[e2]at o;rwa[Qm,←e]
 have y:(l.getD p 0)=l[p]:=by rw[List.getD,Qj hp];rfl
 rw[y]at o;have⟨x1,HD⟩:=qb o y
 go_wp2
 go_ret;exact⟨by first|rfl|(rw[HD.o];rfl),x1.o,((Qc [g] w).drew.trans x3 fun x hx=>.inl hx).setCell (by simp) _⟩
def qP(w):(zeroValue 295).run prog w=.ok (.agg<|Array.replicate 256<|.bool false) w:=
 (zero_of_info (P:=prog) (t:=295) (v:=.agg<|Array.replicate 256<|.bool false) (n:=256)<|by kernel_rfl).1 w
def Vb(l:LU):LV:=(List.range 256).map fun a=>.bool (decide (UInt8.ofNat a∈l))
def FZ(l):(Vb l).length=256:=by simp[Vb]
def Qa9:(Array.replicate 256<|Value.bool false)=(Vb []).toArray:=by
 apply Array.ext
 ·simp[Vb]
 intro a a a;simp[Vb]
def Kh(l b)(a:b<256):(Vb l)[b]?=some (.bool<|decide<|UInt8.ofNat b∈l):=by simp[Vb,Xa a]
def Qba(l b):(Vb l).set b.toNat (.bool true)=Vb (l++[b]):=by
 apply Xo;intro a;rw[YO];have hb:=VM b
 by_cases hi:a<256
 ·rw[Kh _ _ hi,Kh _ _ hi,FZ]
  by_cases c:b.toNat=a
  ·rw[Qg c,Qg<|by omega];subst c;simp
  rw[Qf c];have:¬UInt8.ofNat a=b:=fun d=>c (by rw[←d,U7];omega)
  simp[this]
 have c:(Vb l)[a]?=none:=QX (by rw[FZ];omega);have d:(Vb<|l++[b])[a]?=none:=QX (by rw[FZ];omega);rw[c,d,Qf<|by omega]
def pD(s:BA)(w0:WD)(g:Nat)(k:Nat)(c:VL)(w:WD):Prop:=
 ∃a,a≤s.size∧k=s.size-a∧c=.int .i64 (a:Nat)∧QK w g (Vb (s.data.toList.take a))∧Qb [] w0 w
def pE(s:BA)(w0:WD)(g:Nat)(k:Nat)(v c:VL)(w:WD):Prop:=
 ∃a,a≤256∧k=256-a∧c=.int .i64 (a:Nat)∧Qh w 5 v (Qm (JB s a))∧QK w g (Vb s)∧Qb [] w0 w∧Qs w0.heap.size (Qd v)∧g∉Qd v
def Qgh(s:BA)(w)(hs:s.size≤140737488351232):
 Calls prog 161 #[s] w fun e w'=>e=.returned (.string ⟨(QL s).toArray⟩)∧Qb [] w w':=by
 have hz:=qP;go_enter func161,ntmps161;go_wp2_with fail;rw[Qa9];have c:=QK.new w (Vb []) 295;have f:Qb [] w (w.alloc<|.cells (Vb []).toArray 295):=(Qc _ _).alloc _;generalize w.alloc (.cells (Vb []).toArray 295)=W0 at c f ⊢;have⟨d,a⟩:=qx w.heap.size;rw[a]at c ⊢;have j:=Qa a
 go_loopg [9] s.size (fun k h wr=>pD s w d k h wr)
 ·exact⟨0,by omega,by omega,rfl,c,f⟩
 obtain⟨a,hi,hk,rfl,hb,b⟩:=hrel;have⟨l,g⟩:=qb hk b
 by_cases hlt:a<s.size
 ·have p:(a:Int)<s.size:=by omega
  have f:=VM<|s[a]'hlt;have c0:=hb.cell<|Kh _ (s[a]'hlt).toNat f;have:=hb.free (i:=(s[a]'hlt).toNat) (by rwa[FZ]);have c:=hb.set (s[a]'hlt).toNat (.bool true) (by rwa[FZ]);rw[Qba,←Iw s a hlt]at c;have i:=Qa c
  go_wp2
  go_roundg (s.size-(a+1))
  ·exact⟨a+1,by omega,rfl,by go_num,i.o,g.o.setCell (.inr (by rw[j.o];exact Ql _)) _⟩
  have:=l.o;omega
 obtain rfl:a=s.size:=by omega
 rw[Q8 (by rw[Zo];exact Ql _)]at hb;have c:=Qa hb;go_wp2_with fail;have n:=Qh.empty wr 5;have l:=c.o.kept ((Qc [] wr).alloc<|.cells #[] 5) (by simp);have m:=g.o.alloc<|.cells #[] 5;have i:Qs w.heap.size (Qd<|.slice (some ⟨wr.heap.size,0,none⟩) 0 0):=by intro a f;simp[Qd,qo]at f;have:=g.o.size;omega
 have j:d∉Qd (.slice (some ⟨wr.heap.size,0,none⟩) 0 0):=by have:=c.o.lt;simp[Qd,qo];omega
 generalize wr.alloc (.cells #[] 5)=W1 at n l m ⊢
 go_loopg [5,18] 256 (fun k a h wr=>pE s w d k a h wr)
 ·exact⟨0,by omega,by omega,rfl,n,l,m,i,j⟩
 obtain⟨a,f,hk,rfl,k,hb,b,i,j⟩:=hrel;have o:=Qa hk;have q:=lB s a
 by_cases hlt:a<256
 ·have p:(a:Int)<256:=by omega
  have c0:=hb.cell<|Kh _ a hlt;have:IntKind.u8.wrap (a:Int)=(a:Int):=by rw[CN];omega
  have⟨c,g,m,n⟩:=qd hb b i j
  by_cases f:UInt8.ofNat a∈s.data.toList
  ·have h:=lD s a f;have r:(Qm<|JB s a).length+1≤maxLen:=(by rw[XU];simp only[maxLen];omega);have t:((Qm<|JB s a).length+1)*1≤140737488355328:=(by rw[XU];omega);rw[Xs f]at c0;have l:=Qa h;go_wp2_with ((at_builtin;refine UW _ rfl _ _ 88 rfl 5 (.int .u8 0) 1 Xb YQ rfl _ _ [.int .u8 (a:Int)] 1 rfl rfl rfl rfl (by simp[Value.oneCell']) k r t ?_;intro a5 v x u q p))
   go_roundg (256-(a+1))
   ·refine⟨a+1,by omega,rfl,by go_num,?_,c.o.kept q n.o,g.o.new q m.o,m.o.grow p g.o.size,?_⟩
    ·rw[l.o,show Qm (JB s a++[UInt8.ofNat a])=Qm (JB s a)++[.int .u8 (a:Int)]by simp[Qm,U7,XP hlt]];exact u
    intro q;rcases p d q with d|d
    ·exact n.o d
    have:=c.o.lt;omega
   have:=o.o;omega
  have h:=lC s a f;rw[Xz f]at c0;have l:=Qa h
  go_wp2
  go_roundg (256-(a+1))
  ·exact⟨a+1,by omega,rfl,by go_num,by rwa[l.o],c.o,g.o,m.o,n.o⟩
  have:=o.o;omega
 obtain rfl:a=256:=by omega
 have:=Qh.text k;have g:=Qa b
 go_wp2
 go_ret;exact⟨rfl,g.o⟩
def Qi(l:LN):LV:=l.map fun a:Nat=>.int .i64 (a:Int)
def QF(l):(Qi l).length=l.length:=by simp[Qi]
def Dp(a b):Qi (a++b)=Qi a++Qi b:=by simp[Qi]
def Cs(l):Qi l=QM (l.map fun n:Nat=>(n:Int)):=by simp[Qi,QM]
def YI(p:LN × Nat)(w:WD)(e:Ending)(w':WD):Prop:=
 ∃a b,e=.returned (.tuple #[.slice a p.1.length b,(p.2:Nat)])∧Qh w' 3 (.slice a p.1.length b) (Qi p.1)∧Qb [] w w'∧Qs w.heap.size (fZ a)
def YI.err{w w' e n}(a:e=.returned (.tuple #[.slice none 0 0,(n:Nat)]))(hk:Qb [] w w'):YI ([],n) w e w':=
 ⟨none,0,a,Qh.nil _ _,hk,by simp[Qs,fZ]⟩
def YI.ok{w w' e l a c}(b:e=.returned (.tuple #[.slice a l.length c,(0:Int)]))(d:Qh w' 3 (.slice a l.length c) (Qi l))(hk:Qb [] w w')(hf:Qs w.heap.size (Qd<|.slice a l.length c)):YI (l,0) w e w':=
 ⟨a,c,b,d,hk,by rwa[←XK a l.length c]⟩
def Qh.fZ{w e a n c xs}(b:Qh w e (.slice a n c) xs):Qd (.slice a n c)=fZ a:=XK a n c
def zF(l:LU)(b p)(hp:p<l.length)(f:∀j,j<p→l.getD j 0≠b)(a:l.getD p 0=b):l.idxOf b=p:=by
 have d:l=l.take p++l[p]::l.drop (p+1):=by rw[←Z8 hp,V6]
 have hb:l[p]=b:=by rwa[List.getD,Qj hp]at a
 have a:b∉l.take p:=by intro a;obtain⟨j,e,c⟩:=PT a;rw[Zl]at e;refine f j (by omega) ?_;rw[List.getD,Qj (by omega:j<l.length)];rwa[List.getElem_take]at c
 rw[d,List.idxOf_append,Qf a,Zl,hb,List.idxOf_cons_self];omega
def zH(l:LU)(b)(e:∀j,j<l.length→l.getD j 0≠b):l.idxOf b=l.length:=by apply List.idxOf_eq_length;intro d;obtain⟨j,a,c⟩:=PT d;refine e j a ?_;rwa[List.getD,Qj a]
def eH(g c p n l w)(f:l.length=n)(hp:p<n)(b:n≤c)(d:n≤140737488351232)(a:QK w g (Qm l)):
 Calls prog 202 #[.slice g n c,p] w fun e w'=>e=.returned (.int .u8 ((l.getD p 0).toNat:Nat))∧QK w' g (Qm<|K.turned l p)∧Qb [g] w w':=by
 subst f;exact Qbu g c p l w hp b d a
def pA(s t:BA)(w0:WD)(g:Nat)(k:Nat)(v c:VL)(w:WD):Prop:=
 ∃a b d,a≤s.size∧k=s.size-a∧c=.int .i64 (a:Nat)∧Qh w 3 v (Qi d)∧d.length=a∧QK w g (Qm b)∧b.length=t.size∧
  K.front t.data.toList s.data.toList=(K.front b (s.data.toList.drop a)).map (d++ ·)∧Qb [] w0 w∧Qs w0.heap.size (g::Qd v)∧g∉Qd v
def pB(b:UInt8)(d:LU)(w0:WD)(k:Nat)(c:VL)(w:WD):Prop:=
 ∃a f,a≤d.length∧k=d.length-a∧c=.int .i64 (a:Nat)∧(∀e,e<a→d.getD e 0≠b)∧w=w0.drewN f
set_option maxHeartbeats 1000000 in
def Qf4(s t:BA)(w)(hs:s.size≤1000000)(a:t.size≤1000000000):
 Calls prog 162 #[s,t] w (YI (Af s.data.toList t.data.toList) w):=by
 go_enter func162,ntmps162;go_wp2_with fail;refine(OR t _<|by omega).mono ?_;rintro I a⟨rfl,b⟩;have y:=Qa b;clear b;rcases JD (Vc t.data.toList)with h|h
 ·have m:Af s.data.toList t.data.toList=match K.front t.data.toList s.data.toList with|none=>([],60)|some l=>(l,0):=by unfold Af;rw[h];rfl
  have r:=Qa m;rw[h];obtain⟨cap,d,D⟩:=TN a t;have b:=QK.bytes a.drew t cap D;have g:Qb [] a (a.drew.alloc<|.cells (bytesRow t cap) 5 ((bytesRow t cap).size,(bytesRow t cap).size+1)):=(Qc _ _).drew.alloc _;have c:(a.drew.alloc<|.cells (bytesRow t cap) 5 ((bytesRow t cap).size,(bytesRow t cap).size+1)).heap.size=a.heap.size+1:=by simp
  have j:a.drew.heap.size=a.heap.size:=rfl;rw[j]at b;generalize a.drew.alloc (.cells (bytesRow t cap) 5 ((bytesRow t cap).size,(bytesRow t cap).size+1))=W0 at b g d c;have⟨f,e⟩:=qx a.heap.size;rw[e]at b d c;have⟨n,a,o,i⟩:=qd e b g c;clear m h b g c j e;go_wp2_with ((at_make;refine YZ rfl _ _ 51 rfl 3 (0:Int) 8 XC XJ rfl .i64 .i64 _ _ 0 s.size rfl rfl rfl rfl (by omega) (by omega) (by simp only[maxLen];omega) ?_;intro c H b));have k:=Qa (a.o.kept b<|by simp);have:f<W0.heap.size:=by have:=i.o;omega
  have j:Qb [] w c:=(y.o.new o.o<|by simp[Qs]).new b (by simp[Qs]);have g:Qs w.heap.size (f::Qd (.slice W0.heap.size 0 s.size)):=by
   have e:=y.o.size;have:=n.o;intro c a;simp[Qd,qo]at a;rcases a with rfl|rfl
   ·omega
   have:=i.o;omega
  have i:f∉Qd (.slice W0.heap.size 0 s.size):=by simp[Qd,qo];omega
  have⟨n,p,o⟩:=qc g i j;clear b j g i d
  go_loopg [7,20] s.size (fun i d b wr=>pA s t w f i d b wr)
  ·exact⟨0,t.data.toList,[],by omega,by omega,rfl,H,rfl,k.o,Zo t,by simp,o.o,n.o,p.o⟩
  obtain⟨d,g,v,hi,hk,rfl,G,F,hb,A,n,u,j,E⟩:=hrel;have⟨M,x,k,B,C,o,q,p⟩:=qh hk n A F G hb u j;have z:=Qa E;clear hk H n A F G hb u j E
  by_cases hlt:d<s.size
  ·have:(d:Int)<s.size:=(by omega);have j:s.data.toList.drop d=s[d]::s.data.toList.drop (d+1):=(by have e:d<s.data.toList.length:=(by rw[Zo];exact hlt);exact Z8 e);have E:=Qa j;clear j;obtain⟨e,rfl⟩:∃e:WD,e=wr:=⟨_,rfl⟩
   go_wp2
   go_loopg [9] g.length (fun i b wr=>pB s[d] g e i b wr)
   ·exact⟨0,0,by omega,by omega,rfl,fun j J=>by omega,rfl⟩
   obtain⟨b,i,hp,hk,rfl,i,rfl⟩:=hrel;have⟨O,A⟩:=qb hk i;have:b≤t.size:=(by have:=k.o;omega);clear hk i
   by_cases G:b<t.size
   ·have u:b<g.length:=(by have:=k.o;omega);obtain⟨_,_⟩:(b:Int)<t.size∧(b:Int)<cap:=(by omega);have c0:=o.o.cell<|KT g b u;have⟨c,a⟩:=qx<|g.getD b 0;rw[a]at c0;have H:=Qa a;clear a
    by_cases i:c=s[d]
    ·have n:=zF g s[d] b u A.o<|H.o.trans i;rw[i]at c0;have F:=Qa n;clear n i;go_wp2_with fail;go_quiet (fail);go_wp2_with fail;refine(eH f cap b t.size g _ k.o G D (by omega)<|by exact o.o).mono ?_;rintro I D⟨rfl,I,o⟩;have o:Qb [f] e D:=((Qc [f] e).drewN _).trans o fun c a=>.inl a;have R:=C.o.kept o (fun c a e=>z.o<|by rwa[Za.1 e]at a);have P:(Qi v).length+1≤maxLen:=(by rw[QF,B.o];simp only[maxLen];omega);have Q:((Qi v).length+1)*8≤140737488355328:=(by rw[QF,B.o];omega);have⟨D,G⟩:=qb I o;clear I o;go_wp2_with ((at_builtin;refine UW _ rfl _ _ 51 rfl 3 (0:Int) 8 XC XJ rfl _ _ [(b:Int)] 1 rfl rfl rfl rfl (by simp[Value.oneCell']) R P Q ?_;intro a5 o T S L I))
     go_roundg (s.size-(d+1))
     case measure=>have:=M.o;omega
     have o:Qs w.heap.size (Qd u7):=fun c a=>p.o c (by simp[a])
     refine⟨d+1,K.turned g b,v++[b],by omega,rfl,by go_num,?_,by simp[B.o],D.o.kept L z.o,by rw[DA _ _ u,k.o],?_,?_,?_,?_⟩
     ·rw[Dp];exact S
     ·rw[x.o,E.o,wZ _ _ _<|by rwa[F.o],F.o,dI]
     ·exact(q.o.trans G.o fun c a=>.inr (by rw[Za.1 a];exact p.o f<|by simp)).new L o
     ·intro c a;rcases QE.1 a with rfl|a
      ·exact p.o _ (by simp)
      rcases I c a with e|e
      ·exact o c e
      exact QS q.o.size<|QS G.o.size e
     intro h;rcases I f h with e|e
     ·exact z.o e
     have:=D.o.lt;omega
    have o:¬c.toNat=(s[d]'hlt).toNat:=fun e=>i<|CZ.1 e
    have g1:(((c.toNat:Nat):Int) != (((s[d]'hlt).toNat:Nat):Int))=true:=VO.2 (by omega);have f:=Qa i;clear i o;go_wp2_with fail;go_quiet (fail)
    go_wp2
    go_roundg (g.length-(b+1))
    ·refine⟨b+1,_,by omega,rfl,by go_num,fun j J=>?_,rfl⟩;rcases Xq j b with e|e
     ·exact A.o j e
     obtain rfl:j=b:=(by omega);rw[H.o];exact f.o
    have:=O.o;omega
   obtain rfl:b=t.size:=(by omega);have n:=zH g s[d] (fun j J=>A.o j (by have:=k.o;omega));have b:Af s.data.toList t.data.toList=([],60):=(by rw[r.o,x.o,E.o,xC _ _ _ n];rfl);have e:=Qa b;clear n b;go_wp2_with fail;go_quiet (fail)
   go_wp2
   go_ret2;rw[e.o];exact YI.err (by rfl)<|q.o.drewN _
  obtain rfl:d=s.size:=by omega
  have b:s.data.toList.drop s.size=[]:=JI (by rw[Zo];exact Ql _);have d:Af s.data.toList t.data.toList=(v,0):=by rw[r.o,x.o,b];simp[K.front]
  have f:=Qa d;obtain⟨e,e,e,-,-,-,-⟩:=C.o.sees;rw[QF]at e;subst e;clear b d
  go_wp2
  go_ret2;rw[f.o];exact YI.ok (by rfl) C.o q.o (fun c a=>p.o c<|by simp[a])
 have m:Af s.data.toList t.data.toList=([],2):=by unfold Af;rw[h];rfl
 have r:=Qa m;rw[h];clear m h
 go_wp2
 go_ret2;rw[r.o];exact YI.err (by rfl) y.o
def CW(p:LU × Nat)(w:WD)(e:Ending)(w':WD):Prop:=
 e=.returned (.tuple #[.string ⟨p.1.toArray⟩,(p.2:Nat)])∧Qb [] w w'
def oY(xs:LI)(t:BA)(w0:WD)(g:Nat)(k:Nat)(v c:VL)(w:WD):Prop:=
 ∃a b d,a≤xs.length∧k=xs.length-a∧c=.int .i64 (a:Nat)∧Qh w 5 v (Qm d)∧d.length=a∧QK w g (Qm b)∧b.length=t.size∧
  K.back t xs=(K.back b (xs.drop a)).map (d++ ·)∧Qb [] w0 w∧Qs w0.heap.size (g::Qd v)∧g∉Qd v
set_option maxHeartbeats 1000000 in
def Qfy(a b xs)(t:BA)(w)(d:Qp w 1 a xs.length (QM xs))(hs:xs.length≤1000000)(c:t.size≤1000000000):
 Calls prog 228 #[.slice a xs.length b,t] w (CW (AH xs t) w):=by
 have r:=Qa d;clear d;go_enter func228,ntmps228;go_wp2_with fail;refine(OR t _<|by omega).mono ?_;rintro J b⟨rfl,c⟩;have v:=Qa c;clear c;rcases JD (Vc t)with h|h
 ·have o:AH xs t=match K.back t xs with|none=>([],60)|some l=>(l,0):=by unfold AH;rw[h];rfl
  have n:=Qa o;rw[h];obtain⟨cap,f,A⟩:=TN b t;have c:=QK.bytes b.drew t cap A;have j:Qb [] b (b.drew.alloc<|.cells (bytesRow t cap) 5 ((bytesRow t cap).size,(bytesRow t cap).size+1)):=(Qc _ _).drew.alloc _;have e:(b.drew.alloc<|.cells (bytesRow t cap) 5 ((bytesRow t cap).size,(bytesRow t cap).size+1)).heap.size=b.heap.size+1:=by simp
  have m:b.drew.heap.size=b.heap.size:=rfl;rw[m]at c;generalize b.drew.alloc (.cells (bytesRow t cap) 5 ((bytesRow t cap).size,(bytesRow t cap).size+1))=W0 at c j f e;have⟨g,i⟩:=qx b.heap.size;rw[i]at c f e;have⟨q,b,s,k⟩:=qd i c j e;clear o h c j e m i;go_wp2_with ((at_make;refine YZ rfl _ _ 88 rfl 5 (.int .u8 0) 1 Xb YQ rfl .i64 .i64 _ _ 0 xs.length rfl rfl rfl rfl (by omega) (by omega) (by simp only[maxLen];omega) ?_;intro c G e));have p:=Qa (b.o.kept e<|by simp);have:g<W0.heap.size:=by have:=k.o;omega
  have m:Qb [] w c:=(v.o.new s.o<|by simp[Qs]).new e (by simp[Qs]);have j:Qs w.heap.size (g::Qd (.slice W0.heap.size 0 xs.length)):=by
   have i:=v.o.size;have:=q.o;intro c b;simp[Qd,qo]at b;rcases b with rfl|rfl
   ·omega
   have:=k.o;omega
  have k:g∉Qd (.slice W0.heap.size 0 xs.length):=by simp[Qd,qo];omega
  have⟨q,u,s⟩:=qc j k m;clear e m j k f
  go_loopg [7,20] xs.length (fun f j e wr=>oY xs t w g f j e wr)
  ·exact⟨0,t.data.toList,[],by omega,by omega,rfl,G,rfl,p.o,Zo t,by simp,s.o,q.o,u.o⟩
  obtain⟨f,j,m,hi,hk,rfl,F,E,hb,B,e,y,s,D⟩:=hrel;have⟨I,p,q,z,C,H,k,u⟩:=qh hk e B E F hb y s;have x:=Qa D;clear hk G e B E F hb y s D
  by_cases hlt:f<xs.length
  ·have:(f:Int)<xs.length:=(by omega);have⟨c,b⟩:=qy xs f hlt;have e:xs.drop f=c::xs.drop (f+1):=(by obtain⟨i,rfl⟩:=Qz.1 b;exact Z8 i);have s:=Qa e;obtain⟨b0,off,rfl,-⟩:=r.o.at (by rw[Xk];omega);have c0:=(r.o.kZ k.o).int b;clear e b
   by_cases r:c<0
   ·have i:AH xs t=([],60):=(by rw[n.o,p.o,s.o,K.back,Qg<|.inl r];rfl);have y:=Qa i;have g1:decide (c<0)=true:=Xs r;clear i
    go_wp2
    go_ret2;rw[y.o];exact⟨by rfl,k.o⟩
   have g1:decide (c<0)=false:=Xz r;obtain⟨e,rfl⟩:=X7 (by omega:0≤c)
   by_cases B:t.size≤e
   ·have i:AH xs t=([],60):=(by rw[n.o,p.o,s.o,K.back,Qg<|.inr (by have:=q.o;omega)];rfl);have y:=Qa i;have B:(t.size:Int)≤e:=(by omega);clear i
    go_wp2
    go_ret2;rw[y.o];exact⟨by rfl,k.o⟩
   obtain⟨B,i⟩: ¬(t.size:Int)≤e∧e<t.size:=(by omega);have L:e<j.length:=(by have:=q.o;omega);clear r;go_wp2_with fail;refine(eH g cap e t.size j _ q.o i A (by omega)<|by exact H.o).mono ?_;rintro J i⟨rfl,D,r⟩;have H:=C.o.kept r (fun c b d=>x.o<|by rwa[Za.1 d]at b);have F:(Qm m).length+1≤maxLen:=(by rw[XU,z.o];simp only[maxLen];omega);have G:((Qm m).length+1)*1≤140737488355328:=(by rw[XU,z.o];omega);have⟨i,y⟩:=qx<|j.getD e 0;rw[y];have⟨E,A,B⟩:=qc y D r;clear D r y c0;go_wp2_with ((at_builtin;refine UW _ rfl _ _ 88 rfl 5 (.int .u8 0) 1 Xb YQ rfl _ _ [.int .u8 (i.toNat:Int)] 1 rfl rfl rfl rfl (by simp[Value.oneCell']) H F G ?_;intro a5 r M J D y))
   go_roundg (xs.length-(f+1))
   case measure=>have:=I.o;omega
   have r:Qs w.heap.size (Qd u7):=fun c b=>u.o c (by simp[b])
   refine⟨f+1,K.turned j e,m++[i],by omega,rfl,by go_num,?_,by simp[z.o],A.o.kept D x.o,by rw[DA _ _ L,q.o],?_,?_,?_,?_⟩
   ·rw[show Qm (m++[i])=Qm m++[.int .u8 (i.toNat:Int)]by simp[Qm]];exact J
   ·have q:K.back j ((e:Int)::xs.drop (f+1))=(K.back (K.turned j e)<|xs.drop<|f+1).map (i:: ·):=(by rw[K.back,Qf<|by omega,Zs,show j.getD e default=i from E.o]);rw[p.o,s.o,q,dI]
   ·exact(k.o.trans B.o fun c b=>.inr (by rw[Za.1 b];exact u.o g<|by simp)).new D r
   ·intro c b;rcases QE.1 b with rfl|b
    ·exact u.o _ (by simp)
    rcases y c b with d|d
    ·exact r c d
    exact QS k.o.size<|QS B.o.size d
   intro h;rcases y g h with d|d
   ·exact x.o d
   have:=A.o.lt;omega
  obtain rfl:f=xs.length:=by omega
  have b:xs.drop xs.length=[]:=JI<|Ql _;have c:AH xs t=(m,0):=by rw[n.o,p.o,b];simp[K.back]
  have d:=Qa c;have:=Qh.text C.o;clear b c
  go_wp2
  go_ret2;rw[d.o];exact⟨by rfl,k.o⟩
 have o:AH xs t=([],2):=by unfold AH;rw[h];rfl
 have n:=Qa o;rw[h];clear o h
 go_wp2
 go_ret2;rw[n.o];exact⟨by rfl,v.o⟩
def JO(x a:Int × Int):Int:=if x.1=a.1 then x.2-a.2 else x.1-a.1
def Mr(x a):JO x a<0↔x.1<a.1∨(x.1=a.1∧x.2<a.2):=by unfold JO;split<;>omega
def VK(x:Int × Int):Prop:=(-1000000000000≤x.1∧x.1≤1000000000000)∧(-1000000000000≤x.2∧x.2≤1000000000000)
def UA(x:Int × Int):VL:=.agg #[x.1,x.2]
def Dy(x:Int × Int):LV:=[x.1,x.2]
def ZW(l:List (Int × Int)):LV:=l.flatMap Dy
def Dz(l):(ZW l).length=l.length*2:=by
 induction l with
 |nil=>rfl
 |cons x l ih=>rw[ZW,Jn,Qo,←ZW,ih];simp[Dy];omega
def kP(a b):ZW (a++b)=ZW a++ZW b:=by simp[ZW]
def CH{l i x}(a:l[i]?=some x):(ZW l)[i*2]?=some (.int .i64 x.1)∧(ZW l)[i*2+1]?=some (.int .i64 x.2):=by
 induction l generalizing i with
 |nil=>simp at a
 |cons y l ih=>
  cases i with
  |zero=>simp at a;subst a;exact⟨rfl,rfl⟩
  |succ i=>have b:=ih (i:=i) (by simpa using a);rw[show(i+1)*2=i*2+1+1 by omega,ZW,Jn,Dy];simp only[Yf,Yy,V3];exact b
def kQ(l i x):((ZW l).set (i*2) x.1).set (i*2+1) x.2=ZW (l.set i x):=by
 induction l generalizing i with
 |nil=>simp[ZW]
 |cons y l ih=>
  cases i with
  |zero=>rfl
  |succ i=>have a:=ih i;rw[show(i+1)*2=i*2+1+1 by omega];simp only[ZW,Jn,Dy,Yf,Yy,UD]at a ⊢;rw[a]
def Qh6(l k):(ZW l).take (k*2)=ZW (l.take k):=by
 induction l generalizing k with
 |nil=>simp[ZW]
 |cons y l ih=>
  cases k with
  |zero=>rfl
  |succ k=>have a:=ih k;rw[show(k+1)*2=k*2+1+1 by omega];simp only[ZW,Jn,Dy,Yf,Yy,Sd]at a ⊢;rw[a]
def MW(a b c d:Int)(w):(binOp .eql 364 (.agg #[a,b])<|.agg #[c,d]).run prog w=.ok (.bool<|a==c&&b==d) w:=by
 rw[run_eql_struct,run_equalIn_agg _ _ _ _ _ (by kernel_rfl)<|by kernel_rfl];simp[Program.fieldsOf,underlying364,Op.eqFields,go_sem,part,U6]
 by_cases e:a=c<;>by_cases f:b=d<;>simp[e,f]
def lV(x a:Int × Int)(w:WD)(e:Ending)(w':WD):Prop:=e=.returned (.int .i64 (JO x a))∧Qb [] w w'
def qW(x d w)(f:VK x)(g:VK d):Calls prog 284 #[UA x,UA d] w (lV x d w):=by
 obtain⟨a,b⟩:=x;obtain⟨c,e⟩:=d;obtain⟨⟨d,h⟩,i,j⟩:=f;obtain⟨⟨f,k⟩,l,m⟩:=g;simp only at d h i j f k l m;unfold UA;have h:=fun d=>MW a b c e d
 by_cases d:a=c
 ·by_cases i:b=e
  ·subst d;subst i;have g:(a==a&&b==b)=true:=(by simp);rw[g]at h;have f:=Qa (by unfold JO;simp:JO (a,b) (a,b)=0);go_enter func284,Fo
   go_wp2
   go_ret;exact⟨by rw[f.o];rfl,((Qc _ _).alloc _).alloc _⟩
  have g:(a==c&&b==e)=false:=by simp[i]
  rw[g]at h;have f:=Qa (by unfold JO;simp[d]:JO (a,b) (c,e)=b-e);have g1:(a==c)=true:=by simp[d]
  have i:(a != c)=false:=by simp[d]
  have:=Qa d;go_enter func284,Fo
  go_wp2
  go_ret;exact⟨by rw[f.o];rfl,((Qc _ _).alloc _).alloc _⟩
 have g:(a==c&&b==e)=false:=by simp[d]
 rw[g]at h;have f:=Qa (by unfold JO;simp[d]:JO (a,b) (c,e)=a-c);have g1:(a==c)=false:=by simp[d]
 have i:(a != c)=true:=by simp[d]
 go_enter func284,Fo
 go_wp2
 go_ret;exact⟨by rw[f.o];rfl,((Qc _ _).alloc _).alloc _⟩
def Qp.tree{w b off n i l x}(a:Qp w 2 (some ⟨b,off,none⟩) n (ZW l))(c:l[i]?=some x):
 w.cell? ⟨b,off+i*2,none⟩=some (.int .i64 x.1)∧w.cell? ⟨b,off+i*2+1,none⟩=some (.int .i64 x.2):=by
 obtain⟨d,e⟩:=CH c;obtain⟨c,c,c,c1⟩:=a.2 _ _ d;obtain⟨d,d,d,c2⟩:=a.2 _ _ e;cases c;cases d;exact⟨c1,c2⟩
def PN(l:List (Int × Int))(m:Int × Int):Prop:=∀a∈l,¬(a.1<m.1∨(a.1=m.1∧a.2<m.2))
def nS(l:List (Int × Int))(w:WD)(e:Ending)(w':WD):Prop:=∃a:Int × Int,e=.returned (UA a)∧a∈l∧PN l a∧Qb [] w w'
def nR(w0:WD)(l:List (Int × Int))(d c:Nat)(k:Nat)(v:VL)(wr:WD):Prop:=
 ∃(a:Nat)(b:Int × Int),1≤a∧a≤l.length∧k=l.length-a∧v=.int .i64 (a:Nat)∧Hid (b∈l∧PN (l.take a) b)∧Hid (Qe wr c 364 [b.1,b.2])∧
  Hid (Qe wr d 364 [(0:Int),(0:Int)])∧Hid (Qb [] w0 wr)
def Qbp(a c l w)(h:Qp w 2 a l.length (ZW l))(h0:1≤l.length)(hl:l.length≤1000000)(hb:∀x∈l,VK x):
 Calls prog 304 #[.slice a l.length c,.func (.func 284) #[] #[]] w (nS l w):=by
 have HS:=Qa h;obtain⟨b,off,rfl,-⟩:=h.at (by rw[Dz];omega);obtain⟨x0,x2⟩:∃x,l[0]?=some x:=⟨_,Qj<|by omega⟩;obtain⟨c0,c1⟩:=HS.o.tree x2;have g0:decide ((l.length:Int)<1)=false:=by simp;omega
 have y2:(0:Int)<l.length:=by omega
 have⟨x4,HB⟩:=qb x2 hb;rw[GZ,Jb]at c0 c1;have x8:b<w.heap.size:=JN w _ c0;go_enter func304,ntmps304;go_wp2_with fail;have⟨HG,HR,HK⟩:=qc (Qy (w.alloc<|.cells #[(0:Int),(0:Int)] 364) [x0.1,x0.2] 364) ((Qy w [(0:Int),(0:Int)] 364).kept ((Qc [] _).alloc<|.cells #[x0.1,x0.2] 364)<|by simp)<|((Qc [] w).alloc<|.cells #[(0:Int),(0:Int)] 364).alloc<|.cells #[x0.1,x0.2] 364;have e1:(w.alloc<|.cells #[(0:Int),(0:Int)] 364).heap.size=w.heap.size+1:=by simp
 rw[e1]at HG
 go_loopg [6] (l.length-1) (fun k v wr=>nR w l w.heap.size (w.heap.size+1) k v wr)
 case atStart=>exact⟨1,x0,Ql _,h0,by omega,rfl,Qa ⟨QA x4.o,fun x hx=>by
  have:l.take 1=[x0]:=by
   have hh:=x4.o;cases l with
   |nil=>simp at hh
   |cons y r=>simp at hh;subst hh;rfl
  rw[this]at hx;simp at hx;subst hx;omega⟩,HG,HR,HK⟩
 obtain⟨i,m,h1,hi,hk,rfl,HM,HG,HR,HK⟩:=hrel;have Hk:=Qa hk
 by_cases hlt:i<l.length
 ·have y0:(i:Int)<l.length:=by omega
  have⟨x,hx⟩:=qy l i hlt;obtain⟨d0,d1⟩:=(HS.o.kZ HK.o).tree hx;have d2:wr.cell? ⟨w.heap.size+1,0,none⟩=some (.int .i64 m.1):=HG.o.cell (i:=0) rfl;have d3:wr.cell? ⟨w.heap.size+1,1,none⟩=some (.int .i64 m.2):=HG.o.cell (i:=1) rfl;have⟨HA,HX⟩:=qb (fun W=>qW x m W (HB.o x<|QA hx)<|HB.o m HM.o.1) hx;unfold UA at HA
  by_cases x1:JO x m<0
  ·have x7:decide (JO x m<0)=true:=Xs x1;go_wp2_with fail
   go_region_held3 (fun q=>Qb [] wr q∧q.cell? ⟨b,off+i*2,none⟩=some (.int .i64 x.1)∧q.cell? ⟨b,off+i*2+1,none⟩=some (.int .i64 x.2)∧q.cell? ⟨w.heap.size+1,0,none⟩=some (.int .i64 m.1)∧q.cell? ⟨w.heap.size+1,1,none⟩=some (.int .i64 m.2))
    (first|exact⟨(Qc _ _).drew,d0,d1,d2,d3⟩|exact⟨o,o.cZ d0<|by simp,o.cZ d1<|by simp,o.cZ d2<|by simp,o.cZ d3<|by simp⟩)
    (first|(go_at_call 284;refine(HA.o _).mono ?_;rintro e w2⟨rfl,h9⟩;have o:Qb [] wr w2:=(Qc [] wr).drew.trans h9<|by simp))
   rename_i hS;have⟨h3,h5,h4⟩:=qc (HG.o.kept o<|by simp) (HR.o.kept o<|by simp) (HK.o.trans o<|by simp);have e0:=o.cZ d0 (by simp);have e1:=o.cZ d1 (by simp);have e2:=o.cZ d2 (by simp);have e3:=o.cZ d3 (by simp);have f0:=h3.o.free 0;have f1:=h3.o.free 1;have x9:w.heap.size+1<w2.heap.size:=h3.o.lt;have⟨x5,x6,h8⟩:=qc ((h3.o.set 0<|.int .i64 x.1).set 1<|.int .i64 x.2) ((h5.o.kept (((Qc [w.heap.size+1] w2).setCell (p:=⟨w.heap.size+1,0,none⟩) (by simp)<|.int .i64 x.1).setCell (p:=⟨w.heap.size+1,1,none⟩) (by simp)<|.int .i64 x.2)<|by simp))<|(h4.o.setCell (p:=⟨w.heap.size+1,0,none⟩) (by simp)<|.int .i64 x.1).setCell (p:=⟨w.heap.size+1,1,none⟩) (by simp)<|.int .i64 x.2
   go_wp2
   go_roundg (l.length-(i+1))
   ·refine⟨i+1,x,by omega,by omega,rfl,by simp,Qa ⟨QA HX.o,fun y hy=>?_⟩,x5,x6,h8⟩;rw[Mr]at x1;rw[Zt,HX.o]at hy;rcases Q6.1 hy with h|h
    ·have:=HM.o.2 y h;omega
    simp at h;subst h;omega
   have:=Hk.o;omega
  have x7:decide (JO x m<0)=false:=Xz x1;go_wp2_with fail
  go_region_held3 (fun q=>Qb [] wr q∧q.cell? ⟨b,off+i*2,none⟩=some (.int .i64 x.1)∧q.cell? ⟨b,off+i*2+1,none⟩=some (.int .i64 x.2)∧q.cell? ⟨w.heap.size+1,0,none⟩=some (.int .i64 m.1)∧q.cell? ⟨w.heap.size+1,1,none⟩=some (.int .i64 m.2))
   (first|exact⟨(Qc _ _).drew,d0,d1,d2,d3⟩|exact⟨o,o.cZ d0<|by simp,o.cZ d1<|by simp,o.cZ d2<|by simp,o.cZ d3<|by simp⟩)
   (first|(go_at_call 284;refine(HA.o _).mono ?_;rintro e w2⟨rfl,h9⟩;have o:Qb [] wr w2:=(Qc [] wr).drew.trans h9<|by simp))
  rename_i hS;have⟨h3,h5,h4⟩:=qc (HG.o.kept o<|by simp) (HR.o.kept o<|by simp) (HK.o.trans o<|by simp)
  go_wp2
  go_roundg (l.length-(i+1))
  ·refine⟨i+1,m,by omega,by omega,rfl,by simp,Qa ⟨HM.o.1,fun y hy=>?_⟩,h3,h5,h4⟩;rw[Zt,HX.o]at hy;rcases Q6.1 hy with h|h
   ·exact HM.o.2 y h
   simp at h;rw[h];have h2:=Mr x m;omega
  have:=Hk.o;omega
 obtain rfl:i=l.length:=by omega
 have y1:¬(l.length:Int)<l.length:=by omega
 have d2:wr.cell? ⟨w.heap.size+1,0,none⟩=some (.int .i64 m.1):=HG.o.cell (i:=0) rfl;have d3:wr.cell? ⟨w.heap.size+1,1,none⟩=some (.int .i64 m.2):=HG.o.cell (i:=1) rfl;have r0:wr.cell? w=some (.int .i64 0):=HR.o.cell (i:=0) rfl;have r1:wr.cell? ⟨w.heap.size,1,none⟩=some (.int .i64 0):=HR.o.cell (i:=1) rfl;have f0:=HR.o.free 0;have f1:=HR.o.free 1;have s0:((wr.setCell ⟨w.heap.size,0,none⟩ m.1).setCell ⟨w.heap.size,1,none⟩ m.2).cell? w=some (.int .i64 m.1):=((HR.o.set 0 m.1).set 1 m.2).cell (i:=0) rfl;have s1:((wr.setCell ⟨w.heap.size,0,none⟩ m.1).setCell ⟨w.heap.size,1,none⟩ m.2).cell? ⟨w.heap.size,1,none⟩=some (.int .i64 m.2):=((HR.o.set 0 m.1).set 1 m.2).cell (i:=1) rfl;have hM:=HM.o;rw[Q8<|Ql _]at hM;have⟨x3,h8⟩:=qb hM<|(HK.o.setCell (p:=w) (by simp) m.1).setCell (p:=⟨w.heap.size,1,none⟩) (by simp) m.2;go_wp2_with fail;refine Q5 (v:=UA m) (by simp[results,results304,go_sem,UA,s0,s1]) rfl ?_;exact⟨m,rfl,x3.o.1,x3.o.2,h8.o⟩
def nE(l:List (Int × Int))(x:Int × Int)(w:WD)(e:Ending)(w':WD):Prop:=∃a:Nat,e=.returned (a:Nat)∧l[a]?=some x∧Qb [] w w'
def zC(a c l x w)(b:Qp w 2 a l.length (ZW l))(d:l.length≤1000000)(d:x∈l):
 Calls prog 305 #[.slice a l.length c,UA x] w (nE l x w):=by
 have⟨i,o⟩:=qb b d;have:0<l.length:=PU d;obtain⟨e,off,rfl,-⟩:=b.at (by rw[Dz];omega);unfold UA;go_enter func305,ntmps305;go_wp2_with fail;have⟨g,f⟩:=qb (Qy w [x.1,x.2] 364)<|(Qc [] w).alloc<|.cells #[x.1,x.2] 364
 go_loopg [8] l.length (fun e h wr=>∃d:Nat,d≤l.length∧e=l.length-d∧h=.int .i64 (d:Nat)∧Hid (x∉l.take d)∧Hid (Qe wr w.heap.size 364 [x.1,x.2])∧Hid (Qb [] w wr))
 ·exact⟨0,by omega,by omega,rfl,Qa<|by simp,g,f⟩
 obtain⟨d,hi,hk,rfl,k,g,f⟩:=hrel;have p:=Qa hk
 by_cases hlt:d<l.length
 ·have:(d:Int)<l.length:=by omega
  have⟨e,h⟩:=qy l d hlt;obtain⟨j,j⟩:=(i.o.kZ f.o).tree h;have:wr.cell? w=some (.int .i64 x.1):=g.o.cell (i:=0) rfl;have:wr.cell? ⟨w.heap.size,1,none⟩=some (.int .i64 x.2):=g.o.cell (i:=1) rfl;have n:=fun i=>MW x.1 x.2 e.1 e.2 i
  have m:=Qa h
  by_cases h:x=e
  ·have i:(x.1==e.1&&x.2==e.2)=true:=(by rw[h];simp);rw[i]at n;have j:=Qa h;go_wp2_with fail;go_quiet (fail)
   go_wp2
   go_ret;exact⟨d,rfl,by rw[j.o];exact m.o,f.o.drewN _⟩
  have i:(x.1==e.1&&x.2==e.2)=false:=by
   rw[Bool.and_eq_false_iff,Zb,Zb];rcases Classical.em (x.1=e.1)with b|b
   ·exact .inr fun e=>h<|Prod.ext b e
   exact .inl b
  rw[i]at n;have j:=Qa h;go_wp2_with fail;go_quiet (fail)
  go_wp2
  go_roundg (l.length-(d+1))
  ·refine⟨d+1,by omega,by omega,by simp,Qa fun e=>?_,Qa<|g.o.kept ((Qc [] wr).drewN _)<|by simp,Qa<|f.o.drewN _⟩;rw[Zt,m.o]at e;rcases Q6.1 e with b|b
   ·exact k.o b
   simp at b;exact j.o b
  have:=p.o;omega
 obtain rfl:d=l.length:=by omega
 have:=k.o;rw[Q8<|Ql _]at this;exact absurd o.o this
def Qe8(ls)(a:0<ls.length):0<K.room ls:=by
 cases ls with
 |nil=>simp at a
 |cons x ls=>
  have a:K.room (x::ls)=2^(20-x)+K.room ls:=by simp[K.room]
  have:=CU<|20-x;rw[a];omega
def UV(xs:LI):Nat:=if Jt xs then K.room (QD xs)else 0
def pS(w0:WD)(xs:LI)(k:Nat)(n c:VL)(w:WD):Prop:=
 ∃a,a≤xs.length∧k=xs.length-a∧c=.int .i64 (a:Nat)∧n=.int .i64 (K.room (QD (xs.take a)):Nat)∧((xs.take a).all fun a=>decide (1≤a∧a≤20))=true∧w0=w
def Qb0(xs x):QD (xs++[x])=QD xs++[x.toNat]:=by simp[QD]
def Qd6(m):2^(20-m)≤1048576:=by have:(2:Nat)^(20-m)≤2^20:=Jc (by decide) (by omega);exact this
def Qal(xs)(b:2≤xs.length∧xs.length≤258)(a:((xs.take xs.length).all fun x=>decide<|1≤x∧x≤20)=true):Jt xs=true:=by rw[VG]at a;unfold Jt;rw[a];simp;exact b
def Qhf(a cap xs w)(b:Qp w 1 a xs.length (QM xs))(c:xs.length≤140737488351232):
 Calls prog 265 #[.slice a xs.length cap] w fun e w'=>e=.returned (UV xs:Nat)∧w=w':=by
 have i:=Qa b;clear b
 by_cases b:xs.length<2
 ·have g1:decide ((xs.length:Int)<2)=true:=by simp;omega
  have d:UV xs=0:=by unfold UV;rw[NC xs<|by omega];rfl
  have g:=Qa d;clear d;go_enter func265,SI
  go_wp2
  go_ret;exact⟨by rw[g.o];rfl,rfl⟩
 have g1:decide ((xs.length:Int)<2)=false:=by simp;omega
 by_cases b:258<xs.length
 ·have h:decide (258<(xs.length:Int))=true:=by simp;omega
  have d:UV xs=0:=by unfold UV;rw[NC xs<|by omega];rfl
  have g:=Qa d;clear d;go_enter func265,SI
  go_wp2
  go_ret;exact⟨by rw[g.o];rfl,rfl⟩
 have h:decide (258<(xs.length:Int))=false:=by simp;omega
 go_enter func265,SI;go_wp2_with fail;clear g1 h
 go_loopg [3,16] xs.length (fun c f b wr=>pS w xs c f b wr)
 ·exact⟨0,by omega,by omega,rfl,rfl,rfl,rfl⟩
 obtain⟨c,hi,hk,rfl,rfl,b,rfl⟩:=hrel;have⟨o,l⟩:=qb hk b;have j:=Qe7<|QD<|xs.take c;have f:(QD<|xs.take c).length≤258:=by rw[UQ,Zl];omega
 have:K.room (QD<|xs.take c)≤300000000:=by omega
 clear hk b j f
 by_cases hlt:c<xs.length
 ·have:(c:Int)<xs.length:=by omega
  have⟨b,f⟩:=qy xs c hlt;obtain⟨b0,off,rfl,-⟩:=i.o.at (by rw[Xk];omega);have c0:=i.o.int f;have i:xs.take (c+1)=xs.take c++[b]:=by rw[Zt,f];rfl
  have⟨k,n⟩:=qb i f;clear i f
  by_cases f:1≤b∧b≤20
  ·have g1:decide (b<1)=false:=(by simp;omega);have h:decide (20<b)=false:=(by simp;omega);obtain⟨i,rfl⟩:=X7 (by omega:0≤b);have⟨f,j⟩:=qx<|20-i;have:IntKind.i64.wrap (20-(i:Int))=(f:Int):=(by rw[Q3 _<|by omega];omega);have hp:=Qd6 i;rw[j]at hp;have:f≤20:=(by omega);have m:(2:Int)^f=((2^f:Nat):Int):=(by norm_cast);have hrs:K.room (QD<|xs.take<|c+1)=K.room (QD<|xs.take c)+2^f:=(by rw[k.o,Qb0,Qe9,Zs,j]);generalize (2:Nat)^f=p at hp m hrs;have m:=Qa hrs;have f:((([((i:Nat):Int)]:LI).all fun b=>decide<|1≤b∧b≤20))=true:=(by simp;omega);have i:=Qa f;clear j hrs f
   go_wp2
   go_roundg (xs.length-(c+1))
   ·exact⟨c+1,by omega,rfl,by go_num,by rw[m.o];go_num,by rw[k.o,List.all_append,l.o,V1];exact i.o,rfl⟩
   have:=o.o;omega
  have i:UV xs=0:=by unfold UV;rw[cH xs c b n.o<|by omega];rfl
  have f:=Qa i;clear i
  by_cases i:b<1
  ·have g1:decide (b<1)=true:=by simp;omega
   go_wp2
   go_ret;exact⟨by rw[f.o];rfl,rfl⟩
  have g1:decide (b<1)=false:=by simp;omega
  have h:decide (20<b)=true:=by simp;omega
  go_wp2
  go_ret;exact⟨by rw[f.o];rfl,rfl⟩
 obtain rfl:c=xs.length:=by omega
 have b:=Qal xs (by omega) l.o;have d:UV xs=K.room (QD<|xs.take xs.length):=by unfold UV;rw[b,VG];rfl
 have g:=Qa d;clear b d
 go_wp2
 go_ret;exact⟨by rw[g.o];rfl,rfl⟩
def Qhd(xs):XA xs=(decide (UV xs≠0)&&decide (UV xs≤1048576)):=by
 unfold UV XA;rcases JD (Jt xs)with a|a
 ·have:=((UN xs).1 a).1;have:=Qe8 (QD xs) (by rw[UQ];omega);rw[a,Qg rfl];have:K.room (QD xs)≠0:=by omega
  simp[this]
 rw[a];simp
def J7(xs:LI):Nat:=if XA xs then 0 else 80
def Ei(a cap xs w)(b:Qp w 1 a xs.length (QM xs))(f:xs.length≤140737488351232):
 Calls prog 225 #[.slice a xs.length cap] w fun e w'=>e=.returned (J7 xs:Nat)∧w=w':=by
 have⟨c,d⟩:=qb b<|Qhd xs;go_enter func225,ntmps225;go_wp2_with fail;refine(Qhf a cap xs _ c.o f).mono ?_;rintro e w'⟨rfl,rfl⟩;generalize UV xs=n at d ⊢
 by_cases h0:n=0
 ·have b:J7 xs=80:=by unfold J7;rw[d.o,h0];rfl
  have c:=Qa b;subst h0
  go_wp2
  go_ret;exact⟨by rw[c.o];rfl,rfl⟩
 have g1:((n:Int)==0)=false:=by simp;omega
 by_cases f:n≤1048576
 ·have b:J7 xs=0:=by unfold J7;rw[d.o];simp[h0,f]
  have c:=Qa b;have f:decide (1048576<(n:Int))=false:=by simp;omega
  go_wp2
  go_ret;exact⟨by rw[c.o];rfl,rfl⟩
 have b:J7 xs=80:=by unfold J7;rw[d.o];simp[h0];omega
 have c:=Qa b;have f:decide (1048576<(n:Int))=true:=by simp;omega
 go_wp2
 go_ret;exact⟨by rw[c.o];rfl,rfl⟩
def nQ(xs:LI)(w:WD)(e:Ending)(w':WD):Prop:=∃a:Int,e=.returned a∧a∈xs∧(∀b∈xs,a≤b)∧w=w'
def nO(xs:LI)(w:WD)(e:Ending)(w':WD):Prop:=∃a:Int,e=.returned a∧a∈xs∧(∀b∈xs,b≤a)∧w=w'
def KR{xs:LI}{k x b}(c:xs[k]?=some x)(a:b∈xs.take (k+1)):b∈xs.take k∨b=x:=by
 rw[Zt,c]at a;rcases Q6.1 a with a|a
 ·exact .inl a
 exact .inr (by simpa using a)
def Qbq(a c xs w)(h:Qp w 1 a xs.length (QM xs))(h0:1≤xs.length)(hl:xs.length≤1000000):
 Calls prog 302 #[.slice a xs.length c] w (nQ xs w):=by
 have HS:=Qa h;obtain⟨b,off,rfl,-⟩:=h.at (by rw[Xk];omega);obtain⟨x0,h2⟩:∃x,xs[0]?=some x:=⟨_,Qj<|by omega⟩;have c0:=HS.o.int h2;have g0:decide ((xs.length:Int)<1)=false:=by simp;omega
 have h8:(0:Int)<xs.length:=by omega
 have h3:=Qa h2;rw[Jb]at c0;go_enter func302,ntmps302
 go_wp2
 go_loopg [3,4] (xs.length-1) (fun k v u wr=>∃(i:Nat)(m:Int),1≤i∧i≤xs.length∧k=xs.length-i∧v=.int .i64 m∧u=.int .i64 (i:Nat)∧Hid (m∈xs∧∀x∈xs.take i,m≤x)∧w=wr)
 case atStart=>exact⟨1,x0,Ql _,h0,by omega,rfl,rfl,Qa ⟨QA h3.o,fun x o=>by
  rcases KR h3.o o with h|h
  ·simp at h
  omega⟩,rfl⟩
 obtain⟨i,m,h1,hi,hk,rfl,rfl,q,rfl⟩:=hrel;have Hk:=Qa hk
 by_cases hlt:i<xs.length
 ·have h4:(i:Int)<xs.length:=by omega
  have⟨x,o⟩:=qy xs i hlt;have d0:=HS.o.int o;have HX:=Qa o;go_wp2_with fail
  all_goals
   rename_i h
   go_roundg (xs.length-(i+1))
   ·refine⟨i+1,_,by omega,by omega,rfl,rfl,by simp,Qa ⟨?_,fun y hy=>?_⟩,rfl⟩
    ·first
      |exact q.o.1
      |exact QA HX.o
    rcases KR HX.o hy with h'|h'
    ·have:=q.o.2 y h';omega
    omega
   have:=Hk.o;omega
 obtain rfl:i=xs.length:=by omega
 have h5:¬(xs.length:Int)<xs.length:=by omega
 go_wp2
 go_ret;have:=q.o;rw[Q8<|Ql _]at this;exact⟨m,rfl,this.1,this.2,rfl⟩
def dN(a c xs w)(h:Qp w 1 a xs.length (QM xs))(h0:1≤xs.length)(hl:xs.length≤1000000):
 Calls prog 282 #[.slice a xs.length c] w (nO xs w):=by
 have HS:=Qa h;obtain⟨b,off,rfl,-⟩:=h.at (by rw[Xk];omega);obtain⟨x0,h2⟩:∃x,xs[0]?=some x:=⟨_,Qj<|by omega⟩;have c0:=HS.o.int h2;have g0:decide ((xs.length:Int)<1)=false:=by simp;omega
 have h8:(0:Int)<xs.length:=by omega
 have h3:=Qa h2;rw[Jb]at c0;go_enter func282,ntmps282
 go_wp2
 go_loopg [3,4] (xs.length-1) (fun k v u wr=>∃(i:Nat)(m:Int),1≤i∧i≤xs.length∧k=xs.length-i∧v=.int .i64 m∧u=.int .i64 (i:Nat)∧Hid (m∈xs∧∀x∈xs.take i,x≤m)∧w=wr)
 case atStart=>exact⟨1,x0,Ql _,h0,by omega,rfl,rfl,Qa ⟨QA h3.o,fun x o=>by
  rcases KR h3.o o with h|h
  ·simp at h
  omega⟩,rfl⟩
 obtain⟨i,m,h1,hi,hk,rfl,rfl,q,rfl⟩:=hrel;have Hk:=Qa hk
 by_cases hlt:i<xs.length
 ·have h4:(i:Int)<xs.length:=by omega
  have⟨x,o⟩:=qy xs i hlt;have d0:=HS.o.int o;have HX:=Qa o;go_wp2_with fail
  all_goals
   rename_i h
   go_roundg (xs.length-(i+1))
   ·refine⟨i+1,_,by omega,by omega,rfl,rfl,by simp,Qa ⟨?_,fun y hy=>?_⟩,rfl⟩
    ·first
      |exact q.o.1
      |exact QA HX.o
    rcases KR HX.o hy with h'|h'
    ·have:=q.o.2 y h';omega
    omega
   have:=Hk.o;omega
 obtain rfl:i=xs.length:=by omega
 have h5:¬(xs.length:Int)<xs.length:=by omega
 go_wp2
 go_ret;have:=q.o;rw[Q8<|Ql _]at this;exact⟨m,rfl,this.1,this.2,rfl⟩
def Yc(xs:LI):Bool:=decide (2≤xs.length)&&decide (xs.length≤258)&&xs.all fun a=>decide (0≤a∧a≤1073741824)
def mC(b:Bool)(w:WD)(e:Ending)(w':WD):Prop:=e=.returned (.bool b)∧w=w'
def Qbc{xs}(a:2≤xs.length)(b:xs.length≤258)(lo hi)(c:lo∈xs)(f:hi∈xs)(d:∀x∈xs,lo≤x)(e:∀x∈xs,x≤hi):
 Yc xs=(decide (0≤lo)&&decide (hi≤1073741824)):=by
 unfold Yc;rw[Xs a,Xs b,V1,V1,DE,XO,Xh,Zv,Zv];constructor
 ·intro a;have b:=a lo c;have c:=a hi f;rw[Zv]at b c;omega
 intro a x a;have b:=d x a;have c:=e x a;rw[Zv];omega
def KV(a c xs w)(h:Qp w 1 a xs.length (QM xs))(hl:xs.length≤17592186043904):
 Calls prog 279 #[.slice a xs.length c] w (mC (Yc xs) w):=by
 by_cases h2:2≤xs.length
 ·have g1:decide (2≤(xs.length:Int))=true:=by simp;omega
  by_cases h3:xs.length≤258
  ·have g2:decide ((xs.length:Int)≤258)=true:=(by simp;omega);have A:=Qbq a c xs w h (by omega) (by omega);have B:=dN a c xs w h (by omega) (by omega);go_enter func279,SH;go_wp2_with fail;refine A.mono ?_;rintro e w'⟨lo,rfl,h8,h4,rfl⟩;have q:=Qa (Qr h8 h4)
   by_cases h5:0≤lo
   ·have g3:decide (0≤lo)=true:=(by simp;omega);go_wp2_with fail;refine B.mono ?_;rintro e w'⟨hi,rfl,h1,h6,rfl⟩;have y:=Qa<|Qr h1 h6;have g4:Yc xs=decide (hi≤1073741824):=(by rw[Qbc h2 h3 lo hi q.o.1 y.o.1 q.o.2 y.o.2,g3,V1]);have o:=Qa g4
    go_wp2
    go_ret;exact⟨by rw[o.o];rfl,rfl⟩
   have g3:decide (0≤lo)=false:=(by simp;omega);have g4:Yc xs=false:=(by rw[Bi];intro hh;unfold Yc at hh;rw[Xh,XO]at hh;have:=hh.2 lo q.o.1;rw[Zv]at this;omega);have o:=Qa g4
   go_wp2
   go_ret;exact⟨by rw[o.o];rfl,rfl⟩
  have g2:decide ((xs.length:Int)≤258)=false:=by simp;omega
  have o:=Qa (by unfold Yc;rw[Xz h3,Lg,Lh]:Yc xs=false);go_enter func279,SH
  go_wp2
  go_ret;exact⟨by rw[o.o];rfl,rfl⟩
 have g1:decide (2≤(xs.length:Int))=false:=by simp;omega
 have o:=Qa (by unfold Yc;rw[Xz h2,Lh,Lh]:Yc xs=false);go_enter func279,SH
 go_wp2
 go_ret;exact⟨by rw[o.o];rfl,rfl⟩

def EA{b}(a:Yc b=true):2≤b.length∧b.length≤258∧∀x∈b,0≤x∧x≤1073741824:=by unfold Yc at a;rw[Xh,Xh,XO,Zv,Zv]at a;exact⟨a.1.1,a.1.2,fun x b=>by have:=a.2 x b;rwa[Zv]at this⟩
def AO(xs:LI):Bool:=decide (UV xs=1048576)
def Zk(t:Nat × Nat):Int × Int:=((t.1:Int),(t.2:Int))
def Qn.less{w e size o n k c xs}(h:Qn w e size (.slice (some o) n c) n xs)(hk:k≤n):Qn w e size (.slice (some o) k c) k (xs.take<|k*size):=by
 have hl:=h.1;have h5:k*size≤n*size:=AA _ hk;refine⟨by rw[Zl,hl];omega,.inr ?_⟩;rcases h.2 with⟨y,h2⟩|⟨g,cap,q,hv,hb,hg,h8,h3,h4,ht⟩
 ·cases y
 cases hv;refine⟨g,c,q,rfl,hb,hg,by omega,h3,h4,?_⟩;rw[←ht,List.take_take,GW h5]
def Qn.aZ{w e}{size g n c j:Nat}{xs u}(a:Qn w e size (.slice g n c) n xs)(b:xs[j]?=some u):w.cell? ⟨g,j,none⟩=some u:=by have:=World.ownsRow.cells (g:=g) a rfl j u b;rwa[YM,ZE]at this
def Qn.free{w e}{size g n c:Nat}{xs}(a:Qn w e size (.slice g n c) n xs)(j):w.frozen? ⟨g,j,none⟩=false:=World.ownsRow.frozenAt a j
def Qn.put{w e}{size g n c:Nat}{xs}(a:Qn w e size (.slice g n c) n xs)(j u):Qn (w.setCell ⟨g,j,none⟩ u) e size (.slice g n c) n (xs.set j u):=(World.ownsRow.stored a j u).1
def Qn.sZ{w e size a n c m xs}(b:Qn w e size (.slice a n c) m xs):Qp w size a n xs∧n=m:=by obtain⟨d,d,f,-,-,d,-⟩:=b.sees;cases f;exact⟨d,rfl⟩
def mN(f g c k:Nat)(l:List (Nat × Nat))(w:WD)(e:Ending)(w':WD):Prop:=
 ∃(a:Nat × Nat)(d:Nat),e=.returned (UA (Zk a))∧l[d]?=some a∧(∀b∈l,¬(b.1<a.1∨(b.1=a.1∧b.2<a.2)))∧Qe w' f 362 [.slice g k c]∧
  Qn w' 364 2 (.slice g k c) k (ZW ((YV l d).map Zk))∧Qb [f,g] w w'
def aA(a g c k:Nat)(l w)(b:Qe w a 362 [.slice g (k+1) c])(d:Qn w 364 2 (.slice g (k+1) c) (k+1) (ZW<|l.map Zk))(e:l.length=k+1)(hk:k≤1000000-1)(hb:∀t∈l,t.1≤1000000000000∧t.2≤1000000000000)(hne:a≠g):
 Calls prog 303 #[.pointer a] w (mN a g c k l w):=by
 have⟨B,r,q,o,C⟩:=qe b d e hb hne;have c0:w.cell? a=some (.slice g (k+1) c):=b.cell (i:=0) rfl;have:a<w.heap.size:=b.lt;have:g<w.heap.size:=d.lt _ (by simp[Qd,qo]);go_enter func303,ntmps303;have m:=Qa<|(Qc [] w).alloc<|.cells #[(0:Int),(0:Int)] 364;have d:(l.map Zk).length=k+1:=by rw[QH];exact q.o
 have b:=Qbp g c (l.map Zk) (w.alloc<|.cells #[(0:Int),(0:Int)] 364) (by rw[d];exact(Qn.sZ<|Qn.kept r.o m.o<|by simp[Qq]).1) (by omega) (by omega) (by intro A e;obtain⟨t,f,rfl⟩:=QB.1 e;have:=o.o t f;unfold VK Zk;simp only;omega);rw[d]at b;have⟨n,i⟩:=qb d b;go_wp2_with fail;refine i.o.mono ?_;rintro D h⟨d,rfl,j,z,s⟩;obtain⟨t,f,rfl⟩:=QB.1 j;have u:=Qa (m.o.trans s<|by simp);have⟨x,y,B,I,r⟩:=qe (Qn.kept r.o u.o<|by simp[Qq]) (B.o.kept u.o<|by simp) ((Qy w [(0:Int),(0:Int)] 364).kept s<|by simp) (show ∀d∈l,¬(d.1<t.1∨(d.1=t.1∧d.2<t.2))from fun d r=>by have:=z (Zk d)<|QB.2 ⟨d,r,rfl⟩;simp only[Zk]at this;omega) j;have:w.heap.size<h.heap.size:=B.o.lt;have:=Qa<|o.o t f;have f:=Qa<|(Qc [] h).alloc<|.cells #[.int .i64 (Zk t).1,.int .i64 (Zk t).2] 364;have b:=zC g c (l.map Zk) (Zk t) (h.alloc<|.cells #[.int .i64 (Zk t).1,.int .i64 (Zk t).2] 364) (by rw[n.o];exact(Qn.sZ<|Qn.kept x.o f.o<|by simp[Qq]).1) (by rw[n.o];omega) r.o;rw[n.o]at b;have i:=Qa b;have c1:h.cell? a=some (.slice g (k+1) c):=y.o.cell (i:=0) rfl;have:a<h.heap.size:=y.o.lt;unfold UA at i ⊢;go_wp2_with fail;refine i.o.mono ?_;rintro D o⟨b,rfl,hi,z⟩;have n:l[b]?=some t:=by
  rw[ZD]at hi;cases hli:l[b]? with
  |none=>rw[hli]at hi;simp at hi
  |some d=>rw[hli]at hi;simp[Zk]at hi;have:d=t:=Prod.ext (by omega) (by omega);rw[this]
 have:b≤k:=by have:=(Qz.1 n).1;have:=q.o;omega
 have⟨H,r⟩:=qb n (f.o.trans z<|by simp);have⟨m,D,F,G⟩:=qd (Qn.kept x.o r.o<|by simp[Qq]) (y.o.kept r.o<|by simp) (B.o.kept r.o<|by simp) ((Qy h [.int .i64 (Zk t).1,.int .i64 (Zk t).2] 364).kept z<|by simp);have⟨f,hz⟩:=qy l k (by have:=q.o;omega);have y:(l.map Zk)[k]?=some (Zk f):=by rw[ZD,hz];rfl
 have d:(l.map Zk)[b]?=some (Zk t):=by rw[ZD,n];rfl
 have J:=Qa hz;have k0:o.cell? a=some (.slice g (k+1) c):=D.o.cell (i:=0) rfl;have k1:=m.o.aZ (CH y).1;have k2:=m.o.aZ (CH y).2;have k3:=m.o.aZ (CH d).1;have k4:=m.o.aZ (CH d).2;have L:=m.o.free<|b*2;have M:=m.o.free<|b*2+1;have:(b:Int)<k+1:=by omega
 have:IntKind.i64.wrap ((k:Int)+1-1)=(k:Int):=by rw[Int.add_sub_cancel];exact Q3 _ (by omega)
 go_wp2_with fail
 go_region
 have n:Qb [g] o ((o.setCell ⟨g,b*2,none⟩<|.int .i64 (Zk f).1).setCell ⟨g,b*2+1,none⟩<|.int .i64 (Zk f).2).drew:=(((Qc [g] o).setCell (p:=⟨g,b*2,none⟩) (by simp) _).setCell (p:=⟨g,b*2+1,none⟩) (by simp) _).drew;have y:Qn ((o.setCell ⟨g,b*2,none⟩<|.int .i64 (Zk f).1).setCell ⟨g,b*2+1,none⟩<|.int .i64 (Zk f).2).drew 364 2 (.slice g (k+1) c) (k+1) (ZW<|(l.map Zk).set b<|Zk f):=by rw[←kQ];exact((m.o.put _ _).put _ _)
 have⟨d,B⟩:=qx<|((o.setCell ⟨g,b*2,none⟩<|.int .i64 (Zk f).1).setCell ⟨g,b*2+1,none⟩<|.int .i64 (Zk f).2).drew;rw[B]at n y ⊢;have O:g≠h.heap.size:=by have:=x.o.lt g (by simp[Qd,qo]);omega
 have E:g≠w.heap.size:=by omega
 have o:=D.o.kept n (by simp;exact C.o);have z:=F.o.kept n (by simp;exact fun i=>E i.symm);have x:=G.o.kept n (by simp;exact fun i=>O i.symm);have⟨F,D,C⟩:=qc (o.set 0<|.slice g k c) (Qn.kept (Qn.less y<|DW k) ((Qc [a] d).setCell (p:=a) (by simp)<|.slice g k c) (by intro A e j;simp[Qd,qo]at e j;subst e;exact C.o j.symm))<|((u.o.trans r.o<|by simp).mono (T:=[g])<|by simp).trans n fun A e=>.inl e;have:d.cell? a=some (.slice g (k+1) c):=o.cell (i:=0) rfl;have:=o.free 0;have⟨u,r⟩:=qb (by omega:a≠h.heap.size) (by omega:a≠w.heap.size);have:(d.setCell ⟨a,0,none⟩<|.slice g k c).cell? h=some (.int .i64 (Zk t).1):=(x.kept ((Qc [a] d).setCell (p:=a) (by simp) _) (by simp;exact fun i=>u.o i.symm)).cell (i:=0) rfl;have:(d.setCell ⟨a,0,none⟩<|.slice g k c).cell? ⟨h.heap.size,1,none⟩=some (.int .i64 (Zk t).2):=(x.kept ((Qc [a] d).setCell (p:=a) (by simp) _) (by simp;exact fun i=>u.o i.symm)).cell (i:=1) rfl;have h:=z.kept ((Qc [a] d).setCell (p:=a) (by simp)<|.slice g k c) (by simp;exact fun i=>r.o i.symm);have:(d.setCell ⟨a,0,none⟩<|.slice g k c).cell? w=some (.int .i64 0):=h.cell (i:=0) rfl;have:(d.setCell ⟨a,0,none⟩<|.slice g k c).cell? ⟨w.heap.size,1,none⟩=some (.int .i64 0):=h.cell (i:=1) rfl;have q2:=h.free 0;have:=h.free 1;have u:=((h.set 0<|.int .i64 (Zk t).1).set 1<|.int .i64 (Zk t).2).cell (i:=0) (u:=.int .i64 (Zk t).1) rfl;have G:=((h.set 0<|.int .i64 (Zk t).1).set 1<|.int .i64 (Zk t).2).cell (i:=1) (u:=.int .i64 (Zk t).2) rfl;have:(k:Int)≤c:=by obtain⟨i,i,i,O,-⟩:=Qn.sees m.o;cases i;omega
 have s:(0:Int)≤k:=by omega
 go_wp2_with fail;refine Q5 (v:=UA<|Zk t) (by simp[results,results303,go_sem,UA,u,G]) rfl ?_;have i:Qb [a,g] w (((d.setCell ⟨a,0,none⟩<|.slice g k c).setCell ⟨w.heap.size,0,none⟩<|.int .i64 (Zk t).1).setCell ⟨w.heap.size,1,none⟩<|.int .i64 (Zk t).2):=
  (((C.o.mono (T:=[a,g])<|by simp).setCell (p:=a) (by simp) _).setCell (p:=w) (by simp) _).setCell (p:=⟨w.heap.size,1,none⟩) (by simp) _
 have h:Qb [w.heap.size] (d.setCell ⟨a,0,none⟩<|.slice g k c) (((d.setCell ⟨a,0,none⟩<|.slice g k c).setCell ⟨w.heap.size,0,none⟩<|.int .i64 (Zk t).1).setCell ⟨w.heap.size,1,none⟩<|.int .i64 (Zk t).2):=
  ((Qc [w.heap.size] _).setCell (p:=w) (by simp) _).setCell (p:=⟨w.heap.size,1,none⟩) (by simp) _
 refine⟨t,b,rfl,H.o,I.o,F.o.kept h (by simp;exact r.o),?_,i⟩;have e:(ZW<|(l.map Zk).set b<|Zk f).take (k*2)=ZW ((YV l b).map Zk):=by
  rw[Qh6]
  congr 1
  unfold YV;rw[q.o,UE,List.getD,J.o,VI,List.dropLast_eq_take,Jo,q.o,UE,DN,Bp]
 rw[←e];exact Qn.kept D.o h (by intro A e j;simp[Qd,qo]at e j;subst e;exact E j)
