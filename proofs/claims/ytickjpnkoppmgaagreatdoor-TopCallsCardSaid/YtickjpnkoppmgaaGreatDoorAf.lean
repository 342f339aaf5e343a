import Derived.Deep.WholeRow
import Derived.Test.YtickjpnkoppmgaaGreatDoorAd
set_option linter.all false
namespace Go.Proofs.YtickjpnkoppmgaaGreatDoor
open Go.Proofs.Tryz Go.RowKit K
def Ch(s:ByteArray)(i)(a:i<s.size):s.data.toList.getD i 0=s[i]'a:=by
 have b:i<s.data.toList.length:=by rwa[Rf]
 rw[List.getD,Qj b];rfl
def Ie(s:ByteArray)(i)(a:i<s.size):s.data.toList.take (i+1)=s.data.toList.take i++[s[i]'a]:=by
 have b:i<s.data.toList.length:=by rwa[Rf]
 rw[Ar b];rfl
def Zm(s:ByteArray):s.data.toList.length=s.size:=by rw[Rf];rfl
def oN(s:ByteArray)(w0:World)(k:Nat)(c:Value)(w:World):Prop:=
 ∃a,1≤a∧a≤s.size+1∧k=s.size+1-a∧c=.int .i64 (a:Nat)∧(∀b,b+1<a→b+1<s.size→s.data.toList.getD b 0<s.data.toList.getD (b+1) 0)∧Qb [] w0 w
def Oo(s:ByteArray)(w)(hs:s.size≤140737488351232):
 Calls prog 201 #[s] w fun e w'=>e=.returned (.bool<|UW s.data.toList)∧Qb [] w w':=by
 go_enter func201,ntmps201
 go_wp2
 go_loopg [3] (s.size+1-1) (fun b a wr=>oN s w b a wr)
 ·exact⟨1,by omega,by omega,by omega,rfl,fun c d=>by omega,Qc _ _⟩
 obtain⟨a,b,hi,hk,rfl,h,b⟩:=hrel;have⟨k,g,f⟩:=qc hk h b
 by_cases hlt:a<s.size
 ·have:(a:Int)<s.size:=by omega
  have:IntKind.i64.wrap ((a:Int)-1)=(a:Int)-1:=Q2 _ (by omega);have h0:(0:Int)≤a-1:=by omega
  have:(1:Int)≤a:=by omega
  have:((a:Int)-1).toNat=a-1:=by omega
  have h:a-1<s.size:=by omega
  have:(a:Int)-1<(s.size:Int):=by omega
  by_cases b:s[a]≤s[a-1]
  ·have g1:decide (s[a].toNat≤s[a-1].toNat)=true:=Xr<|UInt8.le_iff_toNat_le.1 b;have i:=Qay s.data.toList (a-1) (by rw[Zm];omega) (by rw[show a-1+1=a by omega,Ch s _ h,Ch s _ hlt];exact Eh.2 b);have j:=Qa i;go_wp2_with fail;go_quiet (fail)
   go_wp2
   go_ret;exact⟨by rw[j.o];rfl,f.o.drewN _⟩
  have g1:decide (s[a].toNat≤s[a-1].toNat)=false:=XI fun d=>b<|UInt8.le_iff_toNat_le.2 d
  have i:=Qa<|UInt8.not_le.1 b;go_wp2_with fail;go_quiet (fail)
  go_wp2
  go_roundg (s.size+1-(a+1))
  ·refine⟨a+1,by omega,by omega,rfl,by go_num,fun c b j=>?_,f.o.drewN _⟩
   by_cases k:c+1<a
   ·exact g.o c k j
   obtain rfl:c=a-1:=(by omega);rw[show a-1+1=a by omega,Ch s _ h,Ch s _ hlt];exact i.o
  have:=k.o;omega
 go_wp2
 go_ret;refine⟨?_,f.o⟩
 by_cases hz:s.size=0
 ·have:s.data.toList=[]:=JW (by rwa[Zm]);rw[this];simp[UW,XN,this]
 have hne:s.data.toList≠[]:=fun d=>hz (by rw[←Zm,d];rfl)
 rw[Qaz _ hne fun c b=>g.o c (by rw[Zm]at b;omega) (by rw[Zm]at b;omega)];have a:¬s.data=#[]:=by simpa using hne
 simp[XN,a]
def Ky(l p)(a:p<l.length):(Qm l)[p]?=some (.int .u8 ((l.getD p 0).toNat:Nat)):=by simp[Qm,List.getD,Qj a]
def XV(l):(Qm l).length=l.length:=by simp[Qm]
def kM(l):∀v∈Qm l,v.oneCell'=true:=by intro v a;simp only[Qm,Qy]at a;obtain⟨b,-,rfl⟩:=a;rfl
def Fx:(prog.info? 5).map (·.size)=some 1:=by kernel_rfl
def Qbb(g c p:Nat)(l w)(hp:p<l.length)(hc:l.length≤c)(hl:l.length≤140737488351232)(h:QI w g (Qm l)):
 Calls prog 202 #[.slice g l.length c,p] w fun e w'=>e=.returned (.int .u8 ((l.getD p 0).toNat:Nat))∧QI w' g (Qm<|K.turned l p)∧Qb [g] w w':=by
 have c0:=h.cell<|Ky l p hp;have y7:IntKind.i64.wrap ((p:Int)+1)=(p:Int)+1:=Q2 _ (by omega);obtain⟨h0,h1,h2,h3,h4,h5⟩:(0:Int)≤p+1∧((p:Int)+1).toNat=p+1∧(p:Int)≤c∧(p:Int)+1≤(c:Int)∧(1:Int)≤p+1∧(p:Int)<l.length:=by omega
 have y0:∀v∈(Qm l).take p,v.oneCell'=true:=fun v hv=>kM l v<|VN hv
 have x4:((Qm l).take p).length=p:=by rw[Zn,XV];omega
 have x8:1+((Qm l).take p).length≤(Qm l).length:=by rw[x4,XV];omega
 have y1:∀j v,((Qm l).take p)[j]?=some v→w.cell? ⟨g,j,none⟩=some v:=fun j v hj=>h.cell (by
  rw[Bi]at hj
  split at hj
  ·exact hj
  cases hj)
 have x9:=iR (fun b:UInt8=>Value.int .u8 (b.toNat:Int)) l p hp;have⟨HB,x7,x5,x0,y2,x6⟩:=qf h y0 x4 x8 y1 x9
 by_cases y3:c=1
 ·obtain rfl:p=0:=by omega
  have y5:l.length=1:=by omega
  subst y3;have y6:IntKind.i64.wrap 1=1:=by decide
  go_enter func202,ntmps202;go_wp2_with fail;have h9:0<((Qm l).take 0).length→(some ⟨g,0,none⟩:Option Addr)=some ⟨g,1,none⟩∧∃ad:Addr,(some ⟨g,0,none⟩:Option Addr)=some ad∧∀j v,((Qm l).take 0)[j]?=some v→w.cell? (ad.add j)=some v:=
   fun h=>by simp at h
  have x2:=Qa h9
  go_region_held3 (fun w'=>True) (exact trivial) ((refine Kv rfl _ _ 88 88 rfl 5 ZW Fx g g 0 0 0 1 rfl rfl g 1 (Qm l) ((Qm l).take 0) (HB.o.kept (Qc [] w).drew<|by simp) (by rw[x5.o];rfl) x2.o x0.o x7.o ?_;intro w1 q x3))
  have h8:(splice (Qm l) 1<|(Qm l).take 0).length=l.length:=by rw[MZ _ _ _ x0.o,XV]
  have d0:=q.cell<|Qj (by rw[h8];omega:0<(splice (Qm l) 1<|(Qm l).take 0).length);have f0:=q.free (by rw[h8];omega:0<(splice (Qm l) 1<|(Qm l).take 0).length);have o:=q.set 0 (.int .u8 ((l.getD 0 0).toNat:Nat)) (by rw[h8];omega);have o:QI (w1.setCell ⟨g,0,none⟩<|.int .u8 ((l.getD 0 0).toNat:Nat)) g (Qm<|K.turned l 0):=by have e:=x6.o;have e2:splice (Qm l) 1 ((Qm l).take 0)=splice (l.map fun b:UInt8=>Value.int .u8 (b.toNat:Int)) 1 ((l.map fun b:UInt8=>Value.int .u8 (b.toNat:Int)).take 0):=rfl;rw[e2]at o;rwa[Qm,←e]
  have y:(l.getD 0 0)=l[0]:=by rw[List.getD,Qj hp];rfl
  rw[y]at o;have⟨x1,HD⟩:=qb o y
  go_wp2
  go_ret;exact⟨by first|rfl|(rw[HD.o];rfl),x1.o,((Qc [g] w).drew.trans x3 fun x hx=>.inl hx).setCell (by simp) _⟩
 have y4:(1:Int)<c:=by omega
 go_enter func202,ntmps202;go_wp2_with fail;have h9:0<((Qm l).take p).length→(some ⟨g,1,none⟩:Option Addr)=some ⟨g,1,none⟩∧∃ad:Addr,(some ⟨g,0,none⟩:Option Addr)=some ad∧∀j v,((Qm l).take p)[j]?=some v→w.cell? (ad.add j)=some v:=
  fun _=>⟨rfl,_,rfl,fun j v hj=>by rw[YK,Zz];exact y2.o j v hj⟩
 have x2:=Qa h9
 go_region_held3 (fun w'=>True) (exact trivial)
  (first
    |(refine Kv rfl _ _ 88 88 rfl 5 ZW Fx (some ⟨g,1,none⟩) g p (c-1) p c rfl rfl g 1 (Qm l) ((Qm l).take p) (HB.o.kept (Qc [] w).drew<|by simp) (by rw[x5.o];exact(Nat.min_self p).symm) x2.o x0.o x7.o ?_;intro w1 q x3))
 have h8:(splice (Qm l) 1<|(Qm l).take p).length=l.length:=by rw[MZ _ _ _ x0.o,XV]
 have d0:=q.cell<|Qj (by rw[h8];omega:0<(splice (Qm l) 1<|(Qm l).take p).length);have f0:=q.free (by rw[h8];omega:0<(splice (Qm l) 1<|(Qm l).take p).length);have o:=q.set 0 (.int .u8 ((l.getD p 0).toNat:Nat)) (by rw[h8];omega);have o:QI (w1.setCell ⟨g,0,none⟩<|.int .u8 ((l.getD p 0).toNat:Nat)) g (Qm<|K.turned l p):=by have e:=x6.o;have e2:splice (Qm l) 1 ((Qm l).take p)=splice (l.map fun b:UInt8=>Value.int .u8 (b.toNat:Int)) 1 ((l.map fun b:UInt8=>Value.int .u8 (b.toNat:Int)).take p):=rfl;rw[e2]at o;rwa[Qm,←e]
 have y:(l.getD p 0)=l[p]:=by rw[List.getD,Qj hp];rfl
 rw[y]at o;have⟨x1,HD⟩:=qb o y
 go_wp2
 go_ret;exact⟨by first|rfl|(rw[HD.o];rfl),x1.o,((Qc [g] w).drew.trans x3 fun x hx=>.inl hx).setCell (by simp) _⟩
def qD(w):(zeroValue 295).run prog w=.ok (.agg<|Array.replicate 256<|.bool false) w:=
 (zero_of_info (P:=prog) (t:=295) (v:=.agg<|Array.replicate 256<|.bool false) (n:=256)<|by kernel_rfl).1 w
def UV(l:List UInt8):List Value:=(List.range 256).map fun a=>.bool (decide (UInt8.ofNat a∈l))
def Gd(l):(UV l).length=256:=by simp[UV]
def Qaq:(Array.replicate 256<|Value.bool false)=(UV []).toArray:=by
 apply Array.ext
 ·simp[UV]
 intro a a a;simp[UV]
def IN(l b)(a:b<256):(UV l)[b]?=some (.bool<|decide<|UInt8.ofNat b∈l):=by simp[UV,Xb a]
def Qar(l b):(UV l).set b.toNat (.bool true)=UV (l++[b]):=by
 apply Xu;intro a;rw[YV];have hb:=Vw b
 by_cases hi:a<256
 ·rw[IN _ _ hi,IN _ _ hi,Gd]
  by_cases c:b.toNat=a
  ·rw[Qg c,Qg<|by omega];subst c;simp
  rw[Qe c];have:¬UInt8.ofNat a=b:=fun d=>c (by rw[←d,US];omega)
  simp[this]
 have c:(UV l)[a]?=none:=QW (by rw[Gd];omega);have d:(UV<|l++[b])[a]?=none:=QW (by rw[Gd];omega);rw[c,d,Qe<|by omega]
def oO(s:ByteArray)(w0:World)(g:Nat)(k:Nat)(c:Value)(w:World):Prop:=
 ∃a,a≤s.size∧k=s.size-a∧c=.int .i64 (a:Nat)∧QI w g (UV (s.data.toList.take a))∧Qb [] w0 w
def oQ(s:ByteArray)(w0:World)(g:Nat)(k:Nat)(v c:Value)(w:World):Prop:=
 ∃a,a≤256∧k=256-a∧c=.int .i64 (a:Nat)∧Qh w 5 v (Qm (Jt s.data.toList a))∧QI w g (UV s.data.toList)∧Qb [] w0 w∧Qs w0.heap.size (Qd v)∧g∉Qd v
def Qft(s:ByteArray)(w)(hs:s.size≤140737488351232):
 Calls prog 161 #[s] w fun e w'=>e=.returned (.string ⟨(QJ s.data.toList).toArray⟩)∧Qb [] w w':=by
 have hz:=qD;go_enter func161,ntmps161;go_wp2_with fail;rw[Qaq];have c:=QI.new w (UV []) 295;have f:Qb [] w (w.alloc<|.cells (UV []).toArray 295):=(Qc _ _).alloc _;generalize w.alloc (.cells (UV []).toArray 295)=W0 at c f ⊢;have⟨d,a⟩:=qx w.heap.size;rw[a]at c ⊢;have j:=Qa a
 go_loopg [9] s.size (fun k h wr=>oO s w d k h wr)
 ·exact⟨0,by omega,by omega,rfl,c,f⟩
 obtain⟨a,hi,hk,rfl,hb,b⟩:=hrel;have⟨l,g⟩:=qb hk b
 by_cases hlt:a<s.size
 ·have p:(a:Int)<s.size:=by omega
  have f:=Vw<|s[a]'hlt;have c0:=hb.cell<|IN _ (s[a]'hlt).toNat f;have:=hb.free (i:=(s[a]'hlt).toNat) (by rwa[Gd]);have c:=hb.set (s[a]'hlt).toNat (.bool true) (by rwa[Gd]);rw[Qar,←Ie s a hlt]at c;have i:=Qa c
  go_wp2
  go_roundg (s.size-(a+1))
  ·exact⟨a+1,by omega,rfl,by go_num,i.o,g.o.setCell (.inr (by rw[j.o];exact Ql _)) _⟩
  have:=l.o;omega
 obtain rfl:a=s.size:=by omega
 rw[Zd (by rw[Zm];exact Ql _)]at hb;have c:=Qa hb;go_wp2_with fail;have n:=Qh.empty wr 5;have l:=c.o.kept ((Qc [] wr).alloc<|.cells #[] 5) (by simp);have m:=g.o.alloc<|.cells #[] 5;have i:Qs w.heap.size (Qd<|.slice (some ⟨wr.heap.size,0,none⟩) 0 0):=by intro a f;simp[Qd,qo]at f;have:=g.o.size;omega
 have j:d∉Qd (.slice (some ⟨wr.heap.size,0,none⟩) 0 0):=by have:=c.o.lt;simp[Qd,qo];omega
 generalize wr.alloc (.cells #[] 5)=W1 at n l m ⊢
 go_loopg [5,18] 256 (fun k a h wr=>oQ s w d k a h wr)
 ·exact⟨0,by omega,by omega,rfl,n,l,m,i,j⟩
 obtain⟨a,f,hk,rfl,k,hb,b,i,j⟩:=hrel;have o:=Qa hk;have q:=kR s.data.toList a
 by_cases hlt:a<256
 ·have p:(a:Int)<256:=by omega
  have c0:=hb.cell<|IN _ a hlt;have:IntKind.u8.wrap (a:Int)=(a:Int):=by rw[CM];omega
  have⟨c,g,m,n⟩:=qd hb b i j
  by_cases f:UInt8.ofNat a∈s.data.toList
  ·have h:=kT s.data.toList a f;have r:(Qm<|Jt s.data.toList a).length+1≤maxLen:=(by rw[XV];simp only[maxLen];omega);have t:((Qm<|Jt s.data.toList a).length+1)*1≤140737488355328:=(by rw[XV];omega);rw[Xr f]at c0;have l:=Qa h;go_wp2_with ((at_builtin;refine UL _ rfl _ _ 88 rfl 5 (.int .u8 0) 1 ZW YL rfl _ _ [.int .u8 (a:Int)] 1 rfl rfl rfl rfl (by simp[Value.oneCell']) k r t ?_;intro a5 v x u q p))
   go_roundg (256-(a+1))
   ·refine⟨a+1,by omega,rfl,by go_num,?_,c.o.kept q n.o,g.o.new q m.o,m.o.grow p g.o.size,?_⟩
    ·rw[l.o,show Qm (Jt s.data.toList a++[UInt8.ofNat a])=Qm (Jt s.data.toList a)++[.int .u8 (a:Int)]by simp[Qm,US,XQ hlt]];exact u
    intro q;rcases p d q with d|d
    ·exact n.o d
    have:=c.o.lt;omega
   have:=o.o;omega
  have h:=kS s.data.toList a f;rw[XI f]at c0;have l:=Qa h
  go_wp2
  go_roundg (256-(a+1))
  ·exact⟨a+1,by omega,rfl,by go_num,by rwa[l.o],c.o,g.o,m.o,n.o⟩
  have:=o.o;omega
 obtain rfl:a=256:=by omega
 have:=Qh.text k;have g:=Qa b
 go_wp2
 go_ret;exact⟨rfl,g.o⟩
def Qi(l:List Nat):List Value:=l.map fun a:Nat=>.int .i64 (a:Int)
def QD(l):(Qi l).length=l.length:=by simp[Qi]
def Dt(a b):Qi (a++b)=Qi a++Qi b:=by simp[Qi]
def Cs(l):Qi l=QK (l.map fun n:Nat=>(n:Int)):=by simp[Qi,QK]
def YE(p:List Nat × Nat)(w:World)(e:Ending)(w':World):Prop:=
 ∃a b,e=.returned (.tuple #[.slice a p.1.length b,(p.2:Nat)])∧Qh w' 3 (.slice a p.1.length b) (Qi p.1)∧Qb [] w w'∧Qs w.heap.size (fZ a)
def YE.err{w w' e n}(a:e=.returned (.tuple #[.slice none 0 0,(n:Nat)]))(hk:Qb [] w w'):YE ([],n) w e w':=
 ⟨none,0,a,Qh.nil _ _,hk,by simp[Qs,fZ]⟩
def YE.ok{w w' e l a c}(b:e=.returned (.tuple #[.slice a l.length c,(0:Int)]))(d:Qh w' 3 (.slice a l.length c) (Qi l))(hk:Qb [] w w')(hf:Qs w.heap.size (Qd<|.slice a l.length c)):YE (l,0) w e w':=
 ⟨a,c,b,d,hk,by rwa[←XJ a l.length c]⟩
def Qh.fZ{w e a n c xs}(b:Qh w e (.slice a n c) xs):Qd (.slice a n c)=fZ a:=XJ a n c
def yO(l:List UInt8)(b p)(hp:p<l.length)(f:∀j,j<p→l.getD j 0≠b)(a:l.getD p 0=b):l.idxOf b=p:=by
 have d:l=l.take p++l[p]::l.drop (p+1):=by rw[←Xa hp,VP]
 have hb:l[p]=b:=by rwa[List.getD,Qj hp]at a
 have a:b∉l.take p:=by intro a;obtain⟨j,e,c⟩:=Ps a;rw[Zn]at e;refine f j (by omega) ?_;rw[List.getD,Qj (by omega:j<l.length)];rwa[List.getElem_take]at c
 rw[d,List.idxOf_append,Qe a,Zn,hb,List.idxOf_cons_self];omega
def yQ(l:List UInt8)(b)(e:∀j,j<l.length→l.getD j 0≠b):l.idxOf b=l.length:=by apply List.idxOf_eq_length;intro d;obtain⟨j,a,c⟩:=Ps d;refine e j a ?_;rwa[List.getD,Qj a]
def dW(g c p n l w)(f:l.length=n)(hp:p<n)(b:n≤c)(d:n≤140737488351232)(a:QI w g (Qm l)):
 Calls prog 202 #[.slice g n c,p] w fun e w'=>e=.returned (.int .u8 ((l.getD p 0).toNat:Nat))∧QI w' g (Qm<|K.turned l p)∧Qb [g] w w':=by
 subst f;exact Qbb g c p l w hp b d a
def oK(s t:ByteArray)(w0:World)(g:Nat)(k:Nat)(v c:Value)(w:World):Prop:=
 ∃a b d,a≤s.size∧k=s.size-a∧c=.int .i64 (a:Nat)∧Qh w 3 v (Qi d)∧d.length=a∧QI w g (Qm b)∧b.length=t.size∧
  K.front t.data.toList s.data.toList=(K.front b (s.data.toList.drop a)).map (d++ ·)∧Qb [] w0 w∧Qs w0.heap.size (g::Qd v)∧g∉Qd v
def oM(b:UInt8)(d:List UInt8)(w0:World)(k:Nat)(c:Value)(w:World):Prop:=
 ∃a f,a≤d.length∧k=d.length-a∧c=.int .i64 (a:Nat)∧(∀e,e<a→d.getD e 0≠b)∧w=w0.drewN f
set_option maxHeartbeats 1000000 in
def Qfg(s t:ByteArray)(w)(hs:s.size≤1000000)(a:t.size≤1000000000):
 Calls prog 162 #[s,t] w (YE (Aa s.data.toList t.data.toList) w):=by
 go_enter func162,ntmps162;go_wp2_with fail;refine(Oo t _<|by omega).mono ?_;rintro I a⟨rfl,b⟩;have y:=Qa b;clear b;rcases Jv (UW t.data.toList)with h|h
 ·have m:Aa s.data.toList t.data.toList=match K.front t.data.toList s.data.toList with|none=>([],60)|some l=>(l,0):=by unfold Aa;rw[h];rfl
  have r:=Qa m;rw[h];obtain⟨cap,d,D⟩:=TF a t;have b:=QI.bytes a.drew t cap D;have g:Qb [] a (a.drew.alloc<|.cells (bytesRow t cap) 5 ((bytesRow t cap).size,(bytesRow t cap).size+1)):=(Qc _ _).drew.alloc _;have c:(a.drew.alloc<|.cells (bytesRow t cap) 5 ((bytesRow t cap).size,(bytesRow t cap).size+1)).heap.size=a.heap.size+1:=by simp
  have j:a.drew.heap.size=a.heap.size:=rfl;rw[j]at b;generalize a.drew.alloc (.cells (bytesRow t cap) 5 ((bytesRow t cap).size,(bytesRow t cap).size+1))=W0 at b g d c;have⟨f,e⟩:=qx a.heap.size;rw[e]at b d c;have⟨n,a,o,i⟩:=qd e b g c;clear m h b g c j e;go_wp2_with ((at_make;refine Y0 rfl _ _ 51 rfl 3 (0:Int) 8 XH XR rfl .i64 .i64 _ _ 0 s.size rfl rfl rfl rfl (by omega) (by omega) (by simp only[maxLen];omega) ?_;intro c H b));have k:=Qa (a.o.kept b<|by simp);have:f<W0.heap.size:=by have:=i.o;omega
  have j:Qb [] w c:=(y.o.new o.o<|by simp[Qs]).new b (by simp[Qs]);have g:Qs w.heap.size (f::Qd (.slice W0.heap.size 0 s.size)):=by
   have e:=y.o.size;have:=n.o;intro c a;simp[Qd,qo]at a;rcases a with rfl|rfl
   ·omega
   have:=i.o;omega
  have i:f∉Qd (.slice W0.heap.size 0 s.size):=by simp[Qd,qo];omega
  have⟨n,p,o⟩:=qc g i j;clear b j g i d
  go_loopg [7,20] s.size (fun i d b wr=>oK s t w f i d b wr)
  ·exact⟨0,t.data.toList,[],by omega,by omega,rfl,H,rfl,k.o,Zm t,by simp,o.o,n.o,p.o⟩
  obtain⟨d,g,v,hi,hk,rfl,G,F,hb,A,n,u,j,E⟩:=hrel;have⟨M,x,k,B,C,o,q,p⟩:=qh hk n A F G hb u j;have z:=Qa E;clear hk H n A F G hb u j E
  by_cases hlt:d<s.size
  ·have:(d:Int)<s.size:=(by omega);have j:s.data.toList.drop d=s[d]::s.data.toList.drop (d+1):=(by have e:d<s.data.toList.length:=(by rw[Zm];exact hlt);exact Xa e);have E:=Qa j;clear j;obtain⟨e,rfl⟩:∃e:World,e=wr:=⟨_,rfl⟩
   go_wp2
   go_loopg [9] g.length (fun i b wr=>oM s[d] g e i b wr)
   ·exact⟨0,0,by omega,by omega,rfl,fun j J=>by omega,rfl⟩
   obtain⟨b,i,hp,hk,rfl,i,rfl⟩:=hrel;have⟨O,A⟩:=qb hk i;have:b≤t.size:=(by have:=k.o;omega);clear hk i
   by_cases G:b<t.size
   ·have u:b<g.length:=(by have:=k.o;omega);obtain⟨_,_⟩:(b:Int)<t.size∧(b:Int)<cap:=(by omega);have c0:=o.o.cell<|Ky g b u;have⟨c,a⟩:=qx<|g.getD b 0;rw[a]at c0;have H:=Qa a;clear a
    by_cases i:c=s[d]
    ·have n:=yO g s[d] b u A.o<|H.o.trans i;rw[i]at c0;have F:=Qa n;clear n i;go_wp2_with fail;go_quiet (fail);go_wp2_with fail;refine(dW f cap b t.size g _ k.o G D (by omega)<|by exact o.o).mono ?_;rintro I D⟨rfl,I,o⟩;have o:Qb [f] e D:=((Qc [f] e).drewN _).trans o fun c a=>.inl a;have R:=C.o.kept o (fun c a e=>z.o<|by rwa[Q8.1 e]at a);have P:(Qi v).length+1≤maxLen:=(by rw[QD,B.o];simp only[maxLen];omega);have Q:((Qi v).length+1)*8≤140737488355328:=(by rw[QD,B.o];omega);have⟨D,G⟩:=qb I o;clear I o;go_wp2_with ((at_builtin;refine UL _ rfl _ _ 51 rfl 3 (0:Int) 8 XH XR rfl _ _ [(b:Int)] 1 rfl rfl rfl rfl (by simp[Value.oneCell']) R P Q ?_;intro a5 o T S L I))
     go_roundg (s.size-(d+1))
     case measure=>have:=M.o;omega
     have o:Qs w.heap.size (Qd u7):=fun c a=>p.o c (by simp[a])
     refine⟨d+1,K.turned g b,v++[b],by omega,rfl,by go_num,?_,by simp[B.o],D.o.kept L z.o,by rw[DF _ _ u,k.o],?_,?_,?_,?_⟩
     ·rw[Dt];exact S
     ·rw[x.o,E.o,wN _ _ _<|by rwa[F.o],F.o,cY]
     ·exact(q.o.trans G.o fun c a=>.inr (by rw[Q8.1 a];exact p.o f<|by simp)).new L o
     ·intro c a;rcases QB.1 a with rfl|a
      ·exact p.o _ (by simp)
      rcases I c a with e|e
      ·exact o c e
      exact QU q.o.size<|QU G.o.size e
     intro h;rcases I f h with e|e
     ·exact z.o e
     have:=D.o.lt;omega
    have o:¬c.toNat=(s[d]'hlt).toNat:=fun e=>i<|Dd.1 e
    have g1:(((c.toNat:Nat):Int) != (((s[d]'hlt).toNat:Nat):Int))=true:=Vy.2 (by omega);have f:=Qa i;clear i o;go_wp2_with fail;go_quiet (fail)
    go_wp2
    go_roundg (g.length-(b+1))
    ·refine⟨b+1,_,by omega,rfl,by go_num,fun j J=>?_,rfl⟩;rcases Xp j b with e|e
     ·exact A.o j e
     obtain rfl:j=b:=(by omega);rw[H.o];exact f.o
    have:=O.o;omega
   obtain rfl:b=t.size:=(by omega);have n:=yQ g s[d] (fun j J=>A.o j (by have:=k.o;omega));have b:Aa s.data.toList t.data.toList=([],60):=(by rw[r.o,x.o,E.o,wQ _ _ _ n];rfl);have e:=Qa b;clear n b;go_wp2_with fail;go_quiet (fail)
   go_wp2
   go_ret2;rw[e.o];exact YE.err (by rfl)<|q.o.drewN _
  obtain rfl:d=s.size:=by omega
  have b:s.data.toList.drop s.size=[]:=JB (by rw[Zm];exact Ql _);have d:Aa s.data.toList t.data.toList=(v,0):=by rw[r.o,x.o,b];simp[K.front]
  have f:=Qa d;obtain⟨e,e,e,-,-,-,-⟩:=C.o.sees;rw[QD]at e;subst e;clear b d
  go_wp2
  go_ret2;rw[f.o];exact YE.ok (by rfl) C.o q.o (fun c a=>p.o c<|by simp[a])
 have m:Aa s.data.toList t.data.toList=([],2):=by unfold Aa;rw[h];rfl
 have r:=Qa m;rw[h];clear m h
 go_wp2
 go_ret2;rw[r.o];exact YE.err (by rfl) y.o
def CX(p:List UInt8 × Nat)(w:World)(e:Ending)(w':World):Prop:=
 e=.returned (.tuple #[.string ⟨p.1.toArray⟩,(p.2:Nat)])∧Qb [] w w'
def oJ(xs:List Int)(t:ByteArray)(w0:World)(g:Nat)(k:Nat)(v c:Value)(w:World):Prop:=
 ∃a b d,a≤xs.length∧k=xs.length-a∧c=.int .i64 (a:Nat)∧Qh w 5 v (Qm d)∧d.length=a∧QI w g (Qm b)∧b.length=t.size∧
  K.back t.data.toList xs=(K.back b (xs.drop a)).map (d++ ·)∧Qb [] w0 w∧Qs w0.heap.size (g::Qd v)∧g∉Qd v
set_option maxHeartbeats 1000000 in
def Qfa(a b xs)(t:ByteArray)(w)(d:Qn w 1 a xs.length (QK xs))(hs:xs.length≤1000000)(c:t.size≤1000000000):
 Calls prog 228 #[.slice a xs.length b,t] w (CX (AB xs t.data.toList) w):=by
 have r:=Qa d;clear d;go_enter func228,ntmps228;go_wp2_with fail;refine(Oo t _<|by omega).mono ?_;rintro J b⟨rfl,c⟩;have v:=Qa c;clear c;rcases Jv (UW t.data.toList)with h|h
 ·have o:AB xs t.data.toList=match K.back t.data.toList xs with|none=>([],60)|some l=>(l,0):=by unfold AB;rw[h];rfl
  have n:=Qa o;rw[h];obtain⟨cap,f,A⟩:=TF b t;have c:=QI.bytes b.drew t cap A;have j:Qb [] b (b.drew.alloc<|.cells (bytesRow t cap) 5 ((bytesRow t cap).size,(bytesRow t cap).size+1)):=(Qc _ _).drew.alloc _;have e:(b.drew.alloc<|.cells (bytesRow t cap) 5 ((bytesRow t cap).size,(bytesRow t cap).size+1)).heap.size=b.heap.size+1:=by simp
  have m:b.drew.heap.size=b.heap.size:=rfl;rw[m]at c;generalize b.drew.alloc (.cells (bytesRow t cap) 5 ((bytesRow t cap).size,(bytesRow t cap).size+1))=W0 at c j f e;have⟨g,i⟩:=qx b.heap.size;rw[i]at c f e;have⟨q,b,s,k⟩:=qd i c j e;clear o h c j e m i;go_wp2_with ((at_make;refine Y0 rfl _ _ 88 rfl 5 (.int .u8 0) 1 ZW YL rfl .i64 .i64 _ _ 0 xs.length rfl rfl rfl rfl (by omega) (by omega) (by simp only[maxLen];omega) ?_;intro c G e));have p:=Qa (b.o.kept e<|by simp);have:g<W0.heap.size:=by have:=k.o;omega
  have m:Qb [] w c:=(v.o.new s.o<|by simp[Qs]).new e (by simp[Qs]);have j:Qs w.heap.size (g::Qd (.slice W0.heap.size 0 xs.length)):=by
   have i:=v.o.size;have:=q.o;intro c b;simp[Qd,qo]at b;rcases b with rfl|rfl
   ·omega
   have:=k.o;omega
  have k:g∉Qd (.slice W0.heap.size 0 xs.length):=by simp[Qd,qo];omega
  have⟨q,u,s⟩:=qc j k m;clear e m j k f
  go_loopg [7,20] xs.length (fun f j e wr=>oJ xs t w g f j e wr)
  ·exact⟨0,t.data.toList,[],by omega,by omega,rfl,G,rfl,p.o,Zm t,by simp,s.o,q.o,u.o⟩
  obtain⟨f,j,m,hi,hk,rfl,F,E,hb,B,e,y,s,D⟩:=hrel;have⟨I,p,q,z,C,H,k,u⟩:=qh hk e B E F hb y s;have x:=Qa D;clear hk G e B E F hb y s D
  by_cases hlt:f<xs.length
  ·have:(f:Int)<xs.length:=(by omega);have⟨c,b⟩:=qy xs f hlt;have e:xs.drop f=c::xs.drop (f+1):=(by obtain⟨i,rfl⟩:=Qz.1 b;exact Xa i);have s:=Qa e;obtain⟨b0,i,rfl,-⟩:=r.o.at (by rw[Xk];omega);have c0:=(r.o.kZ k.o).int b;clear e b
   by_cases r:c<0
   ·have i:AB xs t.data.toList=([],60):=(by rw[n.o,p.o,s.o,K.back,Qg<|.inl r];rfl);have y:=Qa i;have g1:decide (c<0)=true:=Xr r;clear i
    go_wp2
    go_ret2;rw[y.o];exact⟨by rfl,k.o⟩
   have g1:decide (c<0)=false:=XI r;obtain⟨e,rfl⟩:=X5 (by omega:0≤c)
   by_cases B:t.size≤e
   ·have i:AB xs t.data.toList=([],60):=(by rw[n.o,p.o,s.o,K.back,Qg<|.inr (by have:=q.o;omega)];rfl);have y:=Qa i;have B:(t.size:Int)≤e:=(by omega);clear i
    go_wp2
    go_ret2;rw[y.o];exact⟨by rfl,k.o⟩
   obtain⟨B,i⟩: ¬(t.size:Int)≤e∧e<t.size:=(by omega);have L:e<j.length:=(by have:=q.o;omega);clear r;go_wp2_with fail;refine(dW g cap e t.size j _ q.o i A (by omega)<|by exact H.o).mono ?_;rintro J i⟨rfl,D,r⟩;have H:=C.o.kept r (fun c b d=>x.o<|by rwa[Q8.1 d]at b);have F:(Qm m).length+1≤maxLen:=(by rw[XV,z.o];simp only[maxLen];omega);have G:((Qm m).length+1)*1≤140737488355328:=(by rw[XV,z.o];omega);have⟨i,y⟩:=qx<|j.getD e 0;rw[y];have⟨E,A,B⟩:=qc y D r;clear D r y c0;go_wp2_with ((at_builtin;refine UL _ rfl _ _ 88 rfl 5 (.int .u8 0) 1 ZW YL rfl _ _ [.int .u8 (i.toNat:Int)] 1 rfl rfl rfl rfl (by simp[Value.oneCell']) H F G ?_;intro a5 r M J D y))
   go_roundg (xs.length-(f+1))
   case measure=>have:=I.o;omega
   have r:Qs w.heap.size (Qd u7):=fun c b=>u.o c (by simp[b])
   refine⟨f+1,K.turned j e,m++[i],by omega,rfl,by go_num,?_,by simp[z.o],A.o.kept D x.o,by rw[DF _ _ L,q.o],?_,?_,?_,?_⟩
   ·rw[show Qm (m++[i])=Qm m++[.int .u8 (i.toNat:Int)]by simp[Qm]];exact J
   ·have q:K.back j ((e:Int)::xs.drop (f+1))=(K.back (K.turned j e)<|xs.drop<|f+1).map (i:: ·):=(by rw[K.back,Qe<|by omega,Zw,show j.getD e default=i from E.o]);rw[p.o,s.o,q,cY]
   ·exact(k.o.trans B.o fun c b=>.inr (by rw[Q8.1 b];exact u.o g<|by simp)).new D r
   ·intro c b;rcases QB.1 b with rfl|b
    ·exact u.o _ (by simp)
    rcases y c b with d|d
    ·exact r c d
    exact QU k.o.size<|QU B.o.size d
   intro h;rcases y g h with d|d
   ·exact x.o d
   have:=A.o.lt;omega
  obtain rfl:f=xs.length:=by omega
  have b:xs.drop xs.length=[]:=JB<|Ql _;have c:AB xs t.data.toList=(m,0):=by rw[n.o,p.o,b];simp[K.back]
  have d:=Qa c;have:=Qh.text C.o;clear b c
  go_wp2
  go_ret2;rw[d.o];exact⟨by rfl,k.o⟩
 have o:AB xs t.data.toList=([],2):=by unfold AB;rw[h];rfl
 have n:=Qa o;rw[h];clear o h
 go_wp2
 go_ret2;rw[n.o];exact⟨by rfl,v.o⟩
