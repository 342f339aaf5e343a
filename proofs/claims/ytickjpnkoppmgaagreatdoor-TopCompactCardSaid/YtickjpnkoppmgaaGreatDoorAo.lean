import Derived.Sort.LotB
import Derived.Test.YtickjpnkoppmgaaGreatDoorAn
set_option linter.all false
set_option maxHeartbeats 4000000
set_option maxRecDepth 100000
namespace Go.Proofs.YtickjpnkoppmgaaGreatDoor
open Go.Proofs.Tryz Go.RowKit K
def Qcc(d a n c p:Nat)(P w)(b:w.cell? d=some (.slice a n c))(b:Qp w 1 a n (Qi P))(f:P.length=n)(hp:p<n)(a:n≤1000000000):
 Calls prog 268 #[p,.pointer d] w fun e w'=>e=.returned (P.getD p 0:Nat)∧w=w':=by
 have a:P[p]?=some (P.getD p 0):=by rw[List.getD,Qj<|by omega];rfl
 have c0:=b.natC a;rw[ZE]at c0;generalize P.getD p 0=x at*
 have:(p:Int)<n:=by omega
 go_enter func268,ntmps268
 go_wp2
 go_ret;exact⟨rfl,rfl⟩
def BI(a:Nat):VL:=.func (.func 268) #[] #[.pointer a]
def Qg6(g d a n c p:Nat)(P w)(b:Qe w g 351 [BI d,p])(m:w.cell? d=some (.slice (some ⟨a,0,none⟩) n c))(f:Qp w 1 (some ⟨a,0,none⟩) n (Qi P))(o:P.length=n)(hp:p<n)(q:n≤1000000000):
 Calls prog 269 #[.pointer g] w fun e w'=>e=.returned (P.getD p 0:Nat)∧Qe w' g 351 [BI d,(P.getD p 0:Nat)]∧Qb [g] w w':=by
 have a0:=b.cell (i:=0) rfl;have:=b.cell (i:=1) rfl;have:=b.free 1;have l:Qe (w.drew.setCell ⟨g,1,none⟩ (P.getD p 0:Nat)) g _ _:=Qe.set (w:=w.drew) b 1 (P.getD p 0:Nat);have k:=Qa l;have:=Qa f;have⟨j,r⟩:=qx<|P.getD p 0;have h:=Qcc d a n c p P w.drew m f o hp q;rw[r]at h k ⊢;have q:Calls prog 268 #[p,.pointer d] w.drew fun e w'=>e=.returned (.int .i64 j)∧w'=w.drew:=h.mono fun _ _ a=>⟨a.1,a.2.symm⟩
 have a:=Qa q;unfold BI at a0;go_enter func269,ntmps269;go_wp2_with fail
 go_still_tail 12,(by kernel_rfl)
 still_call a.o
 repeat still_step
 refine wpStill_nil ?_;change wpList _ _ _ _ _ w.drew;go_wp2_with fail
 go_wp2
 go_ret;exact⟨rfl,k.o,(Qc _ _).drew.setCell (p:=⟨g,1,none⟩) (.inl<|by simp) _⟩
def qQ(w):(zeroValue 349).run prog w=.ok (.agg<|Array.replicate 256<|.int .i64 0) w:=
 (zero_of_info (P:=prog) (t:=349) (v:=.agg<|Array.replicate 256<|.int .i64 0) (n:=256)<|by kernel_rfl).1 w
def pX(w):(isAgg 3).run prog w=.ok false w:=by kernel_rfl
def qI:(prog.info? 3).map (·.size)=some 1:=by kernel_rfl
def qJ:(prog.info? 349).map (·.size)=some 256:=by kernel_rfl
def uB(l):(Array.replicate 256<|Value.int .i64 0)=(Qi<|Ad l 0).toArray:=by rw[tU,Qi,GP,List.toArray_replicate];rfl
def zQ(l)(b:l.length=256)(i x:Nat)(a:l[i]?=some x)(w):(Instr.index 349 (.agg (Qi l).toArray) i).run prog w=.ok (x:Nat) w:=
 iF 349 3 256 (Qi l) .i64 i _ w underlying349 qI (pX w) (by rw[QF,b]) (UP _ _ _ a)
def Qe.setNat{w g t l}(a:Qe w g t (Qi l))(i x):Qe (w.setCell ⟨g,i,none⟩ (x:Nat)) g t (Qi<|l.set i x):=by have:=a.set i (x:Nat);rwa[VU]at this
def wH(s:BA)(i)(a:i<s.size):(Ya s)[i]?=some (s[i]'a).toNat:=by have:=Zo s;have:=Ce s i a;rw[List.getD,Qj<|by omega]at this;rw[Ya,ZD,Qj<|by omega];simp only[VI]at this;rw[this];rfl
def wI(s:BA):(Ya s).length=s.size:=by rw[Ya,QH,Zo]
def wJ(l):∀x∈Ya l,x<256:=by intro x a;simp only[Ya,QB]at a;obtain⟨b,-,rfl⟩:=a;exact VM b
def sS(l k b):Xx l k b≤l.length:=by unfold Xx;exact QS GJ (by rw[Zl];omega)
def X5(l:LN):LU:=l.map UInt8.ofNat
def Pc(l)(x:Nat):X5 (l++[x])=X5 l++[UInt8.ofNat x]:=by simp[X5]
def Pe(A n i x)(b:A.length=i)(hi:i<n):(Qm<|A++List.replicate (n-i) 0).set i (.int .u8 (x.toNat:Nat))=Qm (A++[x]++List.replicate (n-(i+1)) 0):=by obtain⟨a,c⟩:∃a,n-i=a+1:=⟨n-i-1,by omega⟩;rw[c,show n-(i+1)=a by omega];subst b;simp only[Qm,Xi,GP,Y8,QR,YG,QQ];rw[VF _ _<|by simp,QH,ZO];rfl
def gD(l P):∀k p,(Vu l P k p).length=k
 |0,p=>rfl
 |k+1,p=>by rw[Vu,Q0,gD l P k]
def Qg8(a:Nat)(W:WD):(store ⟨W.heap.size,0,none⟩<|.func (.func 268) #[] #[.pointer a]).run prog (W.alloc<|.cells #[.nilFunc,(0:Int)] 351)=
 .ok () ((W.alloc<|.cells #[.nilFunc,(0:Int)] 351).setCell ⟨W.heap.size,0,none⟩<|.func (.func 268) #[] #[.pointer a]):=by
 have b:=Qy W [.nilFunc,(0:Int)] 351;have c0:=b.cell (i:=0) rfl;have a:=b.free 0;rw[run_store _ _ _ _ _<|by simp[Value.oneCell']];simp only[List.toArray]at c0 a;rw[show(W.alloc<|.cells #[.nilFunc,(0:Int)] 351).cell? W=some .nilFunc from c0];simp only[];rw[show(W.alloc<|.cells #[.nilFunc,(0:Int)] 351).frozen? W=false from a];simp
def rO(s:BA)(row w)(hs:s.size≤262144)(X:row<s.size):
 Calls prog 229 #[s,row] w (CW (X5<|Vu (Ya s) (XG (Ya s) 256) s.size row,0) w):=by
 have⟨b,f⟩:=qx<|Ya s;have i:b.length=s.size:=by rw[←f];exact wI s
 have q:∀a (e:a<s.size),b[a]?=some (s[a]'e).toNat:=fun a e=>by rw[←f];exact wH s a e
 have k:∀g∈b,g<256:=by rw[←f];exact wJ _
 rw[f];have⟨c,d⟩:=qx<|XG b 256;rw[d];have o:c.length=s.size:=by rw[←d,KN];unfold XR;rw[←i,PQ];intro g j;simpa using k g j
 have p:∀h,h<s.size→c.getD h 0<s.size:=by
  intro h hp;rw[List.getD,Qj<|by omega];have n:c[h]'(by omega)∈XG b 256:=by rw[d];exact XV _
  rw[Ga]at n;simp only[VI];omega
 have⟨l,A,P,I,R,T⟩:=qf i q k d o p;have g1:decide (262144<(s.size:Int))=false:=by simp;omega
 have:(row:Int)<s.size:=by omega
 clear f i q k d o p;have hz:=qQ;go_enter func229,Me;go_wp2_with fail;rw[uB b];have c:=Qy w (Qi<|Ad b 0) 349;have d:Qb [] w (w.alloc<|.cells (Qi<|Ad b 0).toArray 349):=(Qc _ _).alloc _;generalize w.alloc (.cells (Qi<|Ad b 0).toArray 349)=W0 at c d ⊢;have⟨i,f⟩:=qx w.heap.size;rw[f]at c ⊢;have⟨z,k,o⟩:=qc (by omega:w.heap.size≤i) c d;clear hz f c d
 go_loopg [29] s.size (fun p q wr=>∃a,a≤s.size∧p=s.size-a∧q=.int .i64 (a:Nat)∧Hid (Qe wr i 349<|Qi<|Ad b a)∧Hid (Qb [] w wr))
 ·exact⟨0,by omega,by omega,rfl,k,o⟩
 obtain⟨a,hi,hk,rfl,r,x⟩:=hrel;have f:=Qa hk;clear hk
 by_cases hlt:a<s.size
 ·have F:(a:Int)<s.size:=by omega
  have j:=VM<|s[a]'hlt;have o:=A.o a hlt;have k:=tT b a _ o j;have n:=sS b a (s[a]'hlt).toNat;have u:=l.o;have c0:=r.o.cell<|UP _ _ _<|Dt (fun c=>Xx b a c) 256 (s[a]'hlt).toNat j;have D:=r.o.free (s[a]'hlt).toNat;have d:=r.o.setNat (s[a]'hlt).toNat<|Xx b a (s[a]'hlt).toNat+1;rw[k]at d;have t:=Qa d;have hb:Xx b a (s[a]'hlt).toNat≤262144:=by omega
  clear k n u o d;generalize Xx b a (s[a]'hlt).toNat=m at*
  go_wp2
  go_roundg (s.size-(a+1))
  ·exact⟨a+1,by omega,rfl,by go_num,t,Qa<|x.o.setCell (.inr z.o) _⟩
  have:=f.o;omega
 obtain rfl:a=s.size:=by omega
 have f:=r.o;have n:=tS b;rw[l.o]at n;rw[n]at f;have v:=Qa f;have u:∀c:Nat,c<256→∀d,(Instr.index 349 (.agg (Qi<|Be b 0).toArray)<|.int .i64 c).run prog d=.ok (.int .i64 (b.count c:Nat)) d:=fun c hb d=>by refine zQ _ (jR b 0) c _ ?_ d;have:=Dt (fun d=>if d<0 then XR b d else b.count d) 256 c hb;rwa[Qf<|by omega]at this
 have y:=Qa u;clear f n u;go_wp2_with (refine Pq rfl 349 _ rfl i rfl _ _ _ _ v.o underlying349 rfl (by rw[qJ];simp[QF,jR]) ?_)
 go_loopg [8,41] 256 (fun p n q wr=>∃c:Nat,c≤256∧p=256-c∧n=.int .i64 (XR b c:Nat)∧q=.int .i64 (c:Nat)∧Hid (Qe wr i 349<|Qi<|Be b c)∧Hid (Qb [] w wr))
 ·exact⟨0,by omega,by omega,by rw[TQ];rfl,rfl,v,x⟩
 obtain⟨c,hb,hk,rfl,rfl,t,x⟩:=hrel;have B:=Qa hk;clear hk
 by_cases n:c<256
 ·have F:(c:Int)<256:=by omega
  have u:=y.o c n;have u:=Eg b c;have C:=MA b c;have E:=MA b<|c+1;have G:=l.o;have c0:=t.o.cell<|UP _ _ _<|Dt (fun d=>if d<c then XR b d else b.count d) 256 c n;have D:=t.o.free c;have d:=t.o.setNat c<|XR b c;rw[Qhb b c n]at d;have v:=Qa d;have:XR b c≤262144:=by omega
  have:b.count c≤262144:=by omega
  have y:=Qa u;clear d u C E G;generalize XR b c=m at*
  generalize b.count c=n at*
  go_wp2
  go_roundg (256-(c+1))
  ·exact⟨c+1,by omega,rfl,by rw[y.o];go_num,by go_num,v,Qa<|x.o.setCell (.inr z.o) _⟩
  have:=B.o;omega
 obtain rfl:c=256:=by omega
 have f:=t.o;rw[Qha]at f;have v:=Qa f;clear f;go_wp2_with ((at_make;refine YZ rfl _ _ 51 rfl 3 (0:Int) 8 XC XJ rfl .i64 .i64 _ _ s.size s.size rfl rfl rfl rfl (by omega) (by omega) (by simp only[maxLen];omega) ?_;intro d B y));have u:=Xf d<|.cells #[.slice (some ⟨wr.heap.size,0,none⟩) s.size s.size] 51;have t:Qb [] d (d.alloc<|.cells #[.slice (some ⟨wr.heap.size,0,none⟩) s.size s.size] 51):=(Qc _ _).alloc _;have C:(d.alloc<|.cells #[.slice (some ⟨wr.heap.size,0,none⟩) s.size s.size] 51).heap.size=d.heap.size+1:=by simp
 generalize d.alloc (.cells #[.slice (some ⟨wr.heap.size,0,none⟩) s.size s.size] 51)=W4 at u t C ⊢;have O:i<wr.heap.size:=v.o.lt;have L:wr.heap.size<d.heap.size:=B.lt _ (by simp[Qd,qo]);have E:=(v.o.kept y<|by simp).kept t (by simp);have v:=B.kept t (by simp);rw[show List.replicate s.size (Value.int .i64 0)=Qi (List.replicate s.size 0)by simp[Qi]]at v;have H:=(x.o.trans y<|by simp).trans t (by simp);have M:w.heap.size≤wr.heap.size:=x.o.size;have⟨e,hh⟩:=qx wr.heap.size;have⟨f,J⟩:=qx d.heap.size;rw[hh]at O L v M u ⊢;rw[J]at L u C ⊢;have d:CV b 0 (List.replicate s.size 0):=⟨by rw[RV,l.o],fun x x=>by omega⟩;have⟨x,L,U,Q,O⟩:=qe d E v (show Qe W4 f 51 [.slice (some ⟨e,0,none⟩) s.size s.size]from u) H;clear hh J C E v H u t y B d
 go_loopg [57] s.size (fun p q wr=>∃(a:Nat)(d:LN),a≤s.size∧p=s.size-a∧q=.int .i64 (a:Nat)∧Hid (Qe wr i 349<|Qi<|Gc b a)∧Hid (Qh wr 3 (.slice (some ⟨e,0,none⟩) s.size s.size)<|Qi d)∧Hid (Qe wr f 51 [.slice (some ⟨e,0,none⟩) s.size s.size])∧Hid (CV b a d)∧Hid (Qb [] w wr))
 ·exact⟨0,_,by omega,by omega,rfl,L,U,Q,x,O⟩
 obtain⟨a,d,hi,hk,rfl,y,t,u,C,B⟩:=hrel;have V:=Qa hk;clear hk x
 by_cases hlt:a<s.size
 ·have F:(a:Int)<s.size:=by omega
  have j:=VM<|s[a]'hlt;have o:=A.o a hlt;have⟨g,H⟩:=qx<|(s[a]'hlt).toNat;have J:b.getD a 0=g:=by rw[List.getD,o,H];rfl
  have x:Uu b a=XR b g+Xx b a g:=by unfold Uu;rw[J]
  have L:=Oo b a (by rw[l.o];exact hlt);rw[H]at o j;have k:=Qb6 b a g o j;have G:=l.o;have c0:=y.o.cell<|UP _ _ _<|Dt (fun c=>XR b c+Xx b a c) 256 g j;have D:=y.o.free g;have⟨h,hp⟩:=qx<|XR b g+Xx b a g;rw[hp]at k x c0;rw[x]at L;have E:=C.o.step (by rw[l.o];exact hlt);rw[x]at E;have:h<s.size:=by omega
  have:(h:Int)<s.size:=by omega
  have:=u.o.cell (i:=0) rfl;have W:d.length=s.size:=by rw[C.o.1,l.o]
  have⟨c,O⟩:=qy d h (by omega);have:=t.o.aZ<|UP _ _ _ O;have:=t.o.free h;have c:=t.o.put h<|.int .i64 (a:Nat);rw[VU]at c;have⟨v,Q,U⟩:=qc k E c;have:=Qa H;have:IntKind.i64.wrap ((h:Int)+1)=(h:Int)+1:=Q3 _ (by omega);have hne:¬i=e:=by omega
  have:¬i=f:=by omega
  have:¬f=e:=by omega
  clear o J x L k G hp E c O W;go_wp2_with fail
  go_region
  all_goals go_wp2_with fail
  all_goals
   go_roundg (s.size-(a+1))
   case measure=>have:=V.o;omega
   have o:=(y.o.kept (S:=[e]) ((Qc _ _).setCell (p:=⟨e,h,none⟩) (.inl<|by simp)<|.int .i64 (a:Nat)) (by simp;omega)).setNat g<|h+1;rw[v.o]at o;have x:Qb [e,i] wr (((wr.setCell ⟨e,h,none⟩<|.int .i64 (a:Nat)).setCell ⟨i,g,none⟩<|.int .i64<|(h:Int)+1).drew):=(((Qc _ _).setCell (p:=⟨e,h,none⟩) (.inl<|by simp) _).setCell (p:=⟨i,g,none⟩) (.inl<|by simp) _).drew;refine⟨a+1,_,by omega,rfl,by go_num,Qa ?_,Qa ?_,Qa<|u.o.kept x (by simp;omega),Q,Qa<|B.o.trans x ?_⟩
   ·exact o
   ·exact(U.o.setCell (p:=⟨i,g,none⟩) (by simp[Qd,qo];omega) _).drew
   intro h hz;simp at hz;have:=z.o;rcases hz with rfl|rfl
   ·exact .inr M
   exact .inr this
 obtain rfl:a=s.size:=by omega
 have h:=C.o;rw[←l.o]at h;have i:=h.done P.o;rw[I.o]at i;subst i;clear h I;have Q:=Qg8 f wr;have I:=((Qy wr [.nilFunc,(0:Int)] 351).set 0<|BI f).cell (i:=1) rfl;have J:=((Qy wr [.nilFunc,(0:Int)] 351).set 0<|BI f).free 1;unfold BI at I J;go_wp2_with ((at_make;refine YZ rfl _ _ 88 rfl 5 (.int .u8 0) 1 Xb YQ rfl .i64 .i64 _ _ s.size s.size rfl rfl rfl rfl (by omega) (by omega) (by simp only[maxLen];omega) ?_;intro l c i));have C:Qb [] w (wr.alloc<|.cells #[.func (.func 268) #[] #[.pointer<|some ⟨f,0,none⟩],(row:Nat)] 351):=
  B.o.alloc _
 have x:Qb [] wr (wr.alloc<|.cells #[.func (.func 268) #[] #[.pointer<|some ⟨f,0,none⟩],(row:Nat)] 351):=
  (Qc _ _).alloc _
 have o:Qe (wr.alloc<|.cells #[.func (.func 268) #[] #[.pointer<|some ⟨f,0,none⟩],(row:Nat)] 351) wr.heap.size 351 [BI f,(row:Nat)]:=Qy wr [BI f,(row:Nat)] 351;have y:(wr.alloc<|.cells #[.func (.func 268) #[] #[.pointer<|some ⟨f,0,none⟩],(row:Nat)] 351).heap.size=wr.heap.size+1:=by simp
 generalize (wr.alloc<|.cells #[.func (.func 268) #[] #[.pointer<|some ⟨f,0,none⟩],(row:Nat)] 351)=W5 at c i C x o y ⊢;have z:wr.heap.size<W5.heap.size:=o.lt;have h:e<wr.heap.size:=t.o.lt _ (by simp[Qd,qo]);have G:f<wr.heap.size:=u.o.lt;have E:w.heap.size≤wr.heap.size:=B.o.size;have⟨B,O,M,L⟩:=qd (o.kept i<|by simp) ((t.o.kept x<|by simp).kept i<|by simp) ((u.o.kept x<|by simp).kept i<|by simp) (C.trans i<|by simp);have H:Qh l 5 (.slice W5.heap.size s.size s.size) (Qm<|X5 (Vu b d 0 row)++List.replicate (s.size-0) 0):=by
  have:Qm (X5 (Vu b d 0 row)++List.replicate (s.size-0) 0)=List.replicate s.size (.int .u8 0):=by simp[Qm,X5,Vu]
  rwa[this]
 have t:=Qa H;have⟨l,u⟩:=qx wr.heap.size;rw[u]at z h G E B y ⊢;rw[y]at z t;have⟨h,G⟩:=qx<|l+1;rw[G]at z t ⊢;have P:w.heap.size≤h:=by omega
 clear Q I J C x o c i H u G y
 go_loopg [84] s.size (fun p q c=>∃a:Nat,a≤s.size∧p=s.size-a∧q=.int .i64 (a:Nat)∧Hid (Qh c 5 (.slice (some ⟨h,0,none⟩) s.size s.size)<|Qm<|X5 (Vu b d a row)++List.replicate (s.size-a) 0)∧Hid (Qe c l 351 [BI f,.int .i64 (Vk d a row:Nat)])∧Hid (Qh c 3 (.slice (some ⟨e,0,none⟩) s.size s.size)<|Qi d)∧Hid (Qe c f 51 [.slice (some ⟨e,0,none⟩) s.size s.size])∧Hid (Vk d a row<s.size)∧Hid (Qb [] w c))
 ·exact⟨0,by omega,by omega,rfl,t,B,O,M,Qa X,L⟩
 obtain⟨a,hi,hk,rfl,t,r,q,p,i,o⟩:=hrel;have z:=Qa hk;clear hk
 by_cases hlt:a<s.size
 ·have F:(a:Int)<s.size:=by omega
  have k:=Qg6 l f e s.size s.size (Vk d a row) d wr r.o (p.o.cell (i:=0) rfl) q.o.sZ R.o i.o (by omega);have c:d.getD (Vk d a row) 0<s.size:=T.o _ i.o;have e:=Qen b d a row;have u:Vk d (a+1) row=d.getD (Vk d a row) 0:=rfl;rw[←u]at k c;have⟨n,f⟩:=qx<|Vk d (a+1) row;rw[f]at k c e;have i:b.getD n 0=(s[n]'c).toNat:=by rw[List.getD,A.o n c];rfl
  rw[i]at e;have⟨y,l,v⟩:=qc e f k;have:(n:Int)<s.size:=by omega
  have r:(X5<|Vu b d a row).length=a:=by rw[X5,QH,gD]
  have b:=Qa r;clear k e u f i r;go_wp2_with fail;refine v.o.mono ?_;rintro d r⟨rfl,k,f⟩;have d:=t.o.kept f (by simp[Qd,qo];omega);have c0:=d.aZ (j:=a) (u:=.int .u8 ((0:UInt8).toNat:Nat)) (by rw[KT _ _ (by rw[Qo,b.o,RV];omega)];rw[List.getD,Zx (by rw[b.o];exact Ql _),b.o,ZO,V4,Qg<|by omega];rfl);have D:=d.free a;have i:=d.put a<|.int .u8 ((s[n]'c).toNat:Nat);rw[Pe _ _ _ _ b.o hlt]at i;have⟨x,u,e⟩:=qc i k f;clear d i k f v
  go_wp2
  go_roundg (s.size-(a+1))
  ·have b:Qb [h] r (r.setCell ⟨h,a,none⟩<|.int .u8 ((s[n]'c).toNat:Nat)):=(Qc _ _).setCell (p:=⟨h,a,none⟩) (.inl<|by simp) _;refine⟨a+1,by omega,rfl,by go_num,Qa ?_,Qa ?_,Qa<|(q.o.kept e.o (by simp[Qd,qo];omega)).kept b (by simp[Qd,qo];omega),Qa<|(p.o.kept e.o (by simp;omega)).kept b (by simp;omega),Qa<|by rwa[l.o],Qa ?_⟩
   ·rw[y.o,Pc,Ir];exact x.o
   ·rw[l.o];exact u.o.kept b (by simp;omega)
   exact(o.o.trans e.o (by intro g j;simp at j;subst j;exact .inr E)).trans b (by intro g j;simp at j;subst j;exact .inr P)
  have:=z.o;omega
 obtain rfl:a=s.size:=by omega
 have a:=t.o;rw[ZO,CP,XH]at a;have:=Qh.text a;have b:=Qa o.o;clear a
 go_wp2
 go_ret2;exact⟨rfl,b.o⟩

section
open Go.Sort
def Jm.test{w0 w g c n k m b f d}(p:Jm w0 g k m n b f)(a:Qw w0 g c n d w)(l i j)(hi:i<n)(h:j<n):
 ∃(x o:Nat)(r:Int),w.cell? ⟨g,i,none⟩=some (.int .i64 (x:Int))∧w.cell? ⟨g,j,none⟩=some (.int .i64 (o:Int))∧Qt n f b d[i]! d[j]! =decide (r<0)∧
  (∀w1,Qb [] w w1→Calls prog 248 #[Jj (some ⟨k,m,none⟩) n l b,(x:Nat),(o:Nat)] w1 fun e w'=>e=.returned r∧Qb [] w w'):=by
 refine⟨d[i]!,d[j]!,Ac n f b d[i]! d[j]!,a.cell i hi,a.cell j h,rfl,fun w1 hk=>?_⟩;refine(p.call (a.kZ hk) l d[i]! d[j]! (a.lt i hi) (a.lt j h)).mono ?_;rintro e w'⟨a,b⟩;exact⟨a,hk.trans b<|by simp⟩
def Qw.swap2'{w0 w g c n d}(a:Qw w0 g c n d w)(i j)(hi:i<n)(e:j<n):
 Qw w0 g c n (swp d i j) ((w.setCell ⟨g,j,none⟩ (d[i]!:Nat)).setCell ⟨g,i,none⟩ (d[j]!:Nat)):=by
 by_cases b:i=j
 ·subst b;exact a.swap i i hi hi
 exact a.swap2 i j b hi e
def Qw.exch{w0 w g c n d}(a:Qw w0 g c n d w)(i j)(hi:i<n)(b:j<n):
 ∃(x e:Nat),w.cell? ⟨g,i,none⟩=some (.int .i64 (x:Int))∧w.cell? ⟨g,j,none⟩=some (.int .i64 (e:Int))∧w.frozen? ⟨g,i,none⟩=false∧w.frozen? ⟨g,j,none⟩=false∧
  Hid (Qw w0 g c n (swp d i j)<|((w.setCell ⟨g,i,none⟩ (e:Nat)).setCell ⟨g,j,none⟩ (x:Nat)).drew)∧
  Hid (Qw w0 g c n (swp d i j)<|((w.setCell ⟨g,j,none⟩ (x:Nat)).setCell ⟨g,i,none⟩ (e:Nat)).drew):=
 ⟨d[i]!,d[j]!,a.cell i hi,a.cell j b,a.row.free i,a.row.free j,Qa (a.swap i j hi b).drew,Qa (a.swap2' i j hi b).drew⟩
def Qw.exch1{w0 w g c n d}(a:Qw w0 g c n d w)(i)(hi:i<n):
 ∃(x:Nat),w.cell? ⟨g,i,none⟩=some (.int .i64 (x:Int))∧w.frozen? ⟨g,i,none⟩=false∧
  Hid (Qw w0 g c n (swp d i i)<|((w.setCell ⟨g,i,none⟩ (x:Nat)).setCell ⟨g,i,none⟩ (x:Nat)).drew):=
 ⟨d[i]!,a.cell i hi,a.row.free i,Qa (a.swap i i hi hi).drew⟩
def oD(w0:WD)(g c n:Nat)(d:Array Nat)(j s a b:Nat)(e:Ending)(w':WD):Prop:=
 ∃f h i:Nat,e=.returned (.tuple #[f,h])∧((f=a∧h=b)∨(f=b∧h=a))∧i≤s+1∧Qe w' j 3 [(i:Nat)]∧Qw w0 g c n d w'
def NZ(w0 g c n l o m j h d a b e s w)(f:Jm w0 g l o n j h)(h:Qw w0 g c n d w)(k:Qe w e 3 [(s:Nat)])(ha:a<n)(hb:b<n)(hs:s≤100)(y:w0.heap.size≤e)(z:e≠g):
 Calls prog 324 #[.slice g n c,a,b,.pointer e,Xy (some ⟨l,o,none⟩) n m j] w (oD w0 g c n d e s a b):=by
 have:=f.n9;obtain⟨t,u,l,c0,c1,j,e⟩:=f.test h m b a hb ha;obtain⟨_,_⟩:(a:Int)<n∧(b:Int)<n:=by omega
 have⟨p,m,o⟩:=qc h k e;clear f h k e j;unfold Xy
 by_cases r:l<0
 ·have x:decide (l<0)=true:=Xs r;go_enter func324,qG;go_wp2_with fail
  go_region_held3 (fun f=>Qb [] w f∧f.cell? ⟨g,b,none⟩=some (.int .i64 (t:Int))∧f.cell? ⟨g,a,none⟩=some (.int .i64 (u:Int)))
   (first|exact⟨Qc _ _,c0,c1⟩|exact⟨(Qc _ _).drew,c0,c1⟩|exact⟨e,e.cZ c0<|by simp,e.cZ c1<|by simp⟩)
   (first|(go_at_call 248;refine(o.o _ (Qc [] w).drew).mono ?_;rintro v A⟨rfl,e⟩))
  have j:=m.o.kept e (by simp);have a0:=j.cell (i:=0) rfl;have:=j.free 0;have q:=p.o.kZ e;have⟨k,h⟩:=qb (j.set 0 ((s+1:Nat):Int)) q;have:=Qa e;clear j q e c0 c1
  go_wp2
  go_ret2;refine⟨b,a,s+1,rfl,.inr ⟨rfl,rfl⟩,Ql _,k.o,h.o.row.setCell (by simp[Qd,qo];exact z) _,h.o.size,h.o.lt,h.o.kept.setCell (.inr y) _⟩
 have x:decide (l<0)=false:=Xz r;go_enter func324,qG;go_wp2_with fail
 go_region_held3 (fun f=>Qb [] w f∧f.cell? ⟨g,b,none⟩=some (.int .i64 (t:Int))∧f.cell? ⟨g,a,none⟩=some (.int .i64 (u:Int)))
  (first|exact⟨Qc _ _,c0,c1⟩|exact⟨(Qc _ _).drew,c0,c1⟩|exact⟨e,e.cZ c0<|by simp,e.cZ c1<|by simp⟩)
  (first|(go_at_call 248;refine(o.o _ (Qc [] w).drew).mono ?_;rintro v A⟨rfl,e⟩))
 have⟨k,h⟩:=qb (m.o.kept e<|by simp)<|p.o.kZ e;clear e c0 c1
 go_wp2
 go_ret2;exact⟨a,b,s,rfl,.inl ⟨rfl,rfl⟩,by omega,k.o,h.o⟩
def LF(w0:WD)(g c n:Nat)(d:Array Nat)(i s a b k:Nat)(e:Ending)(w':WD):Prop:=
 ∃f h:Nat,e=.returned f∧(f=a∨f=b∨f=k)∧h≤s+3∧Qe w' i 3 [(h:Nat)]∧Qw w0 g c n d w'
def dU(w0 g c n h i l f j d a b k e s w)(o:Jm w0 g h i n f j)(v:Qw w0 g c n d w)(u:Qe w e 3 [(s:Nat)])(ha:a<n)(hb:b<n)(hk:k<n)(hs:s≤97)(p:w0.heap.size≤e)(q:e≠g):
 Calls prog 313 #[.slice g n c,a,b,k,.pointer e,Xy (some ⟨h,i,none⟩) n l f] w (LF w0 g c n d e s a b k):=by
 have t:=Qa o;have r:=NZ w0 g c n h i l f j d a b e s w o v u ha hb (by omega) p q;have m:=Qa r;clear o v u r;unfold Xy at m ⊢;go_enter func313,ntmps313;go_wp2_with fail;refine m.o.mono ?_;rintro v B⟨A,r,u,rfl,z,o,x,y⟩;have o:=NZ w0 g c n h i l f j d r k e u B t.o y x (by omega) hk (by omega) p q;unfold Xy at o;have⟨r,u⟩:=qb o z;have hp:A<n:=by omega
 clear x y o m z;go_wp2_with fail;refine r.o.mono ?_;rintro v B⟨q2,k2,z,rfl,y,m,o,x⟩;have m:=NZ w0 g c n h i l f j d A q2 e z B t.o x o hp (by have:=u.o;omega) (by omega) p q;unfold Xy at m;have⟨e,p⟩:=qb m y;clear o x m r y;go_wp2_with fail;refine e.o.mono ?_;rintro v f⟨f,o,q,rfl,i,f,f,h⟩;have⟨l,j,m⟩:=qc i f h;clear f h e i
 go_wp2
 go_ret;exact⟨o,q,rfl,by have:=u.o;have:=p.o;have:=l.o;omega,by omega,j.o,m.o⟩
def NO(w0 g c n i j o e m d a b s w)(f:Jm w0 g i j n e m)(l:Qw w0 g c n d w)(k:Qe w b 3 [(s:Nat)])(h:1≤a)(ha:a+1<n)(hs:s≤97)(p:w0.heap.size≤b)(q:b≠g):
 Calls prog 312 #[.slice g n c,a,.pointer b,Xy (some ⟨i,j,none⟩) n o e] w (LF w0 g c n d b s (a-1) a<|a+1):=by
 have:=f.n9;have h:=dU w0 g c n i j o e m d (a-1) a (a+1) b s w f l k (by omega) (by omega) ha hs p q;have i:IntKind.i64.wrap ((a:Int)-1)=((a-1:Nat):Int):=by rw[Q3 _<|by omega];omega
 have j:IntKind.i64.wrap ((a:Int)+1)=((a+1:Nat):Int):=by rw[Q3 _<|by omega];omega
 have:(a:Int)-1=((a-1:Nat):Int):=by omega
 rw[show((a+1:Nat):Int)=a+1 by omega]at h;have e:=Qa h;clear f l k h i j;unfold Xy at e ⊢;go_enter func312,ntmps312;go_wp2_with fail;refine e.o.mono ?_;rintro f m⟨i,l,rfl,hp,k,f,h⟩;have j:=Qa<|show LF w0 g c n d b s (a-1) a (a+1) (.returned i) m from⟨i,l,rfl,hp,k,f,h⟩;clear f h hp e
 go_wp2
 go_ret;exact j.o
def oK(w0:WD)(g c n:Nat)(d:Array Nat)(a b:Nat)(e:Ending)(w':WD):Prop:=
 ∃(f:Nat)(h:Int),e=.returned (.tuple #[f,h])∧a≤f∧f<b∧Qw w0 g c n d w'
def Qdt(w0 g c n m p r l s d)(a b:Nat)(w)(j:Jm w0 g m p n l s)(q:Qw w0 g c n d w)(e:a+12<b)(hb:b≤n):
 Calls prog 297 #[.slice g n c,a,b,Xy (some ⟨m,p,none⟩) n r l] w (oK w0 g c n d a b):=by
 have:=j.n9;have t:=Qa j;have⟨k,x⟩:=qx<|b-a;have⟨e,z⟩:=qx<|k/4;have⟨f,hi⟩:=qx<|a+e;have⟨h,u⟩:=qx<|a+e*2;have⟨i,hk⟩:=qx<|a+e*3;obtain⟨_,_,_,_,_,eq,_,_⟩:3≤e∧(a+3≤f∧f+1<b)∧(a+3≤h∧h+1<b)∧(a+3≤i∧i+1<b)∧(b:Int)-a=(k:Int)∧(k:Int)/4=(e:Int)∧(a:Int)+e=(f:Int)∧(a:Int)+e*2=(h:Int):=by omega
 have:(a:Int)+e*3=(i:Int):=by omega
 have v:w0.heap.size≤w.heap.size:=q.kept.size;have:g<w.heap.size:=q.row.lt g (by simp[Qd,qo]);have o:Qw w0 g c n d (w.alloc<|.cells #[(0:Int)] 3):=q.kZ<|(Qc _ _).alloc _;have e:Qe (w.alloc<|.cells #[(0:Int)] 3) w.heap.size 3 [((0:Nat):Int)]:=Qy w [((0:Nat):Int)] 3;have⟨A,y⟩:=qb o e;have:decide (8≤(k:Int))=true:=by simp;omega
 obtain⟨_,_⟩:a+k=b∧k≤1000000000:=by omega
 clear q o e j x z hi u hk;unfold Xy;have fin:∀(f h i u:Nat)(e:WD),a≤f∧f<b→a≤h∧h<b→a≤i∧i<b→u≤9→Qw w0 g c n d e→Qe e w.heap.size 3 [(u:Nat)]→w.heap.size<e.heap.size→
  Calls prog 313 #[.slice g n c,.int .i64 f,.int .i64 h,.int .i64 i,.pointer w,.func (.func 248) #[Jj (some ⟨m,p,none⟩) n r l] #[]] e
   fun o z=>∃j x:Nat,o=.returned j∧(a≤j∧j<b)∧x≤12∧Qe z w.heap.size 3 [(x:Nat)]∧Qw w0 g c n d z:=by
  intro f h i u e z z z hs q B hz;have z:=dU w0 g c n m p r l s d f h i w.heap.size u e t.o q B (by omega) (by omega) (by omega) (by omega) v (by omega);unfold Xy at z;refine z.mono ?_;rintro o H⟨j,x,rfl,hp,q,q,u⟩;exact⟨j,x,rfl,by omega,by omega,q,u⟩
 have z:=Qa fin;clear fin
 by_cases B:50≤k
 ·have G:decide (50≤(k:Int))=true:=by simp;omega
  clear B;go_enter func297,qF;go_wp2_with fail;have x:=NO w0 g c n m p r l s d f w.heap.size 0 _ t.o A.o y.o (by omega) (by omega) (by omega) v (by omega);unfold Xy at x;refine x.mono ?_;rintro o e⟨i2,F,rfl,e,C,q,u⟩;have⟨D,E,C⟩:=qc (by omega:a≤i2∧i2<b) u q;clear x e q u;go_wp2_with fail;have e:=NO w0 g c n m p r l s d h w.heap.size F _ t.o E.o C.o (by omega) (by omega) (by omega) v (by omega);unfold Xy at e;refine e.mono ?_;rintro o H⟨q,I,rfl,H,u,u,x⟩;have⟨E,F,C⟩:=qc (by omega:a≤q∧q<b) x u;clear e H u x;go_wp2_with fail;have e:=NO w0 g c n m p r l s d i w.heap.size I _ t.o F.o C.o (by omega) (by omega) (by omega) v (by omega);unfold Xy at e;refine e.mono ?_;rintro o l⟨k2,u,rfl,t,l,m,p⟩;have⟨r,s,l⟩:=qc (by omega:a≤k2∧k2<b) p m;clear e t m p;go_wp2_with fail;refine(z.o i2 q k2 u _ D.o E.o r.o (by omega) s.o l.o l.o.lt).mono ?_;rintro o v⟨j,l,rfl,hp,u,p,q⟩;have⟨e,m⟩:=qb hp q;have c0:=p.cell (i:=0) rfl;clear hp p q
  by_cases z0:l=0
  ·subst z0
   go_wp2
   go_ret2;exact⟨j,_,rfl,e.o.1,e.o.2,m.o⟩
  by_cases r:l=12
  ·subst r
   go_wp2
   go_ret2;exact⟨j,_,rfl,e.o.1,e.o.2,m.o⟩
  have s:((l:Int)==0)=false:=Zb.2 (by omega);have t:((l:Int)==12)=false:=Zb.2 (by omega);clear z0 r
  go_wp2
  go_ret2;exact⟨j,_,rfl,e.o.1,e.o.2,m.o⟩
 have G:decide (50≤(k:Int))=false:=by simp;omega
 clear B;go_enter func297,qF;go_wp2_with fail;refine(z.o f h i 0 _ (by omega) (by omega) (by omega) (by omega) A.o y.o y.o.lt).mono ?_;rintro o v⟨j,l,rfl,hp,u,p,q⟩;have⟨e,m⟩:=qb hp q;have c0:=p.cell (i:=0) rfl;clear hp p q
 by_cases z0:l=0
 ·subst z0
  go_wp2
  go_ret2;exact⟨j,_,rfl,e.o.1,e.o.2,m.o⟩
 by_cases r:l=12
 ·subst r
  go_wp2
  go_ret2;exact⟨j,_,rfl,e.o.1,e.o.2,m.o⟩
 have s:((l:Int)==0)=false:=Zb.2 (by omega);have t:((l:Int)==12)=false:=Zb.2 (by omega);clear z0 r
 go_wp2
 go_ret2;exact⟨j,_,rfl,e.o.1,e.o.2,m.o⟩
end
section
open Go.Sort
def Sq(w0:WD)(g c n:Nat)(d:Array Nat)(a b:Nat)(e:Ending)(w':WD):Prop:=
 e=.returned (.tuple #[])∧∃f,Qw w0 g c n f w'∧PermIn a b d f
def Qew(w0 g c n cv d a b w)(hW:Qw w0 g c n d w)(x2:a<b)(hb:b≤n)(hn:n≤1000000000):
 Calls prog 298 #[.slice g n c,a,b,cv] w (Sq w0 g c n d a b):=by
 have HW:=Qa hW;have e1:(b:Int)-1=((b-1:Nat):Int):=by omega
 clear hW;go_enter func298,ntmps298
 go_wp2
 go_loopg [8,9] (b-a) (fun k v1 v2 wr=>∃(i j:Nat)(dk:Array Nat),v1=.int .i64 i∧v2=.int .i64 j∧a≤i∧j<b∧i≤j+1∧k=j+1-i∧Hid (Qw w0 g c n dk wr)∧Hid (PermIn a b d dk))
 ·exact⟨a,b-1,d,rfl,rfl,Ql _,by omega,by omega,by omega,HW,Qa<|permIn_refl _ _ _⟩
 obtain⟨i,j,dk,rfl,rfl,h3,h4,x3,hk,o,q⟩:=hrel;have Hk:=Qa hk;clear hk HW e1
 by_cases hlt:i<j
 ·have h5:(i:Int)<j:=by omega
  obtain⟨h,rfl⟩:∃h,j=h+1:=⟨j-1,by omega⟩;obtain⟨x,y,c0,c1,f0,f1,H1,H2⟩:=o.o.exch i (h+1) (by omega) (by omega);have h8:=o.o.size;have hp:=permIn_trans _ _ _ a b q.o (swp_permIn dk a b i (h+1) h3 (by omega) (by omega) h4<|by omega);have h2:=Qa hp;obtain⟨x4,x5⟩:(i:Int)<n∧((h+1:Nat):Int)<n:=by omega
  clear hp h8;generalize h1:((h+1:Nat):Int)=J at*
  obtain⟨hJ,x1,x0⟩:J-1=(h:Int)∧J.toNat=h+1∧0≤J:=by omega
  have h9:=Qa h1;clear h1;go_wp2_with fail
  go_region
  all_goals
   go_wp2
   go_roundg (h+1-(i+1))
   ·exact⟨i+1,h,swp dk i<|h+1,by go_num,rfl,by omega,by omega,by omega,by omega,(by first|exact H1|exact H2),h2⟩
   have:=Hk.o;omega
 have h5:¬(i:Int)<j:=by omega
 go_wp2
 go_end0
 exact⟨rfl,dk,o.o,q.o⟩
def Pv(a b):0≤bits .xor .u64 a b∧bits .xor .u64 a b<18446744073709551616:=by have:bits .xor .u64 a b=IntKind.u64.wrap ((BitVec.ofInt 64 a^^^BitVec.ofInt 64 b).toNat:Int):=rfl;rw[this,JH];omega
def oW(b:Nat)(w:WD)(e:Ending)(w':WD):Prop:=
 ∃a:Int,e=.returned (.int .u64 a)∧0≤a∧a<18446744073709551616∧Qe w' b 279 [.int .u64 a]∧Qb [b] w w'
def Qcd(a x w)(b:Qe w a 279 [.int .u64 x])(h0:0≤x)(l:x<18446744073709551616):
 Calls prog 186 #[.pointer a] w (oW a w):=by
 have c0:=b.cell (i:=0) rfl;have j:=b.free 0;have⟨e,h⟩:=qb b<|Qc [a] w;clear b;go_enter func186,ntmps186;go_wp2_with fail
 go_region
 go_wp2_with fail;have b:=Pv x<|IntKind.u64.wrap<|x*8192;generalize bits BinOp.xor IntKind.u64 x (IntKind.u64.wrap<|x*8192)=v at b ⊢;have c:Qe (w.setCell ⟨a,0,none⟩<|.int .u64 v).drew a 279 [.int .u64 v]:=e.o.set 0<|.int .u64 v;have d:Qb [a] w (w.setCell ⟨a,0,none⟩<|.int .u64 v).drew:=((Qc [a] w).setCell (p:=a) (.inl<|by simp) _).drew;generalize (w.setCell ⟨a,0,none⟩<|.int .u64 v).drew=w1 at c d ⊢;have c1:=c.cell (i:=0) rfl;have k:=c.free 0;have v0:0≤v:=b.1;have m:v<18446744073709551616:=b.2;have⟨f,g⟩:=qb c d;clear c0 j h0 l b c d e h
 go_region
 go_wp2_with fail;have b:=Pv v<|v/128;generalize bits BinOp.xor IntKind.u64 v (v/128)=u at b ⊢;have c:Qe (w1.setCell ⟨a,0,none⟩<|.int .u64 u).drew a 279 [.int .u64 u]:=f.o.set 0<|.int .u64 u;have d:Qb [a] w (w1.setCell ⟨a,0,none⟩<|.int .u64 u).drew:=(g.o.setCell (p:=a) (.inl<|by simp) _).drew;generalize (w1.setCell ⟨a,0,none⟩<|.int .u64 u).drew=w2 at c d ⊢;have c2:=c.cell (i:=0) rfl;have:=c.free 0;have:0≤u:=b.1;have:u<18446744073709551616:=b.2;have⟨e,h⟩:=qb c d;clear c1 k v0 m b c d f g
 go_region
 go_wp2_with fail;have b:=Pv u<|IntKind.u64.wrap<|u*131072;generalize bits BinOp.xor IntKind.u64 u (IntKind.u64.wrap<|u*131072)=t at b ⊢;have⟨c,d⟩:=qb (show Qe (w2.setCell ⟨a,0,none⟩<|.int .u64 t).drew a 279 [.int .u64 t]from e.o.set 0 (.int .u64 t))<|show Qb [a] w (w2.setCell ⟨a,0,none⟩<|.int .u64 t).drew from(h.o.setCell (p:=a) (.inl<|by simp) _).drew;go_ret;exact⟨t,rfl,b.1,b.2,c.o,d.o⟩
def TF:∀x:Nat,x≠0→x<2^62→2^Lib.bitLen x≤2*x∧x<2^Lib.bitLen x:=by
 intro x
 induction x using Nat.strongRecOn with
 |ind x ih=>
  intro h0 a;rw[Lib.bitLen_half x h0<|by omega]
  by_cases a:x=1
  ·subst a;decide+kernel
  obtain⟨a,a⟩:=ih (x/2) (by omega) (by omega) (by omega);rw[DZ];omega
def oN(l:Nat)(w:WD)(e:Ending)(w':WD):Prop:=∃a,e=.returned (.int .u64 ((2^a:Nat):Int))∧2^a≤2*l∧w'=w
def Qd8(l:Nat)(w)(h0:0<l)(a:l≤1000000000):Calls prog 185 #[l] w (oN l w):=by
 have hb:=TF l (by omega) (by omega);have hw:IntKind.u64.wrap (l:Int)=(l:Int):=by rw[JH];omega
 have a:=cG l w (by omega);generalize Lib.bitLen l=k at hb a;have hk:k≤31:=by
  rcases Xq k 32 with b|b
  ·omega
  have:=Jc (n:=2) (by decide) b;omega
 obtain⟨b,hp⟩:∃b:Nat,2^k=b:=⟨_,rfl⟩;have:IntKind.u64.wrap (2^k)=(b:Int):=by rw[show((2:Int)^k)=((2^k:Nat):Int)by norm_cast,hp,JH];omega
 have⟨d,b,c⟩:=qc hp hb a;clear hp hb a;go_enter func185,ntmps185;go_wp2_with fail;refine c.o.mono ?_;rintro a a⟨rfl,rfl⟩
 go_wp2
 go_ret;exact⟨k,by rw[d.o];rfl,b.o.1,rfl⟩
def rG(v)(k p:Nat)(hp:2^k=p)(h0:0≤v)(h:v<18446744073709551616)(o:p≤4294967296):bits .and .u64 v ((p:Int)-1)=((v.toNat%p:Nat):Int):=by
 obtain⟨x,rfl⟩:=X7 h0;have q:0<2^k:=CU k;have:(p:Int)-1=((2^k-1:Nat):Int):=by omega
 rw[this,u64_and_nat x (2^k-1) (by omega)<|by omega,Nat.and_two_pow_sub_one_eq_mod,hp,Zs]
def sH(w0 g c n e d)(a b:Nat)(w)(f:Qw w0 g c n d w)(h:a+12<b)(hb:b≤n)(h:n≤1000000000):
 Calls prog 296 #[.slice g n c,a,b,e] w (Sq w0 g c n d a b):=by
 have⟨h,m⟩:=qx<|b-a;have⟨e,q⟩:=qx<|h/4;have⟨i,o⟩:=qx<|a+e*2;obtain⟨_,_,_,eq,_,y⟩:3≤e∧(a+6≤i∧i+2<b)∧(b:Int)-a=(h:Int)∧(h:Int)/4=(e:Int)∧(a:Int)+e*2=(i:Int)∧(i:Int)-1=((i-1:Nat):Int):=by omega
 have s:w0.heap.size≤w.heap.size:=f.kept.size;have k:g<w.heap.size:=f.row.lt g (by simp[Qd,qo]);have:decide (8≤(h:Int))=true:=by simp;omega
 have:IntKind.u64.wrap (h:Int)=(h:Int):=by rw[JH];omega
 have j:Qw w0 g c n d (w.alloc<|.cells #[.int .u64 (h:Int)] 279):=f.kZ<|(Qc _ _).alloc _;have e:Qe (w.alloc<|.cells #[.int .u64 (h:Int)] 279) w.heap.size 279 [.int .u64 (h:Int)]:=Qy w [.int .u64 (h:Int)] 279;have⟨p,l⟩:=qb j e;have:a+h=b:=by omega
 clear f j e m q o;go_enter func296,ntmps296;go_wp2_with fail;have⟨o,e⟩:=qx w.heap.size;rw[e]at l k s ⊢;generalize w.alloc (.cells #[.int .u64 (h:Int)] 279)=w1 at p l ⊢;refine(Qd8 h w1 (by omega)<|by omega).mono ?_;rintro u f⟨q,rfl,hk,rfl⟩;obtain⟨f,hp⟩:∃f:Nat,2^q=f:=⟨_,rfl⟩;have:1≤f:=by rw[←hp];exact CU q
 rw[hp]at hk ⊢;have v:=Qa hp;clear e hp
 go_wp2
 go_loopg [11] 3 (fun kk k wr=>∃(e:Nat)(dk:Array Nat)(j:Int),k=.int .i64 (e:Nat)∧i≤e+1∧e≤i+2∧kk=i+2-e∧Hid (Qw w0 g c n dk wr)∧Hid (PermIn a b d dk)∧Hid (Qe wr o 279 [.int .u64 j])∧0≤j∧j<18446744073709551616)
 ·exact⟨i-1,d,h,rfl,by omega,by omega,by omega,p,Qa<|permIn_refl _ _ _,l,by omega,by omega⟩
 obtain⟨e,dk,j,rfl,m,m,r,m,z,t,A,B⟩:=hrel;have x:=Qa r;clear r p l y
 by_cases hlt:e≤i+1
 ·have R:(e:Int)≤i+1:=by omega
  go_wp2_with fail;refine(Qcd o j _ t.o A B).mono ?_;rintro u G⟨k,rfl,t,u,p,l⟩;have r:=rG k q f v.o t u (by omega);have⟨j,o⟩:=qx<|k.toNat%f;rw[o]at r;have:j<f:=by rw[←o];exact JL _ (by omega)
  have:IntKind.i64.wrap (j:Int)=(j:Int):=Q3 _ (by omega);have⟨v,I⟩:=qb (show Qw w0 g c n dk G from⟨m.o.row.kept l (by simp[Qd,qo];omega),m.o.size,m.o.lt,m.o.kept.trans l (by intro f hz;simp at hz;subst hz;exact .inr s)⟩) p;have f:=m.o.size;have J:=Qa f;clear p l o f;have:(e:Int)<n:=by omega
  by_cases f:h≤j
  ·have P:(h:Int)≤j:=(by omega);have⟨f,C⟩:=qx<|a+(j-h);have L:(a:Int)+((j:Int)-h)=(f:Int):=(by omega);have M:IntKind.i64.wrap ((a:Int)+((j:Int)-h))=(f:Int):=(by rw[Q3 _<|by omega];omega);obtain⟨s,S⟩:(a≤f∧f<b)∧(f:Int)<n:=(by omega);have q:=Qa<|permIn_trans _ _ _ a b z.o<|swp_permIn dk a b e f (by omega) (by omega) s.1 s.2 (by rw[J.o];omega);have o:=fun(F u2:VL)(D E:Nat)=>Qa (I.o.kept (((Qc [g] G).setCell (p:=⟨g,D,none⟩) (.inl<|by simp) F).setCell (p:=⟨g,E,none⟩) (.inl<|by simp) u2).drew (by simp;omega))
   have p:=Qa o;clear C o
   by_cases r:e=f
   ·subst r;obtain⟨H,c0,A,l⟩:=v.o.exch1 e (by omega);go_wp2_with fail
    go_region
    all_goals
     go_wp2
     go_roundg (i+2-(e+1))
     ·exact⟨e+1,swp dk e e,k,by go_num,by omega,by omega,rfl,l,q,p.o _ _ _ _,t,u⟩
     have:=x.o;omega
   have Q:¬f=e:=fun B=>r B.symm
   obtain⟨H,T,c0,c1,A,O,l,y⟩:=v.o.exch e f (by omega) (by omega);go_wp2_with fail
   go_region
   all_goals
    go_wp2
    go_roundg (i+2-(e+1))
    ·exact⟨e+1,swp dk e f,k,by go_num,by omega,by omega,rfl,(by first|exact l|exact y),q,p.o _ _ _ _,t,u⟩
    have:=x.o;omega
  have P:¬(h:Int)≤j:=by omega
  have⟨f,C⟩:=qx<|a+j;have L:(a:Int)+j=(f:Int):=by omega
  have M:IntKind.i64.wrap ((a:Int)+j)=(f:Int):=by rw[Q3 _<|by omega];omega
  obtain⟨s,S⟩:(a≤f∧f<b)∧(f:Int)<n:=by omega
  have q:=Qa<|permIn_trans _ _ _ a b z.o<|swp_permIn dk a b e f (by omega) (by omega) s.1 s.2 (by rw[J.o];omega);have o:=fun(F u2:VL)(D E:Nat)=>Qa<|I.o.kept (((Qc [g] G).setCell (p:=⟨g,D,none⟩) (.inl<|by simp) F).setCell (p:=⟨g,E,none⟩) (.inl<|by simp) u2).drew (by simp;omega)
  have p:=Qa o;clear C o
  by_cases r:e=f
  ·subst r;obtain⟨H,c0,A,l⟩:=v.o.exch1 e (by omega);go_wp2_with fail
   go_region
   all_goals
    go_wp2
    go_roundg (i+2-(e+1))
    ·exact⟨e+1,swp dk e e,k,by go_num,by omega,by omega,rfl,l,q,p.o _ _ _ _,t,u⟩
    have:=x.o;omega
  have Q:¬f=e:=fun B=>r B.symm
  obtain⟨H,T,c0,c1,A,O,l,y⟩:=v.o.exch e f (by omega) (by omega);go_wp2_with fail
  go_region
  all_goals
   go_wp2
   go_roundg (i+2-(e+1))
   ·exact⟨e+1,swp dk e f,k,by go_num,by omega,by omega,rfl,(by first|exact l|exact y),q,p.o _ _ _ _,t,u⟩
   have:=x.o;omega
 have R:¬(e:Int)≤i+1:=by omega
 go_wp2
 go_end0
 exact⟨rfl,dk,m.o,z.o⟩
end
