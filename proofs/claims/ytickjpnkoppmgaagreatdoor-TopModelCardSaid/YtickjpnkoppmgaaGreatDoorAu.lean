import Derived.WalkMore
import Derived.Test.YtickjpnkoppmgaaGreatDoorAt
set_option linter.all false
set_option maxHeartbeats 4000000
set_option maxRecDepth 100000
namespace Go.Proofs.YtickjpnkoppmgaaGreatDoor
open Go.Proofs.Tryz Go.RowKit K
namespace K
def fB(l:LU)(i:Nat):UInt8:=l.getD (i%l.length) 0
def Qhv(l c j)(d:c<=l.length)(d:j<l.length):(l.drop c++l.take c)[j]?=some (fB l<|j+c):=by
 unfold fB
 by_cases d:j<l.length-c
 ·rw[Xc<|by rwa[YN],Ut,XH ox,List.getD,CD,Qj ox];rfl
 rw[Zm (by rw[YN];omega),YN,BT,Qg ox];have:(j+c)%l.length=j-(l.length-c):=by rw[(ox:j+c=(j-(l.length-c))+l.length),DE,XH ox]
 rw[this,List.getD,Qj ox];rfl
end K
def vW(s:BA)(i t)(h:0<s.size):∃hb:(i+t)%s.size<s.size,K.fS s (i+t)=(s[(i+t)%s.size]'hb).toNat:=by
 refine⟨J8 _ h,?_⟩;unfold K.fS;have c:=Zr s;have d:(i+t)%s.data.toList.length=(i+t)%s.size:=by rw[c]
 rw[d,CM s _<|J8 _ h]
section
open Go.Sort
def BE(L:LN)(k:Nat):Nat:=if L.idxOf 0<k then L.idxOf 0 else 0
def Qhz(L):BE L 0=0:=by unfold BE;rw[Qf ox]
def Qb8(L:LN)(k)(hk:L[k]?=some 0)(g:L.Nodup):L.idxOf 0=k:=by
 obtain⟨d,e⟩:=Qy.1 hk;have c:(0:Nat)∈L:=QB hk;have hi:=MB c;have h0:L[L.idxOf 0]=0:=Im hi;have hne:=JP.1<|show L.Pairwise (· ≠ ·)from g;rcases CF (L.idxOf 0) k with c|c|c
 ·exact absurd (h0.trans e.symm)<|hne _ _ hi d c
 ·exact c
 exact absurd (e.trans h0.symm)<|hne _ _ d hi c
def Qhy(L k)(hk:L[k]?=some 0)(c:L.Nodup):BE L (k+1)=k:=by have:=Qb8 L k hk c;unfold BE;rw[Qg ox,this]
def Qhx(L k x)(hk:L[k]?=some x)(c:x≠0):BE L (k+1)=BE L k:=by
 have:L.idxOf 0≠k:=by intro c;obtain⟨d,d⟩:=Qy.1 hk;have h0:L[L.idxOf 0]' ox=0:=Im ox;simp only[c]at h0;omega
 unfold BE
 by_cases c:L.idxOf 0<k
 ·rw[Qg ox,Qg c]
 rw[Qf ox,Qf c]
def Qhw(L k)(h:0∈L)(hk:L.length<=k):BE L k=L.idxOf 0:=by have:=MB h;unfold BE;rw[Qg ox]
def SW(bs:LU)(row c:Nat)(w:WD)(e:Ending)(w':WD):Prop:=
 e=.returned (.tuple #[.string ⟨bs.toArray⟩,(row:Nat),(c:Nat)])/\Qb [] w w'
def qA(s:BA)(w:WD)(e:Ending)(w':WD):Prop:=
 ∃c,K.Ordered s.size (K.fS s) s.size c/\SW (Yr (Z8 s.size (K.fS s) c)) (c.idxOf 0) 0 w e w'
def Qc1(n f)(L:LN)(k x)(h:L[k]?=some x):Z8 n f (L.take<|k+1)=Z8 n f (L.take k)++[f<|x+n-1]:=by unfold Z8;rw[Zh,h,XC];rfl
def vV(s:BA)(a b)(ha:a<s.size)(hb:b<s.size)(h:a=b):(s[a]'ha).toNat=(s[b]'hb).toNat:=by subst h;rfl
def dA(s:BA)(t i)(h0:0<s.size)(hi:i<s.size)(h:t%s.size=i):K.fS s t=(s[i]'hi).toNat:=by obtain⟨hb,c⟩:=vW s t 0 h0;exact c.trans<|vV s _ _ _ _ h
def Qaj(s:BA)(w)(h0:0<s.size)(hs:s.size<=262144)(d:Nc s.size):Calls prog 160 #[s] w (qA s w):=by
 have e:=fun w=>Qfe s w ox d
 have m:=Qa e;have c:=Zr s;have:=Qa c;have:s.toList.isEmpty=false:=by
  rw[Xk];cases n:s.data.toList with
  |nil=>rw[n]at c;simp at c;omega
  |cons a b=>rfl
 have g1:decide (262144<(s.size:Int))=false:=zx
 go_enter func160,ntmps160;go_wp2_with ((at_make;refine Jp rfl _ _ 88 rfl 5 (.int .u8 0) 1 Xo Jg rfl .i64 .i64 _ _ s.size s.size rfl rfl rfl rfl ox ox (by simp only[maxLen];omega) ?_;intro i h c));have⟨g,t⟩:=qb h c;have⟨e,d⟩:=qx w.heap.size;rw[d]at g ⊢;have H:=Qa (ox:w<=e);go_fit(m.o i);rintro c l⟨v,d,rfl,i,x,h,c⟩;have o:K.fS s (0+s.size-1)=(s[s.size-1]' ox).toNat:=dA s _ _ h0 _ (by rw[Zu,XH ox]);have q:∀c (n:c+1<s.size),K.fS s (c+1+s.size-1)=(s[c]' ox).toNat:=fun c hi=>dA s _ _ h0 _ (by rw[(ox:c+1+s.size-1=c+s.size),DE,XH ox])
 have:e<l:=by have:=h.size;have:=g.o.lt e (by simp[Qd,qo]);omega
 have n:Qh l 5 (.slice (some ⟨e,0,none⟩) s.size s.size) (Qn<|Yr (Z8 s.size (K.fS s)<|d.take 0)++List.replicate (s.size-0) 0):=by
  have:Qn (Yr (Z8 s.size (K.fS s)<|d.take 0)++List.replicate (s.size-0) 0)=List.replicate s.size (.int .u8 0):=by simp[Qn,Yr,Z8]
  rw[this];exact g.o.kept h sx
 have:v≠e:=yx (g.o.lt e (by simp[Qd,qo]))
 have⟨y,F,v,z,g,G,t⟩:=qg o q i x.sZ n (t.o.trans h sx) i.len
 go_wp2
 go_loopg [6,20] s.size (fun k i h wr=>∃c:Nat,c<=s.size/\k=s.size-c/\i=.int .i64 (BE d c:Nat)/\h=.int .i64 (c:Nat)/\Hid (Qh wr 5 (.slice (some ⟨e,0,none⟩) s.size s.size)<|Qn<|Yr (Z8 s.size (K.fS s)<|d.take c)++List.replicate (s.size-c) 0)/\Hid (Qb [e] l wr))
 ·exact⟨0,ox,ox,by rw[Qhz];rfl,rfl,g,Qa<|Qc _ _⟩
 obtain⟨c,hi,hk,rfl,rfl,n,q⟩:=hrel;have E:=Qa hk
 by_cases hlt:c<s.size
 ·have:(c:Int)<s.size:=ox
  have⟨i,l⟩:=qy d c (by rw[t.o];exact hlt);have I:i<s.size:=v.o.lt i<|QB l;have g:(Yr<|Z8 s.size (K.fS s)<|d.take c).length=c:=by simp[Yr,Z8,t.o];omega
  have c0:=(z.o.kept q.o (by intro J hz x;simp[fZ]at hz;simp at x;omega)).natC l;rw[Zu]at c0;have:=n.o.aZ (j:=c) (u:=.int .u8 ((0:UInt8).toNat:Nat)) (by rw[Md _ _ (by rw[Qo,g,As];omega)];rw[List.getD,Zm (by rw[g];exact Qk _),g,ZM,V1,Qg ox];rfl);have:=n.o.free c;have h:=Qc1 s.size (K.fS s) d c i l;have⟨C,B,D⟩:=qc h g l
  by_cases A:i=0
  ·subst A;have o:=Qhy d c D.o v.o.nodup;have m:=Qa o;have:(s.size:Int)-1<(s.size:Int):=ox;have:((s.size:Int)-1).toNat=s.size-1:=ox;have h:=C.o;rw[y.o]at h;have z:=Qa h;have l:=n.o.put c<|.int .u8 ((s[s.size-1]' ox).toNat:Nat);rw[Sw _ _ _ _ B.o hlt]at l;have y:=Qa l
   go_wp2
   go_roundg (s.size-(c+1))
   ·refine⟨c+1,ox,rfl,by rw[m.o],by go_num,Qa ?_,Qa<|q.o.setCell (p:=⟨e,c,none⟩) (.inl sx) _⟩;rw[z.o,Su,Kl];exact y.o
   have:=E.o;omega
  obtain⟨g,rfl⟩:∃g,i=g+1:=⟨i-1,ox⟩;have o:=Qhx d c _ D.o A;have m:=Qa o;have D:g<s.size:=ox
  have:(g:Int)<s.size:=ox
  have i:((g+1:Nat):Int)=g+1:=ox
  have:((g:Int)+1==0)=false:=Ze.2 ox;rw[i]at c0;have h:=C.o;rw[F.o g I]at h;have z:=Qa h;have l:=n.o.put c<|.int .u8 ((s[g]'D).toNat:Nat);rw[Sw _ _ _ _ B.o hlt]at l;have y:=Qa l;have:(g:Int)+1-1=(g:Int):=ox
  go_wp2
  go_roundg (s.size-(c+1))
  ·refine⟨c+1,ox,rfl,by rw[m.o],by go_num,Qa ?_,Qa<|q.o.setCell (p:=⟨e,c,none⟩) (.inl sx) _⟩;rw[z.o,Su,Kl];exact y.o
  have:=E.o;omega
 obtain rfl:c=s.size:=ox
 have c:=n.o;rw[ZM,Dz,XX,Q5 (by rw[t.o];exact Qk _)]at c;have:=Qh.text c;have e:=Qa q.o;have x:0∈d:=v.o.perm.mem_iff.2<|ZR.2 h0;have hra:=Qhw d s.size x (by rw[t.o];exact Qk _);have m:=Qa hra
 go_wp2
 go_ret3
 refine⟨d,v.o,by rw[m.o];rfl,G.o.trans e.o ?_⟩;intro J hz;simp at hz;subst hz;exact .inr H.o
end
section
open Go.Sort
def Gq(s:BA)(row:Int):LU × Nat:=
 if 262144<s.size then([],3)else if row<0\/(s.size:Int)<=row then([],50)else(Yr (VS (Yz s) (XV (Yz s) 256) s.size row.toNat),0)
def uU(s:BA)(row:Int)(w)(hs:s.size<=140737488351232):Calls prog 229 #[s,row] w (DJ (Gq s row) w):=by
 unfold Gq
 by_cases hb:262144<s.size
 ·have g1:decide (262144<(s.size:Int))=true:=zx
  rw[Qg hb];go_enter func229,Nj
  go_wp2
  go_ret2;exact⟨rfl,Qc _ _⟩
 have g1:decide (262144<(s.size:Int))=false:=zx
 rw[Qf hb]
 by_cases c:row<0
 ·have:decide (row<0)=true:=XE c;rw[Qg<|.inl c];go_enter func229,Nj
  go_wp2
  go_ret2;exact⟨rfl,Qc _ _⟩
 obtain⟨r,rfl⟩:=Yu (ox:0<=row)
 by_cases d:s.size<=r
 ·have g3:(s.size:Int)<=r:=ox
  rw[Qg<|.inr g3];go_enter func229,Nj
  go_wp2
  go_ret2;exact⟨rfl,Qc _ _⟩
 rw[Qf ox,ZH];exact uW s r w ox ox
end
section
open Go.Sort
def zT(l)(h:∀x∈l,x<256):Yz (Yr l)=l:=by
 unfold Yz Yr;rw[Xv];have:l.map (UInt8.toNat∘UInt8.ofNat)=l.map id:=YT fun x c=>by have:=h x c;simp only[Function.comp,U6,id];omega
 rw[this,Ex]
def iE(l:LU):(ByteArray.mk l.toArray).size=l.length:=by have:=Zr<|ByteArray.mk l.toArray;rw[<-this]
def Qd9(l):(ByteArray.mk l.toArray).data.toList=l:=by simp
def Qc0(n f)(hf:∀i,f i<256)(L):∀x∈Z8 n f L,x<256:=by intro x c;simp only[Z8,QA]at c;obtain⟨i,-,rfl⟩:=c;exact hf _
def Qf1(s:BA)(h0:0<s.size):K.Per s.size (K.fS s):=
 ⟨GB _,fun c=>by have:=KI s c;rwa[Zr]at this,h0⟩
def Qhu(s:BA)(i)(hi:i<s.size):Yr ((List.range s.size).map fun t=>K.fS s<|i+t)=s.data.toList.drop i++s.data.toList.take i:=by
 have:=Zr s;apply XB;intro c
 by_cases d:c<s.size
 ·rw[Qhv s i c ox ox];unfold Yr;rw[Zz,Zz,Xl d];simp only[Bg,Option.some.injEq];unfold K.fS K.fB;rw[Kl,CD]
 rw[QU (by simp[Yr];omega),QU zx]
def uX(s:BA)(L:LN)(h0:0<s.size)(hs:s.size<=262144)(c:K.Ordered s.size (K.fS s) s.size L)(row:Nat)(d:row<s.size):
 Gq (ByteArray.mk (Yr<|Z8 s.size (K.fS s) L).toArray) (row:Nat)=(s.data.toList.drop (L.getD row 0)++s.data.toList.take (L.getD row 0),0):=by
 have g:(Yr<|Z8 s.size (K.fS s) L).length=s.size:=by rw[Yr,QH,Z8,QH,c.len]
 have e:=iE<|Yr<|Z8 s.size (K.fS s) L;rw[g]at e;have g:=Qg2 (Qf1 s h0) c row d;have hi:L.getD row 0<s.size:=by rw[List.getD,Qj<|by rwa[c.len]];exact c.lt _<|Yc _
 unfold Gq;rw[e,Qf ox,Qf ox,Qd9,zT _<|Qc0 _ _ (GB _) _,ZH,g,Qhu s _ hi]
def KZ{n:Nat}{f:Nat->Nat}{L:LN}(c:K.Ordered n f n L)(i:Nat)(hi:i<n):L.idxOf i<n/\L.getD (L.idxOf i) 0=i:=by have d:i∈L:=c.perm.mem_iff.2<|ZR.2 hi;have hlt:=MB d;rw[c.len]at hlt;refine⟨hlt,?_⟩;rw[List.getD,Qj (by rw[c.len];exact hlt)];exact Im (by rw[c.len];exact hlt)
end


def K.Qj7(bs:LB)(i:Nat)(n:Int)(c:n<=62):(QL bs i n).1<4611686018427387904:=by
 unfold QL
 split
 ·simp
 split
 ·simp
 have:=DY<|QZ bs i n.toNat;have c:(QZ bs i n.toNat).length<=62:=by unfold QZ;rw[Zd];omega
 have:2^(QZ bs i n.toNat).length<=2^62:=Ju dx c;simp only;omega
def pU(r c:Nat)(s:BA)(i:Nat)(n:Int)(w:WD)(p:Nat × Nat)(e:Ending)(w':WD):Prop:=
 e=.returned (.tuple #[p.1,p.2])/\Rd w' r c s (if p.2=0 then i+n.toNat else i)/\Qb [r] w w'
def NY(c r d:Nat)(s i)(n:Int)(w)(e:w.heap[c]?=some (.cells #[.pointer r] 264 (0,0)))(h:Rd w r d s i)(hs:s.size<=1125899906842624)(hi:i<=8*s.size)(g:n<=62):
 Calls prog 264 #[n,.pointer c] w (pU r d s i n w<|QL (Ql s) i n):=by
 have c0:w.cell? c=_:=ZD w c 0 _ _ _ e;simp at c0;have hlt:=Qj7 (Ql s) i n g;generalize e:QL (Ql s) i n=p at hlt ⊢;have g:=Qa e;go_enter func264,ntmps264;go_wp2_with fail;go_fit(Cs r d s i n _ h hs hi);rintro d d hp;rw[g.o]at hp;obtain⟨rfl,d,hk⟩:=hp;have⟨g,e⟩:=qb d hk;have hw:IntKind.i64.wrap (p.1:Int)=(p.1:Int):=Za _ ox
 go_wp2
 go_ret2;exact⟨rfl,g.o,e.o⟩
def SU(w0:WD)(s:BA)(n:Nat)(R:LI × Nat × Nat)(c r g lo:Nat)(h:Bool)(k:Nat)(v x:VL)(w:WD):Prop:=
 ∃d QY e,lo<=d/\d<=8*s.size/\k=8*s.size-d/\x=.int .i64 e/\(0<=e/\e<=31)/\QY.length<=n/\(h=true->QY.length<n)/\X9 n QY e d ((Ql s).drop d)=R/\
  Rd w r g s d/\Qh w 3 v (QO QY)/\w.heap[c]?=some (.cells #[.pointer r] 264 (0,0))/\Qq (Qd v) [c,r,g]/\Qb [] w0 w/\Qu w0.heap.size (Qd v)
def Ib(R:LI × Nat × Nat)(w:WD)(e:Ending)(w':WD):Prop:=
 ∃a c,e=.returned (.tuple #[.slice a R.1.length c,R.2.1,R.2.2])/\Qh w' 3 (.slice a R.1.length c) (QO R.1)/\Qb [] w w'/\Qu w (fZ a)
def Ib.nil{R w w' x e}(c:R=([],0,x))(d:e=.returned (.tuple #[.slice none 0 0,(0:Int),x]))(hk:Qb [] w w'):Ib R w e w':=by subst c;exact⟨none,0,d,Qh.nil _ _,hk,by simp[Qu,fZ]⟩
def K.cH(s:BA)(p:Nat)(h:p<8*s.size):(Ql s).drop p=Yq s p::(Ql s).drop (p+1):=by
 have c:p<(Ql s).length:=by rwa[XQ]
 rw[Xf c]
 congr 1
 have:=Rz s p (by rwa[Dr]);rw[Qj c]at this;exact Option.some.inj this
def K.nL(s:BA)(p:Nat)(h:8*s.size<=p):QL (Ql s) p 1=(0,10):=by unfold QL;rw[Qf ox,Qg (by rw[XQ];simp;omega)]
def yR(s:BA)(at_ n:Int)(w)(hs:s.size<=1000000000)(d:(Jw (Ql s) at_ n).2.2=0):
 Calls prog 224 #[s,at_,n] w (Ib (Jw (Ql s) at_ n) w):=by
 have y:=Qa (show ∀e,Jw (Ql s) at_ n=([],0,e)->e=0 from fun e L=>by rwa[L]at d);clear d
 by_cases d:at_<0\/(8*s.size:Nat)<at_
 ·have d:Jw (Ql s) at_ n=([],0,2):=by unfold Jw;rw[Qg (by rw[XQ];omega)]
  have i:=Qa d;exact absurd (y.o _ i.o) dx
 obtain⟨at_,rfl⟩:=Yu (ox:0<=at_);generalize g:Jw (Ql s) at_ n=R;have o:=Qa g;clear g;go_enter func224,ntmps224;go_wp2_with fail
 go_step3
 go_wp2_with fail;go_fit(DW s _ _ ox ox zx);rintro Q h⟨r,l,rfl,m,g,p⟩;rw[ZH]at m;have j:=m.lt;have⟨z,t,q⟩:=qc p j g;clear g j p
 by_cases g:n<2
 ·have d:R=([],0,2):=by rw[<-o.o];unfold Jw;rw[Qg ox]
  have i:=Qa d;exact absurd (y.o _<|o.o.trans i.o) dx
 have g1:decide (n<2)=false:=zx
 by_cases g:258<n
 ·have d:R=([],0,2):=by rw[<-o.o];unfold Jw;rw[Qg ox]
  have i:=Qa d;exact absurd (y.o _<|o.o.trans i.o) dx
 have G:decide (258<n)=false:=zx
 obtain⟨n,rfl⟩:=Yu (ox:0<=n);go_wp2_with fail;have j:(h.alloc<|.cells #[.pointer r] 264).heap[h.heap.size]?=some (.cells #[.pointer r] 264 (0,0)):=Xq _ _;have x:=m.kept ((Qc [] h).alloc<|.cells #[.pointer r] 264)<|Zy _;have u:=q.o.alloc<|.cells #[.pointer r] 264;have p:∀e∈[h.heap.size],e∉[r,l]:=by intro e g v;rw[Zb.1 g]at v;have:=t.o _ v;omega
 have t:Qu w.heap.size [h.heap.size,r,l]:=by
  intro e g;rcases QD.1 g with rfl|g
  ·exact q.o.size
  exact z.o e g
 generalize h.alloc (.cells #[.pointer r] 264)=W2 at j x u ⊢;generalize h.heap.size=c at j p t ⊢;have⟨B,W,X⟩:=qc u p t;have A:QL (Ql s) at_ 5=if 8*s.size<at_+5 then(0,10)else(K.num<|QZ (Ql s) at_ 5,0):=by unfold QL;rw[Qf ox,XQ];rfl
 have h:R=if 8*s.size<at_+5 then([],0,10)else X9 n [] (K.num<|QZ (Ql s) at_ 5) (at_+5) ((Ql s).drop<|at_+5):=by rw[<-o.o];unfold Jw;rw[Qf (by rw[XQ];omega),XQ];rfl
 have⟨z,q⟩:=qb A h;go_fit(NY c r l s at_ 5 _ j x ox ox dx);clear m u p t A h g1 G;rintro Q t hp;rw[z.o]at hp
 by_cases m:8*s.size<at_+5
 ·rw[Qg m]at hp;obtain⟨rfl,h,p⟩:=hp;have d:=q.o;rw[Qg m]at d;have i:=Qa d;exact absurd (y.o _<|o.o.trans i.o) dx
 rw[Qf m]at hp;obtain⟨rfl,h,p⟩:=hp;have h:Rd t r l s (at_+5):=h;have d:=q.o;rw[Qf m]at d;have u:K.num (QZ (Ql s) at_ 5)<32:=by have m:=DY<|QZ (Ql s) at_ 5;rw[Qf6 _ _ _ (by rw[XQ];omega)]at m;exact m
 have m:=p.heap j (by have:=W.o c sx;simp at this;simp[this]);have t:=Qa<|B.o.new p fun e g=>X.o e (by simp at g;simp[g]);generalize K.num (QZ (Ql s) at_ 5)=now0 at d u ⊢;have i:=Qa d.symm;clear p d j x q z;go_wp2_with fail
 go_step3
 go_wp2
 go_loopg [13,11] (8*s.size-(at_+5)) (fun k u e wr=>SU w s n R c r l (at_+5) false k u e wr)
 ·exact⟨at_+5,[],now0,ox,ox,rfl,rfl,ox,sx,fun L=>(by cases L),i.o,h,Qh.nil _ _,m,fun e g=>(by simp[Qd,qo]at g),t.o,by simp[Qu,Qd,qo]⟩
 obtain⟨V,QY,j,p,hp,hk,rfl,Y,S,-,z,H,q,E,hap,B,A⟩:=hrel;have h9:=Qa hk;obtain⟨ao,P,p,-,-,-,M⟩:=q.sees;rw[Xx]at p;subst p;clear hk h m
 by_cases D:QY.length<n
 ·have h3:(QY.length:Int)<n:=ox
  have⟨x,F,J,I,m,C,t⟩:=qg z H q E hap B A;clear z H q E hap B A M
  go_wp2
  go_loopg [13,11] (8*s.size-V) (fun k u e wr=>SU w s n R c r l V true k u e wr)
  ·exact⟨V,QY,j,ox,hp,rfl,rfl,Y,S,fun _=>D,x.o,F.o,J.o,I.o,m.o,C.o,t.o⟩
  obtain⟨h,QY,j,u,hp,hk,rfl,Y,S,hlt,z,H,q,E,hap,B,A⟩:=hrel;have h2:=Qa hk;obtain⟨ao,P,p,-,-,-,M⟩:=q.sees;rw[Xx]at p;subst p;have u:=hlt rfl;clear hlt;have⟨x,F,J,I,m,C,t⟩:=qg z H q E hap B A;clear hk z H q E hap B A M h3 D
  by_cases D:j<1\/20<j
  ·have d:=x.o;rw[ON _ _ _ _ _ u D]at d;have i:=Qa d.symm;clear d;exact absurd (y.o _<|o.o.trans i.o) dx
  have g1:decide (j<1)=false:=zx
  have G:decide (20<j)=false:=zx
  go_wp2_with fail;go_fit(NY c r l s h 1 _ I.o F.o ox ox dx);rintro Q h5 F
  by_cases G:8*s.size<=h
  ·rw[nL s h G]at F;obtain⟨rfl,-,p⟩:=F;have d:=x.o;rw[CA (by rw[XQ];exact G),OO _ _ _ _ u D]at d;have i:=Qa d.symm;exact absurd (y.o _<|o.o.trans i.o) dx
  rw[Ss s h ox]at F;obtain⟨rfl,G,p⟩:=F;have G:Rd h5 r l s (h+1):=G;have F:=cH s h ox;have O:Qq (Qd<|.slice ao QY.length P) [r]:=fun e g v=>m.o e g (by simp at v;simp[v])
  have Z:=J.o.kept p O;have T:=p.heap I.o (by have:=W.o c sx;simp at this;simp[this]);have h1:=Qa<|C.o.new p fun e g=>X.o e (by simp at g;simp[g]);have x2:=QS C.o.size p.size;clear p O;cases htb:Yq s h with
  |false=>
   rw[htb]at F;have d:=x.o;rw[F,OP _ _ _ _ _ u D]at d;have⟨i,O,I⟩:=qc d G T;have x0:(QO QY).length+1<=maxLen:=(by rw[Xx];simp only[maxLen];omega);have x1:((QO QY).length+1)*8<=140737488355328:=(by rw[Xx];omega);clear F d htb G T;go_wp2_with ((at_builtin;refine Vn _ rfl _ _ 51 rfl 3 (0:Int) 8 XP XZ rfl _ _ [j] 1 rfl rfl rfl rfl (by simp[Value.oneCell']) Z x0 x1 ?_;intro a5 x3 h8 U p h4))
   go_roundg (8*s.size-(h+1))
   case measure=>have:=h9.o;omega
   have h9:∀e∈[c,r,l],e<h5.heap.size:=by
    intro e g;rcases QD.1 g with rfl|g
    ·exact Ci I.o
    exact O.o.lt e g
   refine⟨h+1,QY++[j],j,ox,ox,rfl,rfl,Y,zx,fun L=>(by cases L),i.o,O.o.kept p<|m.o.symm.sub sx,?_,p.heap I.o<|m.o.symm c sx,(m.o.symm.grow h9 h4).symm,h1.o.new p t.o,t.o.grow h4 x2⟩;have:=U;rw[show QO (QY++[j])=QO QY++[.int .i64 j]by simp[QO]];exact this
  |true=>
   rw[htb]at F;have⟨O,I,h4,L⟩:=qd G T Z F;clear F htb G T Z;go_wp2_with fail;go_fit(NY c r l s (h+1) 1 _ I.o O.o ox ox dx);rintro Q h8 F
   by_cases G:8*s.size<=h+1
   ·rw[nL s (h+1) G]at F;obtain⟨rfl,-,p⟩:=F;have d:=x.o;rw[L.o,CA (by rw[XQ];exact G),fL _ _ _ _ u D]at d;have i:=Qa d.symm;exact absurd (y.o _<|o.o.trans i.o) dx
   rw[Ss s (h+1) ox]at F;obtain⟨rfl,o,p⟩:=F;have o:Rd h8 r l s (h+2):=o;have Y:=cH s (h+1) ox;have O:Qq (Qd<|.slice ao QY.length P) [r]:=fun e g v=>m.o e g (by simp at v;simp[v])
   have U:=h4.o.kept p O;have T:=p.heap I.o (by have:=W.o c sx;simp at this;simp[this]);have⟨y,F,v,G⟩:=qd (h1.o.new p fun e g=>X.o e (by simp at g;simp[g])) o T U;have e:=x.o;rw[L.o,Y]at e;clear p O o T U Y;cases htb:Yq s (h+1)with
   |false=>
    rw[htb,fM _ _ _ _ _ u D]at e;have g:=Qa e;have o:IntKind.i64.wrap (j+1)=j+1:=Za _ ox;clear e htb
    go_wp2
    go_roundg (8*s.size-(h+2))
    ·exact⟨h+2,QY,j+1,ox,ox,rfl,by go_num,ox,S,fun _=>u,g.o,F.o,G.o,v.o,m.o,y.o,t.o⟩
    have:=h2.o;omega
   |true=>
    rw[htb,fK _ _ _ _ _ u D]at e;have g:=Qa e;have o:IntKind.i64.wrap (j+ -1)=j+ -1:=Za _ ox;have:IntKind.i64.wrap (j-1)=j-1:=Za _ ox;clear e htb
    go_wp2
    go_roundg (8*s.size-(h+2))
    ·exact⟨h+2,QY,j-1,ox,ox,rfl,by go_num,ox,S,fun _=>u,g.o,F.o,G.o,v.o,m.o,y.o,t.o⟩
    have:=h2.o;omega
 have d:=z;have h3:¬((QY.length:Int)<n):=ox
 have c0:wr.cell? c=_:=ZD wr c 0 _ _ _ E;simp at c0;rw[Lb _ _ _ _ _ ox]at d;have⟨i,J,C,t,e⟩:=qe d.symm q B A M;clear d z q B A M;go_wp2_with fail;go_fit(at_ok r l s V _ H);rintro Q d⟨rfl,rfl⟩;go_wp2_with fail
 try rw[Cy]
 go_ret3
 rw[i.o];exact⟨ao,P,rfl,J.o,C.o,by have:=t.o;rwa[<-e.o]at this⟩

def Qh.one(w:WD)(u e):Qh (w.alloc<|.cells #[u] e) e (.slice w.heap.size 1 1) [u]:=
 ⟨rfl,.inr ⟨w.heap.size,1,#[u],rfl,Zv _,Xq w _,Qk _,by simp[maxLen],rfl,rfl⟩⟩

def flat_len(l:List LI)(h:∀t∈l,XM t=true):(l.flatMap Q7).length<=20000*l.length:=by
 induction l with
 |nil=>simp
 |cons t l ih=>
  have:=ih fun d c=>h d (by simp[c])
  have:=Hi t (Vc<|h t sx);rw[Jd,Qo,QW];omega
def PF{T P}(h:Xz T P=true):(Zx T P).length<=400000:=by
 obtain⟨c,-,c,-⟩:=Af h;have a:=KW h;have b:=flat_len T fun e d=>(c e d).2.2
 unfold Zx;rw[Qo];omega
def IL:(prog.info? 51).map (fun i=>(i.zero,i.size,i.bytes))=some (some<|.slice none 0 0,1,24):=by kernel_rfl
def Ay(w:WD)(g:Nat)(c:LV)(d:List LV):Prop:=Ra w c d/\∀d∈c,g∉Qd d
def Ay.set{w g e d}(h:Ay w g e d)(i b c r)(hs:Qp w 1 b r.length r)(p:r.length<=c)(j:c<=maxLen)(hb:g∉fZ b)(v):
 Ay (w.setCell ⟨g,i,none⟩ v) g (e.set i<|.slice b r.length c) (d.set i r):=by
 have hk:Qb [g] w (w.setCell ⟨g,i,none⟩ v):=(Qc _ _).setCell sx _;refine⟨⟨by simp[h.1.1],fun o m x d e=>?_⟩,fun m u=>?_⟩
 ·rw[Je]at d e
  by_cases n:i=o
  ·rw[Qg n]at d e
   split at d
   ·split at e
    ·obtain rfl:=Option.some.inj d;obtain rfl:=Option.some.inj e;exact⟨b,c,rfl,hs.kept hk fun y l j=>hb<|by rwa[Zb.1 j]at l,p,j⟩
    cases e
   cases d
  rw[Qf n]at d e;obtain⟨n,p,q,s,t⟩:=h.1.2 o m x d e;subst q;refine⟨n,p,rfl,s.kept hk fun y l j=>?_,t⟩;have:=h.2 _<|QB d;rw[X7]at this;exact this (by rwa[Zb.1 j]at l)
 rcases EA u with d|d
 ·exact h.2 m d
 rwa[d,X7]
def Ay.kZ{w w' g d c}(h:Ay w g d c)(hk:Qb [] w w'):Ay w' g d c:=⟨h.1.kZ hk,h.2⟩
def CI(w:WD)(g:Nat)(c:LV)(d:List LV):Prop:=Ay w g c d/\∀d∈c,Qu g (Qd d)
def CI.set{w g j e}(h:CI w g j e)(i b c r)(hs:Qp w 1 b r.length r)(l:r.length<=c)(d:c<=maxLen)(hb:∀x∈fZ b,g<x)(v):
 CI (w.setCell ⟨g,i,none⟩ v) g (j.set i<|.slice b r.length c) (e.set i r):=by
 refine⟨h.1.set i b c r hs l d (fun d=>by have:=hb g d;omega) v,fun e d=>?_⟩;rcases EA d with d|d
 ·exact h.2 e d
 rw[d,X7];exact fun x d=>Iv<|hb x d
def CI.kZ{w w' g d c}(h:CI w g d c)(hk:Qb [] w w'):CI w' g d c:=⟨h.1.kZ hk,h.2⟩
def Ra.keptS{S w w' c d}(h:Ra w c d)(hk:Qb S w w')(ha:∀u∈c,Qq (Qd u) S):Ra w' c d:=
 ⟨h.1,fun j u r c e=>by obtain⟨b,d,rfl,g,i⟩:=h.2 j u r c e;exact⟨b,d,rfl,g.kept hk (by have:=ha _<|QB c;rwa[X7]at this),i⟩⟩
def En(p:LB × Nat)(w:WD)(e:Ending)(w':WD):Prop:=
 ∃a c,e=.returned (.tuple #[.slice a p.1.length c,(p.2:Nat)])/\Qh w' 3 (.slice a p.1.length c) (Gs p.1)/\Qb [] w w'/\Qu w (fZ a)
def En.err{w w' e n}(c:e=.returned (.tuple #[.slice none 0 0,(n:Nat)]))(hk:Qb [] w w'):En ([],n) w e w':=
 ⟨none,0,c,Qh.nil _ _,hk,by simp[Qu,fZ]⟩
def En.ok{w w' e l a c}(d:e=.returned (.tuple #[.slice a l.length c,(0:Int)]))(g:Qh w' 3 (.slice a l.length c) (Gs l))(hk:Qb [] w w')(hf:Qu w.heap.size (Qd<|.slice a l.length c)):En (l,0) w e w':=
 ⟨a,c,d,g,hk,by rwa[<-X7 a l c]⟩


def UI(w:WD)(F:LN)(h:LV)(d:List (List LB)):Prop:=
 h.length=d.length/\∀(e:Nat)(g:VL)(c:List LB),h[e]?=some g->d[e]?=some c->∃d,g=.slice (some ⟨d,0,none⟩) c c.length/\∀e,Qb F w e->XJ e (some ⟨d,0,none⟩) c (c.map Gs)
def UI.step{w e F F2 d c}(h:UI w F d c)(hk:Qb F w e)(j:QQ w.heap.size F F2):UI e F2 d c:=
 ⟨h.1,fun l n m d e=>by obtain⟨c,g,i⟩:=h.2 l n m d e;exact⟨c,g,fun c hw=>i c<|hk.trans hw j⟩⟩
def UI.kZ{w e F d c}(h:UI w F d c)(hk:Qb [] w e):UI e F d c:=h.step (hk.mono sx)<|QQ.refl _ _
def UI.nil(w F):UI w F [] []:=⟨rfl,fun c c c c=>by simp at c⟩
def UI.snoc{w0 w:WD}{F:LN}{i:LV}{c}(h:UI w F i c)(l:∀x∈F,x<w0.heap.size){g n:Nat}{t:List LB}(e:t.length=n)(hs:∀S d,Qb S w d->(∀x∈S,x<w0.heap.size)->XJ d g n (t.map Gs)):UI w F (i++[.slice g n n]) (c++[t]):=by
 subst e;refine⟨by simp[h.1],fun j o m c d=>?_⟩;rcases Xw j i with e|e
 ·rw[Xc e]at c;rw[Xc<|by rwa[<-h.1]]at d;exact h.2 j o m c d
 rw[Zm e]at c;rw[Zm<|by rwa[<-h.1]]at d;have h0:j-i.length=0:=by have:=(Qy.1 c).1;simp at this;omega
 rw[h0]at c;rw[<-h.1,h0]at d;simp at c d;subst c d;exact⟨g,rfl,fun c hw=>hs F c hw l⟩
def UI.at{w F d c}(h:UI w F d c){i:Nat}{t}(e:c[i]?=some t):
 ∃g,d[i]?=some (.slice (some ⟨g,0,none⟩) t.length t.length)/\XJ w (some ⟨g,0,none⟩) t.length (t.map Gs):=by
 have⟨c,j⟩:=qy d i (by rw[h.1];exact(Qy.1 e).1);obtain⟨g,rfl,hs⟩:=h.2 i c t j e;exact⟨g,j,hs w<|Qc _ _⟩


def Qfz(a cap xs w)(h:Qp w 1 a xs.length (QO xs))(t:xs.length<=140737488351232):
 Calls prog 212 #[.slice a xs.length cap] w (Y8 (DN xs) w):=by
 have i:=Qa h;clear h;rcases J1 (XM xs)with c|c
 ·have d:DN xs=(UM<|QE xs,0):=by unfold DN;rw[c];rfl
  have⟨g,j⟩:=qb d c;clear d c;go_enter func212,ntmps212;go_wp2_with fail;go_fit(gD a cap xs _ i.o j.o);rintro l e⟨q,p,rfl,n,m,s⟩;have⟨e,o⟩:=qb m n;clear m n s;go_wp2_with fail;go_fit(xS q a cap xs p _ (i.o.kZ e.o) j.o o.o);rintro l j⟨h,rfl,j,m,hh⟩;have o:=Qa (e.o.new m<|by simp[Qu]);have n:(UM<|QE xs).length=xs.length:=by rw[NO,Vi]
  have:w<=h:=QS e.o.size hh;rw[<-n]at j ⊢;have e:=Qa j;clear m j n
  go_wp2
  go_ret2;rw[g.o];exact Y8.ok (by rfl) e.o o.o (by intro e e;simp[Qd,qo]at e;omega)
 have d:DN xs=([],80):=by unfold DN;rw[c];rfl
 have g:=Qa d;go_enter func212,ntmps212;go_wp2_with fail;go_fit(gC a cap xs _ i.o t c);rintro l e⟨rfl,rfl⟩;clear d c
 go_wp2
 go_ret2;rw[g.o];exact Y8.err (by rfl)<|Qc _ _
def pJ(p:LU × Int × Nat)(w:WD)(e:Ending)(w':WD):Prop:=e=.returned (Zk p)/\Qb [] w w'
def kE{T P L t0 s}(c:Xz T P=true)(d:ZP L.length<=P.length)(e:T.getD 0 []=t0)(hs:s∈L)(hb:s<0\/(t0.length:Int)<=s):Rn T P L=([],0,60):=by unfold Rn JD;rw[c,XE d,e,bN T P _ L 0 ⟨s,hs,hb⟩];rfl
def CR(T:List LI)(i:Nat):List LV:=(List.range T.length).map fun c=>if c<i then Qi (UM (QE (T.getD c [])))else []
def Kw(T i):(CR T i).length=T.length:=by simp[CR]
def Kv(T i j)(h:j<T.length):(CR T i)[j]?=some (if j<i then Qi (UM<|QE<|T.getD j [])else []):=by simp[CR,Xl h]
def xN(T i t)(c:T[i]?=some t):(CR T i).set i (Qi<|UM<|QE t)=CR T (i+1):=by
 have hi:=(Qy.1 c).1;have e:T.getD i []=t:=by rw[List.getD,c];rfl
 apply XB;intro c;rw[Je,Kw]
 by_cases d:c<T
 ·rw[Kv _ _ _ d,Kv _ _ _ d]
  by_cases d:i=c
  ·subst d;rw[Qg rfl,Qg hi,Qg ox,e]
  rw[Qf d];have:(c<i+1)↔(c<i):=ox
  simp only[this]
 rw[QU (by rw[Kw];omega),QU (by rw[Kw];omega),Qf ox]
def xO(w g T):Ay w g (List.replicate T.length<|.slice none 0 0) (CR T 0):=by
 refine⟨⟨by rw[Kw];simp,fun i u r o q=>?_⟩,fun u hu=>?_⟩
 ·rw[V1]at o
  split at o
  ·rename_i y;rw[Kv _ _ _ y,Qf ox]at q;obtain rfl:=Option.some.inj o;obtain rfl:=Option.some.inj q;exact⟨none,0,rfl,⟨rfl,fun j u hj=>by simp at hj⟩,Qk _,Zv _⟩
  cases o
 obtain rfl:=BR hu;simp[Qd,qo]
def rW(T:List LI)(g:Nat)(e:WD)(k:Nat)(v:VL)(wr:WD):Prop:=
 ∃(c:Nat)(d:LV),k=T.length-c/\c<=T.length/\v=.int .i64 (c:Nat)/\Hid (Qh wr 51 (.slice g T T) d)/\Hid (Ay wr g d (CR T c))/\Hid (∀c∈d,Qu e (Qd c))/\Hid (Qb [g] e wr)
def rX(T:List LI)(P L:LI)(n b:Nat)(g:WD)(k:Nat)(v:VL)(wr:WD):Prop:=
 ∃(c:Nat)(e:VL)(d:LB),k=L.length-c/\c<=L/\v=.int .i64 (c:Nat)/\Hid (Wr wr b e d)/\d<=20*c/\Hid (Yg T P n 0 (L.take c)=some d)/\Hid (Qb [b] g wr)/\Hid (QQ g [b] (b::Qd e))
def Qbm{b d c wr e}(h:Qb [b] c wr)(g:QQ c.heap.size [b] (b::Qd d))(hk:Qb (b::Qd d) wr e):Qb [b] c e:=h.trans hk g
def rV(L:LI)(n:Nat)(w0:WD)(k:Nat)(v:VL)(wr:WD):Prop:=
 ∃c:Nat,k=L.length-c/\c<=L/\v=.int .i64 (c:Nat)/\Hid (∀d∈L.take c,0<=d/\d<(n:Int))/\w0=wr
def dY(aT aP aL q cP cL T P L w)(h:XI w aT aP q cP T P)(hL:Qp w 1 aL L.length (QO L))(hl:L.length<=17592186043904):
 Calls prog 167 #[ZL aT T.length q aP P.length cP,.slice aL L.length cL] w (pJ (Rn T P L) w):=by
 have hk:Qb [] w ((w.alloc<|.cells #[.slice aT T q,.slice aP P cP] 255).alloc<|.cells #["",(0:Int)] 204):=((Qc [] w).alloc _).alloc _;have hA:Qe ((w.alloc<|.cells #[.slice aT T q,.slice aP P cP] 255).alloc<|.cells #["",(0:Int)] 204) w 255 [.slice aT T q,.slice aP P cP]:=
  (Qx w [.slice aT T q,.slice aP P cP] 255).kept ((Qc [] _).alloc _) sx
 have hB:Qe ((w.alloc<|.cells #[.slice aT T q,.slice aP P cP] 255).alloc<|.cells #["",(0:Int)] 204) (w.heap.size+1) 204 ["",(0:Int)]:=by have h:=Qx (w.alloc<|.cells #[.slice aT T q,.slice aP P cP] 255) ["",(0:Int)] 204;rwa[show(w.alloc<|.cells #[.slice aT T q,.slice aP P cP] 255).heap.size=w.heap.size+1 by simp]at h
 have p1:=h.kept hk;have l1:=hL.kZ hk;unfold ZL;have b0:=hA.cq 0 (u:=.slice aT T q);have b1:=hA.cq 1 (u:=.slice aP P cP);have⟨HK,HA,HB,y7,HL⟩:=qe hk hA hB p1 l1;clear hA hB p1 h l1 hL hk;have j3:w.heap.size+1<((w.alloc<|.cells #[.slice aT T q,.slice aP P cP] 255).alloc<|.cells #["",(0:Int)] 204).heap.size:=HB.o.lt;have⟨bb,q5⟩:=qx<|Xz T P;have x4:=Qa q5;have j8:ZP L.length<=17592186043904:=by unfold ZP;omega
 have⟨gn,z7⟩:=qx<|ZP L;have p5:=Qa z7;have HM:=Qa (fun W (hW:Qb [] ((w.alloc<|.cells #[.slice aT T q,.slice aP P cP] 255).alloc<|.cells #["",(0:Int)] 204) W)=>show Calls prog 207 #[.agg #[.slice aT T q,.slice aP P cP]] W (SZ bb W)by
  have p:=y7.o.kept hW;rw[<-q5];exact GG aT aP q cP T P W p.tabs p.picks p.tl p.pl p.rl)
 have p4:=Qa (fun W=>show Calls prog 211 #[L.length] W (fun e w'=>e=.returned (.int .i64 (gn:Nat))/\W=w')by rw[<-z7];exact Og L W ox);rw[z7]at j8;clear z7;have⟨W,hW⟩:=qx<|(w.alloc<|.cells #[.slice aT T q,.slice aP P cP] 255).alloc<|.cells #["",(0:Int)] 204;have HW:=Qa hW;rw[hW]at b0 b1 HK HA HB y7 HL HM j3;clear hW q5;cases bb with
 |false=>have HR:=Qa (by unfold Rn JD;rw[x4.o];rfl:Rn T P L=([],0,110));go_enter func167,TW;go_wp2_with fail;rw[HW.o];refine wp_region_held_drew (S:=fun w'=>Qb [] W w'/\w'.cell? w=some (.slice aT T q)/\w'.cell? ⟨w.heap.size,1,none⟩=some (.slice aP P cP)) kx ⟨(Qc _ _).drew,b0,b1⟩ fun h9=>?_;refine KX 0 14 (.agg #[.slice aT T q,.slice aP P cP]) kx kx kx kx (fun _ _ _ h=>h) kx (by intro o ho w q0;simp at ho;subst ho;go_simp) h9 ?_;simp only[Act.put,Au,Vp,U2];refine wpAnyH_ready (rs:=[1]) kx sx ?_;refine AllReadyH.cons rfl (fun K hK=>?_) AllReadyH.nil;go_simp;go_fit(HM.o _ (Qc [] W).drew);rintro e w3⟨rfl,x6⟩;have h4:Qb [] W w3:=(Qc [] W).drew.trans x6 sx;go_wp2_with fail;refine hK.out _ _ ⟨h4,h4.cZ b0 sx,h4.cZ b1 sx⟩ fun h9=>?_;clear hK K;refine KX 2 16 (.bool true) kx kx kx kx (fun _ _ _ h=>h) kx (by intro o ho w q0;simp at ho;subst ho;go_simp) h9 ?_;simp only[Act.put,Au,Vp,U2];refine KX 3 17 (.bool true) kx kx kx kx (fun _ _ _ h=>h) kx (by intro o ho w q0;simp at ho;subst ho;go_simp) h9 ?_;simp only[Act.put,Au,Vp,U2];refine DQ 4 18 kx kx kx kx (fun _ _ _ h=>h) kx h9 ?_;simp only[Act.put,Au,Vp,U2];refine DQ 5 19 kx kx kx kx (fun _ _ _ h=>h) kx h9 ?_;simp only[Act.put,Au,Vp,U2];refine DQ 6 20 kx kx kx kx (fun _ _ _ h=>h) kx h9 ?_;simp only[Act.put,Au,Vp,U2];refine DQ 7 21 kx kx kx kx (fun _ _ _ h=>h) kx h9 ?_;simp only[Act.put,Au,Vp,U2];refine DQ 8 22 kx kx kx kx (fun _ _ _ h=>h) kx h9 ?_;simp only[Act.put,Au,Vp,U2];refine DQ 9 23 kx kx kx kx (fun _ _ _ h=>h) kx h9 ?_;simp only[Act.put,Au,Vp,U2];refine DQ 10 24 kx kx kx kx (fun _ _ _ h=>h) kx h9 ?_;simp only[Act.put,Au,Vp,U2];refine KX 11 25 (.bool true) kx kx kx kx (fun _ _ _ h=>h) kx (by intro o ho w q0;simp at ho;subst ho;go_simp) h9 ?_;simp only[Act.put,Au,Vp,U2];refine wpAnyH_done kx ?_ _;have x1:=Qa (HK.o.trans h4 sx);have h5:=HB.o.kept h4 sx;obtain⟨r0,r1,f0,f1,s0,s1⟩:=h5.six ("") (0:Int);clear h5 h4 b0 b1;go_wp2_with fail;refine Zj (v:=Zk ([],0,110)) (by simp[results,IX,go_sem,Zk,s0,s1]) rfl ?_;exact⟨by rw[HR.o],x1.o.set2<|.inr sx⟩
 |true=>
  by_cases d9:P<gn
  ·have g1:decide ((P:Int)<gn)=true:=zx;have HR:=Qa (by unfold Rn JD;rw[x4.o,X0 (by rw[p5.o];omega)];rfl:Rn T P L=([],0,110));go_enter func167,TW;go_wp2_with fail;rw[HW.o]
   go_region_held3 (fun w'=>Qb [] W w'/\w'.cell? w=some (.slice aT T q)/\w'.cell? ⟨w.heap.size,1,none⟩=some (.slice aP P cP))
    (first|exact⟨(Qc _ _).drew,b0,b1⟩|exact⟨h4,h4.cZ b0 sx,h4.cZ b1 sx⟩)
    (first|(go_fit(HM.o _ (Qc [] W).drew);rintro e w3⟨rfl,x6⟩;have h4:Qb [] W w3:=(Qc [] W).drew.trans x6 sx)|(go_fit(p4.o _);rintro e w4⟨rfl,rfl⟩))
   rename_i hS;clear hS;have x1:=Qa (HK.o.trans h4 sx);have h5:=HB.o.kept h4 sx;obtain⟨r0,r1,f0,f1,s0,s1⟩:=h5.six ("") (0:Int);clear h5 h4 b0 b1;go_wp2_with fail;refine Zj (v:=Zk ([],0,110)) (by simp[results,IX,go_sem,Zk,s0,s1]) rfl ?_;exact⟨by rw[HR.o],x1.o.set2<|.inr sx⟩
  have g1:¬P<gn:=d9;obtain⟨hT,hP,b8,b7⟩:=Af x4.o;have⟨p9,g7⟩:=qb b8 b7;obtain⟨t0,y0⟩:∃t,T[0]?=some t:=⟨_,Qj ox⟩;have y8:=Qa (by rw[List.getD,y0];rfl:T.getD 0 []=t0);have n8:=y7.o.rl t0<|QB y0;have m9:=(p9.o t0<|QB y0).2.1;have i7:=Qa y0;have l8:(0:Int)<T.length:=ox
  have⟨p6,g5⟩:=qb (by rw[p5.o];omega:ZP L.length<=P.length) (by have:=p5.o;unfold ZP at this;omega:L.length<=50*P.length);clear y0 b8 b7 d9;go_enter func167,TW;go_wp2_with fail;rw[HW.o]
  go_region_held3 (fun w'=>Qb [] W w'/\w'.cell? w=some (.slice aT T q)/\w'.cell? ⟨w.heap.size,1,none⟩=some (.slice aP P cP))
   (first|exact⟨(Qc _ _).drew,b0,b1⟩|exact⟨h4,h4.cZ b0 sx,h4.cZ b1 sx⟩)
   (first|(go_fit(HM.o _ (Qc [] W).drew);rintro e w3⟨rfl,x6⟩;have h4:Qb [] W w3:=(Qc [] W).drew.trans x6 sx)|(go_fit(p4.o _);rintro e w4⟨rfl,rfl⟩))
  rename_i hS;clear hS;have⟨x1,l6,x8,p3,x5,y6⟩:=qf (HK.o.trans h4 sx) h4 (HA.o.kept h4 sx) (HB.o.kept h4 sx) (y7.o.kept h4)<|HL.o.kZ h4;clear h4 x6 b0 b1 HM p4
  go_wp2
  go_loopg [29] L (fun k v wr=>rV L t0 w3 k v wr)
  ·exact⟨0,ox,ox,rfl,Qa sx,rfl⟩
  obtain⟨i,hk,hi,rfl,HS,rfl⟩:=hrel;have Hk:=Qa hk;clear hk;have c0:=x8.o.cq 0 (u:=.slice aT T q)
  by_cases hlt:i<L
  ·have d8:(i:Int)<L.length:=ox;have⟨s,hs⟩:=qy L i hlt;obtain⟨bL,oL,rfl,-⟩:=y6.o.at (by rw[Xx];omega);have d0:=y6.o.int hs;obtain⟨bT,oT,ar,cr,rfl,e0,-,-⟩:=x5.o.tabs.int i7.o;rw[Jt]at e0;have p8:=Qa hs;clear hs;have l4:=Qa e0
   by_cases q3:s<0
   ·have q1:decide (s<0)=true:=XE q3;have HR:=Qa<|show Rn T P L=([],0,60)from kE x4.o p6.o y8.o (QB p8.o) (.inl q3);have h5:=p3.o;obtain⟨r0,r1,f0,f1,s0,s1⟩:=h5.six ("") (0:Int);clear h5;go_wp2_with fail;refine Zj (v:=Zk ([],0,60)) (by simp[results,IX,go_sem,Zk,s0,s1]) rfl ?_;exact⟨by rw[HR.o],x1.o.set2<|.inr sx⟩
   have q1:decide (s<0)=false:=X0 q3
   by_cases q4:(t0:Int)<=s
   ·have q2:decide ((t0:Int)<=s)=true:=XE q4;have HR:=Qa<|show Rn T P L=([],0,60)from kE x4.o p6.o y8.o (QB p8.o) (.inr q4);have h5:=p3.o;obtain⟨r0,r1,f0,f1,s0,s1⟩:=h5.six ("") (0:Int);clear h5;go_wp2_with fail;refine Zj (v:=Zk ([],0,60)) (by simp[results,IX,go_sem,Zk,s0,s1]) rfl ?_;exact⟨by rw[HR.o],x1.o.set2<|.inr sx⟩
   have q2:decide ((t0:Int)<=s)=false:=X0 q4
   go_wp2
   go_roundg (L.length-(i+1))
   ·refine⟨i+1,rfl,ox,sx,Qa ?_,rfl⟩;intro x hx;rw[Zh,p8.o]at hx;rcases Q4.1 hx with hx|hx
    ·exact HS.o x hx
    obtain rfl:x=s:=(by simpa using hx);omega
   have:=Hk.o;omega
  obtain rfl:i=L:=ox
  have z8:¬(L:Int)<L.length:=ox
  have g0:=Qa (show ∀s∈L,0<=s/\s<(t0:Int)by have:=HS.o;rwa[VM]at this);clear HS Hk;go_wp2_with fail;go_fit(DX _);rintro e w4⟨b,rfl,r5,q9,c5⟩;have⟨y3,y1,j0⟩:=qc q9 (show w3<=b/\b<w4 from⟨c5 b sx,r5.lt b sx⟩) r5;have c0:=(x8.o.kept q9 sx).cq 0 (u:=.slice aT T q);clear r5 q9 c5;go_wp2_with ((at_make;refine Jp rfl _ _ 253 rfl 51 () 24 No IL rfl .i64 .i64 _ _ T T rfl rfl rfl rfl (Qk _) ox (by simp only[maxLen];omega) ?_;intro w5 x9 c9));have⟨g,hg⟩:=qx w4.heap.size;rw[hg]at x9 ⊢;have HG:=Qa hg;have x9:Qh w5 51 (.slice (some ⟨g,0,none⟩) T T) (List.replicate T.length<|.slice none 0 0):=x9;have⟨a7,r9⟩:=qb x9 c9;clear hg x9 c9 c0
  go_loopg [53] T (fun k v wr=>rW T g w4 k v wr)
  ·exact⟨0,_,ox,ox,rfl,a7,Qa<|xO w5 g T,Qa (fun u hu=>by obtain rfl:=BR hu;simp[Qd,qo,Qu]),Qa<|r9.o.mono sx⟩
  clear a7 r9;obtain⟨i,vs,hk,hi,rfl,HR,a8,HF,HK⟩:=hrel;have Hk:=Qa hk;clear hk
  by_cases hlt:i<T
  ·have d8:(i:Int)<T.length:=ox;have⟨t,ht⟩:=qy T i hlt;have x0:Qb [] w3 wr:=y3.o.trans HK.o (by intro y hy;simp at hy;subst hy;exact .inr (by rw[<-HG.o];exact y3.o.size));have c0:=(x8.o.kept x0 sx).cq 0 (u:=.slice aT T q);obtain⟨bT,oT,ar,cr,rfl,e0,x7,-⟩:=(x5.o.kept x0).tabs.int ht;have r4:=x5.o.rl t<|QB ht;have⟨i8,i6,f7⟩:=qc ht x7 (by unfold DN;rw[(p9.o t<|QB ht).2.2];rfl:DN t=(UM<|QE t,0));have⟨old,e4⟩:=qy vs i (yx HR.o.len);have⟨g6,l5⟩:=qb e4 x0;clear ht x7 x0 e4;go_wp2_with fail;go_fit(Qfz ar cr t _ i6.o ox);rintro e w6 hp;rw[f7.o]at hp;obtain⟨a6,c6,rfl,e5,h8,c7⟩:=hp;have z1:=HR.o.kept h8 sx;have r0:=z1.aZ g6.o;have f0:=z1.free i;have⟨g9,p7,y4,r7⟩:=qd z1 e5 h8 c7;clear e5 h8 c7 z1 c0 e0
   go_wp2
   go_roundg (T.length-(i+1))
   case measure=>have:=Hk.o;omega
   have m6:=p7.o.len;obtain⟨a2,c2,hv,j4,j5,m0,-⟩:=p7.o.sees;injection hv with e1 e2 e3;subst e3;have b9:(Qi<|UM<|QE t).length=(UM<|QE t).length:=QF _;have m2:g<wr:=HR.o.lt g (by simp[Qd,qo]);have j7:g∉fZ a6:=fun hm=>by have:=r7.o g hm;omega
   have e6:=(a8.o.kZ y4.o).set i a6 c6 (Qi<|UM<|QE t) (by have:=p7.o.sZ;rwa[b9]) j4 j5 j7<|.slice a6 (UM<|QE t).length c6;rw[xN T i t i8.o,b9]at e6;refine⟨i+1,_,rfl,ox,sx,Qa<|g9.o.put i _,Qa e6,Qa ?_,Qa<|(HK.o.trans y4.o sx).trans ((Qc [g] w6).setCell (p:=⟨g,i,none⟩) sx _) sx⟩;intro u hu;rcases EA hu with h1|h1
   ·exact HF.o u h1
   rw[h1,X7];intro y hy;have h2:=r7.o y hy;have h3:=HK.o.size;omega
  obtain rfl:i=T:=ox
  have z8:¬(T:Int)<T.length:=ox
  obtain⟨w5,rfl⟩:∃wo:WD,wo=wr:=⟨_,rfl⟩;have⟨r6,a1⟩:=qb (by rw[<-HG.o];exact y1.o.2:b<g)<|y3.o.trans HK.o (by intro y hy;simp at hy;subst hy;exact .inr (by rw[<-HG.o];exact y3.o.size));have b4:=Qa<|j0.o.kept HK.o (by intro x hx hm;simp[Qd,qo]at hx hm;have:=r6.o;omega)
  go_wp2
  go_loopg [71] L (fun k v wr=>rX T P L t0 b w5 k v wr)
  ·exact⟨0,_,[],ox,ox,rfl,b4,sx,Qa<|by rw[DB,Yg],Qa<|Qc _ _,Qa<|by simp[QQ,Qd,qo]⟩
  clear b4;obtain⟨i,o,B,hk,hi,rfl,b5,l7,HC,y5,y2⟩:=hrel;have Hk:=Qa hk;clear hk
  by_cases hlt:i<L
  ·have d8:(i:Int)<L.length:=ox;have⟨s,hs⟩:=qy L i hlt;obtain⟨l2,m7⟩:=g0.o s<|QB hs;obtain⟨s,rfl⟩:=Yu l2;have b6:i/50<P.length:=(yx g5.o);have⟨x,hx⟩:=qy P (i/50) b6;obtain⟨l3,o1⟩:=g7.o x<|QB hx;obtain⟨x,rfl⟩:=Yu l3;have⟨t,ht⟩:=qy T x ox;obtain⟨r4,o0,p2⟩:=p9.o t<|QB ht;rw[y8.o]at r4;have r3:s<t:=ox;have⟨ls,x3⟩:=qx<|QE t;have z8:ls.length=t.length:=(by rw[<-x3,Vi]);have z6:=CU p2;have q8:=bS (QE t) (fun x hx=>(z6 x hx).2) (GH p2) s (by rwa[Vi]);have⟨n,hn⟩:=qx<|ls.getD s 0;have⟨c,hc⟩:=qx<|YQ ls s;rw[x3,hn,hc]at q8;rw[x3]at z6;have j9:n<=20:=(by have hm:ls.getD s 0∈ls:=(by rw[List.getD,Qj ox];exact Yc ox);have:=(z6 _ hm).2;omega);have e8:t[s]?=some (n:Int):=(by have h1:t[s]?=some t[s]:=Qj r3;have h2:=((Ve t).1 (Vc p2)).2 t[s] (Yc r3);rw[h1,<-hn,<-x3,List.getD,QE,Zz,h1];simp;omega);have e7:Uq (JY T P i) s=K.low c n:=(by unfold JY Uq;rw[show P.getD (i/50) 0=(x:Int)by rw[List.getD,hx];rfl,ZH,show T.getD x []=t by rw[List.getD,ht];rfl,x3,hn,hc]);have l0:2^n<=2^20:=Ju dx j9;have l9:c<1048576:=(by have e:(2:Nat)^20=1048576:=rfl;omega);have m1:IntKind.u64.wrap (c:Int)=(c:Int):=(by rw[J3];omega);have y9:∀p v,w5.cell? p=some v->p.block≠b->wr.cell? p=some v/\p.block∉b::Qd o:=by
    intro p v hp hb;refine⟨y5.o.cZ hp<|by simpa using hb,fun hm=>?_⟩;have h1:=Uc w5 p hp;rcases y2.o _ hm with h2|h2
    ·exact hb (by simpa using h2)
    omega
   have x2:∀p v,w3.cell? p=some v->wr.cell? p=some v/\p.block∉b::Qd o:=(by intro p v hp;have h1:=Uc w3 p hp;exact y9 p v (a1.o.cZ hp sx) (yx y1.o.1));obtain⟨bL,oL,rfl,-⟩:=y6.o.at (by rw[Xx];omega);obtain⟨bP,oP,rfl,-⟩:=x5.o.picks.at (by rw[Xx];omega);obtain⟨bT,oT,ar,cr,rfl,e0,x7,-⟩:=x5.o.tabs.int ht;obtain⟨br,f3,rfl,-⟩:=x7.at (by rw[Xx];omega);obtain⟨d0,n0⟩:=x2 _ _<|y6.o.int hs;obtain⟨d1,n1⟩:=x2 _ _<|x5.o.picks.int hx;obtain⟨d2,n2⟩:=x2 _ _<|x8.o.cq 0 (u:=.slice (some ⟨bT,oT,none⟩) T q);obtain⟨d3,n3⟩:=x2 _ _<|x8.o.cq 1 (u:=.slice (some ⟨bP,oP,none⟩) P cP);obtain⟨d4,n4⟩:=x2 _ _ e0;obtain⟨d5,n5⟩:=x2 _ _<|x7.int e8;have f2:=(Qy.1 ht).1;have r2:=Kv T T x f2;rw[Qg f2,show T.getD x []=t by rw[List.getD,ht];rfl,x3]at r2;have⟨u,hu⟩:=qy vs x (yx HR.o.len);obtain⟨ac,cc,rfl,p0,-,-⟩:=a8.o.1.2 x u _ hu r2;rw[QF,NO,z8]at p0 hu;obtain⟨bc,oc,rfl,-⟩:=p0.at (by rw[QF,NO];omega);obtain⟨d6,n6⟩:=y9 _ _ (HR.o.aZ hu) (by simp;have:=r6.o;omega);have q6:=xR ls s ox;rw[hc]at q6;obtain⟨b',o3,q7,c4⟩:=p0.2 s _<|BB q6;injection q7 with q7;injection q7 with j6 he2;subst j6;subst he2;obtain⟨d7,n7⟩:=y9 _ _ c4 (by simp;have h1:=HF.o _ (QB hu) bc (by simp[Qd,qo]);have:=y1.o.2;omega);have⟨j,hj⟩:=qx<|i/50;rw[hj]at d1 n1 b6;obtain⟨m5,m4,m3,o2,m8⟩:(i:Int)/50=(j:Int)/\(j:Int)<P.length/\(0:Int)<=j/\(x:Int)<T.length/\(s:Int)<t.length:=ox;have⟨j2,f4,f8,b2,i1,HN⟩:=qf b5.o (ox:B.length<=1000000000000) q8 e7 hs<|show(⟨g,x,none⟩:Addr).block∉b::Qd o/\bc∉b::Qd o/\w.heap.size∉b::Qd o/\bT∉b::Qd o/\br∉b::Qd o from⟨n6,n7,n2,n4,n5⟩;clear y9 x2 hj hx ht hs x3 hn hc z6 e8 hu q6 c4 p0 r2 x7 e0 r4 p2 q8 e7 n0 n1 n2 n3 n4 n5 n6 n7 l0;go_wp2_with fail
   go_region_held3 (fun w'=>w'.cell? ⟨g,x,none⟩=some (.slice (some ⟨bc,oc,none⟩) t cc)/\w'.cell? ⟨bc,oc+s,none⟩=some (.int .i64 (c:Int))/\w'.cell? w=some (.slice (some ⟨bT,oT,none⟩) T q)/\w'.cell? ⟨bT,oT+x,none⟩=some (.slice (some ⟨br,f3,none⟩) t cr)/\w'.cell? ⟨br,f3+s,none⟩=some (.int .i64 (n:Int)))
    (first|exact⟨d6,d7,d2,d4,d5⟩|exact⟨h8.cZ d6 HN.o.1,h8.cZ d7 HN.o.2.1,h8.cZ d2 HN.o.2.2.1,h8.cZ d4 HN.o.2.2.2.1,h8.cZ d5 HN.o.2.2.2.2⟩)
    (first|(go_fit(RH b c n _ _ _ ox ox ox (by simpa using f8.o) f4.o<|by exact j2.o);rintro e w6⟨rfl,o6,e9,h8,c8⟩))
   rename_i hS;clear hS;have h8:Qb (b::Qd o) wr w6:=(Qc (b::Qd o) wr).drew.trans h8 fun x hx=>.inl hx;have⟨j1,y4,f9⟩:=qc (by rw[b2.o];simpa using e9:Wr w6 b o6 (B++Uq (JY T P i) s)) (Qbm y5.o y2.o h8)<|y2.o.trans c8 y5.o.size;clear e9 h8 c8 d2 d4 d5 d6 d7 d0 d1 d3
   go_wp2
   go_roundg (L.length-(i+1))
   ·refine⟨i+1,o6,_,rfl,ox,sx,j1,?_,Qa ?_,y4,f9⟩
    ·rw[Qo,b2.o,Yl];omega
    rw[Zh,i1.o];have h:=bO T P t0 (s:Int) ⟨ox,ox⟩ (L.take i) 0 B HC.o;rwa[Zd,Iy ox,Zu]at h
   have:=Hk.o;omega
  obtain rfl:i=L:=ox
  have z8:¬(L:Int)<L.length:=ox
  have f5:=Qa (show Yg T P t0 0 L=some B by have:=HC.o;rwa[VM]at this);have HR:=Qa (show Rn T P L=(Qw B,((B:Nat):Int),0)by
   unfold Rn JD;rw[x4.o,XE p6.o,y8.o,f5.o];rfl)
  have b3:=b5;clear HC y2;go_wp2_with fail;go_fit(Eg _ _ _ _ b3.o);rintro e w7⟨rfl,rfl⟩;go_wp2_with fail;go_fit(DT _ _ _ _ b3.o);rintro e w7⟨rfl,rfl⟩;have x0:Qb [] w3 wr:=a1.o.trans y5.o (by intro y hy;simp at hy;subst hy;exact .inr y1.o.1);have h5:=p3.o.kept x0 sx;obtain⟨r0,r1,f0,f1,s0,s1⟩:=h5.six (.string ⟨(Qw B).toArray⟩) (B:Nat);have g2:=Qa (x1.o.trans x0 sx);clear h5 x0;go_wp2_with fail;refine Zj (v:=Zk (Qw B,((B:Nat):Int),0)) (by simp[results,IX,go_sem,Zk,s0,s1]) rfl ?_;exact⟨by rw[HR.o],g2.o.set2<|.inr sx⟩
namespace K
def Me(c):∀(l:LB)(n:Nat),(n:Int)<=c->((Xa c n l).2=0->((Xa c n l).1:Int)<=c)/\((Xa c n l).2=0\/(Xa c n l).2=3\/(Xa c n l).2=10)
 | [],n,h=>by simp[Xa]
 |false::t,n,h=>by simp[Xa];exact h
 |true::t,n,h=>by
  simp only[Xa]
  split
  ·simp
  exact Me c t (n+1) ox
def oF(c)(bs:LB)(p)(hp:p<=bs.length)(h:(Xa c 0<|bs.drop p).2=0):p+(Xa c 0<|bs.drop p).1+1<=bs.length:=by have:=(oE c (bs.drop p) 0).2.2 h;rw[YN]at this;omega
def jQ(bs many)(h0:0<many):∀(m:Nat)(c out:LN)(p:Nat),c.length=many->p<=bs.length->(∀x∈c,x<many)->(∀x∈out,x<many)->(JI bs many m c out p).2.2=0->
 (JI bs many m c out p).1.length=out.length+m/\(JI bs many m c out p).2.1<=bs.length/\∀x∈(JI bs many m c out p).1,x<many
 |0,c,out,p,d,hp,ho,hout,hz=>⟨rfl,hp,hout⟩
 |m+1,c,out,p,d,hp,ho,hout,hz=>by
  rw[JI]at hz ⊢
  by_cases e:(Xa ((many:Int)-1) 0<|bs.drop p).2=0
  ·have:=(Me ((many:Int)-1) (bs.drop p) 0 ox).1 e;have g:(Xa ((many:Int)-1) 0<|bs.drop p).1<c.length:=ox;rw[Qg e]at hz ⊢;have h:c.getD (Xa ((many:Int)-1) 0<|bs.drop p).1 0<many:=ho _ (by rw[List.getD,Qj g];exact Yc g);obtain⟨i,j,l⟩:=jQ bs many h0 m _ _ _ (by rwa[Ej c _ g]) (oF _ bs p hp e) (fun x h=>ho x<|(Hs c _ g x).1 h) (fun x c=>by
    rcases Q4.1 c with d|d
    ·exact hout x d
    rwa[Zb.1 d]) hz
   rw[Qo]at i;exact⟨by simpa[Y7,CD 1 m]using i,j,l⟩
  rw[Qf e]at hz;rcases(Me ((many:Int)-1) (bs.drop p) 0 ox).2 with c|c|c
  ·exact absurd c e
  ·rw[c]at hz;simp at hz
  rw[c]at hz;simp at hz
def Qc8(n N):∀(f:Nat)(QY:LI)(g:Int)(p:Nat)(l:LB),l.length<=f->p+l.length=N->QY.length<=n->(X9 n QY g p l).2.2=0->(X9 n QY g p l).1.length=n/\(X9 n QY g p l).2.1<=N:=by
 intro f
 induction f with
 |zero=>
  intro QY g p l e d ha c;have:l=[]:=by cases l<;>simp_all
  subst this
  by_cases h:n<=QY
  ·rw[Lb _ _ _ _ _ h];exact⟨by simp only;omega,by simp at d ⊢;omega⟩
  by_cases hb:g<1\/20<g
  ·rw[ON _ _ _ _ _ ox hb]at c;simp at c
  rw[OO _ _ _ _ ox hb]at c;simp at c
 |succ f ih=>
  intro QY g p l e d ha c
  by_cases h:n<=QY
  ·rw[Lb _ _ _ _ _ h];exact⟨by simp only;omega,by simp only;omega⟩
  by_cases hb:g<1\/20<g
  ·rw[ON _ _ _ _ _ ox hb]at c;simp at c
  match l,e,d,c with
  | [],e,d,c=>rw[OO _ _ _ _ ox hb]at c;simp at c
  |false::r,e,d,c=>rw[OP _ _ _ _ _ ox hb]at c ⊢;exact ih _ _ _ _ (by simpa using e) (by simp at d;omega) zx c
  | [true],e,d,c=>rw[fL _ _ _ _ ox hb]at c;simp at c
  |true::false::r,e,d,c=>rw[X9,Qf ox,Qf hb]at c ⊢;exact ih _ _ _ _ (by simp at e;omega) (by simp at d;omega) ox c
  |true::true::r,e,d,c=>rw[X9,Qf ox,Qf hb]at c ⊢;exact ih _ _ _ _ (by simp at e;omega) (by simp at d;omega) ox c
def Qc4(bs at_ n)(h:(Jw bs at_ n).2.2=0):(Jw bs at_ n).1.length=n.toNat/\(Jw bs at_ n).2.1<=bs.length:=by
 unfold Jw at h ⊢
 split at h
 ·simp at h
 rename_i o
 split at h
 ·simp at h
 rename_i q;rw[Qf o,Qf q];exact Qc8 n.toNat bs _ [] _ _ _ (Qk _) (by rw[YN];omega) sx h
end K
namespace K
end K
def ZJ(w:WD)(F:LN)(g:LV)(T:List LI):Prop:=
 g.length=T.length/\∀(d:Nat)(e:VL)(c:LI),g[d]?=some e->T[d]?=some c->∃b d,e=.slice b c d/\c.length<=d/\d<=maxLen/\∀d,Qb F w d->Qp d 1 b c (QO c)
def ZJ.step{w d F F2 c T}(h:ZJ w F c T)(hk:Qb F w d)(l:QQ w.heap.size F F2):ZJ d F2 c T:=
 ⟨h.1,fun m o n d e=>by obtain⟨b,c,g,i,j,h6⟩:=h.2 m o n d e;exact⟨b,c,g,i,j,fun c hw=>h6 c<|hk.trans hw l⟩⟩
def ZJ.kZ{w d F c T}(h:ZJ w F c T)(hk:Qb [] w d):ZJ d F c T:=h.step (hk.mono sx)<|QQ.refl _ _
def ZJ.nil(w F):ZJ w F [] []:=⟨rfl,fun c c c c=>by simp at c⟩
def ZJ.snoc{w0 w:WD}{F i T}(h:ZJ w F i T)(m:∀x∈F,x<w0.heap.size){b c t}(l:Qh w 3 (.slice b t.length c) (QO t))(hf:Qu w0.heap.size (fZ b)):
 ZJ w F (i++[.slice b t.length c]) (T++[t]):=by
 refine⟨by simp[h.1],fun j o n d e=>?_⟩;rcases Xw j i with g|g
 ·rw[Xc g]at d;rw[Xc<|by rwa[<-h.1]]at e;exact h.2 j o n d e
 rw[Zm g]at d;rw[Zm<|by rwa[<-h.1]]at e;have h0:j-i.length=0:=by have:=(Qy.1 d).1;simp at this;omega
 rw[h0]at d;rw[<-h.1,h0]at e;simp at d e;subst d e;obtain⟨a2,c2,d,k1,k2,-,-⟩:=l.sees;rw[Xx]at d k1;injection d with d e2 e3;subst e3;refine⟨b,c,rfl,k1,k2,fun d hw=>?_⟩;exact(l.kept hw (fun x d e=>by rw[X7]at d;have:=hf x d;have:=m x e;omega)).sZ
def ZJ.seesM{w w' F c T}(h:ZJ w F c T)(hk:Qb F w w'){a n}(hs:Qp w' 1 a n c):XJ w' a n (T.map QO):=by
 refine⟨c,hs,by rw[QH];exact h.1,fun d g r e c=>?_⟩;rw[Zz]at c;cases ht:T[d]? with
 |none=>rw[ht]at c;cases c
 |some t=>rw[ht]at c;injection c with c;subst c;obtain⟨b,c,rfl,k1,k2,k3⟩:=h.2 d g t e ht;rw[Xx];exact⟨b,c,rfl,k3 w' hk,k1,k2⟩
def BO(w:WD)(F:LN)(a:OA)(n:Nat)(xs:LV):Prop:=∀c,Qb F w c->Qp c 1 a n xs
def BO.step{w c F F2 a n xs}(h:BO w F a n xs)(hk:Qb F w c)(d:QQ w.heap.size F F2):BO c F2 a n xs:=fun c hw=>h c<|hk.trans hw d
def IC(R:List LI × LN × Nat × Nat)(w:WD)(e:Ending)(w':WD):Prop:=
 ∃d h c g,e=.returned (.tuple #[ZL d R.1.length h c R.2.1.length g,(R.2.2.1:Nat),(R.2.2.2:Nat)])/\XI w' d c h g R.1 (R.2.1.map fun c:Nat=>(c:Int))/\Qb [] w w'
def IC.err{w w' e x R}(c:R=([],[],0,x))(d:e=.returned (.tuple #[ZL none 0 0 none 0 0,(0:Int),(x:Nat)]))(hk:Qb [] w w'):IC R w e w':=by subst c;exact⟨none,0,none,0,d,XI.nil _,hk⟩
def Sr{bs at_ n}(h:at_<0\/(bs.length:Int)<at_\/n<3\/258<n):Us bs at_ n=([],[],0,2):=by unfold Us;rw[Qg h]
def Qh6{w wr o l d i m x a u g b c j h C e T t}(B:Qh wr 51 (.slice a i c) e)(H:ZJ wr (w.heap.size::d::fZ a) e T)(F:BO wr (w.heap.size::d::fZ a) u m (Qi C))(v:Qe wr d 255 [.slice a i c,x])(y:Qe wr w.heap.size 255 [.slice none 0 0,.slice none 0 0])(hap:Qq (fZ a) [w.heap.size,d])(G:Qb [] w wr)(A:Qu w.heap.size (fZ a))(n:w.heap.size<d)(q:Qb [] wr o)(L:Qh o 3 (.slice b t.length h) (QO t))(I:Qu wr.heap.size (fZ b))(D:Qh l 51 (.slice g (e.length+1) j) (e++[.slice b t.length h]))(s:Qb (Qd<|.slice a i c) o l)(n:QQ o.heap.size (Qd<|.slice a i c) (Qd<|.slice g (e.length+1) j)):
 Qh (l.setCell ⟨d,0,none⟩<|.slice g (i+1) j) 51 (.slice g (i+1) j) (e++[.slice b t.length h])/\ZJ (l.setCell ⟨d,0,none⟩<|.slice g (i+1) j) (w.heap.size::d::fZ g) (e++[.slice b t.length h]) (T++[t])/\
  BO (l.setCell ⟨d,0,none⟩<|.slice g (i+1) j) (w.heap.size::d::fZ g) u m (Qi C)/\Qe (l.setCell ⟨d,0,none⟩<|.slice g (i+1) j) d 255 [.slice g (i+1) j,x]/\
  Qe (l.setCell ⟨d,0,none⟩<|.slice g (i+1) j) w.heap.size 255 [.slice none 0 0,.slice none 0 0]/\Qq (fZ g) [w.heap.size,d]/\Qb [] w (l.setCell ⟨d,0,none⟩<|.slice g (i+1) j)/\Qu w.heap.size (fZ g):=by
 have e:=B.len;rw[e]at D n;rw[X7]at s n;rw[X7]at n;have x:=v.kept q sx;have z:=y.kept q sx;have u:d∉fZ a:=fun m=>hap d m sx
 have J:w.heap.size∉fZ a:=fun m=>hap _ m sx
 have hlt:∀h∈w.heap.size::d::fZ a,h<wr.heap.size:=by
  intro h e;rcases QD.1 e with rfl|e
  ·exact y.lt
  rcases QD.1 e with rfl|e
  ·exact v.lt
  exact B.lt h (by rwa[X7])
 have B:=x.kept s u;have E:=z.kept s J;have u:Qb [d] l (l.setCell ⟨d,0,none⟩<|.slice g (i+1) j):=(Qc [d] l).setCell (p:=d) sx _;have y:Qb (w.heap.size::d::fZ a) o (l.setCell ⟨d,0,none⟩<|.slice g (i+1) j):=(s.mono (by intro h e;simp[e])).trans u (by intro h e;simp at e;subst e;left;simp);have v:QQ o (w.heap.size::d::fZ a) (w.heap.size::d::fZ g):=by
  intro h e;rcases QD.1 e with rfl|e
  ·left;simp
  rcases QD.1 e with rfl|e
  ·left;simp
  rcases n h e with j|j
  ·left;simp[j]
  exact .inr j
 have l:Qq (fZ g) [w.heap.size,d]:=by
  intro h e m;rcases n h e with j|j
  ·exact hap h j m
  simp at m;rcases m with rfl|rfl
  ·have:=z.lt;omega
  have:=x.lt;omega
 have d:=G.trans q sx;refine⟨D.kept u fun h e m=>?_,((H.kZ q).snoc hlt L I).step y v,(F.step (q.mono sx)<|QQ.refl _ _).step y v,B.set 0 _,E.kept u zx,l,(d.new s A).trans u (by intro h e;simp at e;subst e;exact .inr ox),A.grow n d.size⟩;rw[X7]at e;exact l h e (by simp at m;simp[m])
