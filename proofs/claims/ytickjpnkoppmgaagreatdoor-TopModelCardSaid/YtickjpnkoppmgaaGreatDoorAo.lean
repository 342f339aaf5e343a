import Derived.Sort.LotB
import Derived.Test.YtickjpnkoppmgaaGreatDoorAn
set_option linter.all false
set_option maxHeartbeats 2000000
set_option maxRecDepth 100000
namespace Go.Proofs.YtickjpnkoppmgaaGreatDoor
open Go.Proofs.Tryz Go.RowKit K Go.Sort
def JN.test{w0 w g c n q t m o d}(h:JN w0 g q t n m o)(l:Qz w0 g c n d w)(s i j)(hi:i<n)(p:j<n):
 ∃(x u:Nat)(r:Int),w.cell? ⟨g,i,none⟩=some (.int .i64 (x:Int))/\w.cell? ⟨g,j,none⟩=some (.int .i64 (u:Int))/\Qv n o m d[i]! d[j]! =decide (r<0)/\
  (∀w1,Qb [] w w1->Calls prog 248 #[JJ (some ⟨q,t,none⟩) n s m,(x:Nat),(u:Nat)] w1 (RK r w)):=by
 refine⟨d[i]!,d[j]!,AG n o m d[i]! d[j]!,l.cell i hi,l.cell j p,rfl,fun w1 hk=>?_⟩;go_fit(h.call (l.kZ hk) s d[i]! d[j]! (l.lt i hi) (l.lt j p));rintro e w'⟨l,m⟩;exact⟨l,hk.trans m sx⟩
def Qz.swap2'{w0 w g c n d}(h:Qz w0 g c n d w)(i j)(hi:i<n)(l:j<n):
 Qz w0 g c n (swp d i j) ((w.setCell ⟨g,j,none⟩ (d[i]!:Nat)).setCell ⟨g,i,none⟩ (d[j]!:Nat)):=by
 by_cases e:i=j
 ·subst e;exact h.swap i i hi hi
 exact h.swap2 i j e hi l
def Qz.exch{w0 w g c n d}(h:Qz w0 g c n d w)(i j)(hi:i<n)(e:j<n):
 ∃(x l:Nat),w.cell? ⟨g,i,none⟩=some (.int .i64 (x:Int))/\w.cell? ⟨g,j,none⟩=some (.int .i64 (l:Int))/\w.frozen? ⟨g,i,none⟩=false/\w.frozen? ⟨g,j,none⟩=false/\
  Hid (Qz w0 g c n (swp d i j)<|((w.setCell ⟨g,i,none⟩ (l:Nat)).setCell ⟨g,j,none⟩ (x:Nat)).drew)/\
  Hid (Qz w0 g c n (swp d i j)<|((w.setCell ⟨g,j,none⟩ (x:Nat)).setCell ⟨g,i,none⟩ (l:Nat)).drew):=
 ⟨d[i]!,d[j]!,h.cell i hi,h.cell j e,h.row.free i,h.row.free j,Qa (h.swap i j hi e).drew,Qa (h.swap2' i j hi e).drew⟩
def Qz.exch1{w0 w g c n d}(h:Qz w0 g c n d w)(i)(hi:i<n):
 ∃(x:Nat),w.cell? ⟨g,i,none⟩=some (.int .i64 (x:Int))/\w.frozen? ⟨g,i,none⟩=false/\
  Hid (Qz w0 g c n (swp d i i)<|((w.setCell ⟨g,i,none⟩ (x:Nat)).setCell ⟨g,i,none⟩ (x:Nat)).drew):=
 ⟨d[i]!,h.cell i hi,h.row.free i,Qa (h.swap i i hi hi).drew⟩
def rL(w0:WD)(g c n:Nat)(d:Array Nat)(l s a b:Nat)(e:Ending)(w':WD):Prop:=
 ∃h i j:Nat,e=.returned (.tuple #[h,i])/\((h=a/\i=b)\/(h=b/\i=a))/\j<=s+1/\Qe w' l 3 [(j:Nat)]/\Qz w0 g c n d w'
def Ps(w0 g c n o q p l j d a b e s w)(h:JN w0 g o q n l j)(j:Qz w0 g c n d w)(m:Qe w e 3 [(s:Nat)])(ha:a<n)(hb:b<n)(hs:s<=100)(A:w0.heap.size<=e)(B:e≠g):
 Calls prog 324 #[.slice g n c,a,b,.pointer e,XL (some ⟨o,q,none⟩) n p l] w (rL w0 g c n d e s a b):=by
 have:=h.n9;obtain⟨v,x,r,c0,c1,l,e⟩:=h.test j p b a hb ha;obtain⟨_,_⟩:(a:Int)<n/\(b:Int)<n:=ox
 have⟨q,o,p⟩:=qc j m e;clear h j m e l;unfold XL
 by_cases u:r<0
 ·have z:decide (r<0)=true:=XE u;go_enter func324,tO;go_wp2_with fail
  go_region_held3 (fun h=>Qb [] w h/\h.cell? ⟨g,b,none⟩=some (.int .i64 (v:Int))/\h.cell? ⟨g,a,none⟩=some (.int .i64 (x:Int)))
   (first|exact⟨Qc _ _,c0,c1⟩|exact⟨(Qc _ _).drew,c0,c1⟩|exact⟨e,e.cZ c0 sx,e.cZ c1 sx⟩)
   (first|(go_fit(p.o _ (Qc [] w).drew);rintro y C⟨rfl,e⟩))
  have l:=o.o.kept e sx;have a0:=l.cq 0;have:=l.free 0;have t:=q.o.kZ e;have⟨m,j⟩:=qb (l.set 0 ((s+1:Nat):Int)) t;have:=Qa e;clear l t e c0 c1
  go_wp2
  go_ret2;refine⟨b,a,s+1,rfl,.inr ⟨rfl,rfl⟩,Qk _,m.o,j.o.row.setCell (by simp[Qd,qo];exact B) _,j.o.size,j.o.lt,j.o.kept.setCell (.inr A) _⟩
 have z:decide (r<0)=false:=X0 u;go_enter func324,tO;go_wp2_with fail
 go_region_held3 (fun h=>Qb [] w h/\h.cell? ⟨g,b,none⟩=some (.int .i64 (v:Int))/\h.cell? ⟨g,a,none⟩=some (.int .i64 (x:Int)))
  (first|exact⟨Qc _ _,c0,c1⟩|exact⟨(Qc _ _).drew,c0,c1⟩|exact⟨e,e.cZ c0 sx,e.cZ c1 sx⟩)
  (first|(go_fit(p.o _ (Qc [] w).drew);rintro y C⟨rfl,e⟩))
 have⟨m,j⟩:=qb (o.o.kept e sx)<|q.o.kZ e;clear e c0 c1
 go_wp2
 go_ret2;exact⟨a,b,s,rfl,.inl ⟨rfl,rfl⟩,ox,m.o,j.o⟩
def ML(w0:WD)(g c n:Nat)(d:Array Nat)(j s a b k:Nat)(e:Ending)(w':WD):Prop:=
 ∃h i:Nat,e=.returned h/\(h=a\/h=b\/h=k)/\i<=s+3/\Qe w' j 3 [(i:Nat)]/\Qz w0 g c n d w'
def gY(w0 g c n i j m h l d a b k e s w)(p:JN w0 g i j n h l)(y:Qz w0 g c n d w)(x:Qe w e 3 [(s:Nat)])(ha:a<n)(hb:b<n)(hk:k<n)(hs:s<=97)(q:w0.heap.size<=e)(t:e≠g):
 Calls prog 313 #[.slice g n c,a,b,k,.pointer e,XL (some ⟨i,j,none⟩) n m h] w (ML w0 g c n d e s a b k):=by
 have v:=Qa p;have u:=Ps w0 g c n i j m h l d a b e s w p y x ha hb ox q t;have o:=Qa u;clear p y x u;unfold XL at o ⊢;go_enter func313,ntmps313;go_wp2_with fail;go_fit o.o;rintro y x⟨C,u,s1,rfl,B,p,z,A⟩;have p:=Ps w0 g c n i j m h l d u k e s1 x v.o A z ox hk ox q t;unfold XL at p;have⟨u,x⟩:=qb p B;have hp:C<n:=ox
 clear z A p o B;go_wp2_with fail;go_fit u.o;rintro y D⟨q2,k2,B,rfl,A,o,p,z⟩;have o:=Ps w0 g c n i j m h l d C q2 e B D v.o z p hp (yx x.o) ox q t;unfold XL at o;have⟨e,q⟩:=qb o A;clear p z o u A;go_wp2_with fail;go_fit e.o;rintro y h⟨h,p,t,rfl,j,h,h,i⟩;have⟨m,l,o⟩:=qc j h i;clear h i e j
 go_wp2
 go_ret;exact⟨p,t,rfl,by have:=x.o;have:=q.o;have:=m.o;omega,ox,l.o,o.o⟩
def Pa(w0 g c n l m t h q d a e s w)(i:JN w0 g l m n h q)(p:Qz w0 g c n d w)(o:Qe w e 3 [(s:Nat)])(j:1<=a)(ha:a+1<n)(hs:s<=97)(u:w0.heap.size<=e)(v:e≠g):
 Calls prog 312 #[.slice g n c,a,.pointer e,XL (some ⟨l,m,none⟩) n t h] w (ML w0 g c n d e s (a-1) a<|a+1):=by
 have:=i.n9;have j:=gY w0 g c n l m t h q d (a-1) a (a+1) e s w i p o ox ox ha hs u v;have l:IntKind.i64.wrap ((a:Int)-1)=((a-1:Nat):Int):=by rw[Za _ ox];omega
 have m:IntKind.i64.wrap ((a:Int)+1)=((a+1:Nat):Int):=by rw[Za _ ox];omega
 have:(a:Int)-1=((a-1:Nat):Int):=ox
 rw[show((a+1:Nat):Int)=a+1 by omega]at j;have h:=Qa j;clear i p o j l m;unfold XL at h ⊢;go_enter func312,ntmps312;go_wp2_with fail;go_fit h.o;rintro i p⟨l,s1,rfl,hp,o,i,j⟩;have m:=Qa<|show ML w0 g c n d e s (a-1) a (a+1) (.returned l) p from⟨l,s1,rfl,hp,o,i,j⟩;clear i j hp h
 go_wp2
 go_ret;exact m.o
def rS(w0:WD)(g c n:Nat)(d:Array Nat)(a b:Nat)(e:Ending)(w':WD):Prop:=
 ∃(h:Nat)(i:Int),e=.returned (.tuple #[h,i])/\a<=h/\h<b/\Qz w0 g c n d w'
def Qgb(w0 g c n o q t m u d)(a b:Nat)(w)(j:JN w0 g o q n m u)(s:Qz w0 g c n d w)(e:a+12<b)(hb:b<=n):
 Calls prog 297 #[.slice g n c,a,b,XL (some ⟨o,q,none⟩) n t m] w (rS w0 g c n d a b):=by
 have:=j.n9;have v:=Qa j;have⟨l,z⟩:=qx<|b-a;have⟨e,B⟩:=qx<|l/4;have⟨h,hi⟩:=qx<|a+e;have⟨i,x⟩:=qx<|a+e*2;have⟨k,hk⟩:=qx<|a+e*3;obtain⟨_,_,_,_,_,eq,_,_⟩:3<=e/\(a+3<=h/\h+1<b)/\(a+3<=i/\i+1<b)/\(a+3<=k/\k+1<b)/\(b:Int)-a=(l:Int)/\(l:Int)/4=(e:Int)/\(a:Int)+e=(h:Int)/\(a:Int)+e*2=(i:Int):=ox
 have:(a:Int)+e*3=(k:Int):=ox
 have y:w0.heap.size<=w.heap.size:=s.kept.size;have:g<w:=s.row.lt g (by simp[Qd,qo]);have p:Qz w0 g c n d (w.alloc<|.cells #[(0:Int)] 3):=s.kZ<|(Qc _ _).alloc _;have e:Qe (w.alloc<|.cells #[(0:Int)] 3) w 3 [((0:Nat):Int)]:=Qx w [((0:Nat):Int)] 3;have⟨C,A⟩:=qb p e;have g8:decide (8<=(l:Int))=true:=zx
 obtain⟨_,_⟩:a+l=b/\l<=1000000000:=ox
 clear s p e j z B hi x hk;unfold XL;have fin:∀(h i k x:Nat)(e:WD),a<=h/\h<b->a<=i/\i<b->a<=k/\k<b->x<=9->Qz w0 g c n d e->Qe e w 3 [(x:Nat)]->w.heap.size<e.heap.size->
  Calls prog 313 #[.slice g n c,.int .i64 h,.int .i64 i,.int .i64 k,.pointer w,.func (.func 248) #[JJ (some ⟨o,q,none⟩) n t m] #[]] e
   fun p B=>∃j z:Nat,p=.returned j/\(a<=j/\j<b)/\z<=12/\Qe B w 3 [(z:Nat)]/\Qz w0 g c n d B:=by
  intro h i k x e B B B hs s D hz;have B:=gY w0 g c n o q t m u d h i k w x e v.o s D ox ox ox ox y ox;unfold XL at B;go_fit B;rintro p H⟨j,z,rfl,hp,s,s,x⟩;exact⟨j,z,rfl,ox,ox,s,x⟩
 have B:=Qa fin;clear fin
 by_cases D:50<=l
 ·have I:decide (50<=(l:Int))=true:=zx
  clear D;go_enter func297,tN;go_wp2_with fail;have z:=Pa w0 g c n o q t m u d h w 0 _ v.o C.o A.o ox ox ox y ox;unfold XL at z;go_fit z;rintro p e⟨i2,s1,rfl,e,E,s,x⟩;have⟨F,G,E⟩:=qc (ox:a<=i2/\i2<b) x s;clear z e s x;go_wp2_with fail;have e:=Pa w0 g c n o q t m u d i w s1 _ v.o G.o E.o ox ox ox y ox;unfold XL at e;go_fit e;rintro p H⟨s,L,rfl,J,x,x,z⟩;have⟨G,H,E⟩:=qc (ox:a<=s/\s<b) z x;clear e J x z;go_wp2_with fail;have e:=Pa w0 g c n o q t m u d k w L _ v.o H.o E.o ox ox ox y ox;unfold XL at e;go_fit e;rintro p m⟨k2,x,rfl,v,m,o,q⟩;have⟨t,u,m⟩:=qc (ox:a<=k2/\k2<b) q o;clear e v o q;go_wp2_with fail;go_fit(B.o i2 s k2 x _ F.o G.o t.o ox u.o m.o m.o.lt);rintro p y⟨j,m,rfl,hp,x,q,s⟩;have⟨e,o⟩:=qb hp s;have c0:=q.cq 0;clear hp q s
  by_cases z0:m=0
  ·subst z0
   go_wp2
   go_ret2;exact⟨j,_,rfl,e.o.1,e.o.2,o.o⟩
  by_cases t:m=12
  ·subst t
   go_wp2
   go_ret2;exact⟨j,_,rfl,e.o.1,e.o.2,o.o⟩
  have u:((m:Int)==0)=false:=Ze.2 ox;have v:((m:Int)==12)=false:=Ze.2 ox;clear z0 t
  go_wp2
  go_ret2;exact⟨j,_,rfl,e.o.1,e.o.2,o.o⟩
 have I:decide (50<=(l:Int))=false:=zx
 clear D;go_enter func297,tN;go_wp2_with fail;go_fit(B.o h i k 0 _ ox ox ox ox C.o A.o A.o.lt);rintro p y⟨j,m,rfl,hp,x,q,s⟩;have⟨e,o⟩:=qb hp s;have c0:=q.cq 0;clear hp q s
 by_cases z0:m=0
 ·subst z0
  go_wp2
  go_ret2;exact⟨j,_,rfl,e.o.1,e.o.2,o.o⟩
 by_cases t:m=12
 ·subst t
  go_wp2
  go_ret2;exact⟨j,_,rfl,e.o.1,e.o.2,o.o⟩
 have u:((m:Int)==0)=false:=Ze.2 ox;have v:((m:Int)==12)=false:=Ze.2 ox;clear z0 t
 go_wp2
 go_ret2;exact⟨j,_,rfl,e.o.1,e.o.2,o.o⟩
def TF(w0:WD)(g c n:Nat)(d:Array Nat)(a b:Nat)(e:Ending)(w':WD):Prop:=
 e=.returned (.tuple #[])/\∃h,Qz w0 g c n h w'/\PermIn a b d h
def Qhd(w0 g c n cv d a b w)(hW:Qz w0 g c n d w)(x2:a<b)(hb:b<=n)(hn:n<=1000000000):
 Calls prog 298 #[.slice g n c,a,b,cv] w (TF w0 g c n d a b):=by
 have HW:=Qa hW;have e1:(b:Int)-1=((b-1:Nat):Int):=ox
 clear hW;go_enter func298,ntmps298
 go_wp2
 go_loopg [8,9] (b-a) (fun k v1 v2 wr=>∃(i j:Nat)(dk:Array Nat),v1=.int .i64 i/\v2=.int .i64 j/\a<=i/\j<b/\i<=j+1/\k=j+1-i/\Hid (Qz w0 g c n dk wr)/\Hid (PermIn a b d dk))
 ·exact⟨a,b-1,d,rfl,rfl,Qk _,ox,ox,ox,HW,Qa<|permIn_refl _ _ _⟩
 obtain⟨i,j,dk,rfl,rfl,h3,h4,x3,hk,q,HP⟩:=hrel;have Hk:=Qa hk;clear hk HW e1
 by_cases hlt:i<j
 ·have h5:(i:Int)<j:=ox
  obtain⟨o,rfl⟩:∃o,j=o+1:=⟨j-1,ox⟩;obtain⟨x,y,c0,c1,f0,f1,H1,H2⟩:=q.o.exch i (o+1) ox ox;have h8:=q.o.size;have hp:=permIn_trans _ _ _ a b HP.o (swp_permIn dk a b i (o+1) h3 ox ox h4 ox);have h2:=Qa hp;obtain⟨x4,x5⟩:(i:Int)<n/\((o+1:Nat):Int)<n:=ox
  clear hp h8;generalize h1:((o+1:Nat):Int)=J at*
  obtain⟨hJ,x1,x0⟩:J-1=(o:Int)/\J.toNat=o+1/\0<=J:=ox
  have h9:=Qa h1;clear h1;go_wp2_with fail
  go_region
  all_goals
   go_wp2
   go_roundg (o+1-(i+1))
   ·exact⟨i+1,o,swp dk i<|o+1,by go_num,rfl,ox,ox,ox,ox,(by first|exact H1|exact H2),h2⟩
   have:=Hk.o;omega
 have h5:¬(i:Int)<j:=ox
 go_wp2
 go_end0
 exact⟨rfl,dk,q.o,HP.o⟩
def SK(a b):0<=bits .xor .u64 a b/\bits .xor .u64 a b<18446744073709551616:=by have:bits .xor .u64 a b=IntKind.u64.wrap ((BitVec.ofInt 64 a^^^BitVec.ofInt 64 b).toNat:Int):=rfl;rw[this,J3];omega
def sE(d:Nat)(w:WD)(e:Ending)(w':WD):Prop:=
 ∃c:Int,e=.returned (.int .u64 c)/\0<=c/\c<18446744073709551616/\Qe w' d 279 [.int .u64 c]/\Qb [d] w w'
def Qeu(c x w)(d:Qe w c 279 [.int .u64 x])(h0:0<=x)(q:x<18446744073709551616):
 Calls prog 186 #[.pointer c] w (sE c w):=by
 have c0:=d.cq 0;have n:=d.free 0;have⟨h,m⟩:=qb d<|Qc [c] w;clear d;go_enter func186,ntmps186;go_wp2_with fail
 go_region
 go_wp2_with fail;have d:=SK x<|IntKind.u64.wrap<|x*8192;generalize bits BinOp.xor IntKind.u64 x (IntKind.u64.wrap<|x*8192)=v at d ⊢;have e:Qe (w.setCell ⟨c,0,none⟩<|.int .u64 v).drew c 279 [.int .u64 v]:=h.o.set 0<|.int .u64 v;have g:Qb [c] w (w.setCell ⟨c,0,none⟩<|.int .u64 v).drew:=((Qc [c] w).setCell (p:=c) (.inl sx) _).drew;generalize (w.setCell ⟨c,0,none⟩<|.int .u64 v).drew=w1 at e g ⊢;have c1:=e.cq 0;have o:=e.free 0;have v0:0<=v:=d.1;have s:v<18446744073709551616:=d.2;have⟨j,l⟩:=qb e g;clear c0 n h0 q d e g h m
 go_region
 go_wp2_with fail;have d:=SK v<|v/128;generalize bits BinOp.xor IntKind.u64 v (v/128)=u at d ⊢;have e:Qe (w1.setCell ⟨c,0,none⟩<|.int .u64 u).drew c 279 [.int .u64 u]:=j.o.set 0<|.int .u64 u;have g:Qb [c] w (w1.setCell ⟨c,0,none⟩<|.int .u64 u).drew:=(l.o.setCell (p:=c) (.inl sx) _).drew;generalize (w1.setCell ⟨c,0,none⟩<|.int .u64 u).drew=w2 at e g ⊢;have c2:=e.cq 0;have:=e.free 0;have:0<=u:=d.1;have:u<18446744073709551616:=d.2;have⟨h,m⟩:=qb e g;clear c1 o v0 s d e g j l
 go_region
 go_wp2_with fail;have d:=SK u<|IntKind.u64.wrap<|u*131072;generalize bits BinOp.xor IntKind.u64 u (IntKind.u64.wrap<|u*131072)=t at d ⊢;have⟨e,g⟩:=qb (show Qe (w2.setCell ⟨c,0,none⟩<|.int .u64 t).drew c 279 [.int .u64 t]from h.o.set 0 (.int .u64 t))<|show Qb [c] w (w2.setCell ⟨c,0,none⟩<|.int .u64 t).drew from(m.o.setCell (p:=c) (.inl sx) _).drew;go_ret;exact⟨t,rfl,d.1,d.2,e.o,g.o⟩
def aA:∀x:Nat,x≠0->x<2^62->2^Lib.bitLen x<=2*x/\x<2^Lib.bitLen x:=by
 intro x
 induction x using Nat.strongRecOn with
 |ind x ih=>
  intro h0 c;rw[Lib.bitLen_half x h0 ox]
  by_cases c:x=1
  ·subst c;decide+kernel
  obtain⟨a,b⟩:=ih (x/2) ox ox ox;rw[EK];omega
def rU(l:Nat)(w:WD)(e:Ending)(w':WD):Prop:=∃k,e=.returned (.int .u64 ((2^k:Nat):Int))/\2^k<=2*l/\w'=w
def Qgq(l:Nat)(w)(h0:0<l)(c:l<=1000000000):Calls prog 185 #[l] w (rU l w):=by
 have hb:=aA l ox ox;have hw:IntKind.u64.wrap (l:Int)=(l:Int):=by rw[J3];omega
 have c:=fI l w ox;generalize Lib.bitLen l=k at hb c;have hk:k<=31:=by
  rcases Xw k 32 with d|d
  ·omega
  have:=Ju (n:=2) dx d;omega
 obtain⟨d,hp⟩:∃d:Nat,2^k=d:=⟨_,rfl⟩;have:IntKind.u64.wrap (2^k)=(d:Int):=by rw[show((2:Int)^k)=((2^k:Nat):Int)by norm_cast,hp,J3];omega
 have⟨g,d,e⟩:=qc hp hb c;clear hp hb c;go_enter func185,ntmps185;go_wp2_with fail;go_fit e.o;rintro c c⟨rfl,rfl⟩
 go_wp2
 go_ret;exact⟨k,by rw[g.o];rfl,d.o.1,rfl⟩
def uO(v)(k p:Nat)(hp:2^k=p)(h0:0<=v)(o:v<18446744073709551616)(q:p<=4294967296):bits .and .u64 v ((p:Int)-1)=((v.toNat%p:Nat):Int):=by
 obtain⟨x,rfl⟩:=Yu h0;have y:0<2^k:=DH k;have:(p:Int)-1=((2^k-1:Nat):Int):=ox
 rw[this,u64_and_nat x (2^k-1) ox ox,Nat.and_two_pow_sub_one_eq_mod,hp,ZH]
def vN(w0 g c n e d)(a b:Nat)(w)(h:Qz w0 g c n d w)(i:a+12<b)(hb:b<=n)(i:n<=1000000000):
 Calls prog 296 #[.slice g n c,a,b,e] w (TF w0 g c n d a b):=by
 have⟨i,p⟩:=qx<|b-a;have⟨e,t⟩:=qx<|i/4;have⟨j,q⟩:=qx<|a+e*2;obtain⟨_,_,_,eq,_,y⟩:3<=e/\(a+6<=j/\j+2<b)/\(b:Int)-a=(i:Int)/\(i:Int)/4=(e:Int)/\(a:Int)+e*2=(j:Int)/\(j:Int)-1=((j-1:Nat):Int):=ox
 have u:w0.heap.size<=w.heap.size:=h.kept.size;have m:g<w:=h.row.lt g (by simp[Qd,qo]);have g8:decide (8<=(i:Int))=true:=zx
 have:IntKind.u64.wrap (i:Int)=(i:Int):=by rw[J3];omega
 have l:Qz w0 g c n d (w.alloc<|.cells #[.int .u64 (i:Int)] 279):=h.kZ<|(Qc _ _).alloc _;have e:Qe (w.alloc<|.cells #[.int .u64 (i:Int)] 279) w 279 [.int .u64 (i:Int)]:=Qx w [.int .u64 (i:Int)] 279;have⟨s,o⟩:=qb l e;have:a+i=b:=ox
 clear h l e p t q;go_enter func296,ntmps296;go_wp2_with fail;have⟨q,e⟩:=qx w.heap.size;rw[e]at o m u ⊢;generalize w.alloc (.cells #[.int .u64 (i:Int)] 279)=w1 at s o ⊢;go_fit(Qgq i w1 ox ox);rintro x h⟨k,rfl,hk,rfl⟩;obtain⟨h,hp⟩:∃h:Nat,2^k=h:=⟨_,rfl⟩;have:1<=h:=by rw[<-hp];exact DH k
 rw[hp]at hk ⊢;have z:=Qa hp;clear e hp
 go_wp2
 go_loopg [11] 3 (fun kk m wr=>∃(e:Nat)(dk:Array Nat)(l:Int),m=.int .i64 (e:Nat)/\j<=e+1/\e<=j+2/\kk=j+2-e/\Hid (Qz w0 g c n dk wr)/\Hid (PermIn a b d dk)/\Hid (Qe wr q 279 [.int .u64 l])/\0<=l/\l<18446744073709551616)
 ·exact⟨j-1,d,i,rfl,ox,ox,ox,s,Qa<|permIn_refl _ _ _,o,ox,ox⟩
 obtain⟨e,dk,l,rfl,p,p,t,p,C,v,B,D⟩:=hrel;have A:=Qa t;clear t s o y
 by_cases hlt:e<=j+1
 ·have U:(e:Int)<=j+1:=ox
  go_wp2_with fail;go_fit(Qeu q l _ v.o B D);rintro x J⟨m,rfl,x,y,s,o⟩;have t:=uO m k h z.o x y ox;have⟨l,q⟩:=qx<|m.toNat%h;rw[q]at t;have:l<h:=by rw[<-q];exact J8 _ ox
  have:IntKind.i64.wrap (l:Int)=(l:Int):=Za _ ox;have⟨z,M⟩:=qb (show Qz w0 g c n dk J from⟨p.o.row.kept o (by simp[Qd,qo];omega),p.o.size,p.o.lt,p.o.kept.trans o (by intro h hz;simp at hz;subst hz;exact .inr u)⟩) s;have h:=p.o.size;have O:=Qa h;clear s o q h;have:(e:Int)<n:=ox
  by_cases h:i<=l
  ·have S:(i:Int)<=l:=ox;have⟨h,F⟩:=qx<|a+(l-i);have P:(a:Int)+((l:Int)-i)=(h:Int):=ox;have Q:IntKind.i64.wrap ((a:Int)+((l:Int)-i))=(h:Int):=(by rw[Za _ ox];omega);obtain⟨v,V⟩:(a<=h/\h<b)/\(h:Int)<n:=ox;have t:=Qa<|permIn_trans _ _ _ a b C.o<|swp_permIn dk a b e h ox ox v.1 v.2 (by rw[O.o];omega);have q:=fun(I u2:VL)(G H:Nat)=>Qa (M.o.kept (((Qc [g] J).setCell (p:=⟨g,G,none⟩) (.inl sx) I).setCell (p:=⟨g,H,none⟩) (.inl sx) u2).drew zx)
   have s:=Qa q;clear F q
   by_cases u:e=h
   ·subst u;obtain⟨L,c0,D,o⟩:=z.o.exch1 e ox;go_wp2_with fail
    go_region
    all_goals
     go_wp2
     go_roundg (j+2-(e+1))
     ·exact⟨e+1,swp dk e e,m,by go_num,ox,ox,rfl,o,t,s.o _ _ _ _,x,y⟩
     have:=A.o;omega
   have T:¬h=e:=fun E=>u E.symm
   obtain⟨L,W,c0,c1,D,R,o,B⟩:=z.o.exch e h ox ox;go_wp2_with fail
   go_region
   all_goals
    go_wp2
    go_roundg (j+2-(e+1))
    ·exact⟨e+1,swp dk e h,m,by go_num,ox,ox,rfl,(by first|exact o|exact B),t,s.o _ _ _ _,x,y⟩
    have:=A.o;omega
  have S:¬(i:Int)<=l:=ox
  have⟨h,F⟩:=qx<|a+l;have P:(a:Int)+l=(h:Int):=ox
  have Q:IntKind.i64.wrap ((a:Int)+l)=(h:Int):=by rw[Za _ ox];omega
  obtain⟨v,V⟩:(a<=h/\h<b)/\(h:Int)<n:=ox
  have t:=Qa<|permIn_trans _ _ _ a b C.o<|swp_permIn dk a b e h ox ox v.1 v.2 (by rw[O.o];omega);have q:=fun(I u2:VL)(G H:Nat)=>Qa<|M.o.kept (((Qc [g] J).setCell (p:=⟨g,G,none⟩) (.inl sx) I).setCell (p:=⟨g,H,none⟩) (.inl sx) u2).drew zx
  have s:=Qa q;clear F q
  by_cases u:e=h
  ·subst u;obtain⟨L,c0,D,o⟩:=z.o.exch1 e ox;go_wp2_with fail
   go_region
   all_goals
    go_wp2
    go_roundg (j+2-(e+1))
    ·exact⟨e+1,swp dk e e,m,by go_num,ox,ox,rfl,o,t,s.o _ _ _ _,x,y⟩
    have:=A.o;omega
  have T:¬h=e:=fun E=>u E.symm
  obtain⟨L,W,c0,c1,D,R,o,B⟩:=z.o.exch e h ox ox;go_wp2_with fail
  go_region
  all_goals
   go_wp2
   go_roundg (j+2-(e+1))
   ·exact⟨e+1,swp dk e h,m,by go_num,ox,ox,rfl,(by first|exact o|exact B),t,s.o _ _ _ _,x,y⟩
   have:=A.o;omega
 have U:¬(e:Int)<=j+1:=ox
 go_wp2
 go_end0
 exact⟨rfl,dk,p.o,C.o⟩
