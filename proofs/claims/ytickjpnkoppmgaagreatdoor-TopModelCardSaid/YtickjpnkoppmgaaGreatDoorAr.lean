import Derived.Sort.LotC
import Derived.Deep.CutBlock
import Derived.Test.YtickjpnkoppmgaaGreatDoorAq
set_option linter.all false
set_option maxHeartbeats 16000000
set_option maxRecDepth 100000
namespace Go.Proofs.YtickjpnkoppmgaaGreatDoor
open Go.Proofs.Tryz Go.RowKit K Go.Sort
def An(k:Nat)(v:VL):Prop:=(k=0/\v=.int .i64 (-1))\/∃c:Nat,k=c+1/\v=.int .i64 (c:Nat)
def An.pred(j):An j (.int .i64<|(j:Int)-1):=by
 rcases Rx j with c|c
 ·subst c;exact .inl ⟨rfl,rfl⟩
 exact .inr ⟨j-1,ox,by congr 1;omega⟩
def Qbz(w0 g c n h o v i j d)(a b:Nat)(w)(q:JN w0 g h o n i j)(x:Qz w0 g c n d w)(l:a+12<b)(hb:b<=n):
 Calls prog 295 #[.slice g n c,a,b,XL (some ⟨h,o,none⟩) n v i] w fun e w'=>e=.returned (.tuple #[])/\Qz w0 g c n (heapSort (Qv n j i) d a b) w':=by
 have:=q.n9;have⟨D,C⟩:=qb q x;have⟨hi,A⟩:=qx<|b-a;have⟨l,z⟩:=qx<|hi-1;have⟨m,B⟩:=qx<|l/2;have:(b:Int)-a=(hi:Int):=ox
 have:(hi:Int)-1=(l:Int):=ox
 have:(l:Int)/2=(m:Int):=ox
 have:a+hi=b:=ox
 have G:l+1=hi:=ox
 have:m<hi:=ox
 obtain⟨y,s⟩:∃p,heapBuild (Qv n j i) hi a (m+1) d=p:=⟨_,rfl⟩;obtain⟨u,t⟩:∃p,heapPop (Qv n j i) a hi y=p:=⟨_,rfl⟩;have p:heapSort (Qv n j i) d a b=u:=by unfold heapSort;rw[A,z,B,s,t]
 rw[p];have⟨E,F⟩:=qb s t;clear q x s t p A z B;have q:∀(p:WD)(dk:Array Nat)(lo hi:Nat),Qz w0 g c n dk p->lo<=hi->a+hi<=n->Calls prog 311 #[.slice g n c,.int .i64 lo,.int .i64 hi,a,.func (.func 248) #[JJ (some ⟨h,o,none⟩) n v i] #[]] p fun e w'=>e=.returned (.tuple #[])/\Qz w0 g c n (siftDown (Qv n j i) hi a lo dk) w':=
  fun p dk lo hi l s t=>Qit w0 g c n h o v i j dk lo hi a p D.o l s t
 have B:=Qa q;clear q;unfold XL;go_enter func295,ntmps295
 go_wp2
 go_loopg [11] (m+1) (fun k t wr=>∃dk:Array Nat,k<=m+1/\An k t/\Hid (Qz w0 g c n dk wr)/\Hid (heapBuild (Qv n j i) hi a k dk=y))
 ·exact⟨d,Qk _,.inr ⟨m,rfl,rfl⟩,C,E⟩
 obtain⟨dk,hk,s,q,v⟩:=hrel;rcases s with⟨o,rfl⟩|⟨h,p,rfl⟩
 ·have A:=Qa (by have:=v.o;rw[o]at this;exact this:dk=y);clear v o C
  go_wp2
  go_loopg [12] hi (fun k t wr=>∃dk:Array Nat,k<=hi/\An k t/\Hid (Qz w0 g c n dk wr)/\Hid (heapPop (Qv n j i) a k dk=u))
  ·exact⟨dk,Qk _,.inr ⟨l,G.symm,rfl⟩,q,Qa (by rw[A.o];exact F.o)⟩
  obtain⟨dk,l,s,q,t⟩:=hrel;rcases s with⟨o,rfl⟩|⟨h,p,rfl⟩
  ·have s:=Qa (by have:=t.o;rw[o]at this;exact this:dk=u);clear t o
   go_wp2
   go_end0
   exact⟨rfl,by rw[<-s.o];exact q.o⟩
  have x:=Qa p;have:h<hi:=ox
  have s:=Qa (by have:=t.o;rw[p]at this;exact this:heapPop (Qv n j i) a h (siftDown (Qv n j i) h a 0<|swp dk a<|a+h)=u);have⟨l,hp⟩:=qx<|a+h;have:(a:Int)+h=(l:Int):=ox
  have:IntKind.i64.wrap (l:Int)=(l:Int):=Za _ ox;have:l<n:=ox
  have:(l:Int)<n:=ox
  have:(a:Int)<n:=ox
  rw[hp]at s;clear t p hp
  by_cases D:a=l
  ·subst D;obtain⟨I,F,G,z⟩:=q.o.exch1 a ox;go_wp2_with fail
   go_region
   all_goals
    go_wp2_with fail;have u:=z;go_fit(B.o _ _ 0 h u.o ox ox);rintro e E⟨rfl,o⟩;have t:=Qa o;clear o u
    go_wp2
    go_roundg h
    ·exact⟨_,ox,An.pred h,t,s⟩
    have:=x.o;omega
  have:¬l=a:=fun H=>D H.symm
  obtain⟨I,D,F,D,G,D,z,D⟩:=q.o.exch a l ox ox;go_wp2_with fail
  go_region
  all_goals
   go_wp2_with fail;have u:=(by first|exact z|exact D);go_fit(B.o _ _ 0 h u.o ox ox);rintro e E⟨rfl,o⟩;have t:=Qa o;clear o u
   go_wp2
   go_roundg h
   ·exact⟨_,ox,An.pred h,t,s⟩
   have:=x.o;omega
 have⟨x,A⟩:=qb p (by have:=v.o;rw[p]at this;exact this:heapBuild (Qv n j i) hi a h (siftDown (Qv n j i) hi a h dk)=y);have:h<=m:=ox
 clear v p C;go_wp2_with fail;go_fit(B.o _ _ h hi q.o ox ox);rintro e E⟨rfl,o⟩;have t:=Qa o;clear o
 go_wp2
 go_roundg h
 ·exact⟨_,ox,An.pred h,t,A⟩
 have:=x.o;omega
def Ah{b}(h:b=false):(!b)=true:=by rw[h];rfl
def Ag{b}(h:b=true):(!b)=false:=by rw[h];rfl
def PX{p e:Nat->Bool}{d i j i2 c}(m:∀x,e x=!p x)(g:scanUp p d j i=i2)(l:scanDown e d i2 j=c)(hi:0<i)(h:¬c<i2):i2<c:=by
 have a:=scanUp_spec p d j _ i rfl;have b:=scanDown_spec e d i2 j;rw[g]at a;rw[l]at b;rcases Xw i2 c with e|e
 ·exact e
 have e:i2=c:=ox
 have a4:=a.2.2.2 ox;have c:=b.2.2.2 ox ox;rw[m,<-e,a4]at c;exact absurd c dx
def Sz{p:Nat->Bool}{d j i}(h:i<=j)(hp:p d[i]! =true):scanUp p d j i=scanUp p d j (i+1):=by rw[scanUp,Qg (by rw[hp];simp;omega)]
def FG{p:Nat->Bool}{d j i}(h:i<=j->p d[i]! =false):scanUp p d j i=i:=by rw[scanUp,Qf];intro c;simp only[Xt,ZE]at c;rw[h c.1]at c;exact absurd c.2 dx
def NX{p:Nat->Bool}{d i j jm}(c:jm+1=j)(h:i<=j)(hp:p d[j]! =true):scanDown p d i j=scanDown p d i jm:=by subst c;rw[scanDown,Qg (by rw[hp];simp;omega)]
def Fa{p:Nat->Bool}{d i j}(h:i<=j->p d[j]! =false):scanDown p d i j=j:=by
 cases j with
 |zero=>rfl
 |succ j=>rw[scanDown,Qf];intro c;simp only[Xt,ZE]at c;rw[h c.1]at c;exact absurd c.2 dx
def MU(w0:WD)(g c n:Nat)(R:Nat × Bool × Array Nat)(e:Ending)(w':WD):Prop:=
 ∃ap:Bool,e=.returned (.tuple #[(R.1:Nat),.bool ap])/\Qz w0 g c n R.2.2 w'
def jN{lt a i j i2 c}{d:Array Nat}{R}(e:partLoop lt a i j d=R)(g:scanUp (fun x=>lt x d[a]!) d j i=i2)(h:scanDown (fun x=>!lt x d[a]!) d i2 j=c):
 (c<i2->R=(c,d))/\(¬c<i2->partLoop lt a (i2+1) (c-1) (swp d i2 c)=R):=by
 rw[partLoop_eq,g,h]at e;constructor
 ·intro c;rw[Qg c]at e;exact e.symm
 intro c;rwa[Qf c]at e
def Qft(w0 g c n rb ro rc y h3 d a b x6 w)(hC:JN w0 g rb ro n y h3)(hW:Qz w0 g c n d w)(d2:a+12<b)(hb:b<=n)(e0:a<=x6)(e1:x6<b):
 Calls prog 301 #[.slice g n c,a,.int .i64 b,x6,XL (some ⟨rb,ro,none⟩) n rc y] w (MU w0 g c n<|partition (Qv n h3 y) d a b x6):=by
 have d9:=hC.n9;have⟨HC,HW⟩:=qb hC hW;have⟨o,r7⟩:=qx<|b-1;have⟨a1,r6⟩:=qx<|a+1;have⟨q,q8⟩:=qx<|swp d a x6;have⟨R,hR⟩:=qx<|partLoop (Qv n h3 y) a a1 o q;have a6:∀(ap:Bool)(e:Ending)(w':WD),e=.returned (.tuple #[.int .i64 (R.1:Nat),.bool ap])->Qz w0 g c n (swp R.2 R.1 a) w'->MU w0 g c n (partition (Qv n h3 y) d a b x6) e w':=by intro ap e w' he hw;have h1:=partition_fst (lt:=Qv n h3 y) d a b x6;have h2:=partition_arr (lt:=Qv n h3 y) d a b x6;rw[r6,r7,q8,hR]at h1 h2;exact⟨ap,by rwa[h1],by rwa[h2]⟩
 have⟨p5,HR,r3⟩:=qc a6 hR q8;obtain⟨eb,ea,p8,e2,d4,d1⟩:(b:Int)-1=(o:Int)/\(a:Int)+1=(a1:Int)/\(a:Int)<n/\(x6:Int)<n/\o+1=b/\a+1=a1:=ox
 clear hC hW a6 hR q8 r7 r6;unfold XL;go_enter func301,ntmps301
 go_upto_region 1 with(fail)
 go_cut [] (fun wc=>Hid<|Qz w0 g c n q wc)
 ·by_cases a8:a=x6
  ·subst a8;obtain⟨u1,b5,b6,p9⟩:=HW.o.exch1 a ox;go_wp2_with fail
   go_region
   all_goals
    go_wp2
    go_meet;have HX:=p9;rw[r3.o]at HX;exact HX
  have d8:¬x6=a:=fun h=>a8 h.symm
  obtain⟨u1,v1,b5,c9,b6,d0,p9,b2⟩:=HW.o.exch a x6 ox ox;go_wp2_with fail
  go_region
  all_goals
   go_wp2
   go_meet;have HX:=(by first|exact p9|exact b2);rw[r3.o]at HX;exact HX
 have x3:=hcut;clear HW hcut
 go_upto_block 0 with fail
 go_cut [12] (fun v wc=>∃i:Nat,v=.int .i64 (i:Nat)/\a1<=i/\i<=o+1/\Hid (Qz w0 g c n q wc)/\Hid (scanUp (fun x=>Qv n h3 y x q[a]!) q o a1=i))
 ·go_wp2
  go_loopg [12] (o+1-a1) (fun k v wr=>∃i:Nat,v=.int .i64 (i:Nat)/\a1<=i/\i<=o+1/\k=o+1-i/\Hid (Qz w0 g c n q wr)/\Hid (scanUp (fun x=>Qv n h3 y x q[a]!) q o a1=scanUp (fun x=>Qv n h3 y x q[a]!) q o i))
  ·exact⟨a1,by first|rfl|go_num,Qk _,ox,ox,x3,Qa rfl⟩
  obtain⟨i,rfl,b8,y4,hk,HS,HI⟩:=hrel;have Hk:=Qa hk;clear hk x3
  by_cases y5:i<=o
  ·obtain⟨z1,r0,p8⟩:(i:Int)<=o/\(i:Int)<n/\(a:Int)<n:=ox;obtain⟨x1,y1,r1,h9,x0,y6,y0⟩:=HC.o.test HS.o rc i a ox ox;have x8:=Qa y0;have x9:=HS;clear y0;obtain⟨o,y2⟩:∃b,decide (r1<0)=b:=⟨_,rfl⟩;have h4:=Qa<|y6.trans y2;clear y6;go_wp2_with fail
   go_region_held3 (fun w'=>Qb [] wr w'/\w'.cell? ⟨g,i,none⟩=some (.int .i64 (x1:Int))/\w'.cell? ⟨g,a,none⟩=some (.int .i64 (y1:Int)))
    (first|exact⟨Qc _ _,h9,x0⟩|exact⟨(Qc _ _).drew,h9,x0⟩|exact⟨h5,h5.cZ h9 sx,h5.cZ x0 sx⟩)
    (first|(go_fit(x8.o _ (Qc [] wr).drew);rintro e w1⟨rfl,h5⟩))
   have x3:=Qa<|x9.o.kZ h5;rename_i y9;clear y9 h5 h9 x0 x8 x9;clear y2;cases o
   ·go_wp2_with fail;have h8:=FG (p:=(fun x=>Qv n h3 y x q[a]!)) (d:=q) (j:=o) (i:=i) (fun _=>by first|exact h4.o|exact Ah h4.o|exact Ag h4.o);have x4:=Qa<|HI.o.trans h8;clear h8;go_meet;exact⟨i,rfl,ox,ox,x3,x4⟩
   go_wp2_with fail;have y3:=Sz (p:=(fun x=>Qv n h3 y x q[a]!)) (d:=q) (j:=o) (i:=i) y5 (by first|exact h4.o|exact Ah h4.o|exact Ag h4.o);have HG:=Qa<|HI.o.trans y3;clear y3
   go_roundg (o+1-(i+1))
   ·exact⟨i+1,by go_num,ox,ox,rfl,x3,HG⟩
   have:=Hk.o;omega
  have z1:¬(i:Int)<=o:=ox
  go_wp2_with fail;go_quiet (fail);go_wp2_with fail;have h8:=FG (p:=(fun x=>Qv n h3 y x q[a]!)) (d:=q) (j:=o) (i:=i) fun h=>absurd h y5;have x4:=Qa<|HI.o.trans h8;clear h8;go_meet;exact⟨i,rfl,ox,ox,Qa<|HS.o.kZ<|(Qc _ _).drewN _,x4⟩
 obtain⟨i,rfl,b7,a7,q0,HI⟩:=hcut;clear x3
 go_upto_block 2 with fail
 go_cut [13] (fun v wc=>∃j:Nat,v=.int .i64 (j:Nat)/\j<=o/\i<=j+1/\Hid (Qz w0 g c n q wc)/\Hid (scanDown (fun x=>!Qv n h3 y x q[a]!) q i o=j))
 ·go_wp2
  go_loopg [13] (o+1-i) (fun k v wr=>∃j:Nat,v=.int .i64 (j:Nat)/\j<=o/\i<=j+1/\k=j+1-i/\Hid (Qz w0 g c n q wr)/\Hid (scanDown (fun x=>!Qv n h3 y x q[a]!) q i o=scanDown (fun x=>!Qv n h3 y x q[a]!) q i j))
  ·exact⟨o,by first|rfl|go_num,Qk _,ox,ox,q0,Qa rfl⟩
  obtain⟨j,rfl,c6,y4,hk,HS,HI⟩:=hrel;have Hk:=Qa hk;clear hk q0
  by_cases y5:i<=j
  ·obtain⟨z1,r2,p8⟩:(i:Int)<=j/\(j:Int)<n/\(a:Int)<n:=ox;obtain⟨jm,y7⟩:∃jm,jm+1=j:=⟨j-1,ox⟩;have p7:(j:Int)-1=(jm:Int):=ox;obtain⟨x1,y1,r1,h9,x0,y6,y0⟩:=HC.o.test HS.o rc j a ox ox;have x8:=Qa y0;have x9:=HS;clear y0;obtain⟨o,y2⟩:∃b,decide (r1<0)=b:=⟨_,rfl⟩;have h4:=Qa<|y6.trans y2;clear y6;go_wp2_with fail
   go_region_held3 (fun w'=>Qb [] wr w'/\w'.cell? ⟨g,j,none⟩=some (.int .i64 (x1:Int))/\w'.cell? ⟨g,a,none⟩=some (.int .i64 (y1:Int)))
    (first|exact⟨Qc _ _,h9,x0⟩|exact⟨(Qc _ _).drew,h9,x0⟩|exact⟨h5,h5.cZ h9 sx,h5.cZ x0 sx⟩)
    (first|(go_fit(x8.o _ (Qc [] wr).drew);rintro e w1⟨rfl,h5⟩))
   have x3:=Qa<|x9.o.kZ h5;rename_i y9;clear y9 h5 h9 x0 x8 x9;clear y2;cases o
   ·go_wp2_with fail;have y3:=NX (p:=(fun x=>!Qv n h3 y x q[a]!)) (d:=q) (i:=i) (j:=j) (jm:=jm) y7 y5 (by first|exact h4.o|exact Ah h4.o|exact Ag h4.o);have HG:=Qa<|HI.o.trans y3;clear y3
    go_roundg (jm+1-i)
    ·exact⟨jm,by first|rfl|go_num,ox,ox,rfl,x3,HG⟩
    have:=Hk.o;omega
   go_wp2_with fail;have h8:=Fa (p:=(fun x=>!Qv n h3 y x q[a]!)) (d:=q) (i:=i) (j:=j) (fun _=>by first|exact h4.o|exact Ah h4.o|exact Ag h4.o);have x4:=Qa<|HI.o.trans h8;clear h8;go_meet;exact⟨j,rfl,ox,ox,x3,x4⟩
  have z1:¬(i:Int)<=j:=ox
  go_wp2_with fail;go_quiet (fail);go_wp2_with fail;have h8:=Fa (p:=(fun x=>!Qv n h3 y x q[a]!)) (d:=q) (i:=i) (j:=j) fun h=>absurd h y5;have x4:=Qa<|HI.o.trans h8;clear h8;go_meet;exact⟨j,rfl,ox,ox,Qa<|HS.o.kZ<|(Qc _ _).drewN _,x4⟩
 obtain⟨j,rfl,b9,c4,p6,HJ⟩:=hcut;clear q0;have p3:=jN HR.o HI.o HJ.o;have p4:=PX (fun _=>rfl) HI.o HJ.o ox;have z6:=Qa p3;have d6:i<=o+1:=a7;have r2:(j:Int)<n:=ox
 have q5:=Qa p4;clear p3 p4
 by_cases y4:j<i
 ·have q9:(j:Int)<i:=ox
  have x5:=z6.o.1 y4;have x2:=Qa x5;clear x5;go_wp2_with fail
  by_cases p1:j=a
  ·subst p1;obtain⟨u2,z7,z8,x7⟩:=p6.o.exch1 j ox;go_wp2_with fail
   go_region
   all_goals
    go_wp2
    go_ret2;have HX:=x7;exact p5.o true _ _ (by rw[x2.o];rfl) (by rw[x2.o];exact HX.o)
  have c5:¬a=j:=fun h=>p1 h.symm
  obtain⟨u2,v2,z7,q6,z8,q7,x7,y8⟩:=p6.o.exch j a ox ox;go_wp2_with fail
  go_region
  all_goals
   go_wp2
   go_ret2;have HX:=(by first|exact x7|exact y8);exact p5.o true _ _ (by rw[x2.o];rfl) (by rw[x2.o];exact HX.o)
 have q9:¬(j:Int)<i:=ox
 have x5:=z6.o.2 y4;have hlt:=q5.o y4;have x2:=Qa x5;have r0:(i:Int)<n:=ox
 have⟨jm,y7⟩:=qx<|j-1;have p7:(j:Int)-1=(jm:Int):=ox
 have⟨ip,p2⟩:=qx<|i+1;have r5:(i:Int)+1=(ip:Int):=ox
 rw[y7,p2]at x2;obtain⟨r9,p0⟩:(a<ip/\jm<b)/\ip<=jm+1:=ox
 clear x5 y7 p2
 go_upto_region 10 with(fail)
 go_cut [] (fun wc=>Hid<|Qz w0 g c n (swp q i j) wc)
 ·obtain⟨c7,c8⟩: ¬i=j/\¬j=i:=ox
  obtain⟨u2,v2,z7,q6,z8,q7,x7,y8⟩:=p6.o.exch i j ox ox;go_wp2_with fail
  go_region
  all_goals
   go_wp2
   go_meet;exact(by first|exact x7|exact y8)
 have r4:=hcut;clear p6 hcut
 go_wp2
 go_loopg [12,13] (jm+1-ip) (fun k v u wr=>∃(i j:Nat)(dk:Array Nat),v=.int .i64 (i:Nat)/\u=.int .i64 (j:Nat)/\a<i/\i<=j+1/\j<b/\k=j+1-i/\Hid (Qz w0 g c n dk wr)/\Hid (partLoop (Qv n h3 y) a i j dk=R))
 ·exact⟨ip,jm,_,rfl,rfl,r9.1,p0,r9.2,rfl,r4,x2⟩
 clear r4 x2 p7 r5;obtain⟨i0,j0,dk,rfl,rfl,d3,d5,d7,hk,q1,b3⟩:=hrel;have b4:=Qa hk;clear hk
 go_upto_block 6 with fail
 go_cut [12] (fun v wc=>∃i:Nat,v=.int .i64 (i:Nat)/\i0<=i/\i<=j0+1/\Hid (Qz w0 g c n dk wc)/\Hid (scanUp (fun x=>Qv n h3 y x dk[a]!) dk j0 i0=i))
 ·go_wp2
  go_loopg [12] (j0+1-i0) (fun k v wr=>∃i:Nat,v=.int .i64 (i:Nat)/\i0<=i/\i<=j0+1/\k=j0+1-i/\Hid (Qz w0 g c n dk wr)/\Hid (scanUp (fun x=>Qv n h3 y x dk[a]!) dk j0 i0=scanUp (fun x=>Qv n h3 y x dk[a]!) dk j0 i))
  ·exact⟨i0,by first|rfl|go_num,Qk _,ox,ox,q1,Qa rfl⟩
  obtain⟨i,rfl,b8,y4,hk,HS,HI⟩:=hrel;have Hk:=Qa hk;clear hk q1
  by_cases y5:i<=j0
  ·obtain⟨z1,r0,p8⟩:(i:Int)<=j0/\(i:Int)<n/\(a:Int)<n:=ox;obtain⟨x1,y1,r1,h9,x0,y6,y0⟩:=HC.o.test HS.o rc i a ox ox;have x8:=Qa y0;have x9:=HS;clear y0;obtain⟨o,y2⟩:∃b,decide (r1<0)=b:=⟨_,rfl⟩;have h4:=Qa<|y6.trans y2;clear y6;go_wp2_with fail
   go_region_held3 (fun w'=>Qb [] wr w'/\w'.cell? ⟨g,i,none⟩=some (.int .i64 (x1:Int))/\w'.cell? ⟨g,a,none⟩=some (.int .i64 (y1:Int)))
    (first|exact⟨Qc _ _,h9,x0⟩|exact⟨(Qc _ _).drew,h9,x0⟩|exact⟨h5,h5.cZ h9 sx,h5.cZ x0 sx⟩)
    (first|(go_fit(x8.o _ (Qc [] wr).drew);rintro e w1⟨rfl,h5⟩))
   have x3:=Qa<|x9.o.kZ h5;rename_i y9;clear y9 h5 h9 x0 x8 x9;clear y2;cases o
   ·go_wp2_with fail;have h8:=FG (p:=(fun x=>Qv n h3 y x dk[a]!)) (d:=dk) (j:=j0) (i:=i) (fun _=>by first|exact h4.o|exact Ah h4.o|exact Ag h4.o);have x4:=Qa<|HI.o.trans h8;clear h8;go_meet;exact⟨i,rfl,ox,ox,x3,x4⟩
   go_wp2_with fail;have y3:=Sz (p:=(fun x=>Qv n h3 y x dk[a]!)) (d:=dk) (j:=j0) (i:=i) y5 (by first|exact h4.o|exact Ah h4.o|exact Ag h4.o);have HG:=Qa<|HI.o.trans y3;clear y3
   go_roundg (j0+1-(i+1))
   ·exact⟨i+1,by go_num,ox,ox,rfl,x3,HG⟩
   have:=Hk.o;omega
  have z1:¬(i:Int)<=j0:=ox
  go_wp2_with fail;go_quiet (fail);go_wp2_with fail;have h8:=FG (p:=(fun x=>Qv n h3 y x dk[a]!)) (d:=dk) (j:=j0) (i:=i) fun h=>absurd h y5;have x4:=Qa<|HI.o.trans h8;clear h8;go_meet;exact⟨i,rfl,ox,ox,Qa<|HS.o.kZ<|(Qc _ _).drewN _,x4⟩
 obtain⟨i,rfl,b7,a7,q3,HI⟩:=hcut;clear q1
 go_upto_block 8 with fail
 go_cut [13] (fun v wc=>∃j:Nat,v=.int .i64 (j:Nat)/\j<=j0/\i<=j+1/\Hid (Qz w0 g c n dk wc)/\Hid (scanDown (fun x=>!Qv n h3 y x dk[a]!) dk i j0=j))
 ·go_wp2
  go_loopg [13] (j0+1-i) (fun k v wr=>∃j:Nat,v=.int .i64 (j:Nat)/\j<=j0/\i<=j+1/\k=j+1-i/\Hid (Qz w0 g c n dk wr)/\Hid (scanDown (fun x=>!Qv n h3 y x dk[a]!) dk i j0=scanDown (fun x=>!Qv n h3 y x dk[a]!) dk i j))
  ·exact⟨j0,by first|rfl|go_num,Qk _,ox,ox,q3,Qa rfl⟩
  obtain⟨j,rfl,c6,y4,hk,HS,HI⟩:=hrel;have Hk:=Qa hk;clear hk q3
  by_cases y5:i<=j
  ·obtain⟨z1,r2,p8⟩:(i:Int)<=j/\(j:Int)<n/\(a:Int)<n:=ox;obtain⟨jm,y7⟩:∃jm,jm+1=j:=⟨j-1,ox⟩;have p7:(j:Int)-1=(jm:Int):=ox;obtain⟨x1,y1,r1,h9,x0,y6,y0⟩:=HC.o.test HS.o rc j a ox ox;have x8:=Qa y0;have x9:=HS;clear y0;obtain⟨o,y2⟩:∃b,decide (r1<0)=b:=⟨_,rfl⟩;have h4:=Qa<|y6.trans y2;clear y6;go_wp2_with fail
   go_region_held3 (fun w'=>Qb [] wr w'/\w'.cell? ⟨g,j,none⟩=some (.int .i64 (x1:Int))/\w'.cell? ⟨g,a,none⟩=some (.int .i64 (y1:Int)))
    (first|exact⟨Qc _ _,h9,x0⟩|exact⟨(Qc _ _).drew,h9,x0⟩|exact⟨h5,h5.cZ h9 sx,h5.cZ x0 sx⟩)
    (first|(go_fit(x8.o _ (Qc [] wr).drew);rintro e w1⟨rfl,h5⟩))
   have x3:=Qa<|x9.o.kZ h5;rename_i y9;clear y9 h5 h9 x0 x8 x9;clear y2;cases o
   ·go_wp2_with fail;have y3:=NX (p:=(fun x=>!Qv n h3 y x dk[a]!)) (d:=dk) (i:=i) (j:=j) (jm:=jm) y7 y5 (by first|exact h4.o|exact Ah h4.o|exact Ag h4.o);have HG:=Qa<|HI.o.trans y3;clear y3
    go_roundg (jm+1-i)
    ·exact⟨jm,by first|rfl|go_num,ox,ox,rfl,x3,HG⟩
    have:=Hk.o;omega
   go_wp2_with fail;have h8:=Fa (p:=(fun x=>!Qv n h3 y x dk[a]!)) (d:=dk) (i:=i) (j:=j) (fun _=>by first|exact h4.o|exact Ah h4.o|exact Ag h4.o);have x4:=Qa<|HI.o.trans h8;clear h8;go_meet;exact⟨j,rfl,ox,ox,x3,x4⟩
  have z1:¬(i:Int)<=j:=ox
  go_wp2_with fail;go_quiet (fail);go_wp2_with fail;have h8:=Fa (p:=(fun x=>!Qv n h3 y x dk[a]!)) (d:=dk) (i:=i) (j:=j) fun h=>absurd h y5;have x4:=Qa<|HI.o.trans h8;clear h8;go_meet;exact⟨j,rfl,ox,ox,Qa<|HS.o.kZ<|(Qc _ _).drewN _,x4⟩
 obtain⟨j,rfl,b9,c4,q4,HJ⟩:=hcut;clear q3;have p3:=jN b3.o HI.o HJ.o;have p4:=PX (fun _=>rfl) HI.o HJ.o ox;have z6:=Qa p3;have r2:(j:Int)<n:=ox
 have q5:=Qa p4;clear p3 p4
 by_cases y4:j<i
 ·have q9:(j:Int)<i:=ox
  have x5:=z6.o.1 y4;have x2:=Qa x5;clear x5;go_wp2_with fail
  by_cases p1:j=a
  ·subst p1;obtain⟨u2,z7,z8,x7⟩:=q4.o.exch1 j ox;go_wp2_with fail
   go_region
   all_goals
    go_wp2
    go_ret2;have HX:=x7;exact p5.o false _ _ (by rw[x2.o];rfl) (by rw[x2.o];exact HX.o)
  have c5:¬a=j:=fun h=>p1 h.symm
  obtain⟨u2,v2,z7,q6,z8,q7,x7,y8⟩:=q4.o.exch j a ox ox;go_wp2_with fail
  go_region
  all_goals
   go_wp2
   go_ret2;have HX:=(by first|exact x7|exact y8);exact p5.o false _ _ (by rw[x2.o];rfl) (by rw[x2.o];exact HX.o)
 have q9:¬(j:Int)<i:=ox
 have x5:=z6.o.2 y4;have hlt:=q5.o y4;have r0:(i:Int)<n:=ox
 have⟨jm,y7⟩:=qx<|j-1;have p7:(j:Int)-1=(jm:Int):=ox
 have⟨ip,p2⟩:=qx<|i+1;have r5:(i:Int)+1=(ip:Int):=ox
 rw[y7,p2]at x5;have x2:=Qa x5;obtain⟨c7,c8,p0⟩: ¬i=j/\¬j=i/\(a<ip/\ip<=jm+1/\jm<b/\jm+1-ip<j0+1-i0):=ox
 clear x5 y7 p2;go_wp2_with fail;obtain⟨u2,v2,z7,q6,z8,q7,x7,y8⟩:=q4.o.exch i j ox ox;go_wp2_with fail
 go_region
 all_goals
  go_wp2
  go_roundg (jm+1-ip)
  ·exact⟨ip,jm,_,rfl,rfl,p0.1,p0.2.1,p0.2.2.1,rfl,(by first|exact x7|exact y8),x2⟩
  have:=b4.o;omega
