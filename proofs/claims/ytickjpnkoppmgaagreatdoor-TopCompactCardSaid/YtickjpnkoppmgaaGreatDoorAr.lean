import Derived.Sort.LotC
import Derived.Deep.CutBlock
import Derived.Test.YtickjpnkoppmgaaGreatDoorAq
set_option linter.all false
set_option maxHeartbeats 16000000
set_option maxRecDepth 100000
namespace Go.Proofs.YtickjpnkoppmgaaGreatDoor
open Go.Proofs.Tryz Go.RowKit K Go.Sort
def RR(k:Nat)(v:VL):Prop:=(k=0∧v=.int .i64 (-1))∨∃a:Nat,k=a+1∧v=.int .i64 (a:Nat)
def RR.pred(j):RR j (.int .i64<|(j:Int)-1):=by
 rcases V9 j with a|a
 ·subst a;exact .inl ⟨rfl,rfl⟩
 exact .inr ⟨j-1,by omega,by congr 1;omega⟩
def yW(w0 g c n f l s h i d)(a b:Nat)(w)(o:Jm w0 g f l n h i)(t:Qw w0 g c n d w)(j:a+12<b)(hb:b≤n):
 Calls prog 295 #[.slice g n c,a,b,Xy (some ⟨f,l,none⟩) n s h] w fun e w'=>e=.returned (.tuple #[])∧Qw w0 g c n (heapSort (Qt n i h) d a b) w':=by
 have:=o.n9;have⟨A,z⟩:=qb o t;have⟨hi,x⟩:=qx<|b-a;have⟨j,v⟩:=qx<|hi-1;have⟨k,y⟩:=qx<|j/2;have:(b:Int)-a=(hi:Int):=by omega
 have:(hi:Int)-1=(j:Int):=by omega
 have:(j:Int)/2=(k:Int):=by omega
 have:a+hi=b:=by omega
 have D:j+1=hi:=by omega
 have:k<hi:=by omega
 obtain⟨u,p⟩:∃m,heapBuild (Qt n i h) hi a (k+1) d=m:=⟨_,rfl⟩;obtain⟨r,q⟩:∃m,heapPop (Qt n i h) a hi u=m:=⟨_,rfl⟩;have m:heapSort (Qt n i h) d a b=r:=by unfold heapSort;rw[x,v,y,p,q]
 rw[m];have⟨B,C⟩:=qb p q;clear o t p q m x v y;have o:∀(m:WD)(dk:Array Nat)(lo hi:Nat),Qw w0 g c n dk m→lo≤hi→a+hi≤n→Calls prog 311 #[.slice g n c,.int .i64 lo,.int .i64 hi,a,.func (.func 248) #[Jj (some ⟨f,l,none⟩) n s h] #[]] m fun e w'=>e=.returned (.tuple #[])∧Qw w0 g c n (siftDown (Qt n i h) hi a lo dk) w':=
  fun m dk lo hi j p q=>Qgd w0 g c n f l s h i dk lo hi a m A.o j p q
 have y:=Qa o;clear o;unfold Xy;go_enter func295,ntmps295
 go_wp2
 go_loopg [11] (k+1) (fun l t wr=>∃dk:Array Nat,l≤k+1∧RR l t∧Hid (Qw w0 g c n dk wr)∧Hid (heapBuild (Qt n i h) hi a l dk=u))
 ·exact⟨d,Ql _,.inr ⟨k,rfl,rfl⟩,z,B⟩
 obtain⟨dk,hk,p,o,s⟩:=hrel;rcases p with⟨q,rfl⟩|⟨f,m,rfl⟩
 ·have x:=Qa (by have:=s.o;rw[q]at this;exact this:dk=u);clear s q z
  go_wp2
  go_loopg [12] hi (fun l t wr=>∃dk:Array Nat,l≤hi∧RR l t∧Hid (Qw w0 g c n dk wr)∧Hid (heapPop (Qt n i h) a l dk=r))
  ·exact⟨dk,Ql _,.inr ⟨j,D.symm,rfl⟩,o,Qa (by rw[x.o];exact C.o)⟩
  obtain⟨dk,j,p,o,l⟩:=hrel;rcases p with⟨q,rfl⟩|⟨f,m,rfl⟩
  ·have p:=Qa (by have:=l.o;rw[q]at this;exact this:dk=r);clear l q
   go_wp2
   go_end0
   exact⟨rfl,by rw[←p.o];exact o.o⟩
  have t:=Qa m;have:f<hi:=by omega
  have p:=Qa (by have:=l.o;rw[m]at this;exact this:heapPop (Qt n i h) a f (siftDown (Qt n i h) f a 0<|swp dk a<|a+f)=r);have⟨j,hp⟩:=qx<|a+f;have:(a:Int)+f=(j:Int):=by omega
  have:IntKind.i64.wrap (j:Int)=(j:Int):=Q3 _ (by omega);have:j<n:=by omega
  have:(j:Int)<n:=by omega
  have:(a:Int)<n:=by omega
  rw[hp]at p;clear l m hp
  by_cases A:a=j
  ·subst A;obtain⟨F,C,D,v⟩:=o.o.exch1 a (by omega);go_wp2_with fail
   go_region
   all_goals
    go_wp2_with fail;have r:=v;refine(y.o _ _ 0 f r.o (by omega)<|by omega).mono ?_;rintro e B⟨rfl,l⟩;have q:=Qa l;clear l r
    go_wp2
    go_roundg f
    ·exact⟨_,by omega,RR.pred f,q,p⟩
    have:=t.o;omega
  have:¬j=a:=fun E=>A E.symm
  obtain⟨F,A,C,A,D,A,v,A⟩:=o.o.exch a j (by omega) (by omega);go_wp2_with fail
  go_region
  all_goals
   go_wp2_with fail;have r:=(by first|exact v|exact A);refine(y.o _ _ 0 f r.o (by omega)<|by omega).mono ?_;rintro e B⟨rfl,l⟩;have q:=Qa l;clear l r
   go_wp2
   go_roundg f
   ·exact⟨_,by omega,RR.pred f,q,p⟩
   have:=t.o;omega
 have⟨t,x⟩:=qb m (by have:=s.o;rw[m]at this;exact this:heapBuild (Qt n i h) hi a f (siftDown (Qt n i h) hi a f dk)=u);have:f≤k:=by omega
 clear s m z;go_wp2_with fail;refine(y.o _ _ f hi o.o (by omega)<|by omega).mono ?_;rintro e B⟨rfl,l⟩;have q:=Qa l;clear l
 go_wp2
 go_roundg f
 ·exact⟨_,by omega,RR.pred f,q,x⟩
 have:=t.o;omega
def RI{b}(a:b=false):(!b)=true:=by rw[a];rfl
def RH{b}(a:b=true):(!b)=false:=by rw[a];rfl
def OI{p b:Nat→Bool}{d i j i2 a}(h:∀x,b x=!p x)(f:scanUp p d j i=i2)(g:scanDown b d i2 j=a)(hi:0<i)(c:¬a<i2):i2<a:=by
 have c:=scanUp_spec p d j _ i rfl;have e:=scanDown_spec b d i2 j;rw[f]at c;rw[g]at e;rcases Xq i2 a with b|b
 ·exact b
 have b:i2=a:=by omega
 have a4:=c.2.2.2 (by omega);have a:=e.2.2.2 (by omega) (by omega);rw[h,←b,a4]at a;exact absurd a (by decide)
def Pi{p:Nat→Bool}{d j i}(a:i≤j)(hp:p d[i]! =true):scanUp p d j i=scanUp p d j (i+1):=by rw[scanUp,Qg (by rw[hp];simp;omega)]
def EQ{p:Nat→Bool}{d j i}(b:i≤j→p d[i]! =false):scanUp p d j i=i:=by rw[scanUp,Qf];intro a;simp only[Xh,Zv]at a;rw[b a.1]at a;exact absurd a.2 (by decide)
def MQ{p:Nat→Bool}{d i j jm}(a:jm+1=j)(b:i≤j)(hp:p d[j]! =true):scanDown p d i j=scanDown p d i jm:=by subst a;rw[scanDown,Qg (by rw[hp];simp;omega)]
def En{p:Nat→Bool}{d i j}(b:i≤j→p d[j]! =false):scanDown p d i j=j:=by
 cases j with
 |zero=>rfl
 |succ j=>rw[scanDown,Qf];intro a;simp only[Xh,Zv]at a;rw[b a.1]at a;exact absurd a.2 (by decide)
def LO(w0:WD)(g c n:Nat)(R:Nat × Bool × Array Nat)(e:Ending)(w':WD):Prop:=
 ∃a:Bool,e=.returned (.tuple #[(R.1:Nat),.bool a])∧Qw w0 g c n R.2.2 w'
def fK{lt a i j i2 b}{d:Array Nat}{R}(c:partLoop lt a i j d=R)(e:scanUp (fun x=>lt x d[a]!) d j i=i2)(f:scanDown (fun x=>!lt x d[a]!) d i2 j=b):
 (b<i2→R=(b,d))∧(¬b<i2→partLoop lt a (i2+1) (b-1) (swp d i2 b)=R):=by
 rw[partLoop_eq,e,f]at c;constructor
 ·intro b;rw[Qg b]at c;exact c.symm
 intro b;rwa[Qf b]at c
def Qdb(w0 g c n rb ro rc y h3 d a b x6 w)(hC:Jm w0 g rb ro n y h3)(hW:Qw w0 g c n d w)(d2:a+12<b)(hb:b≤n)(e0:a≤x6)(e1:x6<b):
 Calls prog 301 #[.slice g n c,a,.int .i64 b,x6,Xy (some ⟨rb,ro,none⟩) n rc y] w (LO w0 g c n<|partition (Qt n h3 y) d a b x6):=by
 have d9:=hC.n9;have⟨HC,HW⟩:=qb hC hW;have⟨o,r7⟩:=qx<|b-1;have⟨a1,r6⟩:=qx<|a+1;have⟨q,q8⟩:=qx<|swp d a x6;have⟨R,hR⟩:=qx<|partLoop (Qt n h3 y) a a1 o q;have a6:∀(ap:Bool)(e:Ending)(w':WD),e=.returned (.tuple #[.int .i64 (R.1:Nat),.bool ap])→Qw w0 g c n (swp R.2 R.1 a) w'→LO w0 g c n (partition (Qt n h3 y) d a b x6) e w':=by intro ap e w' he hw;have h1:=partition_fst (lt:=Qt n h3 y) d a b x6;have h2:=partition_arr (lt:=Qt n h3 y) d a b x6;rw[r6,r7,q8,hR]at h1 h2;exact⟨ap,by rwa[h1],by rwa[h2]⟩
 have⟨p5,HR,r3⟩:=qc a6 hR q8;obtain⟨eb,ea,p8,e2,d4,d1⟩:(b:Int)-1=(o:Int)∧(a:Int)+1=(a1:Int)∧(a:Int)<n∧(x6:Int)<n∧o+1=b∧a+1=a1:=by omega
 clear hC hW a6 hR q8 r7 r6;unfold Xy;go_enter func301,ntmps301
 go_upto_region 1 with(fail)
 go_cut [] (fun wc=>Hid<|Qw w0 g c n q wc)
 ·by_cases a8:a=x6
  ·subst a8;obtain⟨u1,b5,b6,p9⟩:=HW.o.exch1 a (by omega);go_wp2_with fail
   go_region
   all_goals
    go_wp2
    go_meet;have HX:=p9;rw[r3.o]at HX;exact HX
  have d8:¬x6=a:=fun h=>a8 h.symm
  obtain⟨u1,v1,b5,c9,b6,d0,p9,b2⟩:=HW.o.exch a x6 (by omega) (by omega);go_wp2_with fail
  go_region
  all_goals
   go_wp2
   go_meet;have HX:=(by first|exact p9|exact b2);rw[r3.o]at HX;exact HX
 have x3:=hcut;clear HW hcut
 go_upto_block 0 with fail
 go_cut [12] (fun v wc=>∃i:Nat,v=.int .i64 (i:Nat)∧a1≤i∧i≤o+1∧Hid (Qw w0 g c n q wc)∧Hid (scanUp (fun x=>Qt n h3 y x q[a]!) q o a1=i))
 ·go_wp2
  go_loopg [12] (o+1-a1) (fun k v wr=>∃i:Nat,v=.int .i64 (i:Nat)∧a1≤i∧i≤o+1∧k=o+1-i∧Hid (Qw w0 g c n q wr)∧Hid (scanUp (fun x=>Qt n h3 y x q[a]!) q o a1=scanUp (fun x=>Qt n h3 y x q[a]!) q o i))
  ·exact⟨a1,by first|rfl|go_num,Ql _,by omega,by omega,x3,Qa rfl⟩
  obtain⟨i,rfl,b8,y4,hk,HS,HI⟩:=hrel;have Hk:=Qa hk;clear hk x3
  by_cases y5:i≤o
  ·obtain⟨z1,r0,p8⟩:(i:Int)≤o∧(i:Int)<n∧(a:Int)<n:=(by omega);obtain⟨x1,y1,r1,h9,x0,y6,y0⟩:=HC.o.test HS.o rc i a (by omega) (by omega);have x8:=Qa y0;have x9:=HS;clear y0;obtain⟨o,y2⟩:∃b,decide (r1<0)=b:=⟨_,rfl⟩;have h4:=Qa<|y6.trans y2;clear y6;go_wp2_with fail
   go_region_held3 (fun w'=>Qb [] wr w'∧w'.cell? ⟨g,i,none⟩=some (.int .i64 (x1:Int))∧w'.cell? ⟨g,a,none⟩=some (.int .i64 (y1:Int)))
    (first|exact⟨Qc _ _,h9,x0⟩|exact⟨(Qc _ _).drew,h9,x0⟩|exact⟨h5,h5.cZ h9<|by simp,h5.cZ x0<|by simp⟩)
    (first|(go_at_call 248;refine(x8.o _ (Qc [] wr).drew).mono ?_;rintro e w1⟨rfl,h5⟩))
   have x3:=Qa<|x9.o.kZ h5;rename_i y9;clear y9 h5 h9 x0 x8 x9;clear y2;cases o
   ·go_wp2_with fail;have h8:=EQ (p:=(fun x=>Qt n h3 y x q[a]!)) (d:=q) (j:=o) (i:=i) (fun _=>by first|exact h4.o|exact RI h4.o|exact RH h4.o);have x4:=Qa<|HI.o.trans h8;clear h8;go_meet;exact⟨i,rfl,by omega,by omega,x3,x4⟩
   go_wp2_with fail;have y3:=Pi (p:=(fun x=>Qt n h3 y x q[a]!)) (d:=q) (j:=o) (i:=i) y5 (by first|exact h4.o|exact RI h4.o|exact RH h4.o);have HG:=Qa<|HI.o.trans y3;clear y3
   go_roundg (o+1-(i+1))
   ·exact⟨i+1,by go_num,by omega,by omega,rfl,x3,HG⟩
   have:=Hk.o;omega
  have z1:¬(i:Int)≤o:=by omega
  go_wp2_with fail;go_quiet (fail);go_wp2_with fail;have h8:=EQ (p:=(fun x=>Qt n h3 y x q[a]!)) (d:=q) (j:=o) (i:=i) fun h=>absurd h y5;have x4:=Qa<|HI.o.trans h8;clear h8;go_meet;exact⟨i,rfl,by omega,by omega,Qa<|HS.o.kZ<|(Qc _ _).drewN _,x4⟩
 obtain⟨i,rfl,b7,a7,q0,HI⟩:=hcut;clear x3
 go_upto_block 2 with fail
 go_cut [13] (fun v wc=>∃j:Nat,v=.int .i64 (j:Nat)∧j≤o∧i≤j+1∧Hid (Qw w0 g c n q wc)∧Hid (scanDown (fun x=>!Qt n h3 y x q[a]!) q i o=j))
 ·go_wp2
  go_loopg [13] (o+1-i) (fun k v wr=>∃j:Nat,v=.int .i64 (j:Nat)∧j≤o∧i≤j+1∧k=j+1-i∧Hid (Qw w0 g c n q wr)∧Hid (scanDown (fun x=>!Qt n h3 y x q[a]!) q i o=scanDown (fun x=>!Qt n h3 y x q[a]!) q i j))
  ·exact⟨o,by first|rfl|go_num,Ql _,by omega,by omega,q0,Qa rfl⟩
  obtain⟨j,rfl,c6,y4,hk,HS,HI⟩:=hrel;have Hk:=Qa hk;clear hk q0
  by_cases y5:i≤j
  ·obtain⟨z1,r2,p8⟩:(i:Int)≤j∧(j:Int)<n∧(a:Int)<n:=(by omega);obtain⟨jm,y7⟩:∃jm,jm+1=j:=⟨j-1,by omega⟩;have p7:(j:Int)-1=(jm:Int):=(by omega);obtain⟨x1,y1,r1,h9,x0,y6,y0⟩:=HC.o.test HS.o rc j a (by omega) (by omega);have x8:=Qa y0;have x9:=HS;clear y0;obtain⟨o,y2⟩:∃b,decide (r1<0)=b:=⟨_,rfl⟩;have h4:=Qa<|y6.trans y2;clear y6;go_wp2_with fail
   go_region_held3 (fun w'=>Qb [] wr w'∧w'.cell? ⟨g,j,none⟩=some (.int .i64 (x1:Int))∧w'.cell? ⟨g,a,none⟩=some (.int .i64 (y1:Int)))
    (first|exact⟨Qc _ _,h9,x0⟩|exact⟨(Qc _ _).drew,h9,x0⟩|exact⟨h5,h5.cZ h9<|by simp,h5.cZ x0<|by simp⟩)
    (first|(go_at_call 248;refine(x8.o _ (Qc [] wr).drew).mono ?_;rintro e w1⟨rfl,h5⟩))
   have x3:=Qa<|x9.o.kZ h5;rename_i y9;clear y9 h5 h9 x0 x8 x9;clear y2;cases o
   ·go_wp2_with fail;have y3:=MQ (p:=(fun x=>!Qt n h3 y x q[a]!)) (d:=q) (i:=i) (j:=j) (jm:=jm) y7 y5 (by first|exact h4.o|exact RI h4.o|exact RH h4.o);have HG:=Qa<|HI.o.trans y3;clear y3
    go_roundg (jm+1-i)
    ·exact⟨jm,by first|rfl|go_num,by omega,by omega,rfl,x3,HG⟩
    have:=Hk.o;omega
   go_wp2_with fail;have h8:=En (p:=(fun x=>!Qt n h3 y x q[a]!)) (d:=q) (i:=i) (j:=j) (fun _=>by first|exact h4.o|exact RI h4.o|exact RH h4.o);have x4:=Qa<|HI.o.trans h8;clear h8;go_meet;exact⟨j,rfl,by omega,by omega,x3,x4⟩
  have z1:¬(i:Int)≤j:=by omega
  go_wp2_with fail;go_quiet (fail);go_wp2_with fail;have h8:=En (p:=(fun x=>!Qt n h3 y x q[a]!)) (d:=q) (i:=i) (j:=j) fun h=>absurd h y5;have x4:=Qa<|HI.o.trans h8;clear h8;go_meet;exact⟨j,rfl,by omega,by omega,Qa<|HS.o.kZ<|(Qc _ _).drewN _,x4⟩
 obtain⟨j,rfl,b9,c4,p6,HJ⟩:=hcut;clear q0;have p3:=fK HR.o HI.o HJ.o;have p4:=OI (fun _=>rfl) HI.o HJ.o (by omega);have z6:=Qa p3;have d6:i≤o+1:=a7;have r2:(j:Int)<n:=by omega
 have q5:=Qa p4;clear p3 p4
 by_cases y4:j<i
 ·have q9:(j:Int)<i:=by omega
  have x5:=z6.o.1 y4;have x2:=Qa x5;clear x5;go_wp2_with fail
  by_cases p1:j=a
  ·subst p1;obtain⟨u2,z7,z8,x7⟩:=p6.o.exch1 j (by omega);go_wp2_with fail
   go_region
   all_goals
    go_wp2
    go_ret2;have HX:=x7;exact p5.o true _ _ (by rw[x2.o];rfl) (by rw[x2.o];exact HX.o)
  have c5:¬a=j:=fun h=>p1 h.symm
  obtain⟨u2,v2,z7,q6,z8,q7,x7,y8⟩:=p6.o.exch j a (by omega) (by omega);go_wp2_with fail
  go_region
  all_goals
   go_wp2
   go_ret2;have HX:=(by first|exact x7|exact y8);exact p5.o true _ _ (by rw[x2.o];rfl) (by rw[x2.o];exact HX.o)
 have q9:¬(j:Int)<i:=by omega
 have x5:=z6.o.2 y4;have hlt:=q5.o y4;have x2:=Qa x5;have r0:(i:Int)<n:=by omega
 have⟨jm,y7⟩:=qx<|j-1;have p7:(j:Int)-1=(jm:Int):=by omega
 have⟨ip,p2⟩:=qx<|i+1;have r5:(i:Int)+1=(ip:Int):=by omega
 rw[y7,p2]at x2;obtain⟨r9,p0⟩:(a<ip∧jm<b)∧ip≤jm+1:=by omega
 clear x5 y7 p2
 go_upto_region 10 with(fail)
 go_cut [] (fun wc=>Hid<|Qw w0 g c n (swp q i j) wc)
 ·obtain⟨c7,c8⟩: ¬i=j∧¬j=i:=by omega
  obtain⟨u2,v2,z7,q6,z8,q7,x7,y8⟩:=p6.o.exch i j (by omega) (by omega);go_wp2_with fail
  go_region
  all_goals
   go_wp2
   go_meet;exact(by first|exact x7|exact y8)
 have r4:=hcut;clear p6 hcut
 go_wp2
 go_loopg [12,13] (jm+1-ip) (fun k v u wr=>∃(i j:Nat)(dk:Array Nat),v=.int .i64 (i:Nat)∧u=.int .i64 (j:Nat)∧a<i∧i≤j+1∧j<b∧k=j+1-i∧Hid (Qw w0 g c n dk wr)∧Hid (partLoop (Qt n h3 y) a i j dk=R))
 ·exact⟨ip,jm,_,rfl,rfl,r9.1,p0,r9.2,rfl,r4,x2⟩
 clear r4 x2 p7 r5;obtain⟨i0,j0,dk,rfl,rfl,d3,d5,d7,hk,q1,b3⟩:=hrel;have b4:=Qa hk;clear hk
 go_upto_block 6 with fail
 go_cut [12] (fun v wc=>∃i:Nat,v=.int .i64 (i:Nat)∧i0≤i∧i≤j0+1∧Hid (Qw w0 g c n dk wc)∧Hid (scanUp (fun x=>Qt n h3 y x dk[a]!) dk j0 i0=i))
 ·go_wp2
  go_loopg [12] (j0+1-i0) (fun k v wr=>∃i:Nat,v=.int .i64 (i:Nat)∧i0≤i∧i≤j0+1∧k=j0+1-i∧Hid (Qw w0 g c n dk wr)∧Hid (scanUp (fun x=>Qt n h3 y x dk[a]!) dk j0 i0=scanUp (fun x=>Qt n h3 y x dk[a]!) dk j0 i))
  ·exact⟨i0,by first|rfl|go_num,Ql _,by omega,by omega,q1,Qa rfl⟩
  obtain⟨i,rfl,b8,y4,hk,HS,HI⟩:=hrel;have Hk:=Qa hk;clear hk q1
  by_cases y5:i≤j0
  ·obtain⟨z1,r0,p8⟩:(i:Int)≤j0∧(i:Int)<n∧(a:Int)<n:=(by omega);obtain⟨x1,y1,r1,h9,x0,y6,y0⟩:=HC.o.test HS.o rc i a (by omega) (by omega);have x8:=Qa y0;have x9:=HS;clear y0;obtain⟨o,y2⟩:∃b,decide (r1<0)=b:=⟨_,rfl⟩;have h4:=Qa<|y6.trans y2;clear y6;go_wp2_with fail
   go_region_held3 (fun w'=>Qb [] wr w'∧w'.cell? ⟨g,i,none⟩=some (.int .i64 (x1:Int))∧w'.cell? ⟨g,a,none⟩=some (.int .i64 (y1:Int)))
    (first|exact⟨Qc _ _,h9,x0⟩|exact⟨(Qc _ _).drew,h9,x0⟩|exact⟨h5,h5.cZ h9<|by simp,h5.cZ x0<|by simp⟩)
    (first|(go_at_call 248;refine(x8.o _ (Qc [] wr).drew).mono ?_;rintro e w1⟨rfl,h5⟩))
   have x3:=Qa<|x9.o.kZ h5;rename_i y9;clear y9 h5 h9 x0 x8 x9;clear y2;cases o
   ·go_wp2_with fail;have h8:=EQ (p:=(fun x=>Qt n h3 y x dk[a]!)) (d:=dk) (j:=j0) (i:=i) (fun _=>by first|exact h4.o|exact RI h4.o|exact RH h4.o);have x4:=Qa<|HI.o.trans h8;clear h8;go_meet;exact⟨i,rfl,by omega,by omega,x3,x4⟩
   go_wp2_with fail;have y3:=Pi (p:=(fun x=>Qt n h3 y x dk[a]!)) (d:=dk) (j:=j0) (i:=i) y5 (by first|exact h4.o|exact RI h4.o|exact RH h4.o);have HG:=Qa<|HI.o.trans y3;clear y3
   go_roundg (j0+1-(i+1))
   ·exact⟨i+1,by go_num,by omega,by omega,rfl,x3,HG⟩
   have:=Hk.o;omega
  have z1:¬(i:Int)≤j0:=by omega
  go_wp2_with fail;go_quiet (fail);go_wp2_with fail;have h8:=EQ (p:=(fun x=>Qt n h3 y x dk[a]!)) (d:=dk) (j:=j0) (i:=i) fun h=>absurd h y5;have x4:=Qa<|HI.o.trans h8;clear h8;go_meet;exact⟨i,rfl,by omega,by omega,Qa<|HS.o.kZ<|(Qc _ _).drewN _,x4⟩
 obtain⟨i,rfl,b7,a7,q3,HI⟩:=hcut;clear q1
 go_upto_block 8 with fail
 go_cut [13] (fun v wc=>∃j:Nat,v=.int .i64 (j:Nat)∧j≤j0∧i≤j+1∧Hid (Qw w0 g c n dk wc)∧Hid (scanDown (fun x=>!Qt n h3 y x dk[a]!) dk i j0=j))
 ·go_wp2
  go_loopg [13] (j0+1-i) (fun k v wr=>∃j:Nat,v=.int .i64 (j:Nat)∧j≤j0∧i≤j+1∧k=j+1-i∧Hid (Qw w0 g c n dk wr)∧Hid (scanDown (fun x=>!Qt n h3 y x dk[a]!) dk i j0=scanDown (fun x=>!Qt n h3 y x dk[a]!) dk i j))
  ·exact⟨j0,by first|rfl|go_num,Ql _,by omega,by omega,q3,Qa rfl⟩
  obtain⟨j,rfl,c6,y4,hk,HS,HI⟩:=hrel;have Hk:=Qa hk;clear hk q3
  by_cases y5:i≤j
  ·obtain⟨z1,r2,p8⟩:(i:Int)≤j∧(j:Int)<n∧(a:Int)<n:=(by omega);obtain⟨jm,y7⟩:∃jm,jm+1=j:=⟨j-1,by omega⟩;have p7:(j:Int)-1=(jm:Int):=(by omega);obtain⟨x1,y1,r1,h9,x0,y6,y0⟩:=HC.o.test HS.o rc j a (by omega) (by omega);have x8:=Qa y0;have x9:=HS;clear y0;obtain⟨o,y2⟩:∃b,decide (r1<0)=b:=⟨_,rfl⟩;have h4:=Qa<|y6.trans y2;clear y6;go_wp2_with fail
   go_region_held3 (fun w'=>Qb [] wr w'∧w'.cell? ⟨g,j,none⟩=some (.int .i64 (x1:Int))∧w'.cell? ⟨g,a,none⟩=some (.int .i64 (y1:Int)))
    (first|exact⟨Qc _ _,h9,x0⟩|exact⟨(Qc _ _).drew,h9,x0⟩|exact⟨h5,h5.cZ h9<|by simp,h5.cZ x0<|by simp⟩)
    (first|(go_at_call 248;refine(x8.o _ (Qc [] wr).drew).mono ?_;rintro e w1⟨rfl,h5⟩))
   have x3:=Qa<|x9.o.kZ h5;rename_i y9;clear y9 h5 h9 x0 x8 x9;clear y2;cases o
   ·go_wp2_with fail;have y3:=MQ (p:=(fun x=>!Qt n h3 y x dk[a]!)) (d:=dk) (i:=i) (j:=j) (jm:=jm) y7 y5 (by first|exact h4.o|exact RI h4.o|exact RH h4.o);have HG:=Qa<|HI.o.trans y3;clear y3
    go_roundg (jm+1-i)
    ·exact⟨jm,by first|rfl|go_num,by omega,by omega,rfl,x3,HG⟩
    have:=Hk.o;omega
   go_wp2_with fail;have h8:=En (p:=(fun x=>!Qt n h3 y x dk[a]!)) (d:=dk) (i:=i) (j:=j) (fun _=>by first|exact h4.o|exact RI h4.o|exact RH h4.o);have x4:=Qa<|HI.o.trans h8;clear h8;go_meet;exact⟨j,rfl,by omega,by omega,x3,x4⟩
  have z1:¬(i:Int)≤j:=by omega
  go_wp2_with fail;go_quiet (fail);go_wp2_with fail;have h8:=En (p:=(fun x=>!Qt n h3 y x dk[a]!)) (d:=dk) (i:=i) (j:=j) fun h=>absurd h y5;have x4:=Qa<|HI.o.trans h8;clear h8;go_meet;exact⟨j,rfl,by omega,by omega,Qa<|HS.o.kZ<|(Qc _ _).drewN _,x4⟩
 obtain⟨j,rfl,b9,c4,q4,HJ⟩:=hcut;clear q3;have p3:=fK b3.o HI.o HJ.o;have p4:=OI (fun _=>rfl) HI.o HJ.o (by omega);have z6:=Qa p3;have r2:(j:Int)<n:=by omega
 have q5:=Qa p4;clear p3 p4
 by_cases y4:j<i
 ·have q9:(j:Int)<i:=by omega
  have x5:=z6.o.1 y4;have x2:=Qa x5;clear x5;go_wp2_with fail
  by_cases p1:j=a
  ·subst p1;obtain⟨u2,z7,z8,x7⟩:=q4.o.exch1 j (by omega);go_wp2_with fail
   go_region
   all_goals
    go_wp2
    go_ret2;have HX:=x7;exact p5.o false _ _ (by rw[x2.o];rfl) (by rw[x2.o];exact HX.o)
  have c5:¬a=j:=fun h=>p1 h.symm
  obtain⟨u2,v2,z7,q6,z8,q7,x7,y8⟩:=q4.o.exch j a (by omega) (by omega);go_wp2_with fail
  go_region
  all_goals
   go_wp2
   go_ret2;have HX:=(by first|exact x7|exact y8);exact p5.o false _ _ (by rw[x2.o];rfl) (by rw[x2.o];exact HX.o)
 have q9:¬(j:Int)<i:=by omega
 have x5:=z6.o.2 y4;have hlt:=q5.o y4;have r0:(i:Int)<n:=by omega
 have⟨jm,y7⟩:=qx<|j-1;have p7:(j:Int)-1=(jm:Int):=by omega
 have⟨ip,p2⟩:=qx<|i+1;have r5:(i:Int)+1=(ip:Int):=by omega
 rw[y7,p2]at x5;have x2:=Qa x5;obtain⟨c7,c8,p0⟩: ¬i=j∧¬j=i∧(a<ip∧ip≤jm+1∧jm<b∧jm+1-ip<j0+1-i0):=by omega
 clear x5 y7 p2;go_wp2_with fail;obtain⟨u2,v2,z7,q6,z8,q7,x7,y8⟩:=q4.o.exch i j (by omega) (by omega);go_wp2_with fail
 go_region
 all_goals
  go_wp2
  go_roundg (jm+1-ip)
  ·exact⟨ip,jm,_,rfl,rfl,p0.1,p0.2.1,p0.2.2.1,rfl,(by first|exact x7|exact y8),x2⟩
  have:=b4.o;omega
