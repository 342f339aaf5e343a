import Derived.Test.YtickjpnkoppmgaaGreatDoorAr
set_option linter.all false
namespace Go.Proofs.YtickjpnkoppmgaaGreatDoor
open Go.Proofs.Tryz Go.RowKit K Go.Sort
def SV(w0:WD)(g c n:Nat)(R:Nat × Array Nat)(e:Ending)(w':WD):Prop:=e=.returned (R.1:Nat)/\Qz w0 g c n R.2 w'
def zB{lt a i j i2 e}{d:Array Nat}{R}(c:partEqLoop lt a i j d=R)(g:scanUp (fun x=>!lt d[a]! x) d j i=i2)(h:scanDown (fun x=>lt d[a]! x) d i2 j=e):
 (e<i2->R=(i2,d))/\(¬e<i2->partEqLoop lt a (i2+1) (e-1) (swp d i2 e)=R):=by
 rw[partEqLoop_eq,g,h]at c;constructor
 ·intro e;rw[Qg e]at c;exact c.symm
 intro e;rwa[Qf e]at c
set_option maxRecDepth 100000 in
set_option maxHeartbeats 16000000 in
def Qfv(w0 g c n rb ro rc q y d a b h4 w)(hC:JN w0 g rb ro n q y)(hW:Qz w0 g c n d w)(a7:a+12<b)(hb:b<=n)(c9:a<=h4)(d0:h4<b):
 Calls prog 300 #[.slice g n c,a,.int .i64 b,h4,XL (some ⟨rb,ro,none⟩) n rc q] w (SV w0 g c n<|partitionEqual (Qv n y q) d a b h4):=by
 have c6:=hC.n9;have⟨HC,HW⟩:=qb hC hW;have⟨b1,p2⟩:=qx<|b-1;have⟨a1,p0⟩:=qx<|a+1;have⟨D1,y7⟩:=qx<|swp d a h4;have⟨R,hR⟩:=qx<|partEqLoop (Qv n y q) a a1 b1 D1;have p3:partitionEqual (Qv n y q) d a b h4=R:=by unfold partitionEqual;rw[p0,p2,y7,hR]
 rw[p3];have⟨HR,z6⟩:=qb hR y7;obtain⟨eb,ea,p1,d1,b2,a6⟩:(b:Int)-1=(b1:Int)/\(a:Int)+1=(a1:Int)/\(a:Int)<n/\(h4:Int)<n/\b1+1=b/\a+1=a1:=ox
 clear hC hW p3 hR y7 p2 p0;unfold XL;go_enter func300,ntmps300
 go_upto_region 1 with(fail)
 go_cut [] (fun wc=>Hid<|Qz w0 g c n D1 wc)
 ·by_cases p4:a=h4
  ·subst p4;obtain⟨u1,q5,q7,y4⟩:=HW.o.exch1 a ox;go_wp2_with fail
   go_region
   all_goals
    go_wp2
    go_meet;have HX:=y4;rw[z6.o]at HX;exact HX
  have c4:¬h4=a:=fun h=>p4 h.symm
  obtain⟨u1,v1,q5,r3,q7,r7,y4,p9⟩:=HW.o.exch a h4 ox ox;go_wp2_with fail
  go_region
  all_goals
   go_wp2
   go_meet;have HX:=(by first|exact y4|exact p9);rw[z6.o]at HX;exact HX
 have h9:=hcut;clear HW hcut
 go_wp2
 go_loopg [11,12] (b1+1-a1) (fun k v u wr=>∃(i j:Nat)(dk:Array Nat),v=.int .i64 (i:Nat)/\u=.int .i64 (j:Nat)/\a<i/\i<=j+1/\j<b/\k=j+1-i/\Hid (Qz w0 g c n dk wr)/\Hid (partEqLoop (Qv n y q) a i j dk=R))
 ·exact⟨a1,b1,_,rfl,rfl,ox,ox,ox,rfl,h9,HR⟩
 clear h9 HR ea eb;obtain⟨i0,o,dk,rfl,rfl,a8,b6,b9,hk,y5,q1⟩:=hrel;have q4:=Qa hk;clear hk
 go_upto_block 2 with fail
 go_cut [11] (fun v wc=>∃i:Nat,v=.int .i64 (i:Nat)/\i0<=i/\i<=o+1/\Hid (Qz w0 g c n dk wc)/\Hid (scanUp (fun x=>!Qv n y q dk[a]! x) dk o i0=i))
 ·go_wp2
  go_loopg [11] (o+1-i0) (fun k v wr=>∃i:Nat,v=.int .i64 (i:Nat)/\i0<=i/\i<=o+1/\k=o+1-i/\Hid (Qz w0 g c n dk wr)/\Hid (scanUp (fun x=>!Qv n y q dk[a]! x) dk o i0=scanUp (fun x=>!Qv n y q dk[a]! x) dk o i))
  ·exact⟨i0,by first|rfl|go_num,Qk _,ox,ox,y5,Qa rfl⟩
  obtain⟨i,rfl,b5,x8,hk,HS,HI⟩:=hrel;have Hk:=Qa hk;clear hk y5
  by_cases x9:i<=o
  ·obtain⟨z1,q9,p1⟩:(i:Int)<=o/\(i:Int)<n/\(a:Int)<n:=ox;obtain⟨x1,y1,r1,h5,h8,y0,x5⟩:=HC.o.test HS.o rc a i ox ox;have x3:=Qa x5;have x4:=HS;clear x5;obtain⟨b1,x6⟩:∃b,decide (r1<0)=b:=⟨_,rfl⟩;have h1:=Qa<|y0.trans x6;clear y0;go_wp2_with fail
   go_region_held3 (fun w'=>Qb [] wr w'/\w'.cell? ⟨g,a,none⟩=some (.int .i64 (x1:Int))/\w'.cell? ⟨g,i,none⟩=some (.int .i64 (y1:Int)))
    (first|exact⟨Qc _ _,h5,h8⟩|exact⟨(Qc _ _).drew,h5,h8⟩|exact⟨h2,h2.cZ h5 sx,h2.cZ h8 sx⟩)
    (first|(go_fit(x3.o _ (Qc [] wr).drew);rintro e w1⟨rfl,h2⟩))
   have h9:=Qa<|x4.o.kZ h2;rename_i y8;clear y8 h2 h5 h8 x3 x4;clear x6;cases b1
   ·go_wp2_with fail;have x7:=Sz (p:=(fun x=>!Qv n y q dk[a]! x)) (d:=dk) (j:=o) (i:=i) x9 (by first|exact h1.o|exact Ah h1.o|exact Ag h1.o);have HG:=Qa<|HI.o.trans x7;clear x7
    go_roundg (o+1-(i+1))
    ·exact⟨i+1,by go_num,ox,ox,rfl,h9,HG⟩
    have:=Hk.o;omega
   go_wp2_with fail;have h3:=FG (p:=(fun x=>!Qv n y q dk[a]! x)) (d:=dk) (j:=o) (i:=i) (fun _=>by first|exact h1.o|exact Ah h1.o|exact Ag h1.o);have x0:=Qa<|HI.o.trans h3;clear h3;go_meet;exact⟨i,rfl,ox,ox,h9,x0⟩
  have z1:¬(i:Int)<=o:=ox
  go_wp2_with fail;go_quiet (fail);go_wp2_with fail;have h3:=FG (p:=(fun x=>!Qv n y q dk[a]! x)) (d:=dk) (j:=o) (i:=i) fun h=>absurd h x9;have x0:=Qa<|HI.o.trans h3;clear h3;go_meet;exact⟨i,rfl,ox,ox,Qa<|HS.o.kZ<|(Qc _ _).drewN _,x0⟩
 obtain⟨i,rfl,b3,b4,y6,HI⟩:=hcut;clear y5
 go_upto_block 4 with fail
 go_cut [12] (fun v wc=>∃j:Nat,v=.int .i64 (j:Nat)/\j<=o/\i<=j+1/\Hid (Qz w0 g c n dk wc)/\Hid (scanDown (fun x=>Qv n y q dk[a]! x) dk i o=j))
 ·go_wp2
  go_loopg [12] (o+1-i) (fun k v wr=>∃j:Nat,v=.int .i64 (j:Nat)/\j<=o/\i<=j+1/\k=j+1-i/\Hid (Qz w0 g c n dk wr)/\Hid (scanDown (fun x=>Qv n y q dk[a]! x) dk i o=scanDown (fun x=>Qv n y q dk[a]! x) dk i j))
  ·exact⟨o,by first|rfl|go_num,Qk _,ox,ox,y6,Qa rfl⟩
  obtain⟨j,rfl,c5,x8,hk,HS,HI⟩:=hrel;have Hk:=Qa hk;clear hk y6
  by_cases x9:i<=j
  ·obtain⟨z1,r0,p1⟩:(i:Int)<=j/\(j:Int)<n/\(a:Int)<n:=ox;obtain⟨jm,y3⟩:∃jm,jm+1=j:=⟨j-1,ox⟩;have q6:(j:Int)-1=(jm:Int):=ox;obtain⟨x1,y1,r1,h5,h8,y0,x5⟩:=HC.o.test HS.o rc a j ox ox;have x3:=Qa x5;have x4:=HS;clear x5;obtain⟨b1,x6⟩:∃b,decide (r1<0)=b:=⟨_,rfl⟩;have h1:=Qa<|y0.trans x6;clear y0;go_wp2_with fail
   go_region_held3 (fun w'=>Qb [] wr w'/\w'.cell? ⟨g,a,none⟩=some (.int .i64 (x1:Int))/\w'.cell? ⟨g,j,none⟩=some (.int .i64 (y1:Int)))
    (first|exact⟨Qc _ _,h5,h8⟩|exact⟨(Qc _ _).drew,h5,h8⟩|exact⟨h2,h2.cZ h5 sx,h2.cZ h8 sx⟩)
    (first|(go_fit(x3.o _ (Qc [] wr).drew);rintro e w1⟨rfl,h2⟩))
   have h9:=Qa<|x4.o.kZ h2;rename_i y8;clear y8 h2 h5 h8 x3 x4;clear x6;cases b1
   ·go_wp2_with fail;have h3:=Fa (p:=(fun x=>Qv n y q dk[a]! x)) (d:=dk) (i:=i) (j:=j) (fun _=>by first|exact h1.o|exact Ah h1.o|exact Ag h1.o);have x0:=Qa<|HI.o.trans h3;clear h3;go_meet;exact⟨j,rfl,ox,ox,h9,x0⟩
   go_wp2_with fail;have x7:=NX (p:=(fun x=>Qv n y q dk[a]! x)) (d:=dk) (i:=i) (j:=j) (jm:=jm) y3 x9 (by first|exact h1.o|exact Ah h1.o|exact Ag h1.o);have HG:=Qa<|HI.o.trans x7;clear x7
   go_roundg (jm+1-i)
   ·exact⟨jm,by first|rfl|go_num,ox,ox,rfl,h9,HG⟩
   have:=Hk.o;omega
  have z1:¬(i:Int)<=j:=ox
  go_wp2_with fail;go_quiet (fail);go_wp2_with fail;have h3:=Fa (p:=(fun x=>Qv n y q dk[a]! x)) (d:=dk) (i:=i) (j:=j) fun h=>absurd h x9;have x0:=Qa<|HI.o.trans h3;clear h3;go_meet;exact⟨j,rfl,ox,ox,Qa<|HS.o.kZ<|(Qc _ _).drewN _,x0⟩
 obtain⟨j,rfl,b7,b8,z8,HJ⟩:=hcut;clear y6;have p6:=zB q1.o HI.o HJ.o;have p7:=PX (fun _=>(Bool.not_not _).symm) HI.o HJ.o ox;have z7:=Qa p6;have r0:(j:Int)<n:=ox
 have q3:=Qa p7;clear p6 p7
 by_cases x8:j<i
 ·have q8:(j:Int)<i:=ox
  have x2:=z7.o.1 x8;have y2:=Qa x2;clear x2
  go_wp2
  go_ret;exact⟨by rw[y2.o];rfl,by rw[y2.o];exact z8.o⟩
 have q8:¬(j:Int)<i:=ox
 have x2:=z7.o.2 x8;have hlt:=q3.o x8;have q9:(i:Int)<n:=ox
 have⟨jm,y3⟩:=qx<|j-1;have q6:(j:Int)-1=(jm:Int):=ox
 have⟨ip,p5⟩:=qx<|i+1;have r5:(i:Int)+1=(ip:Int):=ox
 rw[y3,p5]at x2;have y2:=Qa x2;obtain⟨c7,c8,y9⟩: ¬i=j/\¬j=i/\(a<ip/\ip<=jm+1/\jm<b/\jm+1-ip<o+1-i0):=ox
 clear x2 y3 p5;go_wp2_with fail;obtain⟨u2,v2,r2,r4,r6,r9,p8,q0⟩:=z8.o.exch i j ox ox;go_wp2_with fail
 go_region
 all_goals
  go_wp2
  go_roundg (jm+1-ip)
  ·exact⟨ip,jm,_,rfl,rfl,y9.1,y9.2.1,y9.2.2.1,rfl,(by first|exact p8|exact q0),y2⟩
  have:=q4.o;omega
