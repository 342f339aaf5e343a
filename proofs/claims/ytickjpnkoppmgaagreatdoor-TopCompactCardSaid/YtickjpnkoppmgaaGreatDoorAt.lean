import Derived.Sort.LotD3
import Derived.Test.YtickjpnkoppmgaaGreatDoorAp
import Derived.Test.YtickjpnkoppmgaaGreatDoorAs
set_option linter.all false
set_option maxHeartbeats 16000000
set_option maxRecDepth 100000
namespace Go.Proofs.YtickjpnkoppmgaaGreatDoor
open Go.Proofs.Tryz Go.RowKit K Go.Sort
def Hi(w0:WD)(g c n:Nat)(lt:Nat→Nat→Bool)(d:Array Nat)(a b:Nat)(e:Ending)(w':WD):Prop:=
 e=.returned (.tuple #[])∧∃f,Qw w0 g c n f w'∧PermIn a b d f∧SortedIn lt a b f
section
variable (w0:WD) (g c n rb ro rc by_:Nat) (rank:LN)
def part_ok'(d a b e w)(f:Jm w0 g rb ro n by_ rank)(h:Qw w0 g c n d w)(i:a+12<b)(hb:b≤n)(j:a≤e)(k:e<b):
 Calls prog 301 #[.slice g n c,a,b,e,.func (.func 248) #[Jj (some ⟨rb,ro,none⟩) n rc by_] #[]] w (LO w0 g c n<|partition (Qt n rank by_) d a b e):=
 Qdb w0 g c n rb ro rc by_ rank d a b e w f h i hb j k
def parteq_ok'(d a b e w)(f:Jm w0 g rb ro n by_ rank)(h:Qw w0 g c n d w)(i:a+12<b)(hb:b≤n)(j:a≤e)(k:e<b):
 Calls prog 300 #[.slice g n c,a,b,e,.func (.func 248) #[Jj (some ⟨rb,ro,none⟩) n rc by_] #[]] w (PI w0 g c n<|partitionEqual (Qt n rank by_) d a b e):=
 Qdd w0 g c n rb ro rc by_ rank d a b e w f h i hb j k
end
def Qdi(w0 g c n rb ro rc o y K)(hC:Jm w0 g rb ro n o y)(c5:∀(a b l:Nat)(d:Array Nat)(w:WD),b-a<K→Qw w0 g c n d w→a≤b→b≤n→Go.Sort.Below (Qt n y o) a b d→l≤1000→
  Calls prog 278 #[.slice g n c,a,.int .i64 b,l,.func (.func 248) #[Jj (some ⟨rb,ro,none⟩) n rc o] #[]] w (Hi w0 g c n (Qt n y o) d a b))(A B l:Nat)(d w)(hK:B-A≤K)(hW:Qw w0 g c n d w)(b8:A≤B)(hB:B≤n)(b9:Go.Sort.Below (Qt n y o) A B d)(hl:l≤1000):
 Calls prog 278 #[.slice g n c,A,B,l,.func (.func 248) #[Jj (some ⟨rb,ro,none⟩) n rc o] #[]] w (Hi w0 g c n (Qt n y o) d A B):=by
 have d9:=hC.n9;have⟨HC,HW,q4,y8,b3⟩:=qe hC hW c5 b9 (show ∀R,PermIn A B d R→SortedIn (Qt n y o) A B R→PermIn A B d R∧SortedIn (Qt n y o) A B R from fun R h1 h2=>⟨h1,h2⟩);clear hC hW c5 b9;go_enter func278,ntmps278
 go_wp2
 go_loopg [1,2,3,10,11] (B-A) (fun k v1 v2 v3 f5 f7 wr=>∃(a b l:Nat)(dk:Array Nat)(q5 a7:Bool),v1=.int .i64 (a:Nat)∧v2=.int .i64 (b:Nat)∧v3=.int .i64 (l:Nat)∧f5=.bool q5∧f7=.bool a7∧
  a≤b∧b≤n∧b-a≤K∧l≤1000∧k=b-a∧Hid (Qw w0 g c n dk wr)∧Hid (Go.Sort.Below (Qt n y o) a b dk)∧Hid (∀R,PermIn a b dk R→SortedIn (Qt n y o) a b R→PermIn A B d R∧SortedIn (Qt n y o) A B R))
 ·exact⟨A,B,l,d,true,true,rfl,rfl,rfl,rfl,rfl,b8,hB,hK,hl,rfl,HW,y8,b3⟩
 clear HW y8 b3 hK b8 hB hl;obtain⟨a,b,l,dk,q5,a7,rfl,rfl,rfl,rfl,rfl,r4,h3,g9,hl,hk,h4,y8,y0⟩:=hrel;have Hk:=Qa hk;have⟨len,e9⟩:=qx<|b-a;obtain⟨f9,g7⟩:(b:Int)-a=(len:Int)∧a+len=b:=by omega
 clear hk e9
 by_cases e5:len≤12
 ·have g1:decide ((len:Int)≤12)=true:=by simp;omega
  have x7:=insertionSort_holds (EK n y o) dk a b r4 (by rwa[h4.o.size]);have y7:=zM w0 g c n rb ro rc o y dk a b _ HC.o h4.o r4 h3;unfold Xy at y7;have hF:=y0.o _ x7.1 x7.2;have⟨HF,HI⟩:=qb hF y7;clear x7 y7 hF;go_wp2_with fail;refine HI.o.mono ?_;rintro e w1⟨rfl,x6⟩;have h8:=Qa x6;clear x6 HI;go_wp2_with fail;refine Q5 (Cy rfl _ _ _) rfl ?_;exact⟨rfl,_,h8.o,HF.o.1,HF.o.2⟩
 have g1:decide ((len:Int)≤12)=false:=by simp;omega
 by_cases d7:l=0
 ·have x7:=heapSort_holds (EK n y o) dk a b r4 (by rwa[h4.o.size]);have y7:=yW w0 g c n rb ro rc o y dk a b _ HC.o h4.o (by omega) h3;unfold Xy at y7;have hF:=y0.o _ x7.1 x7.2;have⟨HF,HI⟩:=qb hF y7;subst d7;clear x7 y7 hF;go_wp2_with fail;refine HI.o.mono ?_;rintro e w1⟨rfl,x6⟩;have h8:=Qa x6;clear x6 HI;go_wp2_with fail;refine Q5 (Cy rfl _ _ _) rfl ?_;exact⟨rfl,_,h8.o,HF.o.1,HF.o.2⟩
 have i6:((l:Int)==0)=false:=Zb.2 (by omega);obtain⟨i7,g5⟩:1≤l∧12<len:=by omega
 clear d7 e5
 go_upto_if 39 with(fail)
 go_cut [3] (fun v wc=>∃(l2:Nat)(d1:Array Nat),v=.int .i64 (l2:Nat)∧l2≤1000∧Hid (Qw w0 g c n d1 wc)∧Hid (PermIn a b dk d1))
 ·cases q5 with
  |true=>
   go_wp2
   go_meet;exact⟨l,dk,rfl,hl,h4,Qa<|permIn_refl _ _ _⟩
  |false=>
   obtain⟨lm,i8⟩:∃lm,lm+1=l:=⟨l-1,by omega⟩;have g0:(l:Int)-1=(lm:Int):=(by omega);go_wp2_with fail;refine(sH w0 g c n _ dk a b _ h4.o (by omega) h3 d9).mono ?_;rintro e w1⟨rfl,d1,x6,c6⟩;have⟨h8,z8⟩:=qb x6 c6;clear x6 c6
   go_wp2
   go_meet;exact⟨lm,d1,rfl,by omega,h8,z8⟩
 obtain⟨l2,d1,rfl,x9,h8,z8⟩:=hcut;clear h4;go_wp2_with fail;have r9:=Qdt w0 g c n rb ro rc o y d1 a b _ HC.o h8.o (by omega) h3;unfold Xy at r9;refine r9.mono ?_;rintro e w2⟨p,r7,rfl,f2,h5,c8⟩;have r0:=Qa c8;clear c8 r9 h8
 go_upto_if 56 with(fail)
 go_cut [13,14] (fun vp vh wc=>∃(p2:Nat)(h2:Int)(d2:Array Nat),vp=.int .i64 (p2:Nat)∧vh=.int .i64 h2∧(a≤p2∧p2<b)∧Hid (Qw w0 g c n d2 wc)∧Hid (PermIn a b dk d2))
 ·by_cases h2:r7=2
  ·subst h2;have⟨q,hq⟩:=qx<|b-1-(p-a);obtain⟨g2,f3⟩:(b:Int)-1-((p:Int)-a)=(q:Int)∧(a≤q∧q<b):=(by omega);clear hq;go_wp2_with fail;refine(Qew w0 g c n _ d1 a b _ r0.o (by omega) h3 d9).mono ?_;rintro e w1⟨rfl,d2,c9,c7⟩;have⟨h9,y2⟩:=qb c9<|permIn_trans _ _ _ a b z8.o c7;clear c9 c7
   go_wp2
   go_meet;exact⟨q,1,d2,rfl,rfl,f3,h9,y2⟩
  have g6:(r7==2)=false:=Zb.2 h2;clear h2
  go_wp2
  go_meet;exact⟨p,r7,d1,rfl,rfl,⟨f2,h5⟩,r0,z8⟩
 obtain⟨p2,h2,d2,rfl,rfl,h5,h9,y2⟩:=hcut;clear r0 z8;have a8:=Qa<|Go.Sort.Below.perm y8.o (by rwa[←y2.o.1,h9.o.size]) y2.o
 go_upto_region 15 with(fail)
 go_cut [75] (fun v wc=>∃tb:Bool,v=.bool tb∧Hid (Qw w0 g c n d2 wc))
 ·cases q5 with
  |false=>
   go_wp2
   go_meet;exact⟨false,rfl,h9⟩
  |true=>
   cases a7 with
   |false=>
    go_wp2
    go_meet;exact⟨false,rfl,h9⟩
   |true=>
    have⟨hb,i1⟩:=qx<|(h2==1)
    go_wp2
    go_meet;exact⟨hb,rfl,h9⟩
 obtain⟨tb,rfl,b5⟩:=hcut;clear h9;have h9:=b5;clear b5
 go_upto_if 75 with(fail)
 go_cut [] (fun wc=>∃d3:Array Nat,Hid (Qw w0 g c n d3 wc)∧Hid (PermIn a b dk d3))
 ·cases tb with
  |false=>
   go_wp2
   go_meet;exact⟨d2,h9,y2⟩
  |true=>
   have q8:=Qds w0 g c n rb ro rc o y d2 a b _ HC.o h9.o (by omega) h3;unfold Xy at q8;have a6:=partialInsertionSort_holds (EK n y o) d2 a b (by omega) (by rwa[h9.o.size]) a8.o;obtain⟨dp,fl,hR⟩:∃dp fl,partialInsertionSort (Qt n y o) d2 a b=(dp,fl):=⟨_,_,rfl⟩;rw[hR]at q8 a6;have⟨r2,b4⟩:=qb a6 q8;clear q8 a6 hR;go_wp2_with fail;refine b4.o.mono ?_;rintro e w4⟨rfl,d0⟩;have b6:=Qa d0;clear d0 b4;cases fl with
   |false=>
    go_wp2
    go_meet;exact⟨dp,b6,Qa<|permIn_trans _ _ _ a b y2.o r2.o.1⟩
   |true=>have hF:=y0.o dp (permIn_trans _ _ _ a b y2.o r2.o.1)<|r2.o.2 rfl;have HF:=Qa hF;clear hF;go_wp2_with fail;refine Q5 (Cy rfl _ _ _) rfl ?_;exact⟨rfl,_,b6.o,HF.o.1,HF.o.2⟩
 obtain⟨d3,HS,y4⟩:=hcut;clear h9 y2 a8;have y9:=Qa<|Go.Sort.Below.perm y8.o (by rwa[←y4.o.1,HS.o.size]) y4.o;clear y8
 by_cases e6:0<a
 ·have e7:(0:Int)<a:=by omega
  have⟨am,e8⟩:=qx<|a-1;have f8:(a:Int)-1=(am:Int):=by omega
  have j1:IntKind.i64.wrap (am:Int)=(am:Int):=Q3 _ (by omega);obtain⟨g8,j0⟩:(am:Int)<n∧(p2:Int)<n:=by omega
  have h4:=HS;clear HS;obtain⟨x1,y1,r1,q6,q7,d8,d5⟩:=HC.o.test h4.o rc am p2 (by omega) (by omega);have b2:=Qa d5;have b7:=h4;clear d5;obtain⟨b1,d6⟩:∃b,decide (r1<0)=b:=⟨_,rfl⟩;have e1:=Qa<|d8.trans d6;clear d8;go_wp2_with fail
  go_region_held3 (fun w'=>Qb [] wc w'∧w'.cell? ⟨g,am,none⟩=some (.int .i64 (x1:Int))∧w'.cell? ⟨g,p2,none⟩=some (.int .i64 (y1:Int)))
   (first|exact⟨Qc _ _,q6,q7⟩|exact⟨(Qc _ _).drew,q6,q7⟩|exact⟨p5,p5.cZ q6<|by simp,p5.cZ q7<|by simp⟩)
   (first|(go_at_call 248;refine(b2.o _ (Qc [] wc).drew).mono ?_;rintro e w1⟨rfl,p5⟩))
  have h8:=Qa<|b7.o.kZ p5;rename_i x6;clear x6 p5 q6 q7 b2 b7;clear d6;cases b1
  ·go_wp2_with fail;refine(parteq_ok' w0 g c n rb ro rc o y d3 a b p2 _ HC.o h8.o (by omega) h3 h5.1 h5.2).mono ?_;rintro e w5⟨rfl,x3⟩;obtain⟨h,d4,x5⟩:∃h d4,partitionEqual (Qt n y o) d3 a b p2=(h,d4):=⟨_,_,rfl⟩;have f4:=round_eq (EK n y o) (partitionEqual_holds _) e6 h5.1 h5.2 (by rwa[h8.o.size]) y9.o (by have:=e1.o;rwa[←e8]at this) x5;rw[x5]at x3 ⊢;obtain⟨z1,r6,q3,c4,x7⟩:=f4;have⟨x8,y5,e0⟩:=qc (show ∀R,PermIn h b d4 R→SortedIn (Qt n y o) h b R→PermIn A B d R∧SortedIn (Qt n y o) A B R from fun R h1 h2=>by have:=x7 R h1 h2;exact y0.o R (permIn_trans _ _ _ a b y4.o this.1) this.2) x3 c4;clear x3 x5 q3 c4 x7 y9
   go_wp2
   go_roundg (b-h)
   ·exact⟨h,b,l2,d4,_,_,rfl,rfl,rfl,rfl,rfl,r6,h3,by omega,x9,rfl,y5,e0,x8⟩
   have:=Hk.o;omega
  have HS:=h8;go_wp2_with fail;refine(part_ok' w0 g c n rb ro rc o y d3 a b p2 _ HC.o HS.o (by omega) h3 h5.1 h5.2).mono ?_;rintro e w5⟨ap,rfl,x3⟩;obtain⟨h,p1,d4,x5⟩:∃h p1 d4,partition (Qt n y o) d3 a b p2=(h,p1,d4):=⟨_,_,_,rfl⟩;have a1:=round_part (EK n y o) (partition_holds _) h5.1 h5.2 (by rwa[HS.o.size]) y9.o x5;rw[x5]at x3 ⊢;have y5:=Qa x3;obtain⟨z1,r6,q3,p3,p4,p6,q0⟩:=a1;have⟨q9,z6,z7,p0⟩:=qd p3 p4 p6 q0;have r3:(h:Int)+1=((h+1:Nat):Int):=by omega
  have⟨m1,p9⟩:=qx<|h+1;have e3:(h:Int)+1=(m1:Int):=by omega
  rw[p9]at z6 z7 p0;have p8:m1≤b:=by omega
  have⟨ll,p7⟩:=qx<|h-a;have⟨rl,q1⟩:=qx<|b-h;obtain⟨e2,e4,f0⟩:(h:Int)-a=(ll:Int)∧(b:Int)-h=(rl:Int)∧h<m1:=by omega
  clear x3 x5 q3 p3 p4 p6 q0 r3 p9 y9
  by_cases f1:ll<rl
  ·have r5:(ll:Int)<rl:=(by omega);clear p7 q1;go_wp2_with fail;refine(q4.o a h l2 d4 _ (by omega) y5.o z1 (by omega) q9.o x9).mono ?_;rintro e w6⟨rfl,L,x4,x0,x2⟩;have hL:=z7.o L x0 x2;have⟨y3,x8,y6⟩:=qc hL.1 (show ∀R,PermIn m1 b L R→SortedIn (Qt n y o) m1 b R→PermIn A B d R∧SortedIn (Qt n y o) A B R from fun R h1 h2=>by have:=hL.2 R h1 h2;exact y0.o R (permIn_trans _ _ _ a b y4.o this.1) this.2) x4;clear hL x0 x2 x4
   go_wp2
   go_roundg (b-m1)
   ·exact⟨m1,b,l2,L,_,_,rfl,rfl,rfl,rfl,rfl,p8,h3,by omega,x9,rfl,y6,y3,x8⟩
   have:=Hk.o;omega
  have r5:¬(ll:Int)<rl:=by omega
  clear p7 q1;go_wp2_with fail;refine(q4.o m1 b l2 d4 _ (by omega) y5.o p8 h3 z6.o x9).mono ?_;rintro e w6⟨rfl,L,x4,x0,x2⟩;have hL:=p0.o L x0 x2;have⟨y3,x8,y6⟩:=qc hL.1 (show ∀R,PermIn a h L R→SortedIn (Qt n y o) a h R→PermIn A B d R∧SortedIn (Qt n y o) A B R from fun R h1 h2=>by have:=hL.2 R h1 h2;exact y0.o R (permIn_trans _ _ _ a b y4.o this.1) this.2) x4;clear hL x0 x2 x4
  go_wp2
  go_roundg (h-a)
  ·exact⟨a,h,l2,L,_,_,rfl,rfl,rfl,rfl,rfl,z1,by omega,by omega,x9,rfl,y6,y3,x8⟩
  have:=Hk.o;omega
 have e7:¬(0:Int)<a:=by omega
 go_wp2_with fail;go_quiet (fail);have h4:=Qa<|HS.o.kZ<|(Qc [] wc).drewN nq;clear HS;generalize wc.drewN nq=w1 at h4 ⊢;have HS:=h4;clear h4;go_wp2_with fail;refine(part_ok' w0 g c n rb ro rc o y d3 a b p2 _ HC.o HS.o (by omega) h3 h5.1 h5.2).mono ?_;rintro e w5⟨ap,rfl,x3⟩;obtain⟨h,p1,d4,x5⟩:∃h p1 d4,partition (Qt n y o) d3 a b p2=(h,p1,d4):=⟨_,_,_,rfl⟩;have a1:=round_part (EK n y o) (partition_holds _) h5.1 h5.2 (by rwa[HS.o.size]) y9.o x5;rw[x5]at x3 ⊢;have y5:=Qa x3;obtain⟨z1,r6,q3,p3,p4,p6,q0⟩:=a1;have⟨q9,z6,z7,p0⟩:=qd p3 p4 p6 q0;have r3:(h:Int)+1=((h+1:Nat):Int):=by omega
 have⟨m1,p9⟩:=qx<|h+1;have e3:(h:Int)+1=(m1:Int):=by omega
 rw[p9]at z6 z7 p0;have p8:m1≤b:=by omega
 have⟨ll,p7⟩:=qx<|h-a;have⟨rl,q1⟩:=qx<|b-h;obtain⟨e2,e4,f0⟩:(h:Int)-a=(ll:Int)∧(b:Int)-h=(rl:Int)∧h<m1:=by omega
 clear x3 x5 q3 p3 p4 p6 q0 r3 p9 y9
 by_cases f1:ll<rl
 ·have r5:(ll:Int)<rl:=by omega
  clear p7 q1;go_wp2_with fail;refine(q4.o a h l2 d4 _ (by omega) y5.o z1 (by omega) q9.o x9).mono ?_;rintro e w6⟨rfl,L,x4,x0,x2⟩;have hL:=z7.o L x0 x2;have⟨y3,x8,y6⟩:=qc hL.1 (show ∀R,PermIn m1 b L R→SortedIn (Qt n y o) m1 b R→PermIn A B d R∧SortedIn (Qt n y o) A B R from fun R h1 h2=>by have:=hL.2 R h1 h2;exact y0.o R (permIn_trans _ _ _ a b y4.o this.1) this.2) x4;clear hL x0 x2 x4
  go_wp2
  go_roundg (b-m1)
  ·exact⟨m1,b,l2,L,_,_,rfl,rfl,rfl,rfl,rfl,p8,h3,by omega,x9,rfl,y6,y3,x8⟩
  have:=Hk.o;omega
 have r5:¬(ll:Int)<rl:=by omega
 clear p7 q1;go_wp2_with fail;refine(q4.o m1 b l2 d4 _ (by omega) y5.o p8 h3 z6.o x9).mono ?_;rintro e w6⟨rfl,L,x4,x0,x2⟩;have hL:=p0.o L x0 x2;have⟨y3,x8,y6⟩:=qc hL.1 (show ∀R,PermIn a h L R→SortedIn (Qt n y o) a h R→PermIn A B d R∧SortedIn (Qt n y o) A B R from fun R h1 h2=>by have:=hL.2 R h1 h2;exact y0.o R (permIn_trans _ _ _ a b y4.o this.1) this.2) x4;clear hL x0 x2 x4
 go_wp2
 go_roundg (h-a)
 ·exact⟨a,h,l2,L,_,_,rfl,rfl,rfl,rfl,rfl,z1,by omega,by omega,x9,rfl,y6,y3,x8⟩
 have:=Hk.o;omega
def fM(w0 g c n i j k e f)(m:Jm w0 g i j n e f):∀(K a b l:Nat)(d:Array Nat)(w:WD),b-a<K→Qw w0 g c n d w→a≤b→b≤n→Go.Sort.Below (Qt n f e) a b d→l≤1000→
 Calls prog 278 #[.slice g n c,a,b,l,.func (.func 248) #[Jj (some ⟨i,j,none⟩) n k e] #[]] w (Hi w0 g c n (Qt n f e) d a b)
 |0,a,b,l,d,w,h,_,_,_,_,_=>absurd h<|Nat.not_lt_zero _
 |K+1,a,b,l,d,w,h,hW,hab,hb,hB,hl=>Qdi w0 g c n i j k e f K m (fM w0 g c n i j k e f m K) a b l d w (by omega) hW hab hb hB hl
def Qgo(n)(a:n≤1000000):LX n:=by
 intro g f k m l e j h d a c;have:=c.size;have i:∀b:WD,Qb [] d b→∀d:Nat,d≤1000→Calls prog 278 #[.slice g n f,(0:Int),n,d,Xy (some ⟨k,m,none⟩) n l e] b (Hi b g f n (Qt n j e) h 0 n):=by intro b hk d o;exact fM b g f n k m l e j ⟨a.sees.kZ hk,a.len,a.small,a.n9,a.by12,a.ne⟩ (n+1) 0 n d h b (by omega) ⟨c.row.kept hk<|by simp,c.size,c.lt,Qc _ _⟩ (ZF _) (Ql _) (.inl rfl) o
 have d:=Qa i;have:IntKind.u64.wrap (n:Int)=(n:Int):=by rw[JH];omega
 have e:Lib.bitLen n≤1000:=by
  rcases V9 n with h0|h0
  ·subst h0;decide+kernel
  have:=TF n (by omega) (by omega);rcases Xq (Lib.bitLen n) 32 with b|b
  ·omega
  have:=Jc (n:=2) (by decide) b;omega
 clear a c i;go_enter func247,ntmps247;go_wp2_with fail;refine(cG n _<|by omega).mono ?_;rintro c a⟨rfl,rfl⟩;have b:=Qa<|Qc [] a;go_wp2_with fail;refine(d.o a b.o _ e).mono ?_;rintro c a⟨rfl,h,e,c,d⟩;have⟨a,f,g⟩:=qc e c d;clear e c d
 go_wp2
 go_end0
 exact⟨rfl,h,⟨a.o.row,a.o.size,a.o.lt,(b.o.mono<|by simp).trans a.o.kept<|by simp⟩,f.o,g.o⟩
