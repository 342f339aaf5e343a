import Derived.Sort.LotD3
import Derived.Test.YtickjpnkoppmgaaGreatDoorAp
import Derived.Test.YtickjpnkoppmgaaGreatDoorAs
set_option linter.all false
set_option maxHeartbeats 16000000
set_option maxRecDepth 100000
namespace Go.Proofs.YtickjpnkoppmgaaGreatDoor
open Go.Proofs.Tryz Go.RowKit K Go.Sort
def II(w0:WD)(g c n:Nat)(lt:Nat->Nat->Bool)(d:Array Nat)(a b:Nat)(e:Ending)(w':WD):Prop:=
 e=.returned (.tuple #[])/\∃h,Qz w0 g c n h w'/\PermIn a b d h/\SortedIn lt a b h
section
variable (w0:WD) (g c n rb ro rc by_:Nat) (rank:LN)
def part_ok'(d a b e w)(h:JN w0 g rb ro n by_ rank)(i:Qz w0 g c n d w)(j:a+12<b)(hb:b<=n)(l:a<=e)(m:e<b):
 Calls prog 301 #[.slice g n c,a,b,e,.func (.func 248) #[JJ (some ⟨rb,ro,none⟩) n rc by_] #[]] w (MU w0 g c n<|partition (Qv n rank by_) d a b e):=
 Qft w0 g c n rb ro rc by_ rank d a b e w h i j hb l m
def parteq_ok'(d a b e w)(h:JN w0 g rb ro n by_ rank)(i:Qz w0 g c n d w)(j:a+12<b)(hb:b<=n)(l:a<=e)(m:e<b):
 Calls prog 300 #[.slice g n c,a,b,e,.func (.func 248) #[JJ (some ⟨rb,ro,none⟩) n rc by_] #[]] w (SV w0 g c n<|partitionEqual (Qv n rank by_) d a b e):=
 Qfv w0 g c n rb ro rc by_ rank d a b e w h i j hb l m
end
def Qf0(w0 g c n rb ro rc y h3 K)(hC:JN w0 g rb ro n y h3)(c6:∀(a b l:Nat)(d:Array Nat)(w:WD),b-a<K->Qz w0 g c n d w->a<=b->b<=n->Go.Sort.Below (Qv n h3 y) a b d->l<=1000->
  Calls prog 278 #[.slice g n c,a,.int .i64 b,l,.func (.func 248) #[JJ (some ⟨rb,ro,none⟩) n rc y] #[]] w (II w0 g c n (Qv n h3 y) d a b))(A B l:Nat)(d w)(hK:B-A<=K)(hW:Qz w0 g c n d w)(b9:A<=B)(hB:B<=n)(c4:Go.Sort.Below (Qv n h3 y) A B d)(hl:l<=1000):
 Calls prog 278 #[.slice g n c,A,B,l,.func (.func 248) #[JJ (some ⟨rb,ro,none⟩) n rc y] #[]] w (II w0 g c n (Qv n h3 y) d A B):=by
 have e0:=hC.n9;have⟨HC,HW,q5,y9,b4⟩:=qe hC hW c6 c4 (show ∀R,PermIn A B d R->SortedIn (Qv n h3 y) A B R->PermIn A B d R/\SortedIn (Qv n h3 y) A B R from fun R h1 h2=>⟨h1,h2⟩);clear hC hW c6 c4;go_enter func278,ntmps278
 go_wp2
 go_loopg [1,2,3,10,11] (B-A) (fun k v1 v2 v3 f7 f8 wr=>∃(a b l:Nat)(dk:Array Nat)(q6 a8:Bool),v1=.int .i64 (a:Nat)/\v2=.int .i64 (b:Nat)/\v3=.int .i64 (l:Nat)/\f7=.bool q6/\f8=.bool a8/\
  a<=b/\b<=n/\b-a<=K/\l<=1000/\k=b-a/\Hid (Qz w0 g c n dk wr)/\Hid (Go.Sort.Below (Qv n h3 y) a b dk)/\Hid (∀R,PermIn a b dk R->SortedIn (Qv n h3 y) a b R->PermIn A B d R/\SortedIn (Qv n h3 y) A B R))
 ·exact⟨A,B,l,d,true,true,rfl,rfl,rfl,rfl,rfl,b9,hB,hK,hl,rfl,HW,y9,b4⟩
 clear HW y9 b4 hK b9 hB hl;obtain⟨a,b,l,dk,q6,a8,rfl,rfl,rfl,rfl,rfl,r5,h4,i6,hl,hk,h5,y9,y2⟩:=hrel;have Hk:=Qa hk;have⟨len,f0⟩:=qx<|b-a;obtain⟨g0,g9⟩:(b:Int)-a=(len:Int)/\a+len=b:=ox
 clear hk f0
 by_cases e6:len<=12
 ·have g1:decide ((len:Int)<=12)=true:=zx
  have x8:=insertionSort_holds (FA n h3 y) dk a b r5 (by rwa[h5.o.size]);have y8:=Qce w0 g c n rb ro rc y h3 dk a b _ HC.o h5.o r5 h4;unfold XL at y8;have hF:=y2.o _ x8.1 x8.2;have⟨HF,HI⟩:=qb hF y8;clear x8 y8 hF;go_wp2_with fail;go_fit HI.o;rintro e w1⟨rfl,x7⟩;have h9:=Qa x7;clear x7 HI;go_wp2_with fail;refine Zj (Dj rfl _ _ _) rfl ?_;exact⟨rfl,_,h9.o,HF.o.1,HF.o.2⟩
 have g1:decide ((len:Int)<=12)=false:=zx
 by_cases d8:l=0
 ·have x8:=heapSort_holds (FA n h3 y) dk a b r5 (by rwa[h5.o.size]);have y8:=Qbz w0 g c n rb ro rc y h3 dk a b _ HC.o h5.o ox h4;unfold XL at y8;have hF:=y2.o _ x8.1 x8.2;have⟨HF,HI⟩:=qb hF y8;subst d8;clear x8 y8 hF;go_wp2_with fail;go_fit HI.o;rintro e w1⟨rfl,x7⟩;have h9:=Qa x7;clear x7 HI;go_wp2_with fail;refine Zj (Dj rfl _ _ _) rfl ?_;exact⟨rfl,_,h9.o,HF.o.1,HF.o.2⟩
 have i8:((l:Int)==0)=false:=Ze.2 ox;obtain⟨j0,g6⟩:1<=l/\12<len:=ox
 clear d8 e6
 go_upto_if 39 with(fail)
 go_cut [3] (fun v wc=>∃(l2:Nat)(d1:Array Nat),v=.int .i64 (l2:Nat)/\l2<=1000/\Hid (Qz w0 g c n d1 wc)/\Hid (PermIn a b dk d1))
 ·cases q6 with
  |true=>
   go_wp2
   go_meet;exact⟨l,dk,rfl,hl,h5,Qa<|permIn_refl _ _ _⟩
  |false=>
   obtain⟨lm,j1⟩:∃lm,lm+1=l:=⟨l-1,ox⟩;have g2:(l:Int)-1=(lm:Int):=ox;go_wp2_with fail;go_fit(vN w0 g c n _ dk a b _ h5.o ox h4 e0);rintro e w1⟨rfl,d1,x7,c7⟩;have⟨h9,p0⟩:=qb x7 c7;clear x7 c7
   go_wp2
   go_meet;exact⟨lm,d1,rfl,ox,h9,p0⟩
 obtain⟨l2,d1,rfl,y0,h9,p0⟩:=hcut;clear h5;go_wp2_with fail;have a1:=Qgb w0 g c n rb ro rc y h3 d1 a b _ HC.o h9.o ox h4;unfold XL at a1;go_fit a1;rintro e w2⟨p,r9,rfl,f3,h8,c9⟩;have r2:=Qa c9;clear c9 a1 h9
 go_upto_if 56 with(fail)
 go_cut [13,14] (fun vp vh wc=>∃(p2:Nat)(h2:Int)(d2:Array Nat),vp=.int .i64 (p2:Nat)/\vh=.int .i64 h2/\(a<=p2/\p2<b)/\Hid (Qz w0 g c n d2 wc)/\Hid (PermIn a b dk d2))
 ·by_cases h2:r9=2
  ·subst h2;have⟨q,hq⟩:=qx<|b-1-(p-a);obtain⟨g5,f4⟩:(b:Int)-1-((p:Int)-a)=(q:Int)/\(a<=q/\q<b):=ox;clear hq;go_wp2_with fail;go_fit(Qhd w0 g c n _ d1 a b _ r2.o ox h4 e0);rintro e w1⟨rfl,d2,d0,c8⟩;have⟨x0,y3⟩:=qb d0<|permIn_trans _ _ _ a b p0.o c8;clear d0 c8
   go_wp2
   go_meet;exact⟨q,1,d2,rfl,rfl,f4,x0,y3⟩
  have g7:(r9==2)=false:=Ze.2 h2;clear h2
  go_wp2
  go_meet;exact⟨p,r9,d1,rfl,rfl,⟨f3,h8⟩,r2,p0⟩
 obtain⟨p2,h2,d2,rfl,rfl,h8,x0,y3⟩:=hcut;clear r2 p0;have b2:=Qa<|Go.Sort.Below.perm y9.o (by rwa[<-y3.o.1,x0.o.size]) y3.o
 go_upto_region 15 with(fail)
 go_cut [75] (fun v wc=>∃tb:Bool,v=.bool tb/\Hid (Qz w0 g c n d2 wc))
 ·cases q6 with
  |false=>
   go_wp2
   go_meet;exact⟨false,rfl,x0⟩
  |true=>
   cases a8 with
   |false=>
    go_wp2
    go_meet;exact⟨false,rfl,x0⟩
   |true=>
    have⟨hb,i7⟩:=qx<|(h2==1)
    go_wp2
    go_meet;exact⟨hb,rfl,x0⟩
 obtain⟨tb,rfl,b6⟩:=hcut;clear x0;have x0:=b6;clear b6
 go_upto_if 75 with(fail)
 go_cut [] (fun wc=>∃d3:Array Nat,Hid (Qz w0 g c n d3 wc)/\Hid (PermIn a b dk d3))
 ·cases tb with
  |false=>
   go_wp2
   go_meet;exact⟨d2,x0,y3⟩
  |true=>
   have q9:=Qga w0 g c n rb ro rc y h3 d2 a b _ HC.o x0.o ox h4;unfold XL at q9;have a7:=partialInsertionSort_holds (FA n h3 y) d2 a b ox (by rwa[x0.o.size]) b2.o;obtain⟨dp,fl,hR⟩:∃dp fl,partialInsertionSort (Qv n h3 y) d2 a b=(dp,fl):=⟨_,_,rfl⟩;rw[hR]at q9 a7;have⟨r3,b5⟩:=qb a7 q9;clear q9 a7 hR;go_wp2_with fail;go_fit b5.o;rintro e w4⟨rfl,d5⟩;have b7:=Qa d5;clear d5 b5;cases fl with
   |false=>
    go_wp2
    go_meet;exact⟨dp,b7,Qa<|permIn_trans _ _ _ a b y3.o r3.o.1⟩
   |true=>have hF:=y2.o dp (permIn_trans _ _ _ a b y3.o r3.o.1)<|r3.o.2 rfl;have HF:=Qa hF;clear hF;go_wp2_with fail;refine Zj (Dj rfl _ _ _) rfl ?_;exact⟨rfl,_,b7.o,HF.o.1,HF.o.2⟩
 obtain⟨d3,HS,y5⟩:=hcut;clear x0 y3 b2;have z1:=Qa<|Go.Sort.Below.perm y9.o (by rwa[<-y5.o.1,HS.o.size]) y5.o;clear y9
 by_cases e7:0<a
 ·have e8:(0:Int)<a:=ox
  have⟨am,e9⟩:=qx<|a-1;have f9:(a:Int)-1=(am:Int):=ox
  have j3:IntKind.i64.wrap (am:Int)=(am:Int):=Za _ ox;obtain⟨i1,j2⟩:(am:Int)<n/\(p2:Int)<n:=ox
  have h5:=HS;clear HS;obtain⟨x1,y1,r1,q7,q8,d9,d6⟩:=HC.o.test h5.o rc am p2 ox ox;have b3:=Qa d6;have b8:=h5;clear d6;obtain⟨b1,d7⟩:∃b,decide (r1<0)=b:=⟨_,rfl⟩;have e2:=Qa<|d9.trans d7;clear d9;go_wp2_with fail
  go_region_held3 (fun w'=>Qb [] wc w'/\w'.cell? ⟨g,am,none⟩=some (.int .i64 (x1:Int))/\w'.cell? ⟨g,p2,none⟩=some (.int .i64 (y1:Int)))
   (first|exact⟨Qc _ _,q7,q8⟩|exact⟨(Qc _ _).drew,q7,q8⟩|exact⟨p6,p6.cZ q7 sx,p6.cZ q8 sx⟩)
   (first|(go_fit(b3.o _ (Qc [] wc).drew);rintro e w1⟨rfl,p6⟩))
  have h9:=Qa<|b8.o.kZ p6;rename_i x7;clear x7 p6 q7 q8 b3 b8;clear d7;cases b1
  ·go_wp2_with fail;go_fit(parteq_ok' w0 g c n rb ro rc y h3 d3 a b p2 _ HC.o h9.o ox h4 h8.1 h8.2);rintro e w5⟨rfl,x4⟩;obtain⟨o,d4,x6⟩:∃o d4,partitionEqual (Qv n h3 y) d3 a b p2=(o,d4):=⟨_,_,rfl⟩;have f5:=round_eq (FA n h3 y) (partitionEqual_holds _) e7 h8.1 h8.2 (by rwa[h9.o.size]) z1.o (by have:=e2.o;rwa[<-e9]at this) x6;rw[x6]at x4 ⊢;obtain⟨z6,r7,q4,c5,x8⟩:=f5;have⟨x9,y6,e1⟩:=qc (show ∀R,PermIn o b d4 R->SortedIn (Qv n h3 y) o b R->PermIn A B d R/\SortedIn (Qv n h3 y) A B R from fun R h1 h2=>by have:=x8 R h1 h2;exact y2.o R (permIn_trans _ _ _ a b y5.o this.1) this.2) x4 c5;clear x4 x6 q4 c5 x8 z1
   go_wp2
   go_roundg (b-o)
   ·exact⟨o,b,l2,d4,_,_,rfl,rfl,rfl,rfl,rfl,r7,h4,ox,y0,rfl,y6,e1,x9⟩
   have:=Hk.o;omega
  have HS:=h9;go_wp2_with fail;go_fit(part_ok' w0 g c n rb ro rc y h3 d3 a b p2 _ HC.o HS.o ox h4 h8.1 h8.2);rintro e w5⟨ap,rfl,x4⟩;obtain⟨o,p3,d4,x6⟩:∃o p3 d4,partition (Qv n h3 y) d3 a b p2=(o,p3,d4):=⟨_,_,_,rfl⟩;have a6:=round_part (FA n h3 y) (partition_holds _) h8.1 h8.2 (by rwa[HS.o.size]) z1.o x6;rw[x6]at x4 ⊢;have y6:=Qa x4;obtain⟨z6,r7,q4,p4,p5,p7,q1⟩:=a6;have⟨r0,z7,z8,p1⟩:=qd p4 p5 p7 q1;have r4:(o:Int)+1=((o+1:Nat):Int):=ox
  have⟨m1,q0⟩:=qx<|o+1;have e4:(o:Int)+1=(m1:Int):=ox
  rw[q0]at z7 z8 p1;have p9:m1<=b:=ox
  have⟨ll,p8⟩:=qx<|o-a;have⟨rl,q3⟩:=qx<|b-o;obtain⟨e3,e5,f1⟩:(o:Int)-a=(ll:Int)/\(b:Int)-o=(rl:Int)/\o<m1:=ox
  clear x4 x6 q4 p4 p5 p7 q1 r4 q0 z1
  by_cases f2:ll<rl
  ·have r6:(ll:Int)<rl:=ox;clear p8 q3;go_wp2_with fail;go_fit(q5.o a o l2 d4 _ ox y6.o z6 ox r0.o y0);rintro e w6⟨rfl,L,x5,x2,x3⟩;have hL:=z8.o L x2 x3;have⟨y4,x9,y7⟩:=qc hL.1 (show ∀R,PermIn m1 b L R->SortedIn (Qv n h3 y) m1 b R->PermIn A B d R/\SortedIn (Qv n h3 y) A B R from fun R h1 h2=>by have:=hL.2 R h1 h2;exact y2.o R (permIn_trans _ _ _ a b y5.o this.1) this.2) x5;clear hL x2 x3 x5
   go_wp2
   go_roundg (b-m1)
   ·exact⟨m1,b,l2,L,_,_,rfl,rfl,rfl,rfl,rfl,p9,h4,ox,y0,rfl,y7,y4,x9⟩
   have:=Hk.o;omega
  have r6:¬(ll:Int)<rl:=ox
  clear p8 q3;go_wp2_with fail;go_fit(q5.o m1 b l2 d4 _ ox y6.o p9 h4 z7.o y0);rintro e w6⟨rfl,L,x5,x2,x3⟩;have hL:=p1.o L x2 x3;have⟨y4,x9,y7⟩:=qc hL.1 (show ∀R,PermIn a o L R->SortedIn (Qv n h3 y) a o R->PermIn A B d R/\SortedIn (Qv n h3 y) A B R from fun R h1 h2=>by have:=hL.2 R h1 h2;exact y2.o R (permIn_trans _ _ _ a b y5.o this.1) this.2) x5;clear hL x2 x3 x5
  go_wp2
  go_roundg (o-a)
  ·exact⟨a,o,l2,L,_,_,rfl,rfl,rfl,rfl,rfl,z6,ox,ox,y0,rfl,y7,y4,x9⟩
  have:=Hk.o;omega
 have e8:¬(0:Int)<a:=ox
 go_wp2_with fail;go_quiet (fail);have h5:=Qa<|HS.o.kZ<|(Qc [] wc).drewN nq;clear HS;generalize wc.drewN nq=w1 at h5 ⊢;have HS:=h5;clear h5;go_wp2_with fail;go_fit(part_ok' w0 g c n rb ro rc y h3 d3 a b p2 _ HC.o HS.o ox h4 h8.1 h8.2);rintro e w5⟨ap,rfl,x4⟩;obtain⟨o,p3,d4,x6⟩:∃o p3 d4,partition (Qv n h3 y) d3 a b p2=(o,p3,d4):=⟨_,_,_,rfl⟩;have a6:=round_part (FA n h3 y) (partition_holds _) h8.1 h8.2 (by rwa[HS.o.size]) z1.o x6;rw[x6]at x4 ⊢;have y6:=Qa x4;obtain⟨z6,r7,q4,p4,p5,p7,q1⟩:=a6;have⟨r0,z7,z8,p1⟩:=qd p4 p5 p7 q1;have r4:(o:Int)+1=((o+1:Nat):Int):=ox
 have⟨m1,q0⟩:=qx<|o+1;have e4:(o:Int)+1=(m1:Int):=ox
 rw[q0]at z7 z8 p1;have p9:m1<=b:=ox
 have⟨ll,p8⟩:=qx<|o-a;have⟨rl,q3⟩:=qx<|b-o;obtain⟨e3,e5,f1⟩:(o:Int)-a=(ll:Int)/\(b:Int)-o=(rl:Int)/\o<m1:=ox
 clear x4 x6 q4 p4 p5 p7 q1 r4 q0 z1
 by_cases f2:ll<rl
 ·have r6:(ll:Int)<rl:=ox
  clear p8 q3;go_wp2_with fail;go_fit(q5.o a o l2 d4 _ ox y6.o z6 ox r0.o y0);rintro e w6⟨rfl,L,x5,x2,x3⟩;have hL:=z8.o L x2 x3;have⟨y4,x9,y7⟩:=qc hL.1 (show ∀R,PermIn m1 b L R->SortedIn (Qv n h3 y) m1 b R->PermIn A B d R/\SortedIn (Qv n h3 y) A B R from fun R h1 h2=>by have:=hL.2 R h1 h2;exact y2.o R (permIn_trans _ _ _ a b y5.o this.1) this.2) x5;clear hL x2 x3 x5
  go_wp2
  go_roundg (b-m1)
  ·exact⟨m1,b,l2,L,_,_,rfl,rfl,rfl,rfl,rfl,p9,h4,ox,y0,rfl,y7,y4,x9⟩
  have:=Hk.o;omega
 have r6:¬(ll:Int)<rl:=ox
 clear p8 q3;go_wp2_with fail;go_fit(q5.o m1 b l2 d4 _ ox y6.o p9 h4 z7.o y0);rintro e w6⟨rfl,L,x5,x2,x3⟩;have hL:=p1.o L x2 x3;have⟨y4,x9,y7⟩:=qc hL.1 (show ∀R,PermIn a o L R->SortedIn (Qv n h3 y) a o R->PermIn A B d R/\SortedIn (Qv n h3 y) A B R from fun R h1 h2=>by have:=hL.2 R h1 h2;exact y2.o R (permIn_trans _ _ _ a b y5.o this.1) this.2) x5;clear hL x2 x3 x5
 go_wp2
 go_roundg (o-a)
 ·exact⟨a,o,l2,L,_,_,rfl,rfl,rfl,rfl,rfl,z6,ox,ox,y0,rfl,y7,y4,x9⟩
 have:=Hk.o;omega
def jP(w0 g c n j m o e i)(p:JN w0 g j m n e i):∀(K a b l:Nat)(d:Array Nat)(w:WD),b-a<K->Qz w0 g c n d w->a<=b->b<=n->Go.Sort.Below (Qv n i e) a b d->l<=1000->
 Calls prog 278 #[.slice g n c,a,b,l,.func (.func 248) #[JJ (some ⟨j,m,none⟩) n o e] #[]] w (II w0 g c n (Qv n i e) d a b)
 |0,a,b,l,d,w,h,_,_,_,_,_=>absurd h<|Nat.not_lt_zero _
 |K+1,a,b,l,d,w,h,hW,hab,hb,hB,hl=>Qf0 w0 g c n j m o e i K p (jP w0 g c n j m o e i p K) a b l d w ox hW hab hb hB hl
def Qi4(n)(c:n<=1000000):Nc n:=by
 intro j i p s q h o l g c e;have:=e.size;have m:∀d:WD,Qb [] g d->∀g:Nat,g<=1000->Calls prog 278 #[.slice j n i,(0:Int),n,g,XL (some ⟨p,s,none⟩) n q h] d (II d j i n (Qv n o h) l 0 n):=by intro d hk g t;exact jP d j i n p s q h o ⟨c.sees.kZ hk,c.len,c.small,c.n9,c.by12,c.ne⟩ (n+1) 0 n g l d ox ⟨e.row.kept hk sx,e.size,e.lt,Qc _ _⟩ (Zv _) (Qk _) (.inl rfl) t
 have g:=Qa m;have:IntKind.u64.wrap (n:Int)=(n:Int):=by rw[J3];omega
 have h:Lib.bitLen n<=1000:=by
  rcases Rx n with h0|h0
  ·subst h0;decide+kernel
  have:=aA n ox ox;rcases Xw (Lib.bitLen n) 32 with d|d
  ·omega
  have:=Ju (n:=2) dx d;omega
 clear c e m;go_enter func247,ntmps247;go_wp2_with fail;go_fit(fI n _ ox);rintro e c⟨rfl,rfl⟩;have d:=Qa<|Qc [] c;go_wp2_with fail;go_fit(g.o c d.o _ h);rintro e c⟨rfl,l,h,e,g⟩;have⟨c,i,j⟩:=qc h e g;clear h e g
 go_wp2
 go_end0
 exact⟨rfl,l,⟨c.o.row,c.o.size,c.o.lt,(d.o.mono sx).trans c.o.kept sx⟩,i.o,j.o⟩
