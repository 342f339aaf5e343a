import Derived.Deep.CutBlock
import Derived.Test.YtickjpnkoppmgaaGreatDoorAo
set_option linter.all false
namespace Go.Proofs.YtickjpnkoppmgaaGreatDoor
open Go.Proofs.Tryz Go.RowKit K Go.Sort
def rR(w0:WD)(g c n:Nat)(R:Array Nat × Bool)(e:Ending)(w':WD):Prop:=e=.returned (.bool R.2)/\Qz w0 g c n R.1 w'
def Qi8{lt}{d:Array Nat}{b i im}(h:i<b)(c:im+1=i)(hp:lt d[i]! d[im]! =false):scanSorted lt d b i=scanSorted lt d b (i+1):=by subst c;rw[scanSorted,Qg (by rw[U3,hp];simp;omega)]
def mL{lt}{d:Array Nat}{b i im}(c:im+1=i)(h:i<b->lt d[i]! d[im]! =true):scanSorted lt d b i=i:=by subst c;rw[scanSorted,Qf];intro c;simp only[Xt,ZE,U3]at c;rw[h c.1]at c;exact absurd c.2 dx
def Qig{lt}{d:Array Nat}{j jm}(c:jm+1=j)(hp:lt d[j]! d[jm]! =true):shiftDown lt j d=shiftDown lt jm (swp d j jm):=by subst c;rw[shiftDown,Qf (by rw[hp];decide)]
def Qih{lt}{d:Array Nat}{j jm}(c:jm+1=j)(hp:lt d[j]! d[jm]! =false):shiftDown lt j d=d:=by subst c;rw[shiftDown,Qg (by rw[hp];rfl)]
def Qjv{lt}{d:Array Nat}{b j jm}(c:jm+1=j)(h:j<b)(hp:lt d[j]! d[jm]! =true):shiftUp lt b j d=shiftUp lt b (j+1) (swp d j jm):=by subst c;rw[shiftUp,Qg h,U3,Qf (by rw[hp];decide)]
def nB{lt}{d:Array Nat}{b j jm}(c:jm+1=j)(hp:j<b->lt d[j]! d[jm]! =false):shiftUp lt b j d=d:=by
 subst c;rw[shiftUp]
 by_cases c:jm+1<b
 ·rw[Qg c,U3,Qg (by rw[hp c];rfl)]
 rw[Qf c]
set_option maxRecDepth 100000 in
set_option maxHeartbeats 16000000 in
def Qga(w0 g c n rb ro rc q h1 d)(a b:Nat)(w)(hC:JN w0 g rb ro n q h1)(hW:Qz w0 g c n d w)(e0:a+12<b)(hb:b<=n):
 Calls prog 299 #[.slice g n c,a,.int .i64 b,XL (some ⟨rb,ro,none⟩) n rc q] w (rR w0 g c n<|partialInsertionSort (Qv n h1 q) d a b):=by
 have f2:=hC.n9;have⟨HC,HW⟩:=qb hC hW;have⟨R,hR⟩:=qx<|partialIns (Qv n h1 q) a b 5 (a+1) d;rw[show partialInsertionSort (Qv n h1 q) d a b=R from hR];have HR:=Qa hR;have⟨l,hl⟩:=qx<|b-a;obtain⟨el,e2⟩:(b:Int)-a=(l:Int)/\a+l=b:=ox
 clear hC hW hR hl;unfold XL;go_enter func299,ntmps299
 go_wp2
 go_loopg [9,10] 5 (fun k v u wr=>∃(i t:Nat)(dk:Array Nat),v=.int .i64 (i:Nat)/\u=.int .i64 (t:Nat)/\a<i/\i<=b/\t<=5/\k=5-t/\Hid (Qz w0 g c n dk wr)/\Hid (partialIns (Qv n h1 q) a b (5-t) i dk=R))
 ·exact⟨a+1,0,d,by go_num,rfl,ox,ox,ox,rfl,HW,HR⟩
 obtain⟨i0,t,dk,rfl,rfl,e1,b6,f3,hk,HS,HR⟩:=hrel;have p5:=Qa hk;clear hk HW
 by_cases ht:t<5
 ·have c9:(t:Int)<5:=ox
  have y2:=HR.o;obtain⟨s,hs⟩:∃s,5-t=s+1:=⟨4-t,ox⟩;rw[hs,partialIns_succ]at y2;have r4:5-(t+1)=s:=ox
  have⟨p3,q6⟩:=qb r4 y2;clear hs y2 HR r4
  go_upto_block 2 with fail
  go_cut [9] (fun v wc=>∃i:Nat,v=.int .i64 (i:Nat)/\i0<=i/\i<=b/\Hid (Qz w0 g c n dk wc)/\Hid (scanSorted (Qv n h1 q) dk b i0=i))
  ·go_wp2
   go_loopg [9] (b-i0) (fun k v wr=>∃i:Nat,v=.int .i64 (i:Nat)/\i0<=i/\i<=b/\k=b-i/\Hid (Qz w0 g c n dk wr)/\Hid (scanSorted (Qv n h1 q) dk b i0=scanSorted (Qv n h1 q) dk b i))
   ·exact⟨i0,rfl,Qk _,ox,ox,HS,Qa rfl⟩
   obtain⟨i,rfl,b7,b6,hk,x2,HI⟩:=hrel;have Hk:=Qa hk;clear hk HS;obtain⟨o,p0⟩:∃o,o+1=i:=⟨i-1,ox⟩;have a7:(i:Int)-1=(o:Int):=ox;have d0:IntKind.i64.wrap (o:Int)=(o:Int):=Za _ ox
   by_cases r3:i<b
   ·obtain⟨c8,b9,b8⟩:(i:Int)<b/\(i:Int)<n/\(o:Int)<n:=ox;obtain⟨x1,y1,r1,h5,h8,y0,x7⟩:=HC.o.test x2.o rc i o ox ox;have x4:=Qa x7;have x6:=x2;clear x7;obtain⟨b1,x8⟩:∃b,decide (r1<0)=b:=⟨_,rfl⟩;have x5:=Qa<|y0.trans x8;clear y0;go_wp2_with fail
    go_region_held3 (fun w'=>Qb [] wr w'/\w'.cell? ⟨g,i,none⟩=some (.int .i64 (x1:Int))/\w'.cell? ⟨g,o,none⟩=some (.int .i64 (y1:Int)))
     (first|exact⟨Qc _ _,h5,h8⟩|exact⟨(Qc _ _).drew,h5,h8⟩|exact⟨h4,h4.cZ h5 sx,h4.cZ h8 sx⟩)
     (first|(go_fit(x4.o _ (Qc [] wr).drew);rintro e w1⟨rfl,h4⟩))
    have x0:=Qa<|x6.o.kZ h4;rename_i y6;clear y6 h4 h5 h8 x4 x6;clear x8;cases b1
    ·go_wp2_with fail;have x9:=Qi8 (lt:=Qv n h1 q) (d:=dk) (b:=b) (i:=i) (im:=o) r3 p0 x5.o;have HG:=Qa<|HI.o.trans x9;clear x9
     go_roundg (b-(i+1))
     ·exact⟨i+1,by go_num,ox,ox,rfl,x0,HG⟩
     have:=Hk.o;omega
    go_wp2_with fail;have h9:=mL (lt:=Qv n h1 q) (d:=dk) (b:=b) (i:=i) (im:=o) p0 fun _=>x5.o;have x3:=Qa<|HI.o.trans h9;clear h9;go_meet;exact⟨i,rfl,ox,ox,x0,x3⟩
   have c8:¬(i:Int)<b:=ox;go_wp2_with fail;go_quiet (fail);go_wp2_with fail;have h9:=mL (lt:=Qv n h1 q) (d:=dk) (b:=b) (i:=i) (im:=o) p0 fun h=>absurd h r3;have x3:=Qa<|HI.o.trans h9;clear h9;go_meet;exact⟨i,rfl,ox,ox,Qa<|x2.o.kZ<|(Qc _ _).drewN _,x3⟩
  obtain⟨i,rfl,e3,e5,x0,HI⟩:=hcut;have y2:=q6.o;rw[HI.o]at y2;have z7:=Qa y2;clear HS y2 q6 HI
  by_cases y3:i=b
  ·have h3:=z7.o;rw[Qg y3]at h3;have HF:=Qa h3;subst y3;clear h3
   go_wp2
   go_ret;exact⟨by rw[<-HF.o];rfl,by rw[<-HF.o];exact x0.o⟩
  have e7:((i:Int)==(b:Int))=false:=Ze.2 ox
  by_cases d9:l<50
  ·have b5:decide ((l:Int)<50)=true:=zx;have h3:=z7.o;rw[Qf y3,Qg ox]at h3;have HF:=Qa h3;clear h3 y3
   go_wp2
   go_ret;exact⟨by rw[<-HF.o];rfl,by rw[<-HF.o];exact x0.o⟩
  have b5:decide ((l:Int)<50)=false:=zx
  have h3:=z7.o;rw[Qf y3,Qf ox]at h3;obtain⟨o,p0⟩:∃o,o+1=i:=⟨i-1,ox⟩;have r0:i-1=o:=ox
  rw[r0]at h3;obtain⟨e6,a7⟩:i<b/\(i:Int)-1=(o:Int):=ox
  have d0:IntKind.i64.wrap (o:Int)=(o:Int):=Za _ ox;obtain⟨b9,b8⟩:(i:Int)<n/\(o:Int)<n:=ox
  have⟨D1,p6⟩:=qx<|swp dk i o;have⟨D2,p7⟩:=qx<|fixDown (Qv n h1 q) a i D1;have⟨D3,p8⟩:=qx<|fixUp (Qv n h1 q) b i D2;rw[p6,p7,p8]at h3;have⟨HF,r7,q3,q4⟩:=qd h3 p6 p7 p8;obtain⟨b7,e8⟩: ¬i=o/\¬o=i:=ox
  clear h3 r0 p6 p7 p8 z7 y3
  go_upto_region 11 with(fail)
  go_cut [] (fun wc=>Hid<|Qz w0 g c n D1 wc)
  ·obtain⟨u5,v5,d2,d3,d7,d8,r5,r6⟩:=x0.o.exch i o ox ox;go_wp2_with fail
   go_region
   all_goals
    go_wp2
    go_meet;have HX:=(by first|exact r5|exact r6);rw[r7.o]at HX;exact HX
  have z8:=hcut;clear x0 hcut;have⟨ia,q9⟩:=qx<|i-a;have d6:(i:Int)-a=(ia:Int):=ox
  have⟨bi,q7⟩:=qx<|b-i;have d4:(b:Int)-i=(bi:Int):=ox
  have⟨i1,q8⟩:=qx<|i+1;have d5:(i:Int)+1=(i1:Int):=ox
  have⟨q5,q1,r9⟩:=qc q9 q7 q8;have e4:i<i1/\i1<=b:=ox
  clear q9 q7 q8;have⟨bq,y7⟩:=qx<|decide<|(2:Int)<=ia
  go_upto_if 65 with(fail)
  go_cut [] (fun wc=>Hid<|Qz w0 g c n D2 wc)
  ·rcases J1 bq with hb|hb
   ·subst hb;have h2:2<=ia:=(yx (Df y7));clear y7;have y8:D2=shiftDown (Qv n h1 q) o D1:=(by have:=q3.o;unfold fixDown at this;rw[Qg<|by rwa[q5.o],(ox:i-1=o)]at this;exact this.symm);have z1:=Qa y8;clear y8
    go_wp2
    go_loopg [11] o (fun k v wr=>∃(j:Nat)(dj:Array Nat),v=.int .i64 (j:Nat)/\j<=o/\k=j/\Hid (Qz w0 g c n dj wr)/\Hid (shiftDown (Qv n h1 q) o D1=shiftDown (Qv n h1 q) j dj))
    ·exact⟨o,D1,rfl,Qk _,rfl,z8,Qa rfl⟩
    obtain⟨j,dj,rfl,f1,hk,x2,HI⟩:=hrel;have Hk:=Qa hk;clear hk z8
    by_cases p9:1<=j
    ·have q0:(1:Int)<=j:=ox;obtain⟨y,y4⟩:∃y,y+1=j:=⟨j-1,ox⟩;have a8:(j:Int)-1=(y:Int):=ox;have d1:IntKind.i64.wrap (y:Int)=(y:Int):=Za _ ox;obtain⟨c7,c6⟩:(j:Int)<n/\(y:Int)<n:=ox;obtain⟨x1,y1,r1,h5,h8,y0,x7⟩:=HC.o.test x2.o rc j y ox ox;have x4:=Qa x7;have x6:=x2;clear x7;obtain⟨b1,x8⟩:∃b,decide (r1<0)=b:=⟨_,rfl⟩;have x5:=Qa<|y0.trans x8;clear y0;go_wp2_with fail
     go_region_held3 (fun w'=>Qb [] wr w'/\w'.cell? ⟨g,j,none⟩=some (.int .i64 (x1:Int))/\w'.cell? ⟨g,y,none⟩=some (.int .i64 (y1:Int)))
      (first|exact⟨Qc _ _,h5,h8⟩|exact⟨(Qc _ _).drew,h5,h8⟩|exact⟨h4,h4.cZ h5 sx,h4.cZ h8 sx⟩)
      (first|(go_fit(x4.o _ (Qc [] wr).drew);rintro e w1⟨rfl,h4⟩))
     have x0:=Qa<|x6.o.kZ h4;rename_i y6;clear y6 h4 h5 h8 x4 x6;clear x8;cases b1
     ·go_wp2_with fail;have h9:=Qih (lt:=Qv n h1 q) (d:=dj) y4 x5.o;have x3:=Qa<|HI.o.trans h9;clear h9;go_meet;rwa[z1.o,x3.o]
     have x9:=Qig (lt:=Qv n h1 q) (d:=dj) y4 x5.o;have HG:=Qa<|HI.o.trans x9;clear x9;obtain⟨c4,c5⟩: ¬j=y/\¬y=j:=ox;go_wp2_with fail;obtain⟨u2,v2,a1,a6,b2,b3,p1,p2⟩:=x0.o.exch j y ox ox;go_wp2_with fail
     go_region
     all_goals
      go_wp2
      go_roundg y
      ·exact⟨y,_,rfl,ox,rfl,(by first|exact p1|exact p2),HG⟩
      have:=Hk.o;omega
    obtain⟨q0,r2⟩: ¬(1:Int)<=j/\j=0:=ox;have x3:=Qa (by rw[HI.o,r2];rfl:shiftDown (Qv n h1 q) o D1=dj);clear r2
    go_wp2
    go_meet;rwa[z1.o,x3.o]
   subst hb;have h2:¬2<=ia:=(yx (Po y7));clear y7;have y8:D2=D1:=(by have:=q3.o;unfold fixDown at this;rw[Qf<|by rwa[q5.o]]at this;exact this.symm);have z1:=Qa y8;clear y8
   go_wp2
   go_meet;rwa[z1.o]
  have p4:=hcut;clear z8 hcut y7
  by_cases h2:2<=bi
  ·have b4:(2:Int)<=bi:=ox;have y9:D3=shiftUp (Qv n h1 q) b i1 D2:=(by have:=q4.o;unfold fixUp at this;rw[Qg<|by rwa[q1.o],r9.o]at this;exact this.symm);have z6:=Qa y9;clear y9
   go_wp2
   go_loopg [12] (b-i1) (fun k v wr=>∃(j:Nat)(dj:Array Nat),v=.int .i64 (j:Nat)/\i<j/\j<=b/\k=b-j/\Hid (Qz w0 g c n dj wr)/\Hid (shiftUp (Qv n h1 q) b i1 D2=shiftUp (Qv n h1 q) b j dj))
   ·exact⟨i1,D2,rfl,ox,ox,rfl,p4,Qa rfl⟩
   obtain⟨j,dj,rfl,e9,f0,hk,x2,HI⟩:=hrel;have Hk:=Qa hk;clear hk p4;obtain⟨y,y4⟩:∃y,y+1=j:=⟨j-1,ox⟩;have a8:(j:Int)-1=(y:Int):=ox;have d1:IntKind.i64.wrap (y:Int)=(y:Int):=Za _ ox
   by_cases p9:j<b
   ·obtain⟨q0,c7,c6⟩:(j:Int)<b/\(j:Int)<n/\(y:Int)<n:=ox;obtain⟨x1,y1,r1,h5,h8,y0,x7⟩:=HC.o.test x2.o rc j y ox ox;have x4:=Qa x7;have x6:=x2;clear x7;obtain⟨b1,x8⟩:∃b,decide (r1<0)=b:=⟨_,rfl⟩;have x5:=Qa<|y0.trans x8;clear y0;go_wp2_with fail
    go_region_held3 (fun w'=>Qb [] wr w'/\w'.cell? ⟨g,j,none⟩=some (.int .i64 (x1:Int))/\w'.cell? ⟨g,y,none⟩=some (.int .i64 (y1:Int)))
     (first|exact⟨Qc _ _,h5,h8⟩|exact⟨(Qc _ _).drew,h5,h8⟩|exact⟨h4,h4.cZ h5 sx,h4.cZ h8 sx⟩)
     (first|(go_fit(x4.o _ (Qc [] wr).drew);rintro e w1⟨rfl,h4⟩))
    have x0:=Qa<|x6.o.kZ h4;rename_i y6;clear y6 h4 h5 h8 x4 x6;clear x8;cases b1
    ·go_wp2_with fail;have h9:=nB (lt:=Qv n h1 q) (d:=dj) (b:=b) y4 fun _=>x5.o;have x3:=Qa<|HI.o.trans h9;clear h9;have y5:=Qa (show Qz w0 g c n D3 _ from by rw[z6.o,x3.o];exact x0.o)
     go_roundg (5-(t+1))
     ·exact⟨i,t+1,D3,rfl,by go_num,ox,ox,ox,rfl,y5,Qa (by rw[p3.o];exact HF.o)⟩
     have:=p5.o;omega
    have x9:=Qjv (lt:=Qv n h1 q) (d:=dj) y4 p9 x5.o;have HG:=Qa<|HI.o.trans x9;clear x9;obtain⟨c4,c5⟩: ¬j=y/\¬y=j:=ox;go_wp2_with fail;obtain⟨u2,v2,a1,a6,b2,b3,p1,p2⟩:=x0.o.exch j y ox ox;go_wp2_with fail
    go_region
    all_goals
     go_wp2
     go_roundg (b-(j+1))
     ·exact⟨j+1,_,by go_num,ox,ox,rfl,(by first|exact p1|exact p2),HG⟩
     have:=Hk.o;omega
   have q0:¬(j:Int)<b:=ox;have h9:=nB (lt:=Qv n h1 q) (d:=dj) (b:=b) y4 fun h=>absurd h p9;have x3:=Qa<|HI.o.trans h9;clear h9;go_wp2_with fail;have y5:=Qa (show Qz w0 g c n D3 _ from by rw[z6.o,x3.o];exact x2.o)
   go_roundg (5-(t+1))
   ·exact⟨i,t+1,D3,rfl,by go_num,ox,ox,ox,rfl,y5,Qa (by rw[p3.o];exact HF.o)⟩
   have:=p5.o;omega
  have b4:¬(2:Int)<=bi:=ox
  have y9:D3=D2:=by have:=q4.o;unfold fixUp at this;rw[Qf<|by rwa[q1.o]]at this;exact this.symm
  have z6:=Qa y9;clear y9;go_wp2_with fail;have y5:=Qa (show Qz w0 g c n D3 _ from by rw[z6.o];exact p4.o)
  go_roundg (5-(t+1))
  ·exact⟨i,t+1,D3,rfl,by go_num,ox,ox,ox,rfl,y5,Qa (by rw[p3.o];exact HF.o)⟩
  have:=p5.o;omega
 have c9:¬(t:Int)<5:=ox
 have h3:=HR.o;rw[(ox:5-t=0)]at h3;have HF:=Qa<|show(dk,false)=R from h3;clear h3
 go_wp2
 go_ret;exact⟨by rw[<-HF.o];rfl,by rw[<-HF.o];exact HS.o⟩
