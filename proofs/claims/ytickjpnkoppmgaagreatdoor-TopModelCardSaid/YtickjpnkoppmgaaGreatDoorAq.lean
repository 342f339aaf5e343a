import Derived.Test.YtickjpnkoppmgaaGreatDoorAo
set_option linter.all false
namespace Go.Proofs.YtickjpnkoppmgaaGreatDoor
open Go.Proofs.Tryz Go.RowKit K Go.Sort
def Qif{lt hi first root}{d:Array Nat}(h:hi<=2*root+1):siftDown lt hi first root d=d:=by rw[siftDown,dif_pos h]
def SQ(lt:Nat->Nat->Bool)(hi first root:Nat)(d:Array Nat)(ch:Nat):Prop:=
 (hi<=2*root+2/\ch=2*root+1)\/(2*root+2<hi/\lt d[first+(2*root+1)]! d[first+(2*root+2)]! =true/\ch=2*root+2)\/
  (2*root+2<hi/\lt d[first+(2*root+1)]! d[first+(2*root+2)]! =false/\ch=2*root+1)
def PY{lt hi first root d ch}(h:2*root+1<hi)(i:SQ lt hi first root d ch)(e:lt d[first+root]! d[first+ch]! =false):siftDown lt hi first root d=d:=by
 rw[siftDown,dif_neg ox];obtain⟨c,g⟩:first+(2*root+1)+1=first+(2*root+2)/\2*root+1+1=2*root+2:=ox
 rw[c,g];rcases i with⟨g,rfl⟩|⟨g,c,rfl⟩|⟨g,c,rfl⟩
 ·rw[Qf zx,Qg (by rw[e];rfl)]
 ·rw[Qg (by rw[c];simp;omega),Qg (by rw[e];rfl)]
 rw[Qf (by rw[c];simp),Qg (by rw[e];rfl)]
def PZ{lt hi first root d ch}(h:2*root+1<hi)(i:SQ lt hi first root d ch)(e:lt d[first+root]! d[first+ch]! =true):
 siftDown lt hi first root d=siftDown lt hi first ch (swp d (first+root)<|first+ch):=by
 rw[siftDown,dif_neg ox];obtain⟨c,g⟩:first+(2*root+1)+1=first+(2*root+2)/\2*root+1+1=2*root+2:=ox
 rw[c,g];rcases i with⟨g,rfl⟩|⟨g,c,rfl⟩|⟨g,c,rfl⟩
 ·rw[Qf zx,Qf (by rw[e];decide)]
 ·rw[Qg (by rw[c];simp;omega),Qf (by rw[e];decide),dif_pos ox]
 rw[Qf (by rw[c];simp),Qf (by rw[e];decide)]
set_option maxRecDepth 100000 in
set_option maxHeartbeats 8000000 in
def Qit(w0 g c n rb ro rc h5 x0 d lo hi first w)(hC:JN w0 g rb ro n h5 x0)(hW:Qz w0 g c n d w)(r9:lo<=hi)(hb:first+hi<=n):
 Calls prog 311 #[.slice g n c,lo,hi,first,XL (some ⟨rb,ro,none⟩) n rc h5] w fun e w'=>e=.returned (.tuple #[])/\Qz w0 g c n (siftDown (Qv n x0 h5) hi first lo d) w':=by
 have a1:=hC.n9;have⟨HC,HW⟩:=qb hC hW;have⟨R,hR⟩:=qx<|siftDown (Qv n x0 h5) hi first lo d;rw[hR];have HR:=Qa hR;clear hC hW hR;unfold XL;go_enter func311,ntmps311
 go_wp2
 go_loopg [10] (hi-lo) (fun k v wr=>∃(root:Nat)(dk:Array Nat),v=.int .i64 root/\root<=hi/\hi-root<=k/\k=hi-root/\Hid (Qz w0 g c n dk wr)/\Hid (siftDown (Qv n x0 h5) hi first root dk=R))
 ·exact⟨lo,d,rfl,r9,Qk _,rfl,HW,HR⟩
 obtain⟨root,dk,rfl,hr,-,q6,HS,HR⟩:=hrel;have Hk:=Qa q6;clear q6 HW;have⟨c1,r6⟩:=qx<|2*root+1;have e1:2*(root:Int)+1=(c1:Int):=ox
 by_cases h0:hi<=c1
 ·have r3:(hi:Int)<=c1:=ox
  have h8:=Qif (lt:=Qv n x0 h5) (first:=first) (d:=dk) (ox:hi<=2*root+1);have HF:=Qa<|h8.symm.trans HR.o;clear h8
  go_wp2
  go_end0
  exact⟨rfl,by rw[<-HF.o];exact HS.o⟩
 have r3:¬(hi:Int)<=c1:=ox
 have⟨o,r0⟩:=qx<|first+root;have⟨q,q8⟩:=qx<|first+c1;have⟨c2,r7⟩:=qx<|c1+1;have⟨p2,q9⟩:=qx<|first+c2;have⟨x4,x3,x5⟩:=qc r0 q8 q9;obtain⟨er,e2,f1,f2,f3⟩:(first:Int)+root=(o:Int)/\(c1:Int)+1=(c2:Int)/\(first:Int)+c1=(q:Int)/\(first:Int)+c2=(p2:Int)/\(q:Int)+1=(p2:Int):=ox
 have c4:IntKind.i64.wrap (o:Int)=(o:Int):=Za _ ox;have c5:IntKind.i64.wrap (q:Int)=(q:Int):=Za _ ox;have c6:IntKind.i64.wrap (p2:Int)=(p2:Int):=Za _ ox;have c7:IntKind.i64.wrap (c2:Int)=(c2:Int):=Za _ ox;obtain⟨y6,a7,b8,a6,q1⟩:o<n/\q<n/\(o:Int)<n/\(q:Int)<n/\c1=2*root+1:=ox
 have x6:=Qa q1;have q3:c2=2*root+2:=ox
 have h4:=Qa q3;obtain⟨b9,b4,b5,b6,b7⟩:(root<c1/\c1<c2)/\¬o=q/\¬q=o/\¬o=p2/\¬p2=o:=ox
 clear r6 r0 q8 r7 q9 q1 q3
 by_cases h2:c2<hi
 ·have r4:(c2:Int)<hi:=ox
  have b3:p2<n:=yx x5.o
  have a8:(p2:Int)<n:=ox
  obtain⟨x1,y1,r1,p0,p3,q7,q4⟩:=HC.o.test HS.o rc q p2 ox ox;have p5:=Qa q4;have p6:=HS;clear q4;obtain⟨b1,q5⟩:∃b,decide (r1<0)=b:=⟨_,rfl⟩;have z7:=Qa<|q7.trans q5;clear q7;go_wp2_with fail
  go_region_held3 (fun w'=>Qb [] wr w'/\w'.cell? ⟨g,q,none⟩=some (.int .i64 (x1:Int))/\w'.cell? ⟨g,p2,none⟩=some (.int .i64 (y1:Int)))
   (first|exact⟨Qc _ _,p0,p3⟩|exact⟨(Qc _ _).drew,p0,p3⟩|exact⟨z6,z6.cZ p0 sx,z6.cZ p3 sx⟩)
   (first|(go_fit(p5.o _ (Qc [] wr).drew);rintro e w1⟨rfl,z6⟩))
  have z8:=Qa<|p6.o.kZ z6;rename_i r5;clear r5 z6 p0 p3 p5 p6;clear q5;cases b1
  ·obtain⟨x2,y2,r2,h1,h3,y5,y3⟩:=HC.o.test z8.o rc o q y6 ox;have x7:=Qa y3;have y0:=z8;clear y3;obtain⟨b2,y4⟩:∃b,decide (r2<0)=b:=⟨_,rfl⟩;have x8:=Qa<|y5.trans y4;clear y5;go_wp2_with fail
   go_region_held3 (fun w'=>Qb [] w1 w'/\w'.cell? ⟨g,o,none⟩=some (.int .i64 (x2:Int))/\w'.cell? ⟨g,q,none⟩=some (.int .i64 (y2:Int)))
    (first|exact⟨Qc _ _,h1,h3⟩|exact⟨(Qc _ _).drew,h1,h3⟩|exact⟨y,y.cZ h1 sx,y.cZ h3 sx⟩)
    (first|(go_fit(x7.o _ (Qc [] w1).drew);rintro e w2⟨rfl,y⟩))
   have x9:=Qa<|y0.o.kZ y;rename_i z1;clear z1 y h1 h3 x7 y0;clear y4;cases b2
   ·have h8:=PY (lt:=Qv n x0 h5) (hi:=hi) (first:=first) (root:=root) (d:=dk) (ch:=c1) ox (by exact(.inr<|.inr ⟨yx h4.o,by have:=z7.o;rwa[<-x3.o,<-x5.o,x6.o,h4.o]at this,x6.o⟩)) (by rw[x4.o,x3.o];exact x8.o);have HF:=Qa<|h8.symm.trans HR.o;clear h8;go_wp2_with fail;refine Zj (Dj rfl _ _ _) rfl ?_;exact⟨rfl,by rw[<-HF.o];exact x9.o⟩
   have h9:=PZ (lt:=Qv n x0 h5) (hi:=hi) (first:=first) (root:=root) (d:=dk) (ch:=c1) ox (by exact(.inr<|.inr ⟨yx h4.o,by have:=z7.o;rwa[<-x3.o,<-x5.o,x6.o,h4.o]at this,x6.o⟩)) (by rw[x4.o,x3.o];exact x8.o);rw[x4.o,x3.o]at h9;have y9:=Qa h9;clear h9;obtain⟨u3,v3,p7,p8,p9,q0,y7,y8⟩:=x9.o.exch o q y6 ox;go_wp2_with fail
   go_region
   all_goals
    go_wp2
    go_roundg (hi-c1)
    ·exact⟨c1,swp dk o q,rfl,ox,ox,rfl,(by first|exact y7|exact y8),Qa<|y9.o.symm.trans HR.o⟩
    have:=Hk.o;omega
  obtain⟨x2,y2,r2,h1,h3,y5,y3⟩:=HC.o.test z8.o rc o p2 y6 ox;have x7:=Qa y3;have y0:=z8;clear y3;obtain⟨b2,y4⟩:∃b,decide (r2<0)=b:=⟨_,rfl⟩;have x8:=Qa<|y5.trans y4;clear y5;go_wp2_with fail
  go_region_held3 (fun w'=>Qb [] w1 w'/\w'.cell? ⟨g,o,none⟩=some (.int .i64 (x2:Int))/\w'.cell? ⟨g,p2,none⟩=some (.int .i64 (y2:Int)))
   (first|exact⟨Qc _ _,h1,h3⟩|exact⟨(Qc _ _).drew,h1,h3⟩|exact⟨y,y.cZ h1 sx,y.cZ h3 sx⟩)
   (first|(go_fit(x7.o _ (Qc [] w1).drew);rintro e w2⟨rfl,y⟩))
  have x9:=Qa<|y0.o.kZ y;rename_i z1;clear z1 y h1 h3 x7 y0;clear y4;cases b2
  ·have h8:=PY (lt:=Qv n x0 h5) (hi:=hi) (first:=first) (root:=root) (d:=dk) (ch:=c2) ox (by exact(.inr<|.inl ⟨yx h4.o,by have:=z7.o;rwa[<-x3.o,<-x5.o,x6.o,h4.o]at this,h4.o⟩)) (by rw[x4.o,x5.o];exact x8.o);have HF:=Qa<|h8.symm.trans HR.o;clear h8;go_wp2_with fail;refine Zj (Dj rfl _ _ _) rfl ?_;exact⟨rfl,by rw[<-HF.o];exact x9.o⟩
  have h9:=PZ (lt:=Qv n x0 h5) (hi:=hi) (first:=first) (root:=root) (d:=dk) (ch:=c2) ox (by exact(.inr<|.inl ⟨yx h4.o,by have:=z7.o;rwa[<-x3.o,<-x5.o,x6.o,h4.o]at this,h4.o⟩)) (by rw[x4.o,x5.o];exact x8.o);rw[x4.o,x5.o]at h9;have y9:=Qa h9;clear h9;obtain⟨u3,v3,p7,p8,p9,q0,y7,y8⟩:=x9.o.exch o p2 y6 ox;go_wp2_with fail
  go_region
  all_goals
   go_wp2
   go_roundg (hi-c2)
   ·exact⟨c2,swp dk o p2,rfl,ox,ox,rfl,(by first|exact y7|exact y8),Qa<|y9.o.symm.trans HR.o⟩
   have:=Hk.o;omega
 have r4:¬(c2:Int)<hi:=ox
 go_wp2_with fail;go_quiet (fail);have p4:=Qa<|HS.o.kZ<|(Qc [] wr).drewN nq;clear HS;generalize wr.drewN nq=w1 at p4 ⊢;obtain⟨x2,y2,r2,h1,h3,y5,y3⟩:=HC.o.test p4.o rc o q y6 ox;have x7:=Qa y3;have y0:=p4;clear y3;obtain⟨b2,y4⟩:∃b,decide (r2<0)=b:=⟨_,rfl⟩;have x8:=Qa<|y5.trans y4;clear y5;go_wp2_with fail
 go_region_held3 (fun w'=>Qb [] w1 w'/\w'.cell? ⟨g,o,none⟩=some (.int .i64 (x2:Int))/\w'.cell? ⟨g,q,none⟩=some (.int .i64 (y2:Int)))
  (first|exact⟨Qc _ _,h1,h3⟩|exact⟨(Qc _ _).drew,h1,h3⟩|exact⟨y,y.cZ h1 sx,y.cZ h3 sx⟩)
  (first|(go_fit(x7.o _ (Qc [] w1).drew);rintro e w2⟨rfl,y⟩))
 have x9:=Qa<|y0.o.kZ y;rename_i z1;clear z1 y h1 h3 x7 y0;clear y4;cases b2
 ·have h8:=PY (lt:=Qv n x0 h5) (hi:=hi) (first:=first) (root:=root) (d:=dk) (ch:=c1) ox (by exact(.inl ⟨yx h4.o,x6.o⟩)) (by rw[x4.o,x3.o];exact x8.o);have HF:=Qa<|h8.symm.trans HR.o;clear h8;go_wp2_with fail;refine Zj (Dj rfl _ _ _) rfl ?_;exact⟨rfl,by rw[<-HF.o];exact x9.o⟩
 have h9:=PZ (lt:=Qv n x0 h5) (hi:=hi) (first:=first) (root:=root) (d:=dk) (ch:=c1) ox (by exact(.inl ⟨yx h4.o,x6.o⟩)) (by rw[x4.o,x3.o];exact x8.o);rw[x4.o,x3.o]at h9;have y9:=Qa h9;clear h9;obtain⟨u3,v3,p7,p8,p9,q0,y7,y8⟩:=x9.o.exch o q y6 ox;go_wp2_with fail
 go_region
 all_goals
  go_wp2
  go_roundg (hi-c1)
  ·exact⟨c1,swp dk o q,rfl,ox,ox,rfl,(by first|exact y7|exact y8),Qa<|y9.o.symm.trans HR.o⟩
  have:=Hk.o;omega
