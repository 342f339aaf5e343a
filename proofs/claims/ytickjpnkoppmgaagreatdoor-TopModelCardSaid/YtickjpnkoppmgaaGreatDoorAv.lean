import Derived.Test.YtickjpnkoppmgaaGreatDoorAu
set_option linter.all false
namespace Go.Proofs.YtickjpnkoppmgaaGreatDoor
open Go.Proofs.Tryz Go.RowKit K
def qI(w:WD)(s:BA)(r l g j m d:Nat)(R:LN × Nat × Nat)(k:Nat)(v:VL)(wr:WD):Prop:=
 ∃(c h:Nat)(out e:LN)(a:OA)(i:Nat),k=d-c/\c<=d/\v=.int .u64 (c:Nat)/\h<=8*s.size/\out<=c/\Hid (e=m)/\Hid (R=JI (Ql s) m (d-c) e out h)/\
  Hid (Qh wr 3 (.slice a out i) (Qi out))/\Hid (QJ wr g (Qi e))/\Hid (Rd wr r l s h)/\Hid (Qe wr j 255 [(),.slice a out i])/\Hid (Qe wr w 255 [(),()])/\
  Hid (Qq (fZ a) [w.heap.size,r,l,j,g])/\Hid (Qb [] w wr)/\Hid (Qu w (fZ a))
def Qbe{w wr w3 w4 w5 s r q g o n p a a5 c c5 x out x1}(hn:n=out.length)(hR:Qh wr 3 (.slice a out.length c) (Qi out))(hA:Qe wr o 255 [.slice none 0 0,.slice a out.length c])(hB:Qe wr w.heap.size 255 [.slice none 0 0,.slice none 0 0])(hap:Qq (fZ a) [w.heap.size,r,q,o,g])(hK:Qb [] w wr)(hF:Qu w.heap.size (fZ a))(x8:w.heap.size<r/\w.heap.size<q/\r<o/\q<o/\o<g/\g<wr.heap.size)(h8:Qb [r] wr w3)(y0:Rd w3 r q s p)(h3:Qb [g] w3 w4)(x6:QJ w4 g (Qi x1))(x9:Qh w5 3 (.slice a5 (out.length+1) c5) (Qi<|out++[x]))(h1:Qb (Qd<|.slice a out.length c) w4 w5)(h5:QQ w4.heap.size (Qd<|.slice a out.length c) (Qd<|.slice a5 (out.length+1) c5)):
 Qh (w5.setCell ⟨o,1,none⟩<|.slice a5 (out.length+1) c5) 3 (.slice a5 (out++[x]).length c5) (Qi<|out++[x])/\QJ (w5.setCell ⟨o,1,none⟩<|.slice a5 (out.length+1) c5) g (Qi x1)/\Rd (w5.setCell ⟨o,1,none⟩<|.slice a5 (out.length+1) c5) r q s p/\
  Qe (w5.setCell ⟨o,1,none⟩<|.slice a5 (out.length+1) c5) o 255 [.slice none 0 0,.slice a5 (out++[x]).length c5]/\Qe (w5.setCell ⟨o,1,none⟩<|.slice a5 (out.length+1) c5) w.heap.size 255 [.slice none 0 0,.slice none 0 0]/\
  Qq (fZ a5) [w.heap.size,r,q,o,g]/\Qb [] w (w5.setCell ⟨o,1,none⟩<|.slice a5 (out.length+1) c5)/\Qu w.heap.size (fZ a5):=by
 have e:(out++[x]).length=out.length+1:=sx
 rw[X7]at h1 h5;rw[X7]at h5;obtain⟨o1,o2,o3,o4,o5,o6⟩:=x8;have z3:=h8.size;have z4:=h3.size;have h2:∀y∈[w.heap.size,r,q,o,g],y∉fZ a:=fun y hy hm=>hap y hm hy
 have x2:=(hA.kept h8 zx).kept h3 zx;have x4:=(hB.kept h8 zx).kept h3 zx;have y1:=y0.kept h3 (by intro y hy hm;simp at hy hm;omega);have x3:=x2.kept h1 (h2 o sx);have x5:=x4.kept h1 (h2 _ sx);have y2:=y1.kept h1 (by intro y hy hm;simp at hy;rcases hy with rfl|rfl;exact h2 y sx hm;exact h2 y sx hm);have x7:=x6.kept h1 (h2 g sx);have h4:Qb [o] w5 (w5.setCell ⟨o,1,none⟩<|.slice a5 (out.length+1) c5):=(Qc [o] w5).setCell (p:=⟨o,1,none⟩) sx _;have x0:Qq (fZ a5) [w.heap.size,r,q,o,g]:=by
  intro y hy hm;rcases h5 y hy with h|h
  ·exact hap y h hm
  simp at hm;omega
 have h9:Qb [] w w4:=(hK.trans h8 (by intro y hy;simp at hy;omega)).trans h3 (by intro y hy;simp at hy;omega);refine⟨?_,x7.kept h4 zx,y2.kept h4 (by intro y hy hm;simp at hy hm;omega),?_,x5.kept h4 zx,x0,(h9.new h1 hF).trans h4 (by intro y hy;simp at hy;omega),hF.grow h5 h9.size⟩
 ·rw[e];exact x9.kept h4 (fun y hy hm=>by rw[X7]at hy;simp at hm;subst hm;exact x0 y hy sx)
 rw[e];exact x3.set 1 _
def qJ(w:WD)(e:Nat)(m:VL)(l:OA)(j:Nat)(C:LN)(bs:LB)(n:Int)(many:Nat)(R:List LI × Nat × Nat)(k:Nat)(o v:VL)(wr:WD):Prop:=
 ∃(c g:Nat)(d:List LI)(i:LV)(a:OA)(h:Nat),k=many-c/\c<=many/\v=.int .u64 (c:Nat)/\o=.int .i64 (g:Nat)/\g<=bs/\Hid (d=c/\∀o∈d,o.length<=258)/\Hid (R=Rq bs n (many-c) d g)/\
  Hid (Qh wr 51 (.slice a c h) i)/\Hid (ZJ wr (w.heap.size::e::fZ a) i d)/\Hid (BO wr (w.heap.size::e::fZ a) l j (Qi C))/\Hid (Qe wr e 255 [.slice a c h,m])/\Hid (Qe wr w 255 [(),()])/\
  Hid (Qq (fZ a) [w.heap.size,e])/\Hid (Qb [] w wr)/\Hid (Qu w (fZ a))
set_option maxRecDepth 100000 in
set_option maxHeartbeats 4000000 in
def Qbl(s:BA)(at_ n:Int)(w)(hs:s.size<=1000000000)(d8:(Us (Ql s) at_ n).2.2.2=0):
 Calls prog 181 #[s,at_,n] w (IC (Us (Ql s) at_ n) w):=by
 have l6:=XQ s;have hk:Qb [] w (w.alloc<|.cells #[(),()] 255):=(Qc _ _).alloc _;have hA:=Qx w [(),()] 255;obtain⟨HK,HA,y0,x0⟩:=qd hk hA l6 (show ∀x,Us (Ql s) at_ n=([],[],0,x)->x=0 from fun x h=>by rwa[h]at d8);clear hk hA l6 d8
 by_cases h1:at_<0\/(8*s.size:Nat)<at_
 ·have o:=Qa<|Sr (bs:=Ql s) (at_:=at_) (n:=n) (by rw[y0.o];omega);exact absurd (x0.o _ o.o) dx
 obtain⟨p,rfl⟩:=Yu (ox:0<=at_);have m5:p<=8*s.size:=ox
 clear h1
 by_cases h3:n<3
 ·have g3:decide (n<3)=true:=XE h3;have o:=Qa<|Sr (bs:=Ql s) (at_:=(p:Int)) (n:=n)<|.inr<|.inr<|.inl h3;exact absurd (x0.o _ o.o) dx
 have g3:decide (n<3)=false:=X0 h3
 by_cases h4:258<n
 ·have g4:decide (258<n)=true:=XE h4;have o:=Qa<|Sr (bs:=Ql s) (at_:=(p:Int)) (n:=n)<|.inr<|.inr<|.inr h4;exact absurd (x0.o _ o.o) dx
 have g4:decide (258<n)=false:=X0 h4;obtain⟨bs,q9⟩:=qx<|Ql s;have h8:Us bs (p:Int) n=if(QL bs p 3).2≠0 then([],[],0,(QL bs p 3).2)else if(QL bs p 3).1<2\/6<(QL bs p 3).1 then([],[],0,110)else
  if(QL bs (p+3) 15).2≠0 then([],[],0,(QL bs (p+3) 15).2)else if(QL bs (p+3) 15).1=0 then([],[],0,110)else
  if(JI bs (QL bs p 3).1 (QL bs (p+3) 15).1 (List.range (QL bs p 3).1) [] (p+18)).2.2≠0 then([],[],0,(JI bs (QL bs p 3).1 (QL bs (p+3) 15).1 (List.range (QL bs p 3).1) [] (p+18)).2.2)else
  if(Rq bs n (QL bs p 3).1 [] (JI bs (QL bs p 3).1 (QL bs (p+3) 15).1 (List.range (QL bs p 3).1) [] (p+18)).2.1).2.2≠0 then([],[],0,(Rq bs n (QL bs p 3).1 [] (JI bs (QL bs p 3).1 (QL bs (p+3) 15).1 (List.range (QL bs p 3).1) [] (p+18)).2.1).2.2)else
  ((Rq bs n (QL bs p 3).1 [] (JI bs (QL bs p 3).1 (QL bs (p+3) 15).1 (List.range (QL bs p 3).1) [] (p+18)).2.1).1,(JI bs (QL bs p 3).1 (QL bs (p+3) 15).1 (List.range (QL bs p 3).1) [] (p+18)).1,(Rq bs n (QL bs p 3).1 [] (JI bs (QL bs p 3).1 (QL bs (p+3) 15).1 (List.range (QL bs p 3).1) [] (p+18)).2.1).2.1,0):=by
  unfold Us;rw[Qf (by rw[<-q9,y0.o];omega),ZH]
 have r9:(QL bs (p+3) 15).1<=32767:=by
  unfold QL
  split
  ·simp
  split
  ·simp
  have h1:=DY<|QZ bs (p+3) (15:Int).toNat;have h2:(QZ bs (p+3) (15:Int).toNat).length<=15:=by unfold QZ;rw[Zd];simp;omega
  have h3:2^(QZ bs (p+3) (15:Int).toNat).length<=2^15:=Ju dx h2;simp only;omega
 have q8:=nM bs p 3;have q7:=nM bs (p+3) 15;obtain⟨z6,z7⟩:=qb (fun(W:WD)(r q:Nat)(hr:Rd W r q s p)=>Cs r q s p 3 W hr ox m5) fun(W:WD)(r q:Nat)(hr:Rd W r q s (p+3))(h:p+3<=8*s.size)=>Cs r q s (p+3) 15 W hr ox h;rw[q9]at z6 z7;obtain⟨⟨m,e1⟩,b7⟩:∃A,QL bs p 3=A:=⟨_,rfl⟩;obtain⟨⟨M,e2⟩,b8⟩:∃A,QL bs (p+3) 15=A:=⟨_,rfl⟩;rw[<-q9]at h8 b7 b8 r9 q8 q7 z6 z7;clear q9 bs;rw[b7]at q8 h8 z6;rw[b8]at q7 r9 h8 z7;have m0:e1=0->p+3<=8*s.size:=by intro h;have:=(q8 h).2.2;rw[y0.o]at this;simp at this;omega
 have m1:e2=0->p+18<=8*s.size:=by intro h;have:=(q7 h).2.2;rw[y0.o]at this;simp at this;omega
 have r9:M<=32767:=r9;obtain⟨y1,HN,i8,j0⟩:=qd h8 (ox:3<=n/\n<=258) m0 m1;clear h8 b7 b8 m0 m1 q8 q7 h3 h4;go_enter func181,ntmps181;go_wp2_with fail;go_fit(DW s (p:Int) _ ox ox<|by simpa using m5);rintro e w1⟨r,q,rfl,x1,d4,d2⟩;rw[ZH]at x1;obtain⟨g7,f2,y3,y7⟩:=qd (HK.o.trans d4 sx) (HA.o.kept d4 sx) x1 (by have h1:=d2 r sx;have h2:=d2 q sx;have h3:=x1.lt r sx;have h4:=x1.lt q sx;simp at h1 h2;omega:w<r/\w<q/\r<w1/\q<w1);clear x1 d4 d2 HK HA;go_wp2_with fail;go_fit(z6.o w1 r q y3.o);rintro e w2⟨rfl,x1,a1⟩;obtain⟨g9,f3,p8,l2⟩:=qd (g7.o.trans a1 (by intro y hy;simp at hy;subst hy;exact .inr (yx y7.o))) (f2.o.kept a1 (by simp;have:=y7.o;omega)) x1 a1.size;clear x1 a1 g7 f2 y3 z6 g3 g4
 by_cases n4:e1=0
 ·subst n4;have u3:=i8.o rfl;have p8:=Qa (show Rd w2 r q s (p+3)from p8.o)
  by_cases m2:m<2
  ·have q1:decide ((m:Int)<2)=true:=zx;have o:=Qa (by rw[y1.o,Qf sx,Qg<|.inl m2]:Us (Ql s) (p:Int) n=([],[],0,110));exact absurd (x0.o _ o.o) dx
  have q1:decide ((m:Int)<2)=false:=zx
  by_cases d7:6<m
  ·have q2:decide (6<(m:Int))=true:=zx;have o:=Qa (by rw[y1.o,Qf sx,Qg<|.inr d7]:Us (Ql s) (p:Int) n=([],[],0,110));exact absurd (x0.o _ o.o) dx
  have q2:decide (6<(m:Int))=false:=zx
  have x2:=Qa (ox:2<=m/\m<=6);clear m2 d7;go_wp2_with fail;go_fit(z7.o w2 r q p8.o u3);rintro e w3⟨rfl,x1,b1⟩;obtain⟨i1,f4,p9,l3⟩:=qd (g9.o.trans b1 (by intro y hy;simp at hy;subst hy;exact .inr (yx y7.o))) (f3.o.kept b1 (by simp;have:=y7.o;omega)) x1<|QS l2.o b1.size;clear x1 b1 g9 f3 p8 z7 l2
  by_cases n5:e2=0
  ·subst n5;have m4:=j0.o rfl;have p9:=Qa (show Rd w3 r q s (p+18)from p9.o)
   by_cases c6:M=0
   ·have q3:((M:Int)==0)=true:=zx;have o:=Qa (by rw[y1.o,Qf sx,Qf (yx x2.o),Qf sx,Qg c6]:Us (Ql s) (p:Int) n=([],[],0,110));exact absurd (x0.o _ o.o) dx
   have q3:((M:Int)==0)=false:=zx;have v8:IntKind.i64.wrap (m:Int)=(m:Int):=Za _ (yx x2.o);have d7:=x2.o.2;have e0:=jQ (Ql s) m (yx x2.o) M (List.range m) [] (p+18) sx (by rwa[y0.o]) sx sx;have h8:=y1.o;rw[Qf sx,Qf (yx x2.o),Qf sx,Qf c6]at h8;obtain⟨⟨C,qq,e3⟩,hC⟩:∃C,JI (Ql s) m M (List.range m) [] (p+18)=C:=⟨_,rfl⟩;rw[hC]at e0;simp only[hC]at h8;obtain⟨g0,j5,p7⟩:=qc hC e0 h8;clear h8 e0 hC y1 i8 j0 c6;go_wp2_with fail;have p5:Qb [] w3 (w3.alloc<|.cells #[(),()] 255):=(Qc _ _).alloc _;have q4:=Qx w3 [(),()] 255;obtain⟨WP,c7⟩:=qx<|w3.alloc<|.cells #[(),()] 255;obtain⟨gP,l8⟩:=qx w3.heap.size;rw[c7]at p5 q4;rw[c7];rw[l8]at q4 ⊢;obtain⟨h9,i7,x4,j8,o5⟩:=qe q4 (i1.o.trans p5 sx) (f4.o.kept p5 sx) (p9.o.kept p5<|by simp[Qq]) (by have h1:=l3.o;have h2:=y7.o;omega:r<gP/\q<gP);clear p5 q4 c7 l8 i1 f4 p9 l3;go_fit(dX m WP ox);rintro e w4⟨g,rfl,e7,p2,t1⟩;obtain⟨i6,f7,f8,j7,y9,z8⟩:=qf (i7.o.trans p2 sx) (h9.o.kept p2 sx) (x4.o.kept p2 sx) (j8.o.kept p2<|by simp[Qq]) e7.blk (by have h1:=y7.o;have h2:=o5.o;have h3:=h9.o.lt;have h4:=e7.lt g (by simp[Qd,qo]);omega:w<r/\w<q/\r<gP/\q<gP/\gP<g/\g<w4);clear e7 p2 t1 i7 h9 x4 j8;go_wp2_with fail;have j2:=Qa<|Qk w4
   go_loopg [66] M (fun k v wr=>Hid (w4.heap.size<=wr.heap.size)/\qI w s r q g gP m M (C,qq,e3) k v wr)
   ·exact⟨j2,0,p+18,[],List.range m,none,0,ox,ox,rfl,m4,sx,Qa sx,Qa g0.o.symm,Qa<|Qh.nil _ _,y9,j7,f7,f8,Qa<|by simp[Qq,fZ],i6,Qa<|by simp[Qu,fZ]⟩
   clear y9 j7 f7 f8 i6 g0 j2;obtain⟨j1,i,pp,out,x8,a9,c9,hk,hi,rfl,e6,u1,y2,y8,q0,y9,y3,h9,x4,x3,y6,HF⟩:=hrel;have Hk:=Qa hk;clear hk
   by_cases hlt:i<M
   ·have t8:(i:Int)<M:=ox;have n3:Ek (Ql s) pp ((m:Int)-1)=Xa ((m:Int)-1) 0 ((Ql s).drop pp):=(by unfold Ek;rw[Qf (yx x2.o)]);have x9:=Qa<|Qkt r q s pp ((m:Int)-1) wr y3.o ox e6;have XG:(C,qq,e3)=if(Xa ((m:Int)-1) 0<|(Ql s).drop pp).2=0 then JI (Ql s) m (M-(i+1)) (K.turned x8 (Xa ((m:Int)-1) 0<|(Ql s).drop pp).1) (out++[x8.getD (Xa ((m:Int)-1) 0<|(Ql s).drop pp).1 0]) (pp+(Xa ((m:Int)-1) 0<|(Ql s).drop pp).1+1)
     else([],0,if(Xa ((m:Int)-1) 0<|(Ql s).drop pp).2=3 then 110 else(Xa ((m:Int)-1) 0<|(Ql s).drop pp).2):=by
     rw[y8.o,(ox:M-i=(M-(i+1))+1),JI]
    have d5:=Me ((m:Int)-1) ((Ql s).drop pp) 0 (yx x2.o);have y5:=oF ((m:Int)-1) (Ql s) pp (by rwa[y0.o]);rw[n3]at x9;obtain⟨⟨u,er⟩,hU⟩:∃U,Xa ((m:Int)-1) 0 ((Ql s).drop pp)=U:=⟨_,rfl⟩;rw[hU]at x9 XG d5 y5;obtain⟨x6,b5,l1⟩:=qc XG d5 y5;clear hU XG d5 y5 n3;go_wp2_with fail;go_fit x9.o;rintro e w5⟨rfl,m7,p3⟩;obtain⟨o6,x5⟩:=qb m7 p3;clear m7 p3 x9;rcases b5.o.2 with hz|hz|hz
    ·have hz:er=0:=hz;subst hz;have hu:(u:Int)<=m-1:=b5.o.1 rfl;have y5:=l1.o rfl;rw[y0.o]at y5;have u4:pp+u+1<=8*s.size:=y5;have o7:=Qa<|show Rd w5 r q s (pp+u+1)from o6.o;obtain⟨x,hx⟩:=qy x8 u (yx y2.o);have HX:=Qa (by rw[List.getD,hx];rfl:x8.getD u 0=x);have b6:=Qa (show(C,qq,e3)=JI (Ql s) m (M-(i+1)) (K.turned x8 u) (out++[x]) (pp+u+1)by
      have hR:=x6.o;rwa[Qg<|show((u,0):Nat × Nat).2=0 from rfl,HX.o]at hR)
     obtain⟨o4,n7⟩:=qb (by have h1:=z8.o;have h2:=j1.o;omega:w<r/\w<q/\r<gP/\q<gP/\gP<g/\g<wr)<|y9.o.kept x5.o (by simp;have:=z8.o;omega);have y4:=h9.o.kept x5.o (by simp;have:=z8.o;omega);have d0:=y4.cq 1 (u:=.slice a9 out c9);obtain⟨b3,o8,o2⟩:=qc y4 (q0.o.kept x5.o (fun y hy hm=>by rw[X7]at hy;simp at hm;subst hm;exact x3.o y hy sx)) (fun(W:WD)(hb:QJ W g (Qi x8))=>show Calls prog 209 #[.slice g m m,.int .i64 u] W _ from by have h:=dV g m u x8 W (yx y2.o) (yx y2.o) (yx x2.o) (yx y2.o) hb;rwa[y2.o,HX.o]at h);have m3:g∉Qd (.slice a9 out c9)/\gP∉Qd (.slice a9 out c9):=(by rw[X7];exact⟨fun hm=>x3.o g hm sx,fun hm=>x3.o gP hm sx⟩);obtain⟨j3,g6⟩:=qb m3 (by have:=z8.o;omega:gP≠g);have L1:(Qi out).length+1<=maxLen:=(by rw[QF];simp only[maxLen];omega);have L2:((Qi out).length+1)*8<=140737488355328:=(by rw[QF];omega);clear y5 hx y4 x6 b5 l1 m3;go_wp2_with fail
     go_region_law (first
      |(refine Qji rfl _ _ 51 rfl 3 (0:Int) 8 XP XZ rfl (.slice a9 out c9) (Qi out) [.int .i64 (x:Int)] w6 1 1 rfl rfl (by simp[Value.oneCell']) o9.o s3.o (fun h=>by cases h) L1 L2 ?_;intro a7 p1 w7 e8 p4 d3;have c4:=(f5.o.alloc<|.cells #[.int .i64 (x:Int)] 3).kept p4 j3.o.2;have k0:=c4.cq 1 (u:=.slice a9 out c9);have k1:=c4.free 1;clear c4)
      |(go_simp;go_fit(o2.o _<|n7.o.kept (Qc [] w5).drew sx);rintro e w6⟨rfl,s8,t7⟩;have x7:Qb [g] w5 w6:=(Qc [g] w5).drew.trans t7 fun y hy=>.inl hy;have d6:=x7.cZ d0 (by simp;exact g6.o);have f5:=Qa<|b3.o.kept x7 (by simp;exact g6.o);have n6:=f5.o.lt;have o9:=Qa<|(o8.o.kept x7 (fun y hy hm=>by simp at hm;subst hm;exact j3.o.1 hy)).alloc<|.cells #[.int .i64 (x:Int)] 3;have s3:=Qa<|show Qp (w6.alloc<|.cells #[.int .i64 (x:Int)] 3) 1 w6 1 [.int .i64 (x:Int)]from Qp.lit (news:=[.int .i64 (x:Int)]) rfl))
     all_goals (
      go_wp2
      go_roundg (M-(i+1))
      case measure=>have:=Hk.o;omega
      have e8:Qh w7 3 (.slice a7 (out.length+1) p1) (Qi<|out++[x]):=(by have e1:Qi out++[Value.int .i64 (x:Int)]=Qi (out++[x]):=(by simp[Qi]);rw[<-e1];have h:=e8;rwa[QF]at h);have p4:Qb (Qd<|.slice a9 out c9) (w6.alloc<|.cells #[.int .i64 (x:Int)] 3) w7:=p4;have d3:QQ (w6.alloc<|.cells #[.int .i64 (x:Int)] 3).heap.size (Qd<|.slice a9 out c9) (Qd<|.slice a7 (out.length+1) p1):=(by have h:=d3;rwa[QF]at h);have l9:Qb [g] w5 (w6.alloc<|.cells #[.int .i64 (x:Int)] 3):=x7.alloc _;have s9:QJ (w6.alloc<|.cells #[.int .i64 (x:Int)] 3) g (Qi<|K.turned x8 u):=s8.kept ((Qc [] w6).alloc _) sx;obtain⟨r1,r2,r3,r4,r5,r6,r7,r8⟩:=Qbe rfl q0.o h9.o x4.o x3.o y6.o HF.o o4.o x5.o o7.o l9 s9 e8 p4 d3;have w8:=r7.size;have u8:w4.heap.size<=(w7.setCell ⟨gP,1,none⟩<|.slice a7 (out.length+1) p1).heap.size:=(by have z1:=j1.o;have z2:=x5.o.size;have z3:=l9.size;have z4:=p4.size;have z5:(w7.setCell ⟨gP,1,none⟩<|.slice a7 (out.length+1) p1).heap.size=w7.heap.size:=(by simp[World.setCell]);omega);simp only[QF];exact⟨Qa u8,i+1,pp+u+1,out++[x],K.turned x8 u,a7,p1,rfl,ox,sx,u4,zx,Qa (by rw[Ej _ _ (yx y2.o)];exact y2.o),b6,Qa r1,Qa r2,Qa r3,Qa r4,Qa r5,Qa r6,Qa r7,Qa r8⟩)
    ·have hz:er=3:=hz;subst hz;have hE:(C,qq,e3)=([],0,110):=(by rw[x6.o,Qf sx];rfl);injection hE with h5 h6;injection h6 with h6 h7;subst h7;have o:=Qa (by rw[p7.o,Qg sx]:Us (Ql s) (p:Int) n=([],[],0,110));exact absurd (x0.o _ o.o) dx
    have hz:er=10:=hz;subst hz;have hE:(C,qq,e3)=([],0,10):=(by rw[x6.o,Qf sx];rfl);injection hE with h5 h6;injection h6 with h6 h7;subst h7;have o:=Qa (by rw[p7.o,Qg sx]:Us (Ql s) (p:Int) n=([],[],0,10));exact absurd (x0.o _ o.o) dx
   obtain rfl:i=M:=ox;have u0:¬(i:Int)<i:=ox;have hE:(C,qq,e3)=(out,pp,0):=(by rw[y8.o,ZM];rfl);injection hE with h5 h6;injection h6 with h6 h7;subst h5 h6 h7;obtain⟨l5,m6,s6⟩:=j5.o rfl;have n8:=Qa (by have h:C=0+i:=l5;omega:C.length<=32767);have h8:=p7.o;rw[Qf sx]at h8;obtain⟨⟨TT,tq,e4⟩,hD⟩:∃D,Rq (Ql s) n m [] qq=D:=⟨_,rfl⟩;simp only[hD]at h8;have b4:=Qa h8;have HD:=Qa hD;have hq:qq<=(Ql s).length:=m6;have g5:=Qa (show BO wr [w.heap.size,gP] a9 C (Qi C)from fun w' hw=>by
    refine q0.o.sZ.kept hw fun y hy hm=>x3.o y hy ?_
    simp at hm;rcases hm with rfl|rfl<;>simp)
   have o1:=Qa (by have:=z8.o;omega:w<gP);have HS:=y3;clear h8 hD p7 j5 s6 l5 m6 y8 y9 x3 e6 u1;go_wp2_with fail;go_fit(at_ok r q s qq wr<|by exact y3.o);rintro e w5⟨rfl,rfl⟩
   go_wp2
   go_loopg [1,94] m (fun k v1 v wr=>qJ w gP (.slice a9 C c9) a9 C C (Ql s) n m (TT,tq,e4) k v1 v wr)
   ·exact⟨0,qq,[],[],none,0,ox,ox,rfl,rfl,hq,Qa ⟨rfl,sx⟩,Qa HD.o.symm,Qa<|Qh.nil _ _,Qa<|ZJ.nil _ _,g5,h9,x4,Qa<|by simp[Qq,fZ],y6,Qa<|by simp[Qu,fZ]⟩
   clear h9 x4 g5 HD hq q0 y3 HS y6 HF;obtain⟨i2,q2,T,vs,a8,c8,hk,hi,rfl,rfl,hq,l0,y8,p0,j9,g2,h9,x4,x3,y6,HF⟩:=hrel;have s4:=Qa hk;clear hk
   by_cases hlt:i2<m
   ·have t8:(i2:Int)<m:=ox;have x9:=Qa<|yR s (q2:Int) n wr hs;have XG:(TT,tq,e4)=if(Jw (Ql s) (q2:Int) n).2.2≠0 then([],0,(Jw (Ql s) (q2:Int) n).2.2)else if XM (Jw (Ql s) (q2:Int) n).1 then Rq (Ql s) n (m-(i2+1)) (T++[(Jw (Ql s) (q2:Int) n).1]) (Jw (Ql s) (q2:Int) n).2.1 else([],0,80):=by rw[y8.o,(ox:m-i2=(m-(i2+1))+1),Rq]
    have d9:=Qc4 (Ql s) (q2:Int) n;obtain⟨⟨t,tp,e5⟩,hD⟩:∃D,Jw (Ql s) (q2:Int) n=D:=⟨_,rfl⟩;rw[hD]at x9 XG d9;obtain⟨x6,j4⟩:=qb XG d9;clear XG d9 hD
    by_cases e9:e5=0
    ·subst e9;obtain⟨n0,n1⟩:=j4.o rfl;have v6:t=n.toNat:=n0;have v7:tp<=(Ql s).length:=n1;have f9:=Qa<|x9.o rfl;clear x9 j4 n0 n1;go_wp2_with fail;go_fit f9.o;rintro e w5⟨a5,c5,rfl,m8,p3,l7⟩;obtain⟨j6,x5,o0⟩:=qc (show Qh w5 3 (.slice a5 t c5) (QO t)from m8) p3<|show Qu wr (fZ a5)from l7;clear m8 p3 l7 f9;have s2:=Qa<|j6.o.sZ;have u9:t.length<=258:=(yx HN.o);clear v6;cases hg:XM t with
     |false=>have HC:=Qa (by unfold Uy;rw[hg];rfl:Uy t=80);have hE:(TT,tq,e4)=([],0,80):=(by rw[x6.o,Qf sx,hg];rfl);injection hE with h5 h6;injection h6 with h6 h7;subst h7;have o:=Qa (by rw[b4.o,Qg sx]:Us (Ql s) (p:Int) n=([],[],0,80));exact absurd (x0.o _ o.o) dx
     |true=>
      obtain⟨HC,b6⟩:=qb (by unfold Uy;rw[hg];rfl:Uy t=0) (show(TT,tq,e4)=Rq (Ql s) n (m-(i2+1)) (T++[t]) tp by rw[x6.o,Qf sx,hg];rfl);have u6:=p0.o.kept x5.o sx;have p6:=p0.o.len;have L1:vs.length+1<=maxLen:=(by rw[p6];simp only[maxLen];omega);have L2:(vs.length+1)*24<=140737488355328:=(by rw[p6];omega);have y4:=h9.o.kept x5.o sx;have d0:=y4.cq 0 (u:=.slice a8 i2 c8);obtain⟨b3,o3⟩:=qb y4 (show gP∉Qd (.slice a8 i2 c8)by rw[X7];exact fun hm=>x3.o gP hm sx);clear hg x6 p6 y4;go_wp2_with fail;go_fit(Gv a5 c5 t _ s2.o ox);rintro e w6⟨rfl,rfl⟩;rw[HC.o];go_wp2_with ((at_builtin;refine Vn _ rfl _ _ 253 rfl 51 () 24 No IL rfl _ _ [.slice a5 t c5] 1 rfl rfl rfl rfl (by simp[Value.oneCell']) u6 L1 L2 ?_;intro a6 s5 w6 u5 x7 t6;have x7:Qb (Qd<|.slice a8 i2 c8) w5 w6:=x7;have b9:=b3.o.kept x7 o3.o;have k0:=b9.cq 0 (u:=.slice a8 i2 c8);have k1:=b9.free 0;clear b9))
      go_roundg (m-(i2+1))
      ·have p6:=p0.o.len;obtain⟨r1,r2,r3,r4,r5,r6,r7,r8⟩:=Qh6 p0.o j9.o g2.o h9.o x4.o x3.o y6.o HF.o o1.o x5.o j6.o o0.o u5 x7 t6;obtain⟨k5,k6⟩:=l0.o;rw[p6];refine⟨i2+1,tp,T++[t],_,a6,s5,rfl,ox,sx,rfl,v7,Qa ⟨by rw[Qo,k5];rfl,fun u hu=>?_⟩,b6,Qa r1,Qa r2,Qa r3,Qa r4,Qa r5,Qa r6,Qa r7,Qa r8⟩;rcases Q4.1 hu with h|h
       ·exact k6 u h
       rwa[Zb.1 h]
      have:=s4.o;omega
    have q5:((e5:Int) != 0)=true:=Rf.2 ox;have q6:((e5:Int)==0)=false:=zx;have hE:(TT,tq,e4)=([],0,e5):=(by rw[x6.o,Qg e9]);injection hE with h5 h6;injection h6 with h6 h7;subst h7;have o:=Qa (by rw[b4.o,Qg e9]:Us (Ql s) (p:Int) n=([],[],0,e4));exact absurd (x0.o _ o.o) (by assumption)
   obtain rfl:m=i2:=ox;have u0:¬(m:Int)<m:=ox;have hE:(TT,tq,e4)=(T,q2,0):=(by rw[y8.o,ZM];rfl);injection hE with h5 h6;injection h6 with h6 h7;subst h5 h6 h7;have o:=Qa (by rw[b4.o,Qf sx]:Us (Ql s) (p:Int) n=(TT,C,tq,0));have d0:=h9.o.cq 0 (u:=.slice a8 m c8);have d1:=h9.o.cq 1 (u:=.slice a9 C c9);obtain⟨r0,r1,f0,f1,s0,s1⟩:=x4.o.six (.slice a8 m c8)<|.slice a9 C c9;go_wp2_with fail;refine Zj (v:=.tuple #[ZL a8 m c8 a9 C c9,(tq:Nat),(0:Int)]) (by simp[results,results181,go_sem,ZL,s0,s1]) rfl ?_;have b2:Qb [w.heap.size] wr ((wr.setCell ⟨w.heap.size,0,none⟩<|.slice a8 m c8).setCell ⟨w.heap.size,1,none⟩<|.slice a9 C c9):=((Qc [w.heap.size] wr).setCell (p:=w) sx _).setCell (p:=⟨w.heap.size,1,none⟩) sx _;obtain⟨WF,s7⟩:=qx<|(wr.setCell ⟨w.heap.size,0,none⟩<|.slice a8 m c8).setCell ⟨w.heap.size,1,none⟩<|.slice a9 C c9;rw[s7]at b2 ⊢;have m9:Qb (w.heap.size::gP::fZ a8) wr WF:=b2.mono (by intro x hx;simp at hx;simp[hx]);obtain⟨k5,k6⟩:=l0.o;have u7:Qp WF 1 a8 m vs:=p0.o.sZ.kept b2 fun x hx hm=>x3.o x hx (by simp at hm;simp[hm]);have hM:=j9.o.seesM m9 u7;rw[o.o];have l4:=g2.o WF m9;rw[Dd]at l4;refine⟨a8,c8,a9,c9,by rw[<-k5];rfl,⟨by rwa[k5],by rwa[QH],by rw[k5];have:=x2.o;omega,by rw[QH];exact QS n8.o dx,fun t ht=>by have:=k6 t ht;omega⟩,y6.o.trans b2 (by intro x hx;simp at hx;subst hx;exact .inr<|Qk _)⟩
  have q3:((e2:Int) != 0)=true:=Rf.2 ox;have o:=Qa (by rw[y1.o,Qf sx,Qf (yx x2.o),Qg n5]:Us (Ql s) (p:Int) n=([],[],0,e2));exact absurd (x0.o _ o.o) (by assumption)
 have q1:((e1:Int) != 0)=true:=Rf.2 ox;have o:=Qa (by rw[y1.o,Qg n4]:Us (Ql s) (p:Int) n=([],[],0,e1));exact absurd (x0.o _ o.o) (by assumption)
namespace K
def Jk(t g:LN):Nat:=(g.map fun c=>t.getD c 0).sum
def NU(t b)(h:∀x∈t,x<=b):∀g:LN,Jk t g<=b*g.length
 | []=>by simp[Jk]
 |s::r=>by
  have c:=NU t b h r;unfold Jk at c ⊢;rw[QV,Xm,QW,EJ,RW];have:t.getD s 0<=b:=by
   rw[List.getD];cases hs:t[s]? with
   |none=>simp
   |some x=>exact h x<|QB hs
  omega
def yB(t g s):Jk t (g++[s])=Jk t g+t.getD s 0:=by simp[Jk]
def yC(t g:LN)(j s)(h:g[j]?=some s):Jk t (g.take<|j+1)=Jk t (g.take j)+t.getD s 0:=by rw[Zh,h];exact yB t _ s
def Vw(T:List LN)(g:LN):Nat->Nat
 |0=>0
 |t+1=>if Jk (T.getD (t+1) []) g<Jk (T.getD (Vw T g t) []) g then t+1 else Vw T g t
def Ny(T g):∀t,Vw T g t<=t
 |0=>Qk _
 |t+1=>by
  rw[Vw]
  split
  ·exact Qk _
  exact Nat.le_succ_of_le<|Ny T g t
def Jj(L P:LN)(t n i:Nat):LN:=(List.range n).map fun d=>(List.range i).countP fun c=>P.getD (c/50) 0==t&&L.getD c 0==d
def R9(L P t n i):(Jj L P t n i).length=n:=by simp[Jj]
def xG(L P t n):Jj L P t n 0=List.replicate n 0:=by
 unfold Jj;apply XB;intro d
 by_cases c:d<n
 ·simp[Xl c,c]
 rw[QU zx,QU zx]
def NK(L P t n i s)(h:s<n):(Jj L P t n i)[s]?=some ((List.range i).countP fun j=>P.getD (j/50) 0==t&&L.getD j 0==s):=by simp[Jj,Xl h]
def Ku(L P t n i):∀c∈Jj L P t n i,c<=i:=by intro c d;obtain⟨e,-,rfl⟩:=QA.1 d;have:=List.countP_le_length (p:=fun d=>P.getD (d/50) 0==t&&L.getD d 0==e) (l:=List.range i);rwa[VK]at this
def xE(L P t n i x)(hp:P.getD (i/50) 0=t)(d:L[i]?=some x)(c)(e:(Jj L P t n i)[x]?=some c):(Jj L P t n i).set x (c+1)=Jj L P t n (i+1):=by
 apply XB;intro g;have h:L.getD i 0=x:=by rw[List.getD,d];rfl
 rw[Je]
 by_cases hs:g<n
 ·rw[NK _ _ _ _ _ _ hs,NK _ _ _ _ _ _ hs,J5,List.countP_append]
  by_cases d:x=g
  ·subst d;rw[NK _ _ _ _ _ _ hs]at e;injection e with e;rw[Qg rfl,Qg<|by rwa[R9],<-e,Te];simp only[hp,h,beq_self_eq_true,Bool.and_true,Cg]
  rw[Qf d,Te,h];have e:(x==g)=false:=by simp[d]
  rw[e,Mp];simp
 by_cases d:x=g
 ·subst d;rw[Qg rfl,Qf (by rw[R9];omega),QU (by rw[R9];omega)]
 rw[Qf d,QU (by rw[R9];omega),QU (by rw[R9];omega)]
def xF(L P t n i)(hp:P.getD (i/50) 0≠t):Jj L P t n (i+1)=Jj L P t n i:=by
 unfold Jj;apply YT;intro c _;rw[J5,List.countP_append,Te];have c:(P.getD (i/50) 0==t)=false:=by simpa using hp
 rw[c,Mq];simp
def CY(n m:Nat):List LN:=(List.range m).map fun d=>(List.range n).map fun c=>if c*m/n=d then 1 else 15
def Dh(T:List LN)(L:LN)(m:Nat):LN:=(List.range (ZP L.length)).map fun k=>Vw T (XF L k) (m-1)
def jS(T L m):(Dh T L m).length=ZP L.length:=by simp[Dh]
def Qf3(T L m k)(h:k<ZP L.length):(Dh T L m)[k]?=some (Vw T (XF L k)<|m-1):=by simp[Dh,Xl h]
def Qf4(T L m)(c:0<m):∀x∈Dh T L m,x<m:=by intro x c;obtain⟨k,-,rfl⟩:=QA.1 c;have:=Ny T (XF L k)<|m-1;omega
noncomputable def Db(c:LN):LN:=(Classical.choose (GQ (c.map fun c:Nat=>(c:Int)) 17)).1
def gF(d)(e:2<=d.length)(h:d.length<=258)(hw:∀c∈d,c<=1073741824):EG (d.map fun c:Nat=>(c:Int)) 17 (Db d,0):=by
 have g:=Classical.choose_spec<|GQ (d.map fun c:Nat=>(c:Int)) 17;have i:YA (d.map fun c:Nat=>(c:Int))=true:=by unfold YA;rw[QH,XE e,XE h,Rt,Rt,Yb];intro e h;obtain⟨c,e,rfl⟩:=QA.1 h;have:=hw c e;rw[ZE];omega
 have h0:(Classical.choose<|GQ (d.map fun c:Nat=>(c:Int)) 17).2=0:=by
  rcases g with⟨e,-⟩|⟨-,e,-⟩
  ·rw[i]at e;simp[By]at e
  exact e
 unfold Db;rwa[show((Classical.choose<|GQ (d.map fun c:Nat=>(c:Int)) 17).1,0)=Classical.choose (GQ (d.map fun c:Nat=>(c:Int)) 17)from Prod.ext rfl h0.symm]
def OS(d)(e:2<=d.length)(g:d.length<=258)(hw:∀c∈d,c<=1073741824):(Db d).length=d.length/\(∀x∈Db d,1<=x/\x<=17)/\Br ((Db d).map fun c:Nat=>(c:Int))=true:=by obtain⟨-,a,b,c⟩:=(gF d e g hw).ok rfl;rw[QH]at a;exact⟨a,fun x d=>by have:=b x d;omega,c⟩
noncomputable def Fy(L:LN)(n m:Nat)(P:LN):List LN:=(List.range m).map fun c=>Db (Jj L P c n L.length)
noncomputable def AW(L:LN)(n m:Nat):Nat->List LN
 |0=>CY n m
 |r+1=>Fy L n m (Dh (AW L n m r) L m)
noncomputable def RG(L:LN)(n m:Nat):Nat->LN
 |0=>List.replicate (ZP L.length) 0
 |r+1=>Dh (AW L n m r) L m
def Ie(n m:Nat)(T:List LN):Prop:=T.length=m/\∀c∈T,c.length=n/\∀d∈c,d<=20
def eW(n m):Ie n m (CY n m):=by
 refine⟨by simp[CY],fun c c=>?_⟩;obtain⟨k,-,rfl⟩:=QA.1 c;refine⟨sx,fun c c=>?_⟩;obtain⟨d,-,rfl⟩:=QA.1 c
 split<;>omega
def Qjh(L P n m)(c:3<=n/\n<=258)(c:L.length<=1638350):Ie n m (Fy L n m P):=by refine⟨by simp[Fy],fun c c=>?_⟩;obtain⟨k,-,rfl⟩:=QA.1 c;obtain⟨a,b,-⟩:=OS (Jj L P k n L.length) (by rw[R9];omega) (by rw[R9];omega) (fun c d=>by have:=Ku L P k n L.length c d;omega);exact⟨by rw[a,R9],fun d c=>by have:=b d c;omega⟩
def Sq(L n m)(d:3<=n/\n<=258)(c:L.length<=1638350):∀r,Ie n m (AW L n m r)
 |0=>eW n m
 |r+1=>Qjh L _ n m d c
def Pz(L n m r):(RG L n m r).length=ZP L.length:=by
 cases r with
 |zero=>simp[RG]
 |succ r=>exact jS _ _ _
def KP{α}(l:List α)(k):(XF l k).length=min 50 (l.length-50*k):=by simp[XF]
def Qbf{α}(l:List α)(k j)(h:j<(XF l k).length):(XF l k)[j]?=l[50*k+j]?:=by rw[KP]at h;unfold XF;rw[BT,Qg ox,Ut]
def dZ{α c}(f:α->c)(l k):XF (l.map f) k=(XF l k).map f:=by simp[XF,Ey,List.map_drop]
end K
def SX(xs:LV)(k:Nat)(w:WD)(e:Ending)(w':WD):Prop:=
 ∃c d,e=.returned (.slice c (XF xs k).length d)/\Qp w 1 c (XF xs k).length (XF xs k)/\w=w'
def SY(a:OA)(xs:LV)(k:Nat)(w:WD)(e:Ending)(w':WD):Prop:=
 ∃c d,e=.returned (.slice c (XF xs k).length d)/\Qp w 1 c (XF xs k).length (XF xs k)/\w=w'/\fZ c=fZ a
def dU(a c k xs w)(h:Qp w 1 a xs.length xs)(d:xs.length<=c)(d:c<=maxLen)(hk:50*k<xs.length)(d:xs.length<=10000000):
 Calls prog 252 #[.slice a xs.length c,k] w (SY a xs k w):=by
 have⟨d,m⟩:=qx<|50*k+(XF xs k).length;have i:=KP xs k;obtain⟨b,off,rfl,-⟩:=h.at ox;have g:=h.part (50*k) (XF xs k).length ox (a':=some ⟨b,off+50*k,none⟩) (by rintro-b' off' e;injection e with e;injection e with j h2;subst j h2;rfl);have e:(xs.drop<|50*k).take (XF xs k).length=XF xs k:=by rw[i];unfold XF;rw[List.take_eq_take_iff,YN];omega
 rw[e]at g;have l:=Qa g;obtain⟨_,_,_,_,_,_,_⟩:min (xs:Int) (((k:Int)+1)*50)=(d:Int)/\(0:Int)<=k*50/\(k:Int)*50<=(d:Int)/\(d:Int)<=c/\((k:Int)*50).toNat=50*k/\¬50*k=c/\((d:Nat):Int).toNat=d:=ox
 have j:=Qa (ox:d-50*k=(XF xs k).length);go_enter func252,ntmps252
 go_wp2
 go_ret;rw[j.o];exact⟨_,_,rfl,l.o,rfl,rfl⟩
def Qbb(a c k xs w)(h:Qp w 1 a xs.length xs)(d:xs.length<=c)(e:c<=maxLen)(hk:50*k<xs.length)(g:xs.length<=10000000):
 Calls prog 252 #[.slice a xs.length c,k] w (SX xs k w):=by
 go_fit(dU a c k xs w h d e hk g);rintro d d⟨d,e,g,i,j,-⟩;exact⟨d,e,g,i,j⟩
def XJ.nat{w a n}{T:List LN}(h:XJ w a n (T.map Qi)){i t}(hi:T[i]?=some t):
 ∃b off ar c,a=some ⟨b,off,none⟩/\w.cell? ⟨b,off+i,none⟩=some (.slice ar t.length c)/\Qp w 1 ar t.length (Qi t)/\t.length<=c/\c<=maxLen:=by
 have:=h.at i (Qi t) (by rw[Zz,hi];rfl);rwa[QF]at this
def Qbg(L:LN)(k)(h:k<ZP L.length):50*k<L.length:=by unfold ZP at h;omega
def Qa1(gL gP gT m c n t k:Nat)(aL L T w)(h0:w.cell? gL=some (.slice aL L.length c))(o:Qp w 1 aL L.length (Qi L))(hc:L.length<=c)(y1:c<=maxLen)(h2:w.cell? gP=some (.slice gT m m))(q:XJ w gT m (T.map Qi))(hT:Ie n m T)(ht:t<m)(hm:m<=6)(hk:50*k<L.length)(hl:L.length<=1638350)(hL:∀s∈L,s<n)(hn:n<=258):
 Calls prog 251 #[t,.int .i64 k,.pointer gL,.pointer gP] w fun e w'=>e=.returned (.int .i64 (Jk (T.getD t []) (XF L k):Nat))/\w=w':=by
 obtain⟨row,y⟩:∃r,T[t]?=some r:=⟨_,Qj<|by rwa[hT.1]⟩;obtain⟨y3,x3⟩:=hT.2 row<|QB y;rw[show T.getD t []=row by rw[List.getD,y];rfl];obtain⟨b,off,ar,cr,hb,d0,x5,-,-⟩:=q.nat y;injection hb with hb;injection hb with x9 hb2;subst x9 hb2;rw[Zu]at d0;have x1:=NU row 20 x3;have G:=Qbb aL c k (Qi L) w (by rwa[QF]) (by rwa[QF]) y1 (by rwa[QF]) (by rw[QF];omega);rw[QF]at G;have x2:XF (Qi L) k=Qi (XF L k):=dZ _ _ _;have y2:(XF L k).length<=50:=by rw[KP];omega
 have h5:∀s∈XF L k,s<row.length:=by intro s hs;rw[y3];exact hL s<|MD<|Rv hs
 unfold SX at G;rw[x2,QF]at G;have⟨g,hg⟩:=qx<|XF L k;rw[hg]at G y2 h5 ⊢;have⟨HG,HC,x6,x8⟩:=qd G x1 h5 x5;have y8:(t:Int)<m:=ox
 go_enter func251,ntmps251;go_wp2_with fail;go_fit HG.o;rintro e w2⟨a2,c2,rfl,x4,rfl⟩;have x7:=Qa x4
 go_wp2
 go_loopg [7,14] g (fun k v7 v wr=>∃j:Nat,k=g.length-j/\j<=g/\v=.int .i64 (j:Nat)/\v7=.int .i64 (Jk row (g.take j):Nat)/\w=wr)
 ·exact⟨0,ox,ox,rfl,by simp[Jk],rfl⟩
 obtain⟨j,hk,hj,rfl,rfl,rfl⟩:=hrel;have Hk:=Qa hk;have y0:Jk row (g.take j)<=1000:=by
  have o:=HC.o<|g.take j;have h2:=Tj j g;have q:(g.take j).length<=50:=by rw[Zd];omega
  have h4:20*(g.take j).length<=20*50:=Tx _ q;omega
 by_cases hlt:j<g
 ·have y5:(j:Int)<g.length:=ox
  have⟨s,hs⟩:=qy g j hlt;have y4:=x6.o s<|QB hs;have y7:(s:Int)<row.length:=ox
  obtain⟨b2,o2,rfl,h9⟩:=x7.o.at (by rw[QF];omega);have e0:=h9 j _<|BB hs;obtain⟨b3,o3,rfl,x0⟩:=x8.o.at (by rw[QF];omega);have⟨x,hx⟩:=qy row s y4;have e1:=x0 s _<|BB hx;have h8:=Qa (by rw[yC row g j s hs,List.getD,hx];rfl:Jk row (g.take<|j+1)=Jk row (g.take j)+x);have y9:x<=1000:=by have o:=HC.o [s];have h2:Jk row [s]=x:=(by simp[Jk,hx]);rw[h2]at o;simp at o;omega
  have⟨S,hS⟩:=qx<|Jk row<|g.take j;rw[hS]at h8 y0 ⊢
  go_wp2
  go_roundg (g.length-(j+1))
  ·exact⟨j+1,rfl,ox,sx,by rw[h8.o];simp,rfl⟩
  have:=Hk.o;omega
 obtain rfl:j=g:=ox
 have y6:¬(g:Int)<g.length:=ox
 go_wp2
 go_ret;exact⟨sx,rfl⟩
def Q0(l:LN):LI:=l.map fun c:Nat=>(c:Int)
def XS(l):(Q0 l).length=l.length:=by simp[Q0]
def Bl(l):QO (Q0 l)=Qi l:=(Dd l).symm
def ZJ.seesN{w w' F c}{T:List LN}(h:ZJ w F c (T.map Q0))(hk:Qb F w w'){a n}(hs:Qp w' 1 a n c):XJ w' a n (T.map Qi):=by have:=h.seesM hk hs;rwa[Xv,show(QO∘Q0)=Qi from funext Bl]at this
def ZJ.setRow{w0 w:WD}{F d T}(h:ZJ w F d T)(n:∀x∈F,x<w0.heap.size){b c i gT t}(g:Qh w 3 (.slice b t.length c) (QO t))(hf:Qu w0.heap.size (fZ b))(e:gT∈F):
 ZJ (w.setCell ⟨gT,i,none⟩<|.slice b t.length c) F (d.set i<|.slice b t.length c) (T.set i t):=by
 have hk:Qb F w (w.setCell ⟨gT,i,none⟩<|.slice b t c):=(Qc F w).setCell (p:=⟨gT,i,none⟩) (.inl e) _;refine⟨by simp[h.1],fun m s r d e=>?_⟩;rw[Je]at d e
 by_cases j:i=m
 ·rw[Qg j]at d e
  split at d
  ·split at e
   ·obtain rfl:=Option.some.inj d;obtain rfl:=Option.some.inj e;obtain⟨a2,c2,l,k1,k2,-,-⟩:=g.sees;rw[Xx]at l k1;injection l with l e2 e3;subst e3;refine⟨b,c,rfl,k1,k2,fun l hw=>?_⟩;exact(g.kept (hk.trans hw fun x g=>.inl g) (fun x g o=>by rw[X7]at g;have:=hf x g;have:=n x o;omega)).sZ
   cases e
  cases d
 rw[Qf j]at d e;obtain⟨j,c2,n,o,q,h6⟩:=h.2 m s r d e;exact⟨j,c2,n,o,q,fun l hw=>h6 l<|hk.trans hw fun x g=>.inl g⟩
def nI(x:Nat)(h:1<=x):(YC (x:Int)).2=0/\2<=(YC (x:Int)).1/\(YC (x:Int)).1<=6:=by
 unfold YC;rw[Qf ox]
 split
 ·simp
 split
 ·simp
 split
 ·simp
 split<;>simp
def iD{α:Type}(A c:List α)(i)(x:α)(d:A[i]?=some x)(hi:i<c.length):(A.take i++c.drop i).set i x=A.take (i+1)++c.drop (i+1):=by
 have:=(Qy.1 d).1;have c:(A.take i).length=i:=by rw[Zd];omega
 rw[MH,Qf ox,c,ZM,Zh,d,QR,Xf hi];rfl
def iC{α:Type}(A c:List α)(h:A.length=c.length):A.take A.length++c.drop A.length=A:=by rw[VM,Jq ox,XX]
def Qcc(n m t)(h:t<m):(CY n m)[t]?=some ((List.range n).map fun s=>if s*m/n=t then 1 else 15):=by simp[CY,Xl h]
def ZJ.snocA{w F i T}(h:ZJ w F i T){b c t}(l:Qh w 3 (.slice b t.length c) (QO t))(hap:Qq (fZ b) F):
 ZJ w F (i++[.slice b t.length c]) (T++[t]):=by
 refine⟨by simp[h.1],fun j n m d e=>?_⟩;rcases Xw j i with g|g
 ·rw[Xc g]at d;rw[Xc<|by rwa[<-h.1]]at e;exact h.2 j n m d e
 rw[Zm g]at d;rw[Zm<|by rwa[<-h.1]]at e;have h0:j-i.length=0:=by have:=(Qy.1 d).1;simp at this;omega
 rw[h0]at d;rw[<-h.1,h0]at e;simp at d e;subst d e;obtain⟨a2,c2,d,k1,k2,-,-⟩:=l.sees;rw[Xx]at d k1;injection d with d e2 e3;subst e3;exact⟨b,c,rfl,k1,k2,fun d hw=>(l.kept hw (fun g d e=>by rw[X7]at d;exact hap g d e)).sZ⟩
def ZJ.less{w F F2 c T}(h:ZJ w F c T)(d:∀x∈F2,x∈F):ZJ w F2 c T:=h.step (Qc _ _) fun x c=>.inl<|d x c
