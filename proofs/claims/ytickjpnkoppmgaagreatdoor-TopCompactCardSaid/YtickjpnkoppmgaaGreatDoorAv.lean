import Derived.Test.YtickjpnkoppmgaaGreatDoorAu
set_option linter.all false
namespace Go.Proofs.YtickjpnkoppmgaaGreatDoor
open Go.Proofs.Tryz Go.RowKit K
def mX(w:WD)(s:BA)(r j g i m d:Nat)(R:LN × Nat × Nat)(k:Nat)(v:VL)(wr:WD):Prop:=
 ∃(a f:Nat)(b e:LN)(c:OA)(h:Nat),k=d-a∧a≤d∧v=.int .u64 (a:Nat)∧f≤8*s.size∧b.length≤a∧Hid (e.length=m)∧Hid (R=Ji (Qk s) m (d-a) e b f)∧
  Hid (Qh wr 3 (.slice c b.length h) (Qi b))∧Hid (QK wr g (Qi e))∧Hid (Rd wr r j s f)∧Hid (Qe wr i 255 [.slice none 0 0,.slice c b.length h])∧Hid (Qe wr w.heap.size 255 [.slice none 0 0,.slice none 0 0])∧
  Hid (Qq (fZ c) [w.heap.size,r,j,i,g])∧Hid (Qb [] w wr)∧Hid (Qs w.heap.size (fZ c))
def yC{w wr w3 w4 w5 s r q g gP n p a a5 c c5 x o x1}(hn:n=o.length)(hR:Qh wr 3 (.slice a o.length c) (Qi o))(hA:Qe wr gP 255 [.slice none 0 0,.slice a o.length c])(hB:Qe wr w.heap.size 255 [.slice none 0 0,.slice none 0 0])(hap:Qq (fZ a) [w.heap.size,r,q,gP,g])(hK:Qb [] w wr)(hF:Qs w.heap.size (fZ a))(x8:w.heap.size<r∧w.heap.size<q∧r<gP∧q<gP∧gP<g∧g<wr.heap.size)(h8:Qb [r] wr w3)(y0:Rd w3 r q s p)(h3:Qb [g] w3 w4)(x6:QK w4 g (Qi x1))(x9:Qh w5 3 (.slice a5 (o.length+1) c5) (Qi<|o++[x]))(h1:Qb (Qd<|.slice a o.length c) w4 w5)(h5:QP w4.heap.size (Qd<|.slice a o.length c) (Qd<|.slice a5 (o.length+1) c5)):
 Qh (w5.setCell ⟨gP,1,none⟩<|.slice a5 (o.length+1) c5) 3 (.slice a5 (o++[x]).length c5) (Qi<|o++[x])∧QK (w5.setCell ⟨gP,1,none⟩<|.slice a5 (o.length+1) c5) g (Qi x1)∧Rd (w5.setCell ⟨gP,1,none⟩<|.slice a5 (o.length+1) c5) r q s p∧
  Qe (w5.setCell ⟨gP,1,none⟩<|.slice a5 (o.length+1) c5) gP 255 [.slice none 0 0,.slice a5 (o++[x]).length c5]∧Qe (w5.setCell ⟨gP,1,none⟩<|.slice a5 (o.length+1) c5) w.heap.size 255 [.slice none 0 0,.slice none 0 0]∧
  Qq (fZ a5) [w.heap.size,r,q,gP,g]∧Qb [] w (w5.setCell ⟨gP,1,none⟩<|.slice a5 (o.length+1) c5)∧Qs w.heap.size (fZ a5):=by
 have e:(o++[x]).length=o.length+1:=by simp
 rw[XK]at h1 h5;rw[XK]at h5;obtain⟨o1,o2,o3,o4,o5,o6⟩:=x8;have z3:=h8.size;have z4:=h3.size;have h2:∀y∈[w.heap.size,r,q,gP,g],y∉fZ a:=fun y hy hm=>hap y hm hy
 have x2:=(hA.kept h8 (by simp;omega)).kept h3 (by simp;omega);have x4:=(hB.kept h8 (by simp;omega)).kept h3 (by simp;omega);have y1:=y0.kept h3 (by intro y hy hm;simp at hy hm;omega);have x3:=x2.kept h1 (h2 gP<|by simp);have x5:=x4.kept h1 (h2 _<|by simp);have y2:=y1.kept h1 (by intro y hy hm;simp at hy;rcases hy with rfl|rfl;exact h2 y (by simp) hm;exact h2 y (by simp) hm);have x7:=x6.kept h1 (h2 g<|by simp);have h4:Qb [gP] w5 (w5.setCell ⟨gP,1,none⟩<|.slice a5 (o.length+1) c5):=(Qc [gP] w5).setCell (p:=⟨gP,1,none⟩) (by simp) _;have x0:Qq (fZ a5) [w.heap.size,r,q,gP,g]:=by
  intro y hy hm;rcases h5 y hy with h|h
  ·exact hap y h hm
  simp at hm;omega
 have h9:Qb [] w w4:=(hK.trans h8 (by intro y hy;simp at hy;omega)).trans h3 (by intro y hy;simp at hy;omega);refine⟨?_,x7.kept h4 (by simp;omega),y2.kept h4 (by intro y hy hm;simp at hy hm;omega),?_,x5.kept h4 (by simp;omega),x0,(h9.new h1 hF).trans h4 (by intro y hy;simp at hy;omega),hF.grow h5 h9.size⟩
 ·rw[e];exact x9.kept h4 (fun y hy hm=>by rw[XK]at hy;simp at hm;subst hm;exact x0 y hy<|by simp)
 rw[e];exact x3.set 1 _
def mY(w:WD)(d:Nat)(j:VL)(i:OA)(h:Nat)(C:LN)(bs:LB)(n:Int)(many:Nat)(R:List LI × Nat × Nat)(k:Nat)(l v:VL)(wr:WD):Prop:=
 ∃(a e:Nat)(c:List LI)(g:LV)(b:OA)(f:Nat),k=many-a∧a≤many∧v=.int .u64 (a:Nat)∧l=.int .i64 (e:Nat)∧e≤bs.length∧Hid (c.length=a∧∀l∈c,l.length≤258)∧Hid (R=VZ bs n (many-a) c e)∧
  Hid (Qh wr 51 (.slice b a f) g)∧Hid (Zy wr (w.heap.size::d::fZ b) g c)∧Hid (Bj wr (w.heap.size::d::fZ b) i h (Qi C))∧Hid (Qe wr d 255 [.slice b a f,j])∧Hid (Qe wr w.heap.size 255 [.slice none 0 0,.slice none 0 0])∧
  Hid (Qq (fZ b) [w.heap.size,d])∧Hid (Qb [] w wr)∧Hid (Qs w.heap.size (fZ b))
set_option maxRecDepth 100000 in
set_option maxHeartbeats 4000000 in
def yJ(s:BA)(at_ n:Int)(w)(hs:s.size≤1000000000):
 Calls prog 181 #[s,at_,n] w (Yh (Uy (Qk s) at_ n) w):=by
 have m0:=XD s;have hk:Qb [] w (w.alloc<|.cells #[.slice none 0 0,.slice none 0 0] 255):=(Qc _ _).alloc _;have hA:=Qy w [.slice none 0 0,.slice none 0 0] 255;obtain⟨HK,HA,y6⟩:=qc hk hA m0;clear hk hA m0
 by_cases h1:at_<0∨(8*s.size:Nat)<at_
 ·have HR:=Qa<|OZ (bs:=Qk s) (at_:=at_) (n:=n) (by rw[y6.o];omega);go_enter func181,Mg;go_wp2_with fail;refine(Kn s at_ _ (by omega) h1).mono ?_;rintro e w1⟨rfl,n5⟩;have x1:Qb [] (w.alloc<|.cells #[.slice none 0 0,.slice none 0 0] 255) w1:=by rw[n5];exact(Qc _ _).alloc _
  obtain⟨y4,y2⟩:=qb (HK.o.trans x1<|by simp) (HA.o.kept x1<|by simp);clear n5 x1 h1;have o:=y2.o;obtain⟨r0,r1,f0,f1,s0,s1⟩:=o.six (.slice none 0 0)<|.slice none 0 0;clear o;go_wp2_with fail;refine Q5 (v:=.tuple #[QZ none 0 0 none 0 0,(0:Int),(2:Nat)]) (by simp[results,Rv,go_sem,QZ,s0,s1]) rfl ?_;exact Yh.err HR.o (by rfl) (y4.o.set2<|.inr<|by simp)
 obtain⟨p,rfl⟩:=X7 (by omega:0≤at_);have d5:p≤8*s.size:=by omega
 clear h1
 by_cases h3:n<3
 ·have g3:decide (n<3)=true:=Xs h3;have HR:=Qa<|OZ (bs:=Qk s) (at_:=(p:Int)) (n:=n)<|.inr<|.inr<|.inl h3;go_enter func181,Mg;go_wp2_with fail;refine(BH s (p:Int) _ (by omega) (by omega)<|by simpa using d5).mono ?_;rintro e w1⟨r,q,rfl,-,x1,-⟩;obtain⟨y4,y2⟩:=qb (HK.o.trans x1<|by simp) (HA.o.kept x1<|by simp);clear x1 h3;have o:=y2.o;obtain⟨r0,r1,f0,f1,s0,s1⟩:=o.six (.slice none 0 0)<|.slice none 0 0;clear o;go_wp2_with fail;refine Q5 (v:=.tuple #[QZ none 0 0 none 0 0,(0:Int),(2:Nat)]) (by simp[results,Rv,go_sem,QZ,s0,s1]) rfl ?_;exact Yh.err HR.o (by rfl) (y4.o.set2<|.inr<|by simp)
 have g3:decide (n<3)=false:=Xz h3
 by_cases h4:258<n
 ·have g4:decide (258<n)=true:=Xs h4;have HR:=Qa<|OZ (bs:=Qk s) (at_:=(p:Int)) (n:=n)<|.inr<|.inr<|.inr h4;go_enter func181,Mg;go_wp2_with fail;refine(BH s (p:Int) _ (by omega) (by omega)<|by simpa using d5).mono ?_;rintro e w1⟨r,q,rfl,-,x1,-⟩;obtain⟨y4,y2⟩:=qb (HK.o.trans x1<|by simp) (HA.o.kept x1<|by simp);clear x1 h3 h4;have o:=y2.o;obtain⟨r0,r1,f0,f1,s0,s1⟩:=o.six (.slice none 0 0)<|.slice none 0 0;clear o;go_wp2_with fail;refine Q5 (v:=.tuple #[QZ none 0 0 none 0 0,(0:Int),(2:Nat)]) (by simp[results,Rv,go_sem,QZ,s0,s1]) rfl ?_;exact Yh.err HR.o (by rfl) (y4.o.set2<|.inr<|by simp)
 have g4:decide (258<n)=false:=Xz h4;obtain⟨bs,c4⟩:=qx<|Qk s;have x0:Uy bs (p:Int) n=if(QJ bs p 3).2≠0 then([],[],0,(QJ bs p 3).2)else if(QJ bs p 3).1<2∨6<(QJ bs p 3).1 then([],[],0,110)else
  if(QJ bs (p+3) 15).2≠0 then([],[],0,(QJ bs (p+3) 15).2)else if(QJ bs (p+3) 15).1=0 then([],[],0,110)else
  if(Ji bs (QJ bs p 3).1 (QJ bs (p+3) 15).1 (List.range (QJ bs p 3).1) [] (p+18)).2.2≠0 then([],[],0,(Ji bs (QJ bs p 3).1 (QJ bs (p+3) 15).1 (List.range (QJ bs p 3).1) [] (p+18)).2.2)else
  if(VZ bs n (QJ bs p 3).1 [] (Ji bs (QJ bs p 3).1 (QJ bs (p+3) 15).1 (List.range (QJ bs p 3).1) [] (p+18)).2.1).2.2≠0 then([],[],0,(VZ bs n (QJ bs p 3).1 [] (Ji bs (QJ bs p 3).1 (QJ bs (p+3) 15).1 (List.range (QJ bs p 3).1) [] (p+18)).2.1).2.2)else
  ((VZ bs n (QJ bs p 3).1 [] (Ji bs (QJ bs p 3).1 (QJ bs (p+3) 15).1 (List.range (QJ bs p 3).1) [] (p+18)).2.1).1,(Ji bs (QJ bs p 3).1 (QJ bs (p+3) 15).1 (List.range (QJ bs p 3).1) [] (p+18)).1,(VZ bs n (QJ bs p 3).1 [] (Ji bs (QJ bs p 3).1 (QJ bs (p+3) 15).1 (List.range (QJ bs p 3).1) [] (p+18)).2.1).2.1,0):=by
  unfold Uy;rw[Qf (by rw[←c4,y6.o];omega),Zs]
 have c6:(QJ bs (p+3) 15).1≤32767:=by
  unfold QJ
  split
  ·simp
  split
  ·simp
  have h1:=Dr<|QW bs (p+3) (15:Int).toNat;have h2:(QW bs (p+3) (15:Int).toNat).length≤15:=by unfold QW;rw[Zl];simp;omega
  have h3:2^(QW bs (p+3) (15:Int).toNat).length≤2^15:=Jc (by decide) h2;simp only;omega
 have b9:=kI bs p 3;have b8:=kI bs (p+3) 15;obtain⟨p3,p4⟩:=qb (fun(W:WD)(r q:Nat)(hr:Rd W r q s p)=>BQ r q s p 3 W hr (by omega) d5) fun(W:WD)(r q:Nat)(hr:Rd W r q s (p+3))(h:p+3≤8*s.size)=>BQ r q s (p+3) 15 W hr (by omega) h;rw[c4]at p3 p4;obtain⟨⟨m,e1⟩,e7⟩:∃A,QJ bs p 3=A:=⟨_,rfl⟩;obtain⟨⟨M,e2⟩,e8⟩:∃A,QJ bs (p+3) 15=A:=⟨_,rfl⟩;rw[←c4]at x0 e7 e8 c6 b9 b8 p3 p4;clear c4 bs;rw[e7]at b9 x0 p3;rw[e8]at b8 c6 x0 p4;have m4:e1=0→p+3≤8*s.size:=by intro h;have:=(b9 h).2.2;rw[y6.o]at this;simp at this;omega
 have m5:e2=0→p+18≤8*s.size:=by intro h;have:=(b8 h).2.2;rw[y6.o]at this;simp at this;omega
 have c6:M≤32767:=c6;obtain⟨y7,HN,j3,j4⟩:=qd x0 (by omega:3≤n∧n≤258) m4 m5;clear x0 e7 e8 m4 m5 b9 b8 h3 h4;go_enter func181,Mg;go_wp2_with fail;refine(BH s (p:Int) _ (by omega) (by omega)<|by simpa using d5).mono ?_;rintro e w1⟨r,q,rfl,x5,x1,f4⟩;rw[Zs]at x5;obtain⟨y4,y2,z6,x9⟩:=qd (HK.o.trans x1<|by simp) (HA.o.kept x1<|by simp) x5 (by have h1:=f4 r (by simp);have h2:=f4 q (by simp);have h3:=x5.lt r (by simp);have h4:=x5.lt q (by simp);simp at h1 h2;omega:w.heap.size<r∧w.heap.size<q∧r<w1.heap.size∧q<w1.heap.size);clear x5 x1 f4 HK HA;go_wp2_with fail;refine(p3.o w1 r q z6.o).mono ?_;rintro e w2⟨rfl,x5,c7⟩;obtain⟨p5,p1,b2,l6⟩:=qd (y4.o.trans c7 (by intro y hy;simp at hy;subst hy;exact .inr (by have:=x9.o;omega))) (y2.o.kept c7 (by simp;have:=x9.o;omega)) x5 c7.size;clear x5 c7 y4 y2 z6 p3 g3 g4
 by_cases g6:e1=0
 ·subst g6;have u1:=j3.o rfl;have b2:=Qa (show Rd w2 r q s (p+3)from b2.o)
  by_cases d3:m<2
  ·have q1:decide ((m:Int)<2)=true:=(by simp;omega);have HR:=Qa (by rw[y7.o,Qf<|by simp,Qg<|.inl d3]:Uy (Qk s) (p:Int) n=([],[],0,110));clear d3;have o:=p1.o;obtain⟨r0,r1,f0,f1,s0,s1⟩:=o.six (.slice none 0 0)<|.slice none 0 0;clear o;go_wp2_with fail;refine Q5 (v:=.tuple #[QZ none 0 0 none 0 0,(0:Int),(110:Nat)]) (by simp[results,Rv,go_sem,QZ,s0,s1]) rfl ?_;exact Yh.err HR.o (by rfl) (p5.o.set2<|.inr<|by simp)
  have q1:decide ((m:Int)<2)=false:=by simp;omega
  by_cases d4:6<m
  ·have q2:decide (6<(m:Int))=true:=(by simp;omega);have HR:=Qa (by rw[y7.o,Qf<|by simp,Qg<|.inr d4]:Uy (Qk s) (p:Int) n=([],[],0,110));clear d3 d4;have o:=p1.o;obtain⟨r0,r1,f0,f1,s0,s1⟩:=o.six (.slice none 0 0)<|.slice none 0 0;clear o;go_wp2_with fail;refine Q5 (v:=.tuple #[QZ none 0 0 none 0 0,(0:Int),(110:Nat)]) (by simp[results,Rv,go_sem,QZ,s0,s1]) rfl ?_;exact Yh.err HR.o (by rfl) (p5.o.set2<|.inr<|by simp)
  have q2:decide (6<(m:Int))=false:=by simp;omega
  have x7:=Qa (by omega:2≤m∧m≤6);clear d3 d4;go_wp2_with fail;refine(p4.o w2 r q b2.o u1).mono ?_;rintro e w3⟨rfl,x5,d2⟩;obtain⟨b1,r9,b3,l7⟩:=qd (p5.o.trans d2 (by intro y hy;simp at hy;subst hy;exact .inr (by have:=x9.o;omega))) (p1.o.kept d2 (by simp;have:=x9.o;omega)) x5<|QS l6.o d2.size;clear x5 d2 p5 p1 b2 p4 l6
  by_cases g7:e2=0
  ·subst g7;have m7:=j4.o rfl;have b3:=Qa (show Rd w3 r q s (p+18)from b3.o)
   by_cases b7:M=0
   ·have q3:((M:Int)==0)=true:=(by simp;omega);have HR:=Qa (by rw[y7.o,Qf<|by simp,Qf (by have:=x7.o;omega),Qf<|by simp,Qg b7]:Uy (Qk s) (p:Int) n=([],[],0,110));subst b7;have o:=r9.o;obtain⟨r0,r1,f0,f1,s0,s1⟩:=o.six (.slice none 0 0)<|.slice none 0 0;clear o;go_wp2_with fail;refine Q5 (v:=.tuple #[QZ none 0 0 none 0 0,(0:Int),(110:Nat)]) (by simp[results,Rv,go_sem,QZ,s0,s1]) rfl ?_;exact Yh.err HR.o (by rfl) (b1.o.set2<|.inr<|by simp)
   have q3:((M:Int)==0)=false:=(by simp;omega);have v7:IntKind.i64.wrap (m:Int)=(m:Int):=Q3 _ (by have:=x7.o;omega);have d4:=x7.o.2;have f9:=fN (Qk s) m (by have:=x7.o;omega) M (List.range m) [] (p+18) (by simp) (by rwa[y6.o]) (by simp) (by simp);have x0:=y7.o;rw[Qf<|by simp,Qf (by have:=x7.o;omega),Qf<|by simp,Qf b7]at x0;obtain⟨⟨C,qq,e3⟩,hC⟩:∃C,Ji (Qk s) m M (List.range m) [] (p+18)=C:=⟨_,rfl⟩;rw[hC]at f9;simp only[hC]at x0;obtain⟨i6,j9,a1⟩:=qc hC f9 x0;clear x0 f9 hC y7 j3 j4 b7;go_wp2_with fail;have q8:Qb [] w3 (w3.alloc<|.cells #[.slice none 0 0,.slice none 0 0] 255):=(Qc _ _).alloc _;have b6:=Qy w3 [.slice none 0 0,.slice none 0 0] 255;obtain⟨WP,f3⟩:=qx<|w3.alloc<|.cells #[.slice none 0 0,.slice none 0 0] 255;obtain⟨gP,m2⟩:=qx w3.heap.size;rw[f3]at q8 b6;rw[f3];rw[m2]at b6 ⊢;obtain⟨x2,j2,x3,l2,o5⟩:=qe b6 (b1.o.trans q8<|by simp) (r9.o.kept q8<|by simp) (b3.o.kept q8<|by simp[Qq]) (by have h1:=l7.o;have h2:=x9.o;omega:r<gP∧q<gP);clear q8 b6 f3 m2 b1 r9 b3 l7;refine(aW m WP<|by omega).mono ?_;rintro e w4⟨g,rfl,g2,q0,s9⟩;obtain⟨j1,g9,i1,l1,p2,p7⟩:=qf (j2.o.trans q0<|by simp) (x2.o.kept q0<|by simp) (x3.o.kept q0<|by simp) (l2.o.kept q0<|by simp[Qq]) g2.blk (by have h1:=x9.o;have h2:=o5.o;have h3:=x2.o.lt;have h4:=g2.lt g (by simp[Qd,qo]);omega:w.heap.size<r∧w.heap.size<q∧r<gP∧q<gP∧gP<g∧g<w4.heap.size);clear g2 q0 s9 j2 x2 x3 l2;go_wp2_with fail;have j6:=Qa<|Ql w4.heap.size
   go_loopg [66] M (fun k v wr=>Hid (w4.heap.size≤wr.heap.size)∧mX w s r q g gP m M (C,qq,e3) k v wr)
   ·exact⟨j6,0,p+18,[],List.range m,none,0,by omega,by omega,rfl,m7,by simp,Qa<|by simp,Qa i6.o.symm,Qa<|Qh.nil _ _,p2,l1,g9,i1,Qa<|by simp[Qq,fZ],j1,Qa<|by simp[Qs,fZ]⟩
   clear p2 l1 g9 i1 j1 i6 j6;obtain⟨j5,i,pp,h8,y1,a9,c9,hk,hi,rfl,g0,u0,y9,p0,b4,p2,z6,x2,x3,x8,x6,HF⟩:=hrel;have Hk:=Qa hk;clear hk
   by_cases hlt:i<M
   ·have t7:(i:Int)<M:=(by omega);have n4:DB (Qk s) pp ((m:Int)-1)=ZU ((m:Int)-1) 0 ((Qk s).drop pp):=(by unfold DB;rw[Qf (by have:=x7.o;omega)]);have y3:=Qa<|Qif r q s pp ((m:Int)-1) wr z6.o (by omega) g0;have Xu:(C,qq,e3)=if(ZU ((m:Int)-1) 0<|(Qk s).drop pp).2=0 then Ji (Qk s) m (M-(i+1)) (K.turned y1 (ZU ((m:Int)-1) 0<|(Qk s).drop pp).1) (h8++[y1.getD (ZU ((m:Int)-1) 0<|(Qk s).drop pp).1 0]) (pp+(ZU ((m:Int)-1) 0<|(Qk s).drop pp).1+1)
     else([],0,if(ZU ((m:Int)-1) 0<|(Qk s).drop pp).2=3 then 110 else(ZU ((m:Int)-1) 0<|(Qk s).drop pp).2):=by
     rw[p0.o,show M-i=(M-(i+1))+1 by omega,Ji]
    have f7:=KU ((m:Int)-1) ((Qk s).drop pp) 0 (by have:=x7.o;omega);have z8:=kX ((m:Int)-1) (Qk s) pp (by rwa[y6.o]);rw[n4]at y3;obtain⟨⟨u,er⟩,hU⟩:∃U,ZU ((m:Int)-1) 0 ((Qk s).drop pp)=U:=⟨_,rfl⟩;rw[hU]at y3 Xu f7 z8;obtain⟨x4,p6,b5⟩:=qc Xu f7 z8;clear hU Xu f7 z8 n4;go_wp2_with fail;refine y3.o.mono ?_;rintro e w5⟨rfl,m9,q4⟩;obtain⟨o6,h9⟩:=qb m9 q4;clear m9 q4 y3;rcases p6.o.2 with hz|hz|hz
    ·have hz:er=0:=hz;subst hz;have hu:(u:Int)≤m-1:=p6.o.1 rfl;have z8:=b5.o rfl;rw[y6.o]at z8;have u3:pp+u+1≤8*s.size:=z8;have o7:=Qa<|show Rd w5 r q s (pp+u+1)from o6.o;obtain⟨x,hx⟩:=qy y1 u (by have:=y9.o;omega);have HX:=Qa (by rw[List.getD,hx];rfl:y1.getD u 0=x);have e6:=Qa (show(C,qq,e3)=Ji (Qk s) m (M-(i+1)) (K.turned y1 u) (h8++[x]) (pp+u+1)by
      have hR:=x4.o;rwa[Qg<|show((u,0):Nat × Nat).2=0 from rfl,HX.o]at hR)
     obtain⟨o4,n7⟩:=qb (by have h1:=p7.o;have h2:=j5.o;omega:w.heap.size<r∧w.heap.size<q∧r<gP∧q<gP∧gP<g∧g<wr.heap.size)<|p2.o.kept h9.o (by simp;have:=p7.o;omega);have z7:=x2.o.kept h9.o (by simp;have:=p7.o;omega);have d0:=z7.cell (i:=1) (u:=.slice a9 h8.length c9) rfl;obtain⟨d9,o8,o2⟩:=qc z7 (b4.o.kept h9.o (fun y hy hm=>by rw[XK]at hy;simp at hm;subst hm;exact x8.o y hy<|by simp)) (fun(W:WD)(hb:QK W g (Qi y1))=>show Calls prog 209 #[.slice g m m,.int .i64 u] W _ from by have h:=aS g m u y1 W (by have:=y9.o;omega) (by have:=y9.o;omega) (by have:=x7.o;omega) (by have:=y9.o;omega) hb;rwa[y9.o,HX.o]at h);have m6:g∉Qd (.slice a9 h8.length c9)∧gP∉Qd (.slice a9 h8.length c9):=(by rw[XK];exact⟨fun hm=>x8.o g hm<|by simp,fun hm=>x8.o gP hm<|by simp⟩);obtain⟨j7,j0⟩:=qb m6 (by have:=p7.o;omega:gP≠g);have L1:(Qi h8).length+1≤maxLen:=(by rw[QF];simp only[maxLen];omega);have L2:((Qi h8).length+1)*8≤140737488355328:=(by rw[QF];omega);clear z8 hx z7 x4 p6 b5 m6;go_wp2_with fail
     go_region_law (first
      |(refine Qg4 rfl _ _ 51 rfl 3 (0:Int) 8 XC XJ rfl (.slice a9 h8.length c9) (Qi h8) [.int .i64 (x:Int)] w6.heap.size 1 1 rfl rfl (by simp[Value.oneCell']) o9.o s2.o (fun h=>by cases h) L1 L2 ?_;intro a7 p9 w7 g5 q7 f5;have f2:=(g8.o.alloc<|.cells #[.int .i64 (x:Int)] 3).kept q7 j7.o.2;have k0:=f2.cell (i:=1) (u:=.slice a9 h8.length c9) rfl;have k1:=f2.free 1;clear f2)
      |(go_simp;go_at_call 209;refine(o2.o _<|n7.o.kept (Qc [] w5).drew<|by simp).mono ?_;rintro e w6⟨rfl,s7,t6⟩;have y0:Qb [g] w5 w6:=(Qc [g] w5).drew.trans t6 fun y hy=>.inl hy;have d6:=y0.cZ d0 (by simp;exact j0.o);have g8:=Qa<|d9.o.kept y0 (by simp;exact j0.o);have n6:=g8.o.lt;have o9:=Qa<|(o8.o.kept y0 (fun y hy hm=>by simp at hm;subst hm;exact j7.o.1 hy)).alloc<|.cells #[.int .i64 (x:Int)] 3;have s2:=Qa<|show Qp (w6.alloc<|.cells #[.int .i64 (x:Int)] 3) 1 w6.heap.size 1 [.int .i64 (x:Int)]from Qp.lit (news:=[.int .i64 (x:Int)]) rfl))
     all_goals (
      go_wp2
      go_roundg (M-(i+1))
      case measure=>have:=Hk.o;omega
      have g5:Qh w7 3 (.slice a7 (h8.length+1) p9) (Qi<|h8++[x]):=(by have e1:Qi h8++[Value.int .i64 (x:Int)]=Qi (h8++[x]):=(by simp[Qi]);rw[←e1];have h:=g5;rwa[QF]at h);have q7:Qb (Qd<|.slice a9 h8.length c9) (w6.alloc<|.cells #[.int .i64 (x:Int)] 3) w7:=q7;have f5:QP (w6.alloc<|.cells #[.int .i64 (x:Int)] 3).heap.size (Qd<|.slice a9 h8.length c9) (Qd<|.slice a7 (h8.length+1) p9):=(by have h:=f5;rwa[QF]at h);have m3:Qb [g] w5 (w6.alloc<|.cells #[.int .i64 (x:Int)] 3):=y0.alloc _;have s8:QK (w6.alloc<|.cells #[.int .i64 (x:Int)] 3) g (Qi<|K.turned y1 u):=s7.kept ((Qc [] w6).alloc _) (by simp);obtain⟨r1,r2,r3,r4,r5,r6,r7,r8⟩:=yC rfl b4.o x2.o x3.o x8.o x6.o HF.o o4.o h9.o o7.o m3 s8 g5 q7 f5;have v8:=r7.size;have u7:w4.heap.size≤(w7.setCell ⟨gP,1,none⟩<|.slice a7 (h8.length+1) p9).heap.size:=(by have z1:=j5.o;have z2:=h9.o.size;have z3:=m3.size;have z4:=q7.size;have z5:(w7.setCell ⟨gP,1,none⟩<|.slice a7 (h8.length+1) p9).heap.size=w7.heap.size:=(by simp[World.setCell]);omega);simp only[QF];exact⟨Qa u7,i+1,pp+u+1,h8++[x],K.turned y1 u,a7,p9,rfl,by omega,by simp,u3,by simp;omega,Qa (by rw[DA _ _ (by have:=y9.o;omega)];exact y9.o),e6,Qa r1,Qa r2,Qa r3,Qa r4,Qa r5,Qa r6,Qa r7,Qa r8⟩)
    ·have hz:er=3:=hz;subst hz;have hE:(C,qq,e3)=([],0,110):=(by rw[x4.o,Qf<|by simp];rfl);injection hE with h5 h6;injection h6 with h6 h7;subst h7;obtain⟨HR,y8,y5⟩:=qc (by rw[a1.o,Qg<|by simp]:Uy (Qk s) (p:Int) n=([],[],0,110)) (x6.o.trans h9.o (by intro y hy;simp at hy;subst hy;exact .inr (by have:=x9.o;omega)))<|x3.o.kept h9.o (by simp;have:=x9.o;omega);clear h5 h6 x4 p6 b5;have o:=y5.o;obtain⟨r0,r1,f0,f1,s0,s1⟩:=o.six (.slice none 0 0)<|.slice none 0 0;clear o;go_wp2_with fail;refine Q5 (v:=.tuple #[QZ none 0 0 none 0 0,(0:Int),(110:Nat)]) (by simp[results,Rv,go_sem,QZ,s0,s1]) rfl ?_;exact Yh.err HR.o (by rfl) (y8.o.set2<|.inr<|by simp)
    have hz:er=10:=hz;subst hz;have hE:(C,qq,e3)=([],0,10):=(by rw[x4.o,Qf<|by simp];rfl);injection hE with h5 h6;injection h6 with h6 h7;subst h7;obtain⟨HR,y8,y5⟩:=qc (by rw[a1.o,Qg<|by simp]:Uy (Qk s) (p:Int) n=([],[],0,10)) (x6.o.trans h9.o (by intro y hy;simp at hy;subst hy;exact .inr (by have:=x9.o;omega)))<|x3.o.kept h9.o (by simp;have:=x9.o;omega);clear h5 h6 x4 p6 b5;have o:=y5.o;obtain⟨r0,r1,f0,f1,s0,s1⟩:=o.six (.slice none 0 0)<|.slice none 0 0;clear o;go_wp2_with fail;refine Q5 (v:=.tuple #[QZ none 0 0 none 0 0,(0:Int),(10:Nat)]) (by simp[results,Rv,go_sem,QZ,s0,s1]) rfl ?_;exact Yh.err HR.o (by rfl) (y8.o.set2<|.inr<|by simp)
   obtain rfl:i=M:=(by omega);have t8:¬(i:Int)<i:=(by omega);have hE:(C,qq,e3)=(h8,pp,0):=(by rw[p0.o,ZO];rfl);injection hE with h5 h6;injection h6 with h6 h7;subst h5 h6 h7;obtain⟨l9,m8,s5⟩:=j9.o rfl;have n8:=Qa (by have h:C.length=0+i:=l9;omega:C.length≤32767);have x0:=a1.o;rw[Qf<|by simp]at x0;obtain⟨⟨TT,tq,e4⟩,hD⟩:∃D,VZ (Qk s) n m [] qq=D:=⟨_,rfl⟩;simp only[hD]at x0;have e0:=Qa x0;have HD:=Qa hD;have hq:qq≤(Qk s).length:=m8;have i8:=Qa (show Bj wr [w.heap.size,gP] a9 C.length (Qi C)from fun w' hw=>by
    refine b4.o.sZ.kept hw fun y hy hm=>x8.o y hy ?_
    simp at hm;rcases hm with rfl|rfl<;>simp)
   have o1:=Qa (by have:=p7.o;omega:w.heap.size<gP);have HS:=z6;clear x0 hD a1 j9 s5 l9 m8 p0 p2 x8 g0 u0;go_wp2_with fail;refine(at_ok r q s qq wr<|by exact z6.o).mono ?_;rintro e w5⟨rfl,rfl⟩
   go_wp2
   go_loopg [1,94] m (fun k v1 v wr=>mY w gP (.slice a9 C.length c9) a9 C.length C (Qk s) n m (TT,tq,e4) k v1 v wr)
   ·exact⟨0,qq,[],[],none,0,by omega,by omega,rfl,rfl,hq,Qa ⟨rfl,by simp⟩,Qa HD.o.symm,Qa<|Qh.nil _ _,Qa<|Zy.nil _ _,i8,x2,x3,Qa<|by simp[Qq,fZ],x6,Qa<|by simp[Qs,fZ]⟩
   clear x2 x3 i8 HD hq b4 z6 HS x6 HF;obtain⟨i2,q2,T,vs,a8,c8,hk,hi,rfl,rfl,hq,l5,p0,p8,l4,i7,x2,x3,x8,x6,HF⟩:=hrel;have s3:=Qa hk;clear hk
   by_cases hlt:i2<m
   ·have t7:(i2:Int)<m:=(by omega);have y3:=Qa<|vH s (q2:Int) n wr hs;have Xu:(TT,tq,e4)=if(Ju (Qk s) (q2:Int) n).2.2≠0 then([],0,(Ju (Qk s) (q2:Int) n).2.2)else if XA (Ju (Qk s) (q2:Int) n).1 then VZ (Qk s) n (m-(i2+1)) (T++[(Ju (Qk s) (q2:Int) n).1]) (Ju (Qk s) (q2:Int) n).2.1 else([],0,80):=by rw[p0.o,show m-i2=(m-(i2+1))+1 by omega,VZ]
    have f8:=Qam (Qk s) (q2:Int) n;obtain⟨⟨t,tp,e5⟩,hD⟩:∃D,Ju (Qk s) (q2:Int) n=D:=⟨_,rfl⟩;rw[hD]at y3 Xu f8;obtain⟨x4,j8⟩:=qb Xu f8;clear Xu f8 hD;go_wp2_with fail;refine y3.o.mono ?_;rintro e w5⟨a5,c5,rfl,n0,q4,m1⟩;obtain⟨l0,h9,o0⟩:=qc (show Qh w5 3 (.slice a5 t.length c5) (QM t)from n0) q4<|show Qs wr.heap.size (fZ a5)from m1;clear n0 q4 m1 y3
    by_cases d8:e5=0
    ·subst d8;obtain⟨n2,n3⟩:=j8.o rfl;have u9:t.length=n.toNat:=n2;have v6:tp≤(Qk s).length:=n3;have l3:=Qa<|l0.o.sZ;have u8:t.length≤258:=(by have:=HN.o;omega);clear j8 u9 n2 n3;cases hg:XA t with
     |false=>have HC:=Qa (by unfold J7;rw[hg];rfl:J7 t=80);have hE:(TT,tq,e4)=([],0,80):=(by rw[x4.o,Qf<|by simp,hg];rfl);injection hE with h5 h6;injection h6 with h6 h7;subst h7;have HR:=Qa (by rw[e0.o,Qg<|by simp]:Uy (Qk s) (p:Int) n=([],[],0,80));clear hg h5 h6 x4;go_wp2_with fail;refine(Ei a5 c5 t _ l3.o<|by omega).mono ?_;rintro e w6⟨rfl,rfl⟩;rw[HC.o];obtain⟨y8,y5⟩:=qb (x6.o.trans h9.o<|by simp) (x3.o.kept h9.o<|by simp);have o:=y5.o;obtain⟨r0,r1,f0,f1,s0,s1⟩:=o.six (.slice none 0 0)<|.slice none 0 0;clear o;go_wp2_with fail;refine Q5 (v:=.tuple #[QZ none 0 0 none 0 0,(0:Int),(80:Nat)]) (by simp[results,Rv,go_sem,QZ,s0,s1]) rfl ?_;exact Yh.err HR.o (by rfl) (y8.o.set2<|.inr<|by simp)
     |true=>
      obtain⟨HC,e6⟩:=qb (by unfold J7;rw[hg];rfl:J7 t=0) (show(TT,tq,e4)=VZ (Qk s) n (m-(i2+1)) (T++[t]) tp by rw[x4.o,Qf<|by simp,hg];rfl);have u5:=p8.o.kept h9.o (by simp);have q9:=p8.o.len;have L1:vs.length+1≤maxLen:=(by rw[q9];simp only[maxLen];omega);have L2:(vs.length+1)*24≤140737488355328:=(by rw[q9];omega);have z7:=x2.o.kept h9.o (by simp);have d0:=z7.cell (i:=0) (u:=.slice a8 i2 c8) rfl;obtain⟨d9,o3⟩:=qb z7 (show gP∉Qd (.slice a8 i2 c8)by rw[XK];exact fun hm=>x8.o gP hm<|by simp);clear hg x4 q9 z7;go_wp2_with fail;refine(Ei a5 c5 t _ l3.o<|by omega).mono ?_;rintro e w6⟨rfl,rfl⟩;rw[HC.o];go_wp2_with ((at_builtin;refine UW _ rfl _ _ 253 rfl 51 (.slice none 0 0) 24 Mj Hn rfl _ _ [.slice a5 t.length c5] 1 rfl rfl rfl rfl (by simp[Value.oneCell']) u5 L1 L2 ?_;intro a6 s4 w6 u4 y0 t1;have y0:Qb (Qd<|.slice a8 i2 c8) w5 w6:=y0;have e9:=d9.o.kept y0 o3.o;have k0:=e9.cell (i:=0) (u:=.slice a8 i2 c8) rfl;have k1:=e9.free 0;clear e9))
      go_roundg (m-(i2+1))
      ·have q9:=p8.o.len;obtain⟨r1,r2,r3,r4,r5,r6,r7,r8⟩:=Qfq p8.o l4.o i7.o x2.o x3.o x8.o x6.o HF.o o1.o h9.o l0.o o0.o u4 y0 t1;obtain⟨k5,k6⟩:=l5.o;rw[q9];refine⟨i2+1,tp,T++[t],_,a6,s4,rfl,by omega,by simp,rfl,v6,Qa ⟨by rw[Qo,k5];rfl,fun u hu=>?_⟩,e6,Qa r1,Qa r2,Qa r3,Qa r4,Qa r5,Qa r6,Qa r7,Qa r8⟩;rcases Q6.1 hu with h|h
       ·exact k6 u h
       rwa[Za.1 h]
      have:=s3.o;omega
    have q5:((e5:Int) != 0)=true:=VO.2 (by omega);have q6:((e5:Int)==0)=false:=(by simp;omega);have hE:(TT,tq,e4)=([],0,e5):=(by rw[x4.o,Qg d8]);injection hE with h5 h6;injection h6 with h6 h7;subst h7;obtain⟨HR,y8,y5⟩:=qc (by rw[e0.o,Qg d8]:Uy (Qk s) (p:Int) n=([],[],0,e4)) (x6.o.trans h9.o<|by simp) (x3.o.kept h9.o<|by simp);clear h5 h6 x4 d8;have o:=y5.o;obtain⟨r0,r1,f0,f1,s0,s1⟩:=o.six (.slice none 0 0)<|.slice none 0 0;clear o;go_wp2_with fail;refine Q5 (v:=.tuple #[QZ none 0 0 none 0 0,(0:Int),(e4:Nat)]) (by simp[results,Rv,go_sem,QZ,s0,s1]) rfl ?_;exact Yh.err HR.o (by rfl) (y8.o.set2<|.inr<|by simp)
   obtain rfl:m=i2:=(by omega);have t8:¬(m:Int)<m:=(by omega);have hE:(TT,tq,e4)=(T,q2,0):=(by rw[p0.o,ZO];rfl);injection hE with h5 h6;injection h6 with h6 h7;subst h5 h6 h7;have HR:=Qa (by rw[e0.o,Qf<|by simp]:Uy (Qk s) (p:Int) n=(TT,C,tq,0));have d0:=x2.o.cell (i:=0) (u:=.slice a8 m c8) rfl;have d1:=x2.o.cell (i:=1) (u:=.slice a9 C.length c9) rfl;obtain⟨r0,r1,f0,f1,s0,s1⟩:=x3.o.six (.slice a8 m c8)<|.slice a9 C.length c9;go_wp2_with fail;refine Q5 (v:=.tuple #[QZ a8 m c8 a9 C.length c9,(tq:Nat),(0:Int)]) (by simp[results,Rv,go_sem,QZ,s0,s1]) rfl ?_;have d7:Qb [w.heap.size] wr ((wr.setCell ⟨w.heap.size,0,none⟩<|.slice a8 m c8).setCell ⟨w.heap.size,1,none⟩<|.slice a9 C.length c9):=((Qc [w.heap.size] wr).setCell (p:=w) (by simp) _).setCell (p:=⟨w.heap.size,1,none⟩) (by simp) _;obtain⟨WF,s6⟩:=qx<|(wr.setCell ⟨w.heap.size,0,none⟩<|.slice a8 m c8).setCell ⟨w.heap.size,1,none⟩<|.slice a9 C.length c9;rw[s6]at d7 ⊢;have n1:Qb (w.heap.size::gP::fZ a8) wr WF:=d7.mono (by intro x hx;simp at hx;simp[hx]);obtain⟨k5,k6⟩:=l5.o;have u6:Qp WF 1 a8 m vs:=p8.o.sZ.kept d7 fun x hx hm=>x8.o x hx (by simp at hm;simp[hm]);have hM:=l4.o.seesM n1 u6;rw[HR.o];have l8:=i7.o WF n1;rw[Cs]at l8;refine⟨a8,c8,a9,c9,by rw[←k5];rfl,⟨by rwa[k5],by rwa[QH],by rw[k5];have:=x7.o;omega,by rw[QH];exact QS n8.o<|by decide,fun t ht=>by have:=k6 t ht;omega⟩,x6.o.trans d7 (by intro x hx;simp at hx;subst hx;exact .inr<|Ql _)⟩
  have q3:((e2:Int) != 0)=true:=VO.2 (by omega);have HR:=Qa (by rw[y7.o,Qf<|by simp,Qf (by have:=x7.o;omega),Qg g7]:Uy (Qk s) (p:Int) n=([],[],0,e2));clear g7;have o:=r9.o;obtain⟨r0,r1,f0,f1,s0,s1⟩:=o.six (.slice none 0 0)<|.slice none 0 0;clear o;go_wp2_with fail;refine Q5 (v:=.tuple #[QZ none 0 0 none 0 0,(0:Int),(e2:Nat)]) (by simp[results,Rv,go_sem,QZ,s0,s1]) rfl ?_;exact Yh.err HR.o (by rfl) (b1.o.set2<|.inr<|by simp)
 have q1:((e1:Int) != 0)=true:=VO.2 (by omega);have HR:=Qa (by rw[y7.o,Qg g6]:Uy (Qk s) (p:Int) n=([],[],0,e1));clear g6;have o:=p1.o;obtain⟨r0,r1,f0,f1,s0,s1⟩:=o.six (.slice none 0 0)<|.slice none 0 0;clear o;go_wp2_with fail;refine Q5 (v:=.tuple #[QZ none 0 0 none 0 0,(0:Int),(e1:Nat)]) (by simp[results,Rv,go_sem,QZ,s0,s1]) rfl ?_;exact Yh.err HR.o (by rfl) (p5.o.set2<|.inr<|by simp)
namespace K
def YU(t g:LN):Nat:=(g.map fun a=>t.getD a 0).sum
def MN(t b)(a:∀x∈t,x≤b):∀g:LN,YU t g≤b*g.length
 | []=>by simp[YU]
 |s::r=>by
  have c:=MN t b a r;unfold YU at c ⊢;rw[QR,Z9,Q0,DY,RY];have:t.getD s 0≤b:=by
   rw[List.getD];cases hs:t[s]? with
   |none=>simp
   |some x=>exact a x<|QA hs
  omega
def uS(t g s):YU t (g++[s])=YU t g+t.getD s 0:=by simp[YU]
def uT(t g:LN)(j s)(a:g[j]?=some s):YU t (g.take<|j+1)=YU t (g.take j)+t.getD s 0:=by rw[Zt,a];exact uS t _ s
def U8(T:List LN)(g:LN):Nat→Nat
 |0=>0
 |t+1=>if YU (T.getD (t+1) []) g<YU (T.getD (U8 T g t) []) g then t+1 else U8 T g t
def Mt(T g):∀t,U8 T g t≤t
 |0=>Ql _
 |t+1=>by
  rw[U8]
  split
  ·exact Ql _
  exact Nat.le_succ_of_le<|Mt T g t
def YT(L P:LN)(t n i:Nat):LN:=(List.range n).map fun b=>(List.range i).countP fun a=>P.getD (a/50) 0==t&&L.getD a 0==b
def RA(L P t n i):(YT L P t n i).length=n:=by simp[YT]
def tX(L P t n):YT L P t n 0=List.replicate n 0:=by
 unfold YT;apply Xo;intro b
 by_cases a:b<n
 ·simp[Xa a,a]
 rw[QX (by simp;omega),QX (by simp;omega)]
def ME(L P t n i s)(a:s<n):(YT L P t n i)[s]?=some ((List.range i).countP fun j=>P.getD (j/50) 0==t&&L.getD j 0==s):=by simp[YT,Xa a]
def IA(L P t n i):∀c∈YT L P t n i,c≤i:=by intro c a;obtain⟨b,-,rfl⟩:=QB.1 a;have:=List.countP_le_length (p:=fun a=>P.getD (a/50) 0==t&&L.getD a 0==b) (l:=List.range i);rwa[Vl]at this
def tV(L P t n i x)(hp:P.getD (i/50) 0=t)(a:L[i]?=some x)(c)(b:(YT L P t n i)[x]?=some c):(YT L P t n i).set x (c+1)=YT L P t n (i+1):=by
 apply Xo;intro d;have e:L.getD i 0=x:=by rw[List.getD,a];rfl
 rw[YO]
 by_cases hs:d<n
 ·rw[ME _ _ _ _ _ _ hs,ME _ _ _ _ _ _ hs,JJ,List.countP_append]
  by_cases a:x=d
  ·subst a;rw[ME _ _ _ _ _ _ hs]at b;injection b with b;rw[Qg rfl,Qg<|by rwa[RA],←b,PR];simp only[hp,e,beq_self_eq_true,Bool.and_true,Co]
  rw[Qf a,PR,e];have b:(x==d)=false:=by simp[a]
  rw[b,Lg];simp
 by_cases a:x=d
 ·subst a;rw[Qg rfl,Qf (by rw[RA];omega),QX (by rw[RA];omega)]
 rw[Qf a,QX (by rw[RA];omega),QX (by rw[RA];omega)]
def tW(L P t n i)(hp:P.getD (i/50) 0≠t):YT L P t n (i+1)=YT L P t n i:=by
 unfold YT;apply Yx;intro a _;rw[JJ,List.countP_append,PR];have a:(P.getD (i/50) 0==t)=false:=by simpa using hp
 rw[a,Lh];simp
def Cp(n m:Nat):List LN:=(List.range m).map fun b=>(List.range n).map fun a=>if a*m/n=b then 1 else 15
def Cw(T:List LN)(L:LN)(m:Nat):LN:=(List.range (ZH L.length)).map fun a=>U8 T (Xt L a) (m-1)
def fP(T L m):(Cw T L m).length=ZH L.length:=by simp[Cw]
def Qdl(T L m k)(a:k<ZH L.length):(Cw T L m)[k]?=some (U8 T (Xt L k)<|m-1):=by simp[Cw,Xa a]
def Qdm(T L m)(a:0<m):∀x∈Cw T L m,x<m:=by intro x a;obtain⟨b,-,rfl⟩:=QB.1 a;have:=Mt T (Xt L b)<|m-1;omega
noncomputable def Cr(a:LN):LN:=(Classical.choose (FY (a.map fun a:Nat=>(a:Int)) 17)).1
def dF(a)(b:2≤a.length)(e:a.length≤258)(hw:∀c∈a,c≤1073741824):DT (a.map fun c:Nat=>(c:Int)) 17 (Cr a,0):=by
 have d:=Classical.choose_spec<|FY (a.map fun c:Nat=>(c:Int)) 17;have f:Yc (a.map fun c:Nat=>(c:Int))=true:=by unfold Yc;rw[QH,Xs b,Xs e,V1,V1,XO];intro b e;obtain⟨c,b,rfl⟩:=QB.1 e;have:=hw c b;rw[Zv];omega
 have h0:(Classical.choose<|FY (a.map fun c:Nat=>(c:Int)) 17).2=0:=by
  rcases d with⟨b,-⟩|⟨-,b,-⟩
  ·rw[f]at b;simp[AU]at b
  exact b
 unfold Cr;rwa[show((Classical.choose<|FY (a.map fun c:Nat=>(c:Int)) 17).1,0)=Classical.choose (FY (a.map fun c:Nat=>(c:Int)) 17)from Prod.ext rfl h0.symm]
def NG(a)(e:2≤a.length)(f:a.length≤258)(hw:∀c∈a,c≤1073741824):(Cr a).length=a.length∧(∀x∈Cr a,1≤x∧x≤17)∧AO ((Cr a).map fun c:Nat=>(c:Int))=true:=by obtain⟨-,b,d,c⟩:=(dF a e f hw).ok rfl;rw[QH]at b;exact⟨b,fun x a=>by have:=d x a;omega,c⟩
noncomputable def EJ(L:LN)(n m:Nat)(P:LN):List LN:=(List.range m).map fun a=>Cr (YT L P a n L.length)
noncomputable def Ar(L:LN)(n m:Nat):Nat→List LN
 |0=>Cp n m
 |r+1=>EJ L n m (Cw (Ar L n m r) L m)
noncomputable def Rj(L:LN)(n m:Nat):Nat→LN
 |0=>List.replicate (ZH L.length) 0
 |r+1=>Cw (Ar L n m r) L m
def GF(n m:Nat)(T:List LN):Prop:=T.length=m∧∀a∈T,a.length=n∧∀b∈a,b≤20
def bV(n m):GF n m (Cp n m):=by
 refine⟨by simp[Cp],fun a a=>?_⟩;obtain⟨b,-,rfl⟩:=QB.1 a;refine⟨by simp,fun a a=>?_⟩;obtain⟨b,-,rfl⟩:=QB.1 a
 split<;>omega
def Qg3(L P n m)(a:3≤n∧n≤258)(a:L.length≤1638350):GF n m (EJ L n m P):=by refine⟨by simp[EJ],fun a b=>?_⟩;obtain⟨a,-,rfl⟩:=QB.1 b;obtain⟨b,c,-⟩:=NG (YT L P a n L.length) (by rw[RA];omega) (by rw[RA];omega) (fun d e=>by have:=IA L P a n L.length d e;omega);exact⟨by rw[b,RA],fun b a=>by have:=c b a;omega⟩
def OY(L n m)(b:3≤n∧n≤258)(a:L.length≤1638350):∀r,GF n m (Ar L n m r)
 |0=>bV n m
 |r+1=>Qg3 L _ n m b a
def Oh(L n m r):(Rj L n m r).length=ZH L.length:=by
 cases r with
 |zero=>simp[Rj]
 |succ r=>exact fP _ _ _
def IV{α}(l:List α)(k):(Xt l k).length=min 50 (l.length-50*k):=by simp[Xt]
def yD{α}(l:List α)(k j)(a:j<(Xt l k).length):(Xt l k)[j]?=l[50*k+j]?:=by rw[IV]at a;unfold Xt;rw[Bm,Qg<|by omega,J4]
def aY{α a}(f:α→a)(l k):Xt (l.map f) k=(Xt l k).map f:=by simp[Xt,DN,List.map_drop]
end K
def PK(xs:LV)(k:Nat)(w:WD)(e:Ending)(w':WD):Prop:=
 ∃a b,e=.returned (.slice a (Xt xs k).length b)∧Qp w 1 a (Xt xs k).length (Xt xs k)∧w=w'
def PL(a:OA)(xs:LV)(k:Nat)(w:WD)(e:Ending)(w':WD):Prop:=
 ∃b c,e=.returned (.slice b (Xt xs k).length c)∧Qp w 1 b (Xt xs k).length (Xt xs k)∧w=w'∧fZ b=fZ a
def aR(a c k xs w)(e:Qp w 1 a xs.length xs)(b:xs.length≤c)(b:c≤maxLen)(hk:50*k<xs.length)(b:xs.length≤10000000):
 Calls prog 252 #[.slice a xs.length c,k] w (PL a xs k w):=by
 have⟨b,j⟩:=qx<|50*k+(Xt xs k).length;have g:=IV xs k;obtain⟨d,off,rfl,-⟩:=e.at (by omega);have f:=e.part (50*k) (Xt xs k).length (by omega) (a':=some ⟨d,off+50*k,none⟩) (by rintro-b' off' d;injection d with d;injection d with h h2;subst h h2;rfl);have d:(xs.drop<|50*k).take (Xt xs k).length=Xt xs k:=by rw[g];unfold Xt;rw[List.take_eq_take_iff,Y0];omega
 rw[d]at f;have i:=Qa f;obtain⟨_,_,_,_,_,_,_⟩:min (xs.length:Int) (((k:Int)+1)*50)=(b:Int)∧(0:Int)≤k*50∧(k:Int)*50≤(b:Int)∧(b:Int)≤c∧((k:Int)*50).toNat=50*k∧¬50*k=c∧((b:Nat):Int).toNat=b:=by omega
 have h:=Qa (by omega:b-50*k=(Xt xs k).length);go_enter func252,ntmps252
 go_wp2
 go_ret;rw[h.o];exact⟨_,_,rfl,i.o,rfl,rfl⟩
def xZ(a c k xs w)(b:Qp w 1 a xs.length xs)(d:xs.length≤c)(e:c≤maxLen)(hk:50*k<xs.length)(f:xs.length≤10000000):
 Calls prog 252 #[.slice a xs.length c,k] w (PK xs k w):=by
 refine(aR a c k xs w b d e hk f).mono ?_;rintro b b⟨b,d,e,f,g,-⟩;exact⟨b,d,e,f,g⟩
def Xw.nat{w a n}{T:List LN}(e:Xw w a n (T.map Qi)){i t}(hi:T[i]?=some t):
 ∃b off d c,a=some ⟨b,off,none⟩∧w.cell? ⟨b,off+i,none⟩=some (.slice d t.length c)∧Qp w 1 d t.length (Qi t)∧t.length≤c∧c≤maxLen:=by
 have:=e.at i (Qi t) (by rw[ZD,hi];rfl);rwa[QF]at this
def yE(L:LN)(k)(a:k<ZH L.length):50*k<L.length:=by unfold ZH at a;omega
def xP(gL gP gT m c n t k:Nat)(aL L T w)(h0:w.cell? gL=some (.slice aL L.length c))(h:Qp w 1 aL L.length (Qi L))(hc:L.length≤c)(y1:c≤maxLen)(h2:w.cell? gP=some (.slice gT m m))(o:Xw w gT m (T.map Qi))(hT:GF n m T)(ht:t<m)(hm:m≤6)(hk:50*k<L.length)(hl:L.length≤1638350)(hL:∀s∈L,s<n)(hn:n≤258):
 Calls prog 251 #[t,.int .i64 k,.pointer gL,.pointer gP] w fun e w'=>e=.returned (.int .i64 (YU (T.getD t []) (Xt L k):Nat))∧w=w':=by
 obtain⟨row,q⟩:∃r,T[t]?=some r:=⟨_,Qj<|by rwa[hT.1]⟩;obtain⟨y3,x3⟩:=hT.2 row<|QA q;rw[show T.getD t []=row by rw[List.getD,q];rfl];obtain⟨b,off,ar,cr,hb,d0,x5,-,-⟩:=o.nat q;injection hb with hb;injection hb with x9 hb2;subst x9 hb2;rw[ZE]at d0;have x1:=MN row 20 x3;have G:=xZ aL c k (Qi L) w (by rwa[QF]) (by rwa[QF]) y1 (by rwa[QF]) (by rw[QF];omega);rw[QF]at G;have x2:Xt (Qi L) k=Qi (Xt L k):=aY _ _ _;have y2:(Xt L k).length≤50:=by rw[IV];omega
 have h5:∀s∈Xt L k,s<row.length:=by intro s hs;rw[y3];exact hL s<|GQ<|VE hs
 unfold PK at G;rw[x2,QF]at G;have⟨g,hg⟩:=qx<|Xt L k;rw[hg]at G y2 h5 ⊢;have⟨HG,HC,x6,x8⟩:=qd G x1 h5 x5;have y8:(t:Int)<m:=by omega
 go_enter func251,ntmps251;go_wp2_with fail;refine HG.o.mono ?_;rintro e w2⟨a2,c2,rfl,x4,rfl⟩;have x7:=Qa x4
 go_wp2
 go_loopg [7,14] g.length (fun k v7 v wr=>∃j:Nat,k=g.length-j∧j≤g.length∧v=.int .i64 (j:Nat)∧v7=.int .i64 (YU row (g.take j):Nat)∧w=wr)
 ·exact⟨0,by omega,by omega,rfl,by simp[YU],rfl⟩
 obtain⟨j,hk,hj,rfl,rfl,rfl⟩:=hrel;have Hk:=Qa hk;have y0:YU row (g.take j)≤1000:=by
  have h:=HC.o<|g.take j;have h2:=PV j g;have o:(g.take j).length≤50:=by rw[Zl];omega
  have h4:20*(g.take j).length≤20*50:=Sj _ o;omega
 by_cases hlt:j<g.length
 ·have y5:(j:Int)<g.length:=by omega
  have⟨s,hs⟩:=qy g j hlt;have y4:=x6.o s<|QA hs;have y7:(s:Int)<row.length:=by omega
  obtain⟨b2,o2,rfl,h9⟩:=x7.o.at (by rw[QF];omega);have e0:=h9 j _<|AX hs;obtain⟨b3,o3,rfl,x0⟩:=x8.o.at (by rw[QF];omega);have⟨x,y⟩:=qy row s y4;have e1:=x0 s _<|AX y;have h8:=Qa (by rw[uT row g j s hs,List.getD,y];rfl:YU row (g.take<|j+1)=YU row (g.take j)+x);have y9:x≤1000:=by have h:=HC.o [s];have h2:YU row [s]=x:=(by simp[YU,y]);rw[h2]at h;simp at h;omega
  have⟨S,hS⟩:=qx<|YU row<|g.take j;rw[hS]at h8 y0 ⊢
  go_wp2
  go_roundg (g.length-(j+1))
  ·exact⟨j+1,rfl,by omega,by simp,by rw[h8.o];simp,rfl⟩
  have:=Hk.o;omega
 obtain rfl:j=g.length:=by omega
 have y6:¬(g.length:Int)<g.length:=by omega
 go_wp2
 go_ret;exact⟨by simp,rfl⟩
def QY(l:LN):LI:=l.map fun a:Nat=>(a:Int)
def XF(l):(QY l).length=l.length:=by simp[QY]
def AI(l):QM (QY l)=Qi l:=(Cs l).symm
def Zy.seesN{w w' F b}{T:List LN}(c:Zy w F b (T.map QY))(hk:Qb F w w'){a n}(hs:Qp w' 1 a n b):Xw w' a n (T.map Qi):=by have:=c.seesM hk hs;rwa[XI,show(QM∘QY)=Qi from funext AI]at this
def Zy.setRow{w0 w:WD}{F a T}(f:Zy w F a T)(k:∀x∈F,x<w0.heap.size){b c i gT t}(e:Qh w 3 (.slice b t.length c) (QM t))(hf:Qs w0.heap.size (fZ b))(d:gT∈F):
 Zy (w.setCell ⟨gT,i,none⟩<|.slice b t.length c) F (a.set i<|.slice b t.length c) (T.set i t):=by
 have hk:Qb F w (w.setCell ⟨gT,i,none⟩<|.slice b t.length c):=(Qc F w).setCell (p:=⟨gT,i,none⟩) (.inl d) _;refine⟨by simp[f.1],fun j o n a d=>?_⟩;rw[YO]at a d
 by_cases g:i=j
 ·rw[Qg g]at a d
  split at a
  ·split at d
   ·obtain rfl:=Option.some.inj a;obtain rfl:=Option.some.inj d;obtain⟨a2,c2,h,k1,k2,-,-⟩:=e.sees;rw[Xk]at h k1;injection h with h e2 e3;subst e3;refine⟨b,c,rfl,k1,k2,fun h hw=>?_⟩;exact(e.kept (hk.trans hw fun x e=>.inl e) (fun x e l=>by rw[XK]at e;have:=hf x e;have:=k x l;omega)).sZ
   cases d
  cases a
 rw[Qf g]at a d;obtain⟨g,c2,k,l,m,h6⟩:=f.2 j o n a d;exact⟨g,c2,k,l,m,fun h hw=>h6 h<|hk.trans hw fun x e=>.inl e⟩
def kE(x:Nat)(a:1≤x):(Yd (x:Int)).2=0∧2≤(Yd (x:Int)).1∧(Yd (x:Int)).1≤6:=by
 unfold Yd;rw[Qf<|by omega]
 split
 ·simp
 split
 ·simp
 split
 ·simp
 split<;>simp
def eA{α:Type}(A a:List α)(i)(x:α)(b:A[i]?=some x)(hi:i<a.length):(A.take i++a.drop i).set i x=A.take (i+1)++a.drop (i+1):=by
 have:=(Qz.1 b).1;have a:(A.take i).length=i:=by rw[Zl];omega
 rw[Ly,Qf<|by omega,a,ZO,Zt,b,QQ,Z8 hi];rfl
def dZ{α:Type}(A a:List α)(b:A.length=a.length):A.take A.length++a.drop A.length=A:=by rw[VG,JI<|by omega,XH]
def zK(n m t)(a:t<m):(Cp n m)[t]?=some ((List.range n).map fun s=>if s*m/n=t then 1 else 15):=by simp[Cp,Xa a]
def Zy.snocA{w F g T}(e:Zy w F g T){b c t}(i:Qh w 3 (.slice b t.length c) (QM t))(hap:Qq (fZ b) F):
 Zy w F (g++[.slice b t.length c]) (T++[t]):=by
 refine⟨by simp[e.1],fun h k j a d=>?_⟩;rcases Xq h g.length with f|f
 ·rw[Xp f]at a;rw[Xp<|by rwa[←e.1]]at d;exact e.2 h k j a d
 rw[Zx f]at a;rw[Zx<|by rwa[←e.1]]at d;have h0:h-g.length=0:=by have:=(Qz.1 a).1;simp at this;omega
 rw[h0]at a;rw[←e.1,h0]at d;simp at a d;subst a d;obtain⟨a2,c2,a,k1,k2,-,-⟩:=i.sees;rw[Xk]at a k1;injection a with a e2 e3;subst e3;exact⟨b,c,rfl,k1,k2,fun a hw=>(i.kept hw (fun e a d=>by rw[XK]at a;exact hap e a d)).sZ⟩
def Zy.less{w F F2 a T}(b:Zy w F a T)(c:∀x∈F2,x∈F):Zy w F2 a T:=b.step (Qc _ _) fun x a=>.inl<|c x a
