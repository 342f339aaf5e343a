import Derived.Test.YtickjpnkoppmgaaGreatDoorAv
set_option linter.all false
namespace Go.Proofs.YtickjpnkoppmgaaGreatDoor
open Go.Proofs.Tryz Go.RowKit K
def ZD(w:World)(F:List Nat)(c:List Value)(T:List (List Int)):Prop:=
 c.length=T.length∧∀(b:Nat)(d:Value)(a:List Int),c[b]?=some d→T[b]?=some a→∃c b,d=.slice c a.length b∧a.length≤b∧b≤maxLen∧∀b,Qb F w b→Qn b 1 c a.length (QK a)
def ZD.step{w c F F2 b T}(a:ZD w F b T)(hk:Qb F w c)(i:QT w.heap.size F F2):ZD c F2 b T:=
 ⟨a.1,fun j l k d e=>by obtain⟨b,c,f,g,h,h6⟩:=a.2 j l k d e;exact⟨b,c,f,g,h,fun a hw=>h6 a<|hk.trans hw i⟩⟩
def ZD.kZ{w b F a T}(c:ZD w F a T)(hk:Qb [] w b):ZD b F a T:=c.step (hk.mono<|by simp)<|QT.refl _ _
def ZD.nil(w F):ZD w F [] []:=⟨rfl,fun a a a a=>by simp at a⟩
def ZD.snoc{w0 w:World}{F g T}(e:ZD w F g T)(j:∀x∈F,x<w0.heap.size){b c t}(i:Qh w 3 (.slice b t.length c) (QK t))(hf:Qs w0.heap.size (fZ b)):
 ZD w F (g++[.slice b t.length c]) (T++[t]):=by
 refine⟨by simp[e.1],fun h l k a d=>?_⟩;rcases Xp h g.length with f|f
 ·rw[Xo f]at a;rw[Xo<|by rwa[←e.1]]at d;exact e.2 h l k a d
 rw[Zy f]at a;rw[Zy<|by rwa[←e.1]]at d;have h0:h-g.length=0:=by have:=(Qz.1 a).1;simp at this;omega
 rw[h0]at a;rw[←e.1,h0]at d;simp at a d;subst a d;obtain⟨a2,c2,a,k1,k2,-,-⟩:=i.sees;rw[Xk]at a k1;injection a with a e2 e3;subst e3;refine⟨b,c,rfl,k1,k2,fun a hw=>?_⟩;exact(i.kept hw (fun x a d=>by rw[XJ]at a;have:=hf x a;have:=j x d;omega)).sZ
def ZD.seesM{w w' F b T}(c:ZD w F b T)(hk:Qb F w w'){a n}(hs:Qn w' 1 a n b):Xw w' a n (T.map QK):=by
 refine⟨b,hs,by rw[QG];exact c.1,fun d g b f b=>?_⟩;rw[ZJ]at b;cases ht:T[d]? with
 |none=>rw[ht]at b;cases b
 |some t=>rw[ht]at b;injection b with b;subst b;obtain⟨b,e,rfl,k1,k2,k3⟩:=c.2 d g t f ht;rw[Xk];exact⟨b,e,rfl,k3 w' hk,k1,k2⟩
def Be(w:World)(F:List Nat)(a:Option Addr)(n:Nat)(xs:List Value):Prop:=∀b,Qb F w b→Qn b 1 a n xs
def Be.step{w b F F2 a n xs}(c:Be w F a n xs)(hk:Qb F w b)(d:QT w.heap.size F F2):Be b F2 a n xs:=fun b hw=>c b<|hk.trans hw d
def Yh(R:List (List Int) × List Nat × Nat × Nat)(w:World)(e:Ending)(w':World):Prop:=
 ∃b d a c,e=.returned (.tuple #[QX b R.1.length d a R.2.1.length c,(R.2.2.1:Nat),(R.2.2.2:Nat)])∧Xv w' b a d c R.1 (R.2.1.map fun a:Nat=>(a:Int))∧Qb [] w w'
def Yh.err{w w' e x R}(a:R=([],[],0,x))(b:e=.returned (.tuple #[QX none 0 0 none 0 0,(0:Int),(x:Nat)]))(hk:Qb [] w w'):Yh R w e w':=by subst a;exact⟨none,0,none,0,b,Xv.nil _,hk⟩
def OA{bs at_ n}(a:at_<0∨(bs.length:Int)<at_∨n<3∨258<n):Uk bs at_ n=([],[],0,2):=by unfold Uk;rw[Qg a]
def Qe2{w wr m j d i k s a q f b c h g C e T t}(y:Qh wr 51 (.slice a i c) e)(E:ZD wr (w.heap.size::d::fZ a) e T)(B:Be wr (w.heap.size::d::fZ a) q k (Qi C))(r:Qf wr d 255 [.slice a i c,s])(u:Qf wr w.heap.size 255 [.slice none 0 0,.slice none 0 0])(hap:Qr (fZ a) [w.heap.size,d])(D:Qb [] w wr)(x:Qs w.heap.size (fZ a))(l:w.heap.size<d)(n:Qb [] wr m)(H:Qh m 3 (.slice b t.length g) (QK t))(F:Qs wr.heap.size (fZ b))(z:Qh j 51 (.slice f (e.length+1) h) (e++[.slice b t.length g]))(o:Qb (Qd<|.slice a i c) m j)(l:QT m.heap.size (Qd<|.slice a i c) (Qd<|.slice f (e.length+1) h)):
 Qh (j.setCell ⟨d,0,none⟩<|.slice f (i+1) h) 51 (.slice f (i+1) h) (e++[.slice b t.length g])∧ZD (j.setCell ⟨d,0,none⟩<|.slice f (i+1) h) (w.heap.size::d::fZ f) (e++[.slice b t.length g]) (T++[t])∧
  Be (j.setCell ⟨d,0,none⟩<|.slice f (i+1) h) (w.heap.size::d::fZ f) q k (Qi C)∧Qf (j.setCell ⟨d,0,none⟩<|.slice f (i+1) h) d 255 [.slice f (i+1) h,s]∧
  Qf (j.setCell ⟨d,0,none⟩<|.slice f (i+1) h) w.heap.size 255 [.slice none 0 0,.slice none 0 0]∧Qr (fZ f) [w.heap.size,d]∧Qb [] w (j.setCell ⟨d,0,none⟩<|.slice f (i+1) h)∧Qs w.heap.size (fZ f):=by
 have e:=y.len;rw[e]at z l;rw[XJ]at o l;rw[XJ]at l;have s:=r.kept n (by simp);have v:=u.kept n (by simp);have q:d∉fZ a:=fun k=>hap d k (by simp)
 have G:w.heap.size∉fZ a:=fun k=>hap _ k (by simp)
 have hlt:∀g∈w.heap.size::d::fZ a,g<wr.heap.size:=by
  intro g e;rcases QB.1 e with rfl|e
  ·exact u.lt
  rcases QB.1 e with rfl|e
  ·exact r.lt
  exact y.lt g (by rwa[XJ])
 have y:=s.kept o q;have A:=v.kept o G;have q:Qb [d] j (j.setCell ⟨d,0,none⟩<|.slice f (i+1) h):=(Qc [d] j).setCell (p:=⟨d,0,none⟩) (by simp) _;have u:Qb (w.heap.size::d::fZ a) m (j.setCell ⟨d,0,none⟩<|.slice f (i+1) h):=(o.mono (by intro g e;simp[e])).trans q (by intro g e;simp at e;subst e;left;simp);have r:QT m.heap.size (w.heap.size::d::fZ a) (w.heap.size::d::fZ f):=by
  intro g e;rcases QB.1 e with rfl|e
  ·left;simp
  rcases QB.1 e with rfl|e
  ·left;simp
  rcases l g e with h|h
  ·left;simp[h]
  exact .inr h
 have j:Qr (fZ f) [w.heap.size,d]:=by
  intro g e k;rcases l g e with h|h
  ·exact hap g h k
  simp at k;rcases k with rfl|rfl
  ·have:=v.lt;omega
  have:=s.lt;omega
 have d:=D.trans n (by simp);refine⟨z.kept q fun g e k=>?_,((E.kZ n).snoc hlt H F).step u r,(B.step (n.mono<|by simp)<|QT.refl _ _).step u r,y.set 0 _,A.kept q (by simp;omega),j,(d.new o x).trans q (by intro g e;simp at e;subst e;exact .inr<|by omega),x.grow l d.size⟩;rw[XJ]at e;exact j g e (by simp at k;simp[k])
def mN(w:World)(s:ByteArray)(r j g i m d:Nat)(R:List Nat × Nat × Nat)(k:Nat)(v:Value)(wr:World):Prop:=
 ∃(a f:Nat)(b e:List Nat)(c:Option Addr)(h:Nat),k=d-a∧a≤d∧v=.int .u64 (a:Nat)∧f≤8*s.size∧b.length≤a∧Hid (e.length=m)∧Hid (R=Jd (Qk s.data.toList) m (d-a) e b f)∧
  Hid (Qh wr 3 (.slice c b.length h) (Qi b))∧Hid (QI wr g (Qi e))∧Hid (Rd wr r j s f)∧Hid (Qf wr i 255 [.slice none 0 0,.slice c b.length h])∧Hid (Qf wr w.heap.size 255 [.slice none 0 0,.slice none 0 0])∧
  Hid (Qr (fZ c) [w.heap.size,r,j,i,g])∧Hid (Qb [] w wr)∧Hid (Qs w.heap.size (fZ c))
def xO{w wr w3 w4 w5 s r q g gP n p a a5 c c5 x o x1}(hn:n=o.length)(hR:Qh wr 3 (.slice a o.length c) (Qi o))(hA:Qf wr gP 255 [.slice none 0 0,.slice a o.length c])(hB:Qf wr w.heap.size 255 [.slice none 0 0,.slice none 0 0])(hap:Qr (fZ a) [w.heap.size,r,q,gP,g])(hK:Qb [] w wr)(hF:Qs w.heap.size (fZ a))(x8:w.heap.size<r∧w.heap.size<q∧r<gP∧q<gP∧gP<g∧g<wr.heap.size)(h8:Qb [r] wr w3)(y0:Rd w3 r q s p)(h3:Qb [g] w3 w4)(x6:QI w4 g (Qi x1))(x9:Qh w5 3 (.slice a5 (o.length+1) c5) (Qi<|o++[x]))(h1:Qb (Qd<|.slice a o.length c) w4 w5)(h5:QT w4.heap.size (Qd<|.slice a o.length c) (Qd<|.slice a5 (o.length+1) c5)):
 Qh (w5.setCell ⟨gP,1,none⟩<|.slice a5 (o.length+1) c5) 3 (.slice a5 (o++[x]).length c5) (Qi<|o++[x])∧QI (w5.setCell ⟨gP,1,none⟩<|.slice a5 (o.length+1) c5) g (Qi x1)∧Rd (w5.setCell ⟨gP,1,none⟩<|.slice a5 (o.length+1) c5) r q s p∧
  Qf (w5.setCell ⟨gP,1,none⟩<|.slice a5 (o.length+1) c5) gP 255 [.slice none 0 0,.slice a5 (o++[x]).length c5]∧Qf (w5.setCell ⟨gP,1,none⟩<|.slice a5 (o.length+1) c5) w.heap.size 255 [.slice none 0 0,.slice none 0 0]∧
  Qr (fZ a5) [w.heap.size,r,q,gP,g]∧Qb [] w (w5.setCell ⟨gP,1,none⟩<|.slice a5 (o.length+1) c5)∧Qs w.heap.size (fZ a5):=by
 have e:(o++[x]).length=o.length+1:=by simp
 rw[XJ]at h1 h5;rw[XJ]at h5;obtain⟨o1,o2,o3,o4,o5,o6⟩:=x8;have z3:=h8.size;have z4:=h3.size;have h2:∀y∈[w.heap.size,r,q,gP,g],y∉fZ a:=fun y hy hm=>hap y hm hy
 have x2:=(hA.kept h8 (by simp;omega)).kept h3 (by simp;omega);have x4:=(hB.kept h8 (by simp;omega)).kept h3 (by simp;omega);have y1:=y0.kept h3 (by intro y hy hm;simp at hy hm;omega);have x3:=x2.kept h1 (h2 gP<|by simp);have x5:=x4.kept h1 (h2 _<|by simp);have y2:=y1.kept h1 (by intro y hy hm;simp at hy;rcases hy with rfl|rfl;exact h2 y (by simp) hm;exact h2 y (by simp) hm);have x7:=x6.kept h1 (h2 g<|by simp);have h4:Qb [gP] w5 (w5.setCell ⟨gP,1,none⟩<|.slice a5 (o.length+1) c5):=(Qc [gP] w5).setCell (p:=⟨gP,1,none⟩) (by simp) _;have x0:Qr (fZ a5) [w.heap.size,r,q,gP,g]:=by
  intro y hy hm;rcases h5 y hy with h|h
  ·exact hap y h hm
  simp at hm;omega
 have h9:Qb [] w w4:=(hK.trans h8 (by intro y hy;simp at hy;omega)).trans h3 (by intro y hy;simp at hy;omega);refine⟨?_,x7.kept h4 (by simp;omega),y2.kept h4 (by intro y hy hm;simp at hy hm;omega),?_,x5.kept h4 (by simp;omega),x0,(h9.new h1 hF).trans h4 (by intro y hy;simp at hy;omega),hF.grow h5 h9.size⟩
 ·rw[e];exact x9.kept h4 (fun y hy hm=>by rw[XJ]at hy;simp at hm;subst hm;exact x0 y hy<|by simp)
 rw[e];exact x3.set 1 _
def mO(w:World)(d:Nat)(j:Value)(i:Option Addr)(h:Nat)(C:List Nat)(bs:List Bool)(n:Int)(many:Nat)(R:List (List Int) × Nat × Nat)(k:Nat)(l v:Value)(wr:World):Prop:=
 ∃(a e:Nat)(c:List (List Int))(g:List Value)(b:Option Addr)(f:Nat),k=many-a∧a≤many∧v=.int .u64 (a:Nat)∧l=.int .i64 (e:Nat)∧e≤bs.length∧Hid (c.length=a∧∀l∈c,l.length≤258)∧Hid (R=VI bs n (many-a) c e)∧
  Hid (Qh wr 51 (.slice b a f) g)∧Hid (ZD wr (w.heap.size::d::fZ b) g c)∧Hid (Be wr (w.heap.size::d::fZ b) i h (Qi C))∧Hid (Qf wr d 255 [.slice b a f,j])∧Hid (Qf wr w.heap.size 255 [.slice none 0 0,.slice none 0 0])∧
  Hid (Qr (fZ b) [w.heap.size,d])∧Hid (Qb [] w wr)∧Hid (Qs w.heap.size (fZ b))
set_option maxRecDepth 100000 in
set_option maxHeartbeats 4000000 in
def xV(s:ByteArray)(at_ n:Int)(w)(hs:s.size≤1000000000):
 Calls prog 181 #[s,at_,n] w (Yh (Uk (Qk s.data.toList) at_ n) w):=by
 have m1:=XC s;have hk:Qb [] w (w.alloc<|.cells #[.slice none 0 0,.slice none 0 0] 255):=(Qc _ _).alloc _;have hA:=Qx w [.slice none 0 0,.slice none 0 0] 255;obtain⟨HK,HA,y7⟩:=qc hk hA m1;clear hk hA m1
 by_cases h1:at_<0∨(8*s.size:Nat)<at_
 ·have HR:=Qa<|OA (bs:=Qk s.data.toList) (at_:=at_) (n:=n) (by rw[y7.o];omega);go_enter func181,LF;go_wp2_with fail;refine(IU s at_ _ (by omega) h1).mono ?_;rintro e w1⟨rfl,n7⟩;have x2:Qb [] (w.alloc<|.cells #[.slice none 0 0,.slice none 0 0] 255) w1:=by rw[n7];exact(Qc _ _).alloc _
  obtain⟨y5,y3⟩:=qb (HK.o.trans x2<|by simp) (HA.o.kept x2<|by simp);clear n7 x2 h1;have h8:=y3.o;obtain⟨r0,r1,f0,f1,s0,s1⟩:=h8.six (.slice none 0 0)<|.slice none 0 0;clear h8;go_wp2_with fail;refine Q9 (v:=.tuple #[QX none 0 0 none 0 0,(0:Int),(2:Nat)]) (by simp[results,Rl,go_sem,QX,s0,s1]) rfl ?_;exact Yh.err HR.o (by rfl) (y5.o.set2<|.inr<|by simp)
 obtain⟨p,rfl⟩:=X5 (by omega:0≤at_);have d7:p≤8*s.size:=by omega
 clear h1
 by_cases h3:n<3
 ·have g3:decide (n<3)=true:=Xr h3;have HR:=Qa<|OA (bs:=Qk s.data.toList) (at_:=(p:Int)) (n:=n)<|.inr<|.inr<|.inl h3;go_enter func181,LF;go_wp2_with fail;refine(BD s (p:Int) _ (by omega) (by omega)<|by simpa using d7).mono ?_;rintro e w1⟨r,q,rfl,-,x2,-⟩;obtain⟨y5,y3⟩:=qb (HK.o.trans x2<|by simp) (HA.o.kept x2<|by simp);clear x2 h3;have h8:=y3.o;obtain⟨r0,r1,f0,f1,s0,s1⟩:=h8.six (.slice none 0 0)<|.slice none 0 0;clear h8;go_wp2_with fail;refine Q9 (v:=.tuple #[QX none 0 0 none 0 0,(0:Int),(2:Nat)]) (by simp[results,Rl,go_sem,QX,s0,s1]) rfl ?_;exact Yh.err HR.o (by rfl) (y5.o.set2<|.inr<|by simp)
 have g3:decide (n<3)=false:=XI h3
 by_cases h4:258<n
 ·have g4:decide (258<n)=true:=Xr h4;have HR:=Qa<|OA (bs:=Qk s.data.toList) (at_:=(p:Int)) (n:=n)<|.inr<|.inr<|.inr h4;go_enter func181,LF;go_wp2_with fail;refine(BD s (p:Int) _ (by omega) (by omega)<|by simpa using d7).mono ?_;rintro e w1⟨r,q,rfl,-,x2,-⟩;obtain⟨y5,y3⟩:=qb (HK.o.trans x2<|by simp) (HA.o.kept x2<|by simp);clear x2 h3 h4;have h8:=y3.o;obtain⟨r0,r1,f0,f1,s0,s1⟩:=h8.six (.slice none 0 0)<|.slice none 0 0;clear h8;go_wp2_with fail;refine Q9 (v:=.tuple #[QX none 0 0 none 0 0,(0:Int),(2:Nat)]) (by simp[results,Rl,go_sem,QX,s0,s1]) rfl ?_;exact Yh.err HR.o (by rfl) (y5.o.set2<|.inr<|by simp)
 have g4:decide (258<n)=false:=XI h4;obtain⟨o,c6⟩:=qx<|Qk s.data.toList;have x1:Uk o (p:Int) n=if(QH o p 3).2≠0 then([],[],0,(QH o p 3).2)else if(QH o p 3).1<2∨6<(QH o p 3).1 then([],[],0,110)else
  if(QH o (p+3) 15).2≠0 then([],[],0,(QH o (p+3) 15).2)else if(QH o (p+3) 15).1=0 then([],[],0,110)else
  if(Jd o (QH o p 3).1 (QH o (p+3) 15).1 (List.range (QH o p 3).1) [] (p+18)).2.2≠0 then([],[],0,(Jd o (QH o p 3).1 (QH o (p+3) 15).1 (List.range (QH o p 3).1) [] (p+18)).2.2)else
  if(VI o n (QH o p 3).1 [] (Jd o (QH o p 3).1 (QH o (p+3) 15).1 (List.range (QH o p 3).1) [] (p+18)).2.1).2.2≠0 then([],[],0,(VI o n (QH o p 3).1 [] (Jd o (QH o p 3).1 (QH o (p+3) 15).1 (List.range (QH o p 3).1) [] (p+18)).2.1).2.2)else
  ((VI o n (QH o p 3).1 [] (Jd o (QH o p 3).1 (QH o (p+3) 15).1 (List.range (QH o p 3).1) [] (p+18)).2.1).1,(Jd o (QH o p 3).1 (QH o (p+3) 15).1 (List.range (QH o p 3).1) [] (p+18)).1,(VI o n (QH o p 3).1 [] (Jd o (QH o p 3).1 (QH o (p+3) 15).1 (List.range (QH o p 3).1) [] (p+18)).2.1).2.1,0):=by
  unfold Uk;rw[Qe (by rw[←c6,y7.o];omega),Zw]
 have c7:(QH o (p+3) 15).1≤32767:=by
  unfold QH
  split
  ·simp
  split
  ·simp
  have h1:=Dw<|QS o (p+3) (15:Int).toNat;have h2:(QS o (p+3) (15:Int).toNat).length≤15:=by unfold QS;rw[Zn];simp;omega
  have h3:2^(QS o (p+3) (15:Int).toNat).length≤2^15:=Y7 (by decide) h2;simp only;omega
 have c4:=jY o p 3;have b9:=jY o (p+3) 15;obtain⟨p4,p5⟩:=qb (fun(W:World)(r q:Nat)(hr:Rd W r q s p)=>BM r q s p 3 W hr (by omega) d7) fun(W:World)(r q:Nat)(hr:Rd W r q s (p+3))(h:p+3≤8*s.size)=>BM r q s (p+3) 15 W hr (by omega) h;rw[c6]at p4 p5;obtain⟨⟨m,e1⟩,e8⟩:∃A,QH o p 3=A:=⟨_,rfl⟩;obtain⟨⟨M,e2⟩,e9⟩:∃A,QH o (p+3) 15=A:=⟨_,rfl⟩;rw[←c6]at x1 e8 e9 c7 c4 b9 p4 p5;clear c6 o;rw[e8]at c4 x1 p4;rw[e9]at b9 c7 x1 p5;have m5:e1=0→p+3≤8*s.size:=by intro h;have:=(c4 h).2.2;rw[y7.o]at this;simp at this;omega
 have m6:e2=0→p+18≤8*s.size:=by intro h;have:=(b9 h).2.2;rw[y7.o]at this;simp at this;omega
 have c7:M≤32767:=c7;obtain⟨y8,HN,j4,j5⟩:=qd x1 (by omega:3≤n∧n≤258) m5 m6;clear x1 e8 e9 m5 m6 c4 b9 h3 h4;go_enter func181,LF;go_wp2_with fail;refine(BD s (p:Int) _ (by omega) (by omega)<|by simpa using d7).mono ?_;rintro e w1⟨r,q,rfl,x6,x2,f5⟩;rw[Zw]at x6;obtain⟨y5,y3,z7,y0⟩:=qd (HK.o.trans x2<|by simp) (HA.o.kept x2<|by simp) x6 (by have h1:=f5 r (by simp);have h2:=f5 q (by simp);have h3:=x6.lt r (by simp);have h4:=x6.lt q (by simp);simp at h1 h2;omega:w.heap.size<r∧w.heap.size<q∧r<w1.heap.size∧q<w1.heap.size);clear x6 x2 f5 HK HA;go_wp2_with fail;refine(p4.o w1 r q z7.o).mono ?_;rintro e w2⟨rfl,x6,d2⟩;obtain⟨p6,p2,b3,l7⟩:=qd (y5.o.trans d2 (by intro y hy;simp at hy;subst hy;exact .inr (by have:=y0.o;omega))) (y3.o.kept d2 (by simp;have:=y0.o;omega)) x6 d2.size;clear x6 d2 y5 y3 z7 p4 g3 g4
 by_cases g7:e1=0
 ·subst g7;have u3:=j4.o rfl;have b3:=Qa (show Rd w2 r q s (p+3)from b3.o)
  by_cases d4:m<2
  ·have q1:decide ((m:Int)<2)=true:=(by simp;omega);have HR:=Qa (by rw[y8.o,Qe<|by simp,Qg<|.inl d4]:Uk (Qk s.data.toList) (p:Int) n=([],[],0,110));clear d4;have h8:=p2.o;obtain⟨r0,r1,f0,f1,s0,s1⟩:=h8.six (.slice none 0 0)<|.slice none 0 0;clear h8;go_wp2_with fail;refine Q9 (v:=.tuple #[QX none 0 0 none 0 0,(0:Int),(110:Nat)]) (by simp[results,Rl,go_sem,QX,s0,s1]) rfl ?_;exact Yh.err HR.o (by rfl) (p6.o.set2<|.inr<|by simp)
  have q1:decide ((m:Int)<2)=false:=by simp;omega
  by_cases d5:6<m
  ·have q2:decide (6<(m:Int))=true:=(by simp;omega);have HR:=Qa (by rw[y8.o,Qe<|by simp,Qg<|.inr d5]:Uk (Qk s.data.toList) (p:Int) n=([],[],0,110));clear d4 d5;have h8:=p2.o;obtain⟨r0,r1,f0,f1,s0,s1⟩:=h8.six (.slice none 0 0)<|.slice none 0 0;clear h8;go_wp2_with fail;refine Q9 (v:=.tuple #[QX none 0 0 none 0 0,(0:Int),(110:Nat)]) (by simp[results,Rl,go_sem,QX,s0,s1]) rfl ?_;exact Yh.err HR.o (by rfl) (p6.o.set2<|.inr<|by simp)
  have q2:decide (6<(m:Int))=false:=by simp;omega
  have x8:=Qa (by omega:2≤m∧m≤6);clear d4 d5;go_wp2_with fail;refine(p5.o w2 r q b3.o u3).mono ?_;rintro e w3⟨rfl,x6,d3⟩;obtain⟨b2,a1,b4,l8⟩:=qd (p6.o.trans d3 (by intro y hy;simp at hy;subst hy;exact .inr (by have:=y0.o;omega))) (p2.o.kept d3 (by simp;have:=y0.o;omega)) x6<|QU l7.o d3.size;clear x6 d3 p6 p2 b3 p5 l7
  by_cases g8:e2=0
  ·subst g8;have m8:=j5.o rfl;have b4:=Qa (show Rd w3 r q s (p+18)from b4.o)
   by_cases b8:M=0
   ·have q3:((M:Int)==0)=true:=(by simp;omega);have HR:=Qa (by rw[y8.o,Qe<|by simp,Qe (by have:=x8.o;omega),Qe<|by simp,Qg b8]:Uk (Qk s.data.toList) (p:Int) n=([],[],0,110));subst b8;have h8:=a1.o;obtain⟨r0,r1,f0,f1,s0,s1⟩:=h8.six (.slice none 0 0)<|.slice none 0 0;clear h8;go_wp2_with fail;refine Q9 (v:=.tuple #[QX none 0 0 none 0 0,(0:Int),(110:Nat)]) (by simp[results,Rl,go_sem,QX,s0,s1]) rfl ?_;exact Yh.err HR.o (by rfl) (b2.o.set2<|.inr<|by simp)
   have q3:((M:Int)==0)=false:=(by simp;omega);have v8:IntKind.i64.wrap (m:Int)=(m:Int):=Q2 _ (by have:=x8.o;omega);have d5:=x8.o.2;have g0:=fE (Qk s.data.toList) m (by have:=x8.o;omega) M (List.range m) [] (p+18) (by simp) (by rwa[y7.o]) (by simp) (by simp);have x1:=y8.o;rw[Qe<|by simp,Qe (by have:=x8.o;omega),Qe<|by simp,Qe b8]at x1;obtain⟨⟨C,qq,e3⟩,hC⟩:∃C,Jd (Qk s.data.toList) m M (List.range m) [] (p+18)=C:=⟨_,rfl⟩;rw[hC]at g0;simp only[hC]at x1;obtain⟨i7,l0,b1⟩:=qc hC g0 x1;clear x1 g0 hC y8 j4 j5 b8;go_wp2_with fail;have q9:Qb [] w3 (w3.alloc<|.cells #[.slice none 0 0,.slice none 0 0] 255):=(Qc _ _).alloc _;have b7:=Qx w3 [.slice none 0 0,.slice none 0 0] 255;obtain⟨WP,f4⟩:=qx<|w3.alloc<|.cells #[.slice none 0 0,.slice none 0 0] 255;obtain⟨gP,m3⟩:=qx w3.heap.size;rw[f4]at q9 b7;rw[f4];rw[m3]at b7 ⊢;obtain⟨x3,j3,x4,l3,o6⟩:=qe b7 (b2.o.trans q9<|by simp) (a1.o.kept q9<|by simp) (b4.o.kept q9<|by simp[Qr]) (by have h1:=l8.o;have h2:=y0.o;omega:r<gP∧q<gP);clear q9 b7 f4 m3 b2 a1 b4 l8;refine(aJ m WP<|by omega).mono ?_;rintro e w4⟨g,rfl,g5,q4,t1⟩;obtain⟨j2,i1,i6,l2,p3,p8⟩:=qf (j3.o.trans q4<|by simp) (x3.o.kept q4<|by simp) (x4.o.kept q4<|by simp) (l3.o.kept q4<|by simp[Qr]) g5.blk (by have h1:=y0.o;have h2:=o6.o;have h3:=x3.o.lt;have h4:=g5.lt g (by simp[Qd,qo]);omega:w.heap.size<r∧w.heap.size<q∧r<gP∧q<gP∧gP<g∧g<w4.heap.size);clear g5 q4 t1 j3 x3 x4 l3;go_wp2_with fail;have j7:=Qa<|Ql w4.heap.size
   go_loopg [66] M (fun k v wr=>Hid (w4.heap.size≤wr.heap.size)∧mN w s r q g gP m M (C,qq,e3) k v wr)
   ·exact⟨j7,0,p+18,[],List.range m,none,0,by omega,by omega,rfl,m8,by simp,Qa<|by simp,Qa i7.o.symm,Qa<|Qh.nil _ _,p3,l2,i1,i6,Qa<|by simp[Qr,fZ],j2,Qa<|by simp[Qs,fZ]⟩
   clear p3 l2 i1 i6 j2 i7 j7;obtain⟨j6,i,pp,h9,y2,a9,c9,hk,hi,rfl,g2,u1,z6,p1,b5,p3,z7,x3,x4,x9,x7,HF⟩:=hrel;have Hk:=Qa hk;clear hk
   by_cases hlt:i<M
   ·have t8:(i:Int)<M:=(by omega);have n5:DG (Qk s.data.toList) pp ((m:Int)-1)=ZR ((m:Int)-1) 0 ((Qk s.data.toList).drop pp):=(by unfold DG;rw[Qe (by have:=x8.o;omega)]);have y4:=Qa<|Qho r q s pp ((m:Int)-1) wr z7.o (by omega) g2;have Xt:(C,qq,e3)=if(ZR ((m:Int)-1) 0<|(Qk s.data.toList).drop pp).2=0 then Jd (Qk s.data.toList) m (M-(i+1)) (K.turned y2 (ZR ((m:Int)-1) 0<|(Qk s.data.toList).drop pp).1) (h9++[y2.getD (ZR ((m:Int)-1) 0<|(Qk s.data.toList).drop pp).1 0]) (pp+(ZR ((m:Int)-1) 0<|(Qk s.data.toList).drop pp).1+1)
     else([],0,if(ZR ((m:Int)-1) 0<|(Qk s.data.toList).drop pp).2=3 then 110 else(ZR ((m:Int)-1) 0<|(Qk s.data.toList).drop pp).2):=by
     rw[p1.o,show M-i=(M-(i+1))+1 by omega,Jd]
    have f8:=Kz ((m:Int)-1) ((Qk s.data.toList).drop pp) 0 (by have:=x8.o;omega);have p0:=kO ((m:Int)-1) (Qk s.data.toList) pp (by rwa[y7.o]);rw[n5]at y4;obtain⟨⟨u,er⟩,hU⟩:∃U,ZR ((m:Int)-1) 0 ((Qk s.data.toList).drop pp)=U:=⟨_,rfl⟩;rw[hU]at y4 Xt f8 p0;obtain⟨x5,p7,b6⟩:=qc Xt f8 p0;clear hU Xt f8 p0 n5;go_wp2_with fail;refine y4.o.mono ?_;rintro e w5⟨rfl,n0,q7⟩;obtain⟨o7,x0⟩:=qb n0 q7;clear n0 q7 y4;rcases p7.o.2 with hz|hz|hz
    ·have hz:er=0:=hz;subst hz;have hu:(u:Int)≤m-1:=p7.o.1 rfl;have p0:=b6.o rfl;rw[y7.o]at p0;have u4:pp+u+1≤8*s.size:=p0;have o8:=Qa<|show Rd w5 r q s (pp+u+1)from o7.o;obtain⟨x,hx⟩:=qy y2 u (by have:=z6.o;omega);have HX:=Qa (by rw[List.getD,hx];rfl:y2.getD u 0=x);have e7:=Qa (show(C,qq,e3)=Jd (Qk s.data.toList) m (M-(i+1)) (K.turned y2 u) (h9++[x]) (pp+u+1)by
      have hR:=x5.o;rwa[Qg<|show((u,0):Nat × Nat).2=0 from rfl,HX.o]at hR)
     obtain⟨o5,n8⟩:=qb (by have h1:=p8.o;have h2:=j6.o;omega:w.heap.size<r∧w.heap.size<q∧r<gP∧q<gP∧gP<g∧g<wr.heap.size)<|p3.o.kept x0.o (by simp;have:=p8.o;omega);have z8:=x3.o.kept x0.o (by simp;have:=p8.o;omega);have d0:=z8.cell (i:=1) (u:=.slice a9 h9.length c9) rfl;obtain⟨e0,o9,o3⟩:=qc z8 (b5.o.kept x0.o (fun y hy hm=>by rw[XJ]at hy;simp at hm;subst hm;exact x9.o y hy<|by simp)) (fun(W:World)(hb:QI W g (Qi y2))=>show Calls prog 209 #[.slice g m m,.int .i64 u] W _ from by have h:=aH g m u y2 W (by have:=z6.o;omega) (by have:=z6.o;omega) (by have:=x8.o;omega) (by have:=z6.o;omega) hb;rwa[z6.o,HX.o]at h);have m7:g∉Qd (.slice a9 h9.length c9)∧gP∉Qd (.slice a9 h9.length c9):=(by rw[XJ];exact⟨fun hm=>x9.o g hm<|by simp,fun hm=>x9.o gP hm<|by simp⟩);obtain⟨j8,j1⟩:=qb m7 (by have:=p8.o;omega:gP≠g);have L1:(Qi h9).length+1≤maxLen:=(by rw[QD];simp only[maxLen];omega);have L2:((Qi h9).length+1)*8≤140737488355328:=(by rw[QD];omega);clear p0 hx z8 x5 p7 b6 m7;go_wp2_with fail
     go_region_law (first
      |(refine Qge rfl _ _ 51 rfl 3 (0:Int) 8 XH XR rfl (.slice a9 h9.length c9) (Qi h9) [.int .i64 (x:Int)] w6.heap.size 1 1 rfl rfl (by simp[Value.oneCell']) s2.o s3.o (fun h=>by cases h) L1 L2 ?_;intro a7 q0 w7 g6 q8 f7;have f3:=(g9.o.alloc<|.cells #[.int .i64 (x:Int)] 3).kept q8 j8.o.2;have k0:=f3.cell (i:=1) (u:=.slice a9 h9.length c9) rfl;have k1:=f3.free 1;clear f3)
      |(go_simp;go_at_call 209;refine(o3.o _<|n8.o.kept (Qc [] w5).drew<|by simp).mono ?_;rintro e w6⟨rfl,s8,t7⟩;have y1:Qb [g] w5 w6:=(Qc [g] w5).drew.trans t7 fun y hy=>.inl hy;have d6:=y1.cZ d0 (by simp;exact j1.o);have g9:=Qa<|e0.o.kept y1 (by simp;exact j1.o);have n6:=g9.o.lt;have s2:=Qa<|(o9.o.kept y1 (fun y hy hm=>by simp at hm;subst hm;exact j8.o.1 hy)).alloc<|.cells #[.int .i64 (x:Int)] 3;have s3:=Qa<|show Qn (w6.alloc<|.cells #[.int .i64 (x:Int)] 3) 1 w6.heap.size 1 [.int .i64 (x:Int)]from Qn.lit (news:=[.int .i64 (x:Int)]) rfl))
     all_goals (
      go_wp2
      go_roundg (M-(i+1))
      case measure=>have:=Hk.o;omega
      have g6:Qh w7 3 (.slice a7 (h9.length+1) q0) (Qi<|h9++[x]):=(by have e1:Qi h9++[Value.int .i64 (x:Int)]=Qi (h9++[x]):=(by simp[Qi]);rw[←e1];have h:=g6;rwa[QD]at h);have q8:Qb (Qd<|.slice a9 h9.length c9) (w6.alloc<|.cells #[.int .i64 (x:Int)] 3) w7:=q8;have f7:QT (w6.alloc<|.cells #[.int .i64 (x:Int)] 3).heap.size (Qd<|.slice a9 h9.length c9) (Qd<|.slice a7 (h9.length+1) q0):=(by have h:=f7;rwa[QD]at h);have m4:Qb [g] w5 (w6.alloc<|.cells #[.int .i64 (x:Int)] 3):=y1.alloc _;have s9:QI (w6.alloc<|.cells #[.int .i64 (x:Int)] 3) g (Qi<|K.turned y2 u):=s8.kept ((Qc [] w6).alloc _) (by simp);obtain⟨r1,r2,r3,r4,r5,r6,r7,r8⟩:=xO rfl b5.o x3.o x4.o x9.o x7.o HF.o o5.o x0.o o8.o m4 s9 g6 q8 f7;have w8:=r7.size;have u8:w4.heap.size≤(w7.setCell ⟨gP,1,none⟩<|.slice a7 (h9.length+1) q0).heap.size:=(by have z1:=j6.o;have z2:=x0.o.size;have z3:=m4.size;have z4:=q8.size;have z5:(w7.setCell ⟨gP,1,none⟩<|.slice a7 (h9.length+1) q0).heap.size=w7.heap.size:=(by simp[World.setCell]);omega);simp only[QD];exact⟨Qa u8,i+1,pp+u+1,h9++[x],K.turned y2 u,a7,q0,rfl,by omega,by simp,u4,by simp;omega,Qa (by rw[DF _ _ (by have:=z6.o;omega)];exact z6.o),e7,Qa r1,Qa r2,Qa r3,Qa r4,Qa r5,Qa r6,Qa r7,Qa r8⟩)
    ·have hz:er=3:=hz;subst hz;have hE:(C,qq,e3)=([],0,110):=(by rw[x5.o,Qe<|by simp];rfl);injection hE with h5 h6;injection h6 with h6 h7;subst h7;obtain⟨HR,y9,y6⟩:=qc (by rw[b1.o,Qg<|by simp]:Uk (Qk s.data.toList) (p:Int) n=([],[],0,110)) (x7.o.trans x0.o (by intro y hy;simp at hy;subst hy;exact .inr (by have:=y0.o;omega)))<|x4.o.kept x0.o (by simp;have:=y0.o;omega);clear h5 h6 x5 p7 b6;have h8:=y6.o;obtain⟨r0,r1,f0,f1,s0,s1⟩:=h8.six (.slice none 0 0)<|.slice none 0 0;clear h8;go_wp2_with fail;refine Q9 (v:=.tuple #[QX none 0 0 none 0 0,(0:Int),(110:Nat)]) (by simp[results,Rl,go_sem,QX,s0,s1]) rfl ?_;exact Yh.err HR.o (by rfl) (y9.o.set2<|.inr<|by simp)
    have hz:er=10:=hz;subst hz;have hE:(C,qq,e3)=([],0,10):=(by rw[x5.o,Qe<|by simp];rfl);injection hE with h5 h6;injection h6 with h6 h7;subst h7;obtain⟨HR,y9,y6⟩:=qc (by rw[b1.o,Qg<|by simp]:Uk (Qk s.data.toList) (p:Int) n=([],[],0,10)) (x7.o.trans x0.o (by intro y hy;simp at hy;subst hy;exact .inr (by have:=y0.o;omega)))<|x4.o.kept x0.o (by simp;have:=y0.o;omega);clear h5 h6 x5 p7 b6;have h8:=y6.o;obtain⟨r0,r1,f0,f1,s0,s1⟩:=h8.six (.slice none 0 0)<|.slice none 0 0;clear h8;go_wp2_with fail;refine Q9 (v:=.tuple #[QX none 0 0 none 0 0,(0:Int),(10:Nat)]) (by simp[results,Rl,go_sem,QX,s0,s1]) rfl ?_;exact Yh.err HR.o (by rfl) (y9.o.set2<|.inr<|by simp)
   obtain rfl:i=M:=(by omega);have u0:¬(i:Int)<i:=(by omega);have hE:(C,qq,e3)=(h9,pp,0):=(by rw[p1.o,ZM];rfl);injection hE with h5 h6;injection h6 with h6 h7;subst h5 h6 h7;obtain⟨m0,m9,s6⟩:=l0.o rfl;have o0:=Qa (by have h:C.length=0+i:=m0;omega:C.length≤32767);have x1:=b1.o;rw[Qe<|by simp]at x1;obtain⟨⟨TT,tq,e4⟩,hD⟩:∃D,VI (Qk s.data.toList) n m [] qq=D:=⟨_,rfl⟩;simp only[hD]at x1;have e6:=Qa x1;have HD:=Qa hD;have hq:qq≤(Qk s.data.toList).length:=m9;have j0:=Qa (show Be wr [w.heap.size,gP] a9 C.length (Qi C)from fun w' hw=>by
    refine b5.o.sZ.kept hw fun y hy hm=>x9.o y hy ?_
    simp at hm;rcases hm with rfl|rfl<;>simp)
   have o2:=Qa (by have:=p8.o;omega:w.heap.size<gP);have HS:=z7;clear x1 hD b1 l0 s6 m0 m9 p1 p3 x9 g2 u1;go_wp2_with fail;refine(Ei r q s qq wr<|by exact z7.o).mono ?_;rintro e w5⟨rfl,rfl⟩
   go_wp2
   go_loopg [1,94] m (fun k v1 v wr=>mO w gP (.slice a9 C.length c9) a9 C.length C (Qk s.data.toList) n m (TT,tq,e4) k v1 v wr)
   ·exact⟨0,qq,[],[],none,0,by omega,by omega,rfl,rfl,hq,Qa ⟨rfl,by simp⟩,Qa HD.o.symm,Qa<|Qh.nil _ _,Qa<|ZD.nil _ _,j0,x3,x4,Qa<|by simp[Qr,fZ],x7,Qa<|by simp[Qs,fZ]⟩
   clear x3 x4 j0 HD hq b5 z7 HS x7 HF;obtain⟨i2,q2,T,vs,a8,c8,hk,hi,rfl,rfl,hq,l6,p1,p9,l5,i8,x3,x4,x9,x7,HF⟩:=hrel;have s4:=Qa hk;clear hk
   by_cases hlt:i2<m
   ·have t8:(i2:Int)<m:=(by omega);have y4:=Qa<|uU s (q2:Int) n wr hs;have Xt:(TT,tq,e4)=if(Jo (Qk s.data.toList) (q2:Int) n).2.2≠0 then([],0,(Jo (Qk s.data.toList) (q2:Int) n).2.2)else if XA (Jo (Qk s.data.toList) (q2:Int) n).1 then VI (Qk s.data.toList) n (m-(i2+1)) (T++[(Jo (Qk s.data.toList) (q2:Int) n).1]) (Jo (Qk s.data.toList) (q2:Int) n).2.1 else([],0,80):=by rw[p1.o,show m-i2=(m-(i2+1))+1 by omega,VI]
    have f9:=zV (Qk s.data.toList) (q2:Int) n;obtain⟨⟨t,tp,e5⟩,hD⟩:∃D,Jo (Qk s.data.toList) (q2:Int) n=D:=⟨_,rfl⟩;rw[hD]at y4 Xt f9;obtain⟨x5,j9⟩:=qb Xt f9;clear Xt f9 hD;go_wp2_with fail;refine y4.o.mono ?_;rintro e w5⟨a5,c5,rfl,n1,q7,m2⟩;obtain⟨l1,x0,o1⟩:=qc (show Qh w5 3 (.slice a5 t.length c5) (QK t)from n1) q7<|show Qs wr.heap.size (fZ a5)from m2;clear n1 q7 m2 y4
    by_cases d9:e5=0
    ·subst d9;obtain⟨n3,n4⟩:=j9.o rfl;have v6:t.length=n.toNat:=n3;have v7:tp≤(Qk s.data.toList).length:=n4;have l4:=Qa<|l1.o.sZ;have u9:t.length≤258:=(by have:=HN.o;omega);clear j9 v6 n3 n4;cases hg:XA t with
     |false=>have HC:=Qa (by unfold JZ;rw[hg];rfl:JZ t=80);have hE:(TT,tq,e4)=([],0,80):=(by rw[x5.o,Qe<|by simp,hg];rfl);injection hE with h5 h6;injection h6 with h6 h7;subst h7;have HR:=Qa (by rw[e6.o,Qg<|by simp]:Uk (Qk s.data.toList) (p:Int) n=([],[],0,80));clear hg h5 h6 x5;go_wp2_with fail;refine(Em a5 c5 t _ l4.o<|by omega).mono ?_;rintro e w6⟨rfl,rfl⟩;rw[HC.o];obtain⟨y9,y6⟩:=qb (x7.o.trans x0.o<|by simp) (x4.o.kept x0.o<|by simp);have h8:=y6.o;obtain⟨r0,r1,f0,f1,s0,s1⟩:=h8.six (.slice none 0 0)<|.slice none 0 0;clear h8;go_wp2_with fail;refine Q9 (v:=.tuple #[QX none 0 0 none 0 0,(0:Int),(80:Nat)]) (by simp[results,Rl,go_sem,QX,s0,s1]) rfl ?_;exact Yh.err HR.o (by rfl) (y9.o.set2<|.inr<|by simp)
     |true=>
      obtain⟨HC,e7⟩:=qb (by unfold JZ;rw[hg];rfl:JZ t=0) (show(TT,tq,e4)=VI (Qk s.data.toList) n (m-(i2+1)) (T++[t]) tp by rw[x5.o,Qe<|by simp,hg];rfl);have u6:=p9.o.kept x0.o (by simp);have r9:=p9.o.len;have L1:vs.length+1≤maxLen:=(by rw[r9];simp only[maxLen];omega);have L2:(vs.length+1)*24≤140737488355328:=(by rw[r9];omega);have z8:=x3.o.kept x0.o (by simp);have d0:=z8.cell (i:=0) (u:=.slice a8 i2 c8) rfl;obtain⟨e0,o4⟩:=qb z8 (show gP∉Qd (.slice a8 i2 c8)by rw[XJ];exact fun hm=>x9.o gP hm<|by simp);clear hg x5 r9 z8;go_wp2_with fail;refine(Em a5 c5 t _ l4.o<|by omega).mono ?_;rintro e w6⟨rfl,rfl⟩;rw[HC.o];go_wp2_with ((at_builtin;refine UL _ rfl _ _ 253 rfl 51 (.slice none 0 0) 24 LJ Hp rfl _ _ [.slice a5 t.length c5] 1 rfl rfl rfl rfl (by simp[Value.oneCell']) u6 L1 L2 ?_;intro a6 s5 w6 u5 y1 t6;have y1:Qb (Qd<|.slice a8 i2 c8) w5 w6:=y1;have f2:=e0.o.kept y1 o4.o;have k0:=f2.cell (i:=0) (u:=.slice a8 i2 c8) rfl;have k1:=f2.free 0;clear f2))
      go_roundg (m-(i2+1))
      ·have r9:=p9.o.len;obtain⟨r1,r2,r3,r4,r5,r6,r7,r8⟩:=Qe2 p9.o l5.o i8.o x3.o x4.o x9.o x7.o HF.o o2.o x0.o l1.o o1.o u5 y1 t6;obtain⟨k5,k6⟩:=l6.o;rw[r9];refine⟨i2+1,tp,T++[t],_,a6,s5,rfl,by omega,by simp,rfl,v7,Qa ⟨by rw[Qo,k5];rfl,fun u hu=>?_⟩,e7,Qa r1,Qa r2,Qa r3,Qa r4,Qa r5,Qa r6,Qa r7,Qa r8⟩;rcases Q5.1 hu with h|h
       ·exact k6 u h
       rwa[Q8.1 h]
      have:=s4.o;omega
    have q5:((e5:Int) != 0)=true:=Vy.2 (by omega);have q6:((e5:Int)==0)=false:=(by simp;omega);have hE:(TT,tq,e4)=([],0,e5):=(by rw[x5.o,Qg d9]);injection hE with h5 h6;injection h6 with h6 h7;subst h7;obtain⟨HR,y9,y6⟩:=qc (by rw[e6.o,Qg d9]:Uk (Qk s.data.toList) (p:Int) n=([],[],0,e4)) (x7.o.trans x0.o<|by simp) (x4.o.kept x0.o<|by simp);clear h5 h6 x5 d9;have h8:=y6.o;obtain⟨r0,r1,f0,f1,s0,s1⟩:=h8.six (.slice none 0 0)<|.slice none 0 0;clear h8;go_wp2_with fail;refine Q9 (v:=.tuple #[QX none 0 0 none 0 0,(0:Int),(e4:Nat)]) (by simp[results,Rl,go_sem,QX,s0,s1]) rfl ?_;exact Yh.err HR.o (by rfl) (y9.o.set2<|.inr<|by simp)
   obtain rfl:m=i2:=(by omega);have u0:¬(m:Int)<m:=(by omega);have hE:(TT,tq,e4)=(T,q2,0):=(by rw[p1.o,ZM];rfl);injection hE with h5 h6;injection h6 with h6 h7;subst h5 h6 h7;have HR:=Qa (by rw[e6.o,Qe<|by simp]:Uk (Qk s.data.toList) (p:Int) n=(TT,C,tq,0));have d0:=x3.o.cell (i:=0) (u:=.slice a8 m c8) rfl;have d1:=x3.o.cell (i:=1) (u:=.slice a9 C.length c9) rfl;obtain⟨r0,r1,f0,f1,s0,s1⟩:=x4.o.six (.slice a8 m c8)<|.slice a9 C.length c9;go_wp2_with fail;refine Q9 (v:=.tuple #[QX a8 m c8 a9 C.length c9,(tq:Nat),(0:Int)]) (by simp[results,Rl,go_sem,QX,s0,s1]) rfl ?_;have d8:Qb [w.heap.size] wr ((wr.setCell ⟨w.heap.size,0,none⟩<|.slice a8 m c8).setCell ⟨w.heap.size,1,none⟩<|.slice a9 C.length c9):=((Qc [w.heap.size] wr).setCell (p:=⟨w.heap.size,0,none⟩) (by simp) _).setCell (p:=⟨w.heap.size,1,none⟩) (by simp) _;obtain⟨WF,s7⟩:=qx<|(wr.setCell ⟨w.heap.size,0,none⟩<|.slice a8 m c8).setCell ⟨w.heap.size,1,none⟩<|.slice a9 C.length c9;rw[s7]at d8 ⊢;have n2:Qb (w.heap.size::gP::fZ a8) wr WF:=d8.mono (by intro x hx;simp at hx;simp[hx]);obtain⟨k5,k6⟩:=l6.o;have u7:Qn WF 1 a8 m vs:=p9.o.sZ.kept d8 fun x hx hm=>x9.o x hx (by simp at hm;simp[hm]);have hM:=l5.o.seesM n2 u7;rw[HR.o];have l9:=i8.o WF n2;rw[Cs]at l9;refine⟨a8,c8,a9,c9,by rw[←k5];rfl,⟨by rwa[k5],by rwa[QG],by rw[k5];have:=x8.o;omega,by rw[QG];exact QU o0.o<|by decide,fun t ht=>by have:=k6 t ht;omega⟩,x7.o.trans d8 (by intro x hx;simp at hx;subst hx;exact .inr<|Ql _)⟩
  have q3:((e2:Int) != 0)=true:=Vy.2 (by omega);have HR:=Qa (by rw[y8.o,Qe<|by simp,Qe (by have:=x8.o;omega),Qg g8]:Uk (Qk s.data.toList) (p:Int) n=([],[],0,e2));clear g8;have h8:=a1.o;obtain⟨r0,r1,f0,f1,s0,s1⟩:=h8.six (.slice none 0 0)<|.slice none 0 0;clear h8;go_wp2_with fail;refine Q9 (v:=.tuple #[QX none 0 0 none 0 0,(0:Int),(e2:Nat)]) (by simp[results,Rl,go_sem,QX,s0,s1]) rfl ?_;exact Yh.err HR.o (by rfl) (b2.o.set2<|.inr<|by simp)
 have q1:((e1:Int) != 0)=true:=Vy.2 (by omega);have HR:=Qa (by rw[y8.o,Qg g7]:Uk (Qk s.data.toList) (p:Int) n=([],[],0,e1));clear g7;have h8:=p2.o;obtain⟨r0,r1,f0,f1,s0,s1⟩:=h8.six (.slice none 0 0)<|.slice none 0 0;clear h8;go_wp2_with fail;refine Q9 (v:=.tuple #[QX none 0 0 none 0 0,(0:Int),(e1:Nat)]) (by simp[results,Rl,go_sem,QX,s0,s1]) rfl ?_;exact Yh.err HR.o (by rfl) (p6.o.set2<|.inr<|by simp)
namespace K
def YO(t g:List Nat):Nat:=(g.map fun a=>t.getD a 0).sum
def Mp(t b)(a:∀x∈t,x≤b):∀g:List Nat,YO t g≤b*g.length
 | []=>by simp[YO]
 |s::r=>by
  have c:=Mp t b a r;unfold YO at c ⊢;rw[QO,Z8,QZ,Ea,RS];have:t.getD s 0≤b:=by
   rw[List.getD];cases hs:t[s]? with
   |none=>simp
   |some x=>exact a x<|QC hs
  omega
def uF(t g s):YO t (g++[s])=YO t g+t.getD s 0:=by simp[YO]
def uG(t g:List Nat)(j s)(a:g[j]?=some s):YO t (g.take<|j+1)=YO t (g.take j)+t.getD s 0:=by rw[ZE,a];exact uF t _ s
def UT(T:List (List Nat))(g:List Nat):Nat→Nat
 |0=>0
 |t+1=>if YO (T.getD (t+1) []) g<YO (T.getD (UT T g t) []) g then t+1 else UT T g t
def LV(T g):∀t,UT T g t≤t
 |0=>Ql _
 |t+1=>by
  rw[UT]
  split
  ·exact Ql _
  exact Nat.le_succ_of_le<|LV T g t
def YN(L P:List Nat)(t n i:Nat):List Nat:=(List.range n).map fun b=>(List.range i).countP fun a=>P.getD (a/50) 0==t&&L.getD a 0==b
def Rt(L P t n i):(YN L P t n i).length=n:=by simp[YN]
def tK(L P t n):YN L P t n 0=List.replicate n 0:=by
 unfold YN;apply Xu;intro b
 by_cases a:b<n
 ·simp[Xb a,a]
 rw[QW (by simp;omega),QW (by simp;omega)]
def Mg(L P t n i s)(a:s<n):(YN L P t n i)[s]?=some ((List.range i).countP fun j=>P.getD (j/50) 0==t&&L.getD j 0==s):=by simp[YN,Xb a]
def Ii(L P t n i):∀c∈YN L P t n i,c≤i:=by intro c a;obtain⟨b,-,rfl⟩:=Qy.1 a;have:=List.countP_le_length (p:=fun a=>P.getD (a/50) 0==t&&L.getD a 0==b) (l:=List.range i);rwa[U6]at this
def tI(L P t n i x)(hp:P.getD (i/50) 0=t)(a:L[i]?=some x)(c)(b:(YN L P t n i)[x]?=some c):(YN L P t n i).set x (c+1)=YN L P t n (i+1):=by
 apply Xu;intro d;have e:L.getD i 0=x:=by rw[List.getD,a];rfl
 rw[YV]
 by_cases hs:d<n
 ·rw[Mg _ _ _ _ _ _ hs,Mg _ _ _ _ _ _ hs,JE,List.countP_append]
  by_cases a:x=d
  ·subst a;rw[Mg _ _ _ _ _ _ hs]at b;injection b with b;rw[Qg rfl,Qg<|by rwa[Rt],←b,Pq];simp only[hp,e,beq_self_eq_true,Bool.and_true,Co]
  rw[Qe a,Pq,e];have b:(x==d)=false:=by simp[a]
  rw[b,KM];simp
 by_cases a:x=d
 ·subst a;rw[Qg rfl,Qe (by rw[Rt];omega),QW (by rw[Rt];omega)]
 rw[Qe a,QW (by rw[Rt];omega),QW (by rw[Rt];omega)]
def tJ(L P t n i)(hp:P.getD (i/50) 0≠t):YN L P t n (i+1)=YN L P t n i:=by
 unfold YN;apply Yu;intro a _;rw[JE,List.countP_append,Pq];have a:(P.getD (i/50) 0==t)=false:=by simpa using hp
 rw[a,KN];simp
def Cp(n m:Nat):List (List Nat):=(List.range m).map fun b=>(List.range n).map fun a=>if a*m/n=b then 1 else 15
def Cw(T:List (List Nat))(L:List Nat)(m:Nat):List Nat:=(List.range (ZG L.length)).map fun a=>UT T (Xs L a) (m-1)
def fG(T L m):(Cw T L m).length=ZG L.length:=by simp[Cw]
def Qcz(T L m k)(a:k<ZG L.length):(Cw T L m)[k]?=some (UT T (Xs L k)<|m-1):=by simp[Cw,Xb a]
def Qc0(T L m)(a:0<m):∀x∈Cw T L m,x<m:=by intro x a;obtain⟨b,-,rfl⟩:=Qy.1 a;have:=LV T (Xs L b)<|m-1;omega
noncomputable def Cr(a:List Nat):List Nat:=(Classical.choose (Gc (a.map fun a:Nat=>(a:Int)) 17)).1
def cV(a)(b:2≤a.length)(e:a.length≤258)(hw:∀c∈a,c≤1073741824):DW (a.map fun c:Nat=>(c:Int)) 17 (Cr a,0):=by
 have d:=Classical.choose_spec<|Gc (a.map fun c:Nat=>(c:Int)) 17;have f:Yc (a.map fun c:Nat=>(c:Int))=true:=by unfold Yc;rw[QG,Xr b,Xr e,VJ,VJ,XO];intro b e;obtain⟨c,b,rfl⟩:=Qy.1 e;have:=hw c b;rw[Zu];omega
 have h0:(Classical.choose<|Gc (a.map fun c:Nat=>(c:Int)) 17).2=0:=by
  rcases d with⟨b,-⟩|⟨-,b,-⟩
  ·rw[f]at b;simp[AN]at b
  exact b
 unfold Cr;rwa[show((Classical.choose<|Gc (a.map fun c:Nat=>(c:Int)) 17).1,0)=Classical.choose (Gc (a.map fun c:Nat=>(c:Int)) 17)from Prod.ext rfl h0.symm]
def Nf(a)(e:2≤a.length)(f:a.length≤258)(hw:∀c∈a,c≤1073741824):(Cr a).length=a.length∧(∀x∈Cr a,1≤x∧x≤17)∧AI ((Cr a).map fun c:Nat=>(c:Int))=true:=by obtain⟨-,b,d,c⟩:=(cV a e f hw).ok rfl;rw[QG]at b;exact⟨b,fun x a=>by have:=d x a;omega,c⟩
noncomputable def EP(L:List Nat)(n m:Nat)(P:List Nat):List (List Nat):=(List.range m).map fun a=>Cr (YN L P a n L.length)
noncomputable def Am(L:List Nat)(n m:Nat):Nat→List (List Nat)
 |0=>Cp n m
 |r+1=>EP L n m (Cw (Am L n m r) L m)
noncomputable def V6(L:List Nat)(n m:Nat):Nat→List Nat
 |0=>List.replicate (ZG L.length) 0
 |r+1=>Cw (Am L n m r) L m
def GH(n m:Nat)(T:List (List Nat)):Prop:=T.length=m∧∀a∈T,a.length=n∧∀b∈a,b≤20
def bJ(n m):GH n m (Cp n m):=by
 refine⟨by simp[Cp],fun a a=>?_⟩;obtain⟨b,-,rfl⟩:=Qy.1 a;refine⟨by simp,fun a a=>?_⟩;obtain⟨b,-,rfl⟩:=Qy.1 a
 split<;>omega
def Qgd(L P n m)(a:3≤n∧n≤258)(a:L.length≤1638350):GH n m (EP L n m P):=by refine⟨by simp[EP],fun a b=>?_⟩;obtain⟨a,-,rfl⟩:=Qy.1 b;obtain⟨b,c,-⟩:=Nf (YN L P a n L.length) (by rw[Rt];omega) (by rw[Rt];omega) (fun d e=>by have:=Ii L P a n L.length d e;omega);exact⟨by rw[b,Rt],fun b a=>by have:=c b a;omega⟩
def Oz(L n m)(b:3≤n∧n≤258)(a:L.length≤1638350):∀r,GH n m (Am L n m r)
 |0=>bJ n m
 |r+1=>Qgd L _ n m b a
def NE(L n m r):(V6 L n m r).length=ZG L.length:=by
 cases r with
 |zero=>simp[V6]
 |succ r=>exact fG _ _ _
def IB{α}(l:List α)(k):(Xs l k).length=min 50 (l.length-50*k):=by simp[Xs]
def xP{α}(l:List α)(k j)(a:j<(Xs l k).length):(Xs l k)[j]?=l[50*k+j]?:=by rw[IB]at a;unfold Xs;rw[Bi,Qg<|by omega,Uq]
def aM{α a}(f:α→a)(l k):Xs (l.map f) k=(Xs l k).map f:=by simp[Xs,DQ,List.map_drop]
end K
def Pi(xs:List Value)(k:Nat)(w:World)(e:Ending)(w':World):Prop:=
 ∃a b,e=.returned (.slice a (Xs xs k).length b)∧Qn w 1 a (Xs xs k).length (Xs xs k)∧w=w'
def Pj(a:Option Addr)(xs:List Value)(k:Nat)(w:World)(e:Ending)(w':World):Prop:=
 ∃b c,e=.returned (.slice b (Xs xs k).length c)∧Qn w 1 b (Xs xs k).length (Xs xs k)∧w=w'∧fZ b=fZ a
def aG(a c k xs w)(e:Qn w 1 a xs.length xs)(b:xs.length≤c)(b:c≤maxLen)(hk:50*k<xs.length)(b:xs.length≤10000000):
 Calls prog 252 #[.slice a xs.length c,k] w (Pj a xs k w):=by
 have⟨b,j⟩:=qx<|50*k+(Xs xs k).length;have g:=IB xs k;obtain⟨d,h,rfl,-⟩:=e.at (by omega);have f:=e.part (50*k) (Xs xs k).length (by omega) (a':=some ⟨d,h+50*k,none⟩) (by rintro-b' off' d;injection d with d;injection d with h h2;subst h h2;rfl);have d:(xs.drop<|50*k).take (Xs xs k).length=Xs xs k:=by rw[g];unfold Xs;rw[List.take_eq_take_iff,YW];omega
 rw[d]at f;have i:=Qa f;obtain⟨_,_,_,_,_,_,_⟩:min (xs.length:Int) (((k:Int)+1)*50)=(b:Int)∧(0:Int)≤k*50∧(k:Int)*50≤(b:Int)∧(b:Int)≤c∧((k:Int)*50).toNat=50*k∧¬50*k=c∧((b:Nat):Int).toNat=b:=by omega
 have h:=Qa (by omega:b-50*k=(Xs xs k).length);go_enter func252,ntmps252
 go_wp2
 go_ret;rw[h.o];exact⟨_,_,rfl,i.o,rfl,rfl⟩
def xN(a c k xs w)(b:Qn w 1 a xs.length xs)(d:xs.length≤c)(e:c≤maxLen)(hk:50*k<xs.length)(f:xs.length≤10000000):
 Calls prog 252 #[.slice a xs.length c,k] w (Pi xs k w):=by
 refine(aG a c k xs w b d e hk f).mono ?_;rintro b b⟨b,d,e,f,g,-⟩;exact⟨b,d,e,f,g⟩
def Xw.nat{w a n}{T:List (List Nat)}(f:Xw w a n (T.map Qi)){i t}(hi:T[i]?=some t):
 ∃b e d c,a=some ⟨b,e,none⟩∧w.cell? ⟨b,e+i,none⟩=some (.slice d t.length c)∧Qn w 1 d t.length (Qi t)∧t.length≤c∧c≤maxLen:=by
 have:=f.at i (Qi t) (by rw[ZJ,hi];rfl);rwa[QD]at this
def xQ(L:List Nat)(k)(a:k<ZG L.length):50*k<L.length:=by unfold ZG at a;omega
def xD(gL gP gT m c n t k:Nat)(aL L T w)(h0:w.cell? ⟨gL,0,none⟩=some (.slice aL L.length c))(h:Qn w 1 aL L.length (Qi L))(hc:L.length≤c)(y1:c≤maxLen)(h2:w.cell? ⟨gP,0,none⟩=some (.slice gT m m))(o:Xw w gT m (T.map Qi))(hT:GH n m T)(ht:t<m)(hm:m≤6)(hk:50*k<L.length)(hl:L.length≤1638350)(hL:∀s∈L,s<n)(hn:n≤258):
 Calls prog 251 #[t,.int .i64 k,.pointer gL,.pointer gP] w fun e w'=>e=.returned (.int .i64 (YO (T.getD t []) (Xs L k):Nat))∧w=w':=by
 obtain⟨row,q⟩:∃r,T[t]?=some r:=⟨_,Qj<|by rwa[hT.1]⟩;obtain⟨y3,x3⟩:=hT.2 row<|QC q;rw[show T.getD t []=row by rw[List.getD,q];rfl];obtain⟨b,z1,ar,cr,hb,d0,x5,-,-⟩:=o.nat q;injection hb with hb;injection hb with x9 hb2;subst x9 hb2;rw[Zz]at d0;have x1:=Mp row 20 x3;have G:=xN aL c k (Qi L) w (by rwa[QD]) (by rwa[QD]) y1 (by rwa[QD]) (by rw[QD];omega);rw[QD]at G;have x2:Xs (Qi L) k=Qi (Xs L k):=aM _ _ _;have y2:(Xs L k).length≤50:=by rw[IB];omega
 have h5:∀s∈Xs L k,s<row.length:=by intro s hs;rw[y3];exact hL s<|Py<|VN hs
 unfold Pi at G;rw[x2,QD]at G;have⟨g,hg⟩:=qx<|Xs L k;rw[hg]at G y2 h5 ⊢;have⟨HG,HC,x6,x8⟩:=qd G x1 h5 x5;have y8:(t:Int)<m:=by omega
 go_enter func251,ntmps251;go_wp2_with fail;refine HG.o.mono ?_;rintro e w2⟨a2,c2,rfl,x4,rfl⟩;have x7:=Qa x4
 go_wp2
 go_loopg [7,14] g.length (fun k v7 v wr=>∃j:Nat,k=g.length-j∧j≤g.length∧v=.int .i64 (j:Nat)∧v7=.int .i64 (YO row (g.take j):Nat)∧w=wr)
 ·exact⟨0,by omega,by omega,rfl,by simp[YO],rfl⟩
 obtain⟨j,hk,hj,rfl,rfl,rfl⟩:=hrel;have Hk:=Qa hk;have y0:YO row (g.take j)≤1000:=by
  have h:=HC.o<|g.take j;have h2:=Pu j g;have o:(g.take j).length≤50:=by rw[Zn];omega
  have h4:20*(g.take j).length≤20*50:=PL _ o;omega
 by_cases hlt:j<g.length
 ·have y5:(j:Int)<g.length:=by omega
  have⟨s,hs⟩:=qy g j hlt;have y4:=x6.o s<|QC hs;have y7:(s:Int)<row.length:=by omega
  obtain⟨b2,o2,rfl,h9⟩:=x7.o.at (by rw[QD];omega);have e0:=h9 j _<|AP hs;obtain⟨b3,o3,rfl,x0⟩:=x8.o.at (by rw[QD];omega);have⟨x,y⟩:=qy row s y4;have e1:=x0 s _<|AP y;have h8:=Qa (by rw[uG row g j s hs,List.getD,y];rfl:YO row (g.take<|j+1)=YO row (g.take j)+x);have y9:x≤1000:=by have h:=HC.o [s];have h2:YO row [s]=x:=(by simp[YO,y]);rw[h2]at h;simp at h;omega
  have⟨S,hS⟩:=qx<|YO row<|g.take j;rw[hS]at h8 y0 ⊢
  go_wp2
  go_roundg (g.length-(j+1))
  ·exact⟨j+1,rfl,by omega,by simp,by rw[h8.o];simp,rfl⟩
  have:=Hk.o;omega
 obtain rfl:j=g.length:=by omega
 have y6:¬(g.length:Int)<g.length:=by omega
 go_wp2
 go_ret;exact⟨by simp,rfl⟩
def QV(l:List Nat):List Int:=l.map fun a:Nat=>(a:Int)
def XE(l):(QV l).length=l.length:=by simp[QV]
def AC(l):QK (QV l)=Qi l:=(Cs l).symm
def ZD.seesN{w w' F b}{T:List (List Nat)}(c:ZD w F b (T.map QV))(hk:Qb F w w'){a n}(hs:Qn w' 1 a n b):Xw w' a n (T.map Qi):=by have:=c.seesM hk hs;rwa[XG,show(QK∘QV)=Qi from funext AC]at this
def ZD.setRow{w0 w:World}{F a T}(f:ZD w F a T)(k:∀x∈F,x<w0.heap.size){b c i gT t}(e:Qh w 3 (.slice b t.length c) (QK t))(hf:Qs w0.heap.size (fZ b))(d:gT∈F):
 ZD (w.setCell ⟨gT,i,none⟩<|.slice b t.length c) F (a.set i<|.slice b t.length c) (T.set i t):=by
 have hk:Qb F w (w.setCell ⟨gT,i,none⟩<|.slice b t.length c):=(Qc F w).setCell (p:=⟨gT,i,none⟩) (.inl d) _;refine⟨by simp[f.1],fun j o n a d=>?_⟩;rw[YV]at a d
 by_cases g:i=j
 ·rw[Qg g]at a d
  split at a
  ·split at d
   ·obtain rfl:=Option.some.inj a;obtain rfl:=Option.some.inj d;obtain⟨a2,c2,h,k1,k2,-,-⟩:=e.sees;rw[Xk]at h k1;injection h with h e2 e3;subst e3;refine⟨b,c,rfl,k1,k2,fun h hw=>?_⟩;exact(e.kept (hk.trans hw fun x e=>.inl e) (fun x e l=>by rw[XJ]at e;have:=hf x e;have:=k x l;omega)).sZ
   cases d
  cases a
 rw[Qe g]at a d;obtain⟨g,c2,k,l,m,h6⟩:=f.2 j o n a d;exact⟨g,c2,k,l,m,fun h hw=>h6 h<|hk.trans hw fun x e=>.inl e⟩
def jU(x:Nat)(a:1≤x):(Yd (x:Int)).2=0∧2≤(Yd (x:Int)).1∧(Yd (x:Int)).1≤6:=by
 unfold Yd;rw[Qe<|by omega]
 split
 ·simp
 split
 ·simp
 split
 ·simp
 split<;>simp
def dQ{α:Type}(A a:List α)(i)(x:α)(b:A[i]?=some x)(hi:i<a.length):(A.take i++a.drop i).set i x=A.take (i+1)++a.drop (i+1):=by
 have:=(Qz.1 b).1;have a:(A.take i).length=i:=by rw[Zn];omega
 rw[Lg,Qe<|by omega,a,ZM,ZE,b,QN,Xa hi];rfl
def dP{α:Type}(A a:List α)(b:A.length=a.length):A.take A.length++a.drop A.length=A:=by rw[Vp,JB<|by omega,XP]
def yT(n m t)(a:t<m):(Cp n m)[t]?=some ((List.range n).map fun s=>if s*m/n=t then 1 else 15):=by simp[Cp,Xb a]
def ZD.snocA{w F g T}(e:ZD w F g T){b c t}(i:Qh w 3 (.slice b t.length c) (QK t))(hap:Qr (fZ b) F):
 ZD w F (g++[.slice b t.length c]) (T++[t]):=by
 refine⟨by simp[e.1],fun h k j a d=>?_⟩;rcases Xp h g.length with f|f
 ·rw[Xo f]at a;rw[Xo<|by rwa[←e.1]]at d;exact e.2 h k j a d
 rw[Zy f]at a;rw[Zy<|by rwa[←e.1]]at d;have h0:h-g.length=0:=by have:=(Qz.1 a).1;simp at this;omega
 rw[h0]at a;rw[←e.1,h0]at d;simp at a d;subst a d;obtain⟨a2,c2,a,k1,k2,-,-⟩:=i.sees;rw[Xk]at a k1;injection a with a e2 e3;subst e3;exact⟨b,c,rfl,k1,k2,fun a hw=>(i.kept hw (fun e a d=>by rw[XJ]at a;exact hap e a d)).sZ⟩
def ZD.less{w F F2 a T}(b:ZD w F a T)(c:∀x∈F2,x∈F):ZD w F2 a T:=b.step (Qc _ _) fun x a=>.inl<|c x a
