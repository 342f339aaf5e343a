import Derived.Test.YtickjpnkoppmgaaGreatDoorBu
set_option linter.all false
set_option maxHeartbeats 8000000
set_option maxRecDepth 20000
namespace Go.Proofs.YtickjpnkoppmgaaGreatDoor
open Go.Proofs.Tryz Go.RowKit K Go.Shelf Go.Sort
def LS(g n:Nat)(a:OA)(c:Nat)(f:Bool):LV:=[g,.slice a n c,.bool f]
def Vu(w0 w:WD)(e:Nat)(l:List RM)(a:OA)(c:Nat):Prop:=Qm w 69 5 (.slice a l.length c) l.length (Qs Q9 l)/\∀d∈Qd (.slice a l.length c),w0.heap.size<=d/\d≠e
def Vu.nil(w0 w:WD)(c:Nat):Vu w0 w c [] none 0:=⟨Qm.nil _ _ _,by simp[Qd,qo]⟩
def Vu.kept{w0 w w1:WD}{S:LN}{e:Nat}{l:List RM}{a:OA}{c:Nat}(h:Vu w0 w e l a c)(k:Qb S w w1)(g:∀d∈S,d<w0.heap.size\/d=e):Vu w0 w1 e l a c:=
 ⟨h.1.kept k (fun d i e=>by have:=h.2 d i;rcases g d e with h|h<;>omega),h.2⟩
structure EE(w0 w:WD)(B d:Nat)(nv pv:VL)(s:QG)(n:Nat)(g0 g1:Nat)(l0 l1:List RM)(f0 f1:Bool)(a0 a1:OA)(c0 c1:Nat):Prop where
 rd:YO w0 d nv pv s n w
 arr:Qe w B 127 (LS g0 l0.length a0 c0 f0++LS g1 l1.length a1 c1 f1)
 s0:Vu w0 w B l0 a0 c0
 s1:Vu w0 w B l1 a1 c1
 lo:d<w0.heap.size/\w0.heap.size<=B
 dl:∀y∈Q2 d nv pv,y<w0.heap.size
def DC(i n g1:Nat)(o p:List RM)(l m:Bool)(e g:Nat)(h j:List RM)(c d:Bool):Prop:=
 (if 0<i then e=n/\h=o/\c=l else e=0/\h=[]/\c=false)/\(if 1<i then g=g1/\j=p/\d=m else g=0/\j=[]/\d=false)
def lY{W:WD}{c i g h l m c0 c1:Nat}{a0 j:OA}{d e:Bool}(A:Qe W c 127 (LS g l a0 c0 d++LS h m j c1 e))(hi:i<2):
 (∃u,W.cell? ⟨c,i*3,none⟩=some u)/\(∃u,W.cell? ⟨c,i*3+1,none⟩=some u)/\∃u,W.cell? ⟨c,i*3+2,none⟩=some u:=by
 rcases(ox:i=0\/i=1)with rfl|rfl
 ·exact⟨⟨_,A.cq 0⟩,⟨_,A.cq 1⟩,⟨_,A.cq 2⟩⟩
 exact⟨⟨_,A.cq 3⟩,⟨_,A.cq 4⟩,⟨_,A.cq 5⟩⟩
def EE.put{w wr o:WD}{e d:Nat}{y z:VL}{s:QG}{i n m g D g1 t u c c0 c1:Nat}{l F G v x:List RM}{f B C j q:Bool}{a a0 A:OA}(h:EE w wr e d y z s n t u v x j q a0 A c0 c1)
 (E:DC i D g1 F G B C t u v x j q)(k:Qb [d] wr o)(H:YO w d y z s m o)(I:Vu w o e l a c)(J:(i=0/\g=D/\l=F/\f=B)\/(i=1/\g=g1/\l=G/\f=C)):
 ∃t u v x j q a0 A c0 c1,EE w (((o.setCell ⟨e,i*3,none⟩ g).setCell ⟨e,i*3+1,none⟩<|.slice a l.length c).setCell ⟨e,i*3+2,none⟩<|.bool f) e d y z s m t u v x j q a0 A c0 c1/\DC (i+1) D g1 F G B C t u v x j q:=by
 obtain⟨j,j⟩:=h.lo;have u:=h.arr.kept k zx;have t:Qb [e] o (((o.setCell ⟨e,i*3,none⟩ g).setCell ⟨e,i*3+1,none⟩<|.slice a l c).setCell ⟨e,i*3+2,none⟩<|.bool f):=(((Qc [e] o).setCell (p:=⟨e,i*3,none⟩) (.inl sx) _).setCell (p:=⟨e,i*3+1,none⟩) (.inl sx) _).setCell (p:=⟨e,i*3+2,none⟩) (.inl sx) _;have v:∀j∈Q2 d y z,j∉[e]:=fun j q x=>by have:=h.dl j q;simp at x;omega
 have x:YO w d y z s m (((o.setCell ⟨e,i*3,none⟩ g).setCell ⟨e,i*3+1,none⟩<|.slice a l c).setCell ⟨e,i*3+2,none⟩<|.bool f):=⟨H.1.kept t v,H.2.trans t fun j q=>.inr (by simp at q;omega)⟩;have v:∀j∈[d],j<w.heap.size\/j=e:=fun j q=>.inl (by simp at q;omega)
 have o:∀j∈[e],j<w.heap.size\/j=e:=fun j q=>.inr (by simpa using q)
 unfold DC at E ⊢;rcases J with⟨rfl,rfl,rfl,rfl⟩|⟨rfl,rfl,rfl,rfl⟩
 ·obtain⟨-,rfl,rfl,rfl⟩:=E;exact⟨_,0,_,[],_,false,_,_,_,_,⟨x,((u.set 0 _).set 1 _).set 2 _,I.kept t o,(h.s1.kept k v).kept t o,h.lo,h.dl⟩,sx⟩
 exact⟨_,_,_,_,_,_,_,_,_,_,⟨x,((u.set 3 _).set 4 _).set 5 _,(h.s0.kept k v).kept t o,I.kept t o,h.lo,h.dl⟩,by simpa using E.1⟩
def It(w:WD)(d:Nat)(i j:VL)(s:QG)(g:Nat)(l:List RM)(e:Ending)(w':WD):Prop:=
 ∃h c,h<=10/\e=.returned (.tuple #[g,c,(0:Int)])/\Qm w' 69 5 c l (Qs Q9 l)/\(∀m∈Qd c,w.heap.size<=m)/\YO w d i j s h w'
def wO{d:Nat}{nv pv:VL}{s:QG}{w:WD}(h:Dk w d nv pv s)(hs:s.Ok)(hB:Yt w)(q5:d≠0)(hc:s.lZ+1000<=1000000000)(g0 g1:Nat)(l0 l1:List RM)(f0 f1:Bool)(h0:Gb s.cap s.img 0 g0 l0 f0)(h1:Gb s.cap s.img 1 g1 l1 f1)(g:Nat)(l:List RM)
 (hp:(f0=true/\f1=false/\g=g0/\l=l0)\/(f0=true/\f1=true/\g1<g0/\g=g0/\l=l0)\/(f0=false/\f1=true/\g=g1/\l=l1)\/(f0=true/\f1=true/\g0<=g1/\g=g1/\l=l1)):
 Calls prog 34 #[.pointer d] w (It w d nv pv s g l):=by
 have⟨HC,HD,HR,z1,HP,p0⟩:=qf (Rg h hs) (EZ h hs) (Qr hs<|Qr hc hB) (Qr h0 h1) hp q5;have q0:((s.cap:Int)==0)=false:=Ze.2 (yx hs.c1);have q1:¬(s.cap:Int)=0:=yx hs.c1
 have⟨W,hW⟩:=qx<|w.alloc<|.cells #[(0:Int),(),.bool false,(0:Int),(),.bool false] 127;have hd:=h.lt d sx;have H0:Hid (EE w W w d nv pv s 0 0 0 [] [] false false none none 0 0):=Qa<|hW▸⟨(YO.refl h).kept<|(Qc [] w).alloc _,Qx w [(0:Int),(),.bool false,(0:Int),(),.bool false] 127,Vu.nil _ _ _,Vu.nil _ _ _,⟨hd,Qk _⟩,h.lt⟩;have⟨B,p5⟩:=qx w.heap.size;rw[p5]at H0;clear h hs h0 h1 hp hB hc hd;go_enter func34,ntmps34;go_wp2_with (first
  |(go_fit HC.o;rintro e w⟨rfl,rfl⟩)
  |(go_fit HD.o;rintro e w⟨rfl,rfl⟩))
 go_loopg [6,7,8,9,10,11,12,13,21] 2 (fun k x6 x7 x8 x9 b6 d3 d4 d5 b8 wr=>∃(i n G0 G1:Nat)(L0 L1:List RM)(F0 F1:Bool)(a0 a1:OA)(c0 c1:Nat),i<=2/\k=2-i/\b8=.int .i64 (i:Nat)/\n<=5*i/\Hid (EE w wr B d nv pv s n G0 G1 L0 L1 F0 F1 a0 a1 c0 c1)/\Hid (DC i g0 g1 l0 l1 f0 f1 G0 G1 L0 L1 F0 F1))
 ·exact⟨0,0,0,0,[],[],false,false,none,none,0,0,ox,ox,rfl,ox,H0,Qa<|by simp[DC]⟩
 obtain⟨i,n,G0,G1,L0,L1,F0,F1,a0,a1,c0,c1,hi,hk,rfl,hn,o,HI⟩:=hrel;have⟨y0,p1⟩:=qb (fun W' (p8:Qb [] wr W')=>DS (o.o.rd.1.kZ p8) ⟨HR.o.1.c1,HR.o.1.c2,HR.o.1.len,HR.o.1.sec,by show s.lZ+n<=_;have:=HR.o.2.1;omega⟩) fun n W' (hn:n<=20)(h:YO w d nv pv s n W')=>show Calls prog 14 #[.pointer d] W' fun e w'=>e=.returned s.cap/\w'=W' from Rg (s:=s.tick n) h.1 ⟨HR.o.1.c1,HR.o.1.c2,HR.o.1.len,HR.o.1.sec,by show s.lZ+n<=_;have:=HR.o.2.1;omega⟩;have e1:(s.tick n).img=s.img:=rfl;rw[e1]at y0;clear e1;have⟨N,hN⟩:=qx s.img.length;rw[hN]at y0
 by_cases hlt:i<2
 ·have q2:(i:Int)<2:=ox
  have v1:IntKind.i64.wrap ((i:Int)+1)=(i:Int)+1:=by rw[Zq];omega
  have v2:IntKind.i64.wrap (((i:Int)+1)*5)=((i:Int)+1)*5:=by rw[Zq];omega
  obtain⟨g,l,f,hO,y5⟩:∃g l f,Gb s.cap s.img i g l f/\((i=0/\g=g0/\l=l0/\f=f0)\/(i=1/\g=g1/\l=l1/\f=f1)):=by
   rcases(ox:i=0\/i=1)with rfl|rfl
   ·exact⟨_,_,_,z1.o.1,.inl ⟨rfl,rfl,rfl,rfl⟩⟩
   exact⟨_,_,_,z1.o.2,.inr ⟨rfl,rfl,rfl,rfl⟩⟩
  have⟨HO,y3⟩:=qb hO y5
  by_cases d2:N<(i+1)*5
  ·have q3:(N:Int)<((i:Int)+1)*5:=ox;clear hO y5;go_wp2_with (go_fit(y0.o _<|Qc _ _);rintro e w1⟨rfl,rfl⟩)
   go_roundg (2-(i+1))
   case measure=>omega
   refine⟨i+1,n,G0,G1,L0,L1,F0,F1,a0,a1,c0,c1,ox,rfl,by go_num,ox,o,Qa ?_⟩;have hf:f=false:=by
    cases f with
    |false=>rfl
    |true=>have:=Xu.len HO.o.1 (by rw[Un];omega);rw[Un]at this;omega
   have hO:=HO.o;subst hf;obtain⟨rfl,rfl,-⟩:=hO;have h:=HI.o;unfold DC at h ⊢;rcases y3.o with⟨rfl,h1,h2,h3⟩|⟨rfl,h1,h2,h3⟩
   ·simpa[<-h1,<-h2,<-h3]using h
   simpa[<-h1,<-h2,<-h3]using h
  have q3:¬(N:Int)<((i:Int)+1)*5:=ox
  have⟨L,hL⟩:=qx<|(s.img.drop<|i*5).take 5;have z6:L.length=5:=by rw[<-hL,Zd,YN];omega
  have z7:∀j x,L[j]?=some x->s.img[i*5+j]?=some x:=fun j x hx=>by have hj:=(Qy.1 hx).1;rwa[<-hL,Bb ox,Ut]at hx
  have h8:=Qa<|Qr hL<|Qr z6 z7;clear hO y5 hL z6 z7;go_wp2_with (go_fit(y0.o _<|Qc _ _);rintro e w1⟨rfl,e1⟩;replace e1:=e1.symm;subst e1);obtain⟨Wo,p9⟩:∃W:WD,W=wr:=⟨_,rfl⟩;subst p9
  go_loopg [7,8,9,10,30] 5 (fun k x7 x8 x9 b6 b9 wz=>∃(j:Nat),j<=5/\k=5-j/\b9=.int .i64 (j:Nat)/\Hid (YO w d nv pv s (n+j) wz/\Qh wz 9 x7 (strs<|L.take j)/\Qb [d] Wo wz/\∀y∈Qd x7,Wo.heap.size<=y))
  ·exact⟨0,ox,ox,rfl,Qa ⟨o.o.rd,Qh.nil _ _,Qc _ _,by simp[Qd,qo]⟩⟩
  obtain⟨j,hj,c9,rfl,HJ⟩:=hrel;obtain⟨hs,hc,hB⟩:=HR.o
  by_cases d0:j<5
  ·have q4:(j:Int)<5:=ox;have⟨x,hx⟩:=qy L j (yx h8.o.2.1);have HG:=Qa<|HJ.o.1.get hs hc ox<|h8.o.2.2 j x hx;rw[show((i*5+j:Nat):Int)=i*5+(j:Int)by push_cast;rfl]at HG;have v3:IntKind.i64.wrap ((i:Int)*5)=(i:Int)*5:=(by rw[Zq];omega);have v4:IntKind.i64.wrap ((i:Int)*5+(j:Int))=(i:Int)*5+(j:Int):=(by rw[Zq];omega);have HT:=Qa (by rw[Zh,hx];simp[strs]:strs (L.take<|j+1)=strs (L.take j)++[.string<|str x]);have p6:(strs<|L.take j).length<=5:=(by rw[UF,Zd];omega);have L1:(strs<|L.take j).length+1<=maxLen:=(by simp only[maxLen];omega);have L2:((strs<|L.take j).length+1)*16<=140737488355328:=ox;clear hx hs hc hB p6;go_wp2_with (first
    |(go_fit HG.o;rintro e w4⟨rfl,h4,k4⟩;have a8:=HJ.o.2.1.kept k4 (fun y q hm=>by have:=HJ.o.2.2.2 y q;have h5:=o.o.rd.2.size;have h6:=o.o.lo.1;simp at hm;omega);have H4:=Qa<|Qr h4 k4;clear h4 k4)
    |(at_builtin;refine Dt w4 rfl _ _ 60 rfl 9 ("") 16 CL CK rfl _ (.string<|str x) (strs<|L.take j) rfl rfl rfl rfl a8 L1 L2 ?_;intro g5 c5 w5 b4 y4 q9))
   go_roundg (5-(j+1))
   case measure=>omega
   have hap:∀y∈Qd u7,y∉[d]:=fun y q hm=>by have:=HJ.o.2.2.2 y q;have h5:=o.o.rd.2.size;have h6:=o.o.lo.1;simp at hm;omega
   have c6:d∉Qd u7:=fun hm=>hap d hm sx
   have hk:Qb (Qd u7++[d]) wr w5:=(H4.o.2.mono sx).trans y4 fun y q=>.inl<|List.mem_append_left _ q;refine⟨j+1,ox,rfl,by go_num,Qa ⟨⟨H4.o.1.1.kept y4 fun y q hm=>?_,H4.o.1.2.trans y4 fun y q=>.inr ?_⟩,?_,HJ.o.2.2.1.trans hk fun y q=>?_,fun y q=>?_⟩⟩
   ·have:=o.o.rd.1.lt y q;have:=HJ.o.2.2.2 y hm;omega
   ·have:=o.o.rd.2.size;have:=HJ.o.2.2.2 y q;omega
   ·rwa[HT.o]
   ·rcases Q4.1 q with h|h
    ·exact .inr<|HJ.o.2.2.2 y h
    exact .inl h
   obtain rfl:y=g5:=(by simpa[Qd,qo]using q);rcases q9 with h|h
   ·exact HJ.o.2.2.2 _ h
   have:=H4.o.2.size;have:=HJ.o.2.2.1.size;omega
  obtain rfl:j=5:=ox
  have q4:¬((5:Nat):Int)<5:=ox
  have h7:=HJ.o.2.1;rw[Q5 (yx h8.o.2.1)]at h7;obtain⟨a7,c7,rfl,-,-,y1,q7⟩:=h7.sees;rw[UF,h8.o.2.1]at y1 ⊢;obtain⟨b7,o7,rfl,-⟩:=y1.at (by rw[UF,h8.o.2.1];decide);have⟨y9,c4⟩:=qb y1 (show ∀y∈Qd (.slice (some ⟨b7,o7,none⟩) 5 c7),Wo.heap.size<=y from HJ.o.2.2.2);have KD:=HJ.o.2.2.1;have d1:=o.o.lo;clear h7 y1 q7;cases f with
  |false=>
   obtain⟨q8,a6,hz⟩:=HO.o;have y2:=Qa<|wG b7 o7 c7 L wr y9.o (by have h1:L[0]?=some _:=Qj (yx h8.o.2.1);rw[h1];have h2:=h8.o.2.2 0 _ h1;rw[Jt,hz.resolve_left ox]at h2;exact h2.symm);go_wp2_with (go_fit y2.o;rintro e w5⟨rfl,k5⟩;have A5:=(o.o.arr.kept KD zx).kept k5 sx;obtain⟨⟨u0,c0⟩,⟨u1,c1⟩,u2,c2⟩:=lY A5 hlt;have f0:=A5.free<|i*3;have f1:=A5.free<|i*3+1;have f2:=A5.free<|i*3+2)
   go_roundg (2-(i+1))
   ·obtain⟨r1,r2,r3,r4,r5,r6,r7,r8,r9,y7,y8,r12⟩:=o.o.put (m:=n+5) HI.o (KD.trans k5 sx) (HJ.o.1.kept k5) (Vu.nil w w5 B) (by have:=y3.o;rw[q8,a6]at this;exact this);exact⟨i+1,n+5,r1,r2,r3,r4,r5,r6,r7,r8,r9,y7,ox,rfl,by go_num,ox,Qa y8,Qa r12⟩
   omega
  |true=>
   obtain⟨b5,c8,r0,h9⟩:=HO.o;have p7:L=Yp g l:=(by have:=Xu.cut b5;rw[Un,h8.o.1]at this;exact this);have hb:=HR.o.2.2.kept HJ.o.1.2 (by simp;have:=p0.o;omega);have y2:=Qa<|wH g l b7 o7 c7 wr hb (p7▸y9.o) r0 h9.rm h9.rise h9.few<|Lp h9.ext (yx hs.c2);have p2:=Qa fun v W (hW:J6 W v l)(hB:Yt W)=>Kr v l s.cap W hW hB (yx hs.c1) (yx hs.c2) h9.rm h9.rise h9.few h9.ext;have e1:((g:Int).tmod 2)=(i:Int):=(by rw[BQ ox];omega);have e2:(g:Int)%2=(i:Int):=ox;go_wp2_with (first
    |(go_fit y2.o;rintro e w5⟨v5,rfl,y6,k5,q6⟩;obtain⟨a5,c5,rfl,-⟩:=y6.memA;have z8:=HJ.o.1.kept k5)
    |(go_fit(p1.o _ w5 ox z8);rintro e w6⟨rfl,e6⟩;replace e6:=e6.symm;subst e6)
    |(go_fit(p2.o _ w5 y6.memA<|hb.kept k5 sx);rintro e w6⟨rfl,k6⟩;have A5:=((o.o.arr.kept KD zx).kept k5 sx).kept k6 sx;obtain⟨⟨u0,c0⟩,⟨u1,c1⟩,u2,c2⟩:=lY A5 hlt;have f0:=A5.free<|i*3;have f1:=A5.free<|i*3+1;have f2:=A5.free<|i*3+2))
   go_roundg (2-(i+1))
   ·obtain⟨r1,r2,r3,r4,r5,r6,r7,r8,r9,y7,y8,r12⟩:=o.o.put (m:=n+5) (a:=a5) (c:=c5) HI.o ((KD.trans k5 sx).trans k6 sx) (z8.kept k6) ⟨y6.kept k6<|Zy _,fun y q=>by have:=q6 y q;have:=HJ.o.2.2.1.size;have:=o.o.rd.2.size;have:=o.o.arr.lt;omega⟩ y3.o;exact⟨i+1,n+5,r1,r2,r3,r4,r5,r6,r7,r8,r9,y7,ox,rfl,by go_num,ox,Qa y8,Qa r12⟩
   omega
 obtain rfl:i=2:=ox
 have hI:=HI.o;unfold DC at hI;simp only[Nat.lt_add_one,Cg,show(0:Nat)<2 by decide,show(1:Nat)<2 by decide]at hI;have A:=o.o.arr;have x0:wr.cell? B=some (.int .i64 G0):=A.cell (i:=0) rfl;have x1:wr.cell? ⟨B,1,none⟩=some (.slice a0 L0 c0):=A.cell (i:=1) rfl;have x2:wr.cell? ⟨B,2,none⟩=some (.bool F0):=A.cell (i:=2) rfl;have x3:wr.cell? ⟨B,3,none⟩=some (.int .i64 G1):=A.cell (i:=3) rfl;have x4:wr.cell? ⟨B,4,none⟩=some (.slice a1 L1 c1):=A.cell (i:=4) rfl;have x5:wr.cell? ⟨B,5,none⟩=some (.bool F1):=A.cell (i:=5) rfl;have b1:=A.lt;obtain⟨b2,b3⟩: ¬B=wr/\¬B=wr.heap.size+1:=ox
 clear A;have p3:=fun W (hW:Qb [] wr W)=>show It w d nv pv s G0 L0 (.returned<|.tuple #[G0,.slice a0 L0 c0,(0:Int)]) W from⟨n,_,ox,rfl,o.o.s0.1.kept hW<|Zy _,fun y q=>(o.o.s0.2 y q).1,o.o.rd.kept hW⟩
 have p4:=fun W (hW:Qb [] wr W)=>show It w d nv pv s G1 L1 (.returned<|.tuple #[G1,.slice a1 L1 c1,(0:Int)]) W from⟨n,_,ox,rfl,o.o.s1.1.kept hW<|Zy _,fun y q=>(o.o.s1.2 y q).1,o.o.rd.kept hW⟩
 obtain⟨⟨rfl,rfl,rfl⟩,rfl,rfl,rfl⟩:=hI;rcases HP.o with⟨rfl,rfl,rfl,rfl⟩|⟨rfl,rfl,h1,rfl,rfl⟩|⟨rfl,rfl,rfl,rfl⟩|⟨rfl,rfl,h1,rfl,rfl⟩
 all_goals try have g3:(g1:Int)<g0:=ox
 all_goals try have g3:¬(g1:Int)<g0:=ox
 all_goals
  go_wp2_with fail
  go_region
  all_goals
   go_wp2_with fail;go_quiet (fail)
   go_wp2
   go_ret3
   first|exact p3 _ ((((Qc [] wr).alloc _).alloc _).drew.drewN _)|exact p4 _<|(((Qc [] wr).alloc _).alloc _).drew.drewN _
section
def Tz(w:WD)(n:Note)(e:Ending)(w':WD):Prop:=e=.returned (.tuple #[De n,.bool true])/\Qb [] w w'
def kT{fn:Func}{p u:Tmp}(h:fn.results=#[.cell p 104,.tmp u])(tmps:Array VL)(w:WD){b:Nat}{v0 c v2 v3 v4 v5:VL}(A:Qe w b 104 [v0,c,v2,v3,v4,v5])(hp:tmps.getD p undef=.pointer b):
 (results fn tmps).run prog w=.ok (.tuple #[.agg #[v0,c,v2,v3,v4,v5],tmps.getD u undef]) w:=by
 rw[results_cell_tmp h,hp];simp only[asAddr,Sem.run_pure,Ua];rw[run_loadVar_row w b 104 104 _ _ _ A underlying104 rfl kx];rfl
structure JC(w0 w:WD)(r n:Nat)(R N:LV):Prop where
 ar:Qe w r 104 R
 an:Qe w n 104 N
 k:Qb [] w0 w
 lo:w0.heap.size<=r/\r<n
section
variable {w0 w w1:WD} {r n:Nat} {R N:LV}
def JC.kept(h:JC w0 w r n R N)(k:Qb [] w w1):JC w0 w1 r n R N:=⟨h.ar.kept k sx,h.an.kept k sx,h.k.trans k sx,h.lo⟩
def JC.setN(h:JC w0 w r n R N)(i:Nat)(v:VL):JC w0 (w.setCell ⟨n,i,none⟩ v) r n R (N.set i v):=by obtain⟨c,c⟩:=h.lo;exact⟨h.ar.kept ((Qc [n] w).setCell (p:=⟨n,i,none⟩) (.inl sx) v) zx,h.an.set i v,h.k.setCell (.inr (by show w0.heap.size<=n;omega)) v,h.lo⟩
def JC.setR(h:JC w0 w r n R N)(i:Nat)(v:VL):JC w0 (w.setCell ⟨r,i,none⟩ v) r n (R.set i v) N:=by obtain⟨c,d⟩:=h.lo;exact⟨h.ar.set i v,h.an.kept ((Qc [r] w).setCell (p:=⟨r,i,none⟩) (.inl sx) v) zx,h.k.setCell (.inr c) v,h.lo⟩
def JC.cells{a b c d e f:VL}(h:JC w0 w r n R [a,b,c,d,e,f]):w.cell? n=some a/\w.cell? ⟨n,1,none⟩=some b/\w.cell? ⟨n,2,none⟩=some c/\w.cell? ⟨n,3,none⟩=some d/\w.cell? ⟨n,4,none⟩=some e/\w.cell? ⟨n,5,none⟩=some f:=
 ⟨h.an.cq 0,h.an.cq 1,h.an.cq 2,h.an.cq 3,h.an.cq 4,h.an.cq 5⟩
end
def JC.start(w:WD)(X:Obj)(R N:LV):JC w (((w.alloc X).alloc<|.cells R.toArray 104).alloc<|.cells N.toArray 104) (w.heap.size+1) (w.heap.size+1+1) R N:=
 ⟨(Qe.newAt _ _ _ _ sx).alloc _,Qe.newAt _ _ _ _ sx,(((Qc [] w).alloc _).alloc _).alloc _,DF _,MP _⟩
def Qex(n:Note)(g i:Nat)(w:WD)(h:Ax n):
 Calls prog 67 #[.agg (VT (if n.1 then 1 else 2) g i<|VC n).toArray] w (Tz w n):=by
 obtain⟨b,m⟩:=n;rcases h with⟨q,o⟩|⟨q,o,h3⟩
 ·have q:b=true:=q;subst q;have o:UH m:=o;have HM:=Qa (fun W=>lC [m] 1 W rfl dx<|by simpa using o);have e0:[m].flatMap Xi=Xi m:=sx
  rw[e0]at HM;have⟨M,hM⟩:=qx<|Xi m;rw[show VC (true,m)=Xi m from rfl,hM];rw[hM]at HM;unfold VT;have⟨h4,HS⟩:=qb (show De (true,m)=.agg #[(1:Int),str m.path,m.start,m.eZ,m.size,.int .u32 m.sum]from rfl)<|JC.start w (.cells #[.int .u8 1,g,i,.string<|str M] 131) [(0:Int),"",(0:Int),(0:Int),(0:Int),.int .u32 0] [(1:Int),"",(0:Int),(0:Int),(0:Int),.int .u32 0];clear o e0 hM;go_enter func67,ntmps67;go_wp2_with (go_fit(HM.o _);rintro e w1⟨v,rfl,h5,y,h9⟩;obtain⟨a1,c1,rfl,h8,-⟩:=h5.memA;have X:=HS.o.kept y;obtain⟨g1,o1,rfl,y0,y1,y2,y3,y4⟩:=RA h8 (i:=0) (x:=m) rfl;obtain⟨n0,n1,n2,n3,n4,n5⟩:=X.cells;have x1:=X.an.free 1;have x2:=X.an.free 2;have x3:=X.an.free 3;have x4:=X.an.free 4;have x5:=X.an.free 5;have z0:=X.ar.cq 0;have z1:=X.ar.cq 1;have z2:=X.ar.cq 2;have z3:=X.ar.cq 3;have z4:=X.ar.cq 4;have z5:=X.ar.cq 5;have r0:=X.ar.free 0;have r1:=X.ar.free 1;have r2:=X.ar.free 2;have r3:=X.ar.free 3;have r4:=X.ar.free 4;have r5:=X.ar.free 5;have y0:w1.cell? ⟨g1,o1,none⟩=_:=(by simpa using y0);have y1:w1.cell? ⟨g1,o1+1,none⟩=_:=(by simpa using y1);have y2:w1.cell? ⟨g1,o1+2,none⟩=_:=(by simpa using y2);have y3:w1.cell? ⟨g1,o1+3,none⟩=_:=(by simpa using y3);have y4:w1.cell? ⟨g1,o1+4,none⟩=_:=(by simpa using y4);have HX:=Qa X;clear X h5 h8 y h9);refine Zj (kT rfl _ _ ((((((((((HX.o.setN 1<|.string<|str m.path).setN 2 m.start).setN 3 m.eZ).setN 4 m.size).setN 5<|.int .u32 m.sum).setR 0 (1:Int)).setR 1<|.string<|str m.path).setR 2 m.start).setR 3 m.eZ).setR 4 m.size|>.setR 5 (.int .u32 m.sum)).ar rfl) rfl ?_;exact⟨by rw[h4.o];rfl,((((((((((HX.o.setN 1 _).setN 2 _).setN 3 _).setN 4 _).setN 5 _).setR 0 _).setR 1 _).setR 2 _).setR 3 _).setR 4 _|>.setR 5 _).k⟩
 have q:b=false:=q;subst q;have⟨p,hp⟩:=qx m.path;simp only at o h3;rw[hp]at o h3;subst h3;have HC:=Qa fun W=>CP (str p) W (by have:=(XU o).2.2;show p.length<=_;omega);rw[show X1 (str p).data.toList=0 by unfold X1;rw[show Xr (str p).data.toList=true from o];rfl]at HC;rw[show VC (false,⟨p,0,0,0,0⟩)=p from rfl];unfold VT;have⟨h4,HS,HA⟩:=qc (show De (false,⟨p,0,0,0,0⟩)=.agg #[(2:Int),.string<|str p,(0:Int),(0:Int),(0:Int),.int .u32 0]from rfl) (JC.start w (.cells #[.int .u8 2,g,i,.string<|str p] 131) [(0:Int),"",(0:Int),(0:Int),(0:Int),.int .u32 0] [(2:Int),"",(0:Int),(0:Int),(0:Int),.int .u32 0])<|(((Qx w [.int .u8 2,g,i,.string<|str p] 131).alloc<|.cells #[(0:Int),"",(0:Int),(0:Int),(0:Int),.int .u32 0] 104).alloc<|.cells #[(2:Int),"",(0:Int),(0:Int),(0:Int),.int .u32 0] 104);clear o;go_enter func67,ntmps67;go_wp2_with (go_fit(HC.o _);rintro e w1⟨rfl,y⟩;have X:=HS.o.kept y;have x3:=(HA.o.kept y sx).cq 3;obtain⟨n0,n1,n2,n3,n4,n5⟩:=X.cells;have x1:=X.an.free 1;have z0:=X.ar.cq 0;have z1:=X.ar.cq 1;have z2:=X.ar.cq 2;have z3:=X.ar.cq 3;have z4:=X.ar.cq 4;have z5:=X.ar.cq 5;have r0:=X.ar.free 0;have r1:=X.ar.free 1;have r2:=X.ar.free 2;have r3:=X.ar.free 3;have r4:=X.ar.free 4;have r5:=X.ar.free 5;have HX:=Qa X;clear X y);refine Zj (kT rfl _ _ ((((((HX.o.setN 1<|.string<|str p).setR 0 (2:Int)).setR 1<|.string<|str p).setR 2 (0:Int)).setR 3 (0:Int)).setR 4 (0:Int)|>.setR 5 (.int .u32 0)).ar rfl) rfl ?_;exact⟨by rw[h4.o];rfl,((((((HX.o.setN 1 _).setR 0 _).setR 1 _).setR 2 _).setR 3 _).setR 4 _|>.setR 5 _).k⟩
end
section
def tJ:(prog.info? 82).map (fun i=>(i.zero,i.size,i.bytes))=some (some<|.slice none 0 0,1,24):=by kernel_rfl
structure Uw(w0 w:WD)(ov nv:VL)(xs:LV)(r:List (List Note))(t:List Note):Prop where
 outs:Qh w 82 ov xs/\xs.length=r.length/\∀(j:Nat)(ns:List Note),r[j]?=some ns->∃x,xs[j]?=some x/\Qm w 104 6 x ns.length (Qs Zs ns)/\∀y∈Qd x,w0.heap.size<=y/\y∉Qd ov/\y∉Qd nv
 opn:Qm w 104 6 nv t.length (Qs Zs t)
 ap:∀y∈Qd ov,y∉Qd nv
 new:(∀y∈Qd ov,w0.heap.size<=y)/\∀y∈Qd nv,w0.heap.size<=y
def Uw.start(w:WD):Uw w w (.slice none 0 0) (.slice none 0 0) [] [] []:=
 ⟨⟨Qh.nil _ _,rfl,fun c c c=>by simp at c⟩,Qm.nil _ _ _,by simp[Qd,qo],by simp[Qd,qo],by simp[Qd,qo]⟩
section
variable {w0 w w1:WD} {ov nv:VL} {xs:LV} {r:List (List Note)} {t:List Note}
def Uw.kept{S:LN}(h:Uw w0 w ov nv xs r t)(k:Qb S w w1)(l:∀c∈S,c<w0.heap.size):Uw w0 w1 ov nv xs r t:=by
 obtain⟨g,i,j⟩:=h.outs;have e:∀c,w0.heap.size<=c->c∉S:=fun c d m=>by have:=l c m;omega
 refine⟨⟨g.kept k fun c d=>e c<|h.new.1 c d,i,fun l m i=>?_⟩,h.opn.kept k fun c d=>e c<|h.new.2 c d,h.ap,h.new⟩;obtain⟨n,g,a2,a3⟩:=j l m i;exact⟨n,g,a2.kept k fun c d=>e c (a3 c d).1,a3⟩
def Uw.note{g c:Nat}{n:Note}(h:Uw w0 w ov nv xs r t)(p:Qm w1 104 6 (.slice g (t.length+1) c) (t.length+1) (Qs Zs t++Zs n))(hk:Qb (Qd nv) w w1)(e:g∈Qd nv\/w.heap.size<=g)(h0:w0.heap.size<=w.heap.size):
 Uw w0 w1 ov (.slice g (t.length+1) c) xs r (t++[n]):=by
 obtain⟨j,m,o⟩:=h.outs;have l:Qs Zs (t++[n])=Qs Zs t++Zs n:=by simp[Qs]
 have hf:Qd (.slice g (t.length+1) c)=[g]:=by simp[Qd,qo]
 refine⟨⟨j.kept hk fun i d=>h.ap i d,m,fun q s m=>?_⟩,by rwa[l,Qo],fun i d=>?_,h.new.1,fun i d=>?_⟩
 ·obtain⟨p,l,a2,a3⟩:=o q s m;refine⟨p,l,a2.kept hk fun i d=>(a3 i d).2.2,fun i d=>⟨(a3 i d).1,(a3 i d).2.1,?_⟩⟩;rw[hf,Zb];rintro rfl;rcases e with e|e
  ·exact(a3 _ d).2.2 e
  have:=a2.lt _ d;omega
 ·rw[hf,Zb];rintro rfl;rcases e with e|e
  ·exact h.ap _ d e
  have:=j.lt _ d;omega
 rw[hf,Zb]at d;subst d;rcases e with e|e
 ·exact h.new.2 _ e
 omega
def Uw.done{g c m:Nat}(h:Uw w0 w ov nv xs r t)(l:Qh w1 82 (.slice g m c) (xs++[nv]))(hk:Qb (Qd ov) w w1)(i:g∈Qd ov\/w.heap.size<=g)(h0:w0.heap.size<=w.heap.size):
 Uw w0 w1 (.slice g m c) (.slice none 0 0) (xs++[nv]) (r++[t]) []:=by
 obtain⟨d,q,n⟩:=h.outs;have hf:Qd (.slice g m c)=[g]:=by simp[Qd,qo]
 have hz:Qd ()=[]:=by simp[Qd,qo]
 have s:∀j e,Qm w 104 6 j e.length (Qs Zs e)->(∀d∈Qd j,w0.heap.size<=d/\d∉Qd ov)->Qm w1 104 6 j e.length (Qs Zs e)/\∀d∈Qd j,w0.heap.size<=d/\d∉Qd (.slice g m c)/\d∉Qd ():=fun j e a2 a3=>by
  refine⟨a2.kept hk fun d e=>(a3 d e).2,fun d e=>⟨(a3 d e).1,?_,by rw[hz];simp⟩⟩;rw[hf,Zb];rintro rfl;rcases i with i|i
  ·exact(a3 _ e).2 i
  have:=a2.lt _ e;omega
 refine⟨⟨l,by simp[q],fun p u l=>?_⟩,Qm.nil _ _ _,by rw[hz];simp,fun d e=>?_,by rw[hz];simp⟩
 ·by_cases o:p<r.length
  ·rw[Xc o]at l;obtain⟨j,v,a2,a3⟩:=n p u l;obtain⟨n,o⟩:=s j u a2 fun d e=>⟨(a3 d e).1,(a3 d e).2.1⟩;exact⟨j,by rwa[Xc ox],n,o⟩
  have j:=(Qy.1 l).1;rw[Qo,List.length_singleton]at j;obtain rfl:p=r.length:=ox
  rw[Zm ox,ZM]at l;injection l with l;subst l;obtain⟨n,o⟩:=s nv t h.opn fun d e=>⟨h.new.2 d e,fun j=>h.ap d j e⟩;exact⟨nv,by rw[Zm ox,q,ZM];rfl,n,o⟩
 rw[hf,Zb]at e;subst e;rcases i with i|i
 ·exact h.new.1 _ i
 omega
end
def yU(n:Note):∀u∈Zs n,u.oneCell'=true:=by simp[Zs,Q9,Value.oneCell']
def OJ:∀(r:List (List Note))(j:Nat),j<=r.length->j<=ZY (r.take j)
 |r,0,_=>Zv _
 | [],j+1,h=>by simp at h
 |x::r,j+1,h=>by rw[FW,ZY];have:=OJ r j (by simpa using h);omega
def Nb(w:WD)(d:Nat)(i j:VL)(s:QG)(r:List (List Note))(e:Ending)(w':WD):Prop:=
 ∃(c:Nat)(g l:VL)(m:LV)(h:Int),c<=30/\e=.returned (.tuple #[g,h,(0:Int)])/\Uw w w' g l m r []/\YO w d i j s c w'
def vX(W:WD)(X:Obj)(b:UInt8):(convert 88 9<|.slice (W.heap.size+1:Nat) 1 1).run prog ((W.alloc X).alloc<|.cells #[.int .u8 (b.toNat:Int)] 5)=.ok (.string ⟨#[b]⟩) ((W.alloc X).alloc<|.cells #[.int .u8 (b.toNat:Int)] 5):=by have:=CN (W.alloc X) b;rwa[Ux]at this
def Qhc{d:Nat}{nv pv:VL}{s:Vst}{w:WD}{c:LU->LU}{b:List RM}{r:List (List Note)}(h:Dk w d nv pv s.dev)(hv:Vok s c)(hL:Q6 s b r)(hc:s.dev.lZ+1000<=1000000000):
 Calls prog 35 #[.pointer d,s.gen] w (Nb w d nv pv s.dev r):=by
 have⟨HC,HD,HV⟩:=qc (Rg h hv.dev) (EZ h hv.dev)<|Qr hv<|Qr hL hc;have q0:((s.dev.cap:Int)==0)=false:=Ze.2 (yx hv.pZ);obtain⟨gen,y7⟩:∃g,s.gen=g:=⟨_,rfl⟩;have p0:gen<=4611686018427387904:=by have:=hv.gen;have:=hv.dev.lZ;omega
 have z1:=Qa y7;rw[y7];have p8:=Qa (show ∀W:WD,Calls prog 65 #[gen] W fun e w'=>e=.returned (.bool true)/\w'=W from fun W=>by
  obtain⟨g1,g2⟩:(0:Int)<=gen/\(gen:Int)<=4611686018427387904:=ox
  go_enter func65,ntmps65
  go_wp2
  go_ret;exact⟨rfl,rfl⟩)
 have⟨HS,x2,z6⟩:=qc (Uw.start w) h<|show s.next<=20 from hv.next;clear h hv hL hc y7;go_enter func35,ntmps35;go_wp2_with fail
 go_step3
 go_wp2_with (first
  |(go_fit HC.o;rintro e w1⟨rfl,q⟩;replace q:=q.symm;subst q)
  |(go_fit(p8.o _);rintro e w1⟨rfl,q⟩;replace q:=q.symm;subst q)
  |(go_fit HD.o;rintro e w1⟨rfl,q⟩;replace q:=q.symm;subst q))
 go_step3
 go_wp2
 go_loopg [7,8,9,10,11,12,13,14,15] 21 (fun k x7 x8 x9 q9 r7 r9 a1 a6 a7 wr=>∃(j t:Nat)(bh:Int)(xs:LV),k=21-(ZY (r.take j)+t)/\x9=.int .i64 bh/\q9=.int .i64 ((ZY (r.take j)+t:Nat):Int)/\Hid (j<=r/\t<=(r.getD j []).length)/\Hid (Uw w wr x7 x8 xs (r.take j) ((r.getD j []).take t)/\YO w d nv pv s.dev (ZY (r.take j)+t) wr))
 ·exact⟨0,0,0,[],by simp[ZY],rfl,by simp[ZY],Qa ⟨ox,ox⟩,Qa ⟨by simpa using HS.o,by simpa[ZY]using YO.refl x2.o⟩⟩
 obtain⟨j,t,bh,xs,hk,rfl,rfl,HJ,HR⟩:=hrel;have⟨i,hi⟩:=qx<|ZY (r.take j)+t;rw[hi]at hk HR ⊢;have HI:=Qa hi;have⟨N,hN⟩:=qx s.dev.img.length;have HN:=Qa hN;have r3:i<=20:=by
  obtain⟨h1,h2⟩:=HJ.o;have h3:=z6.o;have h4:=HV.o.2.1.len
  by_cases hlt:j<r
  ·have h5:=GN r j (r.getD j []) (by rw[List.getD,Qj hlt];rfl);have h6:=Fl r<|j+1;omega
  have h5:r.getD j []=[]:=by rw[List.getD,QU ox];rfl
  rw[h5]at h2;have h6:=Fl r j;simp at h2;omega
 have x3:=Qa<|DS HR.o.2.1 ⟨HV.o.1.dev.c1,HV.o.1.dev.c2,HV.o.1.dev.len,HV.o.1.dev.sec,by show s.dev.lZ+i<=_;have:=HV.o.2.2;omega⟩;have q:(s.dev.tick i).img=s.dev.img:=rfl;rw[q,hN]at x3;have w1:IntKind.i64.wrap (10+(i:Int))=10+(i:Int):=by rw[Zq];omega
 clear q hi hN
 by_cases hlt:j<r
 ·have⟨ns,h9⟩:=qy r j hlt;have x0:r.getD j []=ns:=by rw[List.getD,h9];rfl
  have y4:=HR.o;rw[x0]at y4;have p5:=HJ.o.2;rw[x0]at p5;obtain⟨s1,s2,s3⟩:=HV.o.2.1.sector (t:=t) h9;rw[HI.o,z1.o]at s1 s2;rw[HI.o]at s3;have s3:=s3 p5;have r6:=z6.o;have r4:j<=20:=by have:=OJ r j<|Iv hlt;have:=HI.o;omega
  have y0:=HV.o.2.1.ok ns<|QB h9;have p2:ZY (r.take<|j+1)=i-t+ns.length+1:=by rw[GN r j ns h9];have:=HI.o;omega
  have q8:ns.length<=20:=by have:=Fl r<|j+1;have:=HV.o.2.1.len;omega
  have q2:(i:Int)<20:=ox
  have⟨x4,z7⟩:=qb y4<|Qr h9<|Qr x0<|Qr p2 y0;clear y4 h9 x0 p2;rcases Xw t ns with p4|p4
  ·have⟨m,hm⟩:=qy ns t p4;have hx:=s1 m hm;have y8:=y0.2 m<|QB hm;have q3:10+(i:Int)<N:=(wx ((Qy.1 hx).1) HN.o);have HG:=Qa<|x4.o.2.get HV.o.1.dev HV.o.2.2 ox hx;rw[show((10+i:Nat):Int)=10+(i:Int)by push_cast;rfl]at HG;obtain⟨ku,y3⟩:∃k:UInt8,(if m.1 then 1 else 2:UInt8)=k:=⟨_,rfl⟩;have y2:ku≠0/\¬((ku.toNat:Nat):Int)=3/\ku.toNat<=2:=by rw[<-y3];cases m.1<;>decide
   rw[y3]at HG;have⟨D,hD⟩:=qx<|VC m;have⟨h8,y1⟩:=qb (fun W=>Lw ku gen i D W y2.1 p0 ox (by have:=iW y8;rw[hD]at this;omega)) fun W=>Qex m gen i W y8;rw[y3,hD]at y1;rw[hD]at HG;have⟨z,hz⟩:=qx<|Yn ku gen i D;rw[hz]at HG h8;have q4:=y2.2.1;have wk:IntKind.i64.wrap ((ku.toNat:Nat):Int)=(ku.toNat:Nat):=(by rw[Zq];have:=y2.2.2;omega);have HM:=Qa hm;have y5:∀y∈[d],y<w.heap.size:=fun y hy=>by simp at hy;subst hy;exact x2.o.lt _ sx
   have L0:(ns.take t).length<=20:=(by rw[Zd];omega);have L1:(ns.take t).length+1<=maxLen:=(by simp only[maxLen];omega);have L2:((ns.take t).length+1)*56<=140737488355328:=ox;clear hx hz hD y3 hm s1 s2 s3 y0 y8 y2;unfold VT at h8 y1;unfold Tz De at y1;go_wp2_with (first
    |(go_fit x3.o;rintro e w2⟨rfl,o⟩;replace o:=o.symm;subst o)
    |(go_fit HG.o;rintro e w3⟨rfl,h3,k3⟩)
    |(go_fit(h8.o _);rintro e w4⟨rfl,k4⟩)
    |(go_fit(y1.o _);rintro e w5⟨rfl,k5⟩;have k6:=((k3.trans (k4.alloc _) sx).trans k5 sx).alloc<|.cells (Zs m).toArray 104;have R6:=Qa<|Qr (x4.o.1.kept k6 y5)<|Qr k6<|(h3.kept<|k4.alloc _).kept<|k5.alloc<|.cells (Zs m).toArray 104)
    |(at_builtin;(refine Rr (w5.alloc<|.cells (Zs m).toArray 104) rfl _ _ 82 rfl 104 (.agg #[(0:Int),"",(0:Int),(0:Int),(0:Int),.int .u32 0]) 6 56 underlying82 TL rfl dx u8 (ns.take t).length _ (Zs m) rfl (by rw[Ux];rfl) rfl rfl (yU m) R6.o.1.opn L1 L2 ?_;intro g7 c7 w7 y9 x1 y6)))
   go_roundg (21-(i+1))
   case measure=>omega
   obtain⟨h9,x0,-,-⟩:=z7.o;have q:ZY (r.take j)+(t+1)=i+1:=(yx HI.o);have o:ns.take (t+1)=ns.take t++[m]:=(by rw[Zh,HM.o];rfl);have P:=R6.o.1.note y9 x1 y6 R6.o.2.2.2.size;rw[<-o,show(ns.take t).length=t by rw[Zd];omega]at P;refine⟨j,t+1,bh,xs,by rw[q],rfl,by rw[q];go_num,Qa ⟨ox,by rw[x0];omega⟩,Qa ⟨by rw[x0];exact P,?_⟩⟩;rw[q];have hr:=R6.o.2.2;have x6:∀y∈Qd u8,w.heap.size<=y:=R6.o.1.new.2;exact⟨hr.1.kept x1 (fun y hy hm=>by have:=x2.o.lt y hy;have:=x6 y hm;omega),hr.2.trans x1 fun y hy=>.inr<|x6 y hy⟩
  obtain rfl:t=ns:=ox
  have hx:=s2 rfl;have q3:10+(i:Int)<N:=by have:=(Qy.1 hx).1;have:=HN.o;omega
  have HG:=Qa<|x4.o.2.get HV.o.1.dev HV.o.2.2 ox hx;rw[show((10+i:Nat):Int)=10+(i:Int)by push_cast;rfl]at HG;have⟨n,hn⟩:=qx ns.length;rw[hn]at HG q8;have r5:1<=n:=yx (In.2 y0.1)
  obtain⟨bn,q1,z8⟩:∃bn:UInt8,(bn.toNat:Int)=n/\UInt8.ofNat n=bn:=⟨UInt8.ofNat n,by rw[U6,XH ox],rfl⟩;have w8:IntKind.u8.wrap (n:Int)=(bn.toNat:Int):=by rw[Cz];omega
  have r2:=fun W X=>vX W X bn
  rw[z8]at HG;have h8:=Qa (fun W=>Lw 3 gen i [bn] W dx p0 ox sx);have⟨z,hz⟩:=qx<|Yn 3 gen i [bn];rw[hz]at HG h8;have x5:=x4.o.1;rw[Q5<|Qk _]at x5;obtain⟨a8,c8,p6,-⟩:=x5.opn.sees;rw[hn]at p6;have q4:((n:Int)==0)=false:=zx
  have q5:¬(n:Int)=0:=ox
  have p7:=Qa x5;have y5:∀y∈[d],y<w.heap.size:=fun y hy=>by simp at hy;subst hy;exact x2.o.lt _ sx
  have L0:xs.length<=20:=by rw[x5.outs.2.1,Zd];omega
  have L1:xs.length+1<=maxLen:=by simp only[maxLen];omega
  have L2:(xs.length+1)*24<=140737488355328:=ox
  have r0:=Qa hn;subst p6;clear hx hz s1 s2 s3 y0 x5 x4;unfold VT at h8;rw[show str [bn]=⟨#[bn]⟩from rfl]at h8;clear q1 z8;go_wp2_with (first
   |(go_fit x3.o;rintro e w2⟨rfl,o⟩;replace o:=o.symm;subst o)
   |(go_fit HG.o;rintro e w3⟨rfl,h3,k3⟩)
   |(go_fit(h8.o _);rintro e w4⟨rfl,k4⟩;have k6:=((k3.trans k4 sx).alloc<|.cells #[.int .u8 3,gen,.int .i64 i,.string ⟨#[bn]⟩] 131).alloc<|.cells #[.int .u8 (bn.toNat:Int)] 5;have R6:=Qa<|Qr (p7.o.kept k6 y5)<|Qr k6<|(h3.kept k4).kept<|((Qc [] w4).alloc<|.cells #[.int .u8 3,gen,.int .i64 i,.string ⟨#[bn]⟩] 131).alloc<|.cells #[.int .u8 (bn.toNat:Int)] 5)
   |(at_builtin;(refine Dt ((w4.alloc<|.cells #[.int .u8 3,gen,.int .i64 i,.string ⟨#[bn]⟩] 131).alloc<|.cells #[.int .u8 (bn.toNat:Int)] 5) rfl _ _ 79 rfl 82 () 24 underlying79 tJ rfl u7 (.slice a8 n c8) xs rfl (by rw[Ux,Ux];rfl) rfl rfl R6.o.1.outs.1 L1 L2 ?_;intro g7 c7 w7 y9 x1 y6)))
  go_roundg (21-(i+1))
  case measure=>omega
  obtain⟨h9,-,-,-⟩:=z7.o;have q:ZY (r.take<|j+1)+0=i+1:=by rw[GN r j ns h9];have:=HI.o;omega
  have o:r.take (j+1)=r.take j++[ns]:=by rw[Zh,h9];rfl
  have P:=R6.o.1.done y9 x1 y6 R6.o.2.2.2.size;rw[<-o]at P;refine⟨j+1,0,_,_,by rw[q],rfl,by rw[q];go_num,Qa ⟨ox,ox⟩,Qa ⟨by rw[DB];exact P,?_⟩⟩;rw[q];have hr:=R6.o.2.2;have x6:∀y∈Qd u7,w.heap.size<=y:=R6.o.1.new.1;exact⟨hr.1.kept x1 (fun y hy hm=>by have:=x2.o.lt y hy;have:=x6 y hm;omega),hr.2.trans x1 fun y hy=>.inr<|x6 y hy⟩
 obtain rfl:j=r:=yx HJ.o.1
 have ht:t=0:=by have:=HJ.o.2;rw[List.getD,QU ox]at this;simpa using this
 subst ht;have p1:i=s.next:=by have:=HI.o;rw[Q5<|Qk _,HV.o.2.1.len]at this;omega
 have HF:=Qa (fun m W (hm:m<=30)(hW:Qb [d] wr W)(hr:YO w d nv pv s.dev m W)=>show Nb w d nv pv s.dev r (.returned<|.tuple #[u7,bh,(0:Int)]) W from
  ⟨m,u7,u8,xs,bh,hm,rfl,by have:=HR.o.1;rw[Q5<|Qk _,DB]at this;exact this.kept hW (fun y hy=>by simp at hy;subst hy;exact x2.o.lt _ sx),hr⟩)
 by_cases p9:i<20
 ·have q2:(i:Int)<20:=ox
  by_cases r1:10+i<N
  ·have q3:10+(i:Int)<N:=ox;have⟨x,hx⟩:=qy s.dev.img (10+i) (yx HN.o);have HG:=Qa<|HR.o.2.get HV.o.1.dev HV.o.2.2 ox hx;rw[show((10+i:Nat):Int)=10+(i:Int)by push_cast;rfl]at HG;rcases HV.o.2.1.stale i x ox p9 hx with rfl|⟨kind,g',i',dd,rfl,p3,q7,q6,hd⟩
   ·have h8:=Qa fun W=>kK W;have⟨z,hz⟩:=qx<|Q3 512;rw[hz]at HG h8;clear hx hz p1 hlt;go_wp2_with (first
     |(go_fit x3.o;rintro e w2⟨rfl,o⟩;replace o:=o.symm;subst o)
     |(go_fit HG.o;rintro e w3⟨rfl,h3,k3⟩)
     |(go_fit(h8.o _);rintro e w4⟨rfl,k4⟩))
    go_ret3
    exact HF.o (i+1) _ ox ((k3.trans k4 sx).alloc _)<|(h3.kept k4).kept<|(Qc [] w4).alloc _
   have p3:g'<gen:=(by rwa[<-z1.o]);have h8:=Qa fun W=>Lw kind g' i' dd W q7 ox q6 hd;have⟨z,hz⟩:=qx<|Yn kind g' i' dd;rw[hz]at HG h8;have q4:¬(g':Int)=gen:=ox;clear hx hz p1 hlt;unfold VT at h8;go_wp2_with (first
    |(go_fit x3.o;rintro e w2⟨rfl,o⟩;replace o:=o.symm;subst o)
    |(go_fit HG.o;rintro e w3⟨rfl,h3,k3⟩)
    |(go_fit(h8.o _);rintro e w4⟨rfl,k4⟩))
   go_ret3
   exact HF.o (i+1) _ ox ((k3.trans k4 sx).alloc _)<|(h3.kept k4).kept<|(Qc [] w4).alloc _
  have q3:¬10+(i:Int)<N:=ox
  go_wp2_with (go_fit x3.o;rintro e w2⟨rfl,o⟩;replace o:=o.symm;subst o)
  go_ret3
  exact HF.o i _ ox (Qc _ _) HR.o.2
 have q2:¬(i:Int)<20:=ox
 go_wp2
 go_ret3
 exact HF.o i _ ox (Qc _ _) HR.o.2
end
def Az.okn{n:Note}(h:Ax n):Js n.2:=by
 rcases h with⟨-,h⟩|⟨-,h,c⟩
 ·exact h.ms
 rw[c];exact⟨(XU h).2.2,sx,sx⟩
def Q6.more{s:Vst}{b:List RM}{r:List (List Note)}(h:Q6 s b r)(k:Nat)(c:s.next<=20):Q6 (s.more k) b r:=h.high ⟨rfl,rfl,rfl,rfl,fun _ _=>.inl rfl⟩ c
def IG(w:WD)(d:Nat)(g i:VL)(s:Vst)(e:Ending)(w':WD):Prop:=
 ∃(k a:Nat)(h j c:VL),k<=40/\e=.returned (.tuple #[.pointer a,(0:Int)])/\Zn w' a d h j c (s.more k).save/\Qb (Q2 d g i) w w'/\QQ w (Q2 d g i) (QN a d h j c)
def Qhb{d:Nat}{nv pv:VL}{s:Vst}{w:WD}{c:LU->LU}{b:List RM}{r:List (List Note)}(h:Dk w d nv pv s.dev)(o:Vok s c)(hL:Q6 s b r)(hE:Y5 w)(x1:∀x∈Q2 d nv pv,10<=x)(hc:s.dev.lZ+2000<=1000000000):
 Calls prog 11 #[.pointer d] w (IG w d nv pv s):=by
 have⟨HC,HD,HV⟩:=qc (Rg h o.dev) (EZ h o.dev)<|Qr o<|Qr hL hc;have r9:10<=d:=x1 d sx;have r7:=o.pZ;have q0:((s.dev.cap:Int)==0)=false:=Ze.2 ox;obtain⟨q1,q2⟩: ¬(s.dev.cap:Int)=0/\¬(s.dev.cap:Int)<=30:=ox
 obtain⟨gen,x7⟩:∃g,s.gen=g:=⟨_,rfl⟩;have a1:gen<=1000000000:=by have:=o.gen;have:=o.dev.lZ;omega
 have p0:∀n,n<=100->(s.dev.tick n).Ok:=fun n hn=>⟨o.dev.c1,o.dev.c2,o.dev.len,o.dev.sec,by show s.dev.lZ+n<=_;omega⟩
 have q6:Hid (Calls prog 34 #[.pointer d] w (It w d nv pv s.dev gen b)):=Qa (by
  obtain⟨h1,g,l,f,h2,h3⟩:=hL.slots o;rw[x7]at h1 h2 h3;have hl:=wO h o.dev hE.1 ox ox;rcases Nat.mod_two_eq_zero_or_one gen with hp|hp
  ·rw[hp]at h1;rw[show(gen+1)%2=1 by omega]at h2;refine hl gen g b l true f h1 h2 gen b ?_;cases f with
   |false=>exact .inl ⟨rfl,rfl,rfl,rfl⟩
   |true=>exact .inr<|.inl ⟨rfl,rfl,h3 rfl,rfl,rfl⟩
  rw[hp]at h1;rw[show(gen+1)%2=0 by omega]at h2;refine hl g gen l b f true h2 h1 gen b ?_;cases f with
  |false=>exact .inr<|.inr<|.inl ⟨rfl,rfl,rfl,rfl⟩
  |true=>exact .inr (.inr<|.inr ⟨rfl,rfl,Iv<|h3 rfl,rfl,rfl⟩))
 have q7:=Qa fun n W (hn:n<=10)(hr:YO w d nv pv s.dev n W)=>show Calls prog 35 #[.pointer d,gen] W (Nb W d nv pv (s.dev.tick n) r)from x7▸Qhc (s:=s.more n) hr.1 (o.more n ox) (hL.more n o.next) (by show s.dev.lZ+n+1000<=_;omega);have p9:=Qa fun n W (hn:n<=100)(hr:YO w d nv pv s.dev n W)=>show Calls prog 14 #[.pointer d] W fun e w'=>e=.returned s.dev.cap/\w'=W from Rg (s:=s.dev.tick n) hr.1 (p0 n hn);have HE:=Qa hE;have HH:=Qa h;have HW:=Qa x1;have y7:=Qa x7;clear h o hL hE x1 p0 x7;go_enter func11,ntmps11;go_wp2_with (first
  |(go_fit HC.o;rintro e w1⟨rfl,e1⟩;replace e1:=e1.symm;subst e1)
  |(go_fit HD.o;rintro e w1⟨rfl,e1⟩;replace e1:=e1.symm;subst e1)
  |(go_fit q6.o;rintro e w2⟨n2,v2,r1,rfl,p1,y0,x9⟩)
  |(go_fit(q7.o n2 _ r1 x9);rintro e w3⟨n3,ov,qv,xs,bh,a7,rfl,h9,x6⟩;obtain⟨a3,c3,rfl,-,-,h5,-⟩:=h9.outs.1.sees;rw[h9.outs.2.1]at h5 ⊢))
 have⟨m,hm⟩:=qx r.length;rw[hm]at h5 ⊢;have b1:=h5.1;have h8:YO w d nv pv s.dev (n2+n3) w3:=⟨by have:=x6.1;rwa[show(s.dev.tick n2).tick n3=s.dev.tick (n2+n3)by simp[QG.tick,Y7]]at this,x9.2.trans x6.2 sx⟩;have H3:=Qa<|Qr h8<|Qr h9<|Qr hm h5;have p4:Qm w3 69 5 v2 b (Qs Q9 b):=p1.kept x6.2 (fun y hy hm=>by have:=y0 y hy;have:=HH.o.lt d sx;simp at hm;omega);have⟨H2,x3⟩:=qb (Qr p4 y0)<|Y5.kept HE.o h8.2 (by intro y hy;simp at hy;omega);clear h8 h9 h5 p4 p1 y0 x9 x6 hm
 go_loopg [5,11,42] m (fun k x5 b3 r5 wr=>∃i:Nat,i<=m/\k=m-i/\r5=.int .i64 (i:Nat)/\Hid (Qm wr 69 5 x5 ((r.take i).foldl Q8 b).length (Qs Q9<|(r.take i).foldl Q8 b)/\∀y∈Qd x5,w.heap.size<=y)/\Hid (Qb [] w3 wr))
 ·exact⟨0,ox,ox,rfl,Qa H2.o,Qa<|Qc _ _⟩
 obtain⟨i,hi,hk,rfl,HX,HK⟩:=hrel;obtain⟨h8,h9,hm,h5⟩:=H3.o;obtain⟨o,hL,hc⟩:=HV.o;have h4:=hL.mids i ox;have a6:m<=20:=by have h1:=OJ r r.length<|Qk _;rw[Q5<|Qk _]at h1;have:=hL.len;have:=o.next;omega
 have⟨L,x4⟩:=qx<|(r.take i).foldl Q8 b;rw[x4]at h4 HX
 by_cases hlt:i<m
 ·have q3:(i:Int)<m:=ox
  have⟨ns,x2⟩:=qy r i ox;obtain⟨x,p5,p6,r4⟩:=h9.outs.2.2 i ns x2;have z8:=hL.ok ns<|QB x2;have x0:=hL.mids (i+1) ox;have e1:(r.take<|i+1).foldl Q8 b=Q8 L ns:=by rw[Zh,x2,BS,x4];rfl
  rw[e1]at x0;obtain⟨ax,cx,rfl,-,-,p3,-⟩:=p6.sees;have a8:ns.length<=20:=by have:=GN r i ns x2;have:=Fl r<|i+1;have:=hL.len;have:=o.next;omega
  obtain⟨g3,o3,rfl,y3⟩:=h5.2 i _ p5;have y4:=HK.o.cZ y3 sx;have p7:=Qa<|SF u5 (.slice ax ns cx) L ns wr HX.o.1.memA ⟨ax,cx,rfl,p3.kZ HK.o⟩ (x3.o.kZ HK.o).1 (yx h4.few) ox h4.rise (fun m hm=>(h4.rm m hm).ms) (fun n hn=>Az.okn<|z8.2 n hn);have q5:=Qa fun v W (hW:J6 W v (Q8 L ns))(hB:Yt W)=>Kr v (Q8 L ns) s.dev.cap W hW hB ox (yx o.dev.c2) x0.rm x0.rise x0.few x0.ext;have y8:=Qa<|h8.kept HK.o;have p8:=Qa (x3.o.kZ HK.o).1;have E1:=Qa e1;clear h8 h9 h5 o hL hc h4 z8 x0 e1 p3 p5 p6 r4 y3 x2;go_wp2_with (first
   |(go_fit p7.o;rintro e w4⟨v4,rfl,p2,k4,q9⟩;have r3:=y8.o.kept k4;have q8:=p8.o.kept k4 sx)
   |(go_fit(p9.o (n2+n3) w4 ox r3);rintro e w5⟨rfl,e5⟩;replace e5:=e5.symm;subst e5)
   |(go_fit(q5.o v4 w4 p2.memA q8);rintro e w5⟨rfl,k5⟩))
  go_roundg (m-(i+1))
  ·exact⟨i+1,ox,rfl,by go_num,Qa (by rw[E1.o];exact⟨p2.kept k5<|Zy _,fun y hy=>QS y8.o.2.size<|q9 y hy⟩),Qa<|(HK.o.trans k4 sx).trans k5 sx⟩
  omega
 obtain rfl:i=m:=ox
 rw[Q5 ox,<-hL.mem]at x4;subst x4;obtain⟨a5,c5,rfl,-⟩:=HX.o.1.memA;have q3:¬(i:Int)<i:=ox
 have q4:((gen:Int)==4611686018427387904)=false:=zx
 have w1:IntKind.i64.wrap ((gen:Int)+1)=(gen:Int)+1:=by rw[Zq];omega
 have R5:=h8.kept HK.o;have r0:∀y∈Q2 d nv pv,y<w.heap.size:=HH.o.lt;have y9:=Qa<|NV (.slice a5 s.mem c5) s.mem (gen+1) d nv pv (s.dev.tick<|n2+n3) wr R5.1 ⟨o.dev.c1,o.dev.c2,o.dev.len,o.dev.sec,by show s.dev.lZ+(n2+n3)<=_;omega⟩ HX.o.1.memA (x3.o.kZ HK.o).1 ox h4.rm h4.rise h4.few h4.ext (Lp h4.ext (yx o.dev.c2)) (by show 10<=s.dev.cap;omega) (by show s.dev.lZ+(n2+n3)+6<=_;omega);rw[show((gen+1:Nat):Int)=gen+1 by push_cast;rfl]at y9;have x8:=Qa<|Qr R5 r0;clear h8 h9 h5 o hL hc h4 R5;go_wp2_with (go_fit y9.o;rintro e w5⟨rfl,r2⟩);go_ret2;obtain⟨y5,y6,k1,k2,k3⟩:=r2;have hS:=k2.size;have r6:=x8.o.1.2.size;have y1:=HX.o.2;have z7:=HX.o.1;have z6:=z7.lt;have y2:=(Qc [] w5).alloc<|.cells #[.pointer d,.int .i64<|(gen:Int)+1,(0:Int),.slice a5 s.mem c5,.bool false] 76;have hap:Qq (Qd<|.slice a5 s.mem c5) (Q2 d nv pv):=fun y hy hm=>by have:=x8.o.2 y hm;have:=y1 y hy;omega
 have z1:∀x∈Q2 d y5 y6,x∈Q2 d nv pv\/w.heap.size<=x:=fun x q=>(k3 x q).imp id (fun h=>ox)
 have b2:10<=w.heap.size:=yx (HH.o.lt d sx)
 have x1:∀x∈Q2 d y5 y6,10<=x:=fun x q=>(z1 x q).elim (HW.o x) (fun h=>ox)
 have e5:(((s.dev.tick<|n2+n3).wr ((gen+1)%2*5)<|Yp (gen+1) s.mem).tick 1)=(s.more<|n2+n3).save.dev:=by rw[<-y7.o];rfl
 rw[e5]at k1;refine⟨n2+n3,w5.heap.size,y5,y6,_,ox,rfl,⟨⟨?_,k1.kZ y2,(z7.kept k2 hap).kept y2<|Zy _,fun hm=>absurd (k1.lt _ hm)<|CE _,fun hm=>?_,fun y hy hm=>?_⟩,((x3.o.kZ HK.o).kept k2 HW.o).kZ y2,fun x q=>?_⟩,?_,fun x q=>?_⟩
 ·have A:=Qx w5 [.pointer d,.int .i64<|(gen:Int)+1,(0:Int),.slice a5 s.mem c5,.bool false] 76;have e6:(((s.more<|n2+n3).save.gen:Nat):Int)=(gen:Int)+1:=by rw[<-y7.o];rfl
  rw[e6];exact A
 ·have:=z6 _ hm;omega
 ·rcases k3 y hm with h1|h1
  ·exact hap y hy h1
  have:=z6 y hy;omega
 ·simp only[QN,QD,Q4]at q;rcases q with rfl|q|q
  ·omega
  ·have:=y1 x q;omega
  exact x1 x (by simpa[Q2]using q)
 ·exact((x8.o.1.2.mono sx).trans k2 fun x q=>.inl q).alloc _
 simp only[QN,QD,Q4]at q;rcases q with rfl|q|q
 ·exact .inr ox
 ·exact .inr<|y1 x q
 exact z1 x (by simpa[Q2]using q)
