import Derived.Test.YtickjpnkoppmgaaGreatDoorBh
import Derived.Test.YtickjpnkoppmgaaGreatDoorBi
import Derived.Test.YtickjpnkoppmgaaGreatDoorBc
set_option linter.all false
set_option maxHeartbeats 1000000
set_option maxRecDepth 20000
namespace Go.Proofs.YtickjpnkoppmgaaGreatDoor
open Go.Proofs.Tryz Go.RowKit K Go.Shelf Go.Sort
def K.LW(gen:Nat):∀(n i:Nat)(c:LU)(k:Nat),k<n->(UU gen n i c)[k]?=some (Yn 4 gen (i+k)<|(c.drop<|486*k).take 486)
 |0,_,_,_,h=>by omega
 |n+1,i,c,0,_=>by simp[UU]
 |n+1,i,c,k+1,h=>by rw[UU,Ru,LW gen n (i+1) (c.drop 486) k ox,Aq,show i+1+k=i+(k+1)by omega,show 486+486*k=486*(k+1)by omega]
def Ce{α:Type}(f:α->VL)(z:VL)(A:List α)(i:Nat):LV:=(A.take i).map f++List.replicate (A.length-i) z
def zM{α}(f:α->VL)(z){A i}{a:α}(h:A[i]?=some a):(Ce f z A i).set i (f a)=Ce f z A (i+1):=by have:=(Qy.1 h).1;unfold Ce;rw[V2 _ _ zx,QH,Zd,(ox:i-min i A.length=0),Zh,h,XC,(ox:A.length-i=(A.length-(i+1))+1),JB,Vp];simp
def zL{α}(f:α->VL)(z A):Ce f z A A.length=A.map f:=by simp[Ce]
def sV(L:LY)(w:WD)(e:Ending)(w':WD):Prop:=∃c,e=.returned (.tuple #[c,(0:Int)])/\Qh w' 9 c (strs L)/\Qb [] w w'/\∀d∈Qd c,w.heap.size<=d
def Lj(m)(h:m.path.length<=120):(Xi m).length<=131:=by simp only[Xi,Qo,U7];omega
def bA(v l)(gen:Nat)(w)(h:J6 w v l)(hB:Yt w)(hg:gen<=4611686018427387904)(h4:∀m∈l,UH m)(y:Uv l)(hl:l.length<=16)(o:ZZ 4096 (l.map fun m=>(m.start,m.eZ))=true):
 Calls prog 73 #[gen,v] w (sV (Yp gen l) w):=by
 have x0:=Qa<|Kr v l 4096 w h hB dx dx h4 y hl o;obtain⟨a1,c1,rfl,y1,p0⟩:=h;have⟨y9,x3⟩:=qb y1 h4;have⟨n,h8⟩:=qx l.length;rw[h8]at hl x0 ⊢;have HN:=Qa h8;have x9:∀i,((l.take i).flatMap Xi).length<=131*i:=fun i=>by
  induction i with
  |zero=>simp
  |succ i ih=>
   rw[Zh];cases hi:l[i]? with
   |none=>simp only[Option.toList_none,XX];omega
   |some m=>have:=Lj m (XU (h4 m<|QB hi).ok).2.2;simp only[EL,Mz,Qo,Jd,List.flatMap_nil,XX];omega
 have x2:=Qa x9;obtain⟨g1,g2⟩: ¬(gen:Int)<0/\¬(4611686018427387904:Int)<gen:=ox
 have HG:=Qa hg;clear y1 p0 h4 y o hB h8 x9 hg;go_enter func73,ntmps73;go_wp2_with (go_at_call 37;with_reducible refine x0.o.mono ?_;rintro e w1⟨rfl,x6⟩);have h5:=Qa x6;clear x6;obtain⟨w0,p7⟩:∃w0,w0=w:=⟨_,rfl⟩
 go_loopg [28] n (fun k p2 wr=>(∃i:Nat,i<=n/\k=n-i/\p2=.int .i64 (i:Nat)/\Hid (YD w1 w1.heap.size ((l.take i).flatMap Xi) wr)))
 ·exact⟨0,ox,rfl,rfl,Qa<|YD.new w1⟩
 obtain⟨i,hi,hk,rfl,HB⟩:=hrel
 by_cases hlt:i<n
 ·have g0:(i:Int)<n:=ox
  have⟨m,hm⟩:=qy l i (yx HN.o);have y2:=(y9.o.kZ h5.o).kZ HB.o.2;obtain⟨g,off,rfl,c0,e1,e2,e3,e4⟩:=RA y2 hm;have y7:=Qa (show ∀W,Calls prog 108 #[.agg #[.string<|str m.path,.int .i64 m.start,.int .i64 m.eZ,.int .i64 m.size,.int .u32 m.sum]] W (RK (.tuple #[.string<|str<|Xi m,(0:Int)]) W) from fun W=>lB m W<|x3.o m<|QB hm);have z8:=Lj m (XU (x3.o m<|QB hm).ok).2.2;have h2:=x2.o i;have HT:=Qa (show(l.take<|i+1).flatMap Xi=(l.take i).flatMap Xi++Xi m by rw[Zh,hm];simp);have HW:=Qa fun W (hk:Qb [] wr W)=>(HB.o.kept hk).write (str<|Xi m) (by have:(str<|Xi m).size=(Xi m).length:=rfl;omega);have z6:=(Qc [] wr).alloc<|.cells #[.string<|str m.path,.int .i64 m.start,.int .i64 m.eZ,.int .i64 m.size,.int .u32 m.sum] 69;clear hm y2 z8 h2;go_wp2_with (first
   |(go_at_call 108;with_reducible refine(y7.o _).mono ?_;rintro e w2⟨rfl,h1⟩)
   |(go_fit(HW.o _<|z6.trans h1 sx);rintro e w3⟨rfl,z1⟩))
  go_roundg (n-(i+1))
  ·exact⟨i+1,ox,rfl,by go_num,Qa<|by rwa[HT.o]⟩
  omega
 obtain rfl:i=n:=ox
 have g0:¬(i:Int)<i:=ox
 have h2:=x2.o i;rw[Q5 (by rw[HN.o];exact Qk _)]at h2;have⟨B,h3⟩:=qx<|l.flatMap Xi;have HS:=Qa (show YD w1 w1.heap.size B wr by have:=HB.o;rwa[Q5 (by rw[HN.o];exact Qk _),h3]at this).str;rw[h3]at h2;have HE:=Qa (by unfold Yp;rw[h3]:Yp gen l=UU gen 5 0 B);have y4:=Qa (ox:B.length<=131*16);clear h3 HB h2;go_wp2_with (first
  |(go_at_call 60;with_reducible refine HS.o.mono ?_;rintro e w2⟨rfl,h1⟩)
  |(at_make;refine Jp rfl _ _ 60 rfl 9 ("") 16 CL CK rfl .i64 .i64 _ _ 5 5 rfl rfl rfl rfl (Qk _) dx dx ?_;intro w3 y0 x7))
 have⟨y5,y6,HF⟩:=qc ((h5.o.trans h1 sx).trans x7 sx) (show Qh w3 9 (.slice w2.heap.size 5 5) (Ce (fun x=>.string<|str x) ("") (UU gen 5 0 B) 0)from y0)<|show w.heap.size<=w2.heap.size from QS h5.o.size h1.size;clear y0 x7 h1
 go_loopg [11,42] 5 (fun k p1 p3 wr=>(∃i:Nat,i<=5/\k=5-i/\p3=.int .i64 (i:Nat)/\p1=.string (str<|B.drop<|486*i)/\Hid (Qh wr 9 (.slice w2.heap.size 5 5)<|Ce (fun x=>.string<|str x) ("") (UU gen 5 0 B) i))/\Hid (Qb [] w wr))
 ·exact⟨⟨0,ox,rfl,rfl,rfl,y6⟩,y5⟩
 obtain⟨⟨j,hj,p5,rfl,rfl,HR⟩,x1⟩:=hrel
 by_cases z7:j<5
 ·have g3:(j:Int)<5:=ox
  have⟨L,hL⟩:=qx<|B.drop<|486*j;have p4:L.length<=2200:=by rw[<-hL,YN];have:=y4.o;omega
  have⟨q,hq⟩:=qx<|min L.length 486;have p6:(str L).size=L.length:=rfl;have g4:min (L.length:Int) 486=(q:Int):=ox
  have s1:=BH (str L) q (q:Int) ox rfl;have s2:=Ee (str L) q (q:Int) ox rfl;have t1:L.take q=L.take 486:=by
   rcases Xw L.length 486 with h|h
   ·rw[Q5 ox,Q5 ox]
   rw[(ox:q=486)]
  have t2:L.drop q=B.drop (486*(j+1)):=by
   rw[(ox:486*(j+1)=486*j+486),<-Aq,hL];rcases Xw L.length 486 with h|h
   ·rw[Jq ox,Jq ox]
   rw[(ox:q=486)]
  rw[JS (str L) 0 q ox,VJ,Aw,show(str L).data.toList=L from rfl,t1]at s1;rw[JS (str L) q _<|Qk _,show(str L).data.toList=L from rfl,t2,Q5 (by rw[<-t2,YN];exact Qk _)]at s2;have o:=LW gen 5 0 B j z7;rw[hL,Zu]at o;have x4:=Qa (show ∀W,Calls prog 102 #[.int .u8 4,gen,j,.string<|str<|L.take 486] W (RK (.tuple #[.string<|str<|Yn 4 gen j<|L.take 486,(0:Int)]) W) from fun W=>LA 4 gen j (L.take 486) W dx HG.o ox (by rw[Zd];omega));have⟨x,y3⟩:=qx<|Yn 4 gen j<|L.take 486;rw[y3]at o x4;have HX:=Qa o;obtain⟨u,hu⟩:∃u,(Ce (fun x=>.string<|str x) ("") (UU gen 5 0 B) j)[j]?=some u:=⟨_,Qj (yx HR.o.len)⟩;have HU:=Qa hu;clear t1 t2 o y3 hu;rw[hL];go_wp2_with (go_at_call 102;with_reducible refine(x4.o _).mono ?_;rintro e w5⟨rfl,x8⟩;have h9:=HR.o.kept x8 sx;have c5:=h9.aZ HU.o;have f5:=h9.free j)
  go_roundg (5-(j+1))
  ·have hp:=h9.put j<|.string<|str x;rw[zM (fun x=>.string<|str x) ("") HX.o]at hp;exact⟨⟨j+1,ox,rfl,by go_num,rfl,Qa hp⟩,Qa<|(x1.o.trans x8 sx).setCell (p:=⟨w2.heap.size,j,none⟩) (.inr HF.o) _⟩
  omega
 obtain rfl:j=5:=ox
 have g3:¬((5:Nat):Int)<5:=ox
 have y:=HR.o;have x5:Ce (fun x=>.string<|str x) ("") (UU gen 5 0 B) 5=strs (Yp gen l):=by rw[HE.o];have h:=zL (fun x=>Value.string<|str x) ("")<|UU gen 5 0 B;rw[show(UU gen 5 0 B).length=5 by simp[UU]]at h;exact h
 rw[x5]at y;have y8:=Qa y;clear y x5
 go_wp2
 go_ret2;exact⟨_,rfl,y8.o,x1.o,by simpa[Qd,qo]using HF.o⟩
section
section
variable {d:Nat} {nv pv:VL} {s s':QG} {w w1:WD}
def Zf.refl(h:Dk w d nv pv s):Zf w d nv pv s w:=⟨nv,pv,h,Qc _ _,QQ.refl _ _⟩
def Zf.kept(h:Zf w d nv pv s w1){c}(k:Qb [] w1 c):Zf w d nv pv s c:=by obtain⟨i,j,c,e,g⟩:=h;exact⟨i,j,c.kZ k,e.trans k sx,g⟩
def Zf.on(h:Zf w d nv pv s w1){f:FuncId}{args v}(m:∀c g,Dk w1 d c g s->Calls prog f args w1 fun e w'=>e=.returned v/\Zf w1 d c g s' w'):
 Calls prog f args w1 fun e w'=>e=.returned v/\Zf w d nv pv s' w':=by
 obtain⟨c,g,l,i,j⟩:=h;go_fit(m c g l);rintro e w'⟨g,l,m,g1,c,g3⟩;exact⟨g,l,m,g1,i.trans c (fun g c=>by
  rcases j g c with h|h
  ·exact .inl h
  exact .inr h),j.trans g3 i.size⟩
def KC{L:LY}{i0 k}(h:Zf w d nv pv (s.wr i0<|L.take k) w1){x}(hs:s.Ok)(c:L[k]?=some x)(g:∀x∈L,x.length=512)(hi:i0+L.length<=s.cap)(j:s.lZ+L.length<=1000000000):
 Calls prog 74 #[.pointer d,((i0+k:Nat):Int),.string<|str x] w1 fun e w'=>e=.returned (0:Int)/\Zf w d nv pv (s.wr i0<|L.take<|k+1) w':=by
 have hk:=(Qy.1 c).1;have j:=QG.Ok.wrL hs (i:=i0) (L:=L.take k) (by rw[Zd];omega) (fun m l=>g m<|Rv l) 0 (by rw[Zd];omega);have e:(s.wr i0<|L.take k).tick 0=s.wr i0 (L.take k):=rfl;rw[e]at j;refine h.on fun l l l=>?_
 have:=Qlr l j (i0+k) x (by show i0+k<s.cap;omega)<|g x<|QB c;have g:({s.wr i0 (L.take k)with img:=JM (s.wr i0<|L.take k).img (i0+k) x,lZ:=(s.wr i0<|L.take k).lZ+1}:QG)=s.wr i0 (L.take<|k+1):=by unfold QG.wr;rw[Zh,c];simp only[EL,pB,Qo,QW,YE,Zd,(ox:min k L=k)];simp only[Y7]
 rwa[g]at this
def KE(h:Zf w d nv pv s w1)(hs:s.Ok):Calls prog 75 #[.pointer d] w1 fun e w'=>e=.returned (0:Int)/\Zf w d nv pv (s.tick 1) w':=
 h.on fun c c c=>nG c hs
end
def NV(v l)(gen d:Nat)(u x s w)(c:Dk w d u x s)(hs:s.Ok)(h:J6 w v l)(y:Yt w)(C:gen<=4611686018427387904)(p:∀m∈l,UH m)(z:Uv l)(i:l.length<=16)(j:ZZ s.cap (l.map fun m=>(m.start,m.eZ))=true)(F:ZZ 4096 (l.map fun m=>(m.start,m.eZ))=true)(g:10<=s.cap)(t:s.lZ+6<=1000000000):
 Calls prog 38 #[.pointer d,gen,v] w fun e w'=>e=.returned (0:Int)/\Zf w d u x ((s.wr (gen%2*5)<|Yp gen l).tick 1) w':=by
 have⟨D,B,J⟩:=qc (fun g hk=>Rg (w:=g) (c.kZ hk) hs) (bA v l gen w h y C p z i F) fun g hk=>Kr v l s.cap g (h.kZ hk) (y.kept hk sx) ox (yx hs.c2) p z i j;have g:¬((s.cap:Nat):Int)=0:=ox
 have g1:((s.cap:Int)==0)=false:=Ze.2 g;have⟨i,o⟩:=qx<|Yp gen l;have q:i.length=5:=by rw[<-o];exact Un gen l
 have n:∀g∈i,g.length=512:=by rw[<-o];exact Sg gen l
 rw[o]at B ⊢;have⟨i0,E⟩:=qx<|gen%2*5;have:((gen:Int).tmod 2)*5=(i0:Int):=by rw[BQ ox];omega
 obtain⟨_,_⟩:((gen:Int)%2)*5=(i0:Int)/\i0<=5:=ox
 rw[E];have M:=Qa c;have A:=Qa<|Qr hs<|Qr t<|Qr q n;have hlt:=c.lt;go_enter func38,ntmps38;go_wp2_with (first
  |(go_at_call 14;with_reducible refine(D.o _<|Qc _ _).mono ?_;rintro e C⟨rfl,rfl⟩))
 go_fit B.o;rintro e C⟨c,rfl,I,H,E⟩;have y:=H;obtain⟨c,c1,rfl,-,-,z,F⟩:=I.sees;rw[UF,A.o.2.2.1]at z ⊢;obtain⟨o,off,rfl,B⟩:=z.at (by rw[UF,A.o.2.2.1];decide);have G:o∉Q2 d u x:=fun c=>by have:=hlt o c;have:=E o (by rw[<-F];simp[fZ]);omega
 have L:=Qa (show ∀c g,i[c]?=some g->C.cell? ⟨o,off+c,none⟩=some (.string<|str g)from fun c g j=>B c _<|Fz j);have O:=Qa G;go_wp2_with (first
  |(go_at_call 14;with_reducible refine(D.o _ y).mono ?_;rintro e E⟨rfl,rfl⟩)
  |(go_at_call 37;with_reducible refine(J.o _ y).mono ?_;rintro e z⟨rfl,B⟩))
 have⟨D,E⟩:=qb (y.trans B sx) (show ∀c g,i[c]?=some g->z.cell? ⟨o,off+c,none⟩=some (.string<|str g)from fun c g j=>B.cZ (L.o c g j) sx);have F:=Qa<|show Zf z d u x (s.wr i0<|i.take 0) z from Zf.refl (M.o.kZ D.o)
 go_loopg [34] 5 (fun k y wr=>(∃c:Nat,c<=5/\k=5-c/\y=.int .i64 (c:Nat)/\Hid (Zf z d u x (s.wr i0<|i.take c) wr)))
 ·exact⟨0,ox,rfl,rfl,F⟩
 obtain⟨c,hi,hk,rfl,u⟩:=hrel;obtain⟨hs,t,q,n⟩:=A.o
 by_cases hlt:c<5
 ·have g3:(c:Int)<5:=ox
  have⟨g,j⟩:=qy i c ox;have cx:wr.cell? ⟨o,off+c,none⟩=some (.string<|str g):=by obtain⟨o,o,-,o,-⟩:=u.o;exact o.cZ (E.o c g j) O.o
  have o:=Qa (KC u.o hs j n ox ox);rw[show((i0+c:Nat):Int)=i0+(c:Int)by push_cast;rfl]at o;have C:IntKind.i64.wrap ((i0:Int)+c)=(i0:Int)+c:=by rw[Zq];omega
  go_wp2_with (go_fit o.o;rintro e j⟨rfl,g⟩)
  go_roundg (5-(c+1))
  ·exact⟨c+1,ox,rfl,by go_num,Qa g⟩
  omega
 obtain rfl:c=5:=ox
 have g3:¬((5:Nat):Int)<5:=ox
 have hp:=u.o;rw[Q5 ox]at hp;have p:=QG.Ok.wrL hs (i:=i0) (L:=i) ox n 0 ox;have c:=Qa<|KE hp p;go_wp2_with (go_fit c.o;rintro e j⟨rfl,g⟩);go_ret;exact⟨rfl,g.from D.o⟩
end
def kindI(n:Note):Int:=if n.1 then 1 else 2
def De(n:Note):VL:=.agg #[.int .i64 (kindI n),str n.2.path,n.2.start,n.2.eZ,n.2.size,.int .u32 n.2.sum]
def Zs(n:Note):LV:=.int .i64 (kindI n)::Q9 n.2
def Ax(n:Note):Prop:=n.1=true/\UH n.2\/n.1=false/\Xr n.2.path=true/\n.2=⟨n.2.path,0,0,0,0⟩
def zA(p:BA)(w):(binOp .eql 69 (.agg #[p,(0:Int),(0:Int),(0:Int),.int .u32 0])<|.agg #[p,(0:Int),(0:Int),(0:Int),.int .u32 0]).run prog w=.ok (.bool true) w:=by rw[run_eql_struct,run_equalIn_agg _ _ _ _ _ kx kx];simp[Program.fieldsOf,underlying69,Op.eqFields,go_sem,part,Vv,Yw,Gl]
def Qlc(n w)(h:Ax n):Calls prog 127 #[De n] w (RK (.tuple #[str<|VC n,.bool true]) w):=by
 obtain⟨b,m⟩:=n;rcases h with⟨y,o⟩|⟨y,o,h3⟩
 ·have y:b=true:=y;subst y;have HM:=Qa fun W=>lB m W o;unfold Vg at HM;unfold De kindI;simp only[Cg];have HP:=Qa<|show VC (true,m)=Xi m from rfl;clear o;go_enter func127,ntmps127;go_wp2_with (go_fit(HM.o _);rintro e w2⟨rfl,h5⟩);go_ret2;exact⟨by rw[HP.o];rfl,((Qc [] w).alloc _).trans h5 sx⟩
 have y:b=false:=y;subst y;have⟨p,hp⟩:=qx m.path;simp only at o h3;rw[hp]at o h3;subst h3;have HC:=Qa fun W=>CP (str p) W (by have:=(XU o).2.2;show p.length<=_;omega);rw[show X1 (str p).data.toList=0 by unfold X1;rw[show Xr (str p).data.toList=true from o];rfl]at HC;unfold De kindI;simp only[Hz,CX];have HP:=Qa<|show VC (false,⟨p,0,0,0,0⟩)=p from rfl;have h4:=zA<|str p;clear o hp;go_enter func127,ntmps127;go_wp2_with fail;have⟨W,hW⟩:=qx<|w.alloc<|.cells #[(2:Int),.string<|str p,(0:Int),(0:Int),(0:Int),.int .u32 0] 104;have A:=Qx w [(2:Int),.string<|str p,(0:Int),(0:Int),(0:Int),.int .u32 0] 104;have hk:=(Qc [] w).alloc<|.cells #[(2:Int),.string<|str p,(0:Int),(0:Int),(0:Int),.int .u32 0] 104;have⟨b,hb⟩:=qx w.heap.size;change Qe (w.alloc<|.cells #[(2:Int),.string<|str p,(0:Int),(0:Int),(0:Int),.int .u32 0] 104) _ _ _ at A;rw[hW]at A hk ⊢;rw[hb]at A ⊢;have H0:=fun w' (hk:Qb [] W w')=>hk.cZ (A.cq 1 (u:=.string<|str p)) sx
 have H1:=fun w' (hk:Qb [] W w')=>hk.cZ (A.cq 2 (u:=.int .i64 0)) sx
 have H2:=fun w' (hk:Qb [] W w')=>hk.cZ (A.cq 3 (u:=.int .i64 0)) sx
 have H3:=fun w' (hk:Qb [] W w')=>hk.cZ (A.cq 4 (u:=.int .i64 0)) sx
 have H4:=fun w' (hk:Qb [] W w')=>hk.cZ (A.cq 5 (u:=.int .u32 0)) sx
 refine Mh W kx kx (Qc _ _) ?_
 repeat
  first
   |go_big_quiet_skip
   |(go_big_quiet_want
     go_big_quiet_op
     first
      |go_big_quiet_on
      |(apply Exists.intro
        refine⟨fun wq q=>?_,?_⟩
        ·first
          |with_reducible rfl
          |(go_at_call 17;exact Calls.keptK q<|HC.o wq)
          |(simp only[h4];exact⟨rfl,rfl⟩)
          |(simp only[H0 wq q,H1 wq q,H2 wq q,H3 wq q,H4 wq q,Ua];exact⟨trivial,rfl⟩)
        go_big_quiet_on))
 refine wpQuiet_nil ?_;intro wq q
 go_wp2
 go_ret2;exact⟨rfl,hk.trans q sx⟩
def yT:∀x,(Zs x).length=6:=fun _=>rfl
def cN{w a n l}(h:Qp w 6 a n (Qs Zs l)){i x}(c:l[i]?=some x):
 ∃g off,a=some ⟨g,off,none⟩/\∀j u,(Zs x)[j]?=some u->w.cell? ⟨g,off+i*6+j,none⟩=some u:=by
 have e:∀j u,(Zs x)[j]?=some u->(Qs Zs l)[i*6+j]?=some u:=fun j u d=>by rw[Vy yT l i j x c (by have:=(Qy.1 d).1;exact this),d]
 obtain⟨g,off,c,c0⟩:=h.2 _ _<|e 0 (.int .i64<|kindI x) rfl;subst c;refine⟨g,off,rfl,fun j u d=>?_⟩;obtain⟨c,c,c,m⟩:=h.2 _ _<|e j u d;injection c with c;injection c with c e3;subst c e3;rwa[Y7]
def K.PM(gen:Nat):∀(ns:List Note)(i k:Nat)(n:Note),ns[k]?=some n->(Jz gen i ns)[k]?=some (Yn (if n.1 then 1 else 2) gen (i+k)<|VC n)
 | [],_,_,_,h=>by simp at h
 |m::ns,i,0,n,h=>by simp at h;subst h;simp[Jz]
 |m::ns,i,k+1,n,h=>by rw[Jz,Ru,PM gen ns (i+1) k n<|by simpa using h,show i+1+k=i+(k+1)by omega]
def iW{n}(h:Ax n):(VC n).length<=131:=by
 refine Pg ?_;rcases h with⟨-,h⟩|⟨-,h,-⟩
 ·exact(XU h.ok).2.2
 exact(XU h).2.2
def Qlb(g off cc ns)(gen nx d:Nat)(J L s w)(t:Dk w d J L s)(hs:s.Ok)(h:Qp w 6 (some ⟨g,off,none⟩) ns.length (Qs Zs ns))(x:gen<=4611686018427387904)(C:∀n∈ns,Ax n)(h4:1<=ns.length)(p:ns.length+nx+1<=20)(c:30<=s.cap)(B:s.lZ+30<=1000000000):
 Calls prog 88 #[.pointer d,gen,nx,.slice (some ⟨g,off,none⟩) ns.length cc] w fun e w'=>e=.returned (.tuple #[((nx+ns.length+1:Nat):Int),(0:Int)])/\Zf w d J L ((s.wr (10+nx)<|JV gen nx ns).tick 1) w':=by
 have z:=Qa<|Rg t hs;have⟨n,m⟩:=qx ns.length;have c:¬((s.cap:Nat):Int)=0:=ox
 have g1:((s.cap:Int)==0)=false:=Ze.2 c;have⟨o,c⟩:=qx<|JV gen nx ns;have A:o=n+1:=by rw[<-c,RI,m]
 have q:∀j∈o,j.length=512:=by
  rw[<-c];exact kP gen nx fun i y=>by
   rcases C i y with⟨-,h⟩|⟨-,h,-⟩
   ·exact(XU h.ok).2.2
   exact(XU h).2.2
 have v:o=Jz gen nx ns++[Yn 3 gen (nx+n) [UInt8.ofNat n]]:=by rw[<-c,JV,m]
 have D:(Jz gen nx ns).length=n:=by rw[Fv,m]
 rw[m]at h h4 p ⊢;rw[c];have⟨I,h1,W,F,H⟩:=qe m t (Qr hs<|Qr B<|Qr A<|Qr q<|Qr v D) C h;have hlt:=t.lt;have h2:=Qa hlt;obtain⟨_,q2,l⟩: ¬(nx:Int)<0/\¬(20:Int)<nx/\¬(n:Int)=0:=ox
 have:((n:Int)==0)=false:=Ze.2 l;have:¬(20:Int)-nx<=(n:Int):=ox
 have U:=Qa x;have E:=Qa (show ∀l,Calls prog 65 #[gen] l fun e w'=>e=.returned (.bool true)/\w'=l from fun l=>by
  obtain⟨_,_⟩:(0:Int)<=gen/\(gen:Int)<=4611686018427387904:=ox
  clear t hs h C x q v c hlt h1 W F H h2 z;go_enter func65,ntmps65
  go_wp2
  go_ret;exact⟨rfl,rfl⟩)
 clear t hs h C x B A q v D c m hlt;go_enter func88,ntmps88;go_wp2_with (first
  |(go_at_call 14;with_reducible refine z.o.mono ?_;rintro e w⟨rfl,rfl⟩)
  |(go_fit(E.o _);rintro e w⟨rfl,rfl⟩))
 go_loopg [10,51] n (fun k m t wr=>(∃(c:Nat)(E:VL),c<=n/\k=n-c/\E=m/\t=.int .i64 (c:Nat)/\Hid (Qh wr 9 E<|strs<|(Jz gen nx ns).take c)/\Hid (∀j∈Qd E,w.heap.size<=j))/\Hid (Qb [] w wr))
 ·exact⟨⟨0,_,ox,ox,rfl,rfl,Qa<|Qh.nil _ _,Qa<|by simp[Qd,qo]⟩,Qa<|Qc _ _⟩
 obtain⟨⟨c,E,hi,hk,rfl,rfl,V,M⟩,G⟩:=hrel
 by_cases hlt:c<n
 ·have x1:(c:Int)<n:=ox
  have⟨i,y⟩:=qy ns c (yx I.o);have x:=F.o i<|QB y;obtain⟨m,m,m,t⟩:=cN (H.o.kZ G.o) y;injection m with m;injection m with m ee2;subst m ee2;obtain⟨m,k1,k2,k3⟩:∃m:UInt8,kindI i=(m.toNat:Int)/\m≠0/\(if i.1 then(1:UInt8)else 2)=m:=by
   unfold kindI;cases i.1
   ·exact⟨2,rfl,dx,rfl⟩
   exact⟨1,rfl,dx,rfl⟩
  have:m.toNat<256:=m.toNat_lt;have c0:=t 0 (m.toNat:Int) (by simp[Zs,k1]);have c1:=t 1 (.string<|str i.2.path) rfl;have c2:=t 2 (.int .i64 i.2.start) rfl;have c3:=t 3 (.int .i64 i.2.eZ) rfl;have:=t 4 (.int .i64 i.2.size) rfl;have h3:=t 5 (.int .u32 i.2.sum) rfl;rw[Jt]at c0;have t:=fun l=>Qlc i l x
  unfold De at t;rw[k1]at t;have h9:=Qa t;have z:=fun l=>LA m gen (nx+c) (VC i) l k2 U.o ox (yx (iW x))
  rw[show((nx+c:Nat):Int)=nx+(c:Int)by push_cast;rfl]at z;have O:=Qa z;have⟨j,p⟩:=qx<|Yn m gen (nx+c)<|VC i;rw[p]at O;have x:=PM gen ns nx c i y;rw[k3,p]at x;have x0:=Qa (by rw[Zh,x];simp[strs]:strs ((Jz gen nx ns).take<|c+1)=strs ((Jz gen nx ns).take c)++[.string<|str j]);have:IntKind.u8.wrap (m.toNat:Int)=m.toNat:=by rw[Cz];omega
  have x2:IntKind.i64.wrap ((nx:Int)+c)=(nx:Int)+c:=by rw[Zq];omega
  have H:(strs<|(Jz gen nx ns).take c).length<=100:=by rw[UF,Zd];omega
  have X:(strs<|(Jz gen nx ns).take c).length+1<=maxLen:=by simp only[maxLen];omega
  have Y:((strs<|(Jz gen nx ns).take c).length+1)*16<=140737488355328:=ox
  have F:=Qx wr [(m.toNat:Int),.string<|str i.2.path,.int .i64 i.2.start,.int .i64 i.2.eZ,.int .i64 i.2.size,.int .u32 i.2.sum] 104;have h5:=Qa F;have I:=(Qc [] wr).alloc<|.cells #[(m.toNat:Int),.string<|str i.2.path,.int .i64 i.2.start,.int .i64 i.2.eZ,.int .i64 i.2.size,.int .u32 i.2.sum] 104;have h8:=Qa I;clear t z p x I F H k1 k2 k3 y;go_wp2_with (first
   |(go_at_call 127;with_reducible refine(h9.o _).mono ?_;rintro e x4⟨rfl,i⟩;have t:=h5.o.kept i sx;have:=t.cell (i:=0) (u:=.int .i64 (m.toNat:Int)) rfl)
   |(go_at_call 102;with_reducible refine(O.o _).mono ?_;rintro e Z⟨rfl,R⟩;have x:=(h8.o.trans i sx).trans R sx;have T:=V.o.kept x sx)
   |(at_builtin;refine Dt Z rfl _ _ 60 rfl 9 ("") 16 CL CK rfl E (.string<|str j) (strs<|(Jz gen nx ns).take c) rfl rfl rfl rfl T X Y ?_;intro H h3 F S Q P))
  go_roundg (n-(c+1))
  ·refine⟨⟨c+1,_,ox,rfl,rfl,by go_num,Qa ?_,Qa ?_⟩,Qa<|(G.o.trans x sx).trans Q fun t m=>.inr<|M.o t m⟩
   ·rw[x0.o];exact S
   intro t m;simp[Qd,qo]at m;subst m;rcases P with h|h
   ·exact M.o _ h
   have:=G.o.size;have:=x.size;omega
  omega
 obtain rfl:c=n:=ox
 have x1:¬(c:Int)<c:=ox
 obtain⟨hs,B,A,q,v,D⟩:=W.o;obtain⟨i,h8,h9⟩:∃i:UInt8,(i.toNat:Int)=c/\UInt8.ofNat c=i:=⟨UInt8.ofNat c,by rw[U6,XH ox],rfl⟩;have:IntKind.u8.wrap (c:Int)=(i.toNat:Int):=by rw[Cz];omega
 have x2:IntKind.i64.wrap ((nx:Int)+c)=(nx:Int)+c:=by rw[Zq];omega
 have x2:=fun l=>CN l i
 have z:=fun l=>LA 3 gen (nx+c) [i] l dx U.o ox sx
 rw[show((nx+c:Nat):Int)=nx+(c:Int)by push_cast;rfl]at z;have⟨j,p⟩:=qx<|Yn 3 gen (nx+c) [i];rw[p]at z;rw[h9,p]at v;have O:=Qa (show ∀l,Calls prog 102 #[.int .u8 3,gen,.int .i64<|(nx:Int)+c,.string ⟨#[i]⟩] l (RK (.tuple #[.string<|str j,(0:Int)]) l) from z);have⟨l,h5⟩:=qx<|Jz gen nx ns;have U:=V.o;rw[h5]at v D U;rw[Q5 ox]at U;have x1:=Qa U;have:(strs l).length=c:=by rw[UF,D]
 have X:(strs l).length+1<=maxLen:=by simp only[maxLen];omega
 have Y:((strs l).length+1)*16<=140737488355328:=ox
 have x0:=Qa (by rw[v];simp[strs]:strs o=strs l++[.string<|str j]);have I:=(Qc [] wr).alloc<|.cells #[.int .u8 (i.toNat:Int)] 5;have:=Qa h8;clear hs B A q v D h9 z p h5 U V h8;go_wp2_with (first
  |(go_at_call 102;with_reducible refine(O.o _).mono ?_;rintro e Z⟨rfl,R⟩;have x:=I.trans R sx;have T:=x1.o.kept x sx)
  |(at_builtin;refine Dt Z rfl _ _ 60 rfl 9 ("") 16 CL CK rfl E (.string<|str j) (strs l) rfl rfl rfl rfl T X Y ?_;intro H h3 F S Q P))
 have v:=Qa<|(G.o.trans x sx).trans Q fun t m=>.inr<|M.o t m;have l:=Qa (show ∀i j,o[i]?=some j->F.cell? ⟨H,i,none⟩=some (.string<|str j)from fun i j p=>S.aZ (by rw[<-x0.o];exact Fz p));have p:=Qa (show H∉Q2 d J L from fun y=>by
  have h4:=h2.o H y;rcases P with h|h
  ·have:=M.o _ h;omega
  have:=G.o.size;have:=x.size;omega)
 have j:=Qa<|show Zf F d J L (s.wr (10+nx)<|o.take 0) F from Zf.refl (h1.o.kZ v.o);clear S Q P R x T I x2
 go_loopg [99] (c+1) (fun k y x=>(∃i:Nat,i<=c+1/\k=c+1-i/\y=.int .i64 (i:Nat)/\Hid (Zf F d J L (s.wr (10+nx)<|o.take i) x)))
 ·exact⟨0,ox,rfl,rfl,j⟩
 obtain⟨i,j,j,rfl,j⟩:=hrel;obtain⟨hs,B,A,q,-,-⟩:=W.o
 by_cases x:i<c+1
 ·have y:(i:Int)<c+1:=ox
  have⟨t,m⟩:=qy o i ox;have cx:wr.cell? ⟨H,i,none⟩=some (.string<|str t):=by obtain⟨x,x,-,x,-⟩:=j.o;exact x.cZ (l.o i t m) p.o
  have p:=Qa (KC j.o hs m q ox ox);rw[show((10+nx+i:Nat):Int)=10+(nx:Int)+i by push_cast;rfl]at p;have:IntKind.i64.wrap (10+(nx:Int)+i)=10+(nx:Int)+i:=by rw[Zq];omega
  have t:IntKind.i64.wrap (10+(nx:Int))=10+(nx:Int):=by rw[Zq];omega
  clear m hs B A q;go_wp2_with (go_fit p.o;rintro e t⟨rfl,l⟩)
  go_roundg (c+1-(i+1))
  ·exact⟨i+1,ox,rfl,by go_num,Qa l⟩
  omega
 obtain rfl:i=c+1:=ox
 have y:¬((c:Int)+1)<(c:Int)+1:=ox
 have hp:=j.o;rw[Q5 ox]at hp;have C:=QG.Ok.wrL hs (i:=10+nx) (L:=o) ox q 0 ox;have i:=Qa<|KE hp C;have F:IntKind.i64.wrap ((nx:Int)+c+1)=(nx:Int)+c+1:=by rw[Zq];omega
 clear hs B A q hp C;go_wp2_with (go_fit i.o;rintro e t⟨rfl,l⟩);go_ret2;exact⟨rfl,l.from v.o⟩
