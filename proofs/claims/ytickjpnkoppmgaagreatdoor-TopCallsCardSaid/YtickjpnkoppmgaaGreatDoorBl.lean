import Derived.Test.YtickjpnkoppmgaaGreatDoorBj
import Derived.Test.YtickjpnkoppmgaaGreatDoorBk
set_option linter.all false
set_option maxHeartbeats 1000000
set_option maxRecDepth 20000
namespace Go.Proofs.YtickjpnkoppmgaaGreatDoor
open Go.Proofs.Tryz Go.RowKit K Go.Sort
section
open Go.Shelf
def K.iJ(gen:Nat):∀(n i:Nat)(a:List UInt8)(k:Nat),k<n→(Uh gen n i a)[k]?=some (Vf 4 gen (i+k)<|(a.drop<|486*k).take 486)
 |0,_,_,_,h=>by omega
 |n+1,i,a,0,_=>by simp[Uh]
 |n+1,i,a,k+1,h=>by rw[Uh,VL,iJ gen n (i+1) (a.drop 486) k<|by omega,GN,show i+1+k=i+(k+1)by omega,show 486+486*k=486*(k+1)by omega]
def By{α:Type}(f:α→Value)(z:Value)(A:List α)(i:Nat):List Value:=(A.take i).map f++List.replicate (A.length-i) z
def vM{α}(f:α→Value)(z){A i}{a:α}(b:A[i]?=some a):(By f z A i).set i (f a)=By f z A (i+1):=by have:=(Qz.1 b).1;unfold By;rw[Vo _ _ (by simp;omega),QG,Zn,show i-min i A.length=0 by omega,ZE,b,Xh,show A.length-i=(A.length-(i+1))+1 by omega,Y4,UN];simp
def vL{α}(f:α→Value)(z A):By f z A A.length=A.map f:=by simp[By]
def pB(L:List (List UInt8))(w:World)(e:Ending)(w':World):Prop:=∃a,e=.returned (.tuple #[a,(0:Int)])∧Qh w' 9 a (strs L)∧Qb [] w w'∧∀b∈Qd a,w.heap.size≤b
def dL(m)(a:m.path.length≤120):(JL m).length≤131:=by simp only[JL,Qo,Bq];omega
def sM(v l)(gen:Nat)(w)(h:Vq w v l)(hB:YU w)(hg:gen≤4611686018427387904)(h4:∀m∈l,RT m)(y:UR l)(hl:l.length≤16)(o:ZX 4096 (l.map fun m=>(m.start,m.eZ))=true):
 Calls prog 73 #[gen,v] w (pB (UI gen l) w):=by
 have x0:=Qa<|TS v l 4096 w h hB (by decide) (by decide) h4 y hl o;obtain⟨a1,c1,rfl,y1,p0⟩:=h;have⟨y9,x3⟩:=qb y1 h4;have⟨n,h8⟩:=qx l.length;rw[h8]at hl x0 ⊢;have HN:=Qa h8;have x9:∀i,((l.take i).flatMap JL).length≤131*i:=fun i=>by
  induction i with
  |zero=>simp
  |succ i ih=>
   rw[ZE];cases hi:l[i]? with
   |none=>simp only[Option.toList_none,XP];omega
   |some m=>have:=dL m (YI (h4 m<|QC hi).ok).2.2;simp only[Fr,KY,Qo,Ji,List.flatMap_nil,XP];omega
 have x2:=Qa x9;obtain⟨g1,g2⟩: ¬(gen:Int)<0∧¬(4611686018427387904:Int)<gen:=by omega
 have HG:=Qa hg;clear y1 p0 h4 y o hB h8 x9 hg;go_enter func73,ntmps73;go_wp2_with (go_at_call 37;with_reducible refine x0.o.mono ?_;rintro e w1⟨rfl,x6⟩);have h5:=Qa x6;clear x6;obtain⟨w0,p7⟩:∃w0,w0=w:=⟨_,rfl⟩
 go_loopg [28] n (fun k p2 wr=>(∃i:Nat,i≤n∧k=n-i∧p2=.int .i64 (i:Nat)∧Hid (Ye w1 w1.heap.size ((l.take i).flatMap JL) wr)))
 ·exact⟨0,by omega,rfl,rfl,Qa<|Ye.new w1⟩
 obtain⟨i,hi,hk,rfl,HB⟩:=hrel
 by_cases hlt:i<n
 ·have g0:(i:Int)<n:=by omega
  have⟨m,hm⟩:=qy l i (by have:=HN.o;omega);have y2:=(y9.o.kZ h5.o).kZ HB.o.2;obtain⟨g,p8,rfl,c0,e1,e2,e3,e4⟩:=Ru y2 hm;have y7:=Qa (show ∀W,Calls prog 108 #[.agg #[.string<|str m.path,.int .i64 m.start,.int .i64 m.eZ,.int .i64 m.size,.int .u32 m.sum]] W fun e w'=>e=.returned (.tuple #[.string<|str<|JL m,(0:Int)])∧Qb [] W w' from fun W=>gH m W<|x3.o m<|QC hm);have z8:=dL m (YI (x3.o m<|QC hm).ok).2.2;have h2:=x2.o i;have HT:=Qa (show(l.take<|i+1).flatMap JL=(l.take i).flatMap JL++JL m by rw[ZE,hm];simp);have HW:=Qa fun W (hk:Qb [] wr W)=>(HB.o.kept hk).write (str<|JL m) (by have:(str<|JL m).size=(JL m).length:=rfl;omega);have z6:=(Qc [] wr).alloc<|.cells #[.string<|str m.path,.int .i64 m.start,.int .i64 m.eZ,.int .i64 m.size,.int .u32 m.sum] 69;clear hm y2 z8 h2;go_wp2_with (first
   |(go_at_call 108;with_reducible refine(y7.o _).mono ?_;rintro e w2⟨rfl,h1⟩)
   |(go_at_call 58;refine(HW.o _<|z6.trans h1<|by simp).mono ?_;rintro e w3⟨rfl,z1⟩))
  go_roundg (n-(i+1))
  ·exact⟨i+1,by omega,rfl,by go_num,Qa<|by rwa[HT.o]⟩
  omega
 obtain rfl:i=n:=by omega
 have g0:¬(i:Int)<i:=by omega
 have h2:=x2.o i;rw[Zd (by rw[HN.o];exact Ql _)]at h2;have⟨B,h3⟩:=qx<|l.flatMap JL;have HS:=Qa (show Ye w1 w1.heap.size B wr by have:=HB.o;rwa[Zd (by rw[HN.o];exact Ql _),h3]at this).str;rw[h3]at h2;have HE:=Qa (by unfold UI;rw[h3]:UI gen l=Uh gen 5 0 B);have y4:=Qa (by omega:B.length≤131*16);clear h3 HB h2;go_wp2_with (first
  |(go_at_call 60;with_reducible refine HS.o.mono ?_;rintro e w2⟨rfl,h1⟩)
  |(at_make;refine Y0 rfl _ _ 60 rfl 9 (.string ⟨#[]⟩) 16 Cd CY rfl .i64 .i64 _ _ 5 5 rfl rfl rfl rfl (Ql _) (by decide) (by decide) ?_;intro w3 y0 x7))
 have⟨y5,y6,HF⟩:=qc ((h5.o.trans h1<|by simp).trans x7<|by simp) (show Qh w3 9 (.slice w2.heap.size 5 5) (By (fun x=>.string<|str x) (.string ⟨#[]⟩) (Uh gen 5 0 B) 0)from y0)<|show w.heap.size≤w2.heap.size from QU h5.o.size h1.size;clear y0 x7 h1
 go_loopg [11,42] 5 (fun k p1 p3 wr=>(∃i:Nat,i≤5∧k=5-i∧p3=.int .i64 (i:Nat)∧p1=.string (str<|B.drop<|486*i)∧Hid (Qh wr 9 (.slice w2.heap.size 5 5)<|By (fun x=>.string<|str x) (.string ⟨#[]⟩) (Uh gen 5 0 B) i))∧Hid (Qb [] w wr))
 ·exact⟨⟨0,by omega,rfl,rfl,rfl,y6⟩,y5⟩
 obtain⟨⟨j,hj,p5,rfl,rfl,HR⟩,x1⟩:=hrel
 by_cases z7:j<5
 ·have g3:(j:Int)<5:=by omega
  have⟨L,hL⟩:=qx<|B.drop<|486*j;have p4:L.length≤2200:=by rw[←hL,YW];have:=y4.o;omega
  have⟨q,hq⟩:=qx<|min L.length 486;have p6:(str L).size=L.length:=rfl;have g4:min (L.length:Int) 486=(q:Int):=by omega
  have s1:=Cz (str L) q (q:Int) (by omega) rfl;have s2:=Gu (str L) q (q:Int) (by omega) rfl;have t1:L.take q=L.take 486:=by
   rcases Xp L.length 486 with h|h
   ·rw[Zd<|by omega,Zd<|by omega]
   rw[show q=486 by omega]
  have t2:L.drop q=B.drop (486*(j+1)):=by
   rw[show 486*(j+1)=486*j+486 by omega,←GN,hL];rcases Xp L.length 486 with h|h
   ·rw[JB<|by omega,JB<|by omega]
   rw[show q=486 by omega]
  rw[Uz (str L) 0 q<|by omega,VK,Bm,show(str L).data.toList=L from rfl,t1]at s1;rw[Uz (str L) q _<|Ql _,show(str L).data.toList=L from rfl,t2,Zd (by rw[←t2,YW];exact Ql _)]at s2;have o:=iJ gen 5 0 B j z7;rw[hL,Zz]at o;have x4:=Qa (show ∀W,Calls prog 102 #[.int .u8 4,gen,j,.string<|str<|L.take 486] W fun e w'=>e=.returned (.tuple #[.string<|str<|Vf 4 gen j<|L.take 486,(0:Int)])∧Qb [] W w' from fun W=>NQ 4 gen j (L.take 486) W (by decide) HG.o (by omega) (by rw[Zn];omega));have⟨x,y3⟩:=qx<|Vf 4 gen j<|L.take 486;rw[y3]at o x4;have HX:=Qa o;obtain⟨u,hu⟩:∃u,(By (fun x=>.string<|str x) (.string ⟨#[]⟩) (Uh gen 5 0 B) j)[j]?=some u:=⟨_,Qj (by have:=HR.o.len;omega)⟩;have HU:=Qa hu;clear t1 t2 o y3 hu;rw[hL];go_wp2_with (go_at_call 102;with_reducible refine(x4.o _).mono ?_;rintro e w5⟨rfl,x8⟩;have h9:=HR.o.kept x8 (by simp);have c5:=h9.aZ HU.o;have f5:=h9.free j)
  go_roundg (5-(j+1))
  ·have hp:=h9.put j<|.string<|str x;rw[vM (fun x=>.string<|str x) (.string ⟨#[]⟩) HX.o]at hp;exact⟨⟨j+1,by omega,rfl,by go_num,rfl,Qa hp⟩,Qa<|(x1.o.trans x8<|by simp).setCell (p:=⟨w2.heap.size,j,none⟩) (.inr HF.o) _⟩
  omega
 obtain rfl:j=5:=by omega
 have g3:¬((5:Nat):Int)<5:=by omega
 have y:=HR.o;have x5:By (fun x=>.string<|str x) (.string ⟨#[]⟩) (Uh gen 5 0 B) 5=strs (UI gen l):=by rw[HE.o];have h:=vL (fun x=>Value.string<|str x) (.string ⟨#[]⟩)<|Uh gen 5 0 B;rw[show(Uh gen 5 0 B).length=5 by simp[Uh]]at h;exact h
 rw[x5]at y;have y8:=Qa y;clear y x5
 go_wp2
 go_ret2;exact⟨_,rfl,y8.o,x1.o,by simpa[Qd,qo]using HF.o⟩
end
section
open Go.Shelf
section
variable {d:Nat} {nv pv:Value} {s s':QF} {w w1:World}
def Q7.refl(a:Dk w d nv pv s):Q7 w d nv pv s w:=⟨nv,pv,a,Qc _ _,QT.refl _ _⟩
def Q7.kept(b:Q7 w d nv pv s w1){a}(k:Qb [] w1 a):Q7 w d nv pv s a:=by obtain⟨f,g,a,c,e⟩:=b;exact⟨f,g,a.kZ k,c.trans k<|by simp,e⟩
def Q7.on(a:Q7 w d nv pv s w1){f:FuncId}{args v}(j:∀b c,Dk w1 d b c s→Calls prog f args w1 fun e w'=>e=.returned v∧Q7 w1 d b c s' w'):
 Calls prog f args w1 fun e w'=>e=.returned v∧Q7 w d nv pv s' w':=by
 obtain⟨b,c,i,g,h⟩:=a;refine(j b c i).mono ?_;rintro e w'⟨c,i,j,g1,b,g3⟩;exact⟨c,i,j,g1,g.trans b (fun c b=>by
  rcases h c b with a|a
  ·exact .inl a
  exact .inr a),h.trans g3 g.size⟩
def Ip{L:List (List UInt8)}{i0 k}(f:Q7 w d nv pv (s.wr i0<|L.take k) w1){x}(hs:s.Ok)(a:L[k]?=some x)(b:∀x∈L,x.length=512)(hi:i0+L.length≤s.cap)(c:s.lZ+L.length≤1000000000):
 Calls prog 74 #[.pointer d,((i0+k:Nat):Int),.string<|str x] w1 fun e w'=>e=.returned (0:Int)∧Q7 w d nv pv (s.wr i0<|L.take<|k+1) w':=by
 have hk:=(Qz.1 a).1;have c:=QF.Ok.wrL hs (i:=i0) (L:=L.take k) (by rw[Zn];omega) (fun h g=>b h<|VN g) 0 (by rw[Zn];omega);have e:(s.wr i0<|L.take k).tick 0=s.wr i0 (L.take k):=rfl;rw[e]at c;refine f.on fun f f f=>?_
 have:=Qih f c (i0+k) x (by show i0+k<s.cap;omega)<|b x<|QC a;have b:({s.wr i0 (L.take k)with img:=JV (s.wr i0<|L.take k).img (i0+k) x,lZ:=(s.wr i0<|L.take k).lZ+1}:QF)=s.wr i0 (L.take<|k+1):=by unfold QF.wr;rw[ZE,a];simp only[Fr,lG,Qo,QZ,Yg,Zn,show min k L.length=k by omega];simp only[Jj]
 rwa[b]at this
def Iq(a:Q7 w d nv pv s w1)(hs:s.Ok):Calls prog 75 #[.pointer d] w1 fun e w'=>e=.returned (0:Int)∧Q7 w d nv pv (s.tick 1) w':=
 a.on fun a a a=>jS a hs
end
def Wp(v l)(gen d:Nat)(n o s w)(a:Dk w d n o s)(hs:s.Ok)(p:Vq w v l)(q:YU w)(x:gen≤4611686018427387904)(i:∀m∈l,RT m)(t:UR l)(c:l.length≤16)(f:ZX s.cap (l.map fun m=>(m.start,m.eZ))=true)(A:ZX 4096 (l.map fun m=>(m.start,m.eZ))=true)(b:10≤s.cap)(k:s.lZ+6≤1000000000):
 Calls prog 38 #[.pointer d,gen,v] w fun e w'=>e=.returned (0:Int)∧Q7 w d n o ((s.wr (gen%2*5)<|UI gen l).tick 1) w':=by
 have⟨y,u,E⟩:=qc (fun b hk=>Dg (w:=b) (a.kZ hk) hs) (sM v l gen w p q x i t c A) fun b hk=>TS v l s.cap b (p.kZ hk) (q.kept hk<|by simp) (by omega) (by have:=hs.c2;omega) i t c f;have b:¬((s.cap:Nat):Int)=0:=by omega
 have g1:((s.cap:Int)==0)=false:=Zh.2 b;have⟨c,h⟩:=qx<|UI gen l;have j:c.length=5:=by rw[←h];exact CA gen l
 have g:∀b∈c,b.length=512:=by rw[←h];exact Om gen l
 rw[h]at u ⊢;have⟨i0,z⟩:=qx<|gen%2*5;have:((gen:Int).tmod 2)*5=(i0:Int):=by rw[BP<|by omega];omega
 obtain⟨_,_⟩:((gen:Int)%2)*5=(i0:Int)∧i0≤5:=by omega
 rw[z];have G:=Qa a;have r:=Qa<|QQ hs<|QQ k<|QQ j g;have hlt:=a.lt;go_enter func38,ntmps38;go_wp2_with (first
  |(go_at_call 14;with_reducible refine(y.o _<|Qc _ _).mono ?_;rintro e x⟨rfl,rfl⟩))
 refine u.o.mono ?_;rintro e x⟨a,rfl,D,C,z⟩;have p:=C;obtain⟨a,c1,rfl,-,-,q,A⟩:=D.sees;rw[Uj,r.o.2.2.1]at q ⊢;obtain⟨h,u,rfl,t⟩:=q.at (by rw[Uj,r.o.2.2.1];decide);have B:h∉Q6 d n o:=fun a=>by have:=hlt h a;have:=z h (by rw[←A];simp[fZ]);omega
 have F:=Qa (show ∀a b,c[a]?=some b→x.cell? ⟨h,u+a,none⟩=some (.string<|str b)from fun a b f=>t a _<|EQ f);have H:=Qa B;go_wp2_with (first
  |(go_at_call 14;with_reducible refine(y.o _ p).mono ?_;rintro e z⟨rfl,rfl⟩)
  |(go_at_call 37;with_reducible refine(E.o _ p).mono ?_;rintro e q⟨rfl,t⟩))
 have⟨y,z⟩:=qb (p.trans t<|by simp) (show ∀a b,c[a]?=some b→q.cell? ⟨h,u+a,none⟩=some (.string<|str b)from fun a b f=>t.cZ (F.o a b f)<|by simp);have A:=Qa<|show Q7 q d n o (s.wr i0<|c.take 0) q from Q7.refl (G.o.kZ y.o)
 go_loopg [34] 5 (fun p t wr=>(∃a:Nat,a≤5∧p=5-a∧t=.int .i64 (a:Nat)∧Hid (Q7 q d n o (s.wr i0<|c.take a) wr)))
 ·exact⟨0,by omega,rfl,rfl,A⟩
 obtain⟨a,hi,hk,rfl,n⟩:=hrel;obtain⟨hs,k,j,g⟩:=r.o
 by_cases hlt:a<5
 ·have g3:(a:Int)<5:=by omega
  have⟨b,f⟩:=qy c a (by omega);have cx:wr.cell? ⟨h,u+a,none⟩=some (.string<|str b):=by obtain⟨h,h,-,h,-⟩:=n.o;exact h.cZ (z.o a b f) H.o
  have h:=Qa (Ip n.o hs f g (by omega)<|by omega);rw[show((i0+a:Nat):Int)=i0+(a:Int)by push_cast;rfl]at h;have x:IntKind.i64.wrap ((i0:Int)+a)=(i0:Int)+a:=by rw[Zx];omega
  go_wp2_with (go_at_call 74;refine h.o.mono ?_;rintro e f⟨rfl,b⟩)
  go_roundg (5-(a+1))
  ·exact⟨a+1,by omega,rfl,by go_num,Qa b⟩
  omega
 obtain rfl:a=5:=by omega
 have g3:¬((5:Nat):Int)<5:=by omega
 have hp:=n.o;rw[Zd<|by omega]at hp;have i:=QF.Ok.wrL hs (i:=i0) (L:=c) (by omega) g 0 (by omega);have a:=Qa<|Iq hp i;go_wp2_with (go_at_call 75;refine a.o.mono ?_;rintro e f⟨rfl,b⟩);go_ret;exact⟨rfl,b.from y.o⟩
end
section
open Go.Shelf
def kindI(n:Note):Int:=if n.1 then 1 else 2
def IV(n:Note):Value:=.agg #[.int .i64 (kindI n),str n.2.path,n.2.start,n.2.eZ,n.2.size,.int .u32 n.2.sum]
def Xi(n:Note):List Value:=.int .i64 (kindI n)::Zi n.2
def He(n:Note):Prop:=n.1=true∧RT n.2∨n.1=false∧Yn n.2.path=true∧n.2=⟨n.2.path,0,0,0,0⟩
def vC(p:ByteArray)(w):(binOp .eql 69 (.agg #[p,(0:Int),(0:Int),(0:Int),.int .u32 0])<|.agg #[p,(0:Int),(0:Int),(0:Int),.int .u32 0]).run prog w=.ok (.bool true) w:=by rw[run_eql_struct,run_equalIn_agg _ _ _ _ _ (by kernel_rfl)<|by kernel_rfl];simp[Program.fieldsOf,underlying69,Op.eqFields,go_sem,part,YG,Xc,Bp]
def Qh6(n w)(h:He n):Calls prog 127 #[IV n] w fun e w'=>e=.returned (.tuple #[str<|AO n,.bool true])∧Qb [] w w':=by
 obtain⟨b,m⟩:=n;rcases h with⟨y,o⟩|⟨y,o,h3⟩
 ·have y:b=true:=y;subst y;have HM:=Qa fun W=>gH m W o;unfold UX at HM;unfold IV kindI;simp only[Co];have HP:=Qa<|show AO (true,m)=JL m from rfl;clear o;go_enter func127,ntmps127;go_wp2_with (go_at_call 108;refine(HM.o _).mono ?_;rintro e w2⟨rfl,h5⟩);go_ret2;exact⟨by rw[HP.o];rfl,((Qc [] w).alloc _).trans h5<|by simp⟩
 have y:b=false:=y;subst y;have⟨p,hp⟩:=qx m.path;simp only at o h3;rw[hp]at o h3;subst h3;have HC:=Qa fun W=>FF (str p) W (by have:=(YI o).2.2;show p.length≤_;omega);rw[show Ua (str p).data.toList=0 by unfold Ua;rw[show Yn (str p).data.toList=true from o];rfl]at HC;unfold IV kindI;simp only[Bool.false_eq_true,EC];have HP:=Qa<|show AO (false,⟨p,0,0,0,0⟩)=p from rfl;have h4:=vC<|str p;clear o hp;go_enter func127,ntmps127;go_wp2_with fail;have⟨W,hW⟩:=qx<|w.alloc<|.cells #[(2:Int),.string<|str p,(0:Int),(0:Int),(0:Int),.int .u32 0] 104;have A:=Qx w [(2:Int),.string<|str p,(0:Int),(0:Int),(0:Int),.int .u32 0] 104;have hk:=(Qc [] w).alloc<|.cells #[(2:Int),.string<|str p,(0:Int),(0:Int),(0:Int),.int .u32 0] 104;have⟨b,hb⟩:=qx w.heap.size;change Qf (w.alloc<|.cells #[(2:Int),.string<|str p,(0:Int),(0:Int),(0:Int),.int .u32 0] 104) _ _ _ at A;rw[hW]at A hk ⊢;rw[hb]at A ⊢;have H0:=fun w' (hk:Qb [] W w')=>hk.cZ (A.cell (i:=1) (u:=.string<|str p) rfl) (by simp)
 have H1:=fun w' (hk:Qb [] W w')=>hk.cZ (A.cell (i:=2) (u:=.int .i64 0) rfl) (by simp)
 have H2:=fun w' (hk:Qb [] W w')=>hk.cZ (A.cell (i:=3) (u:=.int .i64 0) rfl) (by simp)
 have H3:=fun w' (hk:Qb [] W w')=>hk.cZ (A.cell (i:=4) (u:=.int .i64 0) rfl) (by simp)
 have H4:=fun w' (hk:Qb [] W w')=>hk.cZ (A.cell (i:=5) (u:=.int .u32 0) rfl) (by simp)
 refine KB W (by kernel_rfl) (by kernel_rfl) (Qc _ _) ?_
 repeat
  first
   |go_big_quiet_skip
   |(go_big_quiet_want
     go_big_quiet_op
     first
      |go_big_quiet_on
      |(apply Exists.intro
        refine⟨fun wq q=>?_,?_⟩
        ·first
          |with_reducible rfl
          |(go_at_call 17;exact Calls.keptK q<|HC.o wq)
          |(simp only[h4];exact⟨rfl,rfl⟩)
          |(simp only[H0 wq q,H1 wq q,H2 wq q,H3 wq q,H4 wq q,Ut];exact⟨trivial,rfl⟩)
        go_big_quiet_on))
 refine wpQuiet_nil ?_;intro wq q
 go_wp2
 go_ret2;exact⟨rfl,hk.trans q<|by simp⟩
end
section
open Go.Shelf
def uX:∀x,(Xi x).length=6:=fun _=>rfl
def WE{w a n l}(d:Qn w 6 a n (Qw Xi l)){i x}(f:l[i]?=some x):
 ∃g b,a=some ⟨g,b,none⟩∧∀j u,(Xi x)[j]?=some u→w.cell? ⟨g,b+i*6+j,none⟩=some u:=by
 have e:∀j u,(Xi x)[j]?=some u→(Qw Xi l)[i*6+j]?=some u:=fun j u c=>by rw[U9 uX l i j x f (by have:=(Qz.1 c).1;exact this),c]
 obtain⟨g,b,f,c0⟩:=d.2 _ _<|e 0 (.int .i64<|kindI x) rfl;subst f;refine⟨g,b,rfl,fun j u c=>?_⟩;obtain⟨b,b,b,f⟩:=d.2 _ _<|e j u c;injection b with b;injection b with b e3;subst b e3;rwa[Jj]
def K.fW(gen:Nat):∀(ns:List Note)(i k:Nat)(n:Note),ns[k]?=some n→(JQ gen i ns)[k]?=some (Vf (if n.1 then 1 else 2) gen (i+k)<|AO n)
 | [],_,_,_,h=>by simp at h
 |m::ns,i,0,n,h=>by simp at h;subst h;simp[JQ]
 |m::ns,i,k+1,n,h=>by rw[JQ,VL,fW gen ns (i+1) k n<|by simpa using h,show i+1+k=i+(k+1)by omega]
def Qbv{n}(a:He n):(AO n).length≤131:=by
 refine eL ?_;rcases a with⟨-,a⟩|⟨-,a,-⟩
 ·exact(YI a.ok).2.2
 exact(YI a).2.2
def Qh5(g a cc ns)(gen nx d:Nat)(E F s w)(m:Dk w d E F s)(hs:s.Ok)(h:Qn w 6 (some ⟨g,a,none⟩) ns.length (Qw Xi ns))(p:gen≤4611686018427387904)(x:∀n∈ns,He n)(Z:1≤ns.length)(k:ns.length+nx+1≤20)(b:30≤s.cap)(v:s.lZ+30≤1000000000):
 Calls prog 88 #[.pointer d,gen,nx,.slice (some ⟨g,a,none⟩) ns.length cc] w fun e w'=>e=.returned (.tuple #[((nx+ns.length+1:Nat):Int),(0:Int)])∧Q7 w d E F ((s.wr (10+nx)<|RE gen nx ns).tick 1) w':=by
 have r:=Qa<|Dg m hs;have⟨n,i⟩:=qx ns.length;have a:¬((s.cap:Nat):Int)=0:=by omega
 have g1:((s.cap:Int)==0)=false:=Zh.2 a;have⟨j,a⟩:=qx<|RE gen nx ns;have t:j.length=n+1:=by rw[←a,Cx,i]
 have l:∀c∈j,c.length=512:=by
  rw[←a];exact fV gen nx fun b q=>by
   rcases x b q with⟨-,h⟩|⟨-,h,-⟩
   ·exact(YI h.ok).2.2
   exact(YI h).2.2
 have o:j=JQ gen nx ns++[Vf 3 gen (nx+n) [UInt8.ofNat n]]:=by rw[←a,RE,i]
 have y:(JQ gen nx ns).length=n:=by rw[NP,i]
 rw[i]at h Z k ⊢;rw[a];have⟨D,W,R,A,C⟩:=qe i m (QQ hs<|QQ v<|QQ t<|QQ l<|QQ o y) x h;have hlt:=m.lt;have X:=Qa hlt;obtain⟨_,q2,f⟩: ¬(nx:Int)<0∧¬(20:Int)<nx∧¬(n:Int)=0:=by omega
 have:((n:Int)==0)=false:=Zh.2 f;have:¬(20:Int)-nx≤(n:Int):=by omega
 have P:=Qa p;have z:=Qa (show ∀f,Calls prog 65 #[gen] f fun e w'=>e=.returned (.bool true)∧w'=f from fun f=>by
  obtain⟨_,_⟩:(0:Int)≤gen∧(gen:Int)≤4611686018427387904:=by omega
  clear m hs h x p l o a hlt W R A C X r;go_enter func65,ntmps65
  go_wp2
  go_ret;exact⟨rfl,rfl⟩)
 clear m hs h x p v t l o y a i hlt;go_enter func88,ntmps88;go_wp2_with (first
  |(go_at_call 14;with_reducible refine r.o.mono ?_;rintro e w⟨rfl,rfl⟩)
  |(go_at_call 65;refine(z.o _).mono ?_;rintro e w⟨rfl,rfl⟩))
 go_loopg [10,51] n (fun U i m wr=>(∃(a:Nat)(z:Value),a≤n∧U=n-a∧z=i∧m=.int .i64 (a:Nat)∧Hid (Qh wr 9 z<|strs<|(JQ gen nx ns).take a)∧Hid (∀c∈Qd z,w.heap.size≤c))∧Hid (Qb [] w wr))
 ·exact⟨⟨0,_,by omega,by omega,rfl,rfl,Qa<|Qh.nil _ _,Qa<|by simp[Qd,qo]⟩,Qa<|Qc _ _⟩
 obtain⟨⟨a,z,hi,hk,rfl,rfl,Q,G⟩,B⟩:=hrel
 by_cases hlt:a<n
 ·have h5:(a:Int)<n:=by omega
  have⟨b,q⟩:=qy ns a (by have:=D.o;omega);have p:=A.o b<|QC q;obtain⟨i,i,i,m⟩:=WE (C.o.kZ B.o) q;injection i with i;injection i with i ee2;subst i ee2;obtain⟨i,k1,k2,k3⟩:∃i:UInt8,kindI b=(i.toNat:Int)∧i≠0∧(if b.1 then(1:UInt8)else 2)=i:=by
   unfold kindI;cases b.1
   ·exact⟨2,rfl,by decide,rfl⟩
   exact⟨1,rfl,by decide,rfl⟩
  have:i.toNat<256:=i.toNat_lt;have c0:=m 0 (i.toNat:Int) (by simp[Xi,k1]);have c1:=m 1 (.string<|str b.2.path) rfl;have c2:=m 2 (.int .i64 b.2.start) rfl;have c3:=m 3 (.int .i64 b.2.eZ) rfl;have:=m 4 (.int .i64 b.2.size) rfl;have Y:=m 5 (.int .u32 b.2.sum) rfl;rw[Y6]at c0;have m:=fun f=>Qh6 b f p
  unfold IV at m;rw[k1]at m;have h3:=Qa m;have r:=fun f=>NQ i gen (nx+a) (AO b) f k2 P.o (by omega) (by have:=Qbv p;omega)
  rw[show((nx+a:Nat):Int)=nx+(a:Int)by push_cast;rfl]at r;have H:=Qa r;have⟨c,k⟩:=qx<|Vf i gen (nx+a)<|AO b;rw[k]at H;have p:=fW gen ns nx a b q;rw[k3,k]at p;have h4:=Qa (by rw[ZE,p];simp[strs]:strs ((JQ gen nx ns).take<|a+1)=strs ((JQ gen nx ns).take a)++[.string<|str c]);have:IntKind.u8.wrap (i.toNat:Int)=i.toNat:=by rw[CM];omega
  have h8:IntKind.i64.wrap ((nx:Int)+a)=(nx:Int)+a:=by rw[Zx];omega
  have C:(strs<|(JQ gen nx ns).take a).length≤100:=by rw[Uj,Zn];omega
  have S:(strs<|(JQ gen nx ns).take a).length+1≤maxLen:=by simp only[maxLen];omega
  have T:((strs<|(JQ gen nx ns).take a).length+1)*16≤140737488355328:=by omega
  have A:=Qx wr [(i.toNat:Int),.string<|str b.2.path,.int .i64 b.2.start,.int .i64 b.2.eZ,.int .i64 b.2.size,.int .u32 b.2.sum] 104;have h1:=Qa A;have D:=(Qc [] wr).alloc<|.cells #[(i.toNat:Int),.string<|str b.2.path,.int .i64 b.2.start,.int .i64 b.2.eZ,.int .i64 b.2.size,.int .u32 b.2.sum] 104;have h2:=Qa D;clear m r k p D A C k1 k2 k3 q;go_wp2_with (first
   |(go_at_call 127;with_reducible refine(h3.o _).mono ?_;rintro e x0⟨rfl,b⟩;have m:=h1.o.kept b (by simp);have:=m.cell (i:=0) (u:=.int .i64 (i.toNat:Int)) rfl)
   |(go_at_call 102;with_reducible refine(H.o _).mono ?_;rintro e V⟨rfl,L⟩;have p:=(h2.o.trans b<|by simp).trans L (by simp);have O:=Q.o.kept p<|by simp)
   |(at_builtin;refine Fa V rfl _ _ 60 rfl 9 (.string ⟨#[]⟩) 16 Cd CY rfl z (.string<|str c) (strs<|(JQ gen nx ns).take a) rfl rfl rfl rfl O S T ?_;intro C Y A M J I))
  go_roundg (n-(a+1))
  ·refine⟨⟨a+1,_,by omega,rfl,rfl,by go_num,Qa ?_,Qa ?_⟩,Qa<|(B.o.trans p<|by simp).trans J fun m i=>.inr<|G.o m i⟩
   ·rw[h4.o];exact M
   intro m i;simp[Qd,qo]at i;subst i;rcases I with h|h
   ·exact G.o _ h
   have:=B.o.size;have:=p.size;omega
  omega
 obtain rfl:a=n:=by omega
 have h5:¬(a:Int)<a:=by omega
 obtain⟨hs,v,t,l,o,y⟩:=R.o;obtain⟨b,h2,h3⟩:∃b:UInt8,(b.toNat:Int)=a∧UInt8.ofNat a=b:=⟨UInt8.ofNat a,by rw[US,XQ<|by omega],rfl⟩;have:IntKind.u8.wrap (a:Int)=(b.toNat:Int):=by rw[CM];omega
 have h8:IntKind.i64.wrap ((nx:Int)+a)=(nx:Int)+a:=by rw[Zx];omega
 have h8:=fun f=>Df f b
 have r:=fun f=>NQ 3 gen (nx+a) [b] f (by decide) P.o (by omega) (by simp)
 rw[show((nx+a:Nat):Int)=nx+(a:Int)by push_cast;rfl]at r;have⟨c,k⟩:=qx<|Vf 3 gen (nx+a) [b];rw[k]at r;rw[h3,k]at o;have H:=Qa (show ∀f,Calls prog 102 #[.int .u8 3,gen,.int .i64<|(nx:Int)+a,.string ⟨#[b]⟩] f fun e w'=>e=.returned (.tuple #[.string<|str c,(0:Int)])∧Qb [] f w' from r);have⟨f,h1⟩:=qx<|JQ gen nx ns;have P:=Q.o;rw[h1]at o y P;rw[Zd<|by omega]at P;have h5:=Qa P;have:(strs f).length=a:=by rw[Uj,y]
 have S:(strs f).length+1≤maxLen:=by simp only[maxLen];omega
 have T:((strs f).length+1)*16≤140737488355328:=by omega
 have h4:=Qa (by rw[o];simp[strs]:strs j=strs f++[.string<|str c]);have D:=(Qc [] wr).alloc<|.cells #[.int .u8 (b.toNat:Int)] 5;have:=Qa h2;clear hs v t l o y h3 r k h1 P Q h2;go_wp2_with (first
  |(go_at_call 102;with_reducible refine(H.o _).mono ?_;rintro e V⟨rfl,L⟩;have p:=D.trans L (by simp);have O:=h5.o.kept p<|by simp)
  |(at_builtin;refine Fa V rfl _ _ 60 rfl 9 (.string ⟨#[]⟩) 16 Cd CY rfl z (.string<|str c) (strs f) rfl rfl rfl rfl O S T ?_;intro C Y A M J I))
 have o:=Qa<|(B.o.trans p<|by simp).trans J fun m i=>.inr<|G.o m i;have f:=Qa (show ∀b c,j[b]?=some c→A.cell? ⟨C,b,none⟩=some (.string<|str c)from fun b c k=>M.aZ (by rw[←h4.o];exact EQ k));have k:=Qa (show C∉Q6 d E F from fun q=>by
  have Z:=X.o C q;rcases I with h|h
  ·have:=G.o _ h;omega
  have:=B.o.size;have:=p.size;omega)
 have c:=Qa<|show Q7 A d E F (s.wr (10+nx)<|j.take 0) A from Q7.refl (W.o.kZ o.o);clear M J I L p O D h8
 go_loopg [99] (a+1) (fun U p h=>(∃b:Nat,b≤a+1∧U=a+1-b∧p=.int .i64 (b:Nat)∧Hid (Q7 A d E F (s.wr (10+nx)<|j.take b) h)))
 ·exact⟨0,by omega,rfl,rfl,c⟩
 obtain⟨b,c,c,rfl,c⟩:=hrel;obtain⟨hs,v,t,l,-,-⟩:=R.o
 by_cases h:b<a+1
 ·have p:(b:Int)<a+1:=by omega
  have⟨m,i⟩:=qy j b (by omega);have cx:wr.cell? ⟨C,b,none⟩=some (.string<|str m):=by obtain⟨h,h,-,h,-⟩:=c.o;exact h.cZ (f.o b m i) k.o
  have h:=Qa (Ip c.o hs i l (by omega)<|by omega);rw[show((10+nx+b:Nat):Int)=10+(nx:Int)+b by push_cast;rfl]at h;have:IntKind.i64.wrap (10+(nx:Int)+b)=10+(nx:Int)+b:=by rw[Zx];omega
  have k:IntKind.i64.wrap (10+(nx:Int))=10+(nx:Int):=by rw[Zx];omega
  clear i hs v t l;go_wp2_with (go_at_call 74;refine h.o.mono ?_;rintro e k⟨rfl,f⟩)
  go_roundg (a+1-(b+1))
  ·exact⟨b+1,by omega,rfl,by go_num,Qa f⟩
  omega
 obtain rfl:b=a+1:=by omega
 have p:¬((a:Int)+1)<(a:Int)+1:=by omega
 have hp:=c.o;rw[Zd<|by omega]at hp;have x:=QF.Ok.wrL hs (i:=10+nx) (L:=j) (by omega) l 0 (by omega);have b:=Qa<|Iq hp x;have A:IntKind.i64.wrap ((nx:Int)+a+1)=(nx:Int)+a+1:=by rw[Zx];omega
 clear hs v t l hp x;go_wp2_with (go_at_call 75;refine b.o.mono ?_;rintro e k⟨rfl,f⟩);go_ret2;exact⟨rfl,f.from o.o⟩
end
def tD(s t:ByteArray)(w)(hs:s.size≤1000000)(c:t.size≤1000000)(a:YU w):
 Calls prog 70 #[s,t] w fun e w'=>e=.returned (.int .i64<|X7 s.data.toList t.data.toList)∧∃d os,w'=Go.Sort.grow (w.drewN d) os:=by
 have j:=Qa a;clear a;have i:=Er s.data.toList;have k:=Er t.data.toList;rw[Zm]at i k;have⟨h,l,f⟩:=qc (Kd s w hs j.o) (fun(b:World)(g:YU b)=>Kd t b c g)<|show X7 s.data.toList t.data.toList=Xy (Zq s.data.toList) (Zq t.data.toList)from rfl;have⟨b,o⟩:=qx<|Zq s.data.toList;have⟨c,a⟩:=qx<|Zq t.data.toList;rw[o]at h f i;rw[a]at l f k;rw[f.o];have⟨f,z⟩:=qx<|min b.length c.length;have:min (b.length:Int) (c.length:Int)=(f:Int):=by omega
 go_enter func70,ntmps70;go_wp2_with fail;refine h.o.mono ?_;rintro e h⟨rfl,i⟩;have n:Qb [] w h:=by rw[i];exact(Qc _ _).alloc _
 have p:Qn h 1 w.heap.size b.length (strs b):=by rw[i];exact Qn.lit<|Uj b
 have⟨k,q,m⟩:=qc n i p;clear i n p;go_wp2_with fail;refine(l.o _<|j.o.kept k.o<|by simp).mono ?_;rintro e j⟨rfl,i⟩;have l:Qb [] h j:=by rw[i];exact(Qc _ _).alloc _
 have u:Qn j 1 h.heap.size c.length (strs c):=by rw[i];exact Qn.lit<|Uj c
 have:=Qa<|k.o.trans l fun k k=>.inl k;have⟨v,n,p⟩:=qc (show ∃os,j=Go.Sort.grow w os from⟨_,by rw[i,q.o,alloc_eq_grow,alloc_eq_grow,grow_grow]⟩) (m.o.kZ l) u;obtain⟨x,q⟩:∃k,w.heap.size=k:=⟨_,rfl⟩;obtain⟨y,r⟩:∃k,h.heap.size=k:=⟨_,rfl⟩;rw[q]at n ⊢;rw[r]at p ⊢;clear i l u m o a q r;go_wp2_with fail;obtain⟨h,a⟩:∃h:World,h=j:=⟨_,rfl⟩;subst a
 go_loopg [17] f (fun k i wr=>(∃a:Nat,a≤f∧k=f-a∧i=.int .i64 (a:Nat)∧Hid (Xy b c=Xy (b.drop a) (c.drop a)))∧Hid (∃d,wr=h.drewN d))
 ·exact⟨⟨0,by omega,rfl,rfl,Qa rfl⟩,Qa ⟨0,rfl⟩⟩
 obtain⟨⟨a,hi,hk,rfl,j⟩,o⟩:=hrel;have⟨q,l⟩:=qb (by obtain⟨d,g⟩:=o.o;rw[g];exact(Qc _ _).drewN d:Qb [] h wr) (show ∀h,∃d os,wr.drewN h=Go.Sort.grow (w.drewN d) os from fun h=>by obtain⟨d,g⟩:=o.o;obtain⟨os,m⟩:=v.o;exact⟨d+h,os,by rw[g,World.drewN_drewN,m];rfl⟩)
 by_cases hlt:a<f
 ·obtain⟨r,i,u⟩:(a:Int)<f∧a<b.length∧a<c.length:=by omega
  have⟨h,ha⟩:=qy b a i;have⟨i,hb⟩:=qy c a u;have c0:wr.cell? ⟨x,a,none⟩=some (.string<|str h):=by have g:=Qn.get1 (n.o.kZ q.o)<|EQ ha;rwa[Zz]at g
  have c1:wr.cell? ⟨y,a,none⟩=some (.string<|str i):=by have g:=Qn.get1 (p.o.kZ q.o)<|EQ hb;rwa[Zz]at g
  obtain⟨_,_⟩:(a:Int)<b.length∧(a:Int)<c.length:=by omega
  have⟨p,q⟩:=qb ha hb;clear ha hb
  by_cases n:h=i
  ·have g1:((str h).toList==(str i).toList)=true:=(by rw[XN,XN,YS,YS,n];simp);go_wp2_with fail;go_quiet (fail)
   go_wp2
   go_roundg (f-(a+1))
   ·refine⟨⟨a+1,by omega,rfl,by go_num,Qa ?_⟩,Qa ?_⟩
    rotate_left
    ·obtain⟨d,g⟩:=o.o;exact⟨d+nq,by rw[g,World.drewN_drewN]⟩
    rw[j.o];exact Wc p.o (by rw[n];exact q.o)
   omega
  have g1:((str h).toList==(str i).toList)=false:=by rw[XN,XN,YS,YS];exact Zh.2 n
  go_wp2_with fail;go_quiet (fail);have k:=(Qc [] wr).drewN nq;have c2:=k.cZ c0 (by simp);have c3:=k.cZ c1 (by simp);have g:∀h,∃d os,(wr.drewN nq).drewN h=Go.Sort.grow (w.drewN d) os:=fun h=>by rw[World.drewN_drewN];exact l.o _
  generalize wr.drewN nq=W2 at g c2 c3 ⊢;have d:=Qa g;clear c0 c1 k g;go_wp2_with fail;go_quiet ((go_at_call 106;refine Calls.quiet_of_same<|Tryz.strCompare _ _ _))
  go_wp2
  go_ret;refine⟨?_,d.o _⟩;rw[j.o,We p.o q.o n];rfl
 have r:¬(a:Int)<f:=by omega
 obtain rfl:a=f:=by omega
 have d:=Qa<|Wd b c a z.symm
 by_cases a:b.length<c.length
 ·have g1:(b.length:Int)<c.length:=by omega
  go_wp2
  go_ret;refine⟨?_,l.o 0⟩;rw[j.o,d.o,Qg a];rfl
 have g1:¬(b.length:Int)<c.length:=by omega
 by_cases m:c.length<b.length
 ·have f:(c.length:Int)<b.length:=by omega
  go_wp2
  go_ret;refine⟨?_,l.o 0⟩;rw[j.o,d.o,Qe a,Qg m];rfl
 have f:¬(c.length:Int)<b.length:=by omega
 go_wp2
 go_ret;refine⟨?_,l.o 0⟩;rw[j.o,d.o,Qe a,Qe m];rfl
