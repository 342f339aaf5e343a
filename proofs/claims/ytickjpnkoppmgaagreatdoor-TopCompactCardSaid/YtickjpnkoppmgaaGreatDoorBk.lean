import Derived.Test.YtickjpnkoppmgaaGreatDoorBi
import Derived.Test.YtickjpnkoppmgaaGreatDoorBj
set_option linter.all false
set_option maxHeartbeats 1000000
set_option maxRecDepth 20000
namespace Go.Proofs.YtickjpnkoppmgaaGreatDoor
open Go.Proofs.Tryz Go.RowKit K Go.Shelf Go.Sort
def K.iS(gen:Nat):∀(n i:Nat)(a:LU)(k:Nat),k<n→(Uw gen n i a)[k]?=some (Vv 4 gen (i+k)<|(a.drop<|486*k).take 486)
 |0,_,_,_,h=>by omega
 |n+1,i,a,0,_=>by simp[Uw]
 |n+1,i,a,k+1,h=>by rw[Uw,V3,iS gen n (i+1) (a.drop 486) k<|by omega,GL,show i+1+k=i+(k+1)by omega,show 486+486*k=486*(k+1)by omega]
def BC{α:Type}(f:α→VL)(z:VL)(A:List α)(i:Nat):LV:=(A.take i).map f++List.replicate (A.length-i) z
def vY{α}(f:α→VL)(z){A i}{a:α}(b:A[i]?=some a):(BC f z A i).set i (f a)=BC f z A (i+1):=by have:=(Qz.1 b).1;unfold BC;rw[VF _ _ (by simp;omega),QH,Zl,show i-min i A.length=0 by omega,Zt,b,Xi,show A.length-i=(A.length-(i+1))+1 by omega,Y8,UY];simp
def vX{α}(f:α→VL)(z A):BC f z A A.length=A.map f:=by simp[BC]
def pN(L:LY)(w:WD)(e:Ending)(w':WD):Prop:=∃a,e=.returned (.tuple #[a,(0:Int)])∧Qh w' 9 a (strs L)∧Qb [] w w'∧∀b∈Qd a,w.heap.size≤b
def dV(m)(a:m.path.length≤120):(JS m).length≤131:=by simp only[JS,Qo,Bu];omega
def tA(v l)(gen:Nat)(w)(h:Uf w v l)(hB:YN w)(hg:gen≤4611686018427387904)(h4:∀m∈l,RZ m)(y:U5 l)(hl:l.length≤16)(o:ZX 4096 (l.map fun m=>(m.start,m.eZ))=true):
 Calls prog 73 #[gen,v] w (pN (UT gen l) w):=by
 have x0:=Qa<|Wa v l 4096 w h hB (by decide) (by decide) h4 y hl o;obtain⟨a1,c1,rfl,y1,p0⟩:=h;have⟨y9,x3⟩:=qb y1 h4;have⟨n,h8⟩:=qx l.length;rw[h8]at hl x0 ⊢;have HN:=Qa h8;have x9:∀i,((l.take i).flatMap JS).length≤131*i:=fun i=>by
  induction i with
  |zero=>simp
  |succ i ih=>
   rw[Zt];cases hi:l[i]? with
   |none=>simp only[Option.toList_none,XH];omega
   |some m=>have:=dV m (YK (h4 m<|QA hi).ok).2.2;simp only[Fk,Lq,Qo,Jn,List.flatMap_nil,XH];omega
 have x2:=Qa x9;obtain⟨g1,g2⟩: ¬(gen:Int)<0∧¬(4611686018427387904:Int)<gen:=by omega
 have HG:=Qa hg;clear y1 p0 h4 y o hB h8 x9 hg;go_enter func73,ntmps73;go_wp2_with (go_at_call 37;with_reducible refine x0.o.mono ?_;rintro e w1⟨rfl,x6⟩);have h5:=Qa x6;clear x6;obtain⟨w0,p7⟩:∃w0,w0=w:=⟨_,rfl⟩
 go_loopg [28] n (fun k p2 wr=>(∃i:Nat,i≤n∧k=n-i∧p2=.int .i64 (i:Nat)∧Hid (Ye w1 w1.heap.size ((l.take i).flatMap JS) wr)))
 ·exact⟨0,by omega,rfl,rfl,Qa<|Ye.new w1⟩
 obtain⟨i,hi,hk,rfl,HB⟩:=hrel
 by_cases hlt:i<n
 ·have g0:(i:Int)<n:=by omega
  have⟨m,hm⟩:=qy l i (by have:=HN.o;omega);have y2:=(y9.o.kZ h5.o).kZ HB.o.2;obtain⟨g,off,rfl,c0,e1,e2,e3,e4⟩:=VT y2 hm;have y7:=Qa (show ∀W,Calls prog 108 #[.agg #[.string<|str m.path,.int .i64 m.start,.int .i64 m.eZ,.int .i64 m.size,.int .u32 m.sum]] W fun e w'=>e=.returned (.tuple #[.string<|str<|JS m,(0:Int)])∧Qb [] W w' from fun W=>gV m W<|x3.o m<|QA hm);have z8:=dV m (YK (x3.o m<|QA hm).ok).2.2;have h2:=x2.o i;have HT:=Qa (show(l.take<|i+1).flatMap JS=(l.take i).flatMap JS++JS m by rw[Zt,hm];simp);have HW:=Qa fun W (hk:Qb [] wr W)=>(HB.o.kept hk).write (str<|JS m) (by have:(str<|JS m).size=(JS m).length:=rfl;omega);have z6:=(Qc [] wr).alloc<|.cells #[.string<|str m.path,.int .i64 m.start,.int .i64 m.eZ,.int .i64 m.size,.int .u32 m.sum] 69;clear hm y2 z8 h2;go_wp2_with (first
   |(go_at_call 108;with_reducible refine(y7.o _).mono ?_;rintro e w2⟨rfl,h1⟩)
   |(go_at_call 58;refine(HW.o _<|z6.trans h1<|by simp).mono ?_;rintro e w3⟨rfl,z1⟩))
  go_roundg (n-(i+1))
  ·exact⟨i+1,by omega,rfl,by go_num,Qa<|by rwa[HT.o]⟩
  omega
 obtain rfl:i=n:=by omega
 have g0:¬(i:Int)<i:=by omega
 have h2:=x2.o i;rw[Q8 (by rw[HN.o];exact Ql _)]at h2;have⟨B,h3⟩:=qx<|l.flatMap JS;have HS:=Qa (show Ye w1 w1.heap.size B wr by have:=HB.o;rwa[Q8 (by rw[HN.o];exact Ql _),h3]at this).str;rw[h3]at h2;have HE:=Qa (by unfold UT;rw[h3]:UT gen l=Uw gen 5 0 B);have y4:=Qa (by omega:B.length≤131*16);clear h3 HB h2;go_wp2_with (first
  |(go_at_call 60;with_reducible refine HS.o.mono ?_;rintro e w2⟨rfl,h1⟩)
  |(at_make;refine YZ rfl _ _ 60 rfl 9 (.string ⟨#[]⟩) 16 CY CX rfl .i64 .i64 _ _ 5 5 rfl rfl rfl rfl (Ql _) (by decide) (by decide) ?_;intro w3 y0 x7))
 have⟨y5,y6,HF⟩:=qc ((h5.o.trans h1<|by simp).trans x7<|by simp) (show Qh w3 9 (.slice w2.heap.size 5 5) (BC (fun x=>.string<|str x) (.string ⟨#[]⟩) (Uw gen 5 0 B) 0)from y0)<|show w.heap.size≤w2.heap.size from QS h5.o.size h1.size;clear y0 x7 h1
 go_loopg [11,42] 5 (fun k p1 p3 wr=>(∃i:Nat,i≤5∧k=5-i∧p3=.int .i64 (i:Nat)∧p1=.string (str<|B.drop<|486*i)∧Hid (Qh wr 9 (.slice w2.heap.size 5 5)<|BC (fun x=>.string<|str x) (.string ⟨#[]⟩) (Uw gen 5 0 B) i))∧Hid (Qb [] w wr))
 ·exact⟨⟨0,by omega,rfl,rfl,rfl,y6⟩,y5⟩
 obtain⟨⟨j,hj,p5,rfl,rfl,HR⟩,x1⟩:=hrel
 by_cases z7:j<5
 ·have g3:(j:Int)<5:=by omega
  have⟨L,hL⟩:=qx<|B.drop<|486*j;have p4:L.length≤2200:=by rw[←hL,Y0];have:=y4.o;omega
  have⟨q,hq⟩:=qx<|min L.length 486;have p6:(str L).size=L.length:=rfl;have g4:min (L.length:Int) 486=(q:Int):=by omega
  have s1:=CA (str L) q (q:Int) (by omega) rfl;have s2:=Gp (str L) q (q:Int) (by omega) rfl;have t1:L.take q=L.take 486:=by
   rcases Xq L.length 486 with h|h
   ·rw[Q8<|by omega,Q8<|by omega]
   rw[show q=486 by omega]
  have t2:L.drop q=B.drop (486*(j+1)):=by
   rw[show 486*(j+1)=486*j+486 by omega,←GL,hL];rcases Xq L.length 486 with h|h
   ·rw[JI<|by omega,JI<|by omega]
   rw[show q=486 by omega]
  rw[Uo (str L) 0 q<|by omega,VD,Br,show(str L).data.toList=L from rfl,t1]at s1;rw[Uo (str L) q _<|Ql _,show(str L).data.toList=L from rfl,t2,Q8 (by rw[←t2,Y0];exact Ql _)]at s2;have o:=iS gen 5 0 B j z7;rw[hL,ZE]at o;have x4:=Qa (show ∀W,Calls prog 102 #[.int .u8 4,gen,j,.string<|str<|L.take 486] W fun e w'=>e=.returned (.tuple #[.string<|str<|Vv 4 gen j<|L.take 486,(0:Int)])∧Qb [] W w' from fun W=>Ox 4 gen j (L.take 486) W (by decide) HG.o (by omega) (by rw[Zl];omega));have⟨x,y3⟩:=qx<|Vv 4 gen j<|L.take 486;rw[y3]at o x4;have HX:=Qa o;obtain⟨u,hu⟩:∃u,(BC (fun x=>.string<|str x) (.string ⟨#[]⟩) (Uw gen 5 0 B) j)[j]?=some u:=⟨_,Qj (by have:=HR.o.len;omega)⟩;have HU:=Qa hu;clear t1 t2 o y3 hu;rw[hL];go_wp2_with (go_at_call 102;with_reducible refine(x4.o _).mono ?_;rintro e w5⟨rfl,x8⟩;have h9:=HR.o.kept x8 (by simp);have c5:=h9.aZ HU.o;have f5:=h9.free j)
  go_roundg (5-(j+1))
  ·have hp:=h9.put j<|.string<|str x;rw[vY (fun x=>.string<|str x) (.string ⟨#[]⟩) HX.o]at hp;exact⟨⟨j+1,by omega,rfl,by go_num,rfl,Qa hp⟩,Qa<|(x1.o.trans x8<|by simp).setCell (p:=⟨w2.heap.size,j,none⟩) (.inr HF.o) _⟩
  omega
 obtain rfl:j=5:=by omega
 have g3:¬((5:Nat):Int)<5:=by omega
 have y:=HR.o;have x5:BC (fun x=>.string<|str x) (.string ⟨#[]⟩) (Uw gen 5 0 B) 5=strs (UT gen l):=by rw[HE.o];have h:=vX (fun x=>Value.string<|str x) (.string ⟨#[]⟩)<|Uw gen 5 0 B;rw[show(Uw gen 5 0 B).length=5 by simp[Uw]]at h;exact h
 rw[x5]at y;have y8:=Qa y;clear y x5
 go_wp2
 go_ret2;exact⟨_,rfl,y8.o,x1.o,by simpa[Qd,qo]using HF.o⟩
section
section
variable {d:Nat} {nv pv:VL} {s s':QI} {w w1:WD}
def Q9.refl(a:Dk w d nv pv s):Q9 w d nv pv s w:=⟨nv,pv,a,Qc _ _,QP.refl _ _⟩
def Q9.kept(b:Q9 w d nv pv s w1){a}(k:Qb [] w1 a):Q9 w d nv pv s a:=by obtain⟨f,g,a,c,e⟩:=b;exact⟨f,g,a.kZ k,c.trans k<|by simp,e⟩
def Q9.on(a:Q9 w d nv pv s w1){f:FuncId}{args v}(j:∀b c,Dk w1 d b c s→Calls prog f args w1 fun e w'=>e=.returned v∧Q9 w1 d b c s' w'):
 Calls prog f args w1 fun e w'=>e=.returned v∧Q9 w d nv pv s' w':=by
 obtain⟨b,c,i,g,h⟩:=a;refine(j b c i).mono ?_;rintro e w'⟨c,i,j,g1,b,g3⟩;exact⟨c,i,j,g1,g.trans b (fun c b=>by
  rcases h c b with a|a
  ·exact .inl a
  exact .inr a),h.trans g3 g.size⟩
def II{L:LY}{i0 k}(f:Q9 w d nv pv (s.wr i0<|L.take k) w1){x}(hs:s.Ok)(a:L[k]?=some x)(b:∀x∈L,x.length=512)(hi:i0+L.length≤s.cap)(c:s.lZ+L.length≤1000000000):
 Calls prog 74 #[.pointer d,((i0+k:Nat):Int),.string<|str x] w1 fun e w'=>e=.returned (0:Int)∧Q9 w d nv pv (s.wr i0<|L.take<|k+1) w':=by
 have hk:=(Qz.1 a).1;have c:=QI.Ok.wrL hs (i:=i0) (L:=L.take k) (by rw[Zl];omega) (fun h g=>b h<|VE g) 0 (by rw[Zl];omega);have e:(s.wr i0<|L.take k).tick 0=s.wr i0 (L.take k):=rfl;rw[e]at c;refine f.on fun f f f=>?_
 have:=Qjb f c (i0+k) x (by show i0+k<s.cap;omega)<|b x<|QA a;have b:({s.wr i0 (L.take k)with img:=J2 (s.wr i0<|L.take k).img (i0+k) x,lZ:=(s.wr i0<|L.take k).lZ+1}:QI)=s.wr i0 (L.take<|k+1):=by unfold QI.wr;rw[Zt,a];simp only[Fk,lQ,Qo,Q0,Yg,Zl,show min k L.length=k by omega];simp only[Ja]
 rwa[b]at this
def IJ(a:Q9 w d nv pv s w1)(hs:s.Ok):Calls prog 75 #[.pointer d] w1 fun e w'=>e=.returned (0:Int)∧Q9 w d nv pv (s.tick 1) w':=
 a.on fun a a a=>kC a hs
end
def Ww(v l)(gen d:Nat)(n o s w)(a:Dk w d n o s)(hs:s.Ok)(p:Uf w v l)(q:YN w)(u:gen≤4611686018427387904)(i:∀m∈l,RZ m)(t:U5 l)(c:l.length≤16)(f:ZX s.cap (l.map fun m=>(m.start,m.eZ))=true)(A:ZX 4096 (l.map fun m=>(m.start,m.eZ))=true)(b:10≤s.cap)(k:s.lZ+6≤1000000000):
 Calls prog 38 #[.pointer d,gen,v] w fun e w'=>e=.returned (0:Int)∧Q9 w d n o ((s.wr (gen%2*5)<|UT gen l).tick 1) w':=by
 have⟨x,y,D⟩:=qc (fun b hk=>Cg (w:=b) (a.kZ hk) hs) (tA v l gen w p q u i t c A) fun b hk=>Wa v l s.cap b (p.kZ hk) (q.kept hk<|by simp) (by omega) (by have:=hs.c2;omega) i t c f;have b:¬((s.cap:Nat):Int)=0:=by omega
 have g1:((s.cap:Int)==0)=false:=Zb.2 b;have⟨c,h⟩:=qx<|UT gen l;have j:c.length=5:=by rw[←h];exact CB gen l
 have g:∀b∈c,b.length=512:=by rw[←h];exact OQ gen l
 rw[h]at y ⊢;have⟨i0,z⟩:=qx<|gen%2*5;have:((gen:Int).tmod 2)*5=(i0:Int):=by rw[BU<|by omega];omega
 obtain⟨_,_⟩:((gen:Int)%2)*5=(i0:Int)∧i0≤5:=by omega
 rw[z];have F:=Qa a;have r:=Qa<|Qr hs<|Qr k<|Qr j g;have hlt:=a.lt;go_enter func38,ntmps38;go_wp2_with (first
  |(go_at_call 14;with_reducible refine(x.o _<|Qc _ _).mono ?_;rintro e u⟨rfl,rfl⟩))
 refine y.o.mono ?_;rintro e u⟨a,rfl,C,B,y⟩;have p:=B;obtain⟨a,c1,rfl,-,-,q,z⟩:=C.sees;rw[Vi,r.o.2.2.1]at q ⊢;obtain⟨h,off,rfl,t⟩:=q.at (by rw[Vi,r.o.2.2.1];decide);have A:h∉Q7 d n o:=fun a=>by have:=hlt h a;have:=y h (by rw[←z];simp[fZ]);omega
 have E:=Qa (show ∀a b,c[a]?=some b→u.cell? ⟨h,off+a,none⟩=some (.string<|str b)from fun a b f=>t a _<|Gt f);have G:=Qa A;go_wp2_with (first
  |(go_at_call 14;with_reducible refine(x.o _ p).mono ?_;rintro e y⟨rfl,rfl⟩)
  |(go_at_call 37;with_reducible refine(D.o _ p).mono ?_;rintro e q⟨rfl,t⟩))
 have⟨x,y⟩:=qb (p.trans t<|by simp) (show ∀a b,c[a]?=some b→q.cell? ⟨h,off+a,none⟩=some (.string<|str b)from fun a b f=>t.cZ (E.o a b f)<|by simp);have z:=Qa<|show Q9 q d n o (s.wr i0<|c.take 0) q from Q9.refl (F.o.kZ x.o)
 go_loopg [34] 5 (fun p t wr=>(∃a:Nat,a≤5∧p=5-a∧t=.int .i64 (a:Nat)∧Hid (Q9 q d n o (s.wr i0<|c.take a) wr)))
 ·exact⟨0,by omega,rfl,rfl,z⟩
 obtain⟨a,hi,hk,rfl,n⟩:=hrel;obtain⟨hs,k,j,g⟩:=r.o
 by_cases hlt:a<5
 ·have g3:(a:Int)<5:=by omega
  have⟨b,f⟩:=qy c a (by omega);have cx:wr.cell? ⟨h,off+a,none⟩=some (.string<|str b):=by obtain⟨h,h,-,h,-⟩:=n.o;exact h.cZ (y.o a b f) G.o
  have h:=Qa (II n.o hs f g (by omega)<|by omega);rw[show((i0+a:Nat):Int)=i0+(a:Int)by push_cast;rfl]at h;have u:IntKind.i64.wrap ((i0:Int)+a)=(i0:Int)+a:=by rw[Zz];omega
  go_wp2_with (go_at_call 74;refine h.o.mono ?_;rintro e f⟨rfl,b⟩)
  go_roundg (5-(a+1))
  ·exact⟨a+1,by omega,rfl,by go_num,Qa b⟩
  omega
 obtain rfl:a=5:=by omega
 have g3:¬((5:Nat):Int)<5:=by omega
 have hp:=n.o;rw[Q8<|by omega]at hp;have i:=QI.Ok.wrL hs (i:=i0) (L:=c) (by omega) g 0 (by omega);have a:=Qa<|IJ hp i;go_wp2_with (go_at_call 75;refine a.o.mono ?_;rintro e f⟨rfl,b⟩);go_ret;exact⟨rfl,b.from x.o⟩
end
def kindI(n:Note):Int:=if n.1 then 1 else 2
def Ko(n:Note):VL:=.agg #[.int .i64 (kindI n),str n.2.path,n.2.start,n.2.eZ,n.2.size,.int .u32 n.2.sum]
def Xj(n:Note):LV:=.int .i64 (kindI n)::Zi n.2
def Hc(n:Note):Prop:=n.1=true∧RZ n.2∨n.1=false∧Yp n.2.path=true∧n.2=⟨n.2.path,0,0,0,0⟩
def vO(p:BA)(w):(binOp .eql 69 (.agg #[p,(0:Int),(0:Int),(0:Int),.int .u32 0])<|.agg #[p,(0:Int),(0:Int),(0:Int),.int .u32 0]).run prog w=.ok (.bool true) w:=by rw[run_eql_struct,run_equalIn_agg _ _ _ _ _ (by kernel_rfl)<|by kernel_rfl];simp[Program.fieldsOf,underlying69,Op.eqFields,go_sem,part,U6,Yj,Fv]
def Qix(n w)(h:Hc n):Calls prog 127 #[Ko n] w fun e w'=>e=.returned (.tuple #[str<|AW n,.bool true])∧Qb [] w w':=by
 obtain⟨b,m⟩:=n;rcases h with⟨y,o⟩|⟨y,o,h3⟩
 ·have y:b=true:=y;subst y;have HM:=Qa fun W=>gV m W o;unfold Vd at HM;unfold Ko kindI;simp only[Co];have HP:=Qa<|show AW (true,m)=JS m from rfl;clear o;go_enter func127,ntmps127;go_wp2_with (go_at_call 108;refine(HM.o _).mono ?_;rintro e w2⟨rfl,h5⟩);go_ret2;exact⟨by rw[HP.o];rfl,((Qc [] w).alloc _).trans h5<|by simp⟩
 have y:b=false:=y;subst y;have⟨p,hp⟩:=qx m.path;simp only at o h3;rw[hp]at o h3;subst h3;have HC:=Qa fun W=>FE (str p) W (by have:=(YK o).2.2;show p.length≤_;omega);rw[show Un (str p).data.toList=0 by unfold Un;rw[show Yp (str p).data.toList=true from o];rfl]at HC;unfold Ko kindI;simp only[Bool.false_eq_true,Ew];have HP:=Qa<|show AW (false,⟨p,0,0,0,0⟩)=p from rfl;have h4:=vO<|str p;clear o hp;go_enter func127,ntmps127;go_wp2_with fail;have⟨W,hW⟩:=qx<|w.alloc<|.cells #[(2:Int),.string<|str p,(0:Int),(0:Int),(0:Int),.int .u32 0] 104;have A:=Qy w [(2:Int),.string<|str p,(0:Int),(0:Int),(0:Int),.int .u32 0] 104;have hk:=(Qc [] w).alloc<|.cells #[(2:Int),.string<|str p,(0:Int),(0:Int),(0:Int),.int .u32 0] 104;have⟨b,hb⟩:=qx w.heap.size;change Qe (w.alloc<|.cells #[(2:Int),.string<|str p,(0:Int),(0:Int),(0:Int),.int .u32 0] 104) _ _ _ at A;rw[hW]at A hk ⊢;rw[hb]at A ⊢;have H0:=fun w' (hk:Qb [] W w')=>hk.cZ (A.cell (i:=1) (u:=.string<|str p) rfl) (by simp)
 have H1:=fun w' (hk:Qb [] W w')=>hk.cZ (A.cell (i:=2) (u:=.int .i64 0) rfl) (by simp)
 have H2:=fun w' (hk:Qb [] W w')=>hk.cZ (A.cell (i:=3) (u:=.int .i64 0) rfl) (by simp)
 have H3:=fun w' (hk:Qb [] W w')=>hk.cZ (A.cell (i:=4) (u:=.int .i64 0) rfl) (by simp)
 have H4:=fun w' (hk:Qb [] W w')=>hk.cZ (A.cell (i:=5) (u:=.int .u32 0) rfl) (by simp)
 refine KW W (by kernel_rfl) (by kernel_rfl) (Qc _ _) ?_
 repeat
  first
   |go_big_quiet_skip
   |(go_big_quiet_want
     go_big_quiet_op
     first
      |go_big_quiet_on
      |(apply Exists.intro
        refine⟨fun wq q=>?_,?_⟩
        ·first
          |with_reducible rfl
          |(go_at_call 17;exact Calls.keptK q<|HC.o wq)
          |(simp only[h4];exact⟨rfl,rfl⟩)
          |(simp only[H0 wq q,H1 wq q,H2 wq q,H3 wq q,H4 wq q,UF];exact⟨trivial,rfl⟩)
        go_big_quiet_on))
 refine wpQuiet_nil ?_;intro wq q
 go_wp2
 go_ret2;exact⟨rfl,hk.trans q<|by simp⟩
def vJ:∀x,(Xj x).length=6:=fun _=>rfl
def WN{w a n l}(d:Qp w 6 a n (Qx Xj l)){i x}(b:l[i]?=some x):
 ∃g off,a=some ⟨g,off,none⟩∧∀j u,(Xj x)[j]?=some u→w.cell? ⟨g,off+i*6+j,none⟩=some u:=by
 have e:∀j u,(Xj x)[j]?=some u→(Qx Xj l)[i*6+j]?=some u:=fun j u c=>by rw[Va vJ l i j x b (by have:=(Qz.1 c).1;exact this),c]
 obtain⟨g,off,b,c0⟩:=d.2 _ _<|e 0 (.int .i64<|kindI x) rfl;subst b;refine⟨g,off,rfl,fun j u c=>?_⟩;obtain⟨b,b,b,f⟩:=d.2 _ _<|e j u c;injection b with b;injection b with b e3;subst b e3;rwa[Ja]
def K.gI(gen:Nat):∀(ns:List Note)(i k:Nat)(n:Note),ns[k]?=some n→(JX gen i ns)[k]?=some (Vv (if n.1 then 1 else 2) gen (i+k)<|AW n)
 | [],_,_,_,h=>by simp at h
 |m::ns,i,0,n,h=>by simp at h;subst h;simp[JX]
 |m::ns,i,k+1,n,h=>by rw[JX,V3,gI gen ns (i+1) k n<|by simpa using h,show i+1+k=i+(k+1)by omega]
def Qcg{n}(a:Hc n):(AW n).length≤131:=by
 refine eU ?_;rcases a with⟨-,a⟩|⟨-,a,-⟩
 ·exact(YK a.ok).2.2
 exact(YK a).2.2
def Qiw(g off cc ns)(gen nx d:Nat)(E F s w)(m:Dk w d E F s)(hs:s.Ok)(h:Qp w 6 (some ⟨g,off,none⟩) ns.length (Qx Xj ns))(p:gen≤4611686018427387904)(x:∀n∈ns,Hc n)(Z:1≤ns.length)(k:ns.length+nx+1≤20)(a:30≤s.cap)(v:s.lZ+30≤1000000000):
 Calls prog 88 #[.pointer d,gen,nx,.slice (some ⟨g,off,none⟩) ns.length cc] w fun e w'=>e=.returned (.tuple #[((nx+ns.length+1:Nat):Int),(0:Int)])∧Q9 w d E F ((s.wr (10+nx)<|RJ gen nx ns).tick 1) w':=by
 have r:=Qa<|Cg m hs;have⟨n,i⟩:=qx ns.length;have a:¬((s.cap:Nat):Int)=0:=by omega
 have g1:((s.cap:Int)==0)=false:=Zb.2 a;have⟨j,a⟩:=qx<|RJ gen nx ns;have t:j.length=n+1:=by rw[←a,Cx,i]
 have l:∀c∈j,c.length=512:=by
  rw[←a];exact gH gen nx fun b q=>by
   rcases x b q with⟨-,h⟩|⟨-,h,-⟩
   ·exact(YK h.ok).2.2
   exact(YK h).2.2
 have o:j=JX gen nx ns++[Vv 3 gen (nx+n) [UInt8.ofNat n]]:=by rw[←a,RJ,i]
 have y:(JX gen nx ns).length=n:=by rw[Ow,i]
 rw[i]at h Z k ⊢;rw[a];have⟨D,W,R,A,C⟩:=qe i m (Qr hs<|Qr v<|Qr t<|Qr l<|Qr o y) x h;have hlt:=m.lt;have X:=Qa hlt;obtain⟨_,q2,f⟩: ¬(nx:Int)<0∧¬(20:Int)<nx∧¬(n:Int)=0:=by omega
 have:((n:Int)==0)=false:=Zb.2 f;have:¬(20:Int)-nx≤(n:Int):=by omega
 have P:=Qa p;have z:=Qa (show ∀f,Calls prog 65 #[gen] f fun e w'=>e=.returned (.bool true)∧w'=f from fun f=>by
  obtain⟨_,_⟩:(0:Int)≤gen∧(gen:Int)≤4611686018427387904:=by omega
  clear m hs h x p l o a hlt W R A C X r;go_enter func65,ntmps65
  go_wp2
  go_ret;exact⟨rfl,rfl⟩)
 clear m hs h x p v t l o y a i hlt;go_enter func88,ntmps88;go_wp2_with (first
  |(go_at_call 14;with_reducible refine r.o.mono ?_;rintro e w⟨rfl,rfl⟩)
  |(go_at_call 65;refine(z.o _).mono ?_;rintro e w⟨rfl,rfl⟩))
 go_loopg [10,51] n (fun U i m wr=>(∃(a:Nat)(z:VL),a≤n∧U=n-a∧z=i∧m=.int .i64 (a:Nat)∧Hid (Qh wr 9 z<|strs<|(JX gen nx ns).take a)∧Hid (∀c∈Qd z,w.heap.size≤c))∧Hid (Qb [] w wr))
 ·exact⟨⟨0,_,by omega,by omega,rfl,rfl,Qa<|Qh.nil _ _,Qa<|by simp[Qd,qo]⟩,Qa<|Qc _ _⟩
 obtain⟨⟨a,z,hi,hk,rfl,rfl,Q,G⟩,B⟩:=hrel
 by_cases hlt:a<n
 ·have h5:(a:Int)<n:=by omega
  have⟨b,q⟩:=qy ns a (by have:=D.o;omega);have p:=A.o b<|QA q;obtain⟨i,i,i,m⟩:=WN (C.o.kZ B.o) q;injection i with i;injection i with i ee2;subst i ee2;obtain⟨i,k1,k2,k3⟩:∃i:UInt8,kindI b=(i.toNat:Int)∧i≠0∧(if b.1 then(1:UInt8)else 2)=i:=by
   unfold kindI;cases b.1
   ·exact⟨2,rfl,by decide,rfl⟩
   exact⟨1,rfl,by decide,rfl⟩
  have:i.toNat<256:=i.toNat_lt;have c0:=m 0 (i.toNat:Int) (by simp[Xj,k1]);have c1:=m 1 (.string<|str b.2.path) rfl;have c2:=m 2 (.int .i64 b.2.start) rfl;have c3:=m 3 (.int .i64 b.2.eZ) rfl;have:=m 4 (.int .i64 b.2.size) rfl;have Y:=m 5 (.int .u32 b.2.sum) rfl;rw[Jb]at c0;have m:=fun f=>Qix b f p
  unfold Ko at m;rw[k1]at m;have h3:=Qa m;have r:=fun f=>Ox i gen (nx+a) (AW b) f k2 P.o (by omega) (by have:=Qcg p;omega)
  rw[show((nx+a:Nat):Int)=nx+(a:Int)by push_cast;rfl]at r;have H:=Qa r;have⟨c,k⟩:=qx<|Vv i gen (nx+a)<|AW b;rw[k]at H;have p:=gI gen ns nx a b q;rw[k3,k]at p;have h4:=Qa (by rw[Zt,p];simp[strs]:strs ((JX gen nx ns).take<|a+1)=strs ((JX gen nx ns).take a)++[.string<|str c]);have:IntKind.u8.wrap (i.toNat:Int)=i.toNat:=by rw[CN];omega
  have h8:IntKind.i64.wrap ((nx:Int)+a)=(nx:Int)+a:=by rw[Zz];omega
  have C:(strs<|(JX gen nx ns).take a).length≤100:=by rw[Vi,Zl];omega
  have S:(strs<|(JX gen nx ns).take a).length+1≤maxLen:=by simp only[maxLen];omega
  have T:((strs<|(JX gen nx ns).take a).length+1)*16≤140737488355328:=by omega
  have A:=Qy wr [(i.toNat:Int),.string<|str b.2.path,.int .i64 b.2.start,.int .i64 b.2.eZ,.int .i64 b.2.size,.int .u32 b.2.sum] 104;have h1:=Qa A;have D:=(Qc [] wr).alloc<|.cells #[(i.toNat:Int),.string<|str b.2.path,.int .i64 b.2.start,.int .i64 b.2.eZ,.int .i64 b.2.size,.int .u32 b.2.sum] 104;have h2:=Qa D;clear m r k p D A C k1 k2 k3 q;go_wp2_with (first
   |(go_at_call 127;with_reducible refine(h3.o _).mono ?_;rintro e x0⟨rfl,b⟩;have m:=h1.o.kept b (by simp);have:=m.cell (i:=0) (u:=.int .i64 (i.toNat:Int)) rfl)
   |(go_at_call 102;with_reducible refine(H.o _).mono ?_;rintro e V⟨rfl,L⟩;have p:=(h2.o.trans b<|by simp).trans L (by simp);have O:=Q.o.kept p<|by simp)
   |(at_builtin;refine ES V rfl _ _ 60 rfl 9 (.string ⟨#[]⟩) 16 CY CX rfl z (.string<|str c) (strs<|(JX gen nx ns).take a) rfl rfl rfl rfl O S T ?_;intro C Y A M J I))
  go_roundg (n-(a+1))
  ·refine⟨⟨a+1,_,by omega,rfl,rfl,by go_num,Qa ?_,Qa ?_⟩,Qa<|(B.o.trans p<|by simp).trans J fun m i=>.inr<|G.o m i⟩
   ·rw[h4.o];exact M
   intro m i;simp[Qd,qo]at i;subst i;rcases I with h|h
   ·exact G.o _ h
   have:=B.o.size;have:=p.size;omega
  omega
 obtain rfl:a=n:=by omega
 have h5:¬(a:Int)<a:=by omega
 obtain⟨hs,v,t,l,o,y⟩:=R.o;obtain⟨b,h2,h3⟩:∃b:UInt8,(b.toNat:Int)=a∧UInt8.ofNat a=b:=⟨UInt8.ofNat a,by rw[U7,XP<|by omega],rfl⟩;have:IntKind.u8.wrap (a:Int)=(b.toNat:Int):=by rw[CN];omega
 have h8:IntKind.i64.wrap ((nx:Int)+a)=(nx:Int)+a:=by rw[Zz];omega
 have h8:=fun f=>Db f b
 have r:=fun f=>Ox 3 gen (nx+a) [b] f (by decide) P.o (by omega) (by simp)
 rw[show((nx+a:Nat):Int)=nx+(a:Int)by push_cast;rfl]at r;have⟨c,k⟩:=qx<|Vv 3 gen (nx+a) [b];rw[k]at r;rw[h3,k]at o;have H:=Qa (show ∀f,Calls prog 102 #[.int .u8 3,gen,.int .i64<|(nx:Int)+a,.string ⟨#[b]⟩] f fun e w'=>e=.returned (.tuple #[.string<|str c,(0:Int)])∧Qb [] f w' from r);have⟨f,h1⟩:=qx<|JX gen nx ns;have P:=Q.o;rw[h1]at o y P;rw[Q8<|by omega]at P;have h5:=Qa P;have:(strs f).length=a:=by rw[Vi,y]
 have S:(strs f).length+1≤maxLen:=by simp only[maxLen];omega
 have T:((strs f).length+1)*16≤140737488355328:=by omega
 have h4:=Qa (by rw[o];simp[strs]:strs j=strs f++[.string<|str c]);have D:=(Qc [] wr).alloc<|.cells #[.int .u8 (b.toNat:Int)] 5;have:=Qa h2;clear hs v t l o y h3 r k h1 P Q h2;go_wp2_with (first
  |(go_at_call 102;with_reducible refine(H.o _).mono ?_;rintro e V⟨rfl,L⟩;have p:=D.trans L (by simp);have O:=h5.o.kept p<|by simp)
  |(at_builtin;refine ES V rfl _ _ 60 rfl 9 (.string ⟨#[]⟩) 16 CY CX rfl z (.string<|str c) (strs f) rfl rfl rfl rfl O S T ?_;intro C Y A M J I))
 have o:=Qa<|(B.o.trans p<|by simp).trans J fun m i=>.inr<|G.o m i;have f:=Qa (show ∀b c,j[b]?=some c→A.cell? ⟨C,b,none⟩=some (.string<|str c)from fun b c k=>M.aZ (by rw[←h4.o];exact Gt k));have k:=Qa (show C∉Q7 d E F from fun q=>by
  have Z:=X.o C q;rcases I with h|h
  ·have:=G.o _ h;omega
  have:=B.o.size;have:=p.size;omega)
 have c:=Qa<|show Q9 A d E F (s.wr (10+nx)<|j.take 0) A from Q9.refl (W.o.kZ o.o);clear M J I L p O D h8
 go_loopg [99] (a+1) (fun U p h=>(∃b:Nat,b≤a+1∧U=a+1-b∧p=.int .i64 (b:Nat)∧Hid (Q9 A d E F (s.wr (10+nx)<|j.take b) h)))
 ·exact⟨0,by omega,rfl,rfl,c⟩
 obtain⟨b,c,c,rfl,c⟩:=hrel;obtain⟨hs,v,t,l,-,-⟩:=R.o
 by_cases h:b<a+1
 ·have p:(b:Int)<a+1:=by omega
  have⟨m,i⟩:=qy j b (by omega);have cx:wr.cell? ⟨C,b,none⟩=some (.string<|str m):=by obtain⟨h,h,-,h,-⟩:=c.o;exact h.cZ (f.o b m i) k.o
  have h:=Qa (II c.o hs i l (by omega)<|by omega);rw[show((10+nx+b:Nat):Int)=10+(nx:Int)+b by push_cast;rfl]at h;have:IntKind.i64.wrap (10+(nx:Int)+b)=10+(nx:Int)+b:=by rw[Zz];omega
  have k:IntKind.i64.wrap (10+(nx:Int))=10+(nx:Int):=by rw[Zz];omega
  clear i hs v t l;go_wp2_with (go_at_call 74;refine h.o.mono ?_;rintro e k⟨rfl,f⟩)
  go_roundg (a+1-(b+1))
  ·exact⟨b+1,by omega,rfl,by go_num,Qa f⟩
  omega
 obtain rfl:b=a+1:=by omega
 have p:¬((a:Int)+1)<(a:Int)+1:=by omega
 have hp:=c.o;rw[Q8<|by omega]at hp;have x:=QI.Ok.wrL hs (i:=10+nx) (L:=j) (by omega) l 0 (by omega);have b:=Qa<|IJ hp x;have A:IntKind.i64.wrap ((nx:Int)+a+1)=(nx:Int)+a+1:=by rw[Zz];omega
 clear hs v t l hp x;go_wp2_with (go_at_call 75;refine b.o.mono ?_;rintro e k⟨rfl,f⟩);go_ret2;exact⟨rfl,f.from o.o⟩
