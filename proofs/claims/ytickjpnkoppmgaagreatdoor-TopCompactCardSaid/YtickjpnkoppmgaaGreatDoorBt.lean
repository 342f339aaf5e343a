import Derived.Test.YtickjpnkoppmgaaGreatDoorBs
set_option linter.all false
set_option maxHeartbeats 2000000
set_option maxRecDepth 100000
namespace Go.Proofs.YtickjpnkoppmgaaGreatDoor
open Go.Proofs.Tryz Go.RowKit K
def K.Vy(l:LU):Nat:=l.foldl (fun b a=>10*b+(a.toNat-48)) 0
def vA(l w)(h0:l≠[])(v:l.length≤9)(j:∀b∈l,48≤b.toNat∧b.toNat≤57)(o:∀b,l[0]?=some b→49≤b.toNat):
 Calls prog 131 #[str l] w fun e w'=>e=.returned (.tuple #[(Vy l:Nat),(0:Int)])∧w'=w:=by
 have n:(str l).size=l.length:=rfl;have g:0<l.length:=Lu.2 h0;have hne:(str l).toList.isEmpty=false:=CD _ g;have u:∀a (c:a<l.length),(str l)[a]'c=l[a]:=fun a c=>rfl
 have k:∀a (c:a<l.length),Vy (l.take<|a+1)=10*Vy (l.take a)+(l[a].toNat-48):=fun a c=>by rw[Zt,Qj c];unfold Vy;rw[DK];rfl
 have q:∀a,a≤l.length→Vy (l.take a)<10^a:=fun a=>by
  induction a with
  |zero=>intro _;simp[Vy]
  |succ a ih=>intro hk;have c:=ih (by omega);rw[k a<|by omega,J5];have:=j _<|XV (by omega:a<l.length);omega
 have p:∀a,a≤l.length→Vy (l.take a)<1000000000:=fun a hk=>Az (q a hk) (QS (Jc (by decide) (by omega:a≤9))<|by decide)
 have⟨r,t,i⟩:=qc j k p;have⟨h,hs⟩:=qx<|str l;have m:=Qa (show ∀a (c:a<l.length),∀f,(Instr.index 9 (.string h)<|.int .i64 (a:Int)).run prog f=.ok (.int .u8 (l[a].toNat:Nat)) f from fun a c=>by rw[←hs];exact Ux (str l) a (a:Int) c rfl);rw[hs]at n hne ⊢;have⟨d,c⟩:=qx l.length;have s:∀f,(Instr.index 9 (.string h) (0:Int)).run prog f=.ok (.int .u8 (l[0].toNat:Nat)) f:=m.o 0 g;have h:¬((l[0].toNat:Nat):Int)=48:=by have:=o _<|Qj g;omega
 have x:(((l[0].toNat:Nat):Int)==48)=false:=Zb.2 h;have⟨c0,f⟩:=qx<|l[0].toNat;rw[f]at s h x;have s:=Qa (by rw[←c,VG]:Vy (l.take d)=Vy l);rw[c]at n v;have n:=Qa c;clear u k q p j o hs c g f h0;go_enter func131,ntmps131
 go_wp2
 go_loopg [4,5,19] d (fun a g c f wr=>(∃c:Nat,c≤d∧a=d-c∧g=.int .i64 (Vy (l.take c):Nat)∧f=.int .i64 (c:Nat))∧w=wr)
 ·exact⟨⟨0,by omega,by omega,rfl,rfl⟩,rfl⟩
 obtain⟨⟨c,hi,hk,rfl,rfl⟩,rfl⟩:=hrel
 by_cases hlt:c<d
 ·have k:(c:Int)<d:=by omega
  have a:c<l.length:=by rw[n.o];exact hlt
  have i0:=m.o c a;have m:=r.o _<|XV a;have g:=t.o c a;have hb:=i.o c (by omega);have h:=i.o (c+1) (by omega);rw[g]at h;have⟨b,j⟩:=qx<|l[c].toNat;have⟨a,f⟩:=qx<|Vy<|l.take c;rw[j]at i0 m g h;rw[f]at g hb h ⊢;have h:=Qa g;obtain⟨g1,_,g3⟩: ¬(b:Int)<48∧¬(57:Int)<b∧(a:Int)≤9007199254740992:=by omega
  have:IntKind.u8.wrap ((b:Int)-48)=(b:Int)-48:=by rw[CN];omega
  have:IntKind.i64.wrap ((b:Int)-48)=(b:Int)-48:=by rw[Zz];omega
  clear g f j
  go_wp2
  go_roundg (d-(c+1))
  ·exact⟨⟨c+1,by omega,rfl,by rw[h.o];congr 1;omega,by go_num⟩,rfl⟩
  omega
 obtain rfl:c=d:=by omega
 have k:¬(c:Int)<c:=by omega
 have hb:=i.o c (by rw[n.o];exact Ql _);rw[s.o]at hb ⊢;have⟨a,f⟩:=qx<|Vy l;rw[f]at hb ⊢;have g3:¬(9007199254740992:Int)<a:=by omega
 have a:=Qa f;clear f
 go_wp2
 go_ret2;exact⟨by rw[a.o];rfl,rfl⟩
def oV(v:LU)(w:WD)(e:Ending)(w':WD):Prop:=
 ∃a b,e=.returned (.tuple #[.slice (some ⟨a,0,none⟩) 1 b,(0:Int)])∧w'.cell? a=some (.string ⟨#[112,97,116,104]⟩)∧w'.cell? ⟨a,1,none⟩=some (.string (str v))∧Qb [] w w'
def qC:(prog.info? 172).map (fun i=>(i.zero,i.size,i.bytes))=some (some<|.agg #[.string ⟨#[]⟩,.string ⟨#[]⟩],2,32):=by kernel_rfl
def Qir(n)(a:n<1000):Vy (VR n)=n:=by
 have b:∀a,a<10→(UInt8.ofNat<|48+a).toNat=48+a:=fun a a=>by rw[U7,XP<|by omega]
 simp only[Vy,VR,BW,List.foldl_nil];rw[b _<|by omega,b _<|by omega,b _<|by omega];omega
def Qeh(v w)(t:JF w)(y:100<v.length)(z:v.length≤200):Calls prog 94 #[str<|ZY v] w (oV v w):=by
 have⟨b,q⟩:=qx v.length;have C:=Gi v;obtain⟨g,B⟩:=t.1;have⟨d,i⟩:=qx<|VR<|b+10;have l:ZY v=d++32::(Y6++61::(v++[10])):=by unfold ZY;rw[q,i];simp[Y6]
 have f:d.length=3:=by rw[←i];rfl
 have p:∀a∈d,48≤a.toNat∧a.toNat≤57:=by rw[←i];exact vB _ (by omega)
 have s:Vy d=b+10:=by rw[←i];exact Qir _ (by omega)
 have r:∀a,d[0]?=some a→49≤a.toNat:=fun a hb=>by rw[←i]at hb;simp only[VR,List.getElem?_cons_zero,Option.some.injEq]at hb;rw[←hb,U7,XP<|by omega];omega
 have h:=Qa fun a (k:a.cell? ⟨0,0,none⟩=some (.int .i64 g))=>Tryz.strCut (str<|ZY v) ⟨#[32]⟩ g a (by show(ZY v).length<_;omega) k;rw[show(str<|ZY v).data.toList=ZY v from rfl,show(⟨#[32]⟩:BA).data.toList=[32]from rfl,l,Wx 32 d _ (fun o=>by have:=p _ o;revert this;decide),←l]at h;have⟨c,e⟩:=qx<|Y6++61::(v++[10]);rw[e]at h;have⟨h,m⟩:=qb (show ∀a,a.cell? ⟨0,0,none⟩=some (.int .i64 g)→Calls prog 130 #[str<|ZY v,.string ⟨#[32]⟩] a fun e n=>e=.returned (.tuple #[.string<|str d,.string<|str c,.bool true])∧∃b,n=a.drewN b from h.o) fun a (k:a.cell? ⟨0,0,none⟩=some (.int .i64 g))=>Tryz.strCut (str<|Y6++61::v) ⟨#[61]⟩ g a (by show(Y6++61::v).length<_;simp[Y6];omega) k;rw[show(str<|Y6++61::v).data.toList=Y6++61::v from rfl,show(⟨#[61]⟩:BA).data.toList=[61]from rfl,Wx 61 Y6 v<|by decide]at m;have⟨m,n⟩:=qb (show ∀a,a.cell? ⟨0,0,none⟩=some (.int .i64 g)→Calls prog 130 #[str<|Y6++61::v,.string ⟨#[61]⟩] a fun e n=>e=.returned (.tuple #[str Y6,str v,.bool true])∧∃b,n=a.drewN b from m.o) fun a=>vA d a (fun e=>by rw[e]at f;cases f) (by omega) p r;rw[s]at n;have⟨c,k⟩:=qx<|str<|ZY v;have⟨N,u⟩:=qx<|b+10;have D:c.size=N:=by rw[←k];show(ZY v).length=_;omega
 have hne:c.toList.isEmpty=false:=by rw[←k];exact CD _ (by show 0<(ZY v).length;omega)
 have i0:=Ux c (b+9) ((N:Int)-1) (by omega) (by omega);have x:c[b+9]'(by omega)=10:=by
  have o:(ZY v)[b+9]?=some 10:=by rw[l,Zx<|by omega,f,show b+9-3=(b+5)+1 by omega,V3,Zx<|by simp[Y6],show b+5-Y6.length=b+1 by simp[Y6],V3,Zx<|by omega,q,ZO];rfl
  obtain⟨A,A⟩:=Qz.1 o;subst k;exact A
 rw[x]at i0;have A:=Gq c 4 (b+9) 4 ((N:Int)-1) (by omega) (by omega) rfl (by omega);have o:c.extract 4 (b+9)=str (Y6++61::v):=by
  rw[Uo c 4 (b+9)<|by omega,show c.data.toList=ZY v by rw[←k];rfl,l]
  congr 1
  rw[show d++32::(Y6++61::(v++[10]))=(d++[32])++((Y6++61::v)++[10])by simp,EZ,JI<|by simp[f],Yy,show List.length (d++[(32:UInt8)])=4 by simp[f],ZO,VD,Sc (by simp[Y6];omega),Q8 (by simp[Y6];omega)]
 rw[o]at A;have A:=Gp c N (N:Int) (by omega) rfl;have b:c.extract N c.size=⟨#[]⟩:=by rw[Uo c N c.size<|Ql _,D,ZO,LC];rfl
 rw[b]at A;rw[k]at h ⊢;rw[u]at n;have:(str d).size=3:=f;have A:IntKind.i64.wrap ((N:Int)-1)=(N:Int)-1:=by rw[Zz];omega
 have g1:¬(262144:Int)<N:=by omega
 have:¬(N:Int)<5:=by omega
 have g3:¬(N:Int)<N:=by omega
 have:(str Y6).toList.isEmpty=false:=CD _ (by decide);go_enter func94,ntmps94;go_wp2_with fail
 go_step3
 go_wp2_with fail
 go_step3
 go_wp2
 go_loopg [0,4] 1 (fun b d i wr=>(b=1∧d=.string c∧i=.slice none 0 0∨b=0∧d=.string ⟨#[]⟩∧∃b f,i=.slice (some ⟨b,0,none⟩) 1 f∧Hid (wr.cell? b=some (.string ⟨#[112,97,116,104]⟩))∧Hid (wr.cell? ⟨b,1,none⟩=some (.string<|str v)))∧Hid (Qb [] w wr))
 ·exact⟨.inl ⟨rfl,rfl,rfl⟩,Qa<|Qc _ _⟩
 obtain⟨⟨hk,rfl,rfl⟩|⟨hk,rfl,b,f,rfl,i,k⟩,d⟩:=hrel
 ·have hb:=d.o.cZ B (by simp);go_wp2_with (first
   |(go_at_call 130;with_reducible refine(h.o _ hb).mono ?_;rintro e A⟨rfl,c,rfl⟩)
   |(go_at_call 131;with_reducible refine(n.o _).mono ?_;rintro e l⟨rfl,rfl⟩))
  have h:(wr.drewN c).cell? ⟨0,0,none⟩=some (.int .i64 g):=hb;refine(m.o _ h).mono ?_;rintro e e⟨rfl,q2,rfl⟩;have g:Qb [] w ((wr.drewN c).drewN q2):=(d.o.drewN c).drewN q2;have⟨a,e⟩:=qx<|(wr.drewN c).drewN q2;rw[e]at g;rw[e];have l:=Qa g;go_wp2_with (at_builtin;(refine RO a rfl _ _ 168 rfl 172 (.agg #[.string ⟨#[]⟩,.string ⟨#[]⟩]) 2 32 underlying168 qC rfl (by decide) (.slice none 0 0) 0 [] [str Y6,str v] rfl rfl rfl rfl (by intro o e;simp at e;rcases e with rfl|rfl<;>rfl) (Qn.nil _ _ _) (by decide) (by decide) ?_;intro h g p c m n))
  go_roundg 0
  ·exact⟨.inr ⟨rfl,rfl,h,g,rfl,Qa<|c.aZ (j:=0) rfl,Qa<|c.aZ (j:=1) rfl⟩,Qa<|l.o.trans m<|by simp[Qd,qo]⟩
  omega
 go_wp2_with fail;rw[UX];go_ret2;exact⟨b,f,rfl,i.o,k.o,d.o⟩
def ON(pre name d kind k size w)(n:(0:UInt8)∉name)(hp:(0:UInt8)∉pre)(a:name.length≤100)(c:pre.length≤155)(hk:kind≠0)(hs:size<1000000000)(g:1≤name.length)(b:d.length≤1000000):
 Calls prog 93 #[str<|XL pre name kind size++d,.int .u8 k.toNat] w fun e w'=>e=.returned (.tuple #[RF (str<|JV pre name) kind size,.bool<|decide<|kind=k])∧Qb [] w w':=by
 have h:=Qa fun f=>Qid pre name kind size f n hp a c hk hs g;have j:=RE kind size a c;have⟨a,l⟩:=qx<|XL pre name kind size;rw[l]at h j ⊢;have⟨c,g⟩:=qx<|str<|a++d;have o:c.size=512+d.length:=by rw[←g];show(a++d).length=_;rw[Qo,j]
 have m:=CA c 512 512 (by omega) rfl;rw[Uo c 0 512<|by omega,VD,Br,show c.data.toList=a++d by rw[←g];rfl,show(a++d).take 512=a by rw[←j];exact CQ]at m;have:¬((c.size:Nat):Int)<512:=by omega
 have⟨m,c⟩:=qx<|decide<|kind=k;have:((kind.toNat:Int)==(k.toNat:Int))=m:=by
  rw[←c]
  by_cases a:kind=k
  ·subst a;simp
  rw[Xz a];exact Zb.2 (fun e=>a<|CZ.1<|by omega)
 have⟨pj,a⟩:=qx<|str<|JV pre name;unfold RF at h ⊢;rw[a]at h ⊢;rw[g,c];clear n hp hk g l j o a c b;go_enter func93,ntmps93;go_wp2_with (go_at_call 129;with_reducible refine(h.o _).mono ?_;rintro e g⟨rfl,j⟩);have d:=Qy g [.string pj,size,.int .u8 kind.toNat,(420:Int),(0:Int),.string ⟨#[]⟩,.string ⟨#[]⟩,.string ⟨#[]⟩,(0:Int),(0:Int)] 165;have a:=((Qy w [.string ⟨#[]⟩,(0:Int),.int .u8 0,(0:Int),(0:Int),.string ⟨#[]⟩,.string ⟨#[]⟩,.string ⟨#[]⟩,(0:Int),(0:Int)] 165).kept j<|by simp).kept ((Qc [] g).alloc<|.cells ([.string pj,size,.int .u8 kind.toNat,(420:Int),(0:Int),.string ⟨#[]⟩,.string ⟨#[]⟩,.string ⟨#[]⟩,(0:Int),(0:Int)]:LV).toArray 165) (by simp);have n:=(((Qc [] w).alloc _).trans j<|by simp).alloc<|.cells ([.string pj,size,.int .u8 kind.toNat,(420:Int),(0:Int),.string ⟨#[]⟩,.string ⟨#[]⟩,.string ⟨#[]⟩,(0:Int),(0:Int)]:LV).toArray 165;have l:=j.size;simp only[Vo]at l;have⟨f,o⟩:=qx<|g.alloc<|.cells ([.string pj,size,.int .u8 kind.toNat,(420:Int),(0:Int),.string ⟨#[]⟩,.string ⟨#[]⟩,.string ⟨#[]⟩,(0:Int),(0:Int)]:LV).toArray 165;rw[o]at d a n;change Code.wp _ _ _ _ (g.alloc<|.cells ([.string pj,size,.int .u8 kind.toNat,(420:Int),(0:Int),.string ⟨#[]⟩,.string ⟨#[]⟩,.string ⟨#[]⟩,(0:Int),(0:Int)]:LV).toArray 165);rw[o];have⟨c,b⟩:=qx w.heap.size;have⟨h,hb⟩:=qx g.heap.size;rw[hb]at d l;rw[b]at a l;have:=d.cell (i:=0) rfl;have:=a.free 0;have z0:=a.cell (i:=0) rfl;have:=d.cell (i:=1) rfl;have:=a.free 1;have:=a.cell (i:=1) rfl;have:=d.cell (i:=2) rfl;have:=a.free 2;have z2:=a.cell (i:=2) rfl;have:=d.cell (i:=3) rfl;have:=a.free 3;have z3:=a.cell (i:=3) rfl;have:=d.cell (i:=4) rfl;have:=a.free 4;have z4:=a.cell (i:=4) rfl;have:=d.cell (i:=5) rfl;have:=a.free 5;have z5:=a.cell (i:=5) rfl;have:=d.cell (i:=6) rfl;have:=a.free 6;have:=a.cell (i:=6) rfl;have:=d.cell (i:=7) rfl;have:=a.free 7;have:=a.cell (i:=7) rfl;have:=d.cell (i:=8) rfl;have r8:=a.free 8;have:=a.cell (i:=8) rfl;have:=d.cell (i:=9) rfl;have:=a.free 9;have z9:=a.cell (i:=9) rfl;obtain⟨ne1,ne2⟩: ¬c=h∧¬h=c:=by omega
 have⟨h,q,g⟩:=qc a n b;clear d a n j l o
 go_region
 all_goals
  go_wp2_with fail;have a:Qe f c 165 [.string ⟨#[]⟩,(0:Int),.int .u8 0,(0:Int),(0:Int),.string ⟨#[]⟩,.string ⟨#[]⟩,.string ⟨#[]⟩,(0:Int),(0:Int)]:=h.o;have a:=a.set 0<|.string pj;have a:=a.set 1 size;have a:=a.set 2<|.int .u8 kind.toNat;have a:=a.set 3 (420:Int);have a:=a.set 4 (0:Int);have a:=a.set 5<|.string ⟨#[]⟩;have a:=a.set 6<|.string ⟨#[]⟩;have a:=a.set 7<|.string ⟨#[]⟩;have a:=a.set 8 (0:Int);have a:=a.set 9 (0:Int);have d:=a.cell (i:=0) (u:=.string pj) rfl;have f:=a.cell (i:=1) (u:=.int .i64 size) rfl;have h:=a.cell (i:=2) (u:=.int .u8 kind.toNat) rfl;have j:=a.cell (i:=3) (u:=.int .i64 420) rfl;have l:=a.cell (i:=4) (u:=.int .i64 0) rfl;have n:=a.cell (i:=5) (u:=.string ⟨#[]⟩) rfl;have o:=a.cell (i:=6) (u:=.string ⟨#[]⟩) rfl;have r:=a.cell (i:=7) (u:=.string ⟨#[]⟩) rfl;have s:=a.cell (i:=8) (u:=.int .i64 0) rfl;have t:=a.cell (i:=9) (u:=.int .i64 0) rfl;refine Q5 (v:=.tuple #[.agg #[.string pj,size,.int .u8 kind.toNat,(420:Int),(0:Int),.string ⟨#[]⟩,.string ⟨#[]⟩,.string ⟨#[]⟩,(0:Int),(0:Int)],.bool m]) (by simp[results,results93,go_sem,g.o,d,f,h,j,l,n,o,r,s,t]) rfl ⟨rfl,?_⟩;have b:=Nat.le_of_eq g.o;refine Qb.drew ?_;exact((((((((((q.o.setCell (p:=c) (.inr b) _).setCell (p:=⟨c,1,none⟩) (.inr b) _).setCell (p:=⟨c,2,none⟩) (.inr b) _).setCell (p:=⟨c,3,none⟩) (.inr b) _).setCell (p:=⟨c,4,none⟩) (.inr b) _).setCell (p:=⟨c,5,none⟩) (.inr b) _).setCell (p:=⟨c,6,none⟩) (.inr b) _).setCell (p:=⟨c,7,none⟩) (.inr b) _).setCell (p:=⟨c,8,none⟩) (.inr b) _).setCell (p:=⟨c,9,none⟩) (.inr b) _)
structure LW(p c U a b P0:LU)(S:BA):Prop where
 eq:S=str (U++(XL a b 48 c.length++X9 (Qv (XB c))))
 own:S=str (X1 (p,c))
 a0:(0:UInt8)∉a
 b0:(0:UInt8)∉b
 al:a.length≤155
 bl:1≤b.length∧b.length≤100
 ul:U.length≤1024
 pj:(P0=[]∧JV a b=p)∨P0=p∧p≠[]
structure oX(p c:LU)(S:BA)(t:Bool)(nm:LU)(kd:UInt8)(m:Nat):Prop where
 call:∀W,Calls prog 93 #[S,.int .u8 120] W fun e w'=>e=.returned (.tuple #[RF (str nm) kd m,.bool t])∧Qb [] W w'
 no:t=false→∃a b,LW p c [] a b [] S
 yes:t=true→m≤130∧100<p.length∧p.length≤120∧1024≤S.size∧S.extract 512 (512+m)=str (ZY p)∧∃U b,U.length=1024∧LW p c U [] b p S
def Qem(p c S)(g:str (X1 (p,c))=S)(hp:Yp p=true)(b:c.length≤8192):S.size≤1000000∧∃t d a m,oX p c S t d a m:=by
 obtain⟨a,k,o⟩:=YK hp;have h0:=aV a;have:=Oj c b;have:=Ub<|XB c;have⟨b,i⟩:=qx<|X9<|Qv<|XB c;have:b.length≤100000:=by rw[←i,AM];omega
 have h:X1 (p,c)=JQ p c.length++b:=by unfold X1;rw[i]
 have:=Ng p c.length o;have:S.size=(JQ p c.length).length+b.length:=by rw[←g,h];show(_++_:LU).length=_;rw[Qo]
 refine⟨by omega,?_⟩;cases hsp:Uc p with
 |some ab=>
  obtain⟨e,d⟩:=ab;obtain⟨l,z2,z3,z4⟩:=OT hsp h0;have f:1≤d.length∧JV e d=p:=by
   rcases KM hsp with⟨rfl,rfl,-⟩|⟨j,a,a,n,n⟩
   ·exact⟨k,rfl⟩
   exact⟨a,by unfold JV;rw[Qf (fun a=>by rw[a]at j;simp at j)];exact n.symm⟩
  refine⟨false,JV e d,48,c.length,fun j=>?_,fun _=>⟨e,d,⟨by rw[←g,h,JQ,hsp,i];rfl,g.symm,l,z2,z3,⟨f.1,z4⟩,by simp,.inl ⟨rfl,f.2⟩⟩⟩,fun a=>by cases a⟩;have:=ON e d b 48 120 c.length j z2 l z4 z3 (by decide) (by omega) f.1 (by omega);rw[show str (XL e d 48 c.length++b)=S by rw[←g,h,JQ,hsp]]at this;exact this
 |none=>
  have u:100<p.length:=by
   rcases Xq 100 p.length with a|a
   ·exact a
   rw[Uc,Qg a]at hsp;cases hsp
  have v:=Gi p;have⟨m,r⟩:=qx<|p.length+10;have⟨f,l⟩:=qx<|XL [] [112,97,120] 120 m;have s:f.length=512:=by rw[←l];exact RE _ _ (by decide) (by decide)
  obtain⟨e,q⟩:∃e,X9 (ZY p)=ZY p++e:=⟨_,rfl⟩;have:(ZY p++e).length=512:=by rw[←q,AM];omega
  have⟨d,n⟩:=qx<|XL [] (p.take 100) 48 c.length++b;have:d.length=512+b.length:=by rw[←n,Qo,RE _ _ (by rw[Zl];omega)<|by decide]
  have b:S=str (f++((ZY p++e)++d)):=by rw[←g,h,JQ,hsp];simp only[];rw[r,l,q,←n];simp only[QQ]
  have h:S.data.toList=f++((ZY p++e)++d):=by rw[b];rfl
  have:S.size=1024+d.length:=by rw[←Zo,h,Qo,Qo];omega
  refine⟨true,[112,97,120],120,m,fun j=>?_,(fun a=>by cases a),fun _=>⟨by omega,u,o,by omega,?_,f++(ZY p++e),p.take 100,by rw[Qo];omega,⟨by rw[b,i,n];simp only[QQ],g.symm,by simp,fun a=>h0<|VE a,by simp,⟨by rw[Zl];omega,by rw[Zl];omega⟩,by rw[Qo];omega,.inr ⟨rfl,fun a=>by rw[a]at k;simp at k⟩⟩⟩⟩
  ·have:=ON [] [112,97,120] ((ZY p++e)++d) 120 120 m j (by decide) (by decide) (by decide) (by decide) (by decide) (by omega) (by decide) (by rw[Qo];omega);rw[l,←b]at this;exact this
  rw[Uo S 512 (512+m)<|by omega,h];refine Qu str ?_;rw[←s,Fa,LG,QQ,←r,←v,CQ]
def Qgr(p c w)(h:JF w)(hp:Yp p=true)(m:c.length≤8192):
 Calls prog 59 #[str<|X1 (p,c)] w fun e w'=>e=.returned (.tuple #[.agg #[str p,str c],((X1 (p,c)).length:Nat),(0:Int)])∧Qb [] w w':=by
 have⟨a,b⟩:=qx<|str<|X1 (p,c);obtain⟨I,r,o,n,g,j⟩:=Qem p c a b hp m;have k:(X1 (p,c)).length=a.size:=by rw[←b];rfl
 rw[b,k];have⟨q,f,D,A,C⟩:=qe j j.call b h<|Qr hp m;have l:r=true→(g:Int)≤130∧1024≤a.size:=fun d=>⟨by have:=(j.yes d).1;omega,(j.yes d).2.2.2.1⟩
 have:=Qa l;unfold RF at f;clear j b h hp m k l;go_enter func59,ntmps59
 go_upto_if 22 with(go_at_call 93;with_reducible refine(f.o _).mono ?_;rintro e k⟨rfl,f⟩)
 have h:=((Qc [] (w.alloc<|.cells #[.string ⟨#[]⟩,.string ⟨#[]⟩] 63)).trans f<|by simp).alloc<|.cells #[str o,g,.int .u8 n.toNat,(420:Int),(0:Int),.string ⟨#[]⟩,.string ⟨#[]⟩,.string ⟨#[]⟩,(0:Int),(0:Int)] 165;have b:=Qy k [str o,g,.int .u8 n.toNat,(420:Int),(0:Int),.string ⟨#[]⟩,.string ⟨#[]⟩,.string ⟨#[]⟩,(0:Int),(0:Int)] 165;have c1:=b.cell (i:=1) (u:=.int .i64 g) rfl;have n:=Qa h;clear b f h
 go_cut [5,6]from 22 to 60 (fun o z f=>(∃b k h l,Hid (LW p c b k h l a)∧o=.int .i64 (b.length:Nat)∧z=.string (str l))∧Hid (Qb [] (w.alloc<|.cells #[.string ⟨#[]⟩,.string ⟨#[]⟩] 63) f))
 ·cases r with
  |false=>
   obtain⟨k,h,f⟩:=q.o.no rfl;have o:=Qa f;clear f
   go_wp2
   go_meet
   case rel=>exact⟨⟨[],k,h,[],o,rfl,rfl⟩,n⟩
  |true=>
   obtain⟨y,r,B,E,s,b,h,h6,h7⟩:=q.o.yes rfl;have⟨o,x,q⟩:=qc h7 h6 (fun f hk=>Qeh p f (A.o.kZ hk) r<|by omega);have t:=Gq a 512 (512+g) 512 (512+(g:Int)) (by omega) (by omega) rfl (by omega);rw[s]at t;obtain⟨g1,_,g3⟩: ¬(512:Int)<g∧¬(a.size:Int)<1024∧¬(a.size:Int)-512<(g:Int):=(by omega);have t:=((Qc [] w).alloc<|.cells #[.string ⟨#[]⟩,.string ⟨#[]⟩] 63).trans n.o (by simp);clear y r B E s h6 h7;go_wp2_with fail;refine(q.o _ t).mono ?_;rintro e g⟨g,cc,rfl,k0,k1,q⟩;have g:=Qa (n.o.trans q<|by simp);clear q t;go_wp2_with fail
   go_region
   all_goals
    go_wp2
    go_meet
    case rel=>exact⟨⟨b,[],h,p,o,by rw[x.o];rfl,rfl⟩,Qa<|by first|exact g.o|exact g.o.drew⟩
 obtain⟨⟨b,k,h,l,g,rfl,rfl⟩,B⟩:=hcut;obtain⟨x,q2,E,F,y,s,L,G⟩:=g.o;have⟨o,j⟩:=qx<|X9<|Qv<|XB c;have⟨g,q⟩:=qx<|XL k h 48 c.length;rw[j,q]at x;have t:g.length=512:=by rw[←q];exact RE _ _ s.2 y
 have r:a.data.toList=b++(g++o):=by rw[x];rfl
 have J:a.size=b.length+(512+o.length):=by rw[←Zo,r,Qo,Qo,t]
 have H:=Gp a b.length (b.length:Int) (by omega) rfl;rw[Uo a b.length a.size<|Ql _,r,Fa,Q8 (by rw[Qo];omega)]at H;obtain⟨hp,m⟩:=C.o;have n:=Qa (fun f=>ON k h o 48 48 c.length f F E s.2 y (by decide) (by omega) s.1<|by omega);rw[q,show decide ((48:UInt8)=48)=true from rfl]at n;have⟨n,o⟩:=qb (show ∀f,Calls prog 93 #[.string<|str<|g++o,.int .u8 48] f fun e w'=>e=.returned (.tuple #[RF (str<|JV k h) 48 c.length,.bool true])∧Qb [] f w' from n.o) fun f=>Qg7 a c (b++g) (Ze<|AL (Qv<|XB c).length) f I m (by rw[r,←j,X9];simp only[QQ]);rw[show(((b++g).length:Nat):Int)=(b.length:Int)+512 by rw[Qo,t];push_cast;rfl]at o;have C:=Qa fun f hk=>dH (str p) (str c) f (A.o.kZ hk) hp m;rw[show X1 ((str p).data.toList,(str c).data.toList)=X1 (p,c)from rfl,D.o]at C;have A:=Qa fun f=>Tryz.strPre a a f;rw[show Lib.hasPrefix a a=true from List.isPrefixOf_iff_prefix.2 (List.prefix_refl _)]at A;have I:=((Qc [] w).alloc<|.cells #[.string ⟨#[]⟩,.string ⟨#[]⟩] 63).trans B.o (by simp);have⟨pj,f⟩:=qx<|str<|JV k h;have k:((str l).toList.isEmpty=true∧pj=str p)∨((str l).toList.isEmpty=false∧l=p):=by
  rcases G with⟨rfl,d⟩|⟨rfl,d⟩
  ·exact .inl ⟨by rw[X6];rfl,by rw[←f,d]⟩
  exact .inr ⟨CD _<|Lu.2 d,rfl⟩
 unfold RF at n;rw[f]at n;have⟨h,D⟩:=qx b.length;have b:=Qa k;have:h≤1024:=by omega
 rw[D]at H o ⊢;clear x q2 E F y s L G j q t r J hp m f k D
 go_upto_if 72 with(go_at_call 93;with_reducible refine(n.o _).mono ?_;rintro e j⟨rfl,h⟩)
 have f:=Qa<|(B.o.trans h<|by simp).alloc<|.cells #[.string pj,c.length,.int .u8 48,(420:Int),(0:Int),.string ⟨#[]⟩,.string ⟨#[]⟩,.string ⟨#[]⟩,(0:Int),(0:Int)] 165;have c0:=(Qy j [.string pj,c.length,.int .u8 48,(420:Int),(0:Int),.string ⟨#[]⟩,.string ⟨#[]⟩,.string ⟨#[]⟩,(0:Int),(0:Int)] 165).cell (i:=0) (u:=.string pj) rfl;have⟨t2,j⟩:=qx<|(str l).toList.isEmpty;rw[j]at b ⊢;clear j h
 go_cut [6]from 72 to 74 (fun z h=>z=.string (str p)∧Hid (Qb [] (w.alloc<|.cells #[.string ⟨#[]⟩,.string ⟨#[]⟩] 63) h))
 ·cases t2 with
  |true=>
   have d:=b.o;simp only[EP,Bool.true_eq_false,false_and,or_false]at d;have g:=Qa d;clear d
   go_wp2
   go_meet
   case rel=>exact⟨by rw[g.o],f⟩
  |false=>
   have d:=b.o;simp only[EP,Bool.false_eq_true,false_and,false_or]at d;have g:=Qa d;clear d
   go_wp2
   go_meet
   case rel=>exact⟨by rw[g.o],f⟩
 obtain⟨rfl,f⟩:=hcut;have h:=((Qc [] w).alloc<|.cells #[.string ⟨#[]⟩,.string ⟨#[]⟩] 63).trans f.o (by simp);clear c0 I;go_wp2_with (first
  |(go_at_call 95;refine(o.o _).mono ?_;rintro e q⟨⟨l,rfl⟩,d⟩)
  |(go_at_call 40;refine(C.o _<|h.trans d<|by simp).mono ?_;rintro e r⟨rfl,g⟩;have b:=(Qy w [.string ⟨#[]⟩,.string ⟨#[]⟩] 63).kept ((f.o.trans d<|by simp).trans g<|by simp) (by simp);have:=b.cell (i:=0) (u:=.string ⟨#[]⟩) rfl;have:=b.cell (i:=1) (u:=.string ⟨#[]⟩) rfl;have:=b.free 0;have:=b.free 1)
  |(go_at_call 96;refine(A.o _).mono ?_;rintro e s⟨rfl,rfl⟩))
 have f:=(b.set 0<|.string<|str p).set 1<|.string<|str c;have b:=f.cell (i:=0) (u:=.string<|str p) rfl;have j:=f.cell (i:=1) (u:=.string<|str c) rfl;refine Q5 (v:=.tuple #[.agg #[str p,str c],.int .i64 a.size,(0:Int)]) (by simp[results,results59,go_sem,b,j]) rfl ⟨rfl,?_⟩;exact(((h.trans d<|by simp).trans g<|by simp).setCell (p:=w) (.inr<|Ql _) _).setCell (p:=⟨w.heap.size,1,none⟩) (.inr<|Ql _) _
section
open Go.Sort Go.Shelf
def rY{b n c:Nat}{a w}(d:w.cell? ⟨b,1,none⟩=some (.slice a n c)):
 Calls prog 62 #[.pointer b] w fun e a=>e=.returned n∧a=w:=by
 go_enter func62,ntmps62
 go_wp2
 go_ret;exact⟨rfl,rfl⟩
def sF{S w w1 b l}(a:JC S w b l w1):
 Calls prog 60 #[.pointer b] w1 fun e f=>e=.returned (str l)∧Qb S w f∧Below w.heap.size w1 f∧∃d c,f.cell? ⟨b,1,none⟩=some (.slice d l.length c):=by
 refine(Any.Builder_String_any_f Tryz.lays169 Tryz.lext w.heap.size b l w1 (Lib.IsBuilderF.of a.1) a.2.size).mono ?_;rintro e f⟨g,hb,d⟩;refine⟨g,⟨d.os.trans a.2.os,d.tape.trans a.2.tape,d.output.trans a.2.output,QS a.2.size d.size,fun g hk h=>(d.block g hk).trans<|a.2.block g hk h⟩,d,?_⟩;have:∃d,Lib.BuilderAtF 115 5 w.heap.size b d (Lib.byteCells l) f:=hb.elim (fun a=>⟨_,a⟩) fun a=>⟨_,a⟩;obtain⟨d,-,a,hb,f,-⟩:=this;have a:=Lib.cell_of_heap hb 1;have d:(Lib.byteCells l).length=l.length:=by simp[Lib.byteCells]
 rw[←d];rcases f.2 with⟨rfl,h0⟩|⟨d,cap,d,d,rfl,-⟩
 ·exact⟨none,0,by rwa[h0]⟩
 exact⟨_,_,a⟩
def Dk.below{d a b c s w w1}(e:Dk w d b c s)(hb:Below a w w1)(f:∀x∈Q7 d b c,x<a):Dk w1 d b c s:=
 e.kept (S:=List.range' a<|w.heap.size-a) ⟨hb.os,hb.tape,hb.output,hb.size,fun b hk a=>hb.block b (by
  rw[List.mem_range'_1]at a;omega)⟩ fun x b a=>by have:=f x b;rw[List.mem_range'_1]at a;omega
def sG{S w w1 b l}(a:JC S w b l w1)(s:BA)(c:l.length+s.size≤100000000):
 Calls prog 58 #[.pointer b,s] w1 fun e c=>e=.returned (.tuple #[s.size,.nilIface])∧JC S w b (l++s.data.toList) c∧Below w.heap.size w1 c:=by
 have d:(Lib.byteCells l).length=l.length:=by simp[Lib.byteCells]
 refine(Tryz.strWrite w.heap.size b (Lib.byteCells l) s w1 a.1 (by rw[d];omega) a.2.size).mono ?_;rintro e c⟨g,d,c⟩;have f:Lib.byteCells l++Lib.strCells s=Lib.byteCells (l++s.data.toList):=by simp[Lib.byteCells,Lib.strCells]
 rw[f]at d;exact⟨g,⟨.inr d,⟨c.os.trans a.2.os,c.tape.trans a.2.tape,c.output.trans a.2.output,QS a.2.size c.size,fun d hk f=>(c.block d hk).trans<|a.2.block d hk f⟩⟩,c⟩
def WT{a d nv pv mv s w c}(h:Zj w a d nv pv mv s)(q:Vok s c){m}(hm:m∈s.mem)(hc:s.dev.lZ+10000≤1000000000):
 Calls prog 30 #[.pointer a,str m.path] w fun e w'=>e=.returned (.tuple #[str<|c m.path,(0:Int)])∧
  ZQ w a d nv pv mv {s with dev:={s.dev with lZ:=s.dev.lZ+m.eZ.toNat}} w':=by
 have h9:=Qa<|NP h q.dev (by have:=q.few;omega) m.path (by have:=q.plen hm;omega);rw[q.find hm]at h9;have HH:=Qa h;have h4:=q.mems m hm;have h8:=Rg (f:=(m.path,c m.path)) (q.plen hm) h4.big;have⟨n,hn⟩:=qx<|ZV (m.path,c m.path);rw[hn]at h8;have⟨L,hL⟩:=qx<|Y7 (m.path,c m.path);have p0:L.length=n:=by rw[←hL,Ap,hn]
 have z8:∀x∈L,x.length=512:=by rw[←hL];exact Gm (q.plen hm) h4.big
 have x1:L.flatten=X1 (m.path,c m.path):=by rw[←hL];unfold Y7;rw[hn];exact Wd _ _ h8.1
 have r9:=q.inX hm;have a1:m.eZ=(n:Int):=by rw[h4.eZ,hn]
 have a6:(m.start.toNat:Int)=m.start:=Rs (by omega);obtain⟨st,p7⟩:∃st:Nat,m.start.toNat=st:=⟨_,rfl⟩;have q7:=Qa (fun i y (hy:L[i]?=some y) W (hD:Dk W d nv pv {s.dev with lZ:=s.dev.lZ+i})=>show Calls prog 57 #[.pointer d,.int .i64<|m.start+(i:Int)] W
  fun e w'=>e=.returned (.tuple #[.string<|str y,(0:Int)])∧Dk w' d nv pv {s.dev with lZ:=s.dev.lZ+(i+1)}∧Qb [d] W w' by
  have hi:=(Qz.1 hy).1;have h1:s.dev.img[st+i]?=some y:=by have:=h4.holds i y (by rwa[hL]);rw[p7]at this;exact this
  have h2:=gE (s:={s.dev with lZ:=s.dev.lZ+i}) hD ⟨q.dev.c1,q.dev.c2,q.dev.len,q.dev.sec,by show s.dev.lZ+i≤_;omega⟩ (st+i) _ h1;rw[show((st+i:Nat):Int)=m.start+(i:Int)by omega]at h2;exact h2.mono fun e w' ⟨e1,e2,e3⟩=>⟨e1,e2,e3⟩)
 have x5:=Qa fun W (hE:JF W)=>Qgr m.path (c m.path) W hE h4.ok h4.big;rw[←x1]at x5;have y2:=Qa fun W=>Nq (str<|c m.path) W (by have:=h4.big;show(c m.path).length≤_;omega);rw[show Yw (str<|c m.path).data.toList=m.sum from h4.sum.symm]at y2;have y5:((c m.path).length:Int)=m.size:=h4.size.symm;have p4:L.flatten.length=512*n:=by rw[x1];exact h8.1
 have⟨y8,y9,b2⟩:=qc z8 p0 p4;have b4:n≤200:=h8.2.2;have q1:=Qa<|show Dk w d nv pv {s.dev with lZ:=s.dev.lZ+0}from h.vt.dk;have⟨x,o⟩:=qx<|c m.path;rw[o]at y2 x5 y5 ⊢;have b5:0≤m.start∧m.start≤4096:=by have:=q.dev.c2;omega
 unfold Zi at h9;rw[a1]at h9 ⊢;rw[←y5]at h9;have hd:d<w.heap.size:=h.vt.lt d (by simp[Q7]);have p2:¬a=d:=fun e=>h.vt.apart.1 (by rw[e];simp[Q7])
 have p8:=Qa<|h.vt.arr.cell (i:=0) (u:=.pointer d) rfl;rw[←x1]at h8;clear h q h4 hn hL p0 z8 x1 r9 a6 p7 y5 o p4 h8 hc;go_enter func30,ntmps30;go_wp2_with (first
  |(go_at_call 49;refine h9.o.mono ?_;rintro e w1⟨rfl,y3⟩))
 have r5:=y3.size;have A1:=Qy w1 [str m.path,m.start,.int .i64 n,.int .i64 x.length,.int .u32 m.sum] 69;have x6:=y3.alloc<|.cells #[str m.path,m.start,.int .i64 n,.int .i64 x.length,.int .u32 m.sum] 69;have⟨b,hb⟩:=qx w1.heap.size;have⟨W1,hW⟩:=qx<|w1.alloc<|.cells #[str m.path,m.start,.int .i64 n,.int .i64 x.length,.int .u32 m.sum] 69;have p1:W1.heap.size=b+1:=by rw[←hW,←hb];simp
 rw[hb]at A1 r5 ⊢;rw[hW];rw[show[Value.string<|str m.path,.int .i64 m.start,.int .i64 n,.int .i64 x.length,.int .u32 m.sum].toArray=#[Value.string<|str m.path,.int .i64 m.start,.int .i64 n,.int .i64 x.length,.int .u32 m.sum]from rfl,hW]at A1;rw[hW]at x6;have⟨y6,h5⟩:=qb A1 x6;have x8:¬b=d:=by omega
 have r0:=Qa p1;clear hW hb A1 x6 y3 p1
 go_loopg [9,10,11,25] n (fun k x9 b6 b7 a7 wr=>∃i:Nat,i≤n∧k=n-i∧a7=.int .i64 (i:Nat)∧Hid (Dk wr d nv pv {s.dev with lZ:=s.dev.lZ+i})∧Hid (JC [d] W1 (b+1) (L.take i).flatten wr))
 ·exact⟨0,by omega,by omega,rfl,Qa<|q1.o.kZ<|h5.o.alloc _,Qa (by rw[←r0.o];exact JC.new [d] W1)⟩
 obtain⟨i,hi,hk,rfl,HD,HB⟩:=hrel
 by_cases hlt:i<n
 ·have q0:(i:Int)<n:=by omega
  have⟨y,hy⟩:=qy L i (by have:=y9.o;omega);have⟨HR,HT⟩:=qb (fun W=>q7.o i y hy W) (show(L.take<|i+1).flatten=(L.take i).flatten++y by rw[Zt,hy];simp);have p6:(L.take i).flatten.length≤102400:=by have h1:=K.flat_len (l:=L.take i) fun x o=>y8.o x<|VE o;rw[Zl]at h1;omega
  have⟨q6,r1⟩:=qb p6<|y8.o y<|QA hy;have c0:wr.cell? a=some (.pointer d):=(HB.o.2).cZ (h5.o.cZ p8.o<|by simp) (by simpa using p2);have c1:wr.cell? ⟨b,1,none⟩=some (.int .i64 m.start):=(HB.o.2).cZ (y6.o.cell (i:=1) rfl) (by simpa using x8);have w5:IntKind.i64.wrap (m.start+(i:Int))=m.start+(i:Int):=by rw[Zz];omega
  have q3:=Qa hd;clear hy p6 hd;go_wp2_with fail
  go_region_held3 (fun w'=>w'.cell? a=some (.pointer d)∧w'.cell? ⟨b,1,none⟩=some (.int .i64 m.start)) (first|exact⟨c0,c1⟩|exact⟨d0,d1⟩|go_keep)
   ((go_at_call 57;refine(HR.o _<|HD.o.kZ (Qc [] wr).drew).mono ?_;rintro e w3⟨rfl,z7,x2⟩;have d0:=x2.cZ c0 (by simpa using p2);have d1:=x2.cZ c1<|by simpa using x8))
  have p5:Qb [d] wr w3:=Qb.trans (Qc [d] wr).drew x2 fun x o=>.inl o;have z6:=HB.o.kept p5 (fun x o=>o) (fun x o=>by rw[Za]at o;subst o;exact Az q3.o h5.o.size);have⟨q9,p9⟩:=qb (sG z6 (str y) (by have:=q6.o;have:=r1.o;show _+y.length≤_;omega)) z7;clear x2 p5 z6 z7;go_wp2_with (go_at_call 58;refine q9.o.mono ?_;rintro e w4⟨rfl,r2,r6⟩)
  go_roundg (n-(i+1))
  ·exact⟨i+1,by omega,rfl,by go_num,Qa<|p9.o.below r6 fun x o=>Az (HH.o.vt.lt x (by simp only[QT,QE,Q6];exact .inr<|.inr<|by simpa[Q7]using o)) h5.o.size,Qa<|by rwa[HT.o]⟩
  omega
 obtain rfl:i=n:=by omega
 have q0:¬(i:Int)<i:=by omega
 have p3:(L.take i).flatten=L.flatten:=by rw[Q8 (by rw[y9.o];exact Ql _)]
 have hB:=HB.o;rw[p3]at hB;have a8:=Qa hB;have q8:=Qa<|sF hB;have q4:=Qa fun W (hW:Qb [d] W1 W)=>HH.o.env.kept ((h5.o.mono (T:=[d])<|by simp).trans hW fun x o=>.inl o) fun x o=>HH.o.low x (by rw[Za]at o;subst o;simp[Q7]);clear p3 hB;go_wp2_with (first
  |(go_at_call 60;refine q8.o.mono ?_;rintro e w5⟨rfl,x3,r7,o5,b3,y0⟩)
  |(go_at_call 59;refine(x5.o _<|q4.o _ x3).mono ?_;rintro e w6⟨rfl,y4⟩))
 have z1:=((y6.o.kept x3<|by simpa using x8).kept y4<|by simp);have hE:=Qy w6 [str m.path,.string<|str x] 63;have x4:=y4.alloc<|.cells #[str m.path,.string<|str x] 63;have⟨g,hg⟩:=qx w6.heap.size;have⟨W7,x7⟩:=qx<|w6.alloc<|.cells #[str m.path,.string<|str x] 63;have x0:=z1.kept ((Qc [] w6).alloc<|.cells #[str m.path,.string<|str x] 63) (by simp);rw[hg]at hE ⊢;rw[x7]at x4 x0 ⊢;rw[show[Value.string<|str m.path,.string<|str x].toArray=#[Value.string<|str m.path,.string<|str x]from rfl,x7]at hE;have H0:=fun w' (hk:Qb [] W7 w')=>hk.cZ (hE.cell (i:=0) (u:=.string<|str m.path) rfl) (by simp)
 have H1:=fun w' (hk:Qb [] W7 w')=>hk.cZ (hE.cell (i:=1) (u:=.string<|str x) rfl) (by simp)
 have H2:=fun w' (hk:Qb [] W7 w')=>hk.cZ (x0.cell (i:=3) (u:=.int .i64 x.length) rfl) (by simp)
 have H3:=fun w' (hk:Qb [] W7 w')=>hk.cZ (x0.cell (i:=4) (u:=.int .u32 m.sum) rfl) (by simp)
 have H4:=fun w' (hk:Qb [] W7 w')=>rY ((x4.trans hk<|by simp).cZ y0<|by simp)
 have e1:(str x).size=x.length:=rfl;have y1:=H1 W7<|Qc _ _;have⟨y7,q5,b1⟩:=qc x4 x3 y0;clear z1 hE x4 y4 x0 x7 y0 x3 hg;refine KW W7 (by kernel_rfl) (by kernel_rfl) (Qc _ _) ?_
 repeat
  first
   |go_big_quiet_skip
   |(go_big_quiet_want
     go_big_quiet_op
     first
      |go_big_quiet_on
      |(apply Exists.intro
        refine⟨fun wq h3=>?_,?_⟩
        ·first
          |with_reducible rfl
          |(go_at_call 61;exact Calls.keptK h3<|y2.o wq)
          |(go_at_call 62;exact Calls.keptK h3<|(H4 wq h3).mono fun e w' ⟨h1,h2⟩=>⟨h1,h2▸Qc _ _⟩)
          |(simp only[H0 wq h3,H1 wq h3,H2 wq h3,H3 wq h3,UF];exact⟨trivial,rfl⟩)
        go_big_quiet_on))
 refine wpQuiet_nil ?_;intro wq h3;have y1:=H1 wq h3
 go_wp2
 go_ret2;have r3:=(((HD.o.below r7 fun x o=>Az (HH.o.vt.lt x (by simp only[QT,QE,Q6];exact .inr<|.inr<|by simpa[Q7]using o)) h5.o.size).kZ y7.o).kZ h3);have r4:Qb [d] w wq:=(((h5.o.mono (T:=[d])<|by simp).trans q5.o fun x o=>.inl o).trans y7.o<|by simp).trans h3 (by simp);exact⟨rfl,HH.o.dev ⟨nv,pv,r3,r4.mono (fun x o=>by rw[Za]at o;subst o;simp[Q7]),QP.refl _ _⟩⟩
end
def rT(xs n)(a:X2 xs n=true):(UH xs n).2.1.length=ZH xs.length:=by
 have d:(QD xs).length=xs.length:=UQ xs;have b:(YB xs n).2.1.length=ZH xs.length:=by unfold YB;rw[a,Qg rfl];show(Ae xs).length=_;unfold Ae;simp
 have c:(Xr xs n).2.1.length=ZH xs.length:=by unfold Xr;rw[a,Qg rfl];show(QY<|Rj _ _ _ _).length=_;rw[XF,Oh,d]
 unfold UH;rw[Qg (Wc xs n a).2]
 split
 ·exact b
 exact c
def wQ(l:List LI)(m)(a:∀t∈l,XA t=true∧t.length≤m):(l.flatMap Q2).length≤(5+39*m)*l.length:=by
 induction l with
 |nil=>simp
 |cons t l ih=>
  have:=ih fun c b=>a c (by simp[b])
  obtain⟨b,c⟩:=a t (by simp);have a:=(UN t).1 (UL b);have:=iR (t.headD 0) t (a.2 _<|Nh t<|by omega) a.2;rw[Jn,Qo,Q0];have h6:(Q2 t).length≤5+39*m:=by unfold Q2;rw[Qo,X0];omega
  rw[GY];omega
def sC(x):(XE [x]).length≤2000:=by
 have e:=Dw [x];have hp:=EH [x] (by simp);have⟨c,f⟩:=qx<|Zw [x];rw[f]at e hp;simp only[Q0,Yg]at e;have hb:=VN c hp (by omega);have:(QL c).length≤1:=by
  obtain⟨d,rfl⟩:∃d,c=[d]:=by
   match c,e,hp with
   | [d],_,_=>exact⟨d,rfl⟩
   |_::_::_,e,_=>simp at e;omega
  match hL:QL [d]with
  | []=>simp
  | [_]=>simp
  |a::b::r=>have e:=GB [d];rw[hL]at e;have ha:a=d:=(by simpa using(Gb [d] a).1 (by rw[hL];simp));have hb:b=d:=(by simpa using(Gb [d] b).1 (by rw[hL];simp));have:=(Vm.1 e).1 b (by simp);rw[ha,hb]at this;exact absurd this (by simp)
 obtain⟨h,d,i,j⟩:=RG hb.fit.may;have e:=OV<|QL c;have:=MG c hp (by omega);have hs:=hb.slen;have d:(QG c).2.1.length=ZH (QY<|ZZ c).length:=rT _ _ hb.list;rw[XF]at d;have g:(QG c).2.1.length≤1:=by rw[d];unfold ZH;omega
 have:=wQ (QG c).1 3 fun e d=>⟨(i e d).2.2,by have:=hb.fit.len e d;omega⟩
 have h6:=eI (QD (QG c).2.1) (List.range (QG c).1.length)<|eN j;rw[Vl,UQ]at h6;have h7:(QG c).2.1.length*(QG c).1.length≤1*6:=Fj g h.2;have:(Zr (QG c).1 (QG c).2.1).length≤800:=by unfold Zr Jf;simp only[Qo,X0];omega
 unfold XE UI;rw[f];rw[Qo,Qo,Qo,Cn];omega
def iM(p x)(hp:p.length≤100):ZV (p,[x])=2:=by
 have:=sC x;have:1≤(XB [x]).length∧(XB [x]).length≤2200:=by unfold XB;simp only[Qo,Yt,X0];rw[Qf<|by simp];simp[Zh];omega
 have a:=AM<|Qv<|XB [x];rw[Ub]at a;have b:(JQ p 1).length=512:=by unfold JQ Uc;rw[Qg hp];exact RE _ _ hp (by simp)
 unfold ZV X1;rw[Qo,a];have:((p,[x]):QC).2.length=1:=rfl;rw[show(JQ ((p,[x]):QC).1 ((p,[x]):QC).2.length).length=512 from b];omega
def WZ{cap need g l}(c:1≤need)(a:30≤cap)(hk:ZX cap l=true)(b:30≤g)(d:g+need≤cap)(hf:Uq l g need)(i:∀t,30≤t→t<g→¬Uq l t need):Y5 cap l need=some g:=by
 cases h:Y5 cap l need with
 |none=>exact absurd hf<|wG c a hk h g b d
 |some t=>
  obtain⟨-,d,-,e,f⟩:=IP c a h;rcases Int.lt_trichotomy t g with a|rfl|a
  ·exact absurd e<|i t d a
  ·rfl
  exact absurd hf<|f g b a
def Vst.room_mem(s:Vst)(n):(s.room n).mem=s.mem:=(Vst.room_same s n).1
def fW{s:Vst}{f:QC}{g}(hb:Vst.bad [f]=0)(b:¬16<(Zn s.mem [Vst.noteF (f,(0,0))]).length)(ha:Y5 s.dev.cap s.exts (ZV f)=some g):
 (s.put [f]).1=0∧(s.put [f]).2.mem=Vs ⟨f.1,g,ZV f,f.2.length,Yw f.2⟩ s.mem∧(s.put [f]).2.dev.cap=s.dev.cap:=by
 have a:s.put [f]=(0,((s.room 2).write [(f,(g,(ZV f:Int)))]).commit [Vst.noteF (f,(g,(ZV f:Int)))]):=by
  unfold Vst.put;rw[Qf (by rw[hb];simp),Qf<|by simp,Qf<|by simpa using b];have b:Vst.alloc s.dev.cap s.exts [f]=some [(f,(g,(ZV f:Int)))]:=by simp[Vst.alloc,ha]
  rw[b];simp
 rw[a];refine⟨rfl,?_,?_⟩
 ·show Zn (s.room 2).mem _=_;rw[Vst.room_mem];rfl
 exact(Vst.room_same s 2).2.1
def Qee{m t s s'}(a:¬(m.start-t<m.eZ∧m.start≠t))(b:m.start≠t)(c:s.move m.path t=(0,s')):Vst.pull [m] t s=s'.trim:=by unfold Vst.pull;simp only[Qf a,Qg b,ne_eq,not_true,Ew,c];rfl
abbrev fB:QC:=([98],[50])
abbrev fA:QC:=([97],[49])
def Qiv(c0:LU→LU):∃b d a c c1 c2,(Vst.fresh 60).put [fB]=(0,b)∧Vok b c1∧b.put [fA]=(0,d)∧Vok d c2∧d.del [98]=(0,a)∧Vok a c2∧a.compact=(0,c)∧Vok c c2∧
 c.mem=[⟨[97],30,2,1,Yw [49]⟩]∧c2 [97]=[49]∧b.dev.lZ≤60006∧d.dev.lZ≤120006∧a.dev.lZ≤180006∧c.dev.lZ≤240006:=by
 have o:∀{h e:Type}(c:h × e)(e:h),c.1=e→c=(e,c.2):=fun c e c=>by rw[←c]
 have h0:=Vok.fresh 60 (by decide) (by decide) c0;have k0:(Vst.fresh 60).dev.lZ≤6:=by show 0+(UT 0 []).length+1≤6;rw[CB];decide
 have k:Yp [98]=true:=by decide+kernel
 have w:Yp [97]=true:=by decide+kernel
 have lt:Xd [97] [98]<0:=by decide+kernel
 have h:ZV fB=2:=iM _ _ (by simp);have p:ZV fA=2:=iM _ _ (by simp);have i:Y5 ((Vst.fresh 60).dev.cap:Nat) (Vst.fresh 60).exts (ZV fB)=some 30:=by rw[h];show Y5 60 [] 2=some 30;exact WZ (by decide) (by decide) ((YD _ _).2 ⟨fun j c=>absurd c Ff,List.Pairwise.nil⟩) (by decide) (by decide) (fun j c=>absurd c<|by simp) (fun r e q=>by omega)
 obtain⟨t,a2,a3⟩:=fW (s:=Vst.fresh 60) (f:=fB) (g:=30) (by simp[Vst.bad,k]) (by show ¬16<(Zn [] [_]).length;simp[Zn,Bd,Vst.noteF,Vs,XY]) i;obtain⟨n,-,-⟩:=h0.put [fB] (QS (Sh k0 _)<|by decide) t;rw[h]at a2;have⟨b,v⟩:=qx<|((Vst.fresh 60).put [fB]).2;rw[v]at a2 a3 n;have h:b.mem=[⟨[98],30,2,1,Yw [50]⟩]:=by rw[a2];unfold Vst.fresh Vs XY;congr 1
 have k1:=QS n.c1<|Sh k0 _;rw[h]at k1;have i:Zd [(⟨[98],30,2,1,Yw [50]⟩:RM)]=2:=rfl;rw[i]at k1;have k:b.exts=[(30,2)]:=by unfold Vst.exts;rw[h];rfl
 have c1:(b.dev.cap:Int)=60:=by rw[a3];rfl
 have i:Y5 b.dev.cap b.exts (ZV fA)=some 32:=by
  rw[p,k,c1];refine WZ (by decide) (by decide) ((YD _ _).2 ⟨fun j c=>?_,PZ ..⟩) (by decide) (by decide) (fun j c=>?_) fun r e q k=>?_
  ·rw[Za]at c;subst c;exact⟨by decide,by decide,by decide⟩
  ·rw[Za]at c;subst c;exact .inr (by decide)
  have:=k (30,2) (by simp);simp at this;omega
 obtain⟨u,k,r⟩:=fW (s:=b) (f:=fA) (g:=32) (by simp[Vst.bad,w]) (by rw[h];simp[Zn,Bd,Vst.noteF,Vs,XY,lt]) i;obtain⟨i,-,-⟩:=n.ok.put [fA] (by simp at k1;omega) u;rw[p,h]at k;have⟨d,w⟩:=qx<|(b.put [fA]).2;rw[w]at k r i;have h:d.mem=[⟨[97],32,2,1,Yw [49]⟩,⟨[98],30,2,1,Yw [50]⟩]:=by rw[k];simp[Vs,XY,lt]
 have k2:=i.c1;rw[h]at k2;have q2:Zd [(⟨[97],32,2,1,Yw [49]⟩:RM),⟨[98],30,2,1,Yw [50]⟩]=4:=rfl;rw[q2]at k2;have k:d.find [98]=(0,⟨[98],30,2,1,Yw [50]⟩):=i.ok.find (m:=⟨[98],30,2,1,Yw [50]⟩) (by rw[h];simp);have g1:(d.del [98]).1=0:=by unfold Vst.del;rw[Qf (by rw[k];simp)]
 obtain⟨k,-,p⟩:=i.ok.del [98] (by simp at k1 k2;omega) g1;have⟨a,x⟩:=qx<|(d.del [98]).2;rw[x]at k p;rw[h]at p;have h:a.mem=[⟨[97],32,2,1,Yw [49]⟩]:=by rw[p];rfl
 have k3:=k.c1;have c3:(a.dev.cap:Int)=60:=by rwa[k.cap,r]
 have p:a.exts=[(32,2)]:=by unfold Vst.exts;rw[h];rfl
 have c:ZX a.dev.cap (a.exts++[(30,2)])=true:=by
  rw[p,c3];refine(YD _ _).2 ⟨fun j c=>?_,?_⟩
  ·simp at c;rcases c with rfl|rfl<;>exact⟨by decide,by decide,by decide⟩
  refine Vm.2 ⟨fun y j=>?_,PZ ..⟩;simp at j;subst j;exact .inr (by decide)
 obtain⟨p,A,r,z,B,C⟩:=k.ok.move_to (m:=⟨[97],32,2,1,Yw [49]⟩) (by rw[h];simp) (tg:=30) c (by simp at k1 k2;omega);have z:p.mem=[⟨[97],30,2,1,Yw [49]⟩]:=by
  have c:p.mem.length=1:=by have:=Qu List.length C;rw[QH,QH,h]at this;simpa using this
  obtain⟨y,j⟩:=List.length_eq_one_iff.1 c;have e:=(B y).1 (by rw[j];simp);rw[h]at e;rw[j];rcases e with e|⟨e,q⟩
  ·rw[e]
  simp at e;subst e;exact absurd rfl q
 obtain⟨e,t2,-,t4,-⟩:=r.ok.trim (by have:=r.c1;simp at k1 k2 this;omega);have hb:Vst.bZ a.mem=a.mem:=by rw[h];exact List.perm_singleton.1<|Da _
 have c:a.compact=p.trim:=by unfold Vst.compact;rw[hb,h];exact Qee (by simp) (by simp) A
 have k4:=t2.c1;have k5:=r.c1;refine⟨b,d,a,p.trim.2,_,_,by rw[←v];exact o _ _ t,n.ok,by rw[←w];exact o _ _ u,i.ok,by rw[←x];exact o _ _ g1,k.ok,by rw[c];exact o _ _ e,t2.ok,by rwa[t4],?_,?_,?_,?_,?_⟩
 ·exact GA (l:=[fA]) (by simp) (f:=fA) (by simp)
 all_goals simp at k1 k2 k5;omega
section
open Go.Sort Go.Shelf
structure V0 where
 act:Ud
 fv:VL
 fat:Int
 kv:VL
def J9(x:V0):LV:=[x.act.kind,str x.act.path,str x.act.text,x.act.tg,x.fv,x.fat,x.kv]
structure CK(w:WD)(v:VL)(l:List V0):Prop where
 see:∃a c,v=.slice a l.length c∧Qp w 7 a l.length (Qx J9 l)
 few:l.length≤17592186043904
 ents:∀x∈l,V2 w x.fv x.act.files
 keep:∀x∈l,∃a n c,x.kv=.slice a n c
 strs:∀x∈l,x.act.path.length≤140737488351232∧x.act.text.length≤140737488351232∧x.act.files.length≤17592186043904∧∀f∈x.act.files,f.1.length≤140737488351232∧f.2.length≤140737488351232
def CK.kZ{w w' v l}(a:CK w v l)(hk:Qb [] w w'):CK w' v l:=by obtain⟨b,c,d,e⟩:=a.see;exact⟨⟨b,c,d,e.kZ hk⟩,a.few,fun c b=>(a.ents c b).kZ hk,a.keep,a.strs⟩
def WL{w a n l}(d:Qp w 7 a n (Qx J9 l)){i}{x:V0}(e:l[i]?=some x):
 ∃g off,a=some ⟨g,off,none⟩∧∀r u,r<7→(J9 x)[r]?=some u→w.cell? ⟨g,off+i*7+r,none⟩=some u:=by
 have h0:=Va (enc:=J9) (k:=7) (fun _=>rfl) l i 0 x e (by decide);obtain⟨g,off,c,-⟩:=d.2 _ x.act.kind (by rw[h0];rfl);refine⟨g,off,c,fun r u f h=>?_⟩;obtain⟨b,b,b,c2⟩:=d.2 _ u (by rwa[Va (enc:=J9) (k:=7) (fun _=>rfl) l i r x e f]);rw[c]at b;injection b with b;injection b with b e3;subst b e3;rwa[Ja]
def EW(x:V0):Prop:=x.act.path.length≤200∧x.act.files.length≤20∧∀a∈x.act.files,a.1.length≤200
def mM(l:List V0)(e:Ending):Prop:=∃a:Bool,e=.returned (.bool a)∧(a=true→l.length≤200∧∀a∈l,EW a)
def Qge(n:Int)(w)(a: -9223372036854775808≤n)(a:n≤9223372036854775807):Calls prog 9 #[n,(200:Int)] w fun e w'=>(∃a:Nat,e=.returned (.int .i64 a)∧31≤a∧a≤231)∧w'=w:=by
 have⟨b,c⟩:=qx<|n.tmod 200;have: -200<b∧b<200:=by
  rw[←c];rcases Int.lt_or_le n 0 with c|c
  ·have e:n.tmod 200= -((-n).tmod 200):=(by rw[Int.neg_tmod];omega);rw[e,BU<|by omega];omega
  rw[BU c];omega
 have⟨a,c⟩:=qx<|(b+200).tmod 200;have t2:0≤a∧a<200:=by rw[←c,BU<|by omega];omega
 have:IntKind.i64.wrap b=b:=by rw[Zz];omega
 have:IntKind.i64.wrap (b+200)=b+200:=by rw[Zz];omega
 have:IntKind.i64.wrap a=a:=by rw[Zz];omega
 have:IntKind.i64.wrap (31+a)=31+a:=by rw[Zz];omega
 go_enter func9,ntmps9
 go_wp2
 go_ret;exact⟨⟨(31+a).toNat,by rw[Rs<|by omega];rfl,by omega,by omega⟩,rfl⟩
def vU(v l w)(h:CK w v l)(x0:Int)(z6:0≤x0∧x0≤40000):Calls prog 6 #[v,x0] w fun e w'=>mM l e∧w'=w:=by
 obtain⟨a,c,rfl,hs⟩:=h.see;have⟨n,hn⟩:=qx l.length;have HH:=Qa h;rw[hn]at hs ⊢;have z7:n≤17592186043904:=by rw[←hn];exact h.few
 have⟨HS,HN⟩:=qb hs hn;go_enter func6,ntmps6
 go_wp2
 go_loopg [5,6,7] n (fun k x5 x6 x7 wr=>(∃(i:Nat)(N:Int),i≤n∧k=n-i∧x5=.int .i64 N∧x6=.int .i64 (i:Nat)∧200*i≤N∧N≤x0∧Hid (∀x∈l.take i,EW x))∧wr=w)
 ·exact⟨⟨0,0,by omega,by omega,rfl,rfl,by omega,by omega,Qa<|by simp⟩,rfl⟩
 obtain⟨⟨i,N,hi,hk,rfl,rfl,y7,y8,HG⟩,rfl⟩:=hrel
 by_cases hlt:i<n
 ·have q0:(i:Int)<n:=by omega
  have⟨x,hx⟩:=qy l i (by have:=HN.o;omega);obtain⟨g,off,rfl,hc⟩:=WL HS.o hx;have x2:=QA hx;obtain⟨af,cf,x3,h9⟩:=HH.o.ents x x2;obtain⟨y1,y2,y3,y4⟩:=HH.o.strs x x2;have c1:=hc 1 (.string<|str x.act.path) (by decide) rfl;have c2:=hc 2 (.string<|str x.act.text) (by decide) rfl;have c4:=hc 4 x.fv (by decide) rfl;have⟨fl,h8⟩:=qx x.act.files;have⟨m,hm⟩:=qx fl.length;rw[x3,h8,hm]at c4;rw[h8,hm]at h9 y3;have⟨q,hq⟩:=qx<|min ((str x.act.text).size:Int) 20000;have z8:0≤q∧q≤20000:=by omega
  have y0:(str x.act.path).size=x.act.path.length:=rfl;have⟨p,hp⟩:=qx x.act.path.length;have w1:IntKind.i64.wrap (200+q)=200+q:=by rw[Zz];omega
  have w2:IntKind.i64.wrap (N+(200+q))=N+(200+q):=by rw[Zz];omega
  have HX:=Qa<|Qr hx<|Qr h8<|Qr hm<|Qr hp h9;rw[hp]at y0 y1
  by_cases h1:200<p
  ·have g1:(200:Int)<p:=by omega
   go_wp2
   go_ret;exact⟨⟨false,rfl,by simp⟩,rfl⟩
  have g1:¬(200:Int)<p:=by omega
  by_cases h2:20<m
  ·have g2:(20:Int)<m:=by omega
   go_wp2
   go_ret;exact⟨⟨false,rfl,by simp⟩,rfl⟩
  have g2:¬(20:Int)<m:=by omega
  by_cases h3:x0<N+(200+q)
  ·go_wp2
   go_ret;exact⟨⟨false,rfl,by simp⟩,rfl⟩
  go_wp2
  go_loopg [5,7] m (fun k x5 x7 wz=>(∃(j:Nat)(M:Int),j≤m∧k=m-j∧x5=.int .i64 M∧x7=.int .i64 (j:Nat)∧200*i+200≤M∧M≤x0∧Hid (∀f∈fl.take j,f.1.length≤200))∧wz=wr)
  ·exact⟨⟨0,_,by omega,by omega,rfl,rfl,by omega,by omega,Qa<|by simp⟩,rfl⟩
  obtain⟨⟨j,M,hj,y9,rfl,rfl,y5,y6,HF⟩,rfl⟩:=hrel
  by_cases z1:j<m
  ·have q1:(j:Int)<m:=(by omega);obtain⟨hx,h8,hm,hp,h9⟩:=HX.o;have⟨f,hf⟩:=qy fl j (by omega);obtain⟨g',p2,rfl,d0,d1⟩:=Cj h9 hf;have⟨u,hu⟩:=qx<|min ((str f.2).size:Int) 20000;have p0:0≤u∧u≤20000:=(by omega);have⟨pf,x1⟩:=qx f.1.length;have p1:(str f.1).size=pf:=x1;have x9:=((HH.o.strs x<|QA hx).2.2.2 f (by rw[h8];exact QA hf)).1;rw[x1]at x9;have w3:IntKind.i64.wrap (100+u)=100+u:=(by rw[Zz];omega);have w4:IntKind.i64.wrap (M+(100+u))=M+(100+u):=(by rw[Zz];omega);have x8:=Qa (show pf≤200→∀f∈fl.take (j+1),f.1.length≤200 from fun h y o=>by
    rw[Zt,hf]at o;rcases Q6.1 o with o|o
    ·exact HF.o y o
    simp at o;subst o;omega)
   by_cases h4:200<pf
   ·have g4:(200:Int)<pf:=by omega
    go_wp2
    go_ret;exact⟨⟨false,rfl,by simp⟩,rfl⟩
   have g4:¬(200:Int)<pf:=by omega
   by_cases h5:x0<M+(100+u)
   ·go_wp2
    go_ret;exact⟨⟨false,rfl,by simp⟩,rfl⟩
   go_wp2
   go_roundg (m-(j+1))
   ·exact⟨⟨j+1,_,by omega,rfl,rfl,by go_num,by omega,by omega,Qa<|x8.o<|by omega⟩,rfl⟩
   omega
  obtain rfl:m=j:=by omega
  have q1:¬(m:Int)<m:=by omega
  have x4:=Qa (show ∀y∈l.take (i+1),EW y from fun y o=>by
   obtain⟨hx,h8,hm,hp,h9⟩:=HX.o;rw[Zt,hx]at o;rcases Q6.1 o with o|o
   ·exact HG.o y o
   simp at o;subst o;refine⟨by omega,by rw[h8];omega,fun f hf=>?_⟩;rw[h8]at hf;exact HF.o f (by rwa[Q8<|by omega]))
  go_wp2
  go_roundg (n-(i+1))
  ·exact⟨⟨i+1,_,by omega,rfl,rfl,by go_num,by omega,by omega,x4⟩,rfl⟩
  omega
 obtain rfl:n=i:=by omega
 have q0:¬(n:Int)<n:=by omega
 go_wp2
 go_ret;refine⟨⟨true,rfl,fun _=>⟨by have:=HN.o;omega,?_⟩⟩,rfl⟩;have:=HG.o;rwa[Q8 (by rw[HN.o];exact Ql _)]at this
def nZ(w:WD)(n:Nat)(e:Ending)(w':WD):Prop:=
 ∃b a c d,e=.returned (.tuple #[.pointer (some ⟨b,0,none⟩),.pointer (some ⟨a,0,none⟩)])∧Zj w' a b c d (.slice none 0 0) (Vst.fresh n)∧Qb [] w w'∧∀f∈QT a b c d (.slice none 0 0),w.heap.size≤f
def fD(n:Nat)(w)(k:31≤n)(e:n≤4096)(a:JF w)(l:10≤w.heap.size):Calls prog 8 #[n] w (nZ w n):=by
 have g:=Qa<|Qb5 n w (by omega) e;have f:=Qa a;go_enter func8,ntmps8;go_wp2_with (first
  |(go_at_call 31;refine g.o.mono ?_;rintro j u⟨i,t,rfl,o,d,c⟩)
  |(go_at_call 11;refine(Qcq o k e (f.o.kZ d) fun a b=>QS l<|c a b).mono ?_;rintro j v⟨h,r,s,rfl,m,q,p⟩))
 go_ret2;exact⟨i,h,r,s,rfl,m,d.trans q fun a b=>.inr<|c a b,fun a b=>(p a b).elim (c a) fun a=>QS d.size a⟩
def acts_ok{a d b g mv s w c}(i:Zj w a d b g mv s)(j:Vok s c)(x:V0)(l:V2 w x.fv x.act.files)(h:EW x)(hs:x.act.text.length≤140737488351232∧∀f∈x.act.files,f.2.length≤140737488351232)(k:s.dev.lZ+200000≤1000000000):
 Calls prog 15 #[.pointer a,.agg (J9 x).toArray] w fun e w'=>e=.returned (.int .i64 (s.does x.act).1)∧ZQ w a d b g mv (s.does x.act).2 w':=by
 obtain⟨g1,v,g3⟩:=h;have⟨g,m,p,q,n,u,r,t⟩:=qh (fun b=>(Qc [] w).alloc b) (fun h (b:Qb [] w h)=>Pm (i.kZ b) j x.act.path x.act.text (by omega) hs.1<|by omega) (fun h (b:Qb [] w h)=>Wz (i.kZ b) j x.act.path (by omega)<|by omega) (fun h (b:Qb [] w h)=>eG (i.kZ b) j x.act.path (by omega) x.act.tg<|by omega) (fun h (b:Qb [] w h)=>Wt (i.kZ b) j k) (fun h (b:Qb [] w h)=>kR (i.kZ b) j<|by omega) (fun h (b:Qb [] w h)=>Po (i.kZ b) j x.fv x.act.files (l.kZ b) (by omega) (fun f hf=>⟨by have:=g3 f hf;omega,hs.2 f hf⟩)<|by omega) i.refl;have o:=Qa<|show s.does x.act=s.does x.act from rfl;have⟨h,b⟩:=qx<|s.does x.act;rw[b];unfold Vst.does at b;unfold J9
 by_cases h0:x.act.kind=0
 ·rw[Qg h0]at b;have j:(x.act.kind==0)=true:=by rw[h0];rfl
  have h:=Qa b;go_enter func15,Ed;go_wp2_with (go_at_call 12;refine(m.o _<|g.o _).mono ?_;rintro e o⟨rfl,i⟩);go_ret;rw[←h.o];exact⟨rfl,.from (g.o _) i⟩
 rw[Qf h0]at b;have j:(x.act.kind==0)=false:=Zb.2 h0
 by_cases j:x.act.kind=1
 ·rw[Qg j]at b;have k:(x.act.kind==1)=true:=by rw[j];rfl
  have h:=Qa b;go_enter func15,Ed;go_wp2_with (go_at_call 28;refine(p.o _<|g.o _).mono ?_;rintro e o⟨rfl,i⟩);go_ret;rw[←h.o];exact⟨rfl,.from (g.o _) i⟩
 rw[Qf j]at b;have k:(x.act.kind==1)=false:=Zb.2 j
 by_cases k:x.act.kind=2
 ·rw[Qg k]at b;have q2:(x.act.kind==2)=true:=by rw[k];rfl
  have h:=Qa b;go_enter func15,Ed;go_wp2_with (go_at_call 42;refine(q.o _<|g.o _).mono ?_;rintro e o⟨rfl,i⟩);go_ret;rw[←h.o];exact⟨rfl,.from (g.o _) i⟩
 rw[Qf k]at b;have q2:(x.act.kind==2)=false:=Zb.2 k
 by_cases l:x.act.kind=3
 ·rw[Qg l]at b;have m:(x.act.kind==3)=true:=by rw[l];rfl
  have h:=Qa b;go_enter func15,Ed;go_wp2_with (go_at_call 29;refine(n.o _<|g.o _).mono ?_;rintro e o⟨rfl,i⟩);go_ret;rw[←h.o];exact⟨rfl,.from (g.o _) i⟩
 rw[Qf l]at b;have m:(x.act.kind==3)=false:=Zb.2 l
 by_cases m:x.act.kind=4
 ·rw[Qg m]at b;have n:(x.act.kind==4)=true:=by rw[m];rfl
  have h:=Qa b;go_enter func15,Ed;go_wp2_with (go_at_call 43;refine(u.o _<|g.o _).mono ?_;rintro e o⟨rfl,i⟩);go_ret;rw[←h.o];exact⟨rfl,.from (g.o _) i⟩
 rw[Qf m]at b;have n:(x.act.kind==4)=false:=Zb.2 m
 by_cases n:x.act.kind=5
 ·rw[Qg n]at b;have p:(x.act.kind==5)=true:=by rw[n];rfl
  have h:=Qa b;go_enter func15,Ed;go_wp2_with (go_at_call 39;refine(r.o _<|g.o _).mono ?_;rintro e o⟨rfl,i⟩);go_ret;rw[←h.o];exact⟨rfl,.from (g.o _) i⟩
 rw[Qf n]at b;have p:(x.act.kind==5)=false:=Zb.2 n;have h:=Qa b;go_enter func15,Ed
 go_wp2
 go_ret;rw[←h.o];exact⟨rfl,t.o.kept<|g.o _⟩
end
section
open Go.ChangeShapes Go.WideShapes Go.ChangeAt Go.Deep
def lI{H P e}:∀{ds:List (DataW H)}{d:DataW H},d∈ds→∀n∈d.weights P e,n∈DataW.weightsAll P e ds
 |d0::ds,d,h,n,hn=>by
  simp only[DataW.weightsAll,Q6];rcases QE.1 h with rfl|h
  ·exact .inl hn
  exact .inr<|lI h n hn
def iN{H enc W t e a len cap}{d:DataW H}{p}{α:Type}(size)(f:α→LV)(good:α→Prop)(ht:prog.underlying t=some (.slice e))(hc:prog.cellsOf e=size)(hs:0<size)(hf:∀x,(f x).length=size)(x8:∀n cs D,DataW.trod enc prog W 0 (fun _=>true) true n e cs=some D→(∀m∈D.1.weights prog e,m≤reachBytes)→∃x,cs=f x∧good x)(x4:∀m∈d.weights prog t,m≤reachBytes)(h:DataW.Trod enc prog W 0 (fun _=>true) true t (.slice a len cap) d p):
 ∃xs:List α,Qp W size a len (xs.flatMap f)∧xs.length=len∧len≤cap∧cap≤maxLen∧len*prog.bytesOf e≤reachBytes∧∀x∈xs,good x:=by
 obtain⟨y8,hr⟩:=h;simp only[Value.cells]at hr;rcases open_slice ht hr with⟨h5,-⟩|⟨ad,l,c,m,n,D,Pl,h5,-,hl,hm,x3,h9,hx⟩
 ·simp only[List.cons.injEq,Value.slice.injEq,and_true]at h5;obtain⟨rfl,rfl,rfl⟩:=h5;exact⟨[],⟨by simp,fun j u o=>by simp at o⟩,rfl,Ql _,ZF _,by simp,fun x hx=>by simp at hx⟩
 simp only[List.cons.injEq,Value.slice.injEq,and_true]at h5;obtain⟨rfl,rfl,rfl⟩:=h5;simp only[Co]at x3;subst x3;injection h9 with h9 _;subst h9;have y5:=x4 ((((List.range len).map D).length+((List.range<|m-len).map fun j=>D<|len+j).length)*prog.bytesOf e) (by simp[DataW.weights,ht]);have y4:∀k,k<len→∀m∈(D k).weights prog e,m≤reachBytes:=fun k hk m hm=>x4 m (by simp only[DataW.weights,ht,QE,Q6];exact .inr<|.inl<|lI (QB.2 ⟨k,ZL.2 hk,rfl⟩) _ hm)
 have key:∀k,k≤len→∃xs:List α,xs.length=k∧∀i x,xs[i]?=some x→W.cells? 0 (ad.add<|i*size) size=some (f x)∧good x:=by
  intro k
  induction k with
  |zero=>exact fun _=>⟨[],rfl,fun i x hi=>by simp at hi⟩
  |succ k ih=>
   intro hk;obtain⟨xs,h1,q⟩:=ih (by omega);obtain⟨y7,h3,h4⟩:=hx k (by omega);obtain⟨x,rfl,hg⟩:=x8 _ _ _ h4 (y4 k<|by omega);rw[hc]at h3;refine⟨xs++[x],by simp[h1],fun i y hi=>?_⟩;rcases Xq i xs.length with hlt|x9
   ·rw[Xp hlt]at hi;exact q i y hi
   rw[Zx x9]at hi;have y0:i-xs.length=0:=(by have:=(Qz.1 hi).1;simp at this;omega);rw[y0]at hi;simp at hi;subst hi;rw[show i=k by omega];exact⟨h3,hg⟩
 obtain⟨xs,h1,q⟩:=key len<|Ql _;refine⟨xs,⟨by rw[wP f size hf,h1],fun j u o=>?_⟩,h1,hl,hm,?_,fun x hx=>?_⟩
 ·have hr:j%size<size:=JL _ hs;have x2:j=j/size*size+j%size:=by have:=LH j size;rw[RX]at this;omega
  rw[x2,aE f size hf xs _ _ hr]at o;cases hxi:xs[j/size]? with
  |none=>rw[hxi]at o;cases o
  |some x=>rw[hxi]at o;obtain⟨-,y9,x6⟩:=World.cells?_some (q _ _ hxi).1;have h8:=x6 (j%size) hr;simp only[Option.bind_some]at o;rw[o]at h8;have x5:∃x0,xs[0]?=some x0:=⟨_,Qj<|GV (ZF _) (Qz.1 hxi).1⟩;obtain⟨x0,y6⟩:=x5;obtain⟨-,z1,x7⟩:=World.cells?_some (q 0 x0 y6).1;have x1:=x7 0 hs;have y1:0<(f x0).length:=(by rw[hf];exact hs);rw[Qj y1]at x1;have y2:=World.cell?_spot x1;obtain⟨b,off,sp⟩:=ad;have y3:sp=none:=(by simpa[Addr.add]using y2);subst y3;refine⟨b,off,rfl,?_⟩;rw[YM,YM]at h8;rw[x2,←Ja];exact h8
 ·refine QS (AA _ ?_) y5;simp only[QH,Vl];omega
 obtain⟨i,hi⟩:=Fc hx;exact(q i x hi).2
end
section
open Go.ChangeShapes Go.WideShapes Go.ChangeAt Go.Deep

end
section
open Go.ChangeShapes Go.WideShapes Go.ChangeAt Go.Deep

end
