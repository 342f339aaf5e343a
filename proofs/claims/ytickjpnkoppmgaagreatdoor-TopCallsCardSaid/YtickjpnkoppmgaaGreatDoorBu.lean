import Derived.Test.YtickjpnkoppmgaaGreatDoorBt
set_option linter.all false
set_option maxHeartbeats 2000000
set_option maxRecDepth 100000
namespace Go.Proofs.YtickjpnkoppmgaaGreatDoor
open Go.Proofs.Tryz Go.RowKit K
def K.Vi(l:List UInt8):Nat:=l.foldl (fun b a=>10*b+(a.toNat-48)) 0
def uN(l w)(h0:l≠[])(v:l.length≤9)(j:∀b∈l,48≤b.toNat∧b.toNat≤57)(o:∀b,l[0]?=some b→49≤b.toNat):
 Calls prog 131 #[str l] w fun e w'=>e=.returned (.tuple #[(Vi l:Nat),(0:Int)])∧w'=w:=by
 have n:(str l).size=l.length:=rfl;have g:0<l.length:=Lc.2 h0;have hne:(str l).toList.isEmpty=false:=CC _ g;have u:∀a (c:a<l.length),(str l)[a]'c=l[a]:=fun a c=>rfl
 have k:∀a (c:a<l.length),Vi (l.take<|a+1)=10*Vi (l.take a)+(l[a].toNat-48):=fun a c=>by rw[ZE,Qj c];unfold Vi;rw[Fi];rfl
 have q:∀a,a≤l.length→Vi (l.take a)<10^a:=fun a=>by
  induction a with
  |zero=>intro _;simp[Vi]
  |succ a ih=>intro hk;have c:=ih (by omega);rw[k a<|by omega,JX];have:=j _<|XW (by omega:a<l.length);omega
 have p:∀a,a≤l.length→Vi (l.take a)<1000000000:=fun a hk=>Bl (q a hk) (QU (Y7 (by decide) (by omega:a≤9))<|by decide)
 have⟨r,t,i⟩:=qc j k p;have⟨h,hs⟩:=qx<|str l;have m:=Qa (show ∀a (c:a<l.length),∀f,(Instr.index 9 (.string h)<|.int .i64 (a:Int)).run prog f=.ok (.int .u8 (l[a].toNat:Nat)) f from fun a c=>by rw[←hs];exact Ui (str l) a (a:Int) c rfl);rw[hs]at n hne ⊢;have⟨d,c⟩:=qx l.length;have s:∀f,(Instr.index 9 (.string h) (0:Int)).run prog f=.ok (.int .u8 (l[0].toNat:Nat)) f:=m.o 0 g;have h:¬((l[0].toNat:Nat):Int)=48:=by have:=o _<|Qj g;omega
 have x:(((l[0].toNat:Nat):Int)==48)=false:=Zh.2 h;have⟨c0,f⟩:=qx<|l[0].toNat;rw[f]at s h x;have s:=Qa (by rw[←c,Vp]:Vi (l.take d)=Vi l);rw[c]at n v;have n:=Qa c;clear u k q p j o hs c g f h0;go_enter func131,ntmps131
 go_wp2
 go_loopg [4,5,19] d (fun a g c f wr=>(∃c:Nat,c≤d∧a=d-c∧g=.int .i64 (Vi (l.take c):Nat)∧f=.int .i64 (c:Nat))∧w=wr)
 ·exact⟨⟨0,by omega,by omega,rfl,rfl⟩,rfl⟩
 obtain⟨⟨c,hi,hk,rfl,rfl⟩,rfl⟩:=hrel
 by_cases hlt:c<d
 ·have k:(c:Int)<d:=by omega
  have a:c<l.length:=by rw[n.o];exact hlt
  have i0:=m.o c a;have m:=r.o _<|XW a;have g:=t.o c a;have hb:=i.o c (by omega);have h:=i.o (c+1) (by omega);rw[g]at h;have⟨b,j⟩:=qx<|l[c].toNat;have⟨a,f⟩:=qx<|Vi<|l.take c;rw[j]at i0 m g h;rw[f]at g hb h ⊢;have h:=Qa g;obtain⟨g1,_,g3⟩: ¬(b:Int)<48∧¬(57:Int)<b∧(a:Int)≤9007199254740992:=by omega
  have:IntKind.u8.wrap ((b:Int)-48)=(b:Int)-48:=by rw[CM];omega
  have:IntKind.i64.wrap ((b:Int)-48)=(b:Int)-48:=by rw[Zx];omega
  clear g f j
  go_wp2
  go_roundg (d-(c+1))
  ·exact⟨⟨c+1,by omega,rfl,by rw[h.o];congr 1;omega,by go_num⟩,rfl⟩
  omega
 obtain rfl:c=d:=by omega
 have k:¬(c:Int)<c:=by omega
 have hb:=i.o c (by rw[n.o];exact Ql _);rw[s.o]at hb ⊢;have⟨a,f⟩:=qx<|Vi l;rw[f]at hb ⊢;have g3:¬(9007199254740992:Int)<a:=by omega
 have a:=Qa f;clear f
 go_wp2
 go_ret2;exact⟨by rw[a.o];rfl,rfl⟩
def oG(v:List UInt8)(w:World)(e:Ending)(w':World):Prop:=
 ∃a b,e=.returned (.tuple #[.slice (some ⟨a,0,none⟩) 1 b,(0:Int)])∧w'.cell? ⟨a,0,none⟩=some (.string ⟨#[112,97,116,104]⟩)∧w'.cell? ⟨a,1,none⟩=some (.string (str v))∧Qb [] w w'
def pP:(prog.info? 172).map (fun i=>(i.zero,i.size,i.bytes))=some (some<|.agg #[.string ⟨#[]⟩,.string ⟨#[]⟩],2,32):=by kernel_rfl
def Qh0(n)(a:n<1000):Vi (VB n)=n:=by
 have b:∀a,a<10→(UInt8.ofNat<|48+a).toNat=48+a:=fun a a=>by rw[US,XQ<|by omega]
 simp only[Vi,VB,BR,List.foldl_nil];rw[b _<|by omega,b _<|by omega,b _<|by omega];omega
def Qdv(v w)(t:Jy w)(y:100<v.length)(z:v.length≤200):Calls prog 94 #[str<|ZY v] w (oG v w):=by
 have⟨b,q⟩:=qx v.length;have C:=Gn v;obtain⟨g,B⟩:=t.1;have⟨d,i⟩:=qx<|VB<|b+10;have l:ZY v=d++32::(YY++61::(v++[10])):=by unfold ZY;rw[q,i];simp[YY]
 have f:d.length=3:=by rw[←i];rfl
 have p:∀a∈d,48≤a.toNat∧a.toNat≤57:=by rw[←i];exact uO _ (by omega)
 have s:Vi d=b+10:=by rw[←i];exact Qh0 _ (by omega)
 have r:∀a,d[0]?=some a→49≤a.toNat:=fun a hb=>by rw[←i]at hb;simp only[VB,List.getElem?_cons_zero,Option.some.injEq]at hb;rw[←hb,US,XQ<|by omega];omega
 have h:=Qa fun a (k:a.cell? ⟨0,0,none⟩=some (.int .i64 g))=>Tryz.strCut (str<|ZY v) ⟨#[32]⟩ g a (by show(ZY v).length<_;omega) k;rw[show(str<|ZY v).data.toList=ZY v from rfl,show(⟨#[32]⟩:ByteArray).data.toList=[32]from rfl,l,Wq 32 d _ (fun o=>by have:=p _ o;revert this;decide),←l]at h;have⟨c,e⟩:=qx<|YY++61::(v++[10]);rw[e]at h;have⟨h,m⟩:=qb (show ∀a,a.cell? ⟨0,0,none⟩=some (.int .i64 g)→Calls prog 130 #[str<|ZY v,.string ⟨#[32]⟩] a fun e n=>e=.returned (.tuple #[.string<|str d,.string<|str c,.bool true])∧∃b,n=a.drewN b from h.o) fun a (k:a.cell? ⟨0,0,none⟩=some (.int .i64 g))=>Tryz.strCut (str<|YY++61::v) ⟨#[61]⟩ g a (by show(YY++61::v).length<_;simp[YY];omega) k;rw[show(str<|YY++61::v).data.toList=YY++61::v from rfl,show(⟨#[61]⟩:ByteArray).data.toList=[61]from rfl,Wq 61 YY v<|by decide]at m;have⟨m,n⟩:=qb (show ∀a,a.cell? ⟨0,0,none⟩=some (.int .i64 g)→Calls prog 130 #[str<|YY++61::v,.string ⟨#[61]⟩] a fun e n=>e=.returned (.tuple #[str YY,str v,.bool true])∧∃b,n=a.drewN b from m.o) fun a=>uN d a (fun e=>by rw[e]at f;cases f) (by omega) p r;rw[s]at n;have⟨c,k⟩:=qx<|str<|ZY v;have⟨N,u⟩:=qx<|b+10;have D:c.size=N:=by rw[←k];show(ZY v).length=_;omega
 have hne:c.toList.isEmpty=false:=by rw[←k];exact CC _ (by show 0<(ZY v).length;omega)
 have i0:=Ui c (b+9) ((N:Int)-1) (by omega) (by omega);have x:c[b+9]'(by omega)=10:=by
  have o:(ZY v)[b+9]?=some 10:=by rw[l,Zy<|by omega,f,show b+9-3=(b+5)+1 by omega,VL,Zy<|by simp[YY],show b+5-YY.length=b+1 by simp[YY],VL,Zy<|by omega,q,ZM];rfl
  obtain⟨A,A⟩:=Qz.1 o;subst k;exact A
 rw[x]at i0;have A:=Oj c 4 (b+9) 4 ((N:Int)-1) (by omega) (by omega) rfl (by omega);have o:c.extract 4 (b+9)=str (YY++61::v):=by
  rw[Uz c 4 (b+9)<|by omega,show c.data.toList=ZY v by rw[←k];rfl,l]
  congr 1
  rw[show d++32::(YY++61::(v++[10]))=(d++[32])++((YY++61::v)++[10])by simp,Ff,JB<|by simp[f],Yv,show List.length (d++[(32:UInt8)])=4 by simp[f],ZM,VK,PE (by simp[YY];omega),Zd (by simp[YY];omega)]
 rw[o]at A;have A:=Gu c N (N:Int) (by omega) rfl;have b:c.extract N c.size=⟨#[]⟩:=by rw[Uz c N c.size<|Ql _,D,ZM,Lj];rfl
 rw[b]at A;rw[k]at h ⊢;rw[u]at n;have:(str d).size=3:=f;have A:IntKind.i64.wrap ((N:Int)-1)=(N:Int)-1:=by rw[Zx];omega
 have g1:¬(262144:Int)<N:=by omega
 have:¬(N:Int)<5:=by omega
 have g3:¬(N:Int)<N:=by omega
 have:(str YY).toList.isEmpty=false:=CC _ (by decide);go_enter func94,ntmps94;go_wp2_with fail
 go_step3
 go_wp2_with fail
 go_step3
 go_wp2
 go_loopg [0,4] 1 (fun b d i wr=>(b=1∧d=.string c∧i=.slice none 0 0∨b=0∧d=.string ⟨#[]⟩∧∃b f,i=.slice (some ⟨b,0,none⟩) 1 f∧Hid (wr.cell? ⟨b,0,none⟩=some (.string ⟨#[112,97,116,104]⟩))∧Hid (wr.cell? ⟨b,1,none⟩=some (.string<|str v)))∧Hid (Qb [] w wr))
 ·exact⟨.inl ⟨rfl,rfl,rfl⟩,Qa<|Qc _ _⟩
 obtain⟨⟨hk,rfl,rfl⟩|⟨hk,rfl,b,f,rfl,i,k⟩,d⟩:=hrel
 ·have hb:=d.o.cZ B (by simp);go_wp2_with (first
   |(go_at_call 130;with_reducible refine(h.o _ hb).mono ?_;rintro e A⟨rfl,c,rfl⟩)
   |(go_at_call 131;with_reducible refine(n.o _).mono ?_;rintro e l⟨rfl,rfl⟩))
  have h:(wr.drewN c).cell? ⟨0,0,none⟩=some (.int .i64 g):=hb;refine(m.o _ h).mono ?_;rintro e e⟨rfl,q2,rfl⟩;have g:Qb [] w ((wr.drewN c).drewN q2):=(d.o.drewN c).drewN q2;have⟨a,e⟩:=qx<|(wr.drewN c).drewN q2;rw[e]at g;rw[e];have l:=Qa g;go_wp2_with (at_builtin;(refine Ba a rfl _ _ 168 rfl 172 (.agg #[.string ⟨#[]⟩,.string ⟨#[]⟩]) 2 32 underlying168 pP rfl (by decide) (.slice none 0 0) 0 [] [str YY,str v] rfl rfl rfl rfl (by intro o e;simp at e;rcases e with rfl|rfl<;>rfl) (Qp.nil _ _ _) (by decide) (by decide) ?_;intro h g p c m n))
  go_roundg 0
  ·exact⟨.inr ⟨rfl,rfl,h,g,rfl,Qa<|c.aZ (j:=0) rfl,Qa<|c.aZ (j:=1) rfl⟩,Qa<|l.o.trans m<|by simp[Qd,qo]⟩
  omega
 go_wp2_with fail;rw[UM];go_ret2;exact⟨b,f,rfl,i.o,k.o,d.o⟩
def Oh(pre name d kind k size w)(n:(0:UInt8)∉name)(hp:(0:UInt8)∉pre)(a:name.length≤100)(c:pre.length≤155)(hk:kind≠0)(hs:size<1000000000)(g:1≤name.length)(b:d.length≤1000000):
 Calls prog 93 #[str<|XK pre name kind size++d,.int .u8 k.toNat] w fun e w'=>e=.returned (.tuple #[Rz (str<|JO pre name) kind size,.bool<|decide<|kind=k])∧Qb [] w w':=by
 have h:=Qa fun f=>Qhm pre name kind size f n hp a c hk hs g;have j:=Ry kind size a c;have⟨a,l⟩:=qx<|XK pre name kind size;rw[l]at h j ⊢;have⟨c,g⟩:=qx<|str<|a++d;have o:c.size=512+d.length:=by rw[←g];show(a++d).length=_;rw[Qo,j]
 have m:=Cz c 512 512 (by omega) rfl;rw[Uz c 0 512<|by omega,VK,Bm,show c.data.toList=a++d by rw[←g];rfl,show(a++d).take 512=a by rw[←j];exact CR]at m;have:¬((c.size:Nat):Int)<512:=by omega
 have⟨m,c⟩:=qx<|decide<|kind=k;have:((kind.toNat:Int)==(k.toNat:Int))=m:=by
  rw[←c]
  by_cases a:kind=k
  ·subst a;simp
  rw[XI a];exact Zh.2 (fun e=>a<|Dd.1<|by omega)
 have⟨pj,a⟩:=qx<|str<|JO pre name;unfold Rz at h ⊢;rw[a]at h ⊢;rw[g,c];clear n hp hk g l j o a c b;go_enter func93,ntmps93;go_wp2_with (go_at_call 129;with_reducible refine(h.o _).mono ?_;rintro e g⟨rfl,j⟩);have d:=Qx g [.string pj,size,.int .u8 kind.toNat,(420:Int),(0:Int),.string ⟨#[]⟩,.string ⟨#[]⟩,.string ⟨#[]⟩,(0:Int),(0:Int)] 165;have a:=((Qx w [.string ⟨#[]⟩,(0:Int),.int .u8 0,(0:Int),(0:Int),.string ⟨#[]⟩,.string ⟨#[]⟩,.string ⟨#[]⟩,(0:Int),(0:Int)] 165).kept j<|by simp).kept ((Qc [] g).alloc<|.cells ([.string pj,size,.int .u8 kind.toNat,(420:Int),(0:Int),.string ⟨#[]⟩,.string ⟨#[]⟩,.string ⟨#[]⟩,(0:Int),(0:Int)]:List Value).toArray 165) (by simp);have n:=(((Qc [] w).alloc _).trans j<|by simp).alloc<|.cells ([.string pj,size,.int .u8 kind.toNat,(420:Int),(0:Int),.string ⟨#[]⟩,.string ⟨#[]⟩,.string ⟨#[]⟩,(0:Int),(0:Int)]:List Value).toArray 165;have l:=j.size;simp only[U8]at l;have⟨f,o⟩:=qx<|g.alloc<|.cells ([.string pj,size,.int .u8 kind.toNat,(420:Int),(0:Int),.string ⟨#[]⟩,.string ⟨#[]⟩,.string ⟨#[]⟩,(0:Int),(0:Int)]:List Value).toArray 165;rw[o]at d a n;change Code.wp _ _ _ _ (g.alloc<|.cells ([.string pj,size,.int .u8 kind.toNat,(420:Int),(0:Int),.string ⟨#[]⟩,.string ⟨#[]⟩,.string ⟨#[]⟩,(0:Int),(0:Int)]:List Value).toArray 165);rw[o];have⟨c,b⟩:=qx w.heap.size;have⟨h,hb⟩:=qx g.heap.size;rw[hb]at d l;rw[b]at a l;have:=d.cell (i:=0) rfl;have:=a.free 0;have z0:=a.cell (i:=0) rfl;have:=d.cell (i:=1) rfl;have:=a.free 1;have:=a.cell (i:=1) rfl;have:=d.cell (i:=2) rfl;have:=a.free 2;have z2:=a.cell (i:=2) rfl;have:=d.cell (i:=3) rfl;have:=a.free 3;have z3:=a.cell (i:=3) rfl;have:=d.cell (i:=4) rfl;have:=a.free 4;have z4:=a.cell (i:=4) rfl;have:=d.cell (i:=5) rfl;have:=a.free 5;have z5:=a.cell (i:=5) rfl;have:=d.cell (i:=6) rfl;have:=a.free 6;have:=a.cell (i:=6) rfl;have:=d.cell (i:=7) rfl;have:=a.free 7;have:=a.cell (i:=7) rfl;have:=d.cell (i:=8) rfl;have r8:=a.free 8;have:=a.cell (i:=8) rfl;have:=d.cell (i:=9) rfl;have:=a.free 9;have z9:=a.cell (i:=9) rfl;obtain⟨ne1,ne2⟩: ¬c=h∧¬h=c:=by omega
 have⟨h,q,g⟩:=qc a n b;clear d a n j l o
 go_region
 all_goals
  go_wp2_with fail;have a:Qf f c 165 [.string ⟨#[]⟩,(0:Int),.int .u8 0,(0:Int),(0:Int),.string ⟨#[]⟩,.string ⟨#[]⟩,.string ⟨#[]⟩,(0:Int),(0:Int)]:=h.o;have a:=a.set 0<|.string pj;have a:=a.set 1 size;have a:=a.set 2<|.int .u8 kind.toNat;have a:=a.set 3 (420:Int);have a:=a.set 4 (0:Int);have a:=a.set 5<|.string ⟨#[]⟩;have a:=a.set 6<|.string ⟨#[]⟩;have a:=a.set 7<|.string ⟨#[]⟩;have a:=a.set 8 (0:Int);have a:=a.set 9 (0:Int);have d:=a.cell (i:=0) (u:=.string pj) rfl;have f:=a.cell (i:=1) (u:=.int .i64 size) rfl;have h:=a.cell (i:=2) (u:=.int .u8 kind.toNat) rfl;have j:=a.cell (i:=3) (u:=.int .i64 420) rfl;have l:=a.cell (i:=4) (u:=.int .i64 0) rfl;have n:=a.cell (i:=5) (u:=.string ⟨#[]⟩) rfl;have o:=a.cell (i:=6) (u:=.string ⟨#[]⟩) rfl;have r:=a.cell (i:=7) (u:=.string ⟨#[]⟩) rfl;have s:=a.cell (i:=8) (u:=.int .i64 0) rfl;have t:=a.cell (i:=9) (u:=.int .i64 0) rfl;refine Q9 (v:=.tuple #[.agg #[.string pj,size,.int .u8 kind.toNat,(420:Int),(0:Int),.string ⟨#[]⟩,.string ⟨#[]⟩,.string ⟨#[]⟩,(0:Int),(0:Int)],.bool m]) (by simp[results,results93,go_sem,g.o,d,f,h,j,l,n,o,r,s,t]) rfl ⟨rfl,?_⟩;have b:=Nat.le_of_eq g.o;refine Qb.drew ?_;exact((((((((((q.o.setCell (p:=⟨c,0,none⟩) (.inr b) _).setCell (p:=⟨c,1,none⟩) (.inr b) _).setCell (p:=⟨c,2,none⟩) (.inr b) _).setCell (p:=⟨c,3,none⟩) (.inr b) _).setCell (p:=⟨c,4,none⟩) (.inr b) _).setCell (p:=⟨c,5,none⟩) (.inr b) _).setCell (p:=⟨c,6,none⟩) (.inr b) _).setCell (p:=⟨c,7,none⟩) (.inr b) _).setCell (p:=⟨c,8,none⟩) (.inr b) _).setCell (p:=⟨c,9,none⟩) (.inr b) _)
structure Lu(p c U a b P0:List UInt8)(S:ByteArray):Prop where
 eq:S=str (U++(XK a b 48 c.length++X9 (Qu (XB c))))
 own:S=str (X0 (p,c))
 a0:(0:UInt8)∉a
 b0:(0:UInt8)∉b
 al:a.length≤155
 bl:1≤b.length∧b.length≤100
 ul:U.length≤1024
 pj:(P0=[]∧JO a b=p)∨P0=p∧p≠[]
structure oI(p c:List UInt8)(S:ByteArray)(t:Bool)(nm:List UInt8)(kd:UInt8)(m:Nat):Prop where
 call:∀W,Calls prog 93 #[S,.int .u8 120] W fun e w'=>e=.returned (.tuple #[Rz (str nm) kd m,.bool t])∧Qb [] W w'
 no:t=false→∃a b,Lu p c [] a b [] S
 yes:t=true→m≤130∧100<p.length∧p.length≤120∧1024≤S.size∧S.extract 512 (512+m)=str (ZY p)∧∃U b,U.length=1024∧Lu p c U [] b p S
def Qd0(p c S)(g:str (X0 (p,c))=S)(hp:Yn p=true)(b:c.length≤8192):S.size≤1000000∧∃t d a m,oI p c S t d a m:=by
 obtain⟨a,k,o⟩:=YI hp;have h0:=aI a;have:=NG c b;have:=J3<|XB c;have⟨b,i⟩:=qx<|X9<|Qu<|XB c;have:b.length≤100000:=by rw[←i,AH];omega
 have h:X0 (p,c)=JJ p c.length++b:=by unfold X0;rw[i]
 have:=MF p c.length o;have:S.size=(JJ p c.length).length+b.length:=by rw[←g,h];show(_++_:List UInt8).length=_;rw[Qo]
 refine⟨by omega,?_⟩;cases hsp:J4 p with
 |some ab=>
  obtain⟨e,d⟩:=ab;obtain⟨l,z2,z3,z4⟩:=Ot hsp h0;have f:1≤d.length∧JO e d=p:=by
   rcases Kt hsp with⟨rfl,rfl,-⟩|⟨j,a,a,n,n⟩
   ·exact⟨k,rfl⟩
   exact⟨a,by unfold JO;rw[Qe (fun a=>by rw[a]at j;simp at j)];exact n.symm⟩
  refine⟨false,JO e d,48,c.length,fun j=>?_,fun _=>⟨e,d,⟨by rw[←g,h,JJ,hsp,i];rfl,g.symm,l,z2,z3,⟨f.1,z4⟩,by simp,.inl ⟨rfl,f.2⟩⟩⟩,fun a=>by cases a⟩;have:=Oh e d b 48 120 c.length j z2 l z4 z3 (by decide) (by omega) f.1 (by omega);rw[show str (XK e d 48 c.length++b)=S by rw[←g,h,JJ,hsp]]at this;exact this
 |none=>
  have u:100<p.length:=by
   rcases Xp 100 p.length with a|a
   ·exact a
   rw[J4,Qg a]at hsp;cases hsp
  have v:=Gn p;have⟨m,r⟩:=qx<|p.length+10;have⟨f,l⟩:=qx<|XK [] [112,97,120] 120 m;have s:f.length=512:=by rw[←l];exact Ry _ _ (by decide) (by decide)
  obtain⟨e,q⟩:∃e,X9 (ZY p)=ZY p++e:=⟨_,rfl⟩;have:(ZY p++e).length=512:=by rw[←q,AH];omega
  have⟨d,n⟩:=qx<|XK [] (p.take 100) 48 c.length++b;have:d.length=512+b.length:=by rw[←n,Qo,Ry _ _ (by rw[Zn];omega)<|by decide]
  have b:S=str (f++((ZY p++e)++d)):=by rw[←g,h,JJ,hsp];simp only[];rw[r,l,q,←n];simp only[QN]
  have h:S.data.toList=f++((ZY p++e)++d):=by rw[b];rfl
  have:S.size=1024+d.length:=by rw[←Zm,h,Qo,Qo];omega
  refine⟨true,[112,97,120],120,m,fun j=>?_,(fun a=>by cases a),fun _=>⟨by omega,u,o,by omega,?_,f++(ZY p++e),p.take 100,by rw[Qo];omega,⟨by rw[b,i,n];simp only[QN],g.symm,by simp,fun a=>h0<|VN a,by simp,⟨by rw[Zn];omega,by rw[Zn];omega⟩,by rw[Qo];omega,.inr ⟨rfl,fun a=>by rw[a]at k;simp at k⟩⟩⟩⟩
  ·have:=Oh [] [112,97,120] ((ZY p++e)++d) 120 120 m j (by decide) (by decide) (by decide) (by decide) (by decide) (by omega) (by decide) (by rw[Qo];omega);rw[l,←b]at this;exact this
  rw[Uz S 512 (512+m)<|by omega,h];refine Qq str ?_;rw[←s,Fg,Ll,QN,←r,←v,CR]
def Qf3(p c w)(h:Jy w)(hp:Yn p=true)(m:c.length≤8192):
 Calls prog 59 #[str<|X0 (p,c)] w fun e w'=>e=.returned (.tuple #[.agg #[str p,str c],((X0 (p,c)).length:Nat),(0:Int)])∧Qb [] w w':=by
 have⟨a,b⟩:=qx<|str<|X0 (p,c);obtain⟨I,r,o,n,g,j⟩:=Qd0 p c a b hp m;have k:(X0 (p,c)).length=a.size:=by rw[←b];rfl
 rw[b,k];have⟨q,f,D,A,C⟩:=qe j j.call b h<|QQ hp m;have l:r=true→(g:Int)≤130∧1024≤a.size:=fun d=>⟨by have:=(j.yes d).1;omega,(j.yes d).2.2.2.1⟩
 have:=Qa l;unfold Rz at f;clear j b h hp m k l;go_enter func59,ntmps59
 go_upto_if 22 with(go_at_call 93;with_reducible refine(f.o _).mono ?_;rintro e k⟨rfl,f⟩)
 have h:=((Qc [] (w.alloc<|.cells #[.string ⟨#[]⟩,.string ⟨#[]⟩] 63)).trans f<|by simp).alloc<|.cells #[str o,g,.int .u8 n.toNat,(420:Int),(0:Int),.string ⟨#[]⟩,.string ⟨#[]⟩,.string ⟨#[]⟩,(0:Int),(0:Int)] 165;have b:=Qx k [str o,g,.int .u8 n.toNat,(420:Int),(0:Int),.string ⟨#[]⟩,.string ⟨#[]⟩,.string ⟨#[]⟩,(0:Int),(0:Int)] 165;have c1:=b.cell (i:=1) (u:=.int .i64 g) rfl;have n:=Qa h;clear b f h
 go_cut [5,6]from 22 to 60 (fun o z f=>(∃b k h l,Hid (Lu p c b k h l a)∧o=.int .i64 (b.length:Nat)∧z=.string (str l))∧Hid (Qb [] (w.alloc<|.cells #[.string ⟨#[]⟩,.string ⟨#[]⟩] 63) f))
 ·cases r with
  |false=>
   obtain⟨k,h,f⟩:=q.o.no rfl;have o:=Qa f;clear f
   go_wp2
   go_meet
   case rel=>exact⟨⟨[],k,h,[],o,rfl,rfl⟩,n⟩
  |true=>
   obtain⟨y,r,B,E,s,b,h,h6,h7⟩:=q.o.yes rfl;have⟨o,x,q⟩:=qc h7 h6 (fun f hk=>Qdv p f (A.o.kZ hk) r<|by omega);have t:=Oj a 512 (512+g) 512 (512+(g:Int)) (by omega) (by omega) rfl (by omega);rw[s]at t;obtain⟨g1,_,g3⟩: ¬(512:Int)<g∧¬(a.size:Int)<1024∧¬(a.size:Int)-512<(g:Int):=(by omega);have t:=((Qc [] w).alloc<|.cells #[.string ⟨#[]⟩,.string ⟨#[]⟩] 63).trans n.o (by simp);clear y r B E s h6 h7;go_wp2_with fail;refine(q.o _ t).mono ?_;rintro e g⟨g,cc,rfl,k0,k1,q⟩;have g:=Qa (n.o.trans q<|by simp);clear q t;go_wp2_with fail
   go_region
   all_goals
    go_wp2
    go_meet
    case rel=>exact⟨⟨b,[],h,p,o,by rw[x.o];rfl,rfl⟩,Qa<|by first|exact g.o|exact g.o.drew⟩
 obtain⟨⟨b,k,h,l,g,rfl,rfl⟩,B⟩:=hcut;obtain⟨x,q2,E,F,y,s,L,G⟩:=g.o;have⟨o,j⟩:=qx<|X9<|Qu<|XB c;have⟨g,q⟩:=qx<|XK k h 48 c.length;rw[j,q]at x;have t:g.length=512:=by rw[←q];exact Ry _ _ s.2 y
 have r:a.data.toList=b++(g++o):=by rw[x];rfl
 have J:a.size=b.length+(512+o.length):=by rw[←Zm,r,Qo,Qo,t]
 have H:=Gu a b.length (b.length:Int) (by omega) rfl;rw[Uz a b.length a.size<|Ql _,r,Fg,Zd (by rw[Qo];omega)]at H;obtain⟨hp,m⟩:=C.o;have n:=Qa (fun f=>Oh k h o 48 48 c.length f F E s.2 y (by decide) (by omega) s.1<|by omega);rw[q,show decide ((48:UInt8)=48)=true from rfl]at n;have⟨n,o⟩:=qb (show ∀f,Calls prog 93 #[.string<|str<|g++o,.int .u8 48] f fun e w'=>e=.returned (.tuple #[Rz (str<|JO k h) 48 c.length,.bool true])∧Qb [] f w' from n.o) fun f=>Qgh a c (b++g) (Zb<|AG (Qu<|XB c).length) f I m (by rw[r,←j,X9];simp only[QN]);rw[show(((b++g).length:Nat):Int)=(b.length:Int)+512 by rw[Qo,t];push_cast;rfl]at o;have C:=Qa fun f hk=>cX (str p) (str c) f (A.o.kZ hk) hp m;rw[show X0 ((str p).data.toList,(str c).data.toList)=X0 (p,c)from rfl,D.o]at C;have A:=Qa fun f=>Tryz.strPre a a f;rw[show Lib.hasPrefix a.data.toList a.data.toList=true from List.isPrefixOf_iff_prefix.2 (List.prefix_refl _)]at A;have I:=((Qc [] w).alloc<|.cells #[.string ⟨#[]⟩,.string ⟨#[]⟩] 63).trans B.o (by simp);have⟨pj,f⟩:=qx<|str<|JO k h;have k:((str l).toList.isEmpty=true∧pj=str p)∨((str l).toList.isEmpty=false∧l=p):=by
  rcases G with⟨rfl,d⟩|⟨rfl,d⟩
  ·exact .inl ⟨by rw[XN];rfl,by rw[←f,d]⟩
  exact .inr ⟨CC _<|Lc.2 d,rfl⟩
 unfold Rz at n;rw[f]at n;have⟨h,D⟩:=qx b.length;have b:=Qa k;have:h≤1024:=by omega
 rw[D]at H o ⊢;clear x q2 E F y s L G j q t r J hp m f k D
 go_upto_if 72 with(go_at_call 93;with_reducible refine(n.o _).mono ?_;rintro e j⟨rfl,h⟩)
 have f:=Qa<|(B.o.trans h<|by simp).alloc<|.cells #[.string pj,c.length,.int .u8 48,(420:Int),(0:Int),.string ⟨#[]⟩,.string ⟨#[]⟩,.string ⟨#[]⟩,(0:Int),(0:Int)] 165;have c0:=(Qx j [.string pj,c.length,.int .u8 48,(420:Int),(0:Int),.string ⟨#[]⟩,.string ⟨#[]⟩,.string ⟨#[]⟩,(0:Int),(0:Int)] 165).cell (i:=0) (u:=.string pj) rfl;have⟨t2,j⟩:=qx<|(str l).toList.isEmpty;rw[j]at b ⊢;clear j h
 go_cut [6]from 72 to 74 (fun z h=>z=.string (str p)∧Hid (Qb [] (w.alloc<|.cells #[.string ⟨#[]⟩,.string ⟨#[]⟩] 63) h))
 ·cases t2 with
  |true=>
   have d:=b.o;simp only[EW,Bool.true_eq_false,false_and,or_false]at d;have g:=Qa d;clear d
   go_wp2
   go_meet
   case rel=>exact⟨by rw[g.o],f⟩
  |false=>
   have d:=b.o;simp only[EW,Bool.false_eq_true,false_and,false_or]at d;have g:=Qa d;clear d
   go_wp2
   go_meet
   case rel=>exact⟨by rw[g.o],f⟩
 obtain⟨rfl,f⟩:=hcut;have h:=((Qc [] w).alloc<|.cells #[.string ⟨#[]⟩,.string ⟨#[]⟩] 63).trans f.o (by simp);clear c0 I;go_wp2_with (first
  |(go_at_call 95;refine(o.o _).mono ?_;rintro e q⟨⟨l,rfl⟩,d⟩)
  |(go_at_call 40;refine(C.o _<|h.trans d<|by simp).mono ?_;rintro e r⟨rfl,g⟩;have b:=(Qx w [.string ⟨#[]⟩,.string ⟨#[]⟩] 63).kept ((f.o.trans d<|by simp).trans g<|by simp) (by simp);have:=b.cell (i:=0) (u:=.string ⟨#[]⟩) rfl;have:=b.cell (i:=1) (u:=.string ⟨#[]⟩) rfl;have:=b.free 0;have:=b.free 1)
  |(go_at_call 96;refine(A.o _).mono ?_;rintro e s⟨rfl,rfl⟩))
 have f:=(b.set 0<|.string<|str p).set 1<|.string<|str c;have b:=f.cell (i:=0) (u:=.string<|str p) rfl;have j:=f.cell (i:=1) (u:=.string<|str c) rfl;refine Q9 (v:=.tuple #[.agg #[str p,str c],.int .i64 a.size,(0:Int)]) (by simp[results,results59,go_sem,b,j]) rfl ⟨rfl,?_⟩;exact(((h.trans d<|by simp).trans g<|by simp).setCell (p:=⟨w.heap.size,0,none⟩) (.inr<|Ql _) _).setCell (p:=⟨w.heap.size,1,none⟩) (.inr<|Ql _) _
section
open Go.Sort Go.Shelf
def rN{b n c:Nat}{a w}(d:w.cell? ⟨b,1,none⟩=some (.slice a n c)):
 Calls prog 62 #[.pointer b] w fun e a=>e=.returned n∧a=w:=by
 go_enter func62,ntmps62
 go_wp2
 go_ret;exact⟨rfl,rfl⟩
def rS{S w w1 b l}(a:Ju S w b l w1):
 Calls prog 60 #[.pointer b] w1 fun e f=>e=.returned (str l)∧Qb S w f∧Below w.heap.size w1 f∧∃d c,f.cell? ⟨b,1,none⟩=some (.slice d l.length c):=by
 refine(Any.Builder_String_any_f Tryz.lays169 Tryz.Builder_Extra_169 w.heap.size b l w1 (Lib.IsBuilderF.of a.1) a.2.size).mono ?_;rintro e f⟨g,hb,d⟩;refine⟨g,⟨d.os.trans a.2.os,d.tape.trans a.2.tape,d.output.trans a.2.output,QU a.2.size d.size,fun g hk h=>(d.block g hk).trans<|a.2.block g hk h⟩,d,?_⟩;have:∃d,Lib.BuilderAtF 115 5 w.heap.size b d (Lib.byteCells l) f:=hb.elim (fun a=>⟨_,a⟩) fun a=>⟨_,a⟩;obtain⟨d,-,a,hb,f,-⟩:=this;have a:=Lib.cell_of_heap hb 1;have d:(Lib.byteCells l).length=l.length:=by simp[Lib.byteCells]
 rw[←d];rcases f.2 with⟨rfl,h0⟩|⟨d,cap,d,d,rfl,-⟩
 ·exact⟨none,0,by rwa[h0]⟩
 exact⟨_,_,a⟩
def Dk.below{d a b c s w w1}(e:Dk w d b c s)(hb:Below a w w1)(f:∀x∈Q6 d b c,x<a):Dk w1 d b c s:=
 e.kept (S:=List.range' a<|w.heap.size-a) ⟨hb.os,hb.tape,hb.output,hb.size,fun b hk a=>hb.block b (by
  rw[List.mem_range'_1]at a;omega)⟩ fun x b a=>by have:=f x b;rw[List.mem_range'_1]at a;omega
def rT{S w w1 b l}(a:Ju S w b l w1)(s:ByteArray)(c:l.length+s.size≤100000000):
 Calls prog 58 #[.pointer b,s] w1 fun e c=>e=.returned (.tuple #[s.size,.nilIface])∧Ju S w b (l++s.data.toList) c∧Below w.heap.size w1 c:=by
 have d:(Lib.byteCells l).length=l.length:=by simp[Lib.byteCells]
 refine(Tryz.strWrite w.heap.size b (Lib.byteCells l) s w1 a.1 (by rw[d];omega) a.2.size).mono ?_;rintro e c⟨g,d,c⟩;have f:Lib.byteCells l++Lib.strCells s=Lib.byteCells (l++s.data.toList):=by simp[Lib.byteCells,Lib.strCells]
 rw[f]at d;exact⟨g,⟨.inr d,⟨c.os.trans a.2.os,c.tape.trans a.2.tape,c.output.trans a.2.output,QU a.2.size c.size,fun d hk f=>(c.block d hk).trans<|a.2.block d hk f⟩⟩,c⟩
def vF{a d nv pv mv s w c}(h:Ze w a d nv pv mv s)(q:Vok s c){m}(hm:m∈s.mem)(hc:s.dev.lZ+10000≤1000000000):
 Calls prog 30 #[.pointer a,str m.path] w fun e w'=>e=.returned (.tuple #[str<|c m.path,(0:Int)])∧
  ZS w a d nv pv mv {s with dev:={s.dev with lZ:=s.dev.lZ+m.eZ.toNat}} w':=by
 have h9:=Qa<|Nn h q.dev (by have:=q.few;omega) m.path (by have:=q.plen hm;omega);rw[q.find hm]at h9;have HH:=Qa h;have h4:=q.mems m hm;have h8:=RA (f:=(m.path,c m.path)) (q.plen hm) h4.big;have⟨n,hn⟩:=qx<|ZU (m.path,c m.path);rw[hn]at h8;have⟨L,hL⟩:=qx<|YZ (m.path,c m.path);have p0:L.length=n:=by rw[←hL,Ak,hn]
 have z8:∀x∈L,x.length=512:=by rw[←hL];exact Gs (q.plen hm) h4.big
 have x1:L.flatten=X0 (m.path,c m.path):=by rw[←hL];unfold YZ;rw[hn];exact TV _ _ h8.1
 have r9:=q.inX hm;have a1:m.eZ=(n:Int):=by rw[h4.eZ,hn]
 have a6:(m.start.toNat:Int)=m.start:=Rg (by omega);obtain⟨st,p7⟩:∃st:Nat,m.start.toNat=st:=⟨_,rfl⟩;have q7:=Qa (fun i y (hy:L[i]?=some y) W (hD:Dk W d nv pv {s.dev with lZ:=s.dev.lZ+i})=>show Calls prog 57 #[.pointer d,.int .i64<|m.start+(i:Int)] W
  fun e w'=>e=.returned (.tuple #[.string<|str y,(0:Int)])∧Dk w' d nv pv {s.dev with lZ:=s.dev.lZ+(i+1)}∧Qb [d] W w' by
  have hi:=(Qz.1 hy).1;have h1:s.dev.img[st+i]?=some y:=by have:=h4.holds i y (by rwa[hL]);rw[p7]at this;exact this
  have h2:=fR (s:={s.dev with lZ:=s.dev.lZ+i}) hD ⟨q.dev.c1,q.dev.c2,q.dev.len,q.dev.sec,by show s.dev.lZ+i≤_;omega⟩ (st+i) _ h1;rw[show((st+i:Nat):Int)=m.start+(i:Int)by omega]at h2;exact h2.mono fun e w' ⟨e1,e2,e3⟩=>⟨e1,e2,e3⟩)
 have x5:=Qa fun W (hE:Jy W)=>Qf3 m.path (c m.path) W hE h4.ok h4.big;rw[←x1]at x5;have y2:=Qa fun W=>MP (str<|c m.path) W (by have:=h4.big;show(c m.path).length≤_;omega);rw[show Yt (str<|c m.path).data.toList=m.sum from h4.sum.symm]at y2;have y5:((c m.path).length:Int)=m.size:=h4.size.symm;have p4:L.flatten.length=512*n:=by rw[x1];exact h8.1
 have⟨y8,y9,b2⟩:=qc z8 p0 p4;have b4:n≤200:=h8.2.2;have q1:=Qa<|show Dk w d nv pv {s.dev with lZ:=s.dev.lZ+0}from h.vt.dk;have⟨x,o⟩:=qx<|c m.path;rw[o]at y2 x5 y5 ⊢;have b5:0≤m.start∧m.start≤4096:=by have:=q.dev.c2;omega
 unfold Zi at h9;rw[a1]at h9 ⊢;rw[←y5]at h9;have hd:d<w.heap.size:=h.vt.lt d (by simp[Q6]);have p2:¬a=d:=fun e=>h.vt.apart.1 (by rw[e];simp[Q6])
 have p8:=Qa<|h.vt.arr.cell (i:=0) (u:=.pointer d) rfl;rw[←x1]at h8;clear h q h4 hn hL p0 z8 x1 r9 a6 p7 y5 o p4 h8 hc;go_enter func30,ntmps30;go_wp2_with (first
  |(go_at_call 49;refine h9.o.mono ?_;rintro e w1⟨rfl,y3⟩))
 have r5:=y3.size;have A1:=Qx w1 [str m.path,m.start,.int .i64 n,.int .i64 x.length,.int .u32 m.sum] 69;have x6:=y3.alloc<|.cells #[str m.path,m.start,.int .i64 n,.int .i64 x.length,.int .u32 m.sum] 69;have⟨b,hb⟩:=qx w1.heap.size;have⟨W1,hW⟩:=qx<|w1.alloc<|.cells #[str m.path,m.start,.int .i64 n,.int .i64 x.length,.int .u32 m.sum] 69;have p1:W1.heap.size=b+1:=by rw[←hW,←hb];simp
 rw[hb]at A1 r5 ⊢;rw[hW];rw[show[Value.string<|str m.path,.int .i64 m.start,.int .i64 n,.int .i64 x.length,.int .u32 m.sum].toArray=#[Value.string<|str m.path,.int .i64 m.start,.int .i64 n,.int .i64 x.length,.int .u32 m.sum]from rfl,hW]at A1;rw[hW]at x6;have⟨y6,h5⟩:=qb A1 x6;have x8:¬b=d:=by omega
 have r0:=Qa p1;clear hW hb A1 x6 y3 p1
 go_loopg [9,10,11,25] n (fun k x9 b6 b7 a7 wr=>∃i:Nat,i≤n∧k=n-i∧a7=.int .i64 (i:Nat)∧Hid (Dk wr d nv pv {s.dev with lZ:=s.dev.lZ+i})∧Hid (Ju [d] W1 (b+1) (L.take i).flatten wr))
 ·exact⟨0,by omega,by omega,rfl,Qa<|q1.o.kZ<|h5.o.alloc _,Qa (by rw[←r0.o];exact Ju.new [d] W1)⟩
 obtain⟨i,hi,hk,rfl,HD,HB⟩:=hrel
 by_cases hlt:i<n
 ·have q0:(i:Int)<n:=by omega
  have⟨y,hy⟩:=qy L i (by have:=y9.o;omega);have⟨HR,HT⟩:=qb (fun W=>q7.o i y hy W) (show(L.take<|i+1).flatten=(L.take i).flatten++y by rw[ZE,hy];simp);have p6:(L.take i).flatten.length≤102400:=by have h1:=K.flat_len (l:=L.take i) fun x o=>y8.o x<|VN o;rw[Zn]at h1;omega
  have⟨q6,r1⟩:=qb p6<|y8.o y<|QC hy;have c0:wr.cell? ⟨a,0,none⟩=some (.pointer d):=(HB.o.2).cZ (h5.o.cZ p8.o<|by simp) (by simpa using p2);have c1:wr.cell? ⟨b,1,none⟩=some (.int .i64 m.start):=(HB.o.2).cZ (y6.o.cell (i:=1) rfl) (by simpa using x8);have w5:IntKind.i64.wrap (m.start+(i:Int))=m.start+(i:Int):=by rw[Zx];omega
  have q3:=Qa hd;clear hy p6 hd;go_wp2_with fail
  go_region_held3 (fun w'=>w'.cell? ⟨a,0,none⟩=some (.pointer d)∧w'.cell? ⟨b,1,none⟩=some (.int .i64 m.start)) (first|exact⟨c0,c1⟩|exact⟨d0,d1⟩|go_keep)
   ((go_at_call 57;refine(HR.o _<|HD.o.kZ (Qc [] wr).drew).mono ?_;rintro e w3⟨rfl,z7,x2⟩;have d0:=x2.cZ c0 (by simpa using p2);have d1:=x2.cZ c1<|by simpa using x8))
  have p5:Qb [d] wr w3:=Qb.trans (Qc [d] wr).drew x2 fun x o=>.inl o;have z6:=HB.o.kept p5 (fun x o=>o) (fun x o=>by rw[Q8]at o;subst o;exact Bl q3.o h5.o.size);have⟨q9,p9⟩:=qb (rT z6 (str y) (by have:=q6.o;have:=r1.o;show _+y.length≤_;omega)) z7;clear x2 p5 z6 z7;go_wp2_with (go_at_call 58;refine q9.o.mono ?_;rintro e w4⟨rfl,r2,r6⟩)
  go_roundg (n-(i+1))
  ·exact⟨i+1,by omega,rfl,by go_num,Qa<|p9.o.below r6 fun x o=>Bl (HH.o.vt.lt x (by simp only[QY,QB,Q5];exact .inr<|.inr<|by simpa[Q6]using o)) h5.o.size,Qa<|by rwa[HT.o]⟩
  omega
 obtain rfl:i=n:=by omega
 have q0:¬(i:Int)<i:=by omega
 have p3:(L.take i).flatten=L.flatten:=by rw[Zd (by rw[y9.o];exact Ql _)]
 have hB:=HB.o;rw[p3]at hB;have a8:=Qa hB;have q8:=Qa<|rS hB;have q4:=Qa fun W (hW:Qb [d] W1 W)=>HH.o.env.kept ((h5.o.mono (T:=[d])<|by simp).trans hW fun x o=>.inl o) fun x o=>HH.o.low x (by rw[Q8]at o;subst o;simp[Q6]);clear p3 hB;go_wp2_with (first
  |(go_at_call 60;refine q8.o.mono ?_;rintro e w5⟨rfl,x3,r7,o5,b3,y0⟩)
  |(go_at_call 59;refine(x5.o _<|q4.o _ x3).mono ?_;rintro e w6⟨rfl,y4⟩))
 have z1:=((y6.o.kept x3<|by simpa using x8).kept y4<|by simp);have hE:=Qx w6 [str m.path,.string<|str x] 63;have x4:=y4.alloc<|.cells #[str m.path,.string<|str x] 63;have⟨g,hg⟩:=qx w6.heap.size;have⟨W7,x7⟩:=qx<|w6.alloc<|.cells #[str m.path,.string<|str x] 63;have x0:=z1.kept ((Qc [] w6).alloc<|.cells #[str m.path,.string<|str x] 63) (by simp);rw[hg]at hE ⊢;rw[x7]at x4 x0 ⊢;rw[show[Value.string<|str m.path,.string<|str x].toArray=#[Value.string<|str m.path,.string<|str x]from rfl,x7]at hE;have H0:=fun w' (hk:Qb [] W7 w')=>hk.cZ (hE.cell (i:=0) (u:=.string<|str m.path) rfl) (by simp)
 have H1:=fun w' (hk:Qb [] W7 w')=>hk.cZ (hE.cell (i:=1) (u:=.string<|str x) rfl) (by simp)
 have H2:=fun w' (hk:Qb [] W7 w')=>hk.cZ (x0.cell (i:=3) (u:=.int .i64 x.length) rfl) (by simp)
 have H3:=fun w' (hk:Qb [] W7 w')=>hk.cZ (x0.cell (i:=4) (u:=.int .u32 m.sum) rfl) (by simp)
 have H4:=fun w' (hk:Qb [] W7 w')=>rN ((x4.trans hk<|by simp).cZ y0<|by simp)
 have e1:(str x).size=x.length:=rfl;have y1:=H1 W7<|Qc _ _;have⟨y7,q5,b1⟩:=qc x4 x3 y0;clear z1 hE x4 y4 x0 x7 y0 x3 hg;refine KB W7 (by kernel_rfl) (by kernel_rfl) (Qc _ _) ?_
 repeat
  first
   |go_big_quiet_skip
   |(go_big_quiet_want
     go_big_quiet_op
     first
      |go_big_quiet_on
      |(apply Exists.intro
        refine⟨fun wq h3=>?_,?_⟩
        ·first
          |with_reducible rfl
          |(go_at_call 61;exact Calls.keptK h3<|y2.o wq)
          |(go_at_call 62;exact Calls.keptK h3<|(H4 wq h3).mono fun e w' ⟨h1,h2⟩=>⟨h1,h2▸Qc _ _⟩)
          |(simp only[H0 wq h3,H1 wq h3,H2 wq h3,H3 wq h3,Ut];exact⟨trivial,rfl⟩)
        go_big_quiet_on))
 refine wpQuiet_nil ?_;intro wq h3;have y1:=H1 wq h3
 go_wp2
 go_ret2;have r3:=(((HD.o.below r7 fun x o=>Bl (HH.o.vt.lt x (by simp only[QY,QB,Q5];exact .inr<|.inr<|by simpa[Q6]using o)) h5.o.size).kZ y7.o).kZ h3);have r4:Qb [d] w wq:=(((h5.o.mono (T:=[d])<|by simp).trans q5.o fun x o=>.inl o).trans y7.o<|by simp).trans h3 (by simp);exact⟨rfl,HH.o.dev ⟨nv,pv,r3,r4.mono (fun x o=>by rw[Q8]at o;subst o;simp[Q6]),QT.refl _ _⟩⟩
end
def rI(xs n)(a:X1 xs n=true):(Uw xs n).2.1.length=ZG xs.length:=by
 have d:(QA xs).length=xs.length:=UF xs;have b:(Yy xs n).2.1.length=ZG xs.length:=by unfold Yy;rw[a,Qg rfl];show(R9 xs).length=_;unfold R9;simp
 have c:(Xq xs n).2.1.length=ZG xs.length:=by unfold Xq;rw[a,Qg rfl];show(QV<|V6 _ _ _ _).length=_;rw[XE,NE,d]
 unfold Uw;rw[Qg (TU xs n a).2]
 split
 ·exact b
 exact c
def wE(l:List (List Int))(m)(a:∀t∈l,XA t=true∧t.length≤m):(l.flatMap Q0).length≤(5+39*m)*l.length:=by
 induction l with
 |nil=>simp
 |cons t l ih=>
  have:=ih fun c b=>a c (by simp[b])
  obtain⟨b,c⟩:=a t (by simp);have a:=(UC t).1 (UA b);have:=iI (t.headD 0) t (a.2 _<|MG t<|by omega) a.2;rw[Ji,Qo,QZ];have h6:(Q0 t).length≤5+39*m:=by unfold Q0;rw[Qo,XZ];omega
  rw[Hc];omega
def rP(x):(XD [x]).length≤2000:=by
 have e:=DB [x];have hp:=EN [x] (by simp);have⟨c,f⟩:=qx<|Zv [x];rw[f]at e hp;simp only[QZ,Yg]at e;have hb:=Vx c hp (by omega);have:(QJ c).length≤1:=by
  obtain⟨d,rfl⟩:∃d,c=[d]:=by
   match c,e,hp with
   | [d],_,_=>exact⟨d,rfl⟩
   |_::_::_,e,_=>simp at e;omega
  match hL:QJ [d]with
  | []=>simp
  | [_]=>simp
  |a::b::r=>have e:=GD [d];rw[hL]at e;have ha:a=d:=(by simpa using(Gf [d] a).1 (by rw[hL];simp));have hb:b=d:=(by simpa using(Gf [d] b).1 (by rw[hL];simp));have:=(Vn.1 e).1 b (by simp);rw[ha,hb]at this;exact absurd this (by simp)
 obtain⟨h,d,i,j⟩:=RB hb.fit.may;have e:=Ow<|QJ c;have:=Mi c hp (by omega);have hs:=hb.slen;have d:(QE c).2.1.length=ZG (QV<|ZZ c).length:=rI _ _ hb.list;rw[XE]at d;have g:(QE c).2.1.length≤1:=by rw[d];unfold ZG;omega
 have:=wE (QE c).1 3 fun e d=>⟨(i e d).2.2,by have:=hb.fit.len e d;omega⟩
 have h6:=dX (QA (QE c).2.1) (List.range (QE c).1.length)<|eD j;rw[U6,UF]at h6;have h7:(QE c).2.1.length*(QE c).1.length≤1*6:=Fq g h.2;have:(Zs (QE c).1 (QE c).2.1).length≤800:=by unfold Zs Ja;simp only[Qo,XZ];omega
 unfold XD Ux;rw[f];rw[Qo,Qo,Qo,Cn];omega
def iD(p x)(hp:p.length≤100):ZU (p,[x])=2:=by
 have:=rP x;have:1≤(XB [x]).length∧(XB [x]).length≤2200:=by unfold XB;simp only[Qo,Yq,XZ];rw[Qe<|by simp];simp[Zg];omega
 have a:=AH<|Qu<|XB [x];rw[J3]at a;have b:(JJ p 1).length=512:=by unfold JJ J4;rw[Qg hp];exact Ry _ _ hp (by simp)
 unfold ZU X0;rw[Qo,a];have:((p,[x]):Q4).2.length=1:=rfl;rw[show(JJ ((p,[x]):Q4).1 ((p,[x]):Q4).2.length).length=512 from b];omega
def WQ{cap need g l}(c:1≤need)(a:30≤cap)(hk:ZX cap l=true)(b:30≤g)(d:g+need≤cap)(hf:Ub l g need)(i:∀t,30≤t→t<g→¬Ub l t need):YX cap l need=some g:=by
 cases h:YX cap l need with
 |none=>exact absurd hf<|vT c a hk h g b d
 |some t=>
  obtain⟨-,d,-,e,f⟩:=Iu c a h;rcases Int.lt_trichotomy t g with a|rfl|a
  ·exact absurd e<|i t d a
  ·rfl
  exact absurd hf<|f g b a
def Vst.room_mem(s:Vst)(n):(s.room n).mem=s.mem:=(Vst.room_same s n).1
def fM{s:Vst}{f:Q4}{g}(hb:Vst.bad [f]=0)(b:¬16<(Zo s.mem [Vst.noteF (f,(0,0))]).length)(ha:YX s.dev.cap s.exts (ZU f)=some g):
 (s.put [f]).1=0∧(s.put [f]).2.mem=Vd ⟨f.1,g,ZU f,f.2.length,Yt f.2⟩ s.mem∧(s.put [f]).2.dev.cap=s.dev.cap:=by
 have a:s.put [f]=(0,((s.room 2).write [(f,(g,(ZU f:Int)))]).commit [Vst.noteF (f,(g,(ZU f:Int)))]):=by
  unfold Vst.put;rw[Qe (by rw[hb];simp),Qe<|by simp,Qe<|by simpa using b];have b:Vst.alloc s.dev.cap s.exts [f]=some [(f,(g,(ZU f:Int)))]:=by simp[Vst.alloc,ha]
  rw[b];simp
 rw[a];refine⟨rfl,?_,?_⟩
 ·show Zo (s.room 2).mem _=_;rw[Vst.room_mem];rfl
 exact(Vst.room_same s 2).2.1
def Qds{m t s s'}(a:¬(m.start-t<m.eZ∧m.start≠t))(b:m.start≠t)(c:s.move m.path t=(0,s')):Vst.pull [m] t s=s'.trim:=by unfold Vst.pull;simp only[Qe a,Qg b,ne_eq,not_true,EC,c];rfl
abbrev fB:Q4:=([98],[50])
abbrev fA:Q4:=([97],[49])
def Qh4(c0:List UInt8→List UInt8):∃b d a c c1 c2,(Vst.fresh 60).put [fB]=(0,b)∧Vok b c1∧b.put [fA]=(0,d)∧Vok d c2∧d.del [98]=(0,a)∧Vok a c2∧a.compact=(0,c)∧Vok c c2∧
 c.mem=[⟨[97],30,2,1,Yt [49]⟩]∧c2 [97]=[49]∧b.dev.lZ≤60006∧d.dev.lZ≤120006∧a.dev.lZ≤180006∧c.dev.lZ≤240006:=by
 have o:∀{h e:Type}(c:h × e)(e:h),c.1=e→c=(e,c.2):=fun c e c=>by rw[←c]
 have h0:=Vok.fresh 60 (by decide) (by decide) c0;have k0:(Vst.fresh 60).dev.lZ≤6:=by show 0+(UI 0 []).length+1≤6;rw[CA];decide
 have k:Yn [98]=true:=by decide+kernel
 have w:Yn [97]=true:=by decide+kernel
 have lt:X7 [97] [98]<0:=by decide+kernel
 have h:ZU fB=2:=iD _ _ (by simp);have p:ZU fA=2:=iD _ _ (by simp);have i:YX ((Vst.fresh 60).dev.cap:Nat) (Vst.fresh 60).exts (ZU fB)=some 30:=by rw[h];show YX 60 [] 2=some 30;exact WQ (by decide) (by decide) ((YA _ _).2 ⟨fun j c=>absurd c Fl,List.Pairwise.nil⟩) (by decide) (by decide) (fun j c=>absurd c<|by simp) (fun r e q=>by omega)
 obtain⟨t,a2,a3⟩:=fM (s:=Vst.fresh 60) (f:=fB) (g:=30) (by simp[Vst.bad,k]) (by show ¬16<(Zo [] [_]).length;simp[Zo,AV,Vst.noteF,Vd,J2]) i;obtain⟨n,-,-⟩:=h0.put [fB] (QU (PJ k0 _)<|by decide) t;rw[h]at a2;have⟨b,v⟩:=qx<|((Vst.fresh 60).put [fB]).2;rw[v]at a2 a3 n;have h:b.mem=[⟨[98],30,2,1,Yt [50]⟩]:=by rw[a2];unfold Vst.fresh Vd J2;congr 1
 have k1:=QU n.c1<|PJ k0 _;rw[h]at k1;have i:Zj [(⟨[98],30,2,1,Yt [50]⟩:RM)]=2:=rfl;rw[i]at k1;have k:b.exts=[(30,2)]:=by unfold Vst.exts;rw[h];rfl
 have c1:(b.dev.cap:Int)=60:=by rw[a3];rfl
 have i:YX b.dev.cap b.exts (ZU fA)=some 32:=by
  rw[p,k,c1];refine WQ (by decide) (by decide) ((YA _ _).2 ⟨fun j c=>?_,Pz ..⟩) (by decide) (by decide) (fun j c=>?_) fun r e q k=>?_
  ·rw[Q8]at c;subst c;exact⟨by decide,by decide,by decide⟩
  ·rw[Q8]at c;subst c;exact .inr (by decide)
  have:=k (30,2) (by simp);simp at this;omega
 obtain⟨u,k,r⟩:=fM (s:=b) (f:=fA) (g:=32) (by simp[Vst.bad,w]) (by rw[h];simp[Zo,AV,Vst.noteF,Vd,J2,lt]) i;obtain⟨i,-,-⟩:=n.ok.put [fA] (by simp at k1;omega) u;rw[p,h]at k;have⟨d,w⟩:=qx<|(b.put [fA]).2;rw[w]at k r i;have h:d.mem=[⟨[97],32,2,1,Yt [49]⟩,⟨[98],30,2,1,Yt [50]⟩]:=by rw[k];simp[Vd,J2,lt]
 have k2:=i.c1;rw[h]at k2;have q2:Zj [(⟨[97],32,2,1,Yt [49]⟩:RM),⟨[98],30,2,1,Yt [50]⟩]=4:=rfl;rw[q2]at k2;have k:d.find [98]=(0,⟨[98],30,2,1,Yt [50]⟩):=i.ok.find (m:=⟨[98],30,2,1,Yt [50]⟩) (by rw[h];simp);have g1:(d.del [98]).1=0:=by unfold Vst.del;rw[Qe (by rw[k];simp)]
 obtain⟨k,-,p⟩:=i.ok.del [98] (by simp at k1 k2;omega) g1;have⟨a,x⟩:=qx<|(d.del [98]).2;rw[x]at k p;rw[h]at p;have h:a.mem=[⟨[97],32,2,1,Yt [49]⟩]:=by rw[p];rfl
 have k3:=k.c1;have c3:(a.dev.cap:Int)=60:=by rwa[k.cap,r]
 have p:a.exts=[(32,2)]:=by unfold Vst.exts;rw[h];rfl
 have c:ZX a.dev.cap (a.exts++[(30,2)])=true:=by
  rw[p,c3];refine(YA _ _).2 ⟨fun j c=>?_,?_⟩
  ·simp at c;rcases c with rfl|rfl<;>exact⟨by decide,by decide,by decide⟩
  refine Vn.2 ⟨fun y j=>?_,Pz ..⟩;simp at j;subst j;exact .inr (by decide)
 obtain⟨p,A,r,z,B,C⟩:=k.ok.move_to (m:=⟨[97],32,2,1,Yt [49]⟩) (by rw[h];simp) (tg:=30) c (by simp at k1 k2;omega);have z:p.mem=[⟨[97],30,2,1,Yt [49]⟩]:=by
  have c:p.mem.length=1:=by have:=Qq List.length C;rw[QG,QG,h]at this;simpa using this
  obtain⟨y,j⟩:=List.length_eq_one_iff.1 c;have e:=(B y).1 (by rw[j];simp);rw[h]at e;rw[j];rcases e with e|⟨e,q⟩
  ·rw[e]
  simp at e;subst e;exact absurd rfl q
 obtain⟨e,t2,-,t4,-⟩:=r.ok.trim (by have:=r.c1;simp at k1 k2 this;omega);have hb:Vst.bZ a.mem=a.mem:=by rw[h];exact List.perm_singleton.1<|De _
 have c:a.compact=p.trim:=by unfold Vst.compact;rw[hb,h];exact Qds (by simp) (by simp) A
 have k4:=t2.c1;have k5:=r.c1;refine⟨b,d,a,p.trim.2,_,_,by rw[←v];exact o _ _ t,n.ok,by rw[←w];exact o _ _ u,i.ok,by rw[←x];exact o _ _ g1,k.ok,by rw[c];exact o _ _ e,t2.ok,by rwa[t4],?_,?_,?_,?_,?_⟩
 ·exact GC (l:=[fA]) (by simp) (f:=fA) (by simp)
 all_goals simp at k1 k2 k5;omega
section
open Go.Sort Go.Shelf
structure RI where
 act:KF
 fv:Value
 fat:Int
 kv:Value
def R6(x:RI):List Value:=[x.act.kind,str x.act.path,str x.act.text,x.act.tg,x.fv,x.fat,x.kv]
structure CJ(w:World)(v:Value)(l:List RI):Prop where
 see:∃a c,v=.slice a l.length c∧Qn w 7 a l.length (Qw R6 l)
 few:l.length≤17592186043904
 ents:∀x∈l,Bd w x.fv x.act.files
 strs:∀x∈l,x.act.path.length≤140737488351232∧x.act.text.length≤140737488351232∧x.act.files.length≤17592186043904∧∀f∈x.act.files,f.1.length≤140737488351232∧f.2.length≤140737488351232
def CJ.kZ{w w' v l}(a:CJ w v l)(hk:Qb [] w w'):CJ w' v l:=by obtain⟨b,c,d,e⟩:=a.see;exact⟨⟨b,c,d,e.kZ hk⟩,a.few,fun c b=>(a.ents c b).kZ hk,a.strs⟩
def WD{w a n l}(d:Qn w 7 a n (Qw R6 l)){i}{x:RI}(e:l[i]?=some x):
 ∃g b,a=some ⟨g,b,none⟩∧∀r u,r<7→(R6 x)[r]?=some u→w.cell? ⟨g,b+i*7+r,none⟩=some u:=by
 have h0:=U9 (enc:=R6) (k:=7) (fun _=>rfl) l i 0 x e (by decide);obtain⟨g,b,c,-⟩:=d.2 _ x.act.kind (by rw[h0];rfl);refine⟨g,b,c,fun r u f h=>?_⟩;obtain⟨b,b,b,c2⟩:=d.2 _ u (by rwa[U9 (enc:=R6) (k:=7) (fun _=>rfl) l i r x e f]);rw[c]at b;injection b with b;injection b with b e3;subst b e3;rwa[Jj]
def GG(x:RI):Prop:=x.act.path.length≤200∧x.act.files.length≤20∧∀a∈x.act.files,a.1.length≤200
def mC(l:List RI)(e:Ending):Prop:=∃a:Bool,e=.returned (.bool a)∧(a=true→l.length≤200∧∀a∈l,GG a)
def Qfq(n:Int)(w)(a: -9223372036854775808≤n)(a:n≤9223372036854775807):Calls prog 9 #[n,(200:Int)] w fun e w'=>(∃a:Nat,e=.returned (.int .i64 a)∧31≤a∧a≤231)∧w'=w:=by
 have⟨b,c⟩:=qx<|n.tmod 200;have: -200<b∧b<200:=by
  rw[←c];rcases Int.lt_or_le n 0 with c|c
  ·have e:n.tmod 200= -((-n).tmod 200):=(by rw[Int.neg_tmod];omega);rw[e,BP<|by omega];omega
  rw[BP c];omega
 have⟨a,c⟩:=qx<|(b+200).tmod 200;have t2:0≤a∧a<200:=by rw[←c,BP<|by omega];omega
 have:IntKind.i64.wrap b=b:=by rw[Zx];omega
 have:IntKind.i64.wrap (b+200)=b+200:=by rw[Zx];omega
 have:IntKind.i64.wrap a=a:=by rw[Zx];omega
 have:IntKind.i64.wrap (31+a)=31+a:=by rw[Zx];omega
 go_enter func9,ntmps9
 go_wp2
 go_ret;exact⟨⟨(31+a).toNat,by rw[Rg<|by omega];rfl,by omega,by omega⟩,rfl⟩
def vJ(v l w)(h:CJ w v l):Calls prog 6 #[v,(40000:Int)] w fun e w'=>mC l e∧w'=w:=by
 obtain⟨a,c,rfl,hs⟩:=h.see;have⟨n,hn⟩:=qx l.length;have HH:=Qa h;rw[hn]at hs ⊢;have z1:n≤17592186043904:=by rw[←hn];exact h.few
 have⟨HS,HN⟩:=qb hs hn;go_enter func6,ntmps6
 go_wp2
 go_loopg [5,6,7] n (fun k x5 x6 x7 wr=>(∃(i:Nat)(N:Int),i≤n∧k=n-i∧x5=.int .i64 N∧x6=.int .i64 (i:Nat)∧200*i≤N∧N≤40000∧Hid (∀x∈l.take i,GG x))∧wr=w)
 ·exact⟨⟨0,0,by omega,by omega,rfl,rfl,by omega,by omega,Qa<|by simp⟩,rfl⟩
 obtain⟨⟨i,N,hi,hk,rfl,rfl,y6,y7,HG⟩,rfl⟩:=hrel
 by_cases hlt:i<n
 ·have q0:(i:Int)<n:=by omega
  have⟨x,hx⟩:=qy l i (by have:=HN.o;omega);obtain⟨g,p0,rfl,hc⟩:=WD HS.o hx;have x1:=QC hx;obtain⟨af,cf,x2,h9⟩:=HH.o.ents x x1;obtain⟨y1,y2,y3,y4⟩:=HH.o.strs x x1;have c1:=hc 1 (.string<|str x.act.path) (by decide) rfl;have c2:=hc 2 (.string<|str x.act.text) (by decide) rfl;have c4:=hc 4 x.fv (by decide) rfl;have⟨fl,h8⟩:=qx x.act.files;have⟨m,hm⟩:=qx fl.length;rw[x2,h8,hm]at c4;rw[h8,hm]at h9 y3;have⟨q,hq⟩:=qx<|min ((str x.act.text).size:Int) 20000;have z6:0≤q∧q≤20000:=by omega
  have x9:(str x.act.path).size=x.act.path.length:=rfl;have⟨p,hp⟩:=qx x.act.path.length;have w1:IntKind.i64.wrap (200+q)=200+q:=by rw[Zx];omega
  have w2:IntKind.i64.wrap (N+(200+q))=N+(200+q):=by rw[Zx];omega
  have HX:=Qa<|QQ hx<|QQ h8<|QQ hm<|QQ hp h9;rw[hp]at x9 y1
  by_cases h1:200<p
  ·have g1:(200:Int)<p:=by omega
   go_wp2
   go_ret;exact⟨⟨false,rfl,by simp⟩,rfl⟩
  have g1:¬(200:Int)<p:=by omega
  by_cases h2:20<m
  ·have g2:(20:Int)<m:=by omega
   go_wp2
   go_ret;exact⟨⟨false,rfl,by simp⟩,rfl⟩
  have g2:¬(20:Int)<m:=by omega
  by_cases h3:40000<N+(200+q)
  ·go_wp2
   go_ret;exact⟨⟨false,rfl,by simp⟩,rfl⟩
  go_wp2
  go_loopg [5,7] m (fun k x5 x7 wz=>(∃(j:Nat)(M:Int),j≤m∧k=m-j∧x5=.int .i64 M∧x7=.int .i64 (j:Nat)∧200*i+200≤M∧M≤40000∧Hid (∀f∈fl.take j,f.1.length≤200))∧wz=wr)
  ·exact⟨⟨0,_,by omega,by omega,rfl,rfl,by omega,by omega,Qa<|by simp⟩,rfl⟩
  obtain⟨⟨j,M,hj,y8,rfl,rfl,y0,y5,HF⟩,rfl⟩:=hrel
  by_cases y9:j<m
  ·have q1:(j:Int)<m:=(by omega);obtain⟨hx,h8,hm,hp,h9⟩:=HX.o;have⟨f,hf⟩:=qy fl j (by omega);obtain⟨g',p1,rfl,d0,d1⟩:=Ir h9 hf;have⟨u,hu⟩:=qx<|min ((str f.2).size:Int) 20000;have z7:0≤u∧u≤20000:=(by omega);have⟨pf,x0⟩:=qx f.1.length;have z8:(str f.1).size=pf:=x0;have x8:=((HH.o.strs x<|QC hx).2.2.2 f (by rw[h8];exact QC hf)).1;rw[x0]at x8;have w3:IntKind.i64.wrap (100+u)=100+u:=(by rw[Zx];omega);have w4:IntKind.i64.wrap (M+(100+u))=M+(100+u):=(by rw[Zx];omega);have x4:=Qa (show pf≤200→∀f∈fl.take (j+1),f.1.length≤200 from fun h y o=>by
    rw[ZE,hf]at o;rcases Q5.1 o with o|o
    ·exact HF.o y o
    simp at o;subst o;omega)
   by_cases h4:200<pf
   ·have g4:(200:Int)<pf:=by omega
    go_wp2
    go_ret;exact⟨⟨false,rfl,by simp⟩,rfl⟩
   have g4:¬(200:Int)<pf:=by omega
   by_cases h5:40000<M+(100+u)
   ·go_wp2
    go_ret;exact⟨⟨false,rfl,by simp⟩,rfl⟩
   go_wp2
   go_roundg (m-(j+1))
   ·exact⟨⟨j+1,_,by omega,rfl,rfl,by go_num,by omega,by omega,Qa<|x4.o<|by omega⟩,rfl⟩
   omega
  obtain rfl:m=j:=by omega
  have q1:¬(m:Int)<m:=by omega
  have x3:=Qa (show ∀y∈l.take (i+1),GG y from fun y o=>by
   obtain⟨hx,h8,hm,hp,h9⟩:=HX.o;rw[ZE,hx]at o;rcases Q5.1 o with o|o
   ·exact HG.o y o
   simp at o;subst o;refine⟨by omega,by rw[h8];omega,fun f hf=>?_⟩;rw[h8]at hf;exact HF.o f (by rwa[Zd<|by omega]))
  go_wp2
  go_roundg (n-(i+1))
  ·exact⟨⟨i+1,_,by omega,rfl,rfl,by go_num,by omega,by omega,x3⟩,rfl⟩
  omega
 obtain rfl:n=i:=by omega
 have q0:¬(n:Int)<n:=by omega
 go_wp2
 go_ret;refine⟨⟨true,rfl,fun _=>⟨by have:=HN.o;omega,?_⟩⟩,rfl⟩;have:=HG.o;rwa[Zd (by rw[HN.o];exact Ql _)]at this
def nM(w:World)(n:Nat)(e:Ending)(w':World):Prop:=
 ∃b a c d,e=.returned (.tuple #[.pointer (some ⟨b,0,none⟩),.pointer (some ⟨a,0,none⟩)])∧Ze w' a b c d (.slice none 0 0) (Vst.fresh n)∧Qb [] w w'∧∀f∈QY a b c d (.slice none 0 0),w.heap.size≤f
def eR(n:Nat)(w)(k:31≤n)(e:n≤4096)(a:Jy w)(l:10≤w.heap.size):Calls prog 8 #[n] w (nM w n):=by
 have g:=Qa<|Qbk n w (by omega) e;have f:=Qa a;go_enter func8,ntmps8;go_wp2_with (first
  |(go_at_call 31;refine g.o.mono ?_;rintro j u⟨i,t,rfl,o,d,c⟩)
  |(go_at_call 11;refine(Qb5 o k e (f.o.kZ d) fun a b=>QU l<|c a b).mono ?_;rintro j v⟨h,r,s,rfl,m,q,p⟩))
 go_ret2;exact⟨i,h,r,s,rfl,m,d.trans q fun a b=>.inr<|c a b,fun a b=>(p a b).elim (c a) fun a=>QU d.size a⟩
def qI{a d b g mv s w c}(i:Ze w a d b g mv s)(j:Vok s c)(x:RI)(l:Bd w x.fv x.act.files)(h:GG x)(hs:x.act.text.length≤140737488351232∧∀f∈x.act.files,f.2.length≤140737488351232)(k:s.dev.lZ+200000≤1000000000):
 Calls prog 15 #[.pointer a,.agg (R6 x).toArray] w fun e w'=>e=.returned (.int .i64 (s.does x.act).1)∧ZS w a d b g mv (s.does x.act).2 w':=by
 obtain⟨g1,v,g3⟩:=h;have⟨g,m,p,q,n,u,r,t⟩:=qh (fun b=>(Qc [] w).alloc b) (fun h (b:Qb [] w h)=>OL (i.kZ b) j x.act.path x.act.text (by omega) hs.1<|by omega) (fun h (b:Qb [] w h)=>Wt (i.kZ b) j x.act.path (by omega)<|by omega) (fun h (b:Qb [] w h)=>dV (i.kZ b) j x.act.path (by omega) x.act.tg<|by omega) (fun h (b:Qb [] w h)=>Wm (i.kZ b) j k) (fun h (b:Qb [] w h)=>kI (i.kZ b) j<|by omega) (fun h (b:Qb [] w h)=>ON (i.kZ b) j x.fv x.act.files (l.kZ b) (by omega) (fun f hf=>⟨by have:=g3 f hf;omega,hs.2 f hf⟩)<|by omega) i.refl;have o:=Qa<|show s.does x.act=s.does x.act from rfl;have⟨h,b⟩:=qx<|s.does x.act;rw[b];unfold Vst.does at b;unfold R6
 by_cases h0:x.act.kind=0
 ·rw[Qg h0]at b;have j:(x.act.kind==0)=true:=by rw[h0];rfl
  have h:=Qa b;go_enter func15,Ef;go_wp2_with (go_at_call 12;refine(m.o _<|g.o _).mono ?_;rintro e o⟨rfl,i⟩);go_ret;rw[←h.o];exact⟨rfl,.from (g.o _) i⟩
 rw[Qe h0]at b;have j:(x.act.kind==0)=false:=Zh.2 h0
 by_cases j:x.act.kind=1
 ·rw[Qg j]at b;have k:(x.act.kind==1)=true:=by rw[j];rfl
  have h:=Qa b;go_enter func15,Ef;go_wp2_with (go_at_call 28;refine(p.o _<|g.o _).mono ?_;rintro e o⟨rfl,i⟩);go_ret;rw[←h.o];exact⟨rfl,.from (g.o _) i⟩
 rw[Qe j]at b;have k:(x.act.kind==1)=false:=Zh.2 j
 by_cases k:x.act.kind=2
 ·rw[Qg k]at b;have q2:(x.act.kind==2)=true:=by rw[k];rfl
  have h:=Qa b;go_enter func15,Ef;go_wp2_with (go_at_call 42;refine(q.o _<|g.o _).mono ?_;rintro e o⟨rfl,i⟩);go_ret;rw[←h.o];exact⟨rfl,.from (g.o _) i⟩
 rw[Qe k]at b;have q2:(x.act.kind==2)=false:=Zh.2 k
 by_cases l:x.act.kind=3
 ·rw[Qg l]at b;have m:(x.act.kind==3)=true:=by rw[l];rfl
  have h:=Qa b;go_enter func15,Ef;go_wp2_with (go_at_call 29;refine(n.o _<|g.o _).mono ?_;rintro e o⟨rfl,i⟩);go_ret;rw[←h.o];exact⟨rfl,.from (g.o _) i⟩
 rw[Qe l]at b;have m:(x.act.kind==3)=false:=Zh.2 l
 by_cases m:x.act.kind=4
 ·rw[Qg m]at b;have n:(x.act.kind==4)=true:=by rw[m];rfl
  have h:=Qa b;go_enter func15,Ef;go_wp2_with (go_at_call 43;refine(u.o _<|g.o _).mono ?_;rintro e o⟨rfl,i⟩);go_ret;rw[←h.o];exact⟨rfl,.from (g.o _) i⟩
 rw[Qe m]at b;have n:(x.act.kind==4)=false:=Zh.2 m
 by_cases n:x.act.kind=5
 ·rw[Qg n]at b;have p:(x.act.kind==5)=true:=by rw[n];rfl
  have h:=Qa b;go_enter func15,Ef;go_wp2_with (go_at_call 39;refine(r.o _<|g.o _).mono ?_;rintro e o⟨rfl,i⟩);go_ret;rw[←h.o];exact⟨rfl,.from (g.o _) i⟩
 rw[Qe n]at b;have p:(x.act.kind==5)=false:=Zh.2 n;have h:=Qa b;go_enter func15,Ef
 go_wp2
 go_ret;rw[←h.o];exact⟨rfl,t.o.kept<|g.o _⟩
end
