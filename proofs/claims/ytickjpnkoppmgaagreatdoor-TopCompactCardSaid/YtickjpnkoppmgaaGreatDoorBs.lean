import Derived.Defers
import Derived.Recover
import Derived.Deep.RegionWith
import Derived.Test.YtickjpnkoppmgaaGreatDoorBr
set_option linter.all false
set_option maxHeartbeats 4000000
set_option maxRecDepth 100000
namespace Go.Proofs.YtickjpnkoppmgaaGreatDoor
open Go.Proofs.Tryz Go.RowKit K
section
structure Cu(w0:WD)(L:LY)(r c h:Nat)(i:Nat)(xs:LV)(w:WD):Prop where
 cc:Qe w c 271 [str (L.drop i).flatten,.bool false]
 hh:Qe w h 165 xs
 rr:Qe w r 165 [.string ⟨#[]⟩,(0:Int),.int .u8 0,(0:Int),(0:Int),.string ⟨#[]⟩,.string ⟨#[]⟩,.string ⟨#[]⟩,(0:Int),(0:Int)]
 kk:Qb [] w0 w
 ne:c≠h∧c≠r∧h≠r∧w0.heap.size≤c∧w0.heap.size≤h∧w0.heap.size≤r
section
variable {w0 w:WD} {L:LY} {r c h i:Nat} {xs:LV}
def Cu.set(a:Cu w0 L r c h i xs w)(j u):Cu w0 L r c h i (xs.set j u) (w.setCell ⟨h,j,none⟩ u):=by have b:=(Qc [h] w).setCell (p:=⟨h,j,none⟩) (.inl<|by simp) u;obtain⟨d,e,e,f,f,f⟩:=a.ne;exact⟨a.cc.kept b<|by simpa using d,a.hh.set j u,a.rr.kept b<|by simpa using e.symm,a.kk.trans b fun b b=>.inr (by simp at b;omega),a.ne⟩
def Cu.kZ{w'}(a:Cu w0 L r c h i xs w)(k:Qb [] w w'):Cu w0 L r c h i xs w':=⟨a.cc.kept k<|by simp,a.hh.kept k<|by simp,a.rr.kept k<|by simp,a.kk.trans k<|by simp,a.ne⟩
def Cu.raw(a:Cu w0 L r c h i xs w)(x)(d:L[i]?=some x)(n)(k:x.length=n)(j:n≤1000):
 Calls prog 175 #[.pointer c,n] w fun e w'=>e=.returned (.string<|str x)∧Cu w0 L r c h (i+1) xs w':=by
 obtain⟨l,m,b,b,b,b⟩:=a.ne;have g:L.drop i=x::L.drop (i+1):=by have b:=(Qz.1 d);rw[Z8 b.1,b.2]
 have f:=a.cc;rw[g,DJ]at f;refine(Qek c n x _ false w f k j).mono ?_;rintro e w'⟨rfl,b,f⟩;exact⟨rfl,b,a.hh.kept f<|by simpa using l.symm,a.rr.kept f<|by simpa using m.symm,a.kk.trans f fun x d=>.inr (by simp at d;omega),a.ne⟩
def Cu.num(a:Cu w0 L r c h i xs w)(x z)(d:L[i]?=some (x++z))(n:Nat)(g:(x++z).length=n)(j:n≤1000)(h0:x≠[])(f:∀b∈x,48≤b.toNat∧b.toNat≤55)(m:x.length≤12)(hz:∀b∈z,b=32∨b=0)(o:z.length≤900):
 Calls prog 174 #[.pointer c,n] w fun e w'=>e=.returned (.int .i64 (Vj 0 x:Nat))∧Cu w0 L r c h (i+1) xs w':=by
 have⟨k,j⟩:=qb (a.raw _ d n g j) fun l=>Qci (str<|x++z) x z l rfl h0 f m hz o;clear a d g h0 f hz;go_enter func174,ntmps174;go_wp2_with fail;refine k.o.mono ?_;rintro e f⟨rfl,f⟩;have g:=Qa f;clear f;go_wp2_with fail;refine(j.o _).mono ?_;rintro e k⟨rfl,k2⟩;have f:=g.o.cc.kept k2 (by simp);have c1:=f.cell (i:=1) (u:=.bool false) rfl;have:=f.free 1;have j:=Qa k2;clear k2 f
 go_wp2
 go_ret;have a:=g.o;have k2:=j.o;obtain⟨g,j,f,f,f,f⟩:=a.ne;have f:=(Qc [c] k).setCell (p:=⟨c,1,none⟩) (.inl<|by simp)<|.bool false;refine⟨rfl,(a.cc.kept k2<|by simp).set 1<|.bool false,(a.hh.kept k2<|by simp).kept f<|by simpa using g.symm,(a.rr.kept k2<|by simp).kept f<|by simpa using j.symm,(a.kk.trans k2<|by simp).trans f fun x d=>.inr (by simp at d;omega),a.ne⟩
def Qcn:∀k n,∀b∈Ve k n,48≤b.toNat∧b.toNat≤55:=fun k n b hb=>by have:=XO.1 (eW k n) b hb;simpa[Nu]using this
def Cu.oct(l:Cu w0 L r c h i xs w)(k v z)(g:L[i]?=some (Ve k v++z))(n)(d:k+z.length=n)(a:1≤k)(a:k≤12)(f:v<8^k)(hz:∀b∈z,b=32∨b=0)(j:z.length≤900):
 Calls prog 174 #[.pointer c,n] w fun e w'=>e=.returned (v:Nat)∧Cu w0 L r c h (i+1) xs w':=by
 have:=l.num (Ve k v) z g n (by rwa[Qo,Gg]) (by omega) (fun e=>by have:=Gg k v;rw[e]at this;simp at this;omega) (Qcn k v) (by rwa[Gg]) hz j;rwa[lF,GZ,ZE,XP f]at this
end
def IY(pre name:LU)(kind:UInt8)(size sum:Nat):LY:=
 [Zp name 100,Zc 420 8,Zc 0 8,Zc 0 8,Zc size 12,Zc 0 12,Ve 6 sum++[0,32],[kind],Zp [] 100,Dl,Zp [] 32,Zp [] 32,Zc 0 8++Zc 0 8,Zp pre 155,Zp [] 12]
def yO(pre name kind size):(IY pre name kind size<|CE pre name kind size).flatten=XL pre name kind size:=by simp[IY,XL,Cm,EN,Zc]
def JV(pre name:LU):LU:=if pre=[]then name else pre++47::name
def Qid(pre name kind size w)(r:(0:UInt8)∉name)(hp:(0:UInt8)∉pre)(g:name.length≤100)(h:pre.length≤155)(hk:kind≠0)(hs:size<1000000000)(a:1≤name.length):
 Calls prog 129 #[str<|XL pre name kind size] w fun e w'=>e=.returned (.tuple #[RF (str<|JV pre name) kind size,(0:Int)])∧Qb [] w w':=by
 have⟨b,m⟩:=qx<|XL pre name kind size;have⟨sum,s⟩:=qx<|CE pre name kind size;have k:=yO pre name kind size;have j:=RE kind size g h;have l:=Qhc kind size g h;rw[m,s]at k l;rw[m]at j ⊢;have:sum<8^6:=by have:=KP b 512;rw[l]at this;exact GV this (by decide)
 have:size<8^(12-1):=Nat.lt_trans hs (by decide);have o:=Qa fun c=>aK (str b) c j;rw[show(str b).data.toList=b from rfl,l]at o;have:(str b).size=512:=j;have⟨d,q⟩:=qx<|IY pre name kind size sum;rw[q]at k;have⟨t,x,n⟩:=qc (fun c=>MO name (100-name.length) c r<|by omega) (fun c=>MO pre (155-pre.length) c hp<|by omega) (fun a c (f:a≤1000)=>MO [] a c (by simp)<|by simpa using f);have a:Cu w d w.heap.size (w.heap.size+1) (w.heap.size+1+1) 0 [.string ⟨#[]⟩,(0:Int),.int .u8 0,(0:Int),(0:Int),.string ⟨#[]⟩,.string ⟨#[]⟩,.string ⟨#[]⟩,(0:Int),(0:Int)]
  (((w.alloc<|.cells #[.string ⟨#[]⟩,(0:Int),.int .u8 0,(0:Int),(0:Int),.string ⟨#[]⟩,.string ⟨#[]⟩,.string ⟨#[]⟩,(0:Int),(0:Int)] 165).alloc<|.cells #[.string<|str b,.bool false] 271).alloc
    (.cells #[.string ⟨#[]⟩,(0:Int),.int .u8 0,(0:Int),(0:Int),.string ⟨#[]⟩,.string ⟨#[]⟩,.string ⟨#[]⟩,(0:Int),(0:Int)] 165)):=by
  refine⟨?_,by simpa using Qy ((w.alloc _).alloc _) [.string ⟨#[]⟩,(0:Int),.int .u8 0,(0:Int),(0:Int),.string ⟨#[]⟩,.string ⟨#[]⟩,.string ⟨#[]⟩,(0:Int),(0:Int)] 165,
   (Qy w [.string ⟨#[]⟩,(0:Int),.int .u8 0,(0:Int),(0:Int),.string ⟨#[]⟩,.string ⟨#[]⟩,.string ⟨#[]⟩,(0:Int),(0:Int)] 165).kept (((Qc [] _).alloc _).alloc _) (by simp),(((Qc [] w).alloc _).alloc _).alloc _,by omega⟩
  have:=(Qy (w.alloc<|.cells #[.string ⟨#[]⟩,(0:Int),.int .u8 0,(0:Int),(0:Int),.string ⟨#[]⟩,.string ⟨#[]⟩,.string ⟨#[]⟩,(0:Int),(0:Int)] 165) [.string<|str b,.bool false] 271).kept ((Qc [] _).alloc<|.cells #[.string ⟨#[]⟩,(0:Int),.int .u8 0,(0:Int),(0:Int),.string ⟨#[]⟩,.string ⟨#[]⟩,.string ⟨#[]⟩,(0:Int),(0:Int)] 165) (by simp);rw[VD,k];simpa using this
 have z:=BR name 100 g;have t2:=BR pre 155 h;subst q;have⟨d,y⟩:=qx w.heap.size;have⟨h,b⟩:=qx<|d+1;have⟨hb,q⟩:=qx<|h+1;have g:=Qa a;have:∀c:World,(Instr.indexAt 163 (.pointer<|some ⟨hb,8,none⟩) (0:Int)).run prog c=.ok (.pointer<|some ⟨hb,8,none⟩) c:=fun c=>by simp[Instr.indexAt,go_sem]
 have:∀c:World,(Instr.indexAt 163 (.pointer<|some ⟨hb,8,none⟩) (1:Int)).run prog c=.ok (.pointer<|some ⟨hb,9,none⟩) c:=fun c=>by simp[Instr.indexAt,go_sem]
 have:∀c:World,(Instr.indexAt 162 (.pointer<|some ⟨hb,6,none⟩) (0:Int)).run prog c=.ok (.pointer<|some ⟨hb,6,none⟩) c:=fun c=>by simp[Instr.indexAt,go_sem]
 have:∀c:World,(Instr.indexAt 162 (.pointer<|some ⟨hb,6,none⟩) (1:Int)).run prog c=.ok (.pointer<|some ⟨hb,7,none⟩) c:=fun c=>by simp[Instr.indexAt,go_sem]
 clear a k l m s r hp j;go_enter func129,ntmps129;go_wp2_with fail;have a:=g.o;clear g;rw[y,b,q]at a;refine(a.raw _ rfl _ z<|by decide).mono ?_;rintro e b⟨rfl,b⟩;clear a;go_wp2_with fail;refine(t.o _).mono ?_;rintro e j⟨rfl,rfl⟩;have a:=b;clear b;go_wp2_with (go_at_call 174;refine(a.oct _ _ _ rfl _ rfl (by decide) (by decide) (by first|assumption|decide) (by simp)<|by simp).mono ?_;rintro e c⟨rfl,b⟩;clear a;have a:=b;clear b;have l:=a.hh.free 3;have m:=a.hh.free 8;have q:=a.hh.free 9;have c3:=a.hh.cell (i:=3) rfl;have j:=a.hh.cell (i:=8) rfl;have k:=a.hh.cell (i:=9) rfl);have b:=(((a.set 3 (420:Int)).set 8 (0:Int)).set 9 (0:Int));clear a;have a:=b;clear b;clear l m q c3 j k;go_wp2_with (first|(go_at_call 174;refine(a.oct _ _ _ rfl _ rfl (by decide) (by decide) (by first|assumption|decide) (by simp)<|by simp).mono ?_;rintro e c⟨rfl,b⟩;clear a;have a:=b;clear b;have k:=a.hh.free 1;have c1:=a.hh.cell (i:=1) rfl;have l:=a.hh.free 4;have j:=a.hh.cell (i:=4) rfl));have b:=((a.set 1 size).set 4 (0:Int));clear a;have a:=b;clear b;clear k l c1 j;have i0:∀c,(Instr.index 9 (.string<|str [kind]) (0:Int)).run prog c=.ok (.int .u8 kind.toNat) c:=Ux (str [kind]) 0 0 (by show 0<[kind].length;simp) rfl;go_wp2_with (first|(go_at_call 174;refine(a.oct _ _ _ rfl _ rfl (by decide) (by decide) (by first|assumption|decide) (by simp)<|by simp).mono ?_;rintro e c⟨rfl,b⟩;clear a;have a:=b;clear b)|(go_at_call 175;refine(a.raw _ rfl _ (by first|assumption|rfl)<|by decide).mono ?_;rintro e c⟨rfl,b⟩;clear a;have a:=b;clear b;have l:=a.hh.free 2;have c2:=a.hh.cell (i:=2) rfl));have b:=(a.set 2<|.int .u8 kind.toNat);clear a;have a:=b;clear b;clear l c2;go_wp2_with (first|(go_at_call 175;refine(a.raw _ rfl _ (by first|assumption|rfl)<|by decide).mono ?_;rintro e c⟨rfl,b⟩;clear a;have a:=b;clear b;have m:=a.hh.free 5;have k:=a.hh.cell (i:=5) rfl)|(go_at_call 176;refine(n.o _ _<|by decide).mono ?_;rintro e j⟨rfl,rfl⟩));have b:=(a.set 5<|.string<|str []);clear a;have a:=b;clear b;clear m k;go_wp2_with (first|(go_at_call 175;refine(a.raw _ rfl _ (by first|assumption|rfl)<|by decide).mono ?_;rintro e c⟨rfl,b⟩;clear a;have a:=b;clear b;have f6:=a.hh.free 6;have k:=a.hh.cell (i:=6) rfl;have q:=a.hh.free 7;have m:=a.hh.cell (i:=7) rfl)|(go_at_call 176;refine(n.o _ _<|by decide).mono ?_;rintro e j⟨rfl,rfl⟩));have b:=((a.set 6<|.string<|str []).set 7<|.string<|str []);clear a;have a:=b;clear b;clear f6 q k m;go_wp2_with (first|(go_at_call 175;refine(a.raw _ rfl _ (by first|assumption|rfl)<|by decide).mono ?_;rintro e c⟨rfl,b⟩;clear a;have a:=b;clear b));refine(x.o _).mono ?_;rintro e j⟨rfl,rfl⟩;have k:=a.hh.free 0;have c0:=a.hh.cell (i:=0) rfl
 go_upto_if 75 with fail
 have b:=a.set 0<|.string<|str name;clear a;have a:=b;clear b k c0;have:str pre++⟨#[47]⟩++str name=str (pre++47::name):=by
  rw[←VY (_++_)]
  congr 1
  simp;rfl
 have g:=Qa a;clear a;have⟨c,b⟩:=qx<|(!(str pre).toList.isEmpty);rw[b];have j:=Qa b;clear b
 go_cut []from 75 to 80 (fun b=>Hid<|Cu w (IY pre name kind size sum) d h hb 14 [str<|JV pre name,size,.int .u8 kind.toNat,(420:Int),(0:Int),str [],str [],str [],(0:Int),(0:Int)] b)
 ·cases c with
  |false=>
   have b:=Qa (show JV pre name=name by
    unfold JV;rw[Qg];have f:=j.o;rw[X6]at f;exact List.isEmpty_iff.1 (show pre.isEmpty=true by cases hh:pre.isEmpty with
     |true=>rfl
     |false=>rw[show(str pre).data.toList=pre from rfl,hh]at f;cases f))
   go_wp2
   go_meet
   case rel=>exact Qa (by rw[b.o];exact g.o)
  |true=>
   have b:=Qa (show JV pre name=pre++47::name by unfold JV;rw[Qf];intro f;have c:=j.o;rw[X6,f]at c;cases c);have k:=g.o.hh.free 0;have c0:=g.o.hh.cell (i:=0) rfl;have:∀c:List UInt8,(str c).size=c.length:=fun _=>rfl
   obtain⟨h,z2⟩: ¬9223372036854775807<pre.length+1∧¬9223372036854775807<pre.length+1+name.length:=by omega
   go_wp2
   go_meet
   case rel=>exact Qa (by rw[b.o];exact g.o.set 0 _)
 have a:=hcut.o;have c2:=a.hh.cell (i:=2) rfl;have l:=a.hh.free 2;have b:0<(JV pre name).length:=by
  unfold JV
  split
  ·omega
  rw[Qo,Q0];omega
 have:(str<|JV pre name).toList.isEmpty=false:=CD _ b;have:((kind.toNat:Int)==0)=false:=Zb.2 fun f=>hk<|CZ.1 (by show kind.toNat=0;omega);clear hk;go_wp2_with (go_at_call 177;refine(o.o _).mono ?_;rintro e G⟨rfl,c⟩;have b:=a.kZ c;have:=b.cc.cell (i:=1) rfl;have c0:=b.hh.cell (i:=0) rfl;have:=b.hh.cell (i:=1) rfl;have:=b.hh.cell (i:=2) rfl;have:=b.hh.cell (i:=3) rfl;have:=b.hh.cell (i:=4) rfl;have:=b.hh.cell (i:=5) rfl;have:=b.hh.cell (i:=6) rfl;have:=b.hh.cell (i:=7) rfl;have:=b.hh.cell (i:=8) rfl;have:=b.hh.cell (i:=9) rfl;have:=b.rr.free 0;have z0:=b.rr.cell (i:=0) rfl;have:=b.rr.free 1;have h:=b.rr.cell (i:=1) rfl;have:=b.rr.free 2;have z2:=b.rr.cell (i:=2) rfl;have:=b.rr.free 3;have z3:=b.rr.cell (i:=3) rfl;have:=b.rr.free 4;have z4:=b.rr.cell (i:=4) rfl;have:=b.rr.free 5;have z5:=b.rr.cell (i:=5) rfl;have:=b.rr.free 6;have:=b.rr.cell (i:=6) rfl;have:=b.rr.free 7;have:=b.rr.cell (i:=7) rfl;have r8:=b.rr.free 8;have:=b.rr.cell (i:=8) rfl;have:=b.rr.free 9;have z9:=b.rr.cell (i:=9) rfl;have:str Dl=⟨#[117,115,116,97,114,0,48,48]⟩:=rfl);have a:=b.rr;have a:=a.set 0<|.string<|str<|JV pre name;have a:=a.set 1 size;have a:=a.set 2<|.int .u8 kind.toNat;have a:=a.set 3 (420:Int);have a:=a.set 4 (0:Int);have a:=a.set 5<|.string<|str [];have a:=a.set 6<|.string<|str [];have a:=a.set 7<|.string<|str [];have a:=a.set 8 (0:Int);have a:=a.set 9 (0:Int);have c:=a.cell (i:=0) (u:=.string<|str<|JV pre name) rfl;have f:=a.cell (i:=1) (u:=.int .i64 size) rfl;have g:=a.cell (i:=2) (u:=.int .u8 kind.toNat) rfl;have h:=a.cell (i:=3) (u:=.int .i64 420) rfl;have j:=a.cell (i:=4) (u:=.int .i64 0) rfl;have k:=a.cell (i:=5) (u:=.string<|str []) rfl;have l:=a.cell (i:=6) (u:=.string<|str []) rfl;have m:=a.cell (i:=7) (u:=.string<|str []) rfl;have n:=a.cell (i:=8) (u:=.int .i64 0) rfl;have o:=a.cell (i:=9) (u:=.int .i64 0) rfl;refine Q5 (v:=.tuple #[RF (str<|JV pre name) kind size,(0:Int)]) (by simp[results,results129,go_sem,c,f,g,h,j,k,l,m,n,o,RF];rfl) rfl ⟨rfl,?_⟩;have a:=b.ne.2.2.2.2.2;exact((((((((((b.kk.setCell (p:=⟨d,0,none⟩) (.inr a) _).setCell (p:=⟨d,1,none⟩) (.inr a) _).setCell (p:=⟨d,2,none⟩) (.inr a) _).setCell (p:=⟨d,3,none⟩) (.inr a) _).setCell (p:=⟨d,4,none⟩) (.inr a) _).setCell (p:=⟨d,5,none⟩) (.inr a) _).setCell (p:=⟨d,6,none⟩) (.inr a) _).setCell (p:=⟨d,7,none⟩) (.inr a) _).setCell (p:=⟨d,8,none⟩) (.inr a) _).setCell (p:=⟨d,9,none⟩) (.inr a) _)
end
def yP(a b c d w):CallsD prog 219 #[a,b,c,d] .returning w fun e f w'=>e=.returned (.tuple #[])∧f=.returning∧w'=w:=by
 refine callsD_of_wpS func219 rfl fun f g g=>?_
 apply wpS_seq;apply wpS_region;simp[wpOpsS,go_sem,recoverD,g,ntmps219,Exit.thenS];apply wpS_seq;apply wpS_region;simp[wpOpsS,go_sem,Exit.thenS];refine wpS_cond (t:=false) (by simp[Act.eval,Array.replicate]) ?_;simp only[Bool.false_eq_true,Ew];refine wpS_of_wp<|wp_skip ?_;cases f
 simp_all [bodyPostS,results,results219]
def IZ(b r a n v i:Nat)(s w)(hb:Qe w b 264 [.pointer r])(c:Rd w r a s i)(hs:s.size≤1000000)(hi:i≤8*s.size)(d:QJ (Qk s) i (n:Nat)=(v,0)):
 Calls prog 220 #[(n:Int),.pointer b] w fun e w'=>e=.returned (.int .u64 (v:Int))∧Rd w' r a s (i+n)∧Qb [r] w w':=by
 have c0:=hb.cell (i:=0) (u:=.pointer r) rfl;have⟨b,a⟩:=qb (BQ r a s i (n:Int) w c (by omega) hi) d;go_enter func220,ntmps220;go_wp2_with fail;refine b.o.mono ?_;rw[a.o];rintro e a⟨rfl,a,hk⟩
 go_wp2
 go_ret;exact⟨rfl,by simpa using a,hk⟩
def bF(w):Calls prog 221 #[.bool true] w fun e w'=>e=.returned (.tuple #[])∧w'=w:=by
 go_enter func221,ntmps221
 go_wp2
 go_end0
 exact⟨rfl,rfl⟩
structure JG(w0:WD)(g br r q:Nat)(s:BA)(i:Nat)(a b:VL)(W:WD):Prop where
 c0:Qe W g 67 [a]
 c1:Qe W (g+1) 3 [b]
 c2:Qe W (g+2) 3 [(0:Int)]
 c3:Qe W (g+3) 40 [(0:Int)]
 rd:Rd W r q s i
 hb:Qe W br 264 [.pointer r]
 hk:Qb [] w0 W
 hz:w0.heap.size≤g∧g+4≤r∧g+4≤q∧g+4≤br∧r≠br
def JG.took{w0 A d g f r e i j s a b}(c:JG w0 g f r e s i a b A)(k:Qb [r] A d)(h:Rd d r e s j):JG w0 g f r e s j a b d:=by obtain⟨d,z2,z3,z4,z5⟩:=c.hz;exact⟨c.c0.kept k (by simp;omega),c.c1.kept k (by simp;omega),c.c2.kept k (by simp;omega),c.c3.kept k (by simp;omega),h,c.hb.kept k (by simp;omega),c.hk.trans k (by simp;omega),c.hz⟩
def JG.set0{w0 A g d r e i s a b}(c:JG w0 g d r e s i a b A)(u):JG w0 g d r e s i u b (A.setCell ⟨g,0,none⟩ u):=by obtain⟨e,z2,z3,z4,z5⟩:=c.hz;have d:Qb [g] A (A.setCell ⟨g,0,none⟩ u):=(Qc [g] A).setCell (p:=g) (by simp) u;exact⟨c.c0.set 0 u,c.c1.kept d<|by simp,c.c2.kept d<|by simp,c.c3.kept d<|by simp,⟨d.heap c.rd.1 (by simp;omega),d.heap c.rd.2.1 (by simp;omega),c.rd.2.2⟩,c.hb.kept d (by simp;omega),c.hk.setCell (.inr e) u,c.hz⟩
def JG.set1{w0 A g d r e i s a b}(c:JG w0 g d r e s i a b A)(u):JG w0 g d r e s i a u (A.setCell ⟨g+1,0,none⟩ u):=by obtain⟨d,z2,z3,z4,z5⟩:=c.hz;have d:Qb [g+1] A (A.setCell ⟨g+1,0,none⟩ u):=(Qc [g+1] A).setCell (p:=⟨g+1,0,none⟩) (by simp) u;exact⟨c.c0.kept d<|by simp,c.c1.set 0 u,c.c2.kept d<|by simp,c.c3.kept d<|by simp,⟨d.heap c.rd.1 (by simp;omega),d.heap c.rd.2.1 (by simp;omega),c.rd.2.2⟩,c.hb.kept d (by simp;omega),c.hk.setCell (.inr (by show w0.heap.size≤g+1;omega)) u,c.hz⟩
def JG.fin{w0 A g c r d i s a b}(e:JG w0 g c r d s i a b A)(x d u v):
 ((((A.setCell ⟨g,0,none⟩ x).setCell ⟨g+1,0,none⟩ d).setCell ⟨g+1+1,0,none⟩ u).setCell ⟨g+1+1+1,0,none⟩ v).cell? g=some x∧((((A.setCell ⟨g,0,none⟩ x).setCell ⟨g+1,0,none⟩ d).setCell ⟨g+1+1,0,none⟩ u).setCell ⟨g+1+1+1,0,none⟩ v).cell? ⟨g+1,0,none⟩=some d∧
 ((((A.setCell ⟨g,0,none⟩ x).setCell ⟨g+1,0,none⟩ d).setCell ⟨g+1+1,0,none⟩ u).setCell ⟨g+1+1+1,0,none⟩ v).cell? ⟨g+1+1,0,none⟩=some u∧((((A.setCell ⟨g,0,none⟩ x).setCell ⟨g+1,0,none⟩ d).setCell ⟨g+1+1,0,none⟩ u).setCell ⟨g+1+1+1,0,none⟩ v).cell? ⟨g+1+1+1,0,none⟩=some v∧
 Qb [] w0 ((((A.setCell ⟨g,0,none⟩ x).setCell ⟨g+1,0,none⟩ d).setCell ⟨g+1+1,0,none⟩ u).setCell ⟨g+1+1+1,0,none⟩ v):=by
 obtain⟨j,z2,z3,z4,z5⟩:=e.hz;have c:∀(h:WD)(f:Nat)(u:VL),Qb [f] h (h.setCell ⟨f,0,none⟩ u):=fun h f u=>(Qc [f] h).setCell (p:=f) (by simp) u
 have a0:=(((e.c0.set 0 x).kept (c _ (g+1) d)<|by simp).kept (c _ (g+2) u)<|by simp).kept (c _ (g+3) v) (by simp);have f:=(((e.c1.kept (c _ g x)<|by simp).set 0 d).kept (c _ (g+2) u)<|by simp).kept (c _ (g+3) v) (by simp);have a2:=(((e.c2.kept (c _ g x)<|by simp).kept (c _ (g+1) d)<|by simp).set 0 u).kept (c _ (g+3) v) (by simp);have a3:=(((e.c3.kept (c _ g x)<|by simp).kept (c _ (g+1) d)<|by simp).kept (c _ (g+2) u)<|by simp).set 0 v;exact⟨a0.cell rfl,f.cell rfl,a2.cell rfl,a3.cell rfl,(((e.hk.setCell (.inr j) _).setCell (.inr (by show w0.heap.size≤g+1;omega)) _).setCell (.inr (by show w0.heap.size≤g+2;omega)) _).setCell (.inr (by show w0.heap.size≤g+3;omega)) _⟩
def JG.drew{w0 A g d r e i s a b}(c:JG w0 g d r e s i a b A):JG w0 g d r e s i a b A.drew:=⟨c.c0,c.c1,c.c2,c.c3,c.rd,c.hb,c.hk.drew,c.hz⟩
def nC(sum row a:Nat)(w:WD)(e:Ending)(w':WD):Prop:=e=.returned (.tuple #[.int .u32 (sum:Int),(row:Int),(a:Int),(0:Int)])∧Qb [] w w'
def yV(s:BA)(p sum row w)(hs:s.size≤1000000)(hp:p+105≤8*s.size)(a:sum<2^32)(a:row<2^24)(a:QJ (Qk s) p 48=(54156738319193,0))(t2:QJ (Qk s) (p+48) 32=(sum,0))(t3:QJ (Qk s) (p+80) 1=(0,0))(t4:QJ (Qk s) (p+81) 24=(row,0)):
 Calls prog 179 #[s,(p:Int)] w (nC sum row (p+105) w):=by
 have:∀(fn:Fn)(first cap:Array VL)(w:WD),(Instr.makeFunc fn first cap).run prog w=.ok (.func fn first cap) w:=fun _ _ _ _=>rfl
 have⟨z,A,B,C⟩:=qd a t2 t3 t4;clear a t2 t3 t4
 go_enter_defers func179,ntmps179
 go_wp2_with fail;have⟨a,d⟩:=qx<|(((w.alloc<|.cells #[.int .u32 0] 67).alloc<|.cells #[(0:Int)] 3).alloc<|.cells #[(0:Int)] 3).alloc<|.cells #[(0:Int)] 40;have b:Qe a w.heap.size 67 [.int .u32 0]∧Qe a (w.heap.size+1) 3 [(0:Int)]∧Qe a (w.heap.size+2) 3 [(0:Int)]∧Qe a (w.heap.size+3) 40 [(0:Int)]∧Qb [] w a∧a.heap.size=w.heap.size+4:=by rw[←d];exact⟨(((Qy w [.int .u32 0] 67).alloc _).alloc _).alloc _,((Qe.newAt _ [(0:Int)] 3 _<|by simp).alloc _).alloc _,(Qe.newAt _ [(0:Int)] 3 _<|by simp).alloc _,Qe.newAt _ [(0:Int)] 40 _<|by simp,((((Qc _ _).alloc _).alloc _).alloc _).alloc _,by simp⟩
 obtain⟨l,m,n,o,v,x⟩:=b;have⟨b,c⟩:=qx w.heap.size;rw[d,c];rw[c]at l m n o x;have G:w.heap.size≤b:=by omega
 clear d c;refine(BH s (p:Int) a (by omega) (by omega) (by simp;omega)).mono ?_;rintro j k⟨d,h,rfl,e,t,r⟩;have F:a.heap.size≤d:=r d (by simp);have E:a.heap.size≤h:=r h (by simp);have e:Rd k d h s p:=by simpa using e
 have⟨a,g⟩:=qx<|k.alloc<|.cells #[.pointer d] 264;obtain⟨c,q⟩:∃y,k.heap.size=y:=⟨_,rfl⟩;have hi:JG w b c d h s (p+0) (.int .u32 0) (0:Int) a:=by
  have k5:Qb [] k a:=by rw[←g];exact(Qc _ _).alloc _
  have a:=t.trans k5 (by simp);have:=BF e.1;have:=t.size;exact⟨l.kept a<|by simp,m.kept a<|by simp,n.kept a<|by simp,o.kept a<|by simp,⟨k5.heap e.1<|by simp,k5.heap e.2.1<|by simp,e.2.2⟩,by rw[←g];exact Qe.newAt k [.pointer d] 264 c q,v.trans a<|by simp,by omega⟩
 have⟨a,D,y⟩:=qc hi g q;clear l m n o v x t e r g q hi G F E;go_wp2_with fail;rw[D.o,y.o];refine(IZ c d h 48 _ (p+0) s _ a.o.hb a.o.rd hs (by omega)<|by exact z.o).mono ?_;rintro j m⟨rfl,g,e⟩;have hi:=a.o.took e g;have a:=Qa hi;clear g e hi;go_wp2_with fail;refine(bF _).mono ?_;rintro j n⟨rfl,rfl⟩;go_wp2_with fail;refine(IZ c d h 32 _ (p+48) s _ a.o.hb a.o.rd hs (by omega)<|by exact A.o).mono ?_;rintro j m⟨rfl,g,e⟩;have hi:=a.o.took e g;have a:=Qa hi;clear g e hi;have c0:=a.o.c0.cell (i:=0) (u:=.int .u32 0) rfl;have l:=a.o.c0.free 0;obtain⟨_,_⟩:(sum:Int)<4294967296∧(row:Int)<16777216:=by omega
 have a:=Qa<|a.o.set0<|.int .u32 (sum:Int);go_wp2_with fail;clear c0 l;refine(IZ c d h 1 _ (p+80) s _ a.o.hb a.o.rd hs (by omega)<|by exact B.o).mono ?_;rintro j m⟨rfl,g,e⟩;have hi:=a.o.took e g;have a:=Qa hi;clear g e hi;go_wp2_with fail;refine(bF _).mono ?_;rintro j n⟨rfl,rfl⟩;go_wp2_with fail;refine(IZ c d h 24 _ (p+81) s _ a.o.hb a.o.rd hs (by omega)<|by exact C.o).mono ?_;rintro j m⟨rfl,g,e⟩;have hi:=a.o.took e g;have a:=Qa hi;clear g e hi;have c0:=a.o.c1.cell (i:=0) (u:=.int .i64 0) rfl;have l:=a.o.c1.free 0;have a:=Qa<|a.o.set1 (row:Int);go_wp2_with fail;clear c0 l;have:=a.o.c0.cell (i:=0) (u:=.int .u32 (sum:Int)) rfl;have:=a.o.c1.cell (i:=0) (u:=.int .i64 (row:Int)) rfl;have:=a.o.c2.cell (i:=0) (u:=.int .i64 0) rfl;have:=a.o.c3.cell (i:=0) (u:=.int .i64 0) rfl;have:=a.o.hb.cell (i:=0) (u:=.pointer d) rfl;have:=a.o.c0.free 0;have:=a.o.c1.free 0;have:=a.o.c2.free 0;have:=a.o.c3.free 0;obtain⟨e,z2,z3,z4,z5⟩:=a.o.hz;obtain⟨_,_,_,_,_,_,_,_⟩: ¬c=b∧¬c=b+1∧¬c=b+2∧¬c=b+3∧¬b=c∧¬b+1=c∧¬b+2=c∧¬b+3=c:=by omega
 go_region_with ((go_at_call 222;refine(at_ok d h s _ _ a.o.drew.rd).mono ?_;rintro j k⟨rfl,rfl⟩))
 all_goals
  go_wp2_with fail;refine leaves_cons (f:=219) (args:=#[.pointer<|some ⟨b,0,none⟩,.pointer<|some ⟨b+1,0,none⟩,.pointer<|some ⟨b+2,0,none⟩,.pointer<|some ⟨b+3,0,none⟩]) (by simp) (by simp[go_sem]) ?_;refine(yP _ _ _ _ _).mono ?_;rintro j b b⟨rfl,rfl,rfl⟩;obtain⟨b,c,q2,d,e⟩:=a.o.fin (.int .u32 (sum:Int)) (row:Int) (.int .i64<|(p:Int)+81+24) (0:Int);have a:((p:Int)+81+24)=((p+105:Nat):Int):=by omega
  refine⟨.tuple #[.int .u32 (sum:Int),(row:Int),.int .i64<|(p:Int)+81+24,(0:Int)],?_,by rw[a],e.drew⟩;simp only[results,results179,go_sem];simp[b,c,q2,d,go_sem]
def TG(A t:Nat)(a:A<18446744073709551616):bits BinOp.and IntKind.u64 ((A:Int)/2^t) 1=((A.testBit t).toNat:Int):=by
 have a:((A:Int)/2^t)=((A/2^t:Nat):Int):=by norm_cast
 rw[a,show(1:Int)=((1:Nat):Int)from rfl,u64_and_nat _ _ (by have:=DV A<|2^t;omega)<|by omega,nat_mask1,Gx]
def Qdn(bs p i)(a:p+16≤bs.length)(hi:i<16):(K.num<|QW bs p 16).testBit (15-i)=bs.getD (p+i) false:=by have b:=Kw bs p 16 a;rw[Kq _ _<|by omega,b,show 16-1-(15-i)=i by omega];unfold QW;rw[List.getD,List.getD,Bm,Qg hi,J4]
def pV(p:LU × Int × Nat)(w:WD)(e:Ending)(w':WD):Prop:=
 e=.returned (.tuple #[.string ⟨p.1.toArray⟩,p.2.1,(p.2.2:Nat)])∧Qb [] w w'
def pI(s:BA)(T:Option (LU × Nat))(a:Nat→Bool)(r f:Nat)(w0:WD)(k:Nat)(v c:VL)(w:WD):Prop:=
 ∃b e d,b≤16∧k=16-b∧c=.int .i64 (b:Nat)∧e≤8*s.size∧Rd w r f s e∧Qh w 5 v (Qm d)∧d.length≤16*b∧
  T=Uz (Qk s) a (16-b) b e d∧Qq (Qd v) [r,f]∧Qb [] w0 w∧Qs w0.heap.size (Qd v)
def pJ(s:BA)(i:Nat)(row:LB)(d:LU)(r b p:Nat)(w0:WD)(k:Nat)(v c:VL)(w:WD):Prop:=
 ∃a,a≤16∧k=16-a∧c=.int .i64 (a:Nat)∧Rd w r b s p∧Qh w 5 v (Qm (d++JY i row a))∧Qq (Qd v) [r,b]∧Qb [] w0 w∧Qs w0.heap.size (Qd v)
def Qgv(s:BA)(at_:Int)(w)(hs:s.size≤1000000000):
 Calls prog 180 #[s,at_] w (pV (As (Qk s) at_) w):=by
 by_cases a:at_<0∨(8*s.size:Nat)<at_
 ·have c:As (Qk s) at_=([],0,2):=by unfold As;rw[Qg (by rw[XD];omega)]
  have j:=Qa c;go_enter func180,ntmps180;go_wp2_with fail;refine(Kn s at_ _ (by omega) a).mono ?_;rintro y b⟨rfl,rfl⟩
  go_wp2
  go_ret3
  rw[j.o];exact⟨rfl,(Qc _ _).alloc _⟩
 obtain⟨at_,rfl⟩:=X7 (by omega:0≤at_);have g:at_≤8*s.size:=by omega
 have:=Qa<|XD s;go_enter func180,ntmps180;go_wp2_with fail;refine(BH s at_ _ (by omega) (by omega)<|by omega).mono ?_;rintro y b⟨e,f,rfl,h,b,a⟩;rw[Zs]at h;have⟨d,z⟩:=qb b a;go_wp2_with fail;refine(BQ e f s at_ 16 _ h (by omega) g).mono ?_;rintro y g⟨rfl,i,n⟩;have l:Qb [] w g:=d.o.new n (fun p b=>by rw[Za.1 b];exact z.o e<|by simp)
 by_cases m:8*s.size<at_+16
 ·have c:As (Qk s) at_=([],0,10):=by unfold As;rw[Qf (by rw[XD];omega),Qg (by rw[XD];simpa using m)]
  have d:QJ (Qk s) at_ 16=(0,10):=by unfold QJ;rw[Qf<|by omega,Qg (by rw[XD];simpa using m)]
  have⟨j,k⟩:=qb c l;rw[d]
  go_wp2
  go_ret3
  rw[j.o];exact⟨rfl,k.o⟩
 have d:QJ (Qk s) at_ 16=(K.num<|QW (Qk s) at_ 16,0):=by unfold QJ;rw[Qf<|by omega,Qf (by rw[XD];simpa using m)];rfl
 have c:As (Qk s) at_=KI (Uz (Qk s) (fun a=>(Qk s).getD (at_+a) false) 16 0 (at_+16) []):=by unfold As;rw[Qf (by rw[XD];omega),Qf (by rw[XD];simpa using m),Zs]
 have j:=Qa c;have r:=Kw (Qk s) at_ 16 (by rw[XD];omega);have m:=Dr<|QW (Qk s) at_ 16;rw[r]at m;have q:∀a,a<16→(K.num<|QW (Qk s) at_ 16).testBit (15-a)=(Qk s).getD (at_+a) false:=fun a hi=>Qdn _ _ _ (by rw[XD];omega) hi
 rw[d]at i ⊢;have i:Rd g e f s (at_+16):=i;have⟨x,o,k⟩:=qc q i l;have t:K.num (QW (Qk s) at_ 16)<65536:=m;generalize K.num (QW (Qk s) at_ 16)=A at x t ⊢;generalize d:Uz (Qk s) (fun a=>(Qk s).getD (at_+a) false) 16 0 (at_+16) []=T at j;have c:=Qa d;go_wp2_with fail;have n:=Qh.empty g 5;have u:Rd (g.alloc<|.cells #[] 5) e f s (at_+16):=o.o.kept ((Qc [] g).alloc _)<|ZM _;have m:=k.o.alloc<|.cells #[] 5;have l:Qs w.heap.size (Qd<|.slice g.heap.size 0 0):=by intro p b;simp[Qd,qo]at b;have:=k.o.size;omega
 have hap:Qq (Qd<|.slice g.heap.size 0 0) [e,f]:=by intro p b d;simp[Qd,qo]at b;have:=o.o.lt p d;omega
 generalize g.alloc (.cells #[] 5)=W1 at n u m ⊢
 go_loopg [10,29] 16 (fun i L v wr=>pI s T (fun a=>(Qk s).getD (at_+a) false) e f w i L v wr)
 ·exact⟨0,at_+16,[],by omega,by omega,rfl,by omega,u,n,by simp,c.o.symm,hap,m,l⟩
 obtain⟨a,c,d,hi,hk,rfl,hp,h,o,g,g,hap,r,l⟩:=hrel;have⟨S,Q,C,t,M,q,E⟩:=qg hk g hap r l o h
 by_cases hlt:a<16
 ·have:(a:Int)<16:=by omega
  have:IntKind.i64.wrap (15-(a:Int))=15-(a:Int):=Q3 _ (by omega);have k:IntKind.u64.wrap (15-(a:Int))=((15-a:Nat):Int):=by rw[JH];omega
  have g:=TG A (15-a) (by omega);rw[x.o a hlt]at g;have⟨m,n⟩:=qx<|15-a;rw[n]at k g;have:m≤15:=by omega
  have Xu:∀i,Uz (Qk s) (fun a=>(Qk s).getD (at_+a) false) (i+1) a c d=
   if(Qk s).getD (at_+a) false then(if(Qk s).length<c+16 then none else Uz (Qk s) (fun a=>(Qk s).getD (at_+a) false) i (a+1) (c+16) (d++JY a (QW (Qk s) c 16) 16))else Uz (Qk s) (fun a=>(Qk s).getD (at_+a) false) i (a+1) c d:=fun i=>by rw[Uz]
  have k:=Q.o;rw[show 16-a=(16-(a+1))+1 by omega,Xu]at k;have R:=Qa k;rcases JD ((Qk s).getD (at_+a) false)with hb|hb
  ·rw[hb]at g;have Y:bits BinOp.and IntKind.u64 ((A:Int)/2^m) 1=1:=g;have k:=R.o;rw[hb,Qg rfl]at k;have x:=Qa k;go_wp2_with fail;refine(BQ e f s c 16 _ E.o (by omega) hp).mono ?_;rintro y V⟨rfl,n,u⟩;have H:Qb [] w V:=t.o.new u (fun p b=>by rw[Za.1 b];exact z.o e<|by simp);have J:=q.o.kept u fun p b z=>C.o p b (by simp at z;simp[z]);have O:=Qa H
   by_cases b:8*s.size<c+16
   ·have D:As (Qk s) at_=([],0,10):=(by rw[j.o,x.o,Qg<|by rwa[XD]];rfl);have p:QJ (Qk s) c 16=(0,10):=(by unfold QJ;rw[Qf<|by omega,Qg (by rw[XD];simpa using b)]);have F:=Qa D;rw[p]
    go_wp2
    go_ret3
    rw[F.o];exact⟨rfl,O.o⟩
   have p:QJ (Qk s) c 16=(K.num<|QW (Qk s) c 16,0):=(by unfold QJ;rw[Qf<|by omega,Qf (by rw[XD];simpa using b)];rfl);have G:=x.o;rw[Qf<|by rwa[XD]]at G;have P:=Qa G;have I:=Kw (Qk s) c 16 (by rw[XD];omega);have F:=Dr<|QW (Qk s) c 16;rw[I]at F;have X:K.num (QW (Qk s) c 16)<65536:=F;have U:∀b,b<16→(K.num<|QW (Qk s) c 16).testBit (15-b)=(QW (Qk s) c 16).getD b false:=fun b Z=>by rw[Kq _ _<|by omega,I,show 16-1-(15-b)=b by omega]
   have D:=Qa U;rw[p]at n ⊢;have n:Rd V e f s (c+16):=n;have⟨V,W⟩:=qb n J;generalize K.num (QW (Qk s) c 16)=B at D X ⊢;generalize QW (Qk s) c 16=row at D P
   go_wp2
   go_loopg [10,47] 16 (fun i L v wr=>pJ s a row d e f (c+16) w i L v wr)
   ·exact⟨0,by omega,by omega,rfl,V.o,by simpa[JY]using W.o,C.o,O.o,M.o⟩
   obtain⟨b,Z,hk,rfl,h,o,hap,r,l⟩:=hrel;have⟨F,n,u,p,v⟩:=qe hk hap r l h
   by_cases i:b<16
   ·have:(b:Int)<16:=(by omega);have:IntKind.i64.wrap (15-(b:Int))=15-(b:Int):=Q3 _ (by omega);have l:IntKind.u64.wrap (15-(b:Int))=((15-b:Nat):Int):=(by rw[JH];omega);have h:=TG B (15-b) (by omega);rw[D.o b i]at h;obtain⟨t2,i⟩:∃m,15-b=m:=⟨_,rfl⟩;rw[i]at l h;have:t2≤15:=(by omega);rcases JD (row.getD b false)with i|i
    ·have l:=iL a row b i;rw[i]at h;have J:bits BinOp.and IntKind.u64 ((B:Int)/2^t2) 1=1:=h;have D:=iI a row b;have H:(Qm<|d++JY a row b).length+1≤maxLen:=(by rw[XU,Qo];simp only[maxLen];omega);have I:((Qm<|d++JY a row b).length+1)*1≤140737488355328:=(by rw[XU,Qo];omega);have:IntKind.u8.wrap (16*(a:Int)+b)=16*(a:Int)+b:=(by rw[CN];omega);have G:=Qa l;go_wp2_with ((at_builtin;refine UW _ rfl _ _ 88 rfl 5 (.int .u8 0) 1 Xb YQ rfl _ _ [.int .u8<|16*(a:Int)+b] 1 rfl rfl rfl rfl (by simp[Value.oneCell']) o H I ?_;intro a5 O U L r l))
     go_roundg (16-(b+1))
     case measure=>have:=F.o;omega
     refine⟨b+1,by omega,rfl,by go_num,v.o.kept r n.o.symm,?_,(n.o.symm.grow v.o.lt l).symm,u.o.new r p.o,p.o.grow l u.o.size⟩;rw[G.o,←QQ,show Qm (d++JY a row b++[UInt8.ofNat<|16*a+b])=Qm (d++JY a row b)++[.int .u8<|16*(a:Int)+b]by
      unfold Qm;rw[Xi]
      congr 1
      simp only[QR,YG,U7];rw[XP<|by omega];simp]
     exact L
    have l:=iJ a row b i;rw[i]at h;have J:bits BinOp.and IntKind.u64 ((B:Int)/2^t2) 1=0:=h;have r:=Qa l
    go_wp2
    go_roundg (16-(b+1))
    ·exact⟨b+1,by omega,rfl,by go_num,v.o,by rwa[r.o],n.o,u.o,p.o⟩
    have:=F.o;omega
   obtain rfl:b=16:=(by omega);have D:=iI a row 16
   go_wp2
   go_roundg (16-(a+1))
   ·exact⟨a+1,c+16,_,by omega,rfl,by go_num,by omega,v.o,o,by rw[Qo];omega,P.o,n.o,u.o,p.o⟩
   have:=S.o;omega
  rw[hb]at g;have Y:bits BinOp.and IntKind.u64 ((A:Int)/2^m) 1=0:=g;have k:=R.o;rw[hb,Qf<|by decide]at k;have x:=Qa k
  go_wp2
  go_roundg (16-(a+1))
  ·exact⟨a+1,c,d,by omega,rfl,by go_num,hp,E.o,q.o,by omega,x.o,C.o,t.o,M.o⟩
  have:=S.o;omega
 obtain rfl:a=16:=by omega
 have h:T=some (d,c):=Q.o;have a:=j.o;rw[h,KI]at a;obtain⟨i,j,b,-,-,-,-⟩:=q.o.sees;rw[XU]at b;subst b
 by_cases b:d=[]
 ·rw[Qg b]at a;have g:=Qa a;have hz:d.length=0:=by rw[b];rfl
  go_wp2
  go_ret3
  rw[g.o];exact⟨rfl,t.o⟩
 rw[Qf b]at a;have g:=Qa a;have hz:¬d.length=0:=fun z=>b<|J3 z
 have:((d.length:Int)==0)=false:=by simp;omega
 have:=Qh.text q.o;go_wp2_with fail
 go_region_held3 (fun a=>(convert 88 9<|.slice i d.length j).run prog a=.ok (.string ⟨d.toArray⟩) a) (exact Qh.text<|by exact q.o)
  (first
    |(go_at_call 222;refine(at_ok e f s c _<|by exact E.o).mono ?_;rintro y a⟨rfl,rfl⟩))
 all_goals
  go_wp2
  go_ret3
  rw[g.o];exact⟨rfl,t.o.drew⟩
def Qbz(l):QD (QY l)=l:=by simp[QD,QY,EV]
def Qil(L a)(c e:Nat)(w)(h0:0<L.length)(b:L.length≤8192)(b:20000≤e∧e≤262144)(f:Qp w 1 a (ZZ<|Zw L).length (Qi<|ZZ<|Zw L)):
 Calls prog 183 #[str<|QL<|Zw L,.slice a (ZZ<|Zw L).length c,(Xg (Zw L):Int),(e:Int)] w (CW (L,0) w):=by
 have d:=Dw L;have hp:=EH L<|DQ h0;have g:=Qe4 L (by omega);have⟨b,j⟩:=qx<|Zw L;rw[j]at d hp f g ⊢;have hb:=VN b hp (by omega);have:=hb.slen;have k:=Qa (fun d (h:Qb [] w d)=>Qjc (QL b).length e a c (ZZ b) (JW b) d hb.used (by omega) (f.kZ h) (by omega)<|sE b hp (by omega) e<|by omega);have l:=Qa (fun(d:WD)(e:OA)(h:Nat)(m:Qp d 1 e (JW b).length (Qi<|JW b))=>show Calls prog 228 #[.slice e (JW b).length h,.string<|str<|QL b] d (CW (UJ b,0) d)by
  have i:=Qfy e h (QY<|JW b) (str<|QL b) d (by rwa[XF,AI]) (by rw[XF,hb.plen];omega) (by rw[BP];have:=hb.used;omega);rwa[XF,Jz,hb.back]at i)
 have h:=Qa (fun(d:WD)=>show Calls prog 229 #[.string ⟨(UJ b).toArray⟩,.int .i64 (Xg b:Int)] d (CW (b,0) d)by
  have e:=rM ⟨(UJ b).toArray⟩ (Xg b:Nat) d (by rw[eC,MI];omega);rwa[rZ b hp<|by omega]at e)
 have i:=Qa fun(d:WD)=>Qez (str b) L d (by rw[BP];omega) g;have:(str<|QL b).size=(QL b).length:=rfl;have:=Qa hb.used;go_enter func183,ntmps183;go_wp2_with fail;refine(k.o _<|Qc _ _).mono ?_;rintro b d⟨d,c1,rfl,e,d,-⟩;have f:=e.sZ;go_wp2_with fail;refine(l.o _ _ _ f).mono ?_;rintro b e⟨rfl,e⟩;go_wp2_with fail;refine(h.o _).mono ?_;rintro b f⟨rfl,f⟩;go_wp2_with fail;refine(i.o _).mono ?_;rintro b b⟨rfl,b⟩;have hk:=((d.trans e<|by simp).trans f<|by simp).trans b (by simp)
 go_wp2
 go_ret2;exact⟨rfl,hk⟩
def sJ(S:BA)(L)(p l j q2 r:Nat)(w:WD)(d:S.size≤1000000)(h0:0<L.length)(x:L.length≤8192)(y:20000≤l∧l≤262144)(i:K.BlkAt (Qk S) p (XQ L).toNat (Xg<|Zw L) (QL<|Zw L) (QG<|Zw L).1 (QG<|Zw L).2.1 (QY<|ZZ<|Zw L) j q2 r):
 Calls prog 134 #[S,(p:Int),(l:Int)] w fun e w'=>e=.returned (.tuple #[str L,.int .u32<|XQ L,(r:Int),(0:Int)])∧Qb [] w w':=by
 have z:=Dw L;have hp:=EH L<|DQ h0;have t:=Qa fun(b:WD)(k:OA)(n:Nat)=>Qil L k n l b h0 x y;have⟨a,A⟩:=qx<|Zw L;rw[A]at z hp i t;have hb:=VN a hp (by omega);have o:Xg a<2^24:=by have:=(Kd (Ds a) 0 hp).1;unfold Xg;omega
 obtain⟨m,c⟩:∃m:Nat,XQ L=(m:Int)∧m<2^32:=by have h:Zf (XQ L):=Zf.bits _ _ _;exact⟨(XQ L).toNat,(Rs h.1).symm,by have:=h.2;omega⟩
 obtain⟨q,g⟩:=c;rw[q,Zs]at i;obtain⟨c,c,c,c⟩:=i.h_to;have f:(Qk S).length=8*S.size:=XD S;rw[f]at c;have⟨B,C⟩:=qb (fun b=>yV S p m (Xg a) b d (by omega) g o i.h_magic i.h_sum i.h_zero i.h_row) (fun b=>show Calls prog 180 #[S,((p+105:Nat):Int)] b fun e w'=>e=.returned (.tuple #[.string<|str<|QL a,(j:Int),(0:Int)])∧Qb [] b w' by have h:=Qgv S ((p+105:Nat):Int) b (by omega);rwa[i.h_used]at h);have u:QY (QD (QG a).2.1)=(QG a).2.1:=TS _ fun c hs=>((RG hb.fit.may).2.2.2 c hs).1;have⟨D,E⟩:=qb (fun b=>show Calls prog 181 #[S,(j:Int),.int .i64<|((QL a).length:Int)+2] b fun e w'=>∃d g c f,e=.returned (.tuple #[QZ d (QG a).1.length g c (QG a).2.1.length f,(q2:Int),(0:Int)])∧Xv w' d c g f (QG a).1 (QG a).2.1∧Qb [] b w' by have h:=yJ S (j:Nat) (((QL a).length+2:Nat):Int) b (by omega);rw[i.h_plan]at h;refine h.mono ?_;rintro e w'⟨d,g,c,f,s,j,hk⟩;have j:Xv w' d c g f (QG a).1 (QY<|QD (QG a).2.1):=j;rw[u]at j;have E:(QD (QG a).2.1).length=(QG a).2.1.length:=UQ _;exact⟨d,g,c,f,by rwa[←E],j,hk⟩) (fun(b:WD)(d c:OA)(g f:Nat)(F:Xv b d c g f (QG a).1 (QG a).2.1)=>show Calls prog 182 #[QZ d (QG a).1.length g c (QG a).2.1.length f,S,(q2:Int)] b fun e w'=>∃k n,e=.returned (.tuple #[.slice k (ZZ a).length n,(r:Int),(0:Int)])∧Qp w' 1 k (ZZ a).length (Qi<|ZZ a)∧Qb [] b w' by have h:=xW d c g f _ _ S (q2:Nat) b F (by omega);rw[i.h_list,Qbz]at h;refine h.mono ?_;rintro e w'⟨k,n,s,o,hk,-⟩;exact⟨k,n,s,o.sZ,hk⟩);have:(str<|QL a).size=(QL a).length:=rfl;have:(str L).size≤8192:=x;obtain⟨h,u2⟩:=hb.used;obtain⟨h,h⟩:=y;obtain⟨g1,_⟩: ¬(l:Int)<1∧¬(262144:Int)<l:=by omega
 have⟨s,n⟩:=qb q (fun b=>show Calls prog 117 #[.string ⟨L.toArray⟩] b fun e w'=>e=.returned (.int .u32 (m:Int))∧Qb [] b w' by rw[←q];exact Ef (str L) b<|by omega);go_enter func134,ntmps134;go_wp2_with fail;refine(B.o _).mono ?_;rintro e b⟨rfl,i⟩;go_wp2_with fail;refine(C.o _).mono ?_;rintro e b⟨rfl,k⟩;go_wp2_with fail
 with_reducible refine(D.o _).mono ?_
 rintro e h⟨d,g,c,f,rfl,j,l⟩;unfold QZ;have o:=Qy h [.slice d (QG a).1.length g,.slice c (QG a).2.1.length f] 255;have b:Qb [] h (h.alloc<|.cells #[.slice d (QG a).1.length g,.slice c (QG a).2.1.length f] 255):=(Qc _ _).alloc _;have⟨a,c⟩:=qb (j.kept b) (((i.trans k<|by simp).trans l<|by simp).trans b<|by simp);go_wp2_with fail;refine(E.o _ _ _ _ _ a.o).mono ?_;rintro e a⟨a5,a,rfl,b,a⟩;have d:=Qa (c.o.trans a<|by simp);go_wp2_with fail;refine(t.o _ _ _ b).mono ?_;rintro e a⟨rfl,a⟩;have c:=Qa (d.o.trans a<|by simp);go_wp2_with fail
 with_reducible refine(n.o _).mono ?_
 rintro e a⟨rfl,a⟩;have b:=Qa (c.o.trans a<|by simp);go_wp2_with fail;refine Q5 (v:=.tuple #[str L,.int .u32 (m:Int),(r:Int),(0:Int)]) (by simp[results,results134,go_sem,str]) rfl ⟨by rw[s.o],b.o⟩
def NT(S:BA)(p n v w)(a:S.size≤1000000)(hp:p≤8*S.size)(a:QJ (Qk S) p (n:Nat)=(v,0)):
 Calls prog 133 #[S,(p:Int),(n:Int)] w fun e w'=>e=.returned (.tuple #[.int .u64 (v:Int),(0:Int)])∧Qb [] w w':=by
 have g:=Qa a;go_enter func133,ntmps133;go_wp2_with fail;refine(BH S (p:Int) _ (by omega) (by omega) (by simp;omega)).mono ?_;rintro e f⟨d,c,rfl,a,hk,hf⟩;have b:Rd f d c S p:=by simpa using a
 go_wp2_with fail;refine(BQ d c S p (n:Int) f b (by omega) hp).mono ?_;rw[g.o];rintro e c⟨rfl,-,hk2⟩;have d:=hk.trans hk2 fun f c=>.inr<|hf f (by simp at c ⊢;exact .inl c)
 go_wp2
 go_ret2;exact⟨rfl,d⟩
def Qf5(S:BA)(p:Nat)(w:WD)(a:S.size≤1000000)(hp:p+4≤S.size)(hb:∀i (a:i<4),S[p+i]'(by omega)=Zh[i]'(by simpa[Zh]using a)):
 Calls prog 132 #[S,(p:Int)] w fun e w'=>e=.returned (.tuple #[(1:Int),(0:Int)])∧Qb [] w w':=by
 have a:=Qa hb;have b0:=a.o 0 (by omega);have b:=a.o 1 (by omega);have c:=a.o 2 (by omega);have d:=a.o 3 (by omega);have i0:=Ux S (p+0) ((p:Int)+0) (by omega) (by omega);have f:=Ux S (p+1) ((p:Int)+1) (by omega) (by omega);have i2:=Ux S (p+2) ((p:Int)+2) (by omega) (by omega);have i3:=Ux S (p+3) ((p:Int)+3) (by omega) (by omega);rw[b0,show((Zh[0]'(by simp[Zh])).toNat:Int)=66 from rfl,Int.add_zero]at i0;rw[b,show((Zh[1]'(by simp[Zh])).toNat:Int)=90 from rfl]at f;rw[c,show((Zh[2]'(by simp[Zh])).toNat:Int)=104 from rfl]at i2;rw[d,show((Zh[3]'(by simp[Zh])).toNat:Int)=49 from rfl]at i3;have:=Ux ⟨#[66,90,104]⟩ 0 0 (by decide) rfl;have:=Ux ⟨#[66,90,104]⟩ 1 1 (by decide) rfl;have:=Ux ⟨#[66,90,104]⟩ 2 2 (by decide) rfl;obtain⟨_,g1,_,g3⟩: ¬(S.size:Int)≤p∧¬(S.size:Int)≤p+1∧¬(S.size:Int)≤p+2∧¬(S.size:Int)≤p+3:=by omega
 go_enter func132,ntmps132
 go_wp2
 go_loopg [8] 4 (fun a b wr=>(∃i:Nat,i≤4∧a=4-i∧b=.int .i64 (i:Nat))∧Hid (Qb [] w wr))
 ·exact⟨⟨0,by omega,rfl,rfl⟩,Qa<|Qc _ _⟩
 obtain⟨⟨i,hi,hk,rfl⟩,a⟩:=hrel;rcases(by omega:i=0∨i=1∨i=2∨i=3∨i=4)with rfl|rfl|rfl|rfl|rfl
 ·go_wp2
  go_roundg 3
  ·exact⟨⟨1,by omega,by omega,rfl⟩,a⟩
  omega
 ·go_wp2
  go_roundg 2
  ·exact⟨⟨2,by omega,by omega,rfl⟩,a⟩
  omega
 ·go_wp2
  go_roundg 1
  ·exact⟨⟨3,by omega,by omega,rfl⟩,a⟩
  omega
 ·go_wp2
  go_roundg 0
  ·exact⟨⟨4,by omega,by omega,rfl⟩,a⟩
  omega
 go_wp2
 go_ret2;exact⟨rfl,a.o⟩
def sM(a b i)(c:8*i+8≤a.length):Yz (a++b) i=Yz a i:=by
 have c:∀d,d<a.length→K.bt (a++b) d=K.bt a d:=fun d d=>by unfold K.bt;rw[List.getD,List.getD,Xp d]
 unfold Yz;rw[c _<|by omega,c _<|by omega,c _<|by omega,c _<|by omega,c _<|by omega,c _<|by omega,c _<|by omega,c _<|by omega]
def Qdv(X i)(a:i<4):(Qv<|Qk Zh++X)[i]?=some (Zh[i]'(by simpa[Zh]using a)):=by
 have a:(Qk Zh).length=32:=by simp[Yt,Zh]
 rw[Gh _ _ (by rw[Qo,a];omega),sM _ _ _ (by rw[a];omega)];rcases(by omega:i=0∨i=1∨i=2∨i=3)with rfl|rfl|rfl|rfl
 ·show _=some (66:UInt8);decide
 ·show _=some (90:UInt8);decide
 ·show _=some (104:UInt8);decide
 show _=some (49:UInt8);decide
def Rn(L:LU):LI:=if L.length=0 then []else [XQ L]
structure oM(S:LB)(p:Nat)(L:LU)(r:Nat):Prop where
 one:0<L.length→QJ S p 48=(54156738319193,0)∧∃q1 q2,K.BlkAt S p (XQ L).toNat (Xg (Zw L)) (QL (Zw L)) (QG (Zw L)).1 (QG (Zw L)).2.1 (QY (ZZ (Zw L))) q1 q2 r
 none:L.length=0→r=p
 stop:QJ S r 48=(25779555029136,0)
 sum:QJ S (r+48) 32=((JZ 0 (Rn L)).toNat,0)
 len:p≤r∧r+80≤S.length
def Qdu(A c L)(a:L.length≤8192):∃r,oM (A++(XB L++c)) (A.length+32) L r:=by
 have h:(Qk Zh).length=32:=by simp[Yt,Zh]
 have⟨b,i⟩:=qx<|(JZ 0<|if L.length=0 then []else [XQ L]).toNat;have m:b<2^32:=by have d:Zf (JZ 0<|if L.length=0 then []else [XQ L]):=Gv _ 0 (by unfold Zf;omega);have:=d.1;have:=d.2;omega
 have⟨a,e⟩:=qx<|(if L.length=0 then []else XE L);have f:XB L=Qk Zh++(a++(K.low 25779555029136 48++K.low b 32)):=by unfold XB;rw[e,i]
 have l:A++(XB L++c)=(A++Qk Zh++a)++(K.low 25779555029136 48++(K.low b 32++c)):=by rw[f];simp[QQ]
 have g:A++(XB L++c)=(A++Qk Zh++a++K.low 25779555029136 48)++(K.low b 32++c):=by rw[f];simp[QQ]
 have k:A++(XB L++c)=(A++Qk Zh)++(a++(K.low 25779555029136 48++(K.low b 32++c))):=by rw[f];simp[QQ]
 have k0:(A++Qk Zh).length=A.length+32:=by rw[Qo,h]
 have k1:(A++Qk Zh++a).length=A.length+32+a.length:=by rw[Qo,k0]
 have k2:(A++Qk Zh++a++K.low 25779555029136 48).length=A.length+32+a.length+48:=by rw[Qo,k1,X0]
 refine⟨A.length+32+a.length,?_,?_,?_,?_,by omega,?_⟩
 ·intro h0;rw[Qf<|by omega]at e;have:=Dw L;have hp:=EH L<|DQ h0;have h:Zf (XQ L):=Zf.bits _ _ _;obtain⟨n,q2,f,j,f⟩:=(VN (Zw L) hp<|by omega).told (A++Qk Zh) (K.low 25779555029136 48++(K.low b 32++c)) (XQ L).toNat (by have:=h.1;have:=h.2;omega);have hb:XE L=UI (XQ L).toNat (Xg<|Zw L) (QL<|Zw L) (QG<|Zw L).1 (QG<|Zw L).2.1 (J8<|Zw L):=rfl;rw[←hb,e,k0]at f;rw[←hb,e,k0]at j;rw[←k]at f;subst j;exact⟨f.h_magic,n,q2,f⟩
 ·intro h0;rw[Qg h0]at e;subst e;simp
 ·have d:=EO (A++Qk Zh++a) (K.low b 32++c) 25779555029136 48 (by decide) (by decide);rw[k1]at d;rwa[l]
 ·have d:=EO (A++Qk Zh++a++K.low 25779555029136 48) c b 32 m (by decide);rw[k2]at d;rw[g];unfold Rn;rwa[i]
 rw[g,Qo,k2,Qo,X0];omega
def Qg7(S:BA)(L pre post w)(hS:S.size≤1000000)(hl:L.length≤8192)(hb:S.data.toList=pre++(Qv (XB L)++post)):
 Calls prog 95 #[S,(pre.length:Int)] w fun e w'=>(∃q:Nat,e=.returned (.tuple #[str L,(q:Int),(0:Int)]))∧Qb [] w w':=by
 obtain⟨y3,y0⟩:=rV<|XB L;have x4:Qk S=Qk pre++(XB L++(y3++Qk post)):=by rw[hb,TH,TH,y0,QQ]
 obtain⟨r,hP⟩:=Qdu (Qk pre) (y3++Qk post) L hl;rw[←x4,Yt]at hP;have x8:=hP.len;rw[XD S]at x8;have x5:=Zo S;have y1:pre.length+4≤S.size:=by omega
 have Z1:=Qa (fun W=>Qf5 S pre.length W hS y1 (fun i h=>by
  have h1:S.data.toList[pre.length+i]?=some (Zh[i]'(by simpa[Zh]using h)):=by
   rw[hb,Zx<|by omega,LG];have hh:i<(Qv<|XB L).length:=(by rw[Ub];have:(XB L).length≥32:=(by unfold XB;rw[Qo,Yt];simp[Zh]);omega);rw[Xp hh];exact Qdv _ i h
  have h2:S.data.toList[pre.length+i]?=some (S[pre.length+i]'(by omega)):=by rw[Qj (by rw[x5];omega)];rfl
  rw[h1]at h2;injection h2 with h2;exact h2.symm))
 have HP:=Qa hP;have⟨n,hn⟩:=qx pre.length;rw[hn]at x8 y1 Z1 HP ⊢;obtain⟨v,hv⟩:∃v:Nat,JZ 0 (Rn L)=(v:Int)∧v<2^32:=by have h:Zf (JZ 0<|Rn L):=Gv _ 0 (by unfold Zf;omega);exact⟨_,(Rs h.1).symm,by have:=h.2;omega⟩
 have HV:=Qa hv.1;have p6:=hv.2;have⟨Z2,Z3⟩:=qb (fun W=>NT S r 48 _ W hS (by omega) HP.o.stop) (fun W=>show Calls prog 133 #[S,.int .i64<|(r:Int)+48,(32:Int)] W fun e w'=>e=.returned (.tuple #[.int .u64 (v:Int),(0:Int)])∧Qb [] W w' by have h:=HP.o.sum;rw[HV.o,Zs]at h;have:=NT S (r+48) 32 v W hS (by omega) h;rw[show(((r+48:Nat)):Int)=r+48 by omega]at this;exact this);have g1:decide ((n:Int)<0)=false:=by simp
 have g2:decide ((S.size:Int)<n)=false:=by simp;omega
 go_enter func95,ntmps95;go_wp2_with fail
 go_step3
 go_wp2_with fail;refine(Z1.o _).mono ?_;rintro e w1⟨rfl,x6⟩;have x0:=Qa x6;go_wp2_with fail;obtain⟨W0,z7⟩:∃W0:WD,W0=w:=⟨_,rfl⟩;subst z7
 go_step3
 go_wp2
 go_loopg [9,10,11] 1 (fun k x9 y4 y5 wr=>(k=1∧0<L.length∧x9=.slice none 0 0∧Hid (y4=.slice none 0 0)∧y5=.int .i64 (8*((n:Int)+4))∧Hid (Qb [] W0 wr))∨
  (∃a9 c9 h5 x3,x9=.slice a9 L.length c9∧y4=.slice h5 (Rn L).length x3∧y5=.int .i64 (r:Nat)∧Hid (Qh wr 5 (.slice a9 L.length c9)<|Qm L)∧Hid (Qp wr 1 h5 (Rn L).length<|Zm<|Rn L)∧Hid (Qb [] W0 wr)))
 ·by_cases h0:L.length=0
  ·right;refine⟨none,0,none,0,by rw[h0],by unfold Rn;rw[Qg h0];rfl,?_,?_,?_,x0⟩
   ·have:=HP.o.none h0;simp only[Value.int.injEq,EP];omega
   ·have:L=[]:=List.length_eq_zero_iff.1 h0;subst this;exact Qa<|Qh.nil _ _
   unfold Rn;rw[Qg h0];exact Qa ⟨rfl,fun j u hj=>by simp[Zm]at hj⟩
  left;exact⟨rfl,by omega,rfl,Qa rfl,rfl,x0⟩
 rcases hrel with⟨rfl,hL,rfl,HX,rfl,HK⟩|⟨a9,c9,h5,x3,rfl,rfl,rfl,HR,HS,HK⟩
 ·obtain⟨ht,q1,q2,hB⟩:=HP.o.one hL;have⟨ZA,ZB⟩:=qb (fun W=>show Calls prog 133 #[S,.int .i64<|8*((n:Int)+4),(48:Int)] W fun e w'=>e=.returned (.tuple #[.int .u64 54156738319193,(0:Int)])∧Qb [] W w' by have:=NT S (n*8+32) 48 54156738319193 W hS (by omega) (by rw[show 8*n+32=n*8+32 by omega]at*;exact ht);rw[show(((n*8+32:Nat)):Int)=8*((n:Int)+4)by omega]at this;exact this) (fun W=>show Calls prog 134 #[S,.int .i64<|8*((n:Int)+4),(100000:Int)] W fun e w'=>e=.returned (.tuple #[str L,.int .u32<|XQ L,(r:Int),(0:Int)])∧Qb [] W w' by have:=sJ S L _ 100000 q1 q2 r W hS hL hl (by omega) hB;rw[show((8*n+32:Nat):Int)=8*((n:Int)+4)by omega]at this;exact this);have p1:(str L).size=L.length:=BP L;have g5:decide ((262144:Int)<L.length)=false:=by simp;omega
  go_wp2_with fail;refine(ZA.o _).mono ?_;rintro e w2⟨rfl,y⟩;have h4:=Qa<|HK.o.trans y fun x o=>.inl o;go_wp2_with fail;refine(gX _).mono ?_;rintro e w3⟨rfl,rfl⟩;go_wp2_with fail;refine(ZB.o _).mono ?_;rintro e w4⟨rfl,x7⟩;have y7:=Qa<|h4.o.trans x7 fun x o=>.inl o;have z8:([]:LV).length+L.length≤140737488355328:=by simp;omega
  have L1:([]:LV).length+1≤maxLen:=by simp[maxLen]
  have L2:(([]:LV).length+1)*4≤140737488355328:=by simp
  go_wp2_with (first
   |(at_builtin;refine Pr rfl _ _ 88 9 rfl 5 Xb Yj YQ (.slice none 0 0) [] (str L) L.length p1 rfl rfl (Qh.nil _ _) z8 ?_;intro a5 z1 w5 h9 p0 p4)
   |(at_builtin;refine UW _ rfl _ _ 206 rfl 67 (.int .u32 0) 4 underlying206 Sx rfl u10 [] [.int .u32<|XQ L] 1 rfl rfl rfl rfl (by simp[Value.oneCell']) (by rw[HX.o];exact Qh.nil _ _) L1 L2 ?_;intro a6 z6 w6 y2 h8 p5))
  go_roundg 0
  case measure=>omega
  right;have e0:Rn L=[XQ L]:=by unfold Rn;rw[Qf<|by omega]
  rw[HX.o]at h8;simp only[Yg,Yy,ZE]at h9 y2;refine⟨a5,z1,a6,z6,by simp,by rw[e0];simp,rfl,Qa ?_,Qa ?_,Qa ?_⟩
  ·rw[show Lib.strCells (str L)=Qm L by unfold Lib.strCells Qm;rw[Jz]]at h9;exact h9.kept h8 (by simp[Qd,qo])
  ·rw[e0];exact y2.sZ
  exact(y7.o.trans p0<|by simp[Qd,qo]).trans h8 (by simp[Qd,qo])
 have ZC:=Qa<|Z2.o wr;have p2:=HS.o;go_wp2_with fail;refine ZC.o.mono ?_;rintro e w2⟨rfl,y⟩;have⟨h4,x1,x2⟩:=qc (HK.o.trans y fun x o=>.inl o) (HR.o.kept y fun x o h=>by cases h)<|HS.o.kZ y;go_wp2_with fail;refine(Z3.o _).mono ?_;rintro e w3⟨rfl,h3⟩;have⟨y6,y8,y9⟩:=qc (h4.o.trans h3 fun x o=>.inl o) (x1.o.kept h3 fun x o h=>by cases h)<|x2.o.kZ h3;go_wp2_with fail;refine(jQ _ _ (Rn L) _ y9.o (by unfold Rn;split<;>simp)).mono ?_;rintro e w4⟨rfl,rfl⟩;rw[HV.o];have p3:=Qh.text y8.o;go_wp2_with fail;rw[UX]
 go_ret3
 refine⟨⟨((r+87)/8:Nat),?_⟩,y6.o⟩;rw[←show((r:Int)+80+7)/8=(((r+87)/8:Nat):Int)by omega];rfl
