import Derived.Test.YtickjpnkoppmgaaGreatDoorBf
set_option linter.all false
namespace Go.Proofs.YtickjpnkoppmgaaGreatDoor
open Go.Proofs.Tryz Go.RowKit K
def Du(kind:UInt8)(gen a n:Nat):LU:=[75,73,83,84]++([kind]++(Xc 8 gen++(Xc 4 a++Xc 2 n)))
def Qet(kind gen a n):(⟨#[75,73,83,84]⟩:ByteArray)++⟨#[kind]⟩++str (Xc 8 gen)++str (Xc 4 a)++str (Xc 2 n)=str (Du kind gen a n):=by
 rw[←VY (_++_),Du]
 congr 1
def Qes(kind gen a n):(Du kind gen a n).length=19:=by simp only[Du,Qo,Bu,Q0,Yg]
def Oy:∀m,Lib.repeatL [0] m=Ze m
 |0=>rfl
 |m+1=>by rw[Lib.repeatL,Oy m];simp[Ze,Y8]
set_option maxRecDepth 20000 in
set_option maxHeartbeats 40000000 in
def Ox(kind)(gen c:Nat)(d w)(hk:kind≠0)(a:gen≤4611686018427387904)(hi:c≤2147483647)(a:d.length≤486):
 Calls prog 102 #[.int .u8 kind.toNat,gen,c,str d] w fun e w'=>e=.returned (.tuple #[str<|Vv kind gen c d,(0:Int)])∧Qb [] w w':=by
 have:AB gen 8:=⟨by omega,by omega,by omega,by omega⟩;have:AB c 4:=⟨by omega,by omega,by omega,by omega⟩;have:AB d.length 2:=⟨by omega,by omega,by omega,by omega⟩;have:IntKind.u64.wrap (gen:Int)=gen:=by rw[JH];omega
 have:IntKind.u64.wrap (c:Int)=c:=by rw[JH];omega
 have:IntKind.u64.wrap (d.length:Int)=d.length:=by rw[JH];omega
 have:∀a:List UInt8,(str a).size=a.length:=fun _=>rfl
 have:∀a b,(Xc a b).length=a:=Bu;have:=fun g=>Db g kind
 have:∀g:World,(convert 88 9<|.slice (some ⟨g.heap.size,0,none⟩) 1 1).run prog (g.alloc<|.cells #[.int .u8 (kind.toNat:Int)] 5).drew=.ok (.string ⟨#[kind]⟩) (g.alloc<|.cells #[.int .u8 (kind.toNat:Int)] 5).drew:=fun g=>Db g.drew kind
 have:((kind.toNat:Int)==0)=false:=Zb.2 fun a=>hk<|CZ.1 (by show kind.toNat=0;omega);have g1:decide ((gen:Int)<0)=false:=by simp
 have:decide ((4611686018427387904:Int)<gen)=false:=by simp;omega
 have g3:decide ((c:Int)<0)=false:=by simp
 have g4:decide ((2147483647:Int)<c)=false:=by simp;omega
 have:decide ((486:Int)<d.length)=false:=by simp;omega
 go_enter func102,ntmps102;go_wp2_with fail;have a:Qb [] w w:=Qc _ _
 go_cut [10]from 34 to 50 (fun b w'=>b=.string (str<|Du kind gen c d.length)∧Hid (Qb [] w w'))
 ·go_region_with
   (first
   |(go_at_call 136;refine(OD _ _ _<|by assumption).mono ?_
     rintro e i⟨rfl,b⟩
     first|(replace f:=b.cZ f<|by simp)|(have f:=b.cZ (eO _ (.int .u8 (kind.toNat:Int)) 5)<|by simp)|(have f:=b.cZ (Qb4 _ (.int .u8 (kind.toNat:Int)) 5)<|by simp)|skip
     first|have:=Wy f|skip
     first|replace a:=a.trans b (by simp)|replace a:=a.drew.trans b (by simp)|replace a:=(a.alloc _).trans b (by simp)|replace a:=(a.alloc _).drew.trans b (by simp)|replace a:=(a.drew.alloc _).trans b (by simp)
     clear b))
  all_goals
   go_wp2
   go_meet;refine⟨Qu Value.string<|Qet kind gen c d.length,Qa ?_⟩
   first|exact a|exact a.alloc _|exact(a.alloc _).drew|exact(a.drew).alloc _
 obtain⟨rfl,m⟩:=hcut;have⟨hh,i⟩:=qx<|Du kind gen c d.length;have b:=Qes kind gen c d.length;rw[i]at b ⊢;have⟨f,k⟩:=qx<|489-d.length;have:(489:Int)-d.length=(f:Int):=by omega
 have j:=Qa fun g=>Tryz.strRep ⟨#[0]⟩ f g (by omega) (by show 1*f≤_;omega);rw[show(⟨#[0]⟩:ByteArray).data.toList=[0]from rfl,Oy]at j;have:(Ze f).length=f:=VA f;have⟨l,n⟩:=qb i k;have⟨b,h⟩:=qx<|hh++(d++Ze f);have:b.length=508:=by rw[←h];simp only[Qo,VA];omega
 have:str hh++(str d++⟨(Ze f).toArray⟩)=str b:=by
  rw[←VY (_++_),←h]
  congr 1
 have:¬9223372036854775807<d.length+f:=by omega
 obtain⟨z2,z3⟩: ¬9223372036854775807<19+(d.length+f)∧¬9223372036854775807<508+4:=by omega
 have f:=Qa fun g=>Nq (str b) g (by show b.length≤_;omega);have g:=Np b;unfold Zf at g;have:AB (Yw b) 4:=⟨g.1,by omega,by omega,by omega⟩;have:IntKind.u64.wrap (Yw b)=Yw b:=by rw[JH];omega
 have g:=Qa h;rw[show(str b).data.toList=b from rfl]at f;go_wp2_with (first
  |(go_at_call 124;refine(j.o _).mono ?_;rintro e k⟨rfl,a⟩)
  |(go_at_call 61;refine(f.o _).mono ?_;rintro e o⟨rfl,h⟩)
  |(go_at_call 136;refine(OD _ _ _<|by assumption).mono ?_;rintro e p⟨rfl,i⟩))
 go_ret2;refine⟨?_,((m.o.trans (Qb.of_below a)<|by simp).trans h<|by simp).trans i<|by simp⟩;have a:Vv kind gen c d=b++Xc 4 (Yw b).toNat:=by
  have:[75,73,83,84]++([kind]++(Xc 8 gen++(Xc 4 c++(Xc 2 d.length++(d++Ze (489-d.length))))))=b:=by rw[←g.o,←l.o,Du,n.o];simp only[QQ]
  unfold Vv;rw[this]
 rw[a];rfl
