import Derived.Test.YtickjpnkoppmgaaGreatDoorBg
set_option linter.all false
namespace Go.Proofs.YtickjpnkoppmgaaGreatDoor
open Go.Proofs.Tryz Go.RowKit K
def Dz(kind:UInt8)(gen a n:Nat):List UInt8:=[75,73,83,84]++([kind]++(Xd 8 gen++(Xd 4 a++Xd 2 n)))
def Qd7(kind gen a n):(⟨#[75,73,83,84]⟩:ByteArray)++⟨#[kind]⟩++str (Xd 8 gen)++str (Xd 4 a)++str (Xd 2 n)=str (Dz kind gen a n):=by
 rw[←VH (_++_),Dz]
 congr 1
def Qd6(kind gen a n):(Dz kind gen a n).length=19:=by simp only[Dz,Qo,Bq,QZ,Yg]
def NR:∀m,Lib.repeatL [0] m=Zb m
 |0=>rfl
 |m+1=>by rw[Lib.repeatL,NR m];simp[Zb,Y4]
set_option maxRecDepth 20000 in
set_option maxHeartbeats 40000000 in
def NQ(kind)(gen c:Nat)(d w)(hk:kind≠0)(a:gen≤4611686018427387904)(hi:c≤2147483647)(a:d.length≤486):
 Calls prog 102 #[.int .u8 kind.toNat,gen,c,str d] w fun e w'=>e=.returned (.tuple #[str<|Vf kind gen c d,(0:Int)])∧Qb [] w w':=by
 have:Au gen 8:=⟨by omega,by omega,by omega,by omega⟩;have:Au c 4:=⟨by omega,by omega,by omega,by omega⟩;have:Au d.length 2:=⟨by omega,by omega,by omega,by omega⟩;have:IntKind.u64.wrap (gen:Int)=gen:=by rw[JA];omega
 have:IntKind.u64.wrap (c:Int)=c:=by rw[JA];omega
 have:IntKind.u64.wrap (d.length:Int)=d.length:=by rw[JA];omega
 have:∀a:List UInt8,(str a).size=a.length:=fun _=>rfl
 have:∀a b,(Xd a b).length=a:=Bq;have:=fun g=>Df g kind
 have:∀g:World,(convert 88 9<|.slice (some ⟨g.heap.size,0,none⟩) 1 1).run prog (g.alloc<|.cells #[.int .u8 (kind.toNat:Int)] 5).drew=.ok (.string ⟨#[kind]⟩) (g.alloc<|.cells #[.int .u8 (kind.toNat:Int)] 5).drew:=fun g=>Df g.drew kind
 have:((kind.toNat:Int)==0)=false:=Zh.2 fun a=>hk<|Dd.1 (by show kind.toNat=0;omega);have g1:decide ((gen:Int)<0)=false:=by simp
 have:decide ((4611686018427387904:Int)<gen)=false:=by simp;omega
 have g3:decide ((c:Int)<0)=false:=by simp
 have g4:decide ((2147483647:Int)<c)=false:=by simp;omega
 have:decide ((486:Int)<d.length)=false:=by simp;omega
 go_enter func102,ntmps102;go_wp2_with fail;have a:Qb [] w w:=Qc _ _
 go_cut [10]from 34 to 50 (fun b w'=>b=.string (str<|Dz kind gen c d.length)∧Hid (Qb [] w w'))
 ·go_region_with
   (first
   |(go_at_call 136;refine(NW _ _ _<|by assumption).mono ?_
     rintro e i⟨rfl,b⟩
     first|(replace f:=b.cZ f<|by simp)|(have f:=b.cZ (eG _ (.int .u8 (kind.toNat:Int)) 5)<|by simp)|(have f:=b.cZ (Qbj _ (.int .u8 (kind.toNat:Int)) 5)<|by simp)|skip
     first|have:=Ws f|skip
     first|replace a:=a.trans b (by simp)|replace a:=a.drew.trans b (by simp)|replace a:=(a.alloc _).trans b (by simp)|replace a:=(a.alloc _).drew.trans b (by simp)|replace a:=(a.drew.alloc _).trans b (by simp)
     clear b))
  all_goals
   go_wp2
   go_meet;refine⟨Qq Value.string<|Qd7 kind gen c d.length,Qa ?_⟩
   first|exact a|exact a.alloc _|exact(a.alloc _).drew|exact(a.drew).alloc _
 obtain⟨rfl,m⟩:=hcut;have⟨hh,i⟩:=qx<|Dz kind gen c d.length;have b:=Qd6 kind gen c d.length;rw[i]at b ⊢;have⟨f,k⟩:=qx<|489-d.length;have:(489:Int)-d.length=(f:Int):=by omega
 have j:=Qa fun g=>Tryz.strRep ⟨#[0]⟩ f g (by omega) (by show 1*f≤_;omega);rw[show(⟨#[0]⟩:ByteArray).data.toList=[0]from rfl,NR]at j;have:(Zb f).length=f:=Vk f;have⟨l,n⟩:=qb i k;have⟨b,h⟩:=qx<|hh++(d++Zb f);have:b.length=508:=by rw[←h];simp only[Qo,Vk];omega
 have:str hh++(str d++⟨(Zb f).toArray⟩)=str b:=by
  rw[←VH (_++_),←h]
  congr 1
 have:¬9223372036854775807<d.length+f:=by omega
 obtain⟨z2,z3⟩: ¬9223372036854775807<19+(d.length+f)∧¬9223372036854775807<508+4:=by omega
 have f:=Qa fun g=>MP (str b) g (by show b.length≤_;omega);have g:=MO b;unfold Zc at g;have:Au (Yt b) 4:=⟨g.1,by omega,by omega,by omega⟩;have:IntKind.u64.wrap (Yt b)=Yt b:=by rw[JA];omega
 have g:=Qa h;rw[show(str b).data.toList=b from rfl]at f;go_wp2_with (first
  |(go_at_call 124;refine(j.o _).mono ?_;rintro e k⟨rfl,a⟩)
  |(go_at_call 61;refine(f.o _).mono ?_;rintro e o⟨rfl,h⟩)
  |(go_at_call 136;refine(NW _ _ _<|by assumption).mono ?_;rintro e p⟨rfl,i⟩))
 go_ret2;refine⟨?_,((m.o.trans (Qb.of_below a)<|by simp).trans h<|by simp).trans i<|by simp⟩;have a:Vf kind gen c d=b++Xd 4 (Yt b).toNat:=by
  have:[75,73,83,84]++([kind]++(Xd 8 gen++(Xd 4 c++(Xd 2 d.length++(d++Zb (489-d.length))))))=b:=by rw[←g.o,←l.o,Dz,n.o];simp only[QN]
  unfold Vf;rw[this]
 rw[a];rfl
