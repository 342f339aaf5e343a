import Derived.Test.YtickjpnkoppmgaaGreatDoorBe
set_option linter.all false
namespace Go.Proofs.YtickjpnkoppmgaaGreatDoor
open Go.Proofs.Tryz Go.RowKit K
def Eb(kind:UInt8)(gen c n:Nat):LU:=[75,73,83,84]++([kind]++(QK 8 gen++(QK 4 c++QK 2 n)))
def Qg7(kind gen c n):(⟨#[75,73,83,84]⟩:ByteArray)++⟨#[kind]⟩++str (QK 8 gen)++str (QK 4 c)++str (QK 2 n)=str (Eb kind gen c n):=by
 rw[<-Rp (_++_),Eb]
 congr 1
def Qg6(kind gen c n):(Eb kind gen c n).length=19:=by simp only[Eb,Qo,U7,QW,YE]
def PN:∀m,Lib.repeatL [0] m=Q3 m
 |0=>rfl
 |m+1=>by rw[Lib.repeatL,PN m];simp[Q3,JB]
set_option maxRecDepth 20000 in
set_option maxHeartbeats 40000000 in
def LA(kind)(gen h:Nat)(d w)(hk:kind≠0)(c:gen<=4611686018427387904)(hi:h<=2147483647)(c:d.length<=486):
 Calls prog 102 #[.int .u8 kind.toNat,gen,h,str d] w (RK (.tuple #[str<|Yn kind gen h d,(0:Int)]) w):=by
 have:Bf gen 8:=⟨ox,ox,ox,ox⟩;have n2:Bf h 4:=⟨ox,ox,ox,ox⟩;have:Bf d.length 2:=⟨ox,ox,ox,ox⟩;have:IntKind.u64.wrap (gen:Int)=gen:=by rw[J3];omega
 have:IntKind.u64.wrap (h:Int)=h:=by rw[J3];omega
 have:IntKind.u64.wrap (d.length:Int)=d.length:=by rw[J3];omega
 have:∀c:List UInt8,(str c).size=c.length:=fun _=>rfl
 have:∀k c,(QK k c).length=k:=U7;have:=fun j=>CN j kind
 have:∀j:World,(convert 88 9<|.slice (some ⟨j.heap.size,0,none⟩) 1 1).run prog (j.alloc<|.cells #[.int .u8 (kind.toNat:Int)] 5).drew=.ok (.string ⟨#[kind]⟩) (j.alloc<|.cells #[.int .u8 (kind.toNat:Int)] 5).drew:=fun j=>CN j.drew kind
 have:((kind.toNat:Int)==0)=false:=Ze.2 fun c=>hk<|DK.1 (by show kind.toNat=0;omega);have g1:decide ((gen:Int)<0)=false:=sx
 have:decide ((4611686018427387904:Int)<gen)=false:=zx
 have g3:decide ((h:Int)<0)=false:=sx
 have g4:decide ((2147483647:Int)<h)=false:=zx
 have:decide ((486:Int)<d.length)=false:=zx
 go_enter func102,ntmps102;go_wp2_with fail;have c:Qb [] w w:=Qc _ _
 go_cut [10]from 34 to 50 (fun g w'=>g=.string (str<|Eb kind gen h d.length)/\Hid (Qb [] w w'))
 ·go_region_with
   (first
   |(go_fit(PS _ _ _<|by assumption)
     rintro e m⟨rfl,g⟩
     first|(replace i:=g.cZ i sx)|(have i:=g.cZ (iQ _ (.int .u8 (kind.toNat:Int)) 5) sx)|(have i:=g.cZ (Qel _ (.int .u8 (kind.toNat:Int)) 5) sx)|skip
     first|have:=bY i|skip
     first|replace c:=c.trans g sx|replace c:=c.drew.trans g sx|replace c:=(c.alloc _).trans g sx|replace c:=(c.alloc _).drew.trans g sx|replace c:=(c.drew.alloc _).trans g sx
     clear g))
  all_goals
   go_wp2
   go_meet;refine⟨Qt Value.string<|Qg7 kind gen h d.length,Qa ?_⟩
   first|exact c|exact c.alloc _|exact(c.alloc _).drew|exact(c.drew).alloc _
 obtain⟨rfl,q⟩:=hcut;have⟨hh,m⟩:=qx<|Eb kind gen h d.length;have g:=Qg6 kind gen h d.length;rw[m]at g ⊢;have⟨i,o⟩:=qx<|489-d.length;have:(489:Int)-d.length=(i:Int):=ox
 have n:=Qa fun j=>Tryz.strRep ⟨#[0]⟩ i j ox (by show 1*i<=_;omega);rw[show(⟨#[0]⟩:ByteArray).data.toList=[0]from rfl,PN]at n;have:(Q3 i).length=i:=VY i;have⟨p,s⟩:=qb m o;have⟨g,l⟩:=qx<|hh++(d++Q3 i);have:g.length=508:=by rw[<-l];simp only[Qo,VY];omega
 have:str hh++(str d++⟨(Q3 i).toArray⟩)=str g:=by
  rw[<-Rp (_++_),<-l]
  congr 1
 have:¬9223372036854775807<d.length+i:=ox
 obtain⟨z2,z3⟩: ¬9223372036854775807<19+(d.length+i)/\¬9223372036854775807<508+4:=ox
 have i:=Qa fun j=>Oz (str g) j (by show g.length<=_;omega);have j:=Oy g;unfold Zi at j;have:Bf (YJ g) 4:=⟨j.1,ox,ox,ox⟩;have:IntKind.u64.wrap (YJ g)=YJ g:=by rw[J3];omega
 have j:=Qa l;rw[show(str g).data.toList=g from rfl]at i;go_wp2_with (first
  |(go_fit(n.o _);rintro e o⟨rfl,c⟩)
  |(go_fit(i.o _);rintro e t⟨rfl,l⟩)
  |(go_fit(PS _ _ _<|by assumption);rintro e u⟨rfl,m⟩))
 go_ret2;refine⟨?_,((q.o.trans (Qb.of_below c) sx).trans l sx).trans m sx⟩;have c:Yn kind gen h d=g++QK 4 (YJ g).toNat:=by
  have:[75,73,83,84]++([kind]++(QK 8 gen++(QK 4 h++(QK 2 d.length++(d++Q3 (489-d.length))))))=g:=by rw[<-j.o,<-p.o,Eb,s.o];simp only[QR]
  unfold Yn;rw[this]
 rw[c];rfl
