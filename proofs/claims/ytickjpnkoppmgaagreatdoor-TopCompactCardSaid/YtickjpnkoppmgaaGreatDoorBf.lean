import Derived.Test.YtickjpnkoppmgaaGreatDoorBe
set_option linter.all false
set_option maxHeartbeats 4000000
set_option maxRecDepth 20000
namespace Go.Proofs.YtickjpnkoppmgaaGreatDoor
open Go.Proofs.Tryz Go.RowKit K
def Wy{W}{g:Nat}{b}(a:W.cell? g=some (.int .u8 (b.toNat:Int))):(convert 88 9<|.slice g 1 1).run prog W=.ok (.string ⟨#[b]⟩) W:=
 iE W _ _ _ ⟨g,0,none⟩ 1 [b] Xb AE Yj (fun d c=>by
  have:d=0:=by simpa using c
  subst this;exact a)
def eO(W:WD)(x t):(W.alloc<|.cells #[x] t).cell? W=some x:=(Qy W [x] t).cell (i:=0) rfl
def Qb4(W:WD)(x t):(W.alloc<|.cells #[x] t).drew.cell? W=some x:=(Qy W [x] t).cell (i:=0) rfl
abbrev IS(x:LU):VL:=.agg #[str x,(0:Int)]
def Qim(n a:Nat)(w)(d:2≤a)(f:a≤20)(g:n<8^(a-1))(h:n<1000000000):
 Calls prog 195 #[n,a] w fun e w'=>e=.returned (IS<|Zc n a)∧Qb [] w w':=by
 have c:=Qa fun b=>eX n a b d f g h;go_enter func195,ntmps195;go_wp2_with (go_at_call 196;refine(c.o _).mono ?_;rintro e h⟨rfl,d⟩;have b:=(Qy w [.string ⟨#[]⟩,(0:Int)] 290).kept d (by simp);have c0:=b.cell (i:=0) (u:=.string ⟨#[]⟩) rfl;have c1:=b.cell (i:=1) (u:=.int .i64 0) rfl;have:=b.free 0;have:=b.free 1);have c:=(b.set 0<|.string<|str<|Zc n a).set 1 (0:Int);have b:=c.cell (i:=0) (u:=.string<|str<|Zc n a) rfl;have f:=c.cell (i:=1) (u:=.int .i64 0) rfl;refine Q5 (v:=IS<|Zc n a) (by simp[results,results195,go_sem,b,f]) rfl ⟨rfl,?_⟩;exact(((Qc [] w).alloc _).trans d fun a a=>.inl a).setCell (p:=w) (.inr<|Ql _) _|>.setCell (p:=⟨w.heap.size,1,none⟩) (.inr<|Ql _) _
def Qiq(s:BA)(a m w)(hs:s.size≤m)(b:m≤a)(hw:a≤512)(h0:Lib.indexByte s 0= -1):
 Calls prog 194 #[s,a,m] w fun e w'=>e=.returned (IS<|Zp s a)∧Qb [] w w':=by
 have c:=Qa fun b=>xE s a b (by omega) hw h0;have:¬(m:Int)<s.size:=by omega
 go_enter func194,ntmps194;go_wp2_with (go_at_call 243;refine(c.o _).mono ?_;rintro e h⟨rfl,d⟩;have b:=(Qy w [.string ⟨#[]⟩,(0:Int)] 290).kept d (by simp);have c0:=b.cell (i:=0) (u:=.string ⟨#[]⟩) rfl;have c1:=b.cell (i:=1) (u:=.int .i64 0) rfl;have:=b.free 0;have:=b.free 1);have c:=(b.set 0<|.string<|str<|Zp s a).set 1 (0:Int);have b:=c.cell (i:=0) (u:=.string<|str<|Zp s a) rfl;have f:=c.cell (i:=1) (u:=.int .i64 0) rfl;refine Q5 (v:=IS<|Zp s a) (by simp[results,results194,go_sem,b,f]) rfl ⟨rfl,?_⟩;exact(((Qc [] w).alloc _).trans d fun a a=>.inl a).setCell (p:=w) (.inr<|Ql _) _|>.setCell (p:=⟨w.heap.size,1,none⟩) (.inr<|Ql _) _
def Ye(w:WD)(b:Nat)(l:LU)(w':WD):Prop:=Lib.IsBuilder 115 5 w.heap.size b (Lib.byteCells l) w'∧Qb [] w w'
def Ye.kept{w w1 c b l}(a:Ye w b l w1)(hk:Qb [] w1 c):Ye w b l c:=by
 obtain⟨e,f⟩:=a;have hb:∀a,Lib.BuilderAt 115 5 w.heap.size b a (Lib.byteCells l) w1→Lib.BuilderAt 115 5 w.heap.size b a (Lib.byteCells l) c:=by
  rintro a⟨a,c,a2,a3,a4⟩;refine⟨a,c,hk.heap a2<|by simp,⟨a3.1,?_⟩,a4⟩;rcases a3.2 with a|⟨d,cap,c,h,g,hh,i⟩
  ·exact .inl a
  exact .inr ⟨d,cap,c,h,g,hk.heap hh<|by simp,i⟩
 exact⟨e.imp (hb _)<|hb _,f.trans hk fun a a=>.inl a⟩
def Ye.new(w):Ye w w.heap.size [] (w.alloc<|.cells #[.pointer none,.slice none 0 0] 115):=
 ⟨.inl ⟨Ql _,.slice none 0 0,Xf w _,⟨rfl,.inl ⟨rfl,rfl⟩⟩,by simp[qo]⟩,(Qc _ _).alloc _⟩
def Ye.write{w w1 b l}(a:Ye w b l w1)(s:BA)(c:l.length+s.size≤100000000):
 Calls prog 58 #[.pointer b,s] w1 fun e c=>e=.returned (.tuple #[s.size,.nilIface])∧Ye w b (l++s.data.toList) c:=by
 have d:(Lib.byteCells l).length=l.length:=by simp[Lib.byteCells]
 refine(Tryz.strWrite w.heap.size b (Lib.byteCells l) s w1 a.1 (by rw[d];omega) a.2.size).mono ?_;rintro e c⟨g,d,c⟩;have f:Lib.byteCells l++Lib.strCells s=Lib.byteCells (l++s.data.toList):=by simp[Lib.byteCells,Lib.strCells]
 rw[f]at d;exact⟨g,.inr d,⟨c.os.trans a.2.os,c.tape.trans a.2.tape,c.output.trans a.2.output,QS a.2.size c.size,fun d hk _=>(c.block d hk).trans<|a.2.block d hk<|by simp⟩⟩
def Ye.str{w w1 b l}(a:Ye w b l w1):
 Calls prog 60 #[.pointer b] w1 fun e c=>e=.returned (str l)∧Qb [] w c:=by
 refine(Tryz.strBuilt w.heap.size b l w1 a.1 a.2.size).mono ?_;rintro e c⟨d,c⟩;exact⟨d,⟨c.os.trans a.2.os,c.tape.trans a.2.tape,c.output.trans a.2.output,QS a.2.size c.size,fun d hk _=>(c.block d hk).trans<|a.2.block d hk<|by simp⟩⟩
def RB(xs:LY):LV:=xs.flatMap fun a=>[.string (str a),.int .i64 0]
def wU(xs):(RB xs).length=xs.length*2:=by
 induction xs with
 |nil=>rfl
 |cons x xs ih=>unfold RB at ih ⊢;rw[Jn,Qo,ih];simp;omega
def aG:∀(xs:LY)(i:Nat)(x:LU),xs[i]?=some x→(RB xs)[i*2]?=some (.string<|str x)∧(RB xs)[i*2+1]?=some (.int .i64 0)
 | [],i,x,h=>by simp at h
 |y::xs,0,x,h=>by simp at h;subst h;simp[RB]
 |y::xs,i+1,x,h=>by have a:=aG xs i x (by simpa using h);unfold RB at a ⊢;rw[Jn,show(i+1)*2=i*2+1+1 by omega];simpa using a
def cD(g n c:Nat)(xs w)(h:Qp w 2 g n (RB xs))(hl:xs.flatten.length≤100000)(hg:g<w.heap.size)(hn:n≤1000):
 Calls prog 193 #[.slice g n c] w fun e w'=>e=.returned (.tuple #[str xs.flatten,.bool true])∧Qb [] w w':=by
 have h9:xs.length=n:=by have:=h.1;rw[wU]at this;omega
 have⟨HC,h4,HL⟩:=qc (show ∀j x,xs[j]?=some x→w.cell? ⟨g,j*2,none⟩=some (.string<|str x)∧w.cell? ⟨g,j*2+1,none⟩=some (.int .i64 0)from fun j x y=>by obtain⟨h1,h2⟩:=aG xs j x y;obtain⟨b,off,o,c1⟩:=h.2 _ _ h1;obtain⟨b',x2,q,c2⟩:=h.2 _ _ h2;injection o with o;injection o with o e3;injection q with q;injection q with q e4;subst o q e3 e4;rw[ZE]at c1 c2;exact⟨c1,c2⟩) h9 hl;go_enter func193,ntmps193
 go_wp2
 go_loopg [6,9] n (fun k x6 x9 wr=>(∃i:Nat,i≤n∧k=n-i∧x9=.int .i64 (i:Nat)∧Hid (Ye w w.heap.size (xs.take i).flatten wr)))
 ·exact⟨0,by omega,rfl,rfl,Qa<|Ye.new w⟩
 obtain⟨i,hi,hk,rfl,HB⟩:=hrel
 by_cases hlt:i<n
 ·have g0:(i:Int)<n:=by omega
  have⟨x,y⟩:=qy xs i (by have:=h4.o;omega);obtain⟨c0,c1⟩:=HC.o i x y;have d0:wr.cell? ⟨g,i*2,none⟩=some (.string<|str x):=HB.o.2.cZ c0 (by simp);have d1:wr.cell? ⟨g,i*2+1,none⟩=some (.int .i64 0):=HB.o.2.cZ c1 (by simp);have h5:=(Qc [] wr).alloc<|.cells #[.string<|str x,(0:Int)] 290;have h3:(xs.take<|i+1).flatten=(xs.take i).flatten++x:=by rw[Zt,y];simp
  have h8:(xs.take i).flatten.length+(str x).size≤100000000:=by
   have:(xs.take<|i+1).flatten.length≤xs.flatten.length:=by
    conv=>rhs;rw[←V6 (i+1) xs,List.flatten_append,Qo]
    omega
   rw[h3,Qo]at this;have:=HL.o;rw[BP];omega
  have⟨HW,HT⟩:=qb ((HB.o.kept h5).write (str x) h8) h3;go_wp2_with (go_at_call 58;refine HW.o.mono ?_;rintro e w2⟨rfl,x0⟩)
  go_roundg (n-(i+1))
  ·exact⟨i+1,by omega,rfl,by go_num,Qa<|by rwa[HT.o]⟩
  omega
 obtain rfl:i=n:=by omega
 have g0:¬(i:Int)<i:=by omega
 have HS:=Qa HB.o.str;go_wp2_with (go_at_call 60;refine HS.o.mono ?_;rintro e w2⟨rfl,x1⟩);go_ret2;refine⟨?_,x1⟩;rw[Q8 (by rw[h4.o];exact Ql _)];rfl
def K.TD:∀(k n i:Nat),i<k→(Xc k n)[i]?=some (UInt8.ofNat<|n/256^(k-1-i))
 |0,n,i,h=>by omega
 |k+1,n,0,h=>by rw[Xc,List.getElem?_cons_zero,show k+1-1-0=k by omega]
 |k+1,n,i+1,h=>by rw[Xc,V3,TD k n i<|by omega,show k+1-1-(i+1)=k-1-i by omega]
def VB(a n i:Nat):LU:=(Xc a n).take i++Ze (a-i)
def VB.next(a n i)(d:i<a):(Qm<|VB a n i).set i (.int .u8 ((n/256^(a-1-i)%256:Nat):Int))=Qm (VB a n<|i+1):=by
 have c:Value.int .u8 ((n/256^(a-1-i)%256:Nat):Int)=(fun b:UInt8=>Value.int .u8 (b.toNat:Int)) (UInt8.ofNat<|n/256^(a-1-i)):=by show _=Value.int .u8 _;rw[U7]
 have e:((Xc a n).take i).length=i:=by rw[Zl,Bu];omega
 unfold Qm;rw[c,←Bp]
 congr 1
 unfold VB;obtain⟨b,c⟩:∃b,a-i=b+1:=⟨a-i-1,by omega⟩;rw[c,show a-(i+1)=b by omega,VF _ _<|by omega,e,ZO,Zt,TD a n i d];simp[Ze,Y8]
def Qe6(n h:Nat)(w)(h1:1≤h)(h8:h≤8)(hn:n<2^63):
 Calls prog 136 #[.int .u64 n,h] w fun e w'=>e=.returned (str<|Xc h n)∧Qb [] w w':=by
 go_enter func136,ntmps136;go_wp2_with ((at_make;refine YZ rfl _ _ 88 rfl 5 (.int .u8 0) 1 Xb YQ rfl .i64 .i64 _ _ h h rfl rfl rfl rfl (Ql _) (by omega) (by simp only[maxLen];omega) ?_;intro w1 h4 h2));have x0:=Qa (show Qh w1 5 (.slice w.heap.size h h) (Qm<|VB h n 0)from by
  have:Qm (VB h n 0)=List.replicate h (.int .u8 0):=by simp[VB,Qm,Ze]
  rwa[this])
 have h5:=Qa h2
 go_loopg [6,11] h (fun k x6 x1 wr=>(∃i:Nat,i≤h∧k=h-i∧x1=.int .i64 (i:Nat)∧Hid (Qh wr 5 (.slice w.heap.size h h)<|Qm<|VB h n i))∧Hid (Qb [] w wr))
 ·exact⟨⟨0,by omega,by omega,rfl,x0⟩,h5⟩
 obtain⟨⟨i,hi,hk,rfl,o⟩,q⟩:=hrel
 by_cases hlt:i<h
 ·obtain⟨j,y⟩:∃j:Nat,h-1-i=j:=⟨_,rfl⟩;obtain⟨g0,g1⟩:(i:Int)<h∧8*((h:Int)-1-(i:Int))=((8*j:Nat):Int):=by omega
  have g2:(n:Int)/2^(8*j)=((n/256^j:Nat):Int):=by rw[show(256:Nat)=2^8 from rfl,←Nat.pow_mul];push_cast;rfl
  have g3:IntKind.u8.wrap ((n/256^j:Nat):Int)=((n/256^j%256:Nat):Int):=by rw[CN];omega
  obtain⟨u,hu⟩:∃u,(Qm<|VB h n i)[i]?=some u:=⟨_,Qj (by have:=o.o.len;omega)⟩;have hc:=o.o.aZ hu;have hf:=o.o.free i;have⟨h9,HJ⟩:=qb (VB.next h n i hlt) y
  go_wp2
  go_roundg (h-(i+1))
  ·have hp:=o.o.put i<|.int .u8 ((n/256^j%256:Nat):Int);have h3:=h9.o;rw[HJ.o]at h3;rw[h3]at hp;exact⟨⟨i+1,by omega,rfl,by go_num,Qa<|by simpa using hp⟩,Qa<|q.o.setCell (p:=⟨w.heap.size,i,none⟩) (.inr<|Ql _) _⟩
  omega
 obtain rfl:i=h:=by omega
 have ht:=Qh.text o.o
 go_wp2
 go_ret;refine⟨?_,q.o⟩;have:VB i n i=Xc i n:=by unfold VB;rw[Q8 (by rw[Bu];exact Ql _),ZO];simp[Ze]
 rw[this];rfl
def Vd(m:RM):VL:=.agg #[str m.path,m.start,m.eZ,m.size,.int .u32 m.sum]
structure RZ(m:RM):Prop where
 ok:Yp m.path=true
 st:30≤m.start∧1≤m.eZ∧m.start+m.eZ≤4096
 sz:0≤m.size∧m.size≤8192
 sm:0≤m.sum∧m.sum<4294967296
def gC(m w)(b:RZ m):Calls prog 71 #[Vd m] w fun e w'=>e=.returned (0:Int)∧Qb [] w w':=by
 obtain⟨a,⟨c,c,c⟩,⟨c,h6⟩,h7,c⟩:=b;have hp:=(YK a).2;have c:Un m.path=0:=by unfold Un;rw[a];rfl
 have b:=Qa (fun d=>FE (str m.path) d (by have:(str m.path).size=m.path.length:=rfl
                                          omega))
 rw[show(str m.path).data.toList=m.path from rfl,c]at b;have d:=Qa<|Qy w [str m.path,m.start,m.eZ,m.size,.int .u32 m.sum] 69;have g1:decide (m.start<30)=false:=by simp;omega
 have:decide (m.eZ<1)=false:=by simp;omega
 have g3:decide (4096<m.eZ)=false:=by simp;omega
 have g4:decide (4096-m.eZ<m.start)=false:=by simp;omega
 have:decide (m.size<0)=false:=by simp;omega
 have:decide (8192<m.size)=false:=by simp;omega
 unfold Vd;go_enter func71,ntmps71;go_wp2_with (go_at_call 17;refine(b.o _).mono ?_;rintro e f⟨rfl,c⟩;have a:=d.o.kept c (by simp);have c1:=a.cell (i:=1) (u:=.int .i64 m.start) rfl;have c2:=a.cell (i:=2) (u:=.int .i64 m.eZ) rfl;have c3:=a.cell (i:=3) (u:=.int .i64 m.size) rfl);go_ret;exact⟨rfl,((Qc [] w).alloc _).trans c<|by simp⟩
def AB(x a:Int):Prop:=0≤x∧x<9223372036854775808∧1≤a∧a≤8
def OD(x a W)(b:AB x a):Calls prog 136 #[.int .u64 x,a] W fun e w'=>e=.returned (str<|Xc a.toNat x.toNat)∧Qb [] W w':=by obtain⟨c,d,d,d⟩:=b;have:=Qe6 x.toNat a.toNat W (by omega) (by omega) (by omega);rwa[Rs c,Rs<|by omega]at this
def gV(m w)(h:RZ m):Calls prog 108 #[Vd m] w fun e w'=>e=.returned (.tuple #[str<|JS m,(0:Int)])∧Qb [] w w':=by
 have HC:=Qa fun W=>gC m W h;obtain⟨h1,⟨h2,h3,h4⟩,⟨h5,h6⟩,h7,h8⟩:=h;have hp:=(YK h1).2.2;have n1:AB m.path.length 1:=⟨by omega,by omega,by omega,by omega⟩;have n2:AB m.start 2:=⟨by omega,by omega,by omega,by omega⟩;have n3:AB m.eZ 2:=⟨by omega,by omega,by omega,by omega⟩;have n4:AB m.size 2:=⟨by omega,by omega,by omega,by omega⟩;have n5:AB m.sum 4:=⟨by omega,by omega,by omega,by omega⟩;have y:=Qa<|Qy w [str m.path,m.start,m.eZ,m.size,.int .u32 m.sum] 69;have w0:IntKind.u64.wrap (m.path.length:Int)=m.path.length:=by rw[JH];omega
 have w1:IntKind.u64.wrap m.start=m.start:=by rw[JH];omega
 have w2:IntKind.u64.wrap m.eZ=m.eZ:=by rw[JH];omega
 have w3:IntKind.u64.wrap m.size=m.size:=by rw[JH];omega
 have w4:IntKind.u64.wrap m.sum=m.sum:=by rw[JH];omega
 have x4:∀l:List UInt8,(str l).size=l.length:=fun _=>rfl
 have x3:∀k n,(Xc k n).length=k:=Bu;obtain⟨z1,z2,z3,z4,z5⟩: ¬9223372036854775807<1+m.path.length∧¬9223372036854775807<1+m.path.length+2∧¬9223372036854775807<1+m.path.length+2+2∧¬9223372036854775807<1+m.path.length+2+2+2∧¬9223372036854775807<1+m.path.length+2+2+2+4:=by omega
 have x2:=Qa h1;unfold Vd at HC ⊢;go_enter func108,ntmps108;have b0:=y.o.cell (i:=0) (u:=.string<|str m.path) rfl;have b1:=y.o.cell (i:=1) (u:=.int .i64 m.start) rfl;have b2:=y.o.cell (i:=2) (u:=.int .i64 m.eZ) rfl;have b3:=y.o.cell (i:=3) (u:=.int .i64 m.size) rfl;have b4:=y.o.cell (i:=4) (u:=.int .u32 m.sum) rfl;go_wp2_with (go_at_call 71;refine(HC.o _).mono ?_;rintro e w5⟨rfl,x0⟩);have q:=y.o.kept x0 (by simp);have h9:Qb [] w5 w5:=Qc _ _;have x1:=Qa (((Qc [] w).alloc _).trans x0<|by simp);have e1:=q.cell (i:=0) (u:=.string<|str m.path) rfl;have e2:=q.cell (i:=1) (u:=.int .i64 m.start) rfl;have e3:=q.cell (i:=2) (u:=.int .i64 m.eZ) rfl;have e4:=q.cell (i:=3) (u:=.int .i64 m.size) rfl;have e5:=q.cell (i:=4) (u:=.int .u32 m.sum) rfl
 go_region_held3 (fun w'=>w'.cell? ⟨w.heap.size,0,none⟩=some (.string<|str m.path)∧w'.cell? ⟨w.heap.size,1,none⟩=some (.int .i64 m.start)∧w'.cell? ⟨w.heap.size,2,none⟩=some (.int .i64 m.eZ)∧w'.cell? ⟨w.heap.size,3,none⟩=some (.int .i64 m.size)∧w'.cell? ⟨w.heap.size,4,none⟩=some (.int .u32 m.sum))
  (first|exact⟨e1,e2,e3,e4,e5⟩|go_keep)
  (first
    |(go_at_call 136;refine(OD _ _ _<|by assumption).mono ?_
      rintro e w9⟨rfl,o⟩;first|replace h9:=h9.trans o (by simp)|replace h9:=h9.drew.trans o (by simp)
      replace e1:=o.cZ e1 (by simp);replace e2:=o.cZ e2 (by simp);replace e3:=o.cZ e3 (by simp);replace e4:=o.cZ e4 (by simp);replace e5:=o.cZ e5 (by simp)))
 go_wp2
 go_ret2;refine⟨?_,x1.o.trans h9<|by simp⟩;have:str (Xc 1 m.path.length)++str m.path++str (Xc 2 m.start.toNat)++str (Xc 2 m.eZ.toNat)++str (Xc 2 m.size.toNat)++str (Xc 4 m.sum.toNat)=str (JS m):=by
  rw[←VY (_++_),JS]
  congr 1
  simp[str]
 rw[←this];rfl
