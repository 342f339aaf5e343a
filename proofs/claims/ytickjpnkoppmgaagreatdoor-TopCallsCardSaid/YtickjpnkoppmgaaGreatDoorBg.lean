import Derived.Test.YtickjpnkoppmgaaGreatDoorBf
set_option linter.all false
set_option maxHeartbeats 4000000
set_option maxRecDepth 20000
namespace Go.Proofs.YtickjpnkoppmgaaGreatDoor
open Go.Proofs.Tryz Go.RowKit K
def qW(x:Nat)(a:x<2^62):bits .and .i64 (x:Int) 7=((x%8:Nat):Int):=by have:=bits_mask .i64 62 (by decide) wraps_i64' 3 (by decide) (x:Int) (by omega) (by exact_mod_cast a);rw[show(2:Int)^3-1=7 from rfl,show(2:Int)^3=8 from rfl]at this;rw[this];omega
def Vr(n a:Nat)(t:Nat):List UInt8:=Zb (a-1-t)++(UY t n++[0])
def Vr.next(n b t)(c:t<b-1):(Qm<|Vr n b t).set (b-2-t) (.int .u8 ((48+n/8^t%8:Nat):Int))=Qm (Vr n b<|t+1):=by
 have d:n/8^t%8<8:=JF _ (by decide);have e:Value.int .u8 ((48+n/8^t%8:Nat):Int)=(fun c:UInt8=>Value.int .u8 (c.toNat:Int)) (UInt8.ofNat<|48+n/8^t%8):=by show _=Value.int .u8 _;rw[US,XQ (a:=48+n/8^t%8) (b:=2^8)<|by omega]
 unfold Qm;rw[e,←Bj]
 congr 1
 unfold Vr;obtain⟨c,d⟩:∃c,b-1-t=c+1:=⟨b-2-t,by omega⟩;rw[d,show b-2-t=c by omega,show b-1-(t+1)=c by omega,UY,Lh _ _ (by rw[Vk];omega)];have:(Zb<|c+1).set c (UInt8.ofNat<|48+n/8^t%8)=Zb c++[UInt8.ofNat<|48+n/8^t%8]:=by unfold Zb;rw[Fm,Vo _ _<|by simp];simp
 rw[this];simp
def eO(n a:Nat)(w)(b:2≤a)(b:a≤20)(c:n<8^(a-1))(i:n<1000000000):
 Calls prog 196 #[n,a] w fun e w'=>e=.returned (.tuple #[str<|Za n a,(0:Int)])∧Qb [] w w':=by
 have g1:¬(a:Int)<2:=by omega
 have:¬(20:Int)<a:=by omega
 have g3:¬(n:Int)<0:=by omega
 have g4:(n:Int)/2^(3*(a-1))=0:=by
  refine Int.ediv_eq_zero_of_lt (by omega) ?_;have:(2:Nat)^(3*(a-1))=8^(a-1):=by rw[Nat.pow_mul]
  have b:n<2^(3*(a-1)):=by rwa[this]
  exact_mod_cast b
 go_enter func196,ntmps196;go_wp2_with ((at_make;refine Y0 rfl _ _ 88 rfl 5 (.int .u8 0) 1 ZW YL rfl .i64 .i64 _ _ a a rfl rfl rfl rfl (Ql _) (by omega) (by simp only[maxLen];omega) ?_;intro f d b));have c:Qh f 5 (.slice w.heap.size a a) (Qm<|Vr n a 0):=by
  have:Qm (Vr n a 0)=List.replicate a (.int .u8 0):=by unfold Vr UY Qm Zb;rw[Yv,←Fm,show a-1-0+1=a by omega,GS];rfl
  rwa[this]
 have⟨g,f⟩:=qb c b
 go_loopg [0,7] (a-1) (fun c d h wr=>(∃b:Nat,b≤a-1∧c=a-1-b∧d=.int .i64 ((n/8^b:Nat):Int)∧h=.int .i64 ((a:Int)-2-b)∧Hid (Qh wr 5 (.slice w.heap.size a a)<|Qm<|Vr n a b))∧Hid (Qb [] w wr))
 ·exact⟨⟨0,by omega,by omega,by simp,by simp,g⟩,f⟩
 obtain⟨⟨b,k,hk,rfl,rfl,f⟩,h⟩:=hrel
 by_cases hlt:b<a-1
 ·have⟨c,g⟩:=qx<|n/8^b;have:c<1000000000:=by rw[←g];exact GX (DY _ _) i
  obtain⟨d,hi⟩:∃d:Nat,a-2-b=d:=⟨_,rfl⟩;have i:(a:Int)-2-b=(d:Int):=by omega
  rw[g,i];have:c%8<8:=JF _ (by decide);have:=qW c (by omega);have:IntKind.u8.wrap (48+((c%8:Nat):Int))=48+((c%8:Nat):Int):=by rw[CM];omega
  have:(c:Int)/2^3=((c/8:Nat):Int):=by omega
  have:(0:Int)≤d:=by omega
  obtain⟨j,i⟩:∃j,(Qm<|Vr n a b)[d]?=some j:=⟨_,Qj (by have:=f.o.len;omega)⟩;have:=f.o.aZ i;have hf:=f.o.free d;have j:=Qa<|Vr.next n a b hlt
  go_wp2
  go_roundg (a-1-(b+1))
  ·have i:=j.o;rw[hi,g]at i;have hp:=f.o.put d<|.int .u8<|48+((c%8:Nat):Int);rw[show(48+((c%8:Nat):Int))=((48+c%8:Nat):Int)by push_cast;rfl,i]at hp;refine⟨⟨b+1,by omega,rfl,?_,?_,Qa ?_⟩,Qa<|h.o.setCell (p:=⟨w.heap.size,d,none⟩) (.inr<|Ql _) _⟩
   ·rw[JX,←PK,g];push_cast;rfl
   ·congr 1;omega
   exact hp
  omega
 obtain rfl:b=a-1:=by omega
 have:¬(0:Int)≤a-2-((a-1:Nat):Int):=by omega
 have k:=Qh.text f.o
 go_wp2
 go_ret2;refine⟨?_,h.o⟩;have:Vr n a (a-1)=Za n a:=by unfold Vr Za;rw[ZM];rfl
 rw[this];rfl
def wS(s:ByteArray)(a w)(hs:s.size≤a)(hw:a≤512)(h0:Lib.indexByte s.data.toList 0= -1):
 Calls prog 243 #[s,a] w fun e w'=>e=.returned (.tuple #[str<|Zp s.data.toList a,(0:Int)])∧Qb [] w w':=by
 have g1:¬(a:Int)<0:=by omega
 have:¬(512:Int)<a:=by omega
 have g3:¬(a:Int)<s.size:=by omega
 have c:=Qa<|Tryz.strByte s 0 w;obtain⟨b,d⟩:∃b:Nat,a=s.size+b:=⟨a-s.size,by omega⟩;have:(a:Int)-s.size=(b:Int):=by omega
 have f:=Qa d;clear d;rw[show((0:Int).toNat.toUInt8)=(0:UInt8)from rfl,h0]at c;have:¬9223372036854775807<s.size+(Zb b).length:=by rw[Vk];omega
 go_enter func243,ntmps243;go_wp2_with (first
  |(go_at_call 192;refine c.o.mono ?_;rintro e i⟨rfl,rfl⟩)
  |(at_make;refine Y0 rfl _ _ 88 rfl 5 (.int .u8 0) 1 ZW YL rfl .i64 .i64 _ _ b b rfl rfl rfl rfl (Ql _) (by omega) (by simp only[maxLen];omega) ?_;intro j g d;have:=Qh.text (l:=Zb b) (by rw[show Qm (Zb b)=List.replicate b (.int .u8 0)by simp[Qm,Zb]];exact g)))
 go_ret2;refine⟨?_,d⟩;have:s++(⟨(Zb b).toArray⟩:ByteArray)=str (Zp s.data.toList a):=by
  rw[←VH (s++_),Zp,Zm,show a-s.size=b by have:=f.o;omega]
  congr 1
 rw[←this];rfl
def aB(s:ByteArray)(w)(hs:s.size=512):Calls prog 177 #[s] w fun e w'=>e=.returned (.tuple #[.int .i64<|UJ s.data.toList 512,(0:Int)])∧Qb [] w w':=by
 have:=Qa<|Zm s;go_enter func177,ntmps177
 go_wp2
 go_loopg [4,5,11] 512 (fun b d a c wr=>(∃a:Nat,a≤512∧b=512-a∧d=.int .i64 (UJ s.data.toList a:Nat)∧c=.int .i64 (a:Nat))∧Hid (Qb [] w wr))
 ·exact⟨⟨0,by omega,rfl,rfl,rfl⟩,Qa<|Qc _ _⟩
 obtain⟨⟨a,hi,hk,rfl,rfl⟩,b⟩:=hrel;have d:=Kw s.data.toList a
 by_cases hlt:a<512
 ·have⟨g,c⟩:=qx<|UJ s.data.toList a;rw[c]at d ⊢;have m:(a:Int)<512:=by omega
  have d:UJ s.data.toList (a+1)=g+if 148≤a∧a<156 then 32 else(s.data.toList.getD a 0).toNat:=by rw[UJ,c]
  have i:=Qa d
  by_cases d:148≤a∧a<156
  ·obtain⟨g1,n⟩:(148:Int)≤a∧(a:Int)<156:=(by omega);have h:=Qa d
   go_wp2
   go_roundg (512-(a+1))
   ·refine⟨⟨a+1,by omega,rfl,?_,by go_num⟩,b⟩;rw[i.o,Qg h.o];go_num
   omega
  have i0:=Ui s a (a:Int) (by omega) rfl;have hb:=Ch s a (by omega);have⟨c,f⟩:=qx<|s[a]'(by omega);rw[f]at i0 hb;have:c.toNat<256:=c.toNat_lt;have⟨l,h⟩:=qb hb d;have k:∀j,Qb [] w j→∃f:Nat,f≤512∧512-(a+1)=512-f∧(.int .i64 ((g:Int)+c.toNat):Value)=.int .i64 (UJ s.data.toList f:Nat)∧(.int .i64 ((a:Int)+1):Value)=.int .i64 (f:Nat):=fun j _=>
   ⟨a+1,by omega,rfl,by rw[i.o,Qe h.o,l.o];go_num,by go_num⟩
  have c:=Qa k
  by_cases f:148≤a
  ·obtain⟨g1,n⟩:(148:Int)≤a∧¬(a:Int)<156:=by omega
   go_wp2
   go_roundg (512-(a+1))
   ·exact⟨c.o _ b.o,b⟩
   omega
  have g1:¬(148:Int)≤a:=by omega
  go_wp2
  go_roundg (512-(a+1))
  ·exact⟨c.o _ b.o,b⟩
  omega
 obtain rfl:a=512:=by omega
 have m:¬((512:Nat):Int)<512:=by omega
 go_wp2
 go_ret2;exact⟨rfl,b.o⟩
def Ws{W}{g:Nat}{b}(a:W.cell? ⟨g,0,none⟩=some (.int .u8 (b.toNat:Int))):(convert 88 9<|.slice g 1 1).run prog W=.ok (.string ⟨#[b]⟩) W:=
 gU W _ _ _ ⟨g,0,none⟩ 1 [b] ZW Uu Xc (fun d c=>by
  have:d=0:=by simpa using c
  subst this;exact a)
def eG(W:World)(x t):(W.alloc<|.cells #[x] t).cell? ⟨W.heap.size,0,none⟩=some x:=(Qx W [x] t).cell (i:=0) rfl
def Qbj(W:World)(x t):(W.alloc<|.cells #[x] t).drew.cell? ⟨W.heap.size,0,none⟩=some x:=(Qx W [x] t).cell (i:=0) rfl
abbrev Iy(x:List UInt8):Value:=.agg #[str x,(0:Int)]
def Qhv(n a:Nat)(w)(d:2≤a)(f:a≤20)(g:n<8^(a-1))(h:n<1000000000):
 Calls prog 195 #[n,a] w fun e w'=>e=.returned (Iy<|Za n a)∧Qb [] w w':=by
 have c:=Qa fun b=>eO n a b d f g h;go_enter func195,ntmps195;go_wp2_with (go_at_call 196;refine(c.o _).mono ?_;rintro e h⟨rfl,d⟩;have b:=(Qx w [.string ⟨#[]⟩,(0:Int)] 290).kept d (by simp);have c0:=b.cell (i:=0) (u:=.string ⟨#[]⟩) rfl;have c1:=b.cell (i:=1) (u:=.int .i64 0) rfl;have:=b.free 0;have:=b.free 1);have c:=(b.set 0<|.string<|str<|Za n a).set 1 (0:Int);have b:=c.cell (i:=0) (u:=.string<|str<|Za n a) rfl;have f:=c.cell (i:=1) (u:=.int .i64 0) rfl;refine Q9 (v:=Iy<|Za n a) (by simp[results,results195,go_sem,b,f]) rfl ⟨rfl,?_⟩;exact(((Qc [] w).alloc _).trans d fun a a=>.inl a).setCell (p:=⟨w.heap.size,0,none⟩) (.inr<|Ql _) _|>.setCell (p:=⟨w.heap.size,1,none⟩) (.inr<|Ql _) _
def Qhz(s:ByteArray)(a m w)(hs:s.size≤m)(b:m≤a)(hw:a≤512)(h0:Lib.indexByte s.data.toList 0= -1):
 Calls prog 194 #[s,a,m] w fun e w'=>e=.returned (Iy<|Zp s.data.toList a)∧Qb [] w w':=by
 have c:=Qa fun b=>wS s a b (by omega) hw h0;have:¬(m:Int)<s.size:=by omega
 go_enter func194,ntmps194;go_wp2_with (go_at_call 243;refine(c.o _).mono ?_;rintro e h⟨rfl,d⟩;have b:=(Qx w [.string ⟨#[]⟩,(0:Int)] 290).kept d (by simp);have c0:=b.cell (i:=0) (u:=.string ⟨#[]⟩) rfl;have c1:=b.cell (i:=1) (u:=.int .i64 0) rfl;have:=b.free 0;have:=b.free 1);have c:=(b.set 0<|.string<|str<|Zp s.data.toList a).set 1 (0:Int);have b:=c.cell (i:=0) (u:=.string<|str<|Zp s.data.toList a) rfl;have f:=c.cell (i:=1) (u:=.int .i64 0) rfl;refine Q9 (v:=Iy<|Zp s.data.toList a) (by simp[results,results194,go_sem,b,f]) rfl ⟨rfl,?_⟩;exact(((Qc [] w).alloc _).trans d fun a a=>.inl a).setCell (p:=⟨w.heap.size,0,none⟩) (.inr<|Ql _) _|>.setCell (p:=⟨w.heap.size,1,none⟩) (.inr<|Ql _) _
def Ye(w:World)(b:Nat)(l:List UInt8)(w':World):Prop:=Lib.IsBuilder 115 5 w.heap.size b (Lib.byteCells l) w'∧Qb [] w w'
def Ye.kept{w w1 c b l}(a:Ye w b l w1)(hk:Qb [] w1 c):Ye w b l c:=by
 obtain⟨e,f⟩:=a;have hb:∀a,Lib.BuilderAt 115 5 w.heap.size b a (Lib.byteCells l) w1→Lib.BuilderAt 115 5 w.heap.size b a (Lib.byteCells l) c:=by
  rintro a⟨a,c,a2,a3,a4⟩;refine⟨a,c,hk.heap a2<|by simp,⟨a3.1,?_⟩,a4⟩;rcases a3.2 with a|⟨d,cap,c,h,g,hh,i⟩
  ·exact .inl a
  exact .inr ⟨d,cap,c,h,g,hk.heap hh<|by simp,i⟩
 exact⟨e.imp (hb _)<|hb _,f.trans hk fun a a=>.inl a⟩
def Ye.new(w):Ye w w.heap.size [] (w.alloc<|.cells #[.pointer none,.slice none 0 0] 115):=
 ⟨.inl ⟨Ql _,.slice none 0 0,Xe w _,⟨rfl,.inl ⟨rfl,rfl⟩⟩,by simp[qo]⟩,(Qc _ _).alloc _⟩
def Ye.write{w w1 b l}(a:Ye w b l w1)(s:ByteArray)(c:l.length+s.size≤100000000):
 Calls prog 58 #[.pointer b,s] w1 fun e c=>e=.returned (.tuple #[s.size,.nilIface])∧Ye w b (l++s.data.toList) c:=by
 have d:(Lib.byteCells l).length=l.length:=by simp[Lib.byteCells]
 refine(Tryz.strWrite w.heap.size b (Lib.byteCells l) s w1 a.1 (by rw[d];omega) a.2.size).mono ?_;rintro e c⟨g,d,c⟩;have f:Lib.byteCells l++Lib.strCells s=Lib.byteCells (l++s.data.toList):=by simp[Lib.byteCells,Lib.strCells]
 rw[f]at d;exact⟨g,.inr d,⟨c.os.trans a.2.os,c.tape.trans a.2.tape,c.output.trans a.2.output,QU a.2.size c.size,fun d hk _=>(c.block d hk).trans<|a.2.block d hk<|by simp⟩⟩
def Ye.str{w w1 b l}(a:Ye w b l w1):
 Calls prog 60 #[.pointer b] w1 fun e c=>e=.returned (str l)∧Qb [] w c:=by
 refine(Tryz.strBuilt w.heap.size b l w1 a.1 a.2.size).mono ?_;rintro e c⟨d,c⟩;exact⟨d,⟨c.os.trans a.2.os,c.tape.trans a.2.tape,c.output.trans a.2.output,QU a.2.size c.size,fun d hk _=>(c.block d hk).trans<|a.2.block d hk<|by simp⟩⟩
def Rv(xs:List (List UInt8)):List Value:=xs.flatMap fun a=>[.string (str a),.int .i64 0]
def wI(xs):(Rv xs).length=xs.length*2:=by
 induction xs with
 |nil=>rfl
 |cons x xs ih=>unfold Rv at ih ⊢;rw[Ji,Qo,ih];simp;omega
def WW:∀(xs:List (List UInt8))(i:Nat)(x:List UInt8),xs[i]?=some x→(Rv xs)[i*2]?=some (.string<|str x)∧(Rv xs)[i*2+1]?=some (.int .i64 0)
 | [],i,x,h=>by simp at h
 |y::xs,0,x,h=>by simp at h;subst h;simp[Rv]
 |y::xs,i+1,x,h=>by have a:=WW xs i x (by simpa using h);unfold Rv at a ⊢;rw[Ji,show(i+1)*2=i*2+1+1 by omega];simpa using a
def bQ(g n c:Nat)(xs w)(h:Qn w 2 g n (Rv xs))(hl:xs.flatten.length≤100000)(hg:g<w.heap.size)(hn:n≤1000):
 Calls prog 193 #[.slice g n c] w fun e w'=>e=.returned (.tuple #[str xs.flatten,.bool true])∧Qb [] w w':=by
 have h9:xs.length=n:=by have:=h.1;rw[wI]at this;omega
 have⟨HC,h4,HL⟩:=qc (show ∀j x,xs[j]?=some x→w.cell? ⟨g,j*2,none⟩=some (.string<|str x)∧w.cell? ⟨g,j*2+1,none⟩=some (.int .i64 0)from fun j x y=>by obtain⟨h1,h2⟩:=WW xs j x y;obtain⟨b,x2,o,c1⟩:=h.2 _ _ h1;obtain⟨b',x3,q,c2⟩:=h.2 _ _ h2;injection o with o;injection o with o e3;injection q with q;injection q with q e4;subst o q e3 e4;rw[Zz]at c1 c2;exact⟨c1,c2⟩) h9 hl;go_enter func193,ntmps193
 go_wp2
 go_loopg [6,9] n (fun k x6 x9 wr=>(∃i:Nat,i≤n∧k=n-i∧x9=.int .i64 (i:Nat)∧Hid (Ye w w.heap.size (xs.take i).flatten wr)))
 ·exact⟨0,by omega,rfl,rfl,Qa<|Ye.new w⟩
 obtain⟨i,hi,hk,rfl,HB⟩:=hrel
 by_cases hlt:i<n
 ·have g0:(i:Int)<n:=by omega
  have⟨x,y⟩:=qy xs i (by have:=h4.o;omega);obtain⟨c0,c1⟩:=HC.o i x y;have d0:wr.cell? ⟨g,i*2,none⟩=some (.string<|str x):=HB.o.2.cZ c0 (by simp);have d1:wr.cell? ⟨g,i*2+1,none⟩=some (.int .i64 0):=HB.o.2.cZ c1 (by simp);have h5:=(Qc [] wr).alloc<|.cells #[.string<|str x,(0:Int)] 290;have h3:(xs.take<|i+1).flatten=(xs.take i).flatten++x:=by rw[ZE,y];simp
  have h8:(xs.take i).flatten.length+(str x).size≤100000000:=by
   have:(xs.take<|i+1).flatten.length≤xs.flatten.length:=by
    conv=>rhs;rw[←VP (i+1) xs,List.flatten_append,Qo]
    omega
   rw[h3,Qo]at this;have:=HL.o;rw[BL];omega
  have⟨HW,HT⟩:=qb ((HB.o.kept h5).write (str x) h8) h3;go_wp2_with (go_at_call 58;refine HW.o.mono ?_;rintro e w2⟨rfl,x0⟩)
  go_roundg (n-(i+1))
  ·exact⟨i+1,by omega,rfl,by go_num,Qa<|by rwa[HT.o]⟩
  omega
 obtain rfl:i=n:=by omega
 have g0:¬(i:Int)<i:=by omega
 have HS:=Qa HB.o.str;go_wp2_with (go_at_call 60;refine HS.o.mono ?_;rintro e w2⟨rfl,x1⟩);go_ret2;refine⟨?_,x1⟩;rw[Zd (by rw[h4.o];exact Ql _)];rfl
def K.Tt:∀(k n i:Nat),i<k→(Xd k n)[i]?=some (UInt8.ofNat<|n/256^(k-1-i))
 |0,n,i,h=>by omega
 |k+1,n,0,h=>by rw[Xd,List.getElem?_cons_zero,show k+1-1-0=k by omega]
 |k+1,n,i+1,h=>by rw[Xd,VL,Tt k n i<|by omega,show k+1-1-(i+1)=k-1-i by omega]
def Vl(a n i:Nat):List UInt8:=(Xd a n).take i++Zb (a-i)
def Vl.next(a n i)(d:i<a):(Qm<|Vl a n i).set i (.int .u8 ((n/256^(a-1-i)%256:Nat):Int))=Qm (Vl a n<|i+1):=by
 have c:Value.int .u8 ((n/256^(a-1-i)%256:Nat):Int)=(fun b:UInt8=>Value.int .u8 (b.toNat:Int)) (UInt8.ofNat<|n/256^(a-1-i)):=by show _=Value.int .u8 _;rw[US]
 have e:((Xd a n).take i).length=i:=by rw[Zn,Bq];omega
 unfold Qm;rw[c,←Bj]
 congr 1
 unfold Vl;obtain⟨b,c⟩:∃b,a-i=b+1:=⟨a-i-1,by omega⟩;rw[c,show a-(i+1)=b by omega,Vo _ _<|by omega,e,ZM,ZE,Tt a n i d];simp[Zb,Y4]
def Qek(n h:Nat)(w)(h1:1≤h)(h8:h≤8)(hn:n<2^63):
 Calls prog 136 #[.int .u64 n,h] w fun e w'=>e=.returned (str<|Xd h n)∧Qb [] w w':=by
 go_enter func136,ntmps136;go_wp2_with ((at_make;refine Y0 rfl _ _ 88 rfl 5 (.int .u8 0) 1 ZW YL rfl .i64 .i64 _ _ h h rfl rfl rfl rfl (Ql _) (by omega) (by simp only[maxLen];omega) ?_;intro w1 h4 h2));have x0:=Qa (show Qh w1 5 (.slice w.heap.size h h) (Qm<|Vl h n 0)from by
  have:Qm (Vl h n 0)=List.replicate h (.int .u8 0):=by simp[Vl,Qm,Zb]
  rwa[this])
 have h5:=Qa h2
 go_loopg [6,11] h (fun k x6 x1 wr=>(∃i:Nat,i≤h∧k=h-i∧x1=.int .i64 (i:Nat)∧Hid (Qh wr 5 (.slice w.heap.size h h)<|Qm<|Vl h n i))∧Hid (Qb [] w wr))
 ·exact⟨⟨0,by omega,by omega,rfl,x0⟩,h5⟩
 obtain⟨⟨i,hi,hk,rfl,o⟩,q⟩:=hrel
 by_cases hlt:i<h
 ·obtain⟨j,y⟩:∃j:Nat,h-1-i=j:=⟨_,rfl⟩;obtain⟨g0,g1⟩:(i:Int)<h∧8*((h:Int)-1-(i:Int))=((8*j:Nat):Int):=by omega
  have g2:(n:Int)/2^(8*j)=((n/256^j:Nat):Int):=by rw[show(256:Nat)=2^8 from rfl,←Nat.pow_mul];push_cast;rfl
  have g3:IntKind.u8.wrap ((n/256^j:Nat):Int)=((n/256^j%256:Nat):Int):=by rw[CM];omega
  obtain⟨u,hu⟩:∃u,(Qm<|Vl h n i)[i]?=some u:=⟨_,Qj (by have:=o.o.len;omega)⟩;have hc:=o.o.aZ hu;have hf:=o.o.free i;have⟨h9,HJ⟩:=qb (Vl.next h n i hlt) y
  go_wp2
  go_roundg (h-(i+1))
  ·have hp:=o.o.put i<|.int .u8 ((n/256^j%256:Nat):Int);have h3:=h9.o;rw[HJ.o]at h3;rw[h3]at hp;exact⟨⟨i+1,by omega,rfl,by go_num,Qa<|by simpa using hp⟩,Qa<|q.o.setCell (p:=⟨w.heap.size,i,none⟩) (.inr<|Ql _) _⟩
  omega
 obtain rfl:i=h:=by omega
 have ht:=Qh.text o.o
 go_wp2
 go_ret;refine⟨?_,q.o⟩;have:Vl i n i=Xd i n:=by unfold Vl;rw[Zd (by rw[Bq];exact Ql _),ZM];simp[Zb]
 rw[this];rfl
def UX(m:RM):Value:=.agg #[str m.path,m.start,m.eZ,m.size,.int .u32 m.sum]
structure RT(m:RM):Prop where
 ok:Yn m.path=true
 st:30≤m.start∧1≤m.eZ∧m.start+m.eZ≤4096
 sz:0≤m.size∧m.size≤8192
 sm:0≤m.sum∧m.sum<4294967296
def fP(m w)(b:RT m):Calls prog 71 #[UX m] w fun e w'=>e=.returned (0:Int)∧Qb [] w w':=by
 obtain⟨a,⟨c,c,c⟩,⟨c,h6⟩,h7,c⟩:=b;have hp:=(YI a).2;have c:Ua m.path=0:=by unfold Ua;rw[a];rfl
 have b:=Qa (fun d=>FF (str m.path) d (by have:(str m.path).size=m.path.length:=rfl
                                          omega))
 rw[show(str m.path).data.toList=m.path from rfl,c]at b;have d:=Qa<|Qx w [str m.path,m.start,m.eZ,m.size,.int .u32 m.sum] 69;have g1:decide (m.start<30)=false:=by simp;omega
 have:decide (m.eZ<1)=false:=by simp;omega
 have g3:decide (4096<m.eZ)=false:=by simp;omega
 have g4:decide (4096-m.eZ<m.start)=false:=by simp;omega
 have:decide (m.size<0)=false:=by simp;omega
 have:decide (8192<m.size)=false:=by simp;omega
 unfold UX;go_enter func71,ntmps71;go_wp2_with (go_at_call 17;refine(b.o _).mono ?_;rintro e f⟨rfl,c⟩;have a:=d.o.kept c (by simp);have c1:=a.cell (i:=1) (u:=.int .i64 m.start) rfl;have c2:=a.cell (i:=2) (u:=.int .i64 m.eZ) rfl;have c3:=a.cell (i:=3) (u:=.int .i64 m.size) rfl);go_ret;exact⟨rfl,((Qc [] w).alloc _).trans c<|by simp⟩
def Au(x a:Int):Prop:=0≤x∧x<9223372036854775808∧1≤a∧a≤8
def NW(x a W)(b:Au x a):Calls prog 136 #[.int .u64 x,a] W fun e w'=>e=.returned (str<|Xd a.toNat x.toNat)∧Qb [] W w':=by obtain⟨c,d,d,d⟩:=b;have:=Qek x.toNat a.toNat W (by omega) (by omega) (by omega);rwa[Rg c,Rg<|by omega]at this
def gH(m w)(h:RT m):Calls prog 108 #[UX m] w fun e w'=>e=.returned (.tuple #[str<|JL m,(0:Int)])∧Qb [] w w':=by
 have HC:=Qa fun W=>fP m W h;obtain⟨h1,⟨h2,h3,h4⟩,⟨h5,h6⟩,h7,h8⟩:=h;have hp:=(YI h1).2.2;have n1:Au m.path.length 1:=⟨by omega,by omega,by omega,by omega⟩;have n2:Au m.start 2:=⟨by omega,by omega,by omega,by omega⟩;have n3:Au m.eZ 2:=⟨by omega,by omega,by omega,by omega⟩;have n4:Au m.size 2:=⟨by omega,by omega,by omega,by omega⟩;have n5:Au m.sum 4:=⟨by omega,by omega,by omega,by omega⟩;have y:=Qa<|Qx w [str m.path,m.start,m.eZ,m.size,.int .u32 m.sum] 69;have w0:IntKind.u64.wrap (m.path.length:Int)=m.path.length:=by rw[JA];omega
 have w1:IntKind.u64.wrap m.start=m.start:=by rw[JA];omega
 have w2:IntKind.u64.wrap m.eZ=m.eZ:=by rw[JA];omega
 have w3:IntKind.u64.wrap m.size=m.size:=by rw[JA];omega
 have w4:IntKind.u64.wrap m.sum=m.sum:=by rw[JA];omega
 have x4:∀l:List UInt8,(str l).size=l.length:=fun _=>rfl
 have x3:∀k n,(Xd k n).length=k:=Bq;obtain⟨z1,z2,z3,z4,z5⟩: ¬9223372036854775807<1+m.path.length∧¬9223372036854775807<1+m.path.length+2∧¬9223372036854775807<1+m.path.length+2+2∧¬9223372036854775807<1+m.path.length+2+2+2∧¬9223372036854775807<1+m.path.length+2+2+2+4:=by omega
 have x2:=Qa h1;unfold UX at HC ⊢;go_enter func108,ntmps108;have b0:=y.o.cell (i:=0) (u:=.string<|str m.path) rfl;have b1:=y.o.cell (i:=1) (u:=.int .i64 m.start) rfl;have b2:=y.o.cell (i:=2) (u:=.int .i64 m.eZ) rfl;have b3:=y.o.cell (i:=3) (u:=.int .i64 m.size) rfl;have b4:=y.o.cell (i:=4) (u:=.int .u32 m.sum) rfl;go_wp2_with (go_at_call 71;refine(HC.o _).mono ?_;rintro e w5⟨rfl,x0⟩);have q:=y.o.kept x0 (by simp);have h9:Qb [] w5 w5:=Qc _ _;have x1:=Qa (((Qc [] w).alloc _).trans x0<|by simp);have e1:=q.cell (i:=0) (u:=.string<|str m.path) rfl;have e2:=q.cell (i:=1) (u:=.int .i64 m.start) rfl;have e3:=q.cell (i:=2) (u:=.int .i64 m.eZ) rfl;have e4:=q.cell (i:=3) (u:=.int .i64 m.size) rfl;have e5:=q.cell (i:=4) (u:=.int .u32 m.sum) rfl
 go_region_held3 (fun w'=>w'.cell? ⟨w.heap.size,0,none⟩=some (.string<|str m.path)∧w'.cell? ⟨w.heap.size,1,none⟩=some (.int .i64 m.start)∧w'.cell? ⟨w.heap.size,2,none⟩=some (.int .i64 m.eZ)∧w'.cell? ⟨w.heap.size,3,none⟩=some (.int .i64 m.size)∧w'.cell? ⟨w.heap.size,4,none⟩=some (.int .u32 m.sum))
  (first|exact⟨e1,e2,e3,e4,e5⟩|go_keep)
  (first
    |(go_at_call 136;refine(NW _ _ _<|by assumption).mono ?_
      rintro e w9⟨rfl,o⟩;first|replace h9:=h9.trans o (by simp)|replace h9:=h9.drew.trans o (by simp)
      replace e1:=o.cZ e1 (by simp);replace e2:=o.cZ e2 (by simp);replace e3:=o.cZ e3 (by simp);replace e4:=o.cZ e4 (by simp);replace e5:=o.cZ e5 (by simp)))
 go_wp2
 go_ret2;refine⟨?_,x1.o.trans h9<|by simp⟩;have:str (Xd 1 m.path.length)++str m.path++str (Xd 2 m.start.toNat)++str (Xd 2 m.eZ.toNat)++str (Xd 2 m.size.toNat)++str (Xd 4 m.sum.toNat)=str (JL m):=by
  rw[←VH (_++_),JL]
  congr 1
  simp[str]
 rw[←this];rfl
