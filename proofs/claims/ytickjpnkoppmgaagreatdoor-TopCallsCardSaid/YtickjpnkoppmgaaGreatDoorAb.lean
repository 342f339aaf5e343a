import Derived.Laws.AppendOwn
import Derived.Test.YtickjpnkoppmgaaGreatDoorAa
set_option linter.all false
namespace Go.Proofs.YtickjpnkoppmgaaGreatDoor
open Go.Proofs.Tryz Go.RowKit K
namespace K
def bt(bs:List Bool)(j:Nat):Nat:=(bs.getD j false).toNat
def UU(bs j):bt bs j≤1:=by unfold bt;exact DK _
def LW(bs c j):bt (bs++[c]) j=if j=bs.length then c.toNat else bt bs j:=by
 unfold bt;rcases BU j bs.length with a|a|a
 ·rw[Qe<|by omega];simp[List.getD,Xo a]
 ·subst a;simp[List.getD]
 rw[Qe<|by omega];have a:(bs++[c])[j]?=none:=QW (by simp;omega);have b:bs[j]?=none:=QW (by omega);simp[List.getD,a,b]
def Yw(bs:List Bool)(i:Nat):Nat:=
 128*bt bs (8*i)+64*bt bs (8*i+1)+32*bt bs (8*i+2)+16*bt bs (8*i+3)+8*bt bs (8*i+4)+4*bt bs (8*i+5)+2*bt bs (8*i+6)+bt bs (8*i+7)
def LX(bs i):Yw bs i<256:=by unfold Yw;have:=UU bs<|8*i;have:=UU bs<|8*i+1;have:=UU bs<|8*i+2;have:=UU bs<|8*i+3;have:=UU bs<|8*i+4;have:=UU bs<|8*i+5;have:=UU bs<|8*i+6;have:=UU bs<|8*i+7;omega
def Qu(bs:List Bool):List UInt8:=(List.range ((bs.length+7)/8)).map fun a=>UInt8.ofNat (Yw bs a)
def J3(bs):(Qu bs).length=(bs.length+7)/8:=by simp[Qu]
def Gm(bs i)(a:i<(bs.length+7)/8):(Qu bs)[i]?=some (UInt8.ofNat<|Yw bs i):=by simp[Qu,Xb a]
def Ic(bs i):Yw (bs++[false]) i=Yw bs i:=by
 have h:∀j,bt (bs++[false]) j=bt bs j:=fun j=>by
  rw[LW];split
  ·rename_i h;subst h;simp[bt,List.getD]
  rfl
 simp only[Yw,h]
def rZ(bs i)(a:bs.length≤8*i):Yw bs i=0:=by
 have a:∀b,8*i≤b→bt bs b=0:=fun b c=>by have:bs[b]?=none:=QW (by omega);simp[bt,List.getD,this]
 simp only[Yw];rw[a _<|by omega,a _<|by omega,a _<|by omega,a _<|by omega,a _<|by omega,a _<|by omega,a _<|by omega,a _<|by omega]
def eW(bs):Qu (bs++[false])=if bs.length%8=0 then Qu bs++[0]else Qu bs:=by
 have o:(bs++[false]).length=bs.length+1:=by simp
 split
 ·rename_i h;have e:(bs.length+1+7)/8=(bs.length+7)/8+1:=by omega
  unfold Qu;rw[o,e,JE,Xh]
  congr 1
  ·exact Yu fun i _=>by rw[Ic]
  simp only[QO,YD,Ic];rw[rZ _ _<|by omega];rfl
 rename_i h;have e:(bs.length+1+7)/8=(bs.length+7)/8:=by omega
 unfold Qu;rw[o,e];exact Yu fun i _=>by rw[Ic]
def Qb6(x r)(b:r<8)(a:x%2^(8-r)=0):x|||(128/2^r)=x+2^(7-r):=by
 have a:128/2^r=2^(7-r):=by
  match r,b with
  |0,_=>rfl|1,_=>rfl|2,_=>rfl|3,_=>rfl|4,_=>rfl|5,_=>rfl|6,_=>rfl|7,_=>rfl
 rw[a];have a:x=2^(8-r)*(x/2^(8-r)):=by have:=Lm x<|2^(8-r);omega
 rw[a];exact(PM (Nat.pow_lt_pow_right (by decide)<|by omega) _).symm
def rX(bs i r)(a:bs.length=8*i+r)(c:r<8):Yw bs i%2^(8-r)=0:=by
 have a:∀b,8*i+r≤b→bt bs b=0:=fun b d=>by have:bs[b]?=none:=QW (by omega);simp[bt,List.getD,this]
 unfold Yw
 match r,c with
 |0,_=>rw[a _<|by omega,a _<|by omega,a _<|by omega,a _<|by omega,a _<|by omega,a _<|by omega,a _<|by omega,a _<|by omega]
 |1,_=>rw[a (8*i+1)<|by omega,a (8*i+2)<|by omega,a (8*i+3)<|by omega,a (8*i+4)<|by omega,a (8*i+5)<|by omega,a (8*i+6)<|by omega,a (8*i+7)<|by omega];omega
 |2,_=>rw[a (8*i+2)<|by omega,a (8*i+3)<|by omega,a (8*i+4)<|by omega,a (8*i+5)<|by omega,a (8*i+6)<|by omega,a (8*i+7)<|by omega];omega
 |3,_=>rw[a (8*i+3)<|by omega,a (8*i+4)<|by omega,a (8*i+5)<|by omega,a (8*i+6)<|by omega,a (8*i+7)<|by omega];omega
 |4,_=>rw[a (8*i+4)<|by omega,a (8*i+5)<|by omega,a (8*i+6)<|by omega,a (8*i+7)<|by omega];omega
 |5,_=>rw[a (8*i+5)<|by omega,a (8*i+6)<|by omega,a (8*i+7)<|by omega];omega
 |6,_=>rw[a (8*i+6)<|by omega,a (8*i+7)<|by omega];omega
 |7,_=>rw[a (8*i+7)<|by omega];omega
def sC(bs i r)(d:bs.length=8*i+r)(c:r<8):Yw (bs++[true]) i=Yw bs i+2^(7-r):=by
 have b:∀a,bt (bs++[true]) a=if a=bs.length then 1 else bt bs a:=fun a=>by rw[LW];rfl
 have h0:bt bs bs.length=0:=by simp[bt,List.getD]
 rw[d]at b h0;unfold Yw;simp only[b]
 match r,c with
 |0,_=>simp at h0 ⊢;omega
 |1,_=>simp[h0];omega
 |2,_=>simp[h0];omega
 |3,_=>simp[h0];omega
 |4,_=>simp[h0];omega
 |5,_=>simp[h0];omega
 |6,_=>simp[h0];omega
 |7,_=>simp[h0]
def TE(bs c i)(hi:i≠bs.length/8):Yw (bs++[c]) i=Yw bs i:=by
 have a:∀b,b≠bs.length→bt (bs++[c]) b=bt bs b:=fun b b=>by rw[LW,Qe b]
 unfold Yw;rw[a _<|by omega,a _<|by omega,a _<|by omega,a _<|by omega,a _<|by omega,a _<|by omega,a _<|by omega,a _<|by omega]
def Qcm(bs):
 Qu (bs++[true])=(Qu<|bs++[false]).set (bs.length/8) (UInt8.ofNat<|Yw bs (bs.length/8)|||(128/2^(bs.length%8))):=by
 have b:∀a,(bs++[a]).length=bs.length+1:=by simp
 rw[Qb6 _ _ (JF _<|by decide)<|rX bs _ _ (by omega)<|JF _<|by decide];apply Xu;intro c;rw[YV]
 by_cases hi:c<(bs.length+1+7)/8
 ·rw[Gm _ _<|by rwa[b],Gm _ _<|by rwa[b],J3,b]
  by_cases a:bs.length/8=c
  ·rw[Qg a,Qg<|by omega];subst a;rw[sC bs _ (bs.length%8) (by omega)<|JF _<|by decide]
  rw[Qe a,TE _ _ _ fun d=>a d.symm,TE _ _ _ fun d=>a d.symm]
 have a:(Qu<|bs++[true])[c]?=none:=QW (by rw[J3,b];omega);have d:(Qu<|bs++[false])[c]?=none:=QW (by rw[J3,b];omega);rw[a,d,Qe<|by omega]
def low(v n:Nat):List Bool:=(List.range n).map fun a=>v.testBit (n-1-a)
def XZ(v n):(low v n).length=n:=by simp[low]
def Qal(v n k)(a:k<n):(low v n).take (k+1)=(low v n).take k++[v.testBit<|n-1-k]:=by
 have b:k<(low v n).length:=by rwa[XZ]
 rw[Ar b];simp[low]
def cG(v n k)(a:k<n):(low v n)[k]?=some (v.testBit<|n-1-k):=by simp[low,Xb a]
def num(l:List Bool):Nat:=l.foldl (fun b a=>2*b+a.toNat) 0
def Gj(l b):num (l++[b])=2*num l+b.toNat:=by simp[num,Fi]
def Dw(l):num l<2^l.length:=by
 suffices c:∀a (l:List Bool),l.length=a→num l<2^a from c _ l rfl
 intro a
 induction a with
 |zero=>intro l b;rw[JW b];simp[num]
 |succ a ih=>
  intro l b;have hne:l≠[]:=by intro c;simp[c]at b
  have a:=GM hne;rw[←a,Gj];have:=ih l.dropLast (by simp[b]);have:=DK<|l.getLast hne;rw[JX];omega
def X3(s:List UInt8)(i:Nat):Bool:=(s.getD (i/8) 0).toNat.testBit (7-i%8)
def Qk(s:List UInt8):List Bool:=(List.range (8*s.length)).map (X3 s)
def Yq(s):(Qk s).length=8*s.length:=by simp[Qk]
def V0(s i)(a:i<8*s.length):(Qk s)[i]?=some (X3 s i):=by simp[Qk,Xb a]
def rL(s k)(a:k<8*s.length):(Qk s).take (k+1)=(Qk s).take k++[X3 s k]:=by
 have b:k<(Qk s).length:=by rwa[Yq]
 rw[Ar b]
 congr 2
 have:=V0 s k a;rw[Qj b]at this;exact Option.some.inj this
def QS(l:List Bool)(at_ n:Nat):List Bool:=(l.drop at_).take n
def Ke(l at_ n)(a:at_+n≤l.length):(QS l at_ n).length=n:=by simp[QS];omega
def NF(l at_):QS l at_ 0=[]:=by simp[QS]
def fJ(s at_ k)(a:at_+k<8*s.length):QS (Qk s) at_ (k+1)=QS (Qk s) at_ k++[X3 s<|at_+k]:=by
 have b:k<((Qk s).drop at_).length:=by rw[YW,Yq];omega
 unfold QS;rw[Ar b]
 congr 2
 have:=V0 s (at_+k) a;have b:at_+k<(Qk s).length:=by rwa[Yq]
 rw[Qj b]at this;simpa using this
def Gz(v i):((v.testBit i).toNat:Nat)=v/2^i%2:=by rw[Nat.testBit_eq_decide_div_mod_eq];have:=JF (v/2^i) (by decide:0<2);rcases(by omega:v/2^i%2=0∨v/2^i%2=1)with a|a<;>rw[a]<;>rfl
def Qfi(v)(b:Bool):(v*2)|||b.toNat=2*v+b.toNat:=by have:=PM (i:=1) (b:=b.toNat) (by have:=DK b;omega) v;rw[show v*2=2^1*v by omega,←this]
def QR(bs:List Bool)(i:Nat):Nat→Nat
 |0=>0
 |k+1=>QR bs i k*2+bt bs (8*i+k)
def ZR(a:Int):Nat→List Bool→Nat × Nat
 |_,[]=>(0,10)
 |n,false::_=>(n,0)
 |n,true::t=>if(n:Int)=a then(0,3)else ZR a (n+1) t
def Qht(b n i s)(a:i<8*s.length)(hb:X3 s i=false):ZR b n ((Qk s).drop i)=(n,0):=by
 have b:i<(Qk s).length:=by rwa[Yq]
 have:=V0 s i a;rw[Qj b]at this;rw[Xa b,Option.some.inj this,hb];rfl
def Qhs(a n i s)(b:i<8*s.length)(hb:X3 s i=true):
 ZR a n ((Qk s).drop i)=if(n:Int)=a then(0,3)else ZR a (n+1) ((Qk s).drop<|i+1):=by
 have a:i<(Qk s).length:=by rwa[Yq]
 have:=V0 s i b;rw[Qj a]at this;rw[Xa a,Option.some.inj this,hb];rfl
def Qhq(b n i s)(a:8*s.length≤i):ZR b n ((Qk s).drop i)=(0,10):=by rw[CN<|by rwa[Yq]];rfl
end K
namespace K
def kE(bs i)(a:i<8*(Qu bs).length):X3 (Qu bs) i=bs.getD i false:=by
 have hi:i/8<(bs.length+7)/8:=by rw[J3]at a;omega
 unfold X3;rw[List.getD,Gm bs _ hi,Vs,US,XQ<|LX bs _];have b:((Yw bs<|i/8).testBit<|7-i%8).toNat=(bs.getD i false).toNat:=by
  rw[Gz];have hb:(bs.getD i false).toNat=bt bs (8*(i/8)+i%8):=by unfold bt;rw[show 8*(i/8)+i%8=i by omega]
  rw[hb];unfold Yw;have h0:=UU bs<|8*(i/8);have:=UU bs<|8*(i/8)+1;have:=UU bs<|8*(i/8)+2;have:=UU bs<|8*(i/8)+3;have:=UU bs<|8*(i/8)+4;have:=UU bs<|8*(i/8)+5;have h6:=UU bs<|8*(i/8)+6;have h7:=UU bs<|8*(i/8)+7;have a:i%8<8:=JF _ (by decide);generalize i%8=r at a
  match r,a with
  |0,_=>simp;omega
  |1,_=>simp;omega
  |2,_=>simp;omega
  |3,_=>simp;omega
  |4,_=>simp;omega
  |5,_=>simp;omega
  |6,_=>simp;omega
  |7,_=>simp;omega
 revert b
 cases (Yw bs<|i/8).testBit (7-i%8)<;>cases bs.getD i false<;>simp
def fH(bs i n)(h:i+n≤bs.length):QS (Qk<|Qu bs) i n=QS bs i n:=by
 apply Xu;intro j;unfold QS;rw[Bi,Bi]
 split
 ·rename_i o;rw[Uq,Uq,V0 _ _ (by rw[J3];omega),kE _ _ (by rw[J3];omega)];rw[List.getD,Qj (by omega:i+j<bs.length)];rfl
 rfl
def Qak(v n):low v (n+1)=low (v/2) n++[v.testBit 0]:=by
 unfold low;rw[JE,Xh]
 congr 1
 ·refine Yu fun a hk=>?_
  have:=ZL.1 hk;rw[show n+1-1-a=(n-1-a)+1 by omega,Nat.testBit_succ]
 simp
def IW(v n):num (low v n)=v%2^n:=by
 induction n generalizing v with
 |zero=>simp[low,num];omega
 |succ n ih=>rw[Qak,Gj,ih,Gz,JX,RR (2^n) 2,Nat.mod_mul];simp;omega
def EK(a b c):QS (a++b++c) a.length b.length=b:=by unfold QS;rw[QN,Fg,CR]
end K
section
namespace K
def Jt(s:List UInt8)(n:Nat):List UInt8:=((List.range n).map UInt8.ofNat).filter fun a=>decide (a∈s)
def QJ(s:List UInt8):List UInt8:=Jt s 256
def kT(s)(n:Nat)(a:UInt8.ofNat n∈s):Jt s (n+1)=Jt s n++[UInt8.ofNat n]:=by unfold Jt;rw[JE,Xh,Bh];simp[a]
def kS(s)(n:Nat)(a:UInt8.ofNat n∉s):Jt s (n+1)=Jt s n:=by unfold Jt;rw[JE,Xh,Bh];simp[a]
def kR(s n):(Jt s n).length≤n:=by unfold Jt;exact QU (Fk _ _) (by simp)
def qO:((List.range 256).map UInt8.ofNat).Pairwise (· < ·):=by decide+kernel
def GD(s):(QJ s).Pairwise (· < ·):=qO.sublist Pr
def Gf(s b):b∈QJ s↔b∈s:=by
 unfold QJ Jt;simp only[DR,Qy,ZL,Zu];constructor
 ·exact fun a=>a.2
 exact fun a=>⟨⟨b.toNat,Vw b,by simp⟩,a⟩
def gF{l:List UInt8}(c:l.Pairwise (· < ·)):l.Nodup:=c.imp fun {a b} hab he=>by rw[he]at hab;exact absurd hab<|UInt8.lt_irrefl b
def OK(l):QJ l=l↔l.Pairwise (· < ·):=by
 constructor
 ·intro a;rw[←a];exact GD l
 intro a;refine GK (le:=(· < ·)) (fun b c _ _ c d=>absurd (UInt8.lt_trans c d)<|UInt8.lt_irrefl b) (GD l) a ?_;exact(PC (gF<|GD l)<|gF a).2 (Gf l)
def kU(s):QJ (QJ s)=QJ s:=(OK _).2 (GD s)
def UW(l:List UInt8):Bool:=decide (l≠[])&&decide (QJ l=l)
def Qa0(s)(b:s≠[]):UW (QJ s)=true:=by
 unfold UW;have:QJ s≠[]:=by obtain⟨a,hb⟩:=List.exists_mem_of_ne_nil _ b;exact fun b=>by have:=(Gf s a).2 hb;rw[b]at this;cases this
 simp[this,kU]
def Qaz(l)(h0:l≠[])(b:∀i,i+1<l.length→l.getD i 0<l.getD (i+1) 0):UW l=true:=by
 have key:∀a i,i+a+1<l.length→l.getD i 0<l.getD (i+a+1) 0:=by
  intro a
  induction a with
  |zero=>exact fun i hi=>b i hi
  |succ a ih=>exact fun i hi=>UInt8.lt_trans (ih i<|by omega)<|b (i+a+1) hi
 have hp:l.Pairwise (· < ·):=by rw[JD];intro i a hi b c;have:=key (a-i-1) i (by omega);rw[show i+(a-i-1)+1=a by omega,List.getD,List.getD,Qj hi,Qj b]at this;exact this
 unfold UW;simp[h0,(OK l).2 hp]
def Qay(l i)(hi:i+1<l.length)(a:¬l.getD i 0<l.getD (i+1) 0):UW l=false:=by
 have:QJ l≠l:=by intro b;have hp:=(OK l).1 b;rw[JD]at hp;have:=hp i (i+1) (by omega) hi (by omega);rw[List.getD,List.getD,Qj hi,Qj (by omega:i<l.length)]at a;exact a this
 unfold UW;simp[this]
section
variable {α:Type} [Inhabited α]
def turned(l:List α)(p:Nat):List α:=l.getD p default::l.eraseIdx p
def DF(l:List α)(p)(a:p<l.length):(turned l p).length=l.length:=by unfold turned;rw[QZ,List.length_eraseIdx_of_lt a];omega
def GA(l p)(a:p<l.length)(b:α):b∈turned l p↔b∈l:=by
 have c:l=l.take p++l[p]::l.drop (p+1):=by rw[←Xa a,VP]
 have hp:(turned l p).Perm l:=by
  unfold turned;rw[List.eraseIdx_eq_take_drop_succ,List.getD,Qj a]
  conv=>rhs;rw[c]
  exact List.perm_middle.symm
 exact hp.mem_iff
def Qhj(l:List α)(p):turned l p=l.getD p default::(l.take p++l.drop (p+1)):=by unfold turned;rw[List.eraseIdx_eq_take_drop_succ]
variable [BEq α] [LawfulBEq α]
def front(l:List α):List α→Option (List Nat)
 | []=>some []
 |b::s=>if l.idxOf b=l.length then none else(front (turned l (l.idxOf b)) s).map (l.idxOf b:: ·)
def back(l:List α):List Int→Option (List α)
 | []=>some []
 |p::ps=>if p<0∨(l.length:Int)≤p then none else(back (turned l p.toNat) ps).map (l.getD p.toNat default:: ·)
def bD(l:List α)(b:α)(a:l.idxOf b<l.length):l.getD (l.idxOf b) default=b:=by rw[List.getD,Qj a];exact GR a
def rC(s):∀(l:List α)(o:List Nat),front l s=some o→back l (o.map fun p:Nat=>(p:Int))=some s:=by
 induction s with
 |nil=>intro l o h;simp[front]at h;subst h;rfl
 |cons b s ih=>
  intro l o h;have q:l.idxOf b≤l.length:=List.idxOf_le_length;rw[front]at h
  split at h
  ·cases h
  rename_i hne;have hlt:l.idxOf b<l.length:=by omega
  cases hf:front (turned l<|l.idxOf b) s with
  |none=>rw[hf]at h;cases h
  |some qs=>rw[hf]at h;obtain rfl:l.idxOf b::qs=o:=(by simpa using h);have:=ih _ _ hf;rw[QO,back,Qe<|by omega,Zw,this,bD l b hlt];rfl
def wR(s):∀(l:List α),(∀b∈s,b∈l)→∃a,front l s=some a:=by
 induction s with
 |nil=>exact fun l _=>⟨[],rfl⟩
 |cons b s ih=>intro l d;have hlt:=Lb (d b<|by simp);obtain⟨a,f⟩:=ih (turned l<|l.idxOf b) fun c e=>(GA l _ hlt c).2 (d c<|by simp[e]);exact⟨l.idxOf b::a,by rw[front,Qe<|by omega,f];rfl⟩
def wO(s):∀(l:List α)(c:List Nat),front l s=some c→c.length=s.length:=by
 induction s with
 |nil=>intro l c a;simp[front]at a;subst a;rfl
 |cons b s ih=>
  intro l c a;rw[front]at a
  split at a
  ·cases a
  cases hf:front (turned l<|l.idxOf b) s with
  |none=>rw[hf]at a;cases a
  |some qs=>rw[hf]at a;obtain rfl:l.idxOf b::qs=c:=(by simpa using a);simp[ih _ _ hf]
def wN(l)(b:α)(s)(a:l.idxOf b<l.length):front l (b::s)=(front (turned l<|l.idxOf b) s).map (l.idxOf b:: ·):=by rw[front,Qe<|by omega]
def wQ(l)(b:α)(s)(a:l.idxOf b=l.length):front l (b::s)=none:=by rw[front,Qg a]
def cY{b:Type}(a:Option (List b))(A)(x:b):(a.map (x:: ·)).map (A++ ·)=a.map (A++[x]++ ·):=by cases a<;>simp
end
def Aa(s all:List UInt8):List Nat × Nat:=if UW all then match front all s with|none=>([],60)|some l=>(l,0)else([],2)
def AB(l:List Int)(all:List UInt8):List UInt8 × Nat:=if UW all then match back all l with|none=>([],60)|some s=>(s,0)else([],2)
def IX(bs):∀j,j<bs.length→(num bs).testBit j=bs.getD (bs.length-1-j) false:=by
 suffices h:∀n (bs:List Bool),bs.length=n→∀j,j<n→(num bs).testBit j=bs.getD (n-1-j) false by intro j o;exact h _ bs rfl j o
 intro n
 induction n with
 |zero=>intro bs _ j o;omega
 |succ n ih=>
  intro bs q j o;have hne:bs≠[]:=by intro h;simp[h]at q
  have e:=GM hne;have y:bs.dropLast.length=n:=by simp[q]
  rw[←e,Gj];cases j with
  |zero=>rw[show n+1-1-0=bs.dropLast.length by omega];cases bs.getLast hne<;>simp[List.getD]
  |succ j=>rw[Nat.testBit_succ,show(2*num bs.dropLast+(bs.getLast hne).toNat)/2=num bs.dropLast by have:=DK<|bs.getLast hne;omega,ih _ y j<|by omega];rw[List.getD,List.getD,Xo<|by omega,show n+1-1-(j+1)=n-1-j by omega]
def Qah(bs):low (num bs) bs.length=bs:=by
 apply Xu;intro a
 by_cases hk:a<bs.length
 ·rw[cG _ _ _ hk,IX bs _<|by omega,show bs.length-1-(bs.length-1-a)=a by omega,List.getD,Qj hk];rfl
 rw[QW (by rw[XZ];omega),QW<|by omega]
def UD(f:Nat→Bool)(n:Nat):Nat:=num ((List.range n).map f)
def IP(f n):UD f n<2^n:=by have:=Dw<|(List.range n).map f;simpa[UD]using this
def dB(f n):low (UD f n) n=(List.range n).map f:=by have:=Qah<|(List.range n).map f;simpa[UD]using this
def Ng(f n k)(a:k<n):(UD f n).testBit (n-1-k)=f k:=by unfold UD;rw[IX _ _ (by simp;omega)];simp[List.getD,show n-1-(n-1-k)=k by omega,Xb a]
def dA(x f n)(a:x<2^n)(c:∀k,k<n→x.testBit (n-1-k)=f k):x=UD f n:=by
 apply Nat.eq_of_testBit_eq;intro a
 by_cases b:a<n
 ·have b:=c (n-1-a) (by omega);have c:=Ng f n (n-1-a) (by omega);rw[show n-1-(n-1-a)=a by omega]at b c;rw[b,c]
 have hp:2^n≤2^a:=Y7 (by decide) (by omega);rw[Nat.testBit_lt_two_pow<|by omega,Nat.testBit_lt_two_pow (by have:=IP f n;omega)]
def dD(f g n p)(hp:p<n)(a:∀k,k<n→g k=(f k||decide (k=p))):UD f n|||2^(n-1-p)=UD g n:=by
 refine dA _ _ _ (Nat.or_lt_two_pow (IP f n)<|Nat.pow_lt_pow_right (by decide)<|by omega) fun k hk=>?_
 rw[Nat.testBit_or,Ng f n k hk,a k hk,Nat.testBit_two_pow]
 congr 1
 rw[DJ];simp;omega
def Nh(f g n)(a:∀k,k<n→f k=g k):UD f n=UD g n:=by unfold UD;congr 1;exact Yu fun k hk=>a k<|ZL.1 hk
def dC(n):UD (fun _=>false) n=0:=by have:(0:Nat)=UD (fun _=>false) n:=dA 0 _ n (CV n) (fun a hk=>by simp);exact this.symm
def Qas(f n):UD f n=0↔∀k,k<n→f k=false:=by
 constructor
 ·intro a k hk;have:=Ng f n k hk;rw[a]at this;simpa using this.symm
 intro a;rw[Nh f (fun _=>false) n a,dC]
def has(l:List UInt8)(i k:Nat):Bool:=decide (UInt8.ofNat (16*i+k)∈l)
def VG(l:List UInt8)(i:Nat):List Bool:=(List.range 16).map (has l i)
def Jq(l:List UInt8)(i:Nat):Bool:=(List.range 16).any (has l i)
def UG(l:List UInt8)(i:Nat):Nat:=UD (has l i) 16
def Km(l i):(VG l i).length=16:=by simp[VG]
def NZ(l i):UG l i=0↔Jq l i=false:=by unfold UG Jq;rw[Qas,List.any_eq_false];simp
def Qew(l i):low (UG l i) 16=VG l i:=dB _ _
def aV(l b i k)(hi:i<16)(hk:k<16):has (l++[b]) i k=(has l i k||decide (i=b.toNat/16∧k=b.toNat%16)):=by
 unfold has;rw[DJ];simp only[Q5,Q8,Zu,Fb];refine or_congr Iff.rfl ?_;constructor
 ·intro a;have:=Qq UInt8.toNat a;rw[US]at this;omega
 rintro⟨rfl,rfl⟩;rw[Lm];simp
def Qey(l b):UG (l++[b]) (b.toNat/16)=UG l (b.toNat/16)|||2^(15-b.toNat%16):=by have hb:=Vw b;refine(dD (has l<|b.toNat/16) _ 16 (b.toNat%16) (by omega) fun a hk=>?_).symm;rw[aV l b _ a (by omega) hk];simp
def Qex(l b i)(hi:i<16)(a:i≠b.toNat/16):UG (l++[b]) i=UG l i:=by
 refine Nh _ _ _ fun c hk=>?_
 rw[aV l b i c hi hk];simp[a]
def V3(l:List UInt8)(n:Nat):Nat:=UD (fun a=>decide (a<n)&&Jq l a) 16
def yF(l):V3 l 0=0:=by unfold V3;simp[dC]
def yE(l n)(a:n<16)(b:Jq l n=true):V3 l (n+1)=V3 l n|||2^(15-n):=by
 refine(dD _ _ 16 n a fun d hk=>?_).symm;rw[DJ];simp only[Xg,Fb,Zu];constructor
 ·rintro⟨c,a⟩
  by_cases hk:d=n
  ·exact .inr hk
  exact .inl ⟨by omega,a⟩
 rintro(⟨c,a⟩|rfl)
 ·exact⟨by omega,a⟩
 exact⟨by omega,b⟩
def yD(l n)(d:Jq l n=false):V3 l (n+1)=V3 l n:=by
 refine Nh _ _ _ fun c hk=>?_
 rw[DJ];simp only[Xg,Zu];constructor
 ·rintro⟨e,a⟩;refine⟨?_,a⟩;rcases Xp c n with b|b
  ·exact b
  obtain rfl:c=n:=by omega
  rw[d]at a;cases a
 rintro⟨e,a⟩;exact⟨by omega,a⟩
def Ae(l:List UInt8):List Bool:=(List.range 16).map (Jq l)
def FU(l):(Ae l).length=16:=by simp[Ae]
def yC(l):low (V3 l 16) 16=Ae l:=by unfold V3 Ae;rw[dB];exact Yu fun a hi=>by simp[ZL.1 hi]
def aX(l n):V3 l n<65536:=IP _ 16
def gJ(l n):UG l n<65536:=IP _ 16
def XM(l:List UInt8)(n:Nat):List Bool:=(List.range n).flatMap fun a=>if Jq l a then VG l a else []
def Qe1(l):XM l 0=[]:=rfl
def Gq(l n)(a:Jq l n=true):XM l (n+1)=XM l n++VG l n:=by unfold XM;rw[JE,KY];simp[a]
def Gp(l n)(a:Jq l n=false):XM l (n+1)=XM l n:=by unfold XM;rw[JE,KY];simp[a]
def gN(l n):(XM l n).length≤16*n:=by
 induction n with
 |zero=>simp[XM]
 |succ n ih=>
  rcases Jv (Jq l n)with a|a
  ·rw[Gq l n a,Qo,Km];omega
  rw[Gp l n a];omega
def ZQ(l:List UInt8):List Bool:=Ae l++XM l 16
def Ow(l):(ZQ l).length≤272:=by unfold ZQ;rw[Qo,FU];have:=gN l 16;omega
def ES(l:List UInt8):List UInt8 × Int × Nat:=if UW l then(Qu (ZQ l),(((ZQ l).length:Nat):Int),0)else([],0,2)
def JR(i:Nat)(r:List Bool)(n:Nat):List UInt8:=((List.range n).filter fun a=>r.getD a false).map fun a=>UInt8.ofNat (16*i+a)
def iC(i r n)(a:r.getD n false=true):JR i r (n+1)=JR i r n++[UInt8.ofNat<|16*i+n]:=by
 unfold JR;rw[JE,Bh,Xh]
 congr 1
 rw[Fh,Qg a];rfl
def iA(i r n)(a:r.getD n false=false):JR i r (n+1)=JR i r n:=by unfold JR;rw[JE,Bh,Xh];rw[Fh,Qe (by rw[a];decide)];simp
def gZ(i r n):(JR i r n).length≤n:=by unfold JR;rw[QG];exact QU (Fk _ _) (by simp)
def Ul(bs:List Bool)(a:Nat→Bool):Nat→Nat→Nat→List UInt8→Option (List UInt8 × Nat)
 |0,_,p,out=>some (out,p)
 |k+1,i,p,out=>if a i then(if bs.length<p+16 then none else Ul bs a k (i+1) (p+16) (out++JR i (QS bs p 16) 16))else Ul bs a k (i+1) p out
def Kp:Option (List UInt8 × Nat)→List UInt8 × Int × Nat
 |none=>([],0,10)
 |some (out,p)=>if out=[]then([],0,60)else(out,(p:Int),0)
def An(bs:List Bool)(at_:Int):List UInt8 × Int × Nat:=
 if at_<0∨(bs.length:Int)<at_ then([],0,2)else if bs.length<at_.toNat+16 then([],0,10)else
  Kp (Ul bs (fun a=>bs.getD (at_.toNat+a) false) 16 0 (at_.toNat+16) [])
def iB(l i n)(hi:i<16)(a:n≤16):Jt l (16*i+n)=Jt l (16*i)++JR i (VG l i) n:=by
 induction n with
 |zero=>simp[JR]
 |succ n b=>
  have b:=b (by omega);have c:(VG l i).getD n false=has l i n:=by simp[VG,List.getD,Xb (by omega:n<16)]
  rcases Jv (has l i n)with a|a
  ·rw[iC _ _ _<|c.trans a,←QN,←b];exact kT l (16*i+n)<|Ct a
  rw[iA _ _ _<|c.trans a,←b];exact kS l (16*i+n)<|Nu a
def Qhy(l i)(hi:i<16)(a:Jq l i=false):Jt l (16*(i+1))=Jt l (16*i):=by
 have b:=iB l i 16 hi (by omega);rw[show 16*(i+1)=16*i+16 by omega,b];have:JR i (VG l i) 16=[]:=by unfold JR;rw[List.map_eq_nil_iff,List.filter_eq_nil_iff];intro c hk;have b:=ZL.1 hk;unfold Jq at a;rw[List.any_eq_false]at a;have:=a c hk;simpa[VG,List.getD,Xb b]using this
 rw[this,XP]
def Qg4(bs l p)(hp:∀j n,j+n≤(XM l 16).length→QS bs (p+j) n=QS (XM l 16) j n)(a:p+(XM l 16).length≤bs.length):
 ∀k i,i+k=16→Ul bs (Jq l) k i (p+(XM l i).length) (Jt l<|16*i)=some (QJ l,p+(XM l 16).length):=by
 intro k
 induction k with
 |zero=>
  intro i hi;have hi:i=16:=by omega
  subst hi;rfl
 |succ k d=>
  intro i hi;have d:=d (i+1) (by omega);have:∀a,∃c,XM l (i+a)=XM l i++c:=by
   intro a
   induction a with
   |zero=>exact⟨[],by simp⟩
   |succ a d=>
    obtain⟨c,e⟩:=d;rcases Jv (Jq l<|i+a)with b|b
    ·exact⟨c++VG l (i+a),by rw[show i+(a+1)=i+a+1 by omega,Gq _ _ b,e,QN]⟩
    exact⟨c,by rw[show i+(a+1)=i+a+1 by omega,Gp _ _ b,e]⟩
  rw[Ul];rcases Jv (Jq l i)with b|b
  ·have f:=Gq l i b;obtain⟨c,e⟩:∃c,XM l 16=XM l (i+1)++c:=by
    have:∀a,∃c,XM l (i+1+a)=XM l (i+1)++c:=by
     intro a
     induction a with
     |zero=>exact⟨[],by simp⟩
     |succ a d=>
      obtain⟨c,e⟩:=d;rcases Jv (Jq l<|i+1+a)with b|b
      ·exact⟨c++VG l (i+1+a),by rw[show i+1+(a+1)=i+1+a+1 by omega,Gq _ _ b,e,QN]⟩
      exact⟨c,by rw[show i+1+(a+1)=i+1+a+1 by omega,Gp _ _ b,e]⟩
    have:=this<|16-(i+1);rwa[show i+1+(16-(i+1))=16 by omega]at this
   have a:(XM l i).length+16≤(XM l 16).length:=(by rw[e,f,Qo,Qo,Km];omega);rw[Qg b,Qe<|by omega,hp _ _ a];have a:QS (XM l 16) (XM l i).length 16=VG l i:=(by rw[e,f];have:=EK (XM l i) (VG l i) c;rwa[Km]at this);rw[a,←iB l i 16 (by omega) (by omega),show 16*i+16=16*(i+1)by omega];rwa[f,Qo,Km,←Jj]at d
  have a:=Gp l i b;rw[a,Qhy l i (by omega) b]at d;rw[Qe (by rw[b];decide)];exact d
end K
end
namespace K
def Qc4(s p)(a:p<8*s.length):QS (Qk s) p 1=[X3 s p]:=by have:=fJ s p 0 (by omega);rw[NF]at this;simpa using this
def Qby(b):num [b]=b.toNat:=by simp[num]
def Qaj(b):low b.toNat 1=[b]:=by cases b<;>rfl
end K
namespace K
def Ue(s:List UInt8)(n:Int):Bool:=decide (0≤n∧n≤(8*s.length:Nat)∧((8*s.length:Nat):Int)-n<8)&&((Qk s).drop n.toNat).all (! ·)
def Qfj:∀r:Fin 8,∀x:Fin 256,(x.val*2^r.val%256==0)=((List.range<|8-r.val).all fun k=>! x.val.testBit (7-(r.val+k))):=by decide+kernel
def Qav(s)(n:Nat)(a:¬s.length=n/8+(n%8+7)/8):Ue s n=false:=by
 have:¬(0≤(n:Int)∧(n:Int)≤(8*s.length:Nat)∧((8*s.length:Nat):Int)-n<8):=by omega
 unfold Ue;rw[XI this];rfl
def Qau(s)(n:Nat)(a:s.length=n/8+(n%8+7)/8)(a:n%8=0):Ue s n=true:=by
 have a:0≤(n:Int)∧(n:Int)≤(8*s.length:Nat)∧((8*s.length:Nat):Int)-n<8:=by omega
 unfold Ue;rw[Xr a,Zw,JB (by rw[Yq];omega)];rfl
def Qaw(s)(n:Nat)(a:s.length=n/8+(n%8+7)/8)(a:¬n%8=0):Ue s n=((s.getD (s.length-1) 0).toNat*2^(n%8)%256==0):=by
 obtain⟨b,c⟩:(0≤(n:Int)∧(n:Int)≤(8*s.length:Nat)∧((8*s.length:Nat):Int)-n<8)∧s.length-1=n/8:=by omega
 have a:=Qfj ⟨n%8,by omega⟩ ⟨(s.getD (s.length-1) 0).toNat,Vw _⟩;simp only at a;rw[a];unfold Ue;rw[Xr b,Zw,VJ,DJ,XO,XO];constructor
 ·intro b a hk;have:=ZL.1 hk;refine b _<|List.mem_iff_getElem?.2 ⟨a,?_⟩;rw[Uq,V0 s (n+a)<|by omega]
  congr 1
  unfold X3;rw[show(n+a)/8=n/8 by omega,show(n+a)%8=n%8+a by omega,c]
 intro b d hb;obtain⟨a,hk⟩:=List.mem_iff_getElem?.1 hb;rw[Uq]at hk;have hlt:=(Qz.1 hk).1;rw[Yq]at hlt;rw[V0 s (n+a) hlt]at hk;have:=b a (ZL.2<|by omega);rw[←Option.some.inj hk];unfold X3;rw[show(n+a)/8=n/8 by omega,show(n+a)%8=n%8+a by omega,←c];exact this
end K
namespace K
def BG(p:List UInt8 × Int):List Bool:=(Qk p.1).take p.2.toNat
def Ym(a:List (List UInt8 × Int)):List Bool:=a.flatMap BG
def Jg(a:List (List UInt8 × Int)):Nat:=(a.map fun a=>a.1.length).sum
def BA(a:List (List UInt8 × Int)):List UInt8 × Int × Nat:=
 if a.all fun b=>Ue b.1 b.2 then(Qu (Ym a),((Ym a).length:Nat),0)else([],0,2)
def Qb3(p):(BG p).length≤8*p.1.length:=by unfold BG;rw[Zn,Yq];omega
def zF(a):(Ym a).length≤8*Jg a:=by
 induction a with
 |nil=>simp[Ym,Jg]
 |cons p a ih=>
  have:=Qb3 p;have b:Ym (p::a)=BG p++Ym a:=by simp[Ym]
  have c:Jg (p::a)=p.1.length+Jg a:=by simp[Jg]
  rw[b,c,Qo];omega
def Qhe(a j):Jg (a.take j)≤Jg a:=by
 have:Jg a=Jg (a.take j)+Jg (a.drop j):=by
  conv=>lhs;rw[←VP j a]
  simp only[Jg,Xh,List.sum_append]
 omega
def Qhd(a)(j:Nat)(p)(b:a[j]?=some p):p.1.length≤Jg a:=by
 induction a generalizing j with
 |nil=>simp at b
 |cons q a ih=>
  have:Jg (q::a)=q.1.length+Jg a:=by simp[Jg]
  cases j with
  |zero=>simp at b;subst b;omega
  |succ j=>have:=ih j (by simpa using b);omega
def zH(b:List (List UInt8 × Int))(j p)(a:b[j]?=some p):Ym (b.take<|j+1)=Ym (b.take j)++BG p:=by have b:=(Qz.1 a).1;rw[Ar b];rw[Qj b]at a;rw[Option.some.inj a];simp[Ym]
def qS(b:List (List UInt8 × Int))(f j p)(a:b[j]?=some p):(b.take<|j+1).all f=((b.take j).all f&&f p):=by have b:=(Qz.1 a).1;rw[Ar b];rw[Qj b]at a;rw[Option.some.inj a];simp
def qR(a:List (List UInt8 × Int))(f)(j:Nat)(p:List UInt8 × Int)(b:a[j]?=some p)(hf:f p=false):a.all f=false:=by
 cases hall:a.all f with
 |false=>rfl
 |true=>have:=(XO.1 hall) p<|QC b;rw[hf]at this;cases this
def zI(a)(j:Nat)(p)(b:a[j]?=some p)(hf:Ue p.1 p.2=false):BA a=([],0,2):=by unfold BA;rw[qR a (fun p=>Ue p.1 p.2) j p b hf];rfl
def Qax(s n)(a:Ue s n=true):0≤n∧n≤(8*s.length:Nat):=by unfold Ue at a;rw[Xg]at a;have:=Ct a.1;exact⟨this.1,this.2.1⟩
end K
namespace K
def Nl(p):Ue (Qu p) (p.length:Nat)=true:=by
 have:=J3 p;unfold Ue;rw[Xg];refine⟨by simp;omega,XO.2 fun a hb=>?_⟩;obtain⟨b,a⟩:=GQ hb;rw[Zw,Uq]at a;have hlt:=(Qz.1 a).1;rw[Yq]at hlt;rw[V0 _ _ hlt,kE _ _ hlt]at a;have:p.getD (p.length+b) false=false:=by rw[RP,QW<|by omega];rfl
 rw[this]at a;injection a with a;subst a;rfl
def Nv(p):BG (Qu p,(p.length:Nat))=p:=by have:=fH p 0 p.length (by omega);unfold QS at this;unfold BG;rw[Zw];simpa using this
def Qc2(l i n)(a:i+n≤l.length):(QS l i n).length=n:=by unfold QS;rw[Zn,YW];omega
end K
namespace K
def Vh(a x:Int):List Bool:=(List.replicate (x-a).toNat [true,false]).flatten++((List.replicate (a-x).toNat [true,true]).flatten++[false])
def U3(a:Int):List Int→List Bool
 | []=>[]
 |x::xs=>Vh a x++U3 x xs
def Q0(xs:List Int):List Bool:=low (xs.headD 0).toNat 5++U3 (xs.headD 0) xs
def Jn(xs:List Int):Bool:=decide (2≤xs.length∧xs.length≤258)&&xs.all fun a=>decide (1≤a∧a≤20)
def BK(xs:List Int):List UInt8 × Int × Nat:=if Jn xs then(Qu (Q0 xs),((Q0 xs).length:Nat),0)else([],0,80)
def jE(a x)(b:a<x):Vh a x=true::false::Vh (a+1) x:=by unfold Vh;obtain⟨b,hk⟩:∃b:Nat,(x-a).toNat=b+1:=⟨(x-a).toNat-1,by omega⟩;rw[hk,show(x-(a+1)).toNat=b by omega,show(a-x).toNat=0 by omega,show(a+1-x).toNat=0 by omega,Y4];simp
def jC(a x)(b:x<a):Vh a x=true::true::Vh (a-1) x:=by unfold Vh;obtain⟨b,hk⟩:∃b:Nat,(a-x).toNat=b+1:=⟨(a-x).toNat-1,by omega⟩;rw[hk,show(a-1-x).toNat=b by omega,show(x-a).toNat=0 by omega,show(x-(a-1)).toNat=0 by omega,Y4];simp
def jD(x):Vh x x=[false]:=by simp[Vh]
def Qgf(a x):(Vh a x).length=1+2*(x-a).natAbs:=by unfold Vh;simp only[Qo,List.length_flatten,GS,List.sum_replicate_nat,QZ,Yg];omega
def Oi(a x xs):U3 a (x::xs)=Vh a x++U3 x xs:=rfl
def iI(a xs)(h0:1≤a∧a≤20)(b:∀x∈xs,1≤x∧x≤20):(U3 a xs).length≤39*xs.length:=by
 induction xs generalizing a with
 |nil=>simp[U3]
 |cons x xs ih=>have c:=b x (by simp);have:=ih x c (fun d c=>b d<|by simp[c]);have:=Qgf a x;rw[Oi,Qo,QZ];omega
def UC(xs):Jn xs=true↔(2≤xs.length∧xs.length≤258)∧∀x∈xs,1≤x∧x≤20:=by unfold Jn;simp[XO]
def MG(xs:List Int)(a:0<xs.length):xs.headD 0∈xs:=by
 cases xs with
 |nil=>simp at a
 |cons x xs=>simp
def Gt(xs)(h:Jn xs=true):(Q0 xs).length≤20000:=by
 obtain⟨⟨q,y⟩,o⟩:=(UC xs).1 h;have:=iI (xs.headD 0) xs (o _<|MG xs<|by omega) o;unfold Q0;rw[Qo];have hl:(low (xs.headD 0).toNat 5).length=5:=by simp[low]
 omega
def Na(xs)(a:¬(2≤xs.length∧xs.length≤258)):Jn xs=false:=by
 cases e:Jn xs with
 |false=>rfl
 |true=>exact absurd ((UC xs).1 e).1 a
def bV(xs)(i:Nat)(x)(a:xs[i]?=some x)(b:x<1∨20<x):Jn xs=false:=by
 cases e:Jn xs with
 |false=>rfl
 |true=>have:=((UC xs).1 e).2 x (QC a);omega
def XL(n:Nat):List Int→Int→Nat→List Bool→List Int × Nat × Nat
 |QR,now,p,l=>if n≤QR.length then(QR,p,0)else if now<1∨20<now then([],0,80)else
  match l with
  | []=>([],0,10)
  |false::r=>XL n (QR++[now]) now (p+1) r
  | [true]=>([],0,10)
  |true::false::r=>XL n QR (now+1) (p+2) r
  |true::true::r=>XL n QR (now-1) (p+2) r
def Jo(bs:List Bool)(at_ n:Int):List Int × Nat × Nat:=
 if at_<0∨(bs.length:Nat)<at_∨n<2∨258<n then([],0,2)else if bs.length<at_.toNat+5 then([],0,10)else
  XL n.toNat [] (num (QS bs at_.toNat 5)) (at_.toNat+5) (bs.drop (at_.toNat+5))
def IL(n QR b p l)(a:n≤QR.length):XL n QR b p l=(QR,p,0):=by unfold XL;rw[Qg a]
def Nb(n QR a p l)(b:QR.length<n)(b:a<1∨20<a):XL n QR a p l=([],0,80):=by unfold XL;rw[Qe<|by omega,Qg b]
def Nc(n QR a p)(b:QR.length<n)(b:¬(a<1∨20<a)):XL n QR a p []=([],0,10):=by unfold XL;rw[Qe<|by omega,Qe b]
def Nd(n QR a p r)(b:QR.length<n)(b:¬(a<1∨20<a)):XL n QR a p (false::r)=XL n (QR++[a]) a (p+1) r:=by rw[XL,Qe<|by omega,Qe b]
def bX(n QR a p)(b:QR.length<n)(b:¬(a<1∨20<a)):XL n QR a p [true]=([],0,10):=by rw[XL,Qe<|by omega,Qe b]
def bY(n QR a p r)(b:QR.length<n)(b:¬(a<1∨20<a)):XL n QR a p (true::false::r)=XL n QR (a+1) (p+2) r:=by rw[XL,Qe<|by omega,Qe b]
def bW(n QR a p r)(b:QR.length<n)(b:¬(a<1∨20<a)):XL n QR a p (true::true::r)=XL n QR (a-1) (p+2) r:=by rw[XL,Qe<|by omega,Qe b]
def Qaa(n QR x q)(h:QR.length<n)(hx:1≤x∧x≤20):∀(d:Nat)(o:Int)(p:Nat),(x-o).natAbs=d→(1≤o∧o≤20)→
 XL n QR o p (Vh o x++q)=XL n (QR++[x]) x (p+(Vh o x).length) q:=by
 intro d
 induction d with
 |zero=>
  intro o p y hn;obtain rfl:o=x:=by omega
  rw[jD];exact Nd n QR o p q h (by omega)
 |succ d ih=>
  intro o p y hn
  by_cases hlt:o<x
  ·rw[jE o x hlt];simp only[Yf,QZ];rw[bY n QR o p _ h<|by omega,ih (o+1) (p+2) (by omega)<|by omega]
   congr 1
   omega
  rw[jC o x<|by omega];simp only[Yf,QZ];rw[bW n QR o p _ h<|by omega,ih (o-1) (p+2) (by omega)<|by omega]
  congr 1
  omega
def zY(n xs):∀(QR:List Int)(a:Int)(p:Nat)(d:List Bool),QR.length+xs.length=n→(1≤a∧a≤20)→(∀x∈xs,1≤x∧x≤20)→
 XL n QR a p (U3 a xs++d)=(QR++xs,p+(U3 a xs).length,0):=by
 induction xs with
 |nil=>intro QR a p d c e b;rw[IL _ _ _ _ _ (by simp at c;omega)];simp[U3]
 |cons x xs ih=>intro QR a p d c e b;rw[QZ]at c;rw[Oi,QN,Qaa n QR x _ (by omega) (b x<|by simp) _ a p rfl e,ih _ x _ _ (by simp;omega) (b x<|by simp) fun c a=>b c<|by simp[a]];simp[Jj]
end K
namespace K
end K
namespace K
def Tx(a b):Qk (a++b)=Qk a++Qk b:=by
 apply Xu;intro c
 by_cases d:c<8*a.length
 ·rw[V0 _ _ (by rw[Qo];omega),Xo<|by rwa[Yq],V0 _ _ d];unfold X3;have d:(a++b).getD (c/8) 0=a.getD (c/8) 0:=by rw[RP,Xo<|by omega,←RP]
  rw[d]
 rw[Zy (by rw[Yq];omega),Yq]
 by_cases e:c<8*(a++b).length
 ·rw[Qo]at e;rw[V0 _ _ (by rw[Qo];omega),V0 _ _<|by omega];unfold X3;have d:(a++b).getD (c/8) 0=b.getD ((c-8*a.length)/8) 0:=by
   rw[RP,Zy<|by omega,←RP]
   congr 1
   omega
  rw[d,show(c-8*a.length)%8=c%8 by omega]
 rw[Qo]at e;rw[QW (by rw[Yq,Qo];omega),QW (by rw[Yq];omega)]
def rK(a):∃b,Qk (Qu a)=a++b:=by refine⟨(Qk<|Qu a).drop a.length,?_⟩;have:=fH a 0 a.length (by omega);unfold QS at this;simp at this;have b:=VP a.length<|Qk<|Qu a;rw[this]at b;exact b.symm
def zW(P R v n)(e:v<32)(a:2≤n∧n≤258):Jo (P++(low v 5++R)) (P.length:Nat) (n:Nat)=XL n [] (v:Int) (P.length+5) R:=by
 have a:(low v 5).length=5:=by simp[low]
 unfold Jo;rw[Qe (by simp only[Qo];omega),Zw,Qe (by simp only[Qo];omega),Zw];have b:QS (P++(low v 5++R)) P.length 5=low v 5:=by have:=EK P (low v 5) R;rw[a,QN]at this;exact this
 have c:(P++(low v 5++R)).drop (P.length+5)=R:=by
  have d:(P++low v 5).length=P.length+5:=by rw[Qo,a]
  rw[←QN,←d,Fg]
 rw[b,c,IW,XQ e]
end K
namespace K
def room(ls:List Nat):Nat:=(ls.map fun a=>2^(20-a)).sum
def QA(l:List Int):List Nat:=l.map Int.toNat
def UF(l):(QA l).length=l.length:=by simp[QA]
def XA(l:List Int):Bool:=Jn l&&decide (room (QA l)≤1048576)
def UA{l}(a:XA l=true):Jn l=true:=by unfold XA at a;simp at a;exact a.1
def FT{l}(a:XA l=true):room (QA l)≤1048576:=by unfold XA at a;simp at a;exact a.2
def Cl{l}(b:XA l=true):∀x∈QA l,1≤x∧x≤20:=by intro x a;simp only[QA,Qy]at a;obtain⟨d,c,rfl⟩:=a;have:=((UC l).1 (UA b)).2 d c;omega
def Qen(ls x):room (ls++[x])=room ls+2^(20-x):=by simp[room]
def Qel(ls):room ls≤ls.length*1048576:=by
 induction ls with
 |nil=>simp[room]
 |cons x ls ih=>
  have:2^(20-x)≤2^20:=Y7 (by decide) (by omega);have a:room (x::ls)=2^(20-x)+room ls:=by simp[room]
  rw[a,QZ,CU];have:(2:Nat)^20=1048576:=rfl;omega
def Zr(ls:List Nat):Nat→Nat
 |0=>0
 |n+1=>2*(Zr ls n+ls.count n)
def Ys(ls:List Nat)(n i:Nat):List Nat:=(List.range i).filter fun a=>decide (ls.getD a 0=n)
def Bz(ls:List Nat)(n:Nat):List Nat:=Ys ls n ls.length
def ZH(ls:List Nat):Nat→List Nat
 |0=>[]
 |n+1=>ZH ls n++Bz ls n
def Yr(ls:List Nat)(i:Nat):Nat:=Zr ls (ls.getD i 0)+(ls.take i).count (ls.getD i 0)
def J9(ls:List Nat):List Nat:=(List.range ls.length).map (Yr ls)
def Mj(ls):(J9 ls).length=ls.length:=by simp[J9]
def tV(ls i)(a:i<ls.length):(J9 ls)[i]?=some (Yr ls i):=by simp[J9,Xb a]
def MM(ls n):Ys ls n 0=[]:=rfl
def ML(ls n i)(a:ls.getD i 0=n):Ys ls n (i+1)=Ys ls n i++[i]:=by unfold Ys;rw[JE,Bh];congr 1;rw[Fh,Qg<|Xr a];rfl
def MK(ls n i)(a:ls.getD i 0≠n):Ys ls n (i+1)=Ys ls n i:=by unfold Ys;rw[JE,Bh,Fh,Qe (by rw[XI a];decide)];simp
def jZ(ls:List Nat)(n i)(a:i<ls.length):(ls.take<|i+1).count n=(ls.take i).count n+if ls.getD i 0=n then 1 else 0:=by
 rw[Ar a,List.count_append,List.getD,Qj a,Vs,List.count_singleton]
 congr 1
 by_cases a:ls[i]=n<;>simp[a]
def MJ(ls n):∀i,i≤ls.length→(Ys ls n i).length=(ls.take i).count n:=by
 intro i
 induction i with
 |zero=>intro _;simp[Ys]
 |succ i ih=>
  intro hi;rw[jZ ls n i<|by omega,←ih (by omega)]
  by_cases a:ls.getD i 0=n
  ·rw[ML _ _ _ a,Qg a];simp
  rw[MK _ _ _ a,Qe a];simp
def MN(ls n):(Bz ls n).length=ls.count n:=by unfold Bz;rw[MJ ls n _<|Ql _,Vp]
def yR(ls n k i):∀m,m≤ls.length→((Ys ls n m)[k]?=some i↔i<m∧ls.getD i 0=n∧(ls.take i).count n=k):=by
 intro m
 induction m with
 |zero=>intro _;simp[Ys]
 |succ m d=>
  intro a;have d:=d (by omega);have:=MJ ls n m (by omega)
  by_cases e:ls.getD m 0=n
  ·rw[ML _ _ _ e];rcases Xp k (Ys ls n m).length with hk|hk
   ·rw[Xo hk,d];constructor
    ·exact fun a=>⟨by omega,a.2⟩
    rintro⟨f,b,c⟩;refine⟨?_,b,c⟩;rcases Xp i m with a|a
    ·exact a
    obtain rfl:i=m:=(by omega);omega
   rw[Zy hk];constructor
   ·intro a;have hlt:=(Qz.1 a).1;simp at hlt;have hz:k-(Ys ls n m).length=0:=(by omega);rw[hz]at a;simp at a;subst a;exact⟨by omega,e,by omega⟩
   rintro⟨f,b,c⟩;rcases Xp i m with a|a
   ·have:=(d.2 ⟨a,b,c⟩);have:=(Qz.1 this).1;omega
   obtain rfl:i=m:=(by omega);have hz:k-(Ys ls n i).length=0:=(by omega);rw[hz];rfl
  rw[MK _ _ _ e,d];constructor
  ·exact fun a=>⟨by omega,a.2⟩
  rintro⟨f,b,c⟩;refine⟨?_,b,c⟩;rcases Xp i m with a|a
  ·exact a
  obtain rfl:i=m:=by omega
  exact absurd b e
def FW(ls n k i):(Bz ls n)[k]?=some i↔i<ls.length∧ls.getD i 0=n∧(ls.take i).count n=k:=yR ls n k i ls.length<|Ql _
def Qb9(ls n):∀d,∃t,ZH ls (n+d)=ZH ls n++t:=by
 intro d
 induction d with
 |zero=>exact⟨[],by simp⟩
 |succ d ih=>obtain⟨t,a⟩:=ih;exact⟨t++Bz ls (n+d),by rw[show n+(d+1)=n+d+1 by omega,ZH,a,QN]⟩
def IZ(ls n N k i)(a:n<N)(a:(Bz ls n)[k]?=some i):(ZH ls N)[(ZH ls n).length+k]?=some i:=by obtain⟨b,b⟩:=Qb9 ls (n+1)<|N-(n+1);rw[show n+1+(N-(n+1))=N by omega]at b;have hk:=(Qz.1 a).1;rwa[b,ZH,QN,Zy<|by omega,Ll,Xo hk]
def Qb8(ls):∀N k i,(ZH ls N)[k]?=some i→i<ls.length∧ls.getD i 0<N∧k=(ZH ls<|ls.getD i 0).length+(ls.take i).count (ls.getD i 0):=by
 intro N
 induction N with
 |zero=>intro k i a;simp[ZH]at a
 |succ N ih=>
  intro k i a;rw[ZH]at a;rcases Xp k (ZH ls N).length with hk|hk
  ·rw[Xo hk]at a;obtain⟨b,c,d⟩:=ih k i a;exact⟨b,by omega,d⟩
  rw[Zy hk]at a;obtain⟨b,c,d⟩:=(FW ls N _ i).1 a;subst c;exact⟨b,by omega,by omega⟩
def Qb7(ls N)(a:∀x∈ls,x<N)(i)(hi:i<ls.length):∃k:Nat,(ZH ls N)[k]?=some i:=by
 have b:ls.getD i 0<N:=by rw[List.getD,Qj hi];exact a _<|XW hi
 exact⟨_,IZ ls (ls.getD i 0) N _ i b<|(FW ls _ _ i).2 ⟨hi,rfl,rfl⟩⟩
def Qhw(ls n):Zr ls n+ls.count n=(ls.map fun x=>if x≤n then 2^(n-x)else 0).sum:=by
 induction n with
 |zero=>
  rw[Zr,Zz]
  induction ls with
  |nil=>rfl
  |cons x ls ih=>
   rw[List.count_cons,QO,Z8,ih]
   by_cases a:x=0
   ·subst a;simp;omega
   simp[a]
 |succ n ih=>
  rw[Zr,ih];clear ih
  induction ls with
  |nil=>rfl
  |cons x ls ih=>
   rw[List.count_cons,QO,Z8,QO,Z8,←ih];have hp:(2:Nat)^(n+1-(n+1))=1:=by simp
   by_cases a:x≤n
   ·have b:(if x≤n then 2^(n-x)else 0)=2^(n-x):=Qg a;have d:(if x≤n+1 then 2^(n+1-x)else 0)=2*2^(n-x):=(by rw[Qg<|by omega,show n+1-x=(n-x)+1 by omega,JX];omega);have c:(x==n+1)=false:=(by simp;omega);rw[b,d,c];simp;omega
   have b:(if x≤n then 2^(n-x)else 0)=0:=Qe a;rw[b]
   by_cases a:x=n+1
   ·subst a;rw[Qg<|Ql _,hp];simp;omega
   have c:(x==n+1)=false:=(by simp;omega);rw[Qe (by omega: ¬x≤n+1),c];simp
def Qhx(ls)(b:∀x∈ls,x≤20)(n)(a:n≤20):(Zr ls n+ls.count n)*2^(20-n)≤room ls:=by
 rw[Qhw];unfold room
 induction ls with
 |nil=>simp
 |cons x ls a=>
  have a:=a (fun d c=>b d<|by simp[c]);have:=b x (by simp);rw[QO,Z8,QO,Z8,VQ]
  by_cases b:x≤n
  ·rw[Qg b,←Eb,show n-x+(20-n)=20-x by omega];omega
  rw[Qe b,Hd,Zz];exact QU a<|Nat.le_add_left _ _
def fits(ls)(b:∀x∈ls,x≤20)(d:room ls≤1048576)(n)(c:n≤20):Zr ls n+ls.count n≤2^n:=by
 have a:=Qhx ls b n c;have b:(Zr ls n+ls.count n)*2^(20-n)≤2^n*2^(20-n):=by rw[←Eb,show n+(20-n)=20 by omega];exact QU a d
 exact Nat.le_of_mul_le_mul_right b<|CV _
def vX(ls n):∀d,(Zr ls n+ls.count n)*2^(d+1)≤Zr ls (n+d+1):=by
 intro d
 induction d with
 |zero=>rw[Zr];omega
 |succ d ih=>rw[show n+(d+1)+1=(n+d+1)+1 by omega,Zr,JX,←GZ];omega
def Il(ls i)(hi:i<ls.length):Zr ls (ls.getD i 0)≤Yr ls i∧Yr ls i<Zr ls (ls.getD i 0)+ls.count (ls.getD i 0):=by unfold Yr;refine⟨by omega,?_⟩;have a:=jZ ls (ls.getD i 0) i hi;rw[Qg rfl]at a;have:(ls.take<|i+1).count (ls.getD i 0)≤ls.count (ls.getD i 0):=(Li _ _).count_le _;omega
def Wl(ls)(a:∀x∈ls,x≤20)(b:room ls≤1048576)(i)(hi:i<ls.length):Yr ls i<2^(ls.getD i 0):=by
 have c:ls.getD i 0≤20:=by rw[List.getD,Qj hi];exact a _<|XW hi
 have:=fits ls a b _ c;have:=Il ls i hi;omega
def tT(ls n k i)(a:(Bz ls n)[k]?=some i):Yr ls i=Zr ls n+k:=by obtain⟨b,b,c⟩:=(FW ls n k i).1 a;unfold Yr;rw[b,c]
def tU(ls n c)(a:Zr ls n≤c)(a:c<Zr ls n+ls.count n):∃i,i<ls.length∧ls.getD i 0=n∧Yr ls i=c∧(Bz ls n)[c-Zr ls n]?=some i:=by
 have hk:c-Zr ls n<(Bz ls n).length:=by rw[MN];omega
 have a:=Qj hk;obtain⟨b,d,e⟩:=(FW ls n _ _).1 a;exact⟨_,b,d,by rw[tT ls n _ _ a];omega,a⟩
def Rp(ls:List Nat)(c n:Nat):Bool:=(List.range 21).any fun a=>decide (n<a∧0<ls.count a∧c*2^(a-n)<Zr ls a+ls.count a)
def Ia(ls c n):Rp ls c n=true↔∃m,m≤20∧n<m∧0<ls.count m∧c*2^(m-n)<Zr ls m+ls.count m:=by
 unfold Rp;simp only[List.any_eq_true,ZL,Zu];constructor
 ·rintro⟨m,b,a⟩;exact⟨m,by omega,a⟩
 rintro⟨m,b,a⟩;exact⟨m,by omega,a⟩
def Qfu(ls)(b:∀x∈ls,x≤20)(c n i)(hi:i<ls.length)(d:n<ls.getD i 0)(a:Yr ls i/2^(ls.getD i 0-n)=c):Rp ls c n=true:=by
 rw[Ia];have e:ls.getD i 0≤20:=by rw[List.getD,Qj hi];exact b _<|XW hi
 have:=Il ls i hi;refine⟨ls.getD i 0,e,d,by omega,?_⟩;have:c*2^(ls.getD i 0-n)≤Yr ls i:=by rw[←a];exact Nat.div_mul_le_self _ _
 omega
def yG(ls n i)(hi:i<ls.length)(a:n<ls.getD i 0):Zr ls n+ls.count n≤Yr ls i/2^(ls.getD i 0-n):=by rw[Nat.le_div_iff_mul_le<|CV _];have a:=vX ls n<|ls.getD i 0-n-1;rw[show ls.getD i 0-n-1+1=ls.getD i 0-n by omega,show n+(ls.getD i 0-n-1)+1=ls.getD i 0 by omega]at a;have:=(Il ls i hi).1;omega
end K
namespace K
def fI(a b j n)(c:j+n≤b.length):QS (a++b) (a.length+j) n=QS b j n:=by unfold QS;rw[Ff,JB<|by omega,Yv,show a.length+j-a.length=j by omega]
def Qg3(bs f g):∀k i p a,(∀j,i≤j→j<i+k→f j=g j)→Ul bs f k i p a=Ul bs g k i p a:=by
 intro k
 induction k with
 |zero=>intro i p a _;rfl
 |succ k ih=>intro i p a a;rw[Ul,Ul,a i (by omega)<|by omega,ih (i+1) _ _ fun j b c=>a j (by omega)<|by omega,ih (i+1) _ _ fun j b c=>a j (by omega)<|by omega]
end K
namespace K
def Qc5(bs p n)(a:p+n<bs.length):QS bs p (n+1)=QS bs p n++[bs.getD (p+n) false]:=by
 have b:n<(bs.drop p).length:=by rw[YW];omega
 unfold QS;rw[Ar b]
 congr 2
 rw[List.getElem_drop,List.getD,Qj a];rfl
def Qbz(bs p n)(a:p+n<bs.length):num (QS bs p<|n+1)=2*num (QS bs p n)+(bs.getD (p+n) false).toNat:=by rw[Qc5 bs p n a,Gj]
def Jb(ls:List Nat)(bs:List Bool):Nat→Nat→Nat→Nat→Nat × Nat × Nat
 |0,_,_,_=>(0,0,90)
 |f+1,n,code,p=>
  if bs.length<p+1 then(0,0,10)
  else if Zr ls n≤2*code+(bs.getD p false).toNat∧2*code+(bs.getD p false).toNat<Zr ls n+ls.count n then
   ((ZH ls 21).getD ((ZH ls n).length+(2*code+(bs.getD p false).toNat-Zr ls n)) 0,p+1,0)
  else if Rp ls (2*code+(bs.getD p false).toNat) n then Jb ls bs f (n+1) (2*code+(bs.getD p false).toNat) (p+1)else(0,0,90)
def Z7(ls:List Nat)(bs:List Bool)(p:Nat):Nat × Nat × Nat:=Jb ls bs 20 1 0 p
def Qbo(ls bs):∀f n o p,(Jb ls bs f n o p).2.2=0→p<(Jb ls bs f n o p).2.1∧(Jb ls bs f n o p).2.1≤bs.length:=by
 intro f
 induction f with
 |zero=>intro n o p h;simp[Jb]at h
 |succ f ih=>
  intro n o p h;rw[Jb]at h ⊢
  by_cases q:bs.length<p+1
  ·rw[Qg q]at h;simp at h
  rw[Qe q]at h ⊢
  split
  ·simp only;omega
  rename_i y;rw[Qe y]at h
  split
  ·rename_i hb;rw[Qg hb]at h;have:=ih _ _ _ h;omega
  rename_i hb;rw[Qe hb]at h;simp at h
def Qbm(ls bs):∀f n o p,(Jb ls bs f n o p).2.2≠0→Jb ls bs f n o p=(0,0,(Jb ls bs f n o p).2.2):=by
 intro f
 induction f with
 |zero=>intro n o p h;rfl
 |succ f ih=>
  intro n o p h;rw[Jb]at h ⊢
  split
  ·rfl
  rename_i y;rw[Qe y]at h
  split
  ·rename_i q;rw[Qg q]at h;simp at h
  rename_i q;rw[Qe q]at h
  split
  ·rename_i hb;rw[Qg hb]at h;exact ih _ _ _ h
  rfl
def Qbn(ls bs):∀f n a p,(Jb ls bs f n a p).2.2≤90:=by
 intro f
 induction f with
 |zero=>intro n a p;simp[Jb]
 |succ f ih=>
  intro n a p;rw[Jb]
  split
  ·simp
  split
  ·simp
  split
  ·exact ih _ _ _
  simp
end K
namespace K
def Dh(l:List Int):List Nat × Nat:=if XA l then(J9 (QA l),0)else([],80)
def JT(ls:List Nat)(i:Nat):List Bool:=low (Yr ls i) (ls.getD i 0)
def jR(ls i):(JT ls i).length=ls.getD i 0:=by simp[JT,XZ]
def Yj(ls:List Nat)(bs:List Bool)(n e:Int):Nat→List Nat→Nat→List Nat × Nat × Nat
 |0,_,_=>([],0,10)
 |f+1,out,p=>
  if(out.length:Int)<n then
   if(Z7 ls bs p).2.2≠0 then([],0,(Z7 ls bs p).2.2)
   else if((Z7 ls bs p).1:Int)=e then(out++[(Z7 ls bs p).1],(Z7 ls bs p).2.1,0)
   else Yj ls bs n e f (out++[(Z7 ls bs p).1]) (Z7 ls bs p).2.1
  else(out,p,0)
def JI(l:List Int)(bs:List Bool)(at_ n e:Int):List Nat × Nat × Nat:=
 if XA l then(if at_<0∨(bs.length:Int)<at_∨n<0 then([],0,2)else Yj (QA l) bs n e (bs.length+1) [] at_.toNat)else([],0,80)
def Np(ls bs p)(a:(Z7 ls bs p).2.2=0):p<(Z7 ls bs p).2.1∧(Z7 ls bs p).2.1≤bs.length:=Qbo ls bs _ _ _ _ a
def eI(ls bs p)(a:(Z7 ls bs p).2.2≠0):Z7 ls bs p=(0,0,(Z7 ls bs p).2.2):=Qbm ls bs _ _ _ _ a
def Tj(ls bs n e f a p)(b:¬(a.length:Int)<n):Yj ls bs n e (f+1) a p=(a,p,0):=by rw[Yj,Qe b]
def Tl(ls bs n e f a p x)(b:(a.length:Int)<n)(c:Z7 ls bs p=(0,0,x))(d:x≠0):Yj ls bs n e (f+1) a p=([],0,x):=by rw[Yj,Qg b,c,Qg d]
def Tk(ls bs n e f a p x b)(c:(a.length:Int)<n)(d:Z7 ls bs p=(x,b,0))(g:(x:Int)=e):Yj ls bs n e (f+1) a p=(a++[x],b,0):=by rw[Yj,Qg c,d,Qe<|by simp,Qg g]
def Tn(ls bs n e f a p x b)(c:(a.length:Int)<n)(d:Z7 ls bs p=(x,b,0))(g:(x:Int)≠e):Yj ls bs n e (f+1) a p=Yj ls bs n e f (a++[x]) b:=by rw[Yj,Qg c,d,Qe<|by simp,Qe g]
def low_bit(v m j)(a:j<m):(low v m).getD j false=v.testBit (m-1-j):=by rw[List.getD,cG v m j a];rfl
def aR(v d):2*(v/2^(d+1))+(v.testBit d).toNat=v/2^d:=by rw[Gz,JX,←PK];omega
def Qbp(ls)(f:∀x∈ls,x≤20)(a:room ls≤1048576)(bs p i)(hi:i<ls.length)(hp:p+ls.getD i 0≤bs.length)(hb:QS bs p (ls.getD i 0)=JT ls i):
 ∀d n,n+d=ls.getD i 0→1≤n→Jb ls bs (21-n) n (Yr ls i/2^(ls.getD i 0-(n-1))) (p+(n-1))=(i,p+ls.getD i 0,0):=by
 have⟨a,b⟩:=qx<|ls.getD i 0;have j:ls.getD i 0≤20:=by rw[List.getD,Qj hi];exact f _<|XW hi
 have g:∀e,e<a→bs.getD (p+e) false=(Yr ls i).testBit (a-1-e):=by intro e h;have c:=Qq (fun k=>k.getD e false) hb;unfold QS at c;rw[b,List.getD,Bi,Qg h,Uq]at c;unfold JT at c;rwa[b,low_bit _ _ _ h]at c
 have c:=Il ls i hi;rw[b]at hp j c ⊢;intro d
 induction d with
 |zero=>
  intro n e h;obtain rfl:n=a:=by omega
  rw[show 21-n=(20-n)+1 by omega,Jb,Qe<|by omega,g (n-1)<|by omega,show n-(n-1)=0+1 by omega,show n-1-(n-1)=0 by omega,aR,Nat.pow_zero,Nat.div_one,Qg c];have c:=IZ ls n 21 (Yr ls i-Zr ls n) i (by omega)<|(FW ls n _ i).2 ⟨hi,b,by unfold Yr;rw[b];omega⟩;rw[List.getD,c,Vs,show p+(n-1)+1=p+n by omega]
 |succ d c=>
  intro n e h;have c:=c (n+1) (by omega) (by omega);rw[Us]at c;have h:bs.getD (p+(n-1)) false=(Yr ls i).testBit (a-n):=by rw[g (n-1)<|by omega,show a-1-(n-1)=a-n by omega]
  have e:=yG ls n i hi (by omega);rw[b]at e;have e:=Qfu ls f _ n i hi (by omega) rfl;rw[b]at e;rw[show 21-n=(20-n)+1 by omega,Jb,Qe<|by omega,h,show a-(n-1)=(a-n)+1 by omega,aR,Qe<|by omega,Qg e];rw[show 21-(n+1)=20-n by omega]at c;rwa[show p+(n-1)+1=p+n by omega]
def Qbt(ls)(b:∀x∈ls,1≤x∧x≤20)(c:room ls≤1048576)(bs p i)(hi:i<ls.length)(hp:p+ls.getD i 0≤bs.length)(hb:QS bs p (ls.getD i 0)=JT ls i):Z7 ls bs p=(i,p+ls.getD i 0,0):=by
 have a:1≤ls.getD i 0:=by rw[List.getD,Qj hi];exact(b _<|XW hi).1
 have hlt:=Wl ls (fun x a=>(b x a).2) c i hi;have:=Qbp ls (fun x a=>(b x a).2) c bs p i hi hp hb (ls.getD i 0-1) 1 (by omega)<|Ql _;rw[show 21-1=20 from rfl,show 1-1=0 from rfl,Bm,Nat.div_eq_of_lt hlt,Y6]at this;exact this
end K
namespace K
end K
