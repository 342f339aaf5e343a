import Derived.Laws.AppendOwn
import Derived.Test.YtickjpnkoppmgaaGreatDoorAa
set_option linter.all false
namespace Go.Proofs.YtickjpnkoppmgaaGreatDoor
open Go.Proofs.Tryz Go.RowKit K
namespace K
def bt(bs:LB)(j:Nat):Nat:=(bs.getD j false).toNat
def U9(bs j):bt bs j≤1:=by unfold bt;exact DF _
def Mu(bs c j):bt (bs++[c]) j=if j=bs.length then c.toNat else bt bs j:=by
 unfold bt;rcases BZ j bs.length with a|a|a
 ·rw[Qf<|by omega];simp[List.getD,Xp a]
 ·subst a;simp[List.getD]
 rw[Qf<|by omega];have a:(bs++[c])[j]?=none:=QX (by simp;omega);have b:bs[j]?=none:=QX (by omega);simp[List.getD,a,b]
def Yz(bs:LB)(i:Nat):Nat:=
 128*bt bs (8*i)+64*bt bs (8*i+1)+32*bt bs (8*i+2)+16*bt bs (8*i+3)+8*bt bs (8*i+4)+4*bt bs (8*i+5)+2*bt bs (8*i+6)+bt bs (8*i+7)
def Mv(bs i):Yz bs i<256:=by unfold Yz;have:=U9 bs<|8*i;have:=U9 bs<|8*i+1;have:=U9 bs<|8*i+2;have:=U9 bs<|8*i+3;have:=U9 bs<|8*i+4;have:=U9 bs<|8*i+5;have:=U9 bs<|8*i+6;have:=U9 bs<|8*i+7;omega
def Qv(bs:LB):LU:=(List.range ((bs.length+7)/8)).map fun a=>UInt8.ofNat (Yz bs a)
def Ub(bs):(Qv bs).length=(bs.length+7)/8:=by simp[Qv]
def Gh(bs i)(a:i<(bs.length+7)/8):(Qv bs)[i]?=some (UInt8.ofNat<|Yz bs i):=by simp[Qv,Xa a]
def Iv(bs i):Yz (bs++[false]) i=Yz bs i:=by
 have h:∀j,bt (bs++[false]) j=bt bs j:=fun j=>by
  rw[Mu];split
  ·rename_i h;subst h;simp[bt,List.getD]
  rfl
 simp only[Yz,h]
def sN(bs i)(a:bs.length≤8*i):Yz bs i=0:=by
 have a:∀b,8*i≤b→bt bs b=0:=fun b c=>by have:bs[b]?=none:=QX (by omega);simp[bt,List.getD,this]
 simp only[Yz];rw[a _<|by omega,a _<|by omega,a _<|by omega,a _<|by omega,a _<|by omega,a _<|by omega,a _<|by omega,a _<|by omega]
def fH(bs):Qv (bs++[false])=if bs.length%8=0 then Qv bs++[0]else Qv bs:=by
 have o:(bs++[false]).length=bs.length+1:=by simp
 split
 ·rename_i h;have e:(bs.length+1+7)/8=(bs.length+7)/8+1:=by omega
  unfold Qv;rw[o,e,JJ,Xi]
  congr 1
  ·exact Yx fun i _=>by rw[Iv]
  simp only[QR,YG,Iv];rw[sN _ _<|by omega];rfl
 rename_i h;have e:(bs.length+1+7)/8=(bs.length+7)/8:=by omega
 unfold Qv;rw[o,e];exact Yx fun i _=>by rw[Iv]
def Qcr(x r)(b:r<8)(a:x%2^(8-r)=0):x|||(128/2^r)=x+2^(7-r):=by
 have a:128/2^r=2^(7-r):=by
  match r,b with
  |0,_=>rfl|1,_=>rfl|2,_=>rfl|3,_=>rfl|4,_=>rfl|5,_=>rfl|6,_=>rfl|7,_=>rfl
 rw[a];have a:x=2^(8-r)*(x/2^(8-r)):=by have:=LH x<|2^(8-r);omega
 rw[a];exact(Sk (Nat.pow_lt_pow_right (by decide)<|by omega) _).symm
def sL(bs i r)(a:bs.length=8*i+r)(c:r<8):Yz bs i%2^(8-r)=0:=by
 have a:∀b,8*i+r≤b→bt bs b=0:=fun b d=>by have:bs[b]?=none:=QX (by omega);simp[bt,List.getD,this]
 unfold Yz
 match r,c with
 |0,_=>rw[a _<|by omega,a _<|by omega,a _<|by omega,a _<|by omega,a _<|by omega,a _<|by omega,a _<|by omega,a _<|by omega]
 |1,_=>rw[a (8*i+1)<|by omega,a (8*i+2)<|by omega,a (8*i+3)<|by omega,a (8*i+4)<|by omega,a (8*i+5)<|by omega,a (8*i+6)<|by omega,a (8*i+7)<|by omega];omega
 |2,_=>rw[a (8*i+2)<|by omega,a (8*i+3)<|by omega,a (8*i+4)<|by omega,a (8*i+5)<|by omega,a (8*i+6)<|by omega,a (8*i+7)<|by omega];omega
 |3,_=>rw[a (8*i+3)<|by omega,a (8*i+4)<|by omega,a (8*i+5)<|by omega,a (8*i+6)<|by omega,a (8*i+7)<|by omega];omega
 |4,_=>rw[a (8*i+4)<|by omega,a (8*i+5)<|by omega,a (8*i+6)<|by omega,a (8*i+7)<|by omega];omega
 |5,_=>rw[a (8*i+5)<|by omega,a (8*i+6)<|by omega,a (8*i+7)<|by omega];omega
 |6,_=>rw[a (8*i+6)<|by omega,a (8*i+7)<|by omega];omega
 |7,_=>rw[a (8*i+7)<|by omega];omega
def sO(bs i r)(d:bs.length=8*i+r)(c:r<8):Yz (bs++[true]) i=Yz bs i+2^(7-r):=by
 have b:∀a,bt (bs++[true]) a=if a=bs.length then 1 else bt bs a:=fun a=>by rw[Mu];rfl
 have h0:bt bs bs.length=0:=by simp[bt,List.getD]
 rw[d]at b h0;unfold Yz;simp only[b]
 match r,c with
 |0,_=>simp at h0 ⊢;omega
 |1,_=>simp[h0];omega
 |2,_=>simp[h0];omega
 |3,_=>simp[h0];omega
 |4,_=>simp[h0];omega
 |5,_=>simp[h0];omega
 |6,_=>simp[h0];omega
 |7,_=>simp[h0]
def TM(bs c i)(hi:i≠bs.length/8):Yz (bs++[c]) i=Yz bs i:=by
 have a:∀b,b≠bs.length→bt (bs++[c]) b=bt bs b:=fun b b=>by rw[Mu,Qf b]
 unfold Yz;rw[a _<|by omega,a _<|by omega,a _<|by omega,a _<|by omega,a _<|by omega,a _<|by omega,a _<|by omega,a _<|by omega]
def Qc8(bs):
 Qv (bs++[true])=(Qv<|bs++[false]).set (bs.length/8) (UInt8.ofNat<|Yz bs (bs.length/8)|||(128/2^(bs.length%8))):=by
 have b:∀a,(bs++[a]).length=bs.length+1:=by simp
 rw[Qcr _ _ (JL _<|by decide)<|sL bs _ _ (by omega)<|JL _<|by decide];apply Xo;intro c;rw[YO]
 by_cases hi:c<(bs.length+1+7)/8
 ·rw[Gh _ _<|by rwa[b],Gh _ _<|by rwa[b],Ub,b]
  by_cases a:bs.length/8=c
  ·rw[Qg a,Qg<|by omega];subst a;rw[sO bs _ (bs.length%8) (by omega)<|JL _<|by decide]
  rw[Qf a,TM _ _ _ fun d=>a d.symm,TM _ _ _ fun d=>a d.symm]
 have a:(Qv<|bs++[true])[c]?=none:=QX (by rw[Ub,b];omega);have d:(Qv<|bs++[false])[c]?=none:=QX (by rw[Ub,b];omega);rw[a,d,Qf<|by omega]
def low(v n:Nat):LB:=(List.range n).map fun a=>v.testBit (n-1-a)
def X0(v n):(low v n).length=n:=by simp[low]
def Qa3(v n k)(a:k<n):(low v n).take (k+1)=(low v n).take k++[v.testBit<|n-1-k]:=by
 have b:k<(low v n).length:=by rwa[X0]
 rw[Ay b];simp[low]
def cW(v n k)(a:k<n):(low v n)[k]?=some (v.testBit<|n-1-k):=by simp[low,Xa a]
def num(l:LB):Nat:=l.foldl (fun b a=>2*b+a.toNat) 0
def Ge(l b):num (l++[b])=2*num l+b.toNat:=by simp[num,DK]
def Dr(l):num l<2^l.length:=by
 suffices c:∀a (l:LB),l.length=a→num l<2^a from c _ l rfl
 intro a
 induction a with
 |zero=>intro l b;rw[J3 b];simp[num]
 |succ a ih=>
  intro l b;have hne:l≠[]:=by intro c;simp[c]at b
  have a:=GK hne;rw[←a,Ge];have:=ih l.dropLast (by simp[b]);have:=DF<|l.getLast hne;rw[J5];omega
def X4(s:LU)(i:Nat):Bool:=(s.getD (i/8) 0).toNat.testBit (7-i%8)
def Qk(s:LU):LB:=(List.range (8*s.length)).map (X4 s)
def Yt(s):(Qk s).length=8*s.length:=by simp[Qk]
def Rb(s i)(a:i<8*s.length):(Qk s)[i]?=some (X4 s i):=by simp[Qk,Xa a]
def rW(s k)(a:k<8*s.length):(Qk s).take (k+1)=(Qk s).take k++[X4 s k]:=by
 have b:k<(Qk s).length:=by rwa[Yt]
 rw[Ay b]
 congr 2
 have:=Rb s k a;rw[Qj b]at this;exact Option.some.inj this
def QW(l:LB)(at_ n:Nat):LB:=(l.drop at_).take n
def Kw(l at_ n)(a:at_+n≤l.length):(QW l at_ n).length=n:=by simp[QW];omega
def Oi(l at_):QW l at_ 0=[]:=by simp[QW]
def fT(s at_ k)(a:at_+k<8*s.length):QW (Qk s) at_ (k+1)=QW (Qk s) at_ k++[X4 s<|at_+k]:=by
 have b:k<((Qk s).drop at_).length:=by rw[Y0,Yt];omega
 unfold QW;rw[Ay b]
 congr 2
 have:=Rb s (at_+k) a;have b:at_+k<(Qk s).length:=by rwa[Yt]
 rw[Qj b]at this;simpa using this
def Gx(v i):((v.testBit i).toNat:Nat)=v/2^i%2:=by rw[Nat.testBit_eq_decide_div_mod_eq];have:=JL (v/2^i) (by decide:0<2);rcases(by omega:v/2^i%2=0∨v/2^i%2=1)with a|a<;>rw[a]<;>rfl
def Qf6(v)(b:Bool):(v*2)|||b.toNat=2*v+b.toNat:=by have:=Sk (i:=1) (b:=b.toNat) (by have:=DF b;omega) v;rw[show v*2=2^1*v by omega,←this]
def QV(bs:LB)(i:Nat):Nat→Nat
 |0=>0
 |k+1=>QV bs i k*2+bt bs (8*i+k)
def ZU(a:Int):Nat→LB→Nat × Nat
 |_,[]=>(0,10)
 |n,false::_=>(n,0)
 |n,true::t=>if(n:Int)=a then(0,3)else ZU a (n+1) t
def Qik(b n i s)(a:i<8*s.length)(hb:X4 s i=false):ZU b n ((Qk s).drop i)=(n,0):=by
 have b:i<(Qk s).length:=by rwa[Yt]
 have:=Rb s i a;rw[Qj b]at this;rw[Z8 b,Option.some.inj this,hb];rfl
def Qij(a n i s)(b:i<8*s.length)(hb:X4 s i=true):
 ZU a n ((Qk s).drop i)=if(n:Int)=a then(0,3)else ZU a (n+1) ((Qk s).drop<|i+1):=by
 have a:i<(Qk s).length:=by rwa[Yt]
 have:=Rb s i b;rw[Qj a]at this;rw[Z8 a,Option.some.inj this,hb];rfl
def Qih(b n i s)(a:8*s.length≤i):ZU b n ((Qk s).drop i)=(0,10):=by rw[BV<|by rwa[Yt]];rfl
end K
namespace K
def kN(bs i)(a:i<8*(Qv bs).length):X4 (Qv bs) i=bs.getD i false:=by
 have hi:i/8<(bs.length+7)/8:=by rw[Ub]at a;omega
 unfold X4;rw[List.getD,Gh bs _ hi,VI,U7,XP<|Mv bs _];have b:((Yz bs<|i/8).testBit<|7-i%8).toNat=(bs.getD i false).toNat:=by
  rw[Gx];have hb:(bs.getD i false).toNat=bt bs (8*(i/8)+i%8):=by unfold bt;rw[show 8*(i/8)+i%8=i by omega]
  rw[hb];unfold Yz;have h0:=U9 bs<|8*(i/8);have:=U9 bs<|8*(i/8)+1;have:=U9 bs<|8*(i/8)+2;have:=U9 bs<|8*(i/8)+3;have:=U9 bs<|8*(i/8)+4;have:=U9 bs<|8*(i/8)+5;have h6:=U9 bs<|8*(i/8)+6;have h7:=U9 bs<|8*(i/8)+7;have a:i%8<8:=JL _ (by decide);generalize i%8=r at a
  match r,a with
  |0,_=>simp;omega
  |1,_=>simp;omega
  |2,_=>simp;omega
  |3,_=>simp;omega
  |4,_=>simp;omega
  |5,_=>simp;omega
  |6,_=>simp;omega
  |7,_=>simp;omega
 revert b
 cases (Yz bs<|i/8).testBit (7-i%8)<;>cases bs.getD i false<;>simp
def fQ(bs i n)(h:i+n≤bs.length):QW (Qk<|Qv bs) i n=QW bs i n:=by
 apply Xo;intro j;unfold QW;rw[Bm,Bm]
 split
 ·rename_i o;rw[J4,J4,Rb _ _ (by rw[Ub];omega),kN _ _ (by rw[Ub];omega)];rw[List.getD,Qj (by omega:i+j<bs.length)];rfl
 rfl
def Qa2(v n):low v (n+1)=low (v/2) n++[v.testBit 0]:=by
 unfold low;rw[JJ,Xi]
 congr 1
 ·refine Yx fun a hk=>?_
  have:=ZL.1 hk;rw[show n+1-1-a=(n-1-a)+1 by omega,Nat.testBit_succ]
 simp
def Kp(v n):num (low v n)=v%2^n:=by
 induction n generalizing v with
 |zero=>simp[low,num];omega
 |succ n ih=>rw[Qa2,Ge,ih,Gx,J5,RX (2^n) 2,Nat.mod_mul];simp;omega
def EE(a b c):QW (a++b++c) a.length b.length=b:=by unfold QW;rw[QQ,Fa,CQ]
end K
section
namespace K
def JB(s:LU)(n:Nat):LU:=((List.range n).map UInt8.ofNat).filter fun a=>decide (a∈s)
def QL(s:LU):LU:=JB s 256
def lD(s)(n:Nat)(a:UInt8.ofNat n∈s):JB s (n+1)=JB s n++[UInt8.ofNat n]:=by unfold JB;rw[JJ,Xi,Aw];simp[a]
def lC(s)(n:Nat)(a:UInt8.ofNat n∉s):JB s (n+1)=JB s n:=by unfold JB;rw[JJ,Xi,Aw];simp[a]
def lB(s n):(JB s n).length≤n:=by unfold JB;exact QS (DL _ _) (by simp)
def qZ:((List.range 256).map UInt8.ofNat).Pairwise (· < ·):=by decide+kernel
def GB(s):(QL s).Pairwise (· < ·):=qZ.sublist PS
def Gb(s b):b∈QL s↔b∈s:=by
 unfold QL JB;simp only[DO,QB,ZL,Zv];constructor
 ·exact fun a=>a.2
 exact fun a=>⟨⟨b.toNat,VM b,by simp⟩,a⟩
def gS{l:LU}(c:l.Pairwise (· < ·)):l.Nodup:=c.imp fun {a b} hab he=>by rw[he]at hab;exact absurd hab<|UInt8.lt_irrefl b
def Pk(l):QL l=l↔l.Pairwise (· < ·):=by
 constructor
 ·intro a;rw[←a];exact GB l
 intro a;refine GI (le:=(· < ·)) (fun b c _ _ c d=>absurd (UInt8.lt_trans c d)<|UInt8.lt_irrefl b) (GB l) a ?_;exact(Sa (gS<|GB l)<|gS a).2 (Gb l)
def lE(s):QL (QL s)=QL s:=(Pk _).2 (GB s)
def Vc(l:LU):Bool:=decide (l≠[])&&decide (QL l=l)
def Qbj(s)(b:s≠[]):Vc (QL s)=true:=by
 unfold Vc;have:QL s≠[]:=by obtain⟨a,hb⟩:=List.exists_mem_of_ne_nil _ b;exact fun b=>by have:=(Gb s a).2 hb;rw[b]at this;cases this
 simp[this,lE]
def Qbi(l)(h0:l≠[])(b:∀i,i+1<l.length→l.getD i 0<l.getD (i+1) 0):Vc l=true:=by
 have key:∀a i,i+a+1<l.length→l.getD i 0<l.getD (i+a+1) 0:=by
  intro a
  induction a with
  |zero=>exact fun i hi=>b i hi
  |succ a ih=>exact fun i hi=>UInt8.lt_trans (ih i<|by omega)<|b (i+a+1) hi
 have hp:l.Pairwise (· < ·):=by rw[Jp];intro i a hi b c;have:=key (a-i-1) i (by omega);rw[show i+(a-i-1)+1=a by omega,List.getD,List.getD,Qj hi,Qj b]at this;exact this
 unfold Vc;simp[h0,(Pk l).2 hp]
def Qbh(l i)(hi:i+1<l.length)(a:¬l.getD i 0<l.getD (i+1) 0):Vc l=false:=by
 have:QL l≠l:=by intro b;have hp:=(Pk l).1 b;rw[Jp]at hp;have:=hp i (i+1) (by omega) hi (by omega);rw[List.getD,List.getD,Qj hi,Qj (by omega:i<l.length)]at a;exact a this
 unfold Vc;simp[this]
section
variable {α:Type} [Inhabited α]
def turned(l:List α)(p:Nat):List α:=l.getD p default::l.eraseIdx p
def DA(l:List α)(p)(a:p<l.length):(turned l p).length=l.length:=by unfold turned;rw[Q0,List.length_eraseIdx_of_lt a];omega
def Gy(l p)(a:p<l.length)(b:α):b∈turned l p↔b∈l:=by
 have c:l=l.take p++l[p]::l.drop (p+1):=by rw[←Z8 a,V6]
 have hp:(turned l p).Perm l:=by
  unfold turned;rw[List.eraseIdx_eq_take_drop_succ,List.getD,Qj a]
  conv=>rhs;rw[c]
  exact List.perm_middle.symm
 exact hp.mem_iff
def Qia(l:List α)(p):turned l p=l.getD p default::(l.take p++l.drop (p+1)):=by unfold turned;rw[List.eraseIdx_eq_take_drop_succ]
variable [BEq α] [LawfulBEq α]
def front(l:List α):List α→Option LN
 | []=>some []
 |b::s=>if l.idxOf b=l.length then none else(front (turned l (l.idxOf b)) s).map (l.idxOf b:: ·)
def back(l:List α):LI→Option (List α)
 | []=>some []
 |p::ps=>if p<0∨(l.length:Int)≤p then none else(back (turned l p.toNat) ps).map (l.getD p.toNat default:: ·)
def bM(l:List α)(b:α)(a:l.idxOf b<l.length):l.getD (l.idxOf b) default=b:=by rw[List.getD,Qj a];exact GO a
def rN(s):∀(l:List α)(o:LN),front l s=some o→back l (o.map fun p:Nat=>(p:Int))=some s:=by
 induction s with
 |nil=>intro l o h;simp[front]at h;subst h;rfl
 |cons b s ih=>
  intro l o h;have q:l.idxOf b≤l.length:=List.idxOf_le_length;rw[front]at h
  split at h
  ·cases h
  rename_i hne;have hlt:l.idxOf b<l.length:=by omega
  cases hf:front (turned l<|l.idxOf b) s with
  |none=>rw[hf]at h;cases h
  |some qs=>rw[hf]at h;obtain rfl:l.idxOf b::qs=o:=(by simpa using h);have:=ih _ _ hf;rw[QR,back,Qf<|by omega,Zs,this,bM l b hlt];rfl
def xD(s):∀(l:List α),(∀b∈s,b∈l)→∃a,front l s=some a:=by
 induction s with
 |nil=>exact fun l _=>⟨[],rfl⟩
 |cons b s ih=>intro l d;have hlt:=Lt (d b<|by simp);obtain⟨a,f⟩:=ih (turned l<|l.idxOf b) fun c e=>(Gy l _ hlt c).2 (d c<|by simp[e]);exact⟨l.idxOf b::a,by rw[front,Qf<|by omega,f];rfl⟩
def xA(s):∀(l:List α)(c:LN),front l s=some c→c.length=s.length:=by
 induction s with
 |nil=>intro l c a;simp[front]at a;subst a;rfl
 |cons b s ih=>
  intro l c a;rw[front]at a
  split at a
  ·cases a
  cases hf:front (turned l<|l.idxOf b) s with
  |none=>rw[hf]at a;cases a
  |some qs=>rw[hf]at a;obtain rfl:l.idxOf b::qs=c:=(by simpa using a);simp[ih _ _ hf]
def wZ(l)(b:α)(s)(a:l.idxOf b<l.length):front l (b::s)=(front (turned l<|l.idxOf b) s).map (l.idxOf b:: ·):=by rw[front,Qf<|by omega]
def xC(l)(b:α)(s)(a:l.idxOf b=l.length):front l (b::s)=none:=by rw[front,Qg a]
def dI{b:Type}(a:Option (List b))(A)(x:b):(a.map (x:: ·)).map (A++ ·)=a.map (A++[x]++ ·):=by cases a<;>simp
end
def Af(s all:LU):LN × Nat:=if Vc all then match front all s with|none=>([],60)|some l=>(l,0)else([],2)
def AH(l:LI)(all:LU):LU × Nat:=if Vc all then match back all l with|none=>([],60)|some s=>(s,0)else([],2)
def Kq(bs):∀j,j<bs.length→(num bs).testBit j=bs.getD (bs.length-1-j) false:=by
 suffices h:∀n (bs:LB),bs.length=n→∀j,j<n→(num bs).testBit j=bs.getD (n-1-j) false by intro j o;exact h _ bs rfl j o
 intro n
 induction n with
 |zero=>intro bs _ j o;omega
 |succ n ih=>
  intro bs q j o;have hne:bs≠[]:=by intro h;simp[h]at q
  have e:=GK hne;have y:bs.dropLast.length=n:=by simp[q]
  rw[←e,Ge];cases j with
  |zero=>rw[show n+1-1-0=bs.dropLast.length by omega];cases bs.getLast hne<;>simp[List.getD]
  |succ j=>rw[Nat.testBit_succ,show(2*num bs.dropLast+(bs.getLast hne).toNat)/2=num bs.dropLast by have:=DF<|bs.getLast hne;omega,ih _ y j<|by omega];rw[List.getD,List.getD,Xp<|by omega,show n+1-1-(j+1)=n-1-j by omega]
def Qaz(bs):low (num bs) bs.length=bs:=by
 apply Xo;intro a
 by_cases hk:a<bs.length
 ·rw[cW _ _ _ hk,Kq bs _<|by omega,show bs.length-1-(bs.length-1-a)=a by omega,List.getD,Qj hk];rfl
 rw[QX (by rw[X0];omega),QX<|by omega]
def UO(f:Nat→Bool)(n:Nat):Nat:=num ((List.range n).map f)
def Ki(f n):UO f n<2^n:=by have:=Dr<|(List.range n).map f;simpa[UO]using this
def dK(f n):low (UO f n) n=(List.range n).map f:=by have:=Qaz<|(List.range n).map f;simpa[UO]using this
def NH(f n k)(a:k<n):(UO f n).testBit (n-1-k)=f k:=by unfold UO;rw[Kq _ _ (by simp;omega)];simp[List.getD,show n-1-(n-1-k)=k by omega,Xa a]
def dJ(x f n)(a:x<2^n)(c:∀k,k<n→x.testBit (n-1-k)=f k):x=UO f n:=by
 apply Nat.eq_of_testBit_eq;intro a
 by_cases b:a<n
 ·have b:=c (n-1-a) (by omega);have c:=NH f n (n-1-a) (by omega);rw[show n-1-(n-1-a)=a by omega]at b c;rw[b,c]
 have hp:2^n≤2^a:=Jc (by decide) (by omega);rw[Nat.testBit_lt_two_pow<|by omega,Nat.testBit_lt_two_pow (by have:=Ki f n;omega)]
def dM(f g n p)(hp:p<n)(a:∀k,k<n→g k=(f k||decide (k=p))):UO f n|||2^(n-1-p)=UO g n:=by
 refine dJ _ _ _ (Nat.or_lt_two_pow (Ki f n)<|Nat.pow_lt_pow_right (by decide)<|by omega) fun k hk=>?_
 rw[Nat.testBit_or,NH f n k hk,a k hk,Nat.testBit_two_pow]
 congr 1
 rw[DE];simp;omega
def NI(f g n)(a:∀k,k<n→f k=g k):UO f n=UO g n:=by unfold UO;congr 1;exact Yx fun k hk=>a k<|ZL.1 hk
def dL(n):UO (fun _=>false) n=0:=by have:(0:Nat)=UO (fun _=>false) n:=dJ 0 _ n (CU n) (fun a hk=>by simp);exact this.symm
def Qbb(f n):UO f n=0↔∀k,k<n→f k=false:=by
 constructor
 ·intro a k hk;have:=NH f n k hk;rw[a]at this;simpa using this.symm
 intro a;rw[NI f (fun _=>false) n a,dL]
def has(l:LU)(i k:Nat):Bool:=decide (UInt8.ofNat (16*i+k)∈l)
def VX(l:LU)(i:Nat):LB:=(List.range 16).map (has l i)
def Jw(l:LU)(i:Nat):Bool:=(List.range 16).any (has l i)
def UR(l:LU)(i:Nat):Nat:=UO (has l i) 16
def KF(l i):(VX l i).length=16:=by simp[VX]
def OG(l i):UR l i=0↔Jw l i=false:=by unfold UR Jw;rw[Qbb,List.any_eq_false];simp
def Qfk(l i):low (UR l i) 16=VX l i:=dK _ _
def bE(l b i k)(hi:i<16)(hk:k<16):has (l++[b]) i k=(has l i k||decide (i=b.toNat/16∧k=b.toNat%16)):=by
 unfold has;rw[DE];simp only[Q6,Za,Zv,ET];refine or_congr Iff.rfl ?_;constructor
 ·intro a;have:=Qu UInt8.toNat a;rw[U7]at this;omega
 rintro⟨rfl,rfl⟩;rw[LH];simp
def Qfm(l b):UR (l++[b]) (b.toNat/16)=UR l (b.toNat/16)|||2^(15-b.toNat%16):=by have hb:=VM b;refine(dM (has l<|b.toNat/16) _ 16 (b.toNat%16) (by omega) fun a hk=>?_).symm;rw[bE l b _ a (by omega) hk];simp
def Qfl(l b i)(hi:i<16)(a:i≠b.toNat/16):UR (l++[b]) i=UR l i:=by
 refine NI _ _ _ fun c hk=>?_
 rw[bE l b i c hi hk];simp[a]
def Rf(l:LU)(n:Nat):Nat:=UO (fun a=>decide (a<n)&&Jw l a) 16
def yT(l):Rf l 0=0:=by unfold Rf;simp[dL]
def yS(l n)(a:n<16)(b:Jw l n=true):Rf l (n+1)=Rf l n|||2^(15-n):=by
 refine(dM _ _ 16 n a fun d hk=>?_).symm;rw[DE];simp only[Xh,ET,Zv];constructor
 ·rintro⟨c,a⟩
  by_cases hk:d=n
  ·exact .inr hk
  exact .inl ⟨by omega,a⟩
 rintro(⟨c,a⟩|rfl)
 ·exact⟨by omega,a⟩
 exact⟨by omega,b⟩
def yR(l n)(d:Jw l n=false):Rf l (n+1)=Rf l n:=by
 refine NI _ _ _ fun c hk=>?_
 rw[DE];simp only[Xh,Zv];constructor
 ·rintro⟨e,a⟩;refine⟨?_,a⟩;rcases Xq c n with b|b
  ·exact b
  obtain rfl:c=n:=by omega
  rw[d]at a;cases a
 rintro⟨e,a⟩;exact⟨by omega,a⟩
def Aj(l:LU):LB:=(List.range 16).map (Jw l)
def FQ(l):(Aj l).length=16:=by simp[Aj]
def yQ(l):low (Rf l 16) 16=Aj l:=by unfold Rf Aj;rw[dK];exact Yx fun a hi=>by simp[ZL.1 hi]
def bG(l n):Rf l n<65536:=Ki _ 16
def gY(l n):UR l n<65536:=Ki _ 16
def XN(l:LU)(n:Nat):LB:=(List.range n).flatMap fun a=>if Jw l a then VX l a else []
def Qfp(l):XN l 0=[]:=rfl
def Gk(l n)(a:Jw l n=true):XN l (n+1)=XN l n++VX l n:=by unfold XN;rw[JJ,Lq];simp[a]
def Gj(l n)(a:Jw l n=false):XN l (n+1)=XN l n:=by unfold XN;rw[JJ,Lq];simp[a]
def iA(l n):(XN l n).length≤16*n:=by
 induction n with
 |zero=>simp[XN]
 |succ n ih=>
  rcases JD (Jw l n)with a|a
  ·rw[Gk l n a,Qo,KF];omega
  rw[Gj l n a];omega
def ZS(l:LU):LB:=Aj l++XN l 16
def OV(l):(ZS l).length≤272:=by unfold ZS;rw[Qo,FQ];have:=iA l 16;omega
def EL(l:LU):LU × Int × Nat:=if Vc l then(Qv (ZS l),(((ZS l).length:Nat):Int),0)else([],0,2)
def JY(i:Nat)(r:LB)(n:Nat):LU:=((List.range n).filter fun a=>r.getD a false).map fun a=>UInt8.ofNat (16*i+a)
def iL(i r n)(a:r.getD n false=true):JY i r (n+1)=JY i r n++[UInt8.ofNat<|16*i+n]:=by
 unfold JY;rw[JJ,Aw,Xi]
 congr 1
 rw[Fb,Qg a];rfl
def iJ(i r n)(a:r.getD n false=false):JY i r (n+1)=JY i r n:=by unfold JY;rw[JJ,Aw,Xi];rw[Fb,Qf (by rw[a];decide)];simp
def iI(i r n):(JY i r n).length≤n:=by unfold JY;rw[QH];exact QS (DL _ _) (by simp)
def Uz(bs:LB)(a:Nat→Bool):Nat→Nat→Nat→LU→Option (LU × Nat)
 |0,_,p,out=>some (out,p)
 |k+1,i,p,out=>if a i then(if bs.length<p+16 then none else Uz bs a k (i+1) (p+16) (out++JY i (QW bs p 16) 16))else Uz bs a k (i+1) p out
def KI:Option (LU × Nat)→LU × Int × Nat
 |none=>([],0,10)
 |some (out,p)=>if out=[]then([],0,60)else(out,(p:Int),0)
def As(bs:LB)(at_:Int):LU × Int × Nat:=
 if at_<0∨(bs.length:Int)<at_ then([],0,2)else if bs.length<at_.toNat+16 then([],0,10)else
  KI (Uz bs (fun a=>bs.getD (at_.toNat+a) false) 16 0 (at_.toNat+16) [])
def iK(l i n)(hi:i<16)(a:n≤16):JB l (16*i+n)=JB l (16*i)++JY i (VX l i) n:=by
 induction n with
 |zero=>simp[JY]
 |succ n b=>
  have b:=b (by omega);have c:(VX l i).getD n false=has l i n:=by simp[VX,List.getD,Xa (by omega:n<16)]
  rcases JD (has l i n)with a|a
  ·rw[iL _ _ _<|c.trans a,←QQ,←b];exact lD l (16*i+n)<|Ct a
  rw[iJ _ _ _<|c.trans a,←b];exact lC l (16*i+n)<|NW a
def Qip(l i)(hi:i<16)(a:Jw l i=false):JB l (16*(i+1))=JB l (16*i):=by
 have b:=iK l i 16 hi (by omega);rw[show 16*(i+1)=16*i+16 by omega,b];have:JY i (VX l i) 16=[]:=by unfold JY;rw[List.map_eq_nil_iff,List.filter_eq_nil_iff];intro c hk;have b:=ZL.1 hk;unfold Jw at a;rw[List.any_eq_false]at a;have:=a c hk;simpa[VX,List.getD,Xa b]using this
 rw[this,XH]
def Qhv(bs l p)(hp:∀j n,j+n≤(XN l 16).length→QW bs (p+j) n=QW (XN l 16) j n)(a:p+(XN l 16).length≤bs.length):
 ∀k i,i+k=16→Uz bs (Jw l) k i (p+(XN l i).length) (JB l<|16*i)=some (QL l,p+(XN l 16).length):=by
 intro k
 induction k with
 |zero=>
  intro i hi;have hi:i=16:=by omega
  subst hi;rfl
 |succ k d=>
  intro i hi;have d:=d (i+1) (by omega);have:∀a,∃c,XN l (i+a)=XN l i++c:=by
   intro a
   induction a with
   |zero=>exact⟨[],by simp⟩
   |succ a d=>
    obtain⟨c,e⟩:=d;rcases JD (Jw l<|i+a)with b|b
    ·exact⟨c++VX l (i+a),by rw[show i+(a+1)=i+a+1 by omega,Gk _ _ b,e,QQ]⟩
    exact⟨c,by rw[show i+(a+1)=i+a+1 by omega,Gj _ _ b,e]⟩
  rw[Uz];rcases JD (Jw l i)with b|b
  ·have f:=Gk l i b;obtain⟨c,e⟩:∃c,XN l 16=XN l (i+1)++c:=by
    have:∀a,∃c,XN l (i+1+a)=XN l (i+1)++c:=by
     intro a
     induction a with
     |zero=>exact⟨[],by simp⟩
     |succ a d=>
      obtain⟨c,e⟩:=d;rcases JD (Jw l<|i+1+a)with b|b
      ·exact⟨c++VX l (i+1+a),by rw[show i+1+(a+1)=i+1+a+1 by omega,Gk _ _ b,e,QQ]⟩
      exact⟨c,by rw[show i+1+(a+1)=i+1+a+1 by omega,Gj _ _ b,e]⟩
    have:=this<|16-(i+1);rwa[show i+1+(16-(i+1))=16 by omega]at this
   have a:(XN l i).length+16≤(XN l 16).length:=(by rw[e,f,Qo,Qo,KF];omega);rw[Qg b,Qf<|by omega,hp _ _ a];have a:QW (XN l 16) (XN l i).length 16=VX l i:=(by rw[e,f];have:=EE (XN l i) (VX l i) c;rwa[KF]at this);rw[a,←iK l i 16 (by omega) (by omega),show 16*i+16=16*(i+1)by omega];rwa[f,Qo,KF,←Ja]at d
  have a:=Gj l i b;rw[a,Qip l i (by omega) b]at d;rw[Qf (by rw[b];decide)];exact d
end K
end
namespace K
def Qdq(s p)(a:p<8*s.length):QW (Qk s) p 1=[X4 s p]:=by have:=fT s p 0 (by omega);rw[Oi]at this;simpa using this
def Qcj(b):num [b]=b.toNat:=by simp[num]
def Qa1(b):low b.toNat 1=[b]:=by cases b<;>rfl
end K
namespace K
def Ut(s:LU)(n:Int):Bool:=decide (0≤n∧n≤(8*s.length:Nat)∧((8*s.length:Nat):Int)-n<8)&&((Qk s).drop n.toNat).all (! ·)
def Qf7:∀r:Fin 8,∀x:Fin 256,(x.val*2^r.val%256==0)=((List.range<|8-r.val).all fun k=>! x.val.testBit (7-(r.val+k))):=by decide+kernel
def Qbe(s)(n:Nat)(a:¬s.length=n/8+(n%8+7)/8):Ut s n=false:=by
 have:¬(0≤(n:Int)∧(n:Int)≤(8*s.length:Nat)∧((8*s.length:Nat):Int)-n<8):=by omega
 unfold Ut;rw[Xz this];rfl
def Qbd(s)(n:Nat)(a:s.length=n/8+(n%8+7)/8)(a:n%8=0):Ut s n=true:=by
 have a:0≤(n:Int)∧(n:Int)≤(8*s.length:Nat)∧((8*s.length:Nat):Int)-n<8:=by omega
 unfold Ut;rw[Xs a,Zs,JI (by rw[Yt];omega)];rfl
def Qbf(s)(n:Nat)(a:s.length=n/8+(n%8+7)/8)(a:¬n%8=0):Ut s n=((s.getD (s.length-1) 0).toNat*2^(n%8)%256==0):=by
 obtain⟨b,c⟩:(0≤(n:Int)∧(n:Int)≤(8*s.length:Nat)∧((8*s.length:Nat):Int)-n<8)∧s.length-1=n/8:=by omega
 have a:=Qf7 ⟨n%8,by omega⟩ ⟨(s.getD (s.length-1) 0).toNat,VM _⟩;simp only at a;rw[a];unfold Ut;rw[Xs b,Zs,V1,DE,XO,XO];constructor
 ·intro b a hk;have:=ZL.1 hk;refine b _<|List.mem_iff_getElem?.2 ⟨a,?_⟩;rw[J4,Rb s (n+a)<|by omega]
  congr 1
  unfold X4;rw[show(n+a)/8=n/8 by omega,show(n+a)%8=n%8+a by omega,c]
 intro b d hb;obtain⟨a,hk⟩:=List.mem_iff_getElem?.1 hb;rw[J4]at hk;have hlt:=(Qz.1 hk).1;rw[Yt]at hlt;rw[Rb s (n+a) hlt]at hk;have:=b a (ZL.2<|by omega);rw[←Option.some.inj hk];unfold X4;rw[show(n+a)/8=n/8 by omega,show(n+a)%8=n%8+a by omega,←c];exact this
end K
namespace K
def BK(p:LU × Int):LB:=(Qk p.1).take p.2.toNat
def Yo(a:List (LU × Int)):LB:=a.flatMap BK
def Jl(a:List (LU × Int)):Nat:=(a.map fun a=>a.1.length).sum
def BE(a:List (LU × Int)):LU × Int × Nat:=
 if a.all fun b=>Ut b.1 b.2 then(Qv (Yo a),((Yo a).length:Nat),0)else([],0,2)
def Qco(p):(BK p).length≤8*p.1.length:=by unfold BK;rw[Zl,Yt];omega
def zW(a):(Yo a).length≤8*Jl a:=by
 induction a with
 |nil=>simp[Yo,Jl]
 |cons p a ih=>
  have:=Qco p;have b:Yo (p::a)=BK p++Yo a:=by simp[Yo]
  have c:Jl (p::a)=p.1.length+Jl a:=by simp[Jl]
  rw[b,c,Qo];omega
def Qh5(a j):Jl (a.take j)≤Jl a:=by
 have:Jl a=Jl (a.take j)+Jl (a.drop j):=by
  conv=>lhs;rw[←V6 j a]
  simp only[Jl,Xi,List.sum_append]
 omega
def Qh4(a)(j:Nat)(p)(b:a[j]?=some p):p.1.length≤Jl a:=by
 induction a generalizing j with
 |nil=>simp at b
 |cons q a ih=>
  have:Jl (q::a)=q.1.length+Jl a:=by simp[Jl]
  cases j with
  |zero=>simp at b;subst b;omega
  |succ j=>have:=ih j (by simpa using b);omega
def zY(b:List (LU × Int))(j p)(a:b[j]?=some p):Yo (b.take<|j+1)=Yo (b.take j)++BK p:=by have b:=(Qz.1 a).1;rw[Ay b];rw[Qj b]at a;rw[Option.some.inj a];simp[Yo]
def rD(b:List (LU × Int))(f j p)(a:b[j]?=some p):(b.take<|j+1).all f=((b.take j).all f&&f p):=by have b:=(Qz.1 a).1;rw[Ay b];rw[Qj b]at a;rw[Option.some.inj a];simp
def rC(a:List (LU × Int))(f)(j:Nat)(p:LU × Int)(b:a[j]?=some p)(hf:f p=false):a.all f=false:=by
 cases hall:a.all f with
 |false=>rfl
 |true=>have:=(XO.1 hall) p<|QA b;rw[hf]at this;cases this
def zZ(a)(j:Nat)(p)(b:a[j]?=some p)(hf:Ut p.1 p.2=false):BE a=([],0,2):=by unfold BE;rw[rC a (fun p=>Ut p.1 p.2) j p b hf];rfl
def Qbg(s n)(a:Ut s n=true):0≤n∧n≤(8*s.length:Nat):=by unfold Ut at a;rw[Xh]at a;have:=Ct a.1;exact⟨this.1,this.2.1⟩
end K
namespace K
def NM(p):Ut (Qv p) (p.length:Nat)=true:=by
 have:=Ub p;unfold Ut;rw[Xh];refine⟨by simp;omega,XO.2 fun a hb=>?_⟩;obtain⟨b,a⟩:=Fc hb;rw[Zs,J4]at a;have hlt:=(Qz.1 a).1;rw[Yt]at hlt;rw[Rb _ _ hlt,kN _ _ hlt]at a;have:p.getD (p.length+b) false=false:=by rw[RU,QX<|by omega];rfl
 rw[this]at a;injection a with a;subst a;rfl
def NX(p):BK (Qv p,(p.length:Nat))=p:=by have:=fQ p 0 p.length (by omega);unfold QW at this;unfold BK;rw[Zs];simpa using this
def Qdo(l i n)(a:i+n≤l.length):(QW l i n).length=n:=by unfold QW;rw[Zl,Y0];omega
end K
namespace K
def Vx(a x:Int):LB:=(List.replicate (x-a).toNat [true,false]).flatten++((List.replicate (a-x).toNat [true,true]).flatten++[false])
def Vh(a:Int):LI→LB
 | []=>[]
 |x::xs=>Vx a x++Vh x xs
def Q2(xs:LI):LB:=low (xs.headD 0).toNat 5++Vh (xs.headD 0) xs
def Jt(xs:LI):Bool:=decide (2≤xs.length∧xs.length≤258)&&xs.all fun a=>decide (1≤a∧a≤20)
def BO(xs:LI):LU × Int × Nat:=if Jt xs then(Qv (Q2 xs),((Q2 xs).length:Nat),0)else([],0,80)
def jN(a x)(b:a<x):Vx a x=true::false::Vx (a+1) x:=by unfold Vx;obtain⟨b,hk⟩:∃b:Nat,(x-a).toNat=b+1:=⟨(x-a).toNat-1,by omega⟩;rw[hk,show(x-(a+1)).toNat=b by omega,show(a-x).toNat=0 by omega,show(a+1-x).toNat=0 by omega,Y8];simp
def jL(a x)(b:x<a):Vx a x=true::true::Vx (a-1) x:=by unfold Vx;obtain⟨b,hk⟩:∃b:Nat,(a-x).toNat=b+1:=⟨(a-x).toNat-1,by omega⟩;rw[hk,show(a-1-x).toNat=b by omega,show(x-a).toNat=0 by omega,show(x-(a-1)).toNat=0 by omega,Y8];simp
def jM(x):Vx x x=[false]:=by simp[Vx]
def Qg5(a x):(Vx a x).length=1+2*(x-a).natAbs:=by unfold Vx;simp only[Qo,List.length_flatten,GP,List.sum_replicate_nat,Q0,Yg];omega
def OO(a x xs):Vh a (x::xs)=Vx a x++Vh x xs:=rfl
def iR(a xs)(h0:1≤a∧a≤20)(b:∀x∈xs,1≤x∧x≤20):(Vh a xs).length≤39*xs.length:=by
 induction xs generalizing a with
 |nil=>simp[Vh]
 |cons x xs ih=>have c:=b x (by simp);have:=ih x c (fun d c=>b d<|by simp[c]);have:=Qg5 a x;rw[OO,Qo,Q0];omega
def UN(xs):Jt xs=true↔(2≤xs.length∧xs.length≤258)∧∀x∈xs,1≤x∧x≤20:=by unfold Jt;simp[XO]
def Nh(xs:LI)(a:0<xs.length):xs.headD 0∈xs:=by
 cases xs with
 |nil=>simp at a
 |cons x xs=>simp
def Gn(xs)(h:Jt xs=true):(Q2 xs).length≤20000:=by
 obtain⟨⟨q,y⟩,o⟩:=(UN xs).1 h;have:=iR (xs.headD 0) xs (o _<|Nh xs<|by omega) o;unfold Q2;rw[Qo];have hl:(low (xs.headD 0).toNat 5).length=5:=by simp[low]
 omega
def NC(xs)(a:¬(2≤xs.length∧xs.length≤258)):Jt xs=false:=by
 cases e:Jt xs with
 |false=>rfl
 |true=>exact absurd ((UN xs).1 e).1 a
def cH(xs)(i:Nat)(x)(a:xs[i]?=some x)(b:x<1∨20<x):Jt xs=false:=by
 cases e:Jt xs with
 |false=>rfl
 |true=>have:=((UN xs).1 e).2 x (QA a);omega
def XM(n:Nat):LI→Int→Nat→LB→LI × Nat × Nat
 |QV,now,p,l=>if n≤QV.length then(QV,p,0)else if now<1∨20<now then([],0,80)else
  match l with
  | []=>([],0,10)
  |false::r=>XM n (QV++[now]) now (p+1) r
  | [true]=>([],0,10)
  |true::false::r=>XM n QV (now+1) (p+2) r
  |true::true::r=>XM n QV (now-1) (p+2) r
def Ju(bs:LB)(at_ n:Int):LI × Nat × Nat:=
 if at_<0∨(bs.length:Nat)<at_∨n<2∨258<n then([],0,2)else if bs.length<at_.toNat+5 then([],0,10)else
  XM n.toNat [] (num (QW bs at_.toNat 5)) (at_.toNat+5) (bs.drop (at_.toNat+5))
def Kf(n QV b p l)(a:n≤QV.length):XM n QV b p l=(QV,p,0):=by unfold XM;rw[Qg a]
def ND(n QV a p l)(b:QV.length<n)(b:a<1∨20<a):XM n QV a p l=([],0,80):=by unfold XM;rw[Qf<|by omega,Qg b]
def NE(n QV a p)(b:QV.length<n)(b:¬(a<1∨20<a)):XM n QV a p []=([],0,10):=by unfold XM;rw[Qf<|by omega,Qf b]
def NF(n QV a p r)(b:QV.length<n)(b:¬(a<1∨20<a)):XM n QV a p (false::r)=XM n (QV++[a]) a (p+1) r:=by rw[XM,Qf<|by omega,Qf b]
def cJ(n QV a p)(b:QV.length<n)(b:¬(a<1∨20<a)):XM n QV a p [true]=([],0,10):=by rw[XM,Qf<|by omega,Qf b]
def cK(n QV a p r)(b:QV.length<n)(b:¬(a<1∨20<a)):XM n QV a p (true::false::r)=XM n QV (a+1) (p+2) r:=by rw[XM,Qf<|by omega,Qf b]
def cI(n QV a p r)(b:QV.length<n)(b:¬(a<1∨20<a)):XM n QV a p (true::true::r)=XM n QV (a-1) (p+2) r:=by rw[XM,Qf<|by omega,Qf b]
def Qar(n QV x q)(h:QV.length<n)(hx:1≤x∧x≤20):∀(d:Nat)(o:Int)(p:Nat),(x-o).natAbs=d→(1≤o∧o≤20)→
 XM n QV o p (Vx o x++q)=XM n (QV++[x]) x (p+(Vx o x).length) q:=by
 intro d
 induction d with
 |zero=>
  intro o p y hn;obtain rfl:o=x:=by omega
  rw[jM];exact NF n QV o p q h (by omega)
 |succ d ih=>
  intro o p y hn
  by_cases hlt:o<x
  ·rw[jN o x hlt];simp only[Yf,Q0];rw[cK n QV o p _ h<|by omega,ih (o+1) (p+2) (by omega)<|by omega]
   congr 1
   omega
  rw[jL o x<|by omega];simp only[Yf,Q0];rw[cI n QV o p _ h<|by omega,ih (o-1) (p+2) (by omega)<|by omega]
  congr 1
  omega
def Qap(n xs):∀(QV:LI)(a:Int)(p:Nat)(d:LB),QV.length+xs.length=n→(1≤a∧a≤20)→(∀x∈xs,1≤x∧x≤20)→
 XM n QV a p (Vh a xs++d)=(QV++xs,p+(Vh a xs).length,0):=by
 induction xs with
 |nil=>intro QV a p d c e b;rw[Kf _ _ _ _ _ (by simp at c;omega)];simp[Vh]
 |cons x xs ih=>intro QV a p d c e b;rw[Q0]at c;rw[OO,QQ,Qar n QV x _ (by omega) (b x<|by simp) _ a p rfl e,ih _ x _ _ (by simp;omega) (b x<|by simp) fun c a=>b c<|by simp[a]];simp[Ja]
end K
namespace K
end K
namespace K
def TH(a b):Qk (a++b)=Qk a++Qk b:=by
 apply Xo;intro c
 by_cases d:c<8*a.length
 ·rw[Rb _ _ (by rw[Qo];omega),Xp<|by rwa[Yt],Rb _ _ d];unfold X4;have d:(a++b).getD (c/8) 0=a.getD (c/8) 0:=by rw[RU,Xp<|by omega,←RU]
  rw[d]
 rw[Zx (by rw[Yt];omega),Yt]
 by_cases e:c<8*(a++b).length
 ·rw[Qo]at e;rw[Rb _ _ (by rw[Qo];omega),Rb _ _<|by omega];unfold X4;have d:(a++b).getD (c/8) 0=b.getD ((c-8*a.length)/8) 0:=by
   rw[RU,Zx<|by omega,←RU]
   congr 1
   omega
  rw[d,show(c-8*a.length)%8=c%8 by omega]
 rw[Qo]at e;rw[QX (by rw[Yt,Qo];omega),QX (by rw[Yt];omega)]
def rV(a):∃b,Qk (Qv a)=a++b:=by refine⟨(Qk<|Qv a).drop a.length,?_⟩;have:=fQ a 0 a.length (by omega);unfold QW at this;simp at this;have b:=V6 a.length<|Qk<|Qv a;rw[this]at b;exact b.symm
def Qan(P R v n)(e:v<32)(a:2≤n∧n≤258):Ju (P++(low v 5++R)) (P.length:Nat) (n:Nat)=XM n [] (v:Int) (P.length+5) R:=by
 have a:(low v 5).length=5:=by simp[low]
 unfold Ju;rw[Qf (by simp only[Qo];omega),Zs,Qf (by simp only[Qo];omega),Zs];have b:QW (P++(low v 5++R)) P.length 5=low v 5:=by have:=EE P (low v 5) R;rw[a,QQ]at this;exact this
 have c:(P++(low v 5++R)).drop (P.length+5)=R:=by
  have d:(P++low v 5).length=P.length+5:=by rw[Qo,a]
  rw[←QQ,←d,Fa]
 rw[b,c,Kp,XP e]
end K
namespace K
def room(ls:LN):Nat:=(ls.map fun a=>2^(20-a)).sum
def QD(l:LI):LN:=l.map Int.toNat
def UQ(l):(QD l).length=l.length:=by simp[QD]
def XA(l:LI):Bool:=Jt l&&decide (room (QD l)≤1048576)
def UL{l}(a:XA l=true):Jt l=true:=by unfold XA at a;simp at a;exact a.1
def FP{l}(a:XA l=true):room (QD l)≤1048576:=by unfold XA at a;simp at a;exact a.2
def Cl{l}(b:XA l=true):∀x∈QD l,1≤x∧x≤20:=by intro x a;simp only[QD,QB]at a;obtain⟨d,c,rfl⟩:=a;have:=((UN l).1 (UL b)).2 d c;omega
def Qe9(ls x):room (ls++[x])=room ls+2^(20-x):=by simp[room]
def Qe7(ls):room ls≤ls.length*1048576:=by
 induction ls with
 |nil=>simp[room]
 |cons x ls ih=>
  have:2^(20-x)≤2^20:=Jc (by decide) (by omega);have a:room (x::ls)=2^(20-x)+room ls:=by simp[room]
  rw[a,Q0,CT];have:(2:Nat)^20=1048576:=rfl;omega
def Zq(ls:LN):Nat→Nat
 |0=>0
 |n+1=>2*(Zq ls n+ls.count n)
def Yv(ls:LN)(n i:Nat):LN:=(List.range i).filter fun a=>decide (ls.getD a 0=n)
def BD(ls:LN)(n:Nat):LN:=Yv ls n ls.length
def ZJ(ls:LN):Nat→LN
 |0=>[]
 |n+1=>ZJ ls n++BD ls n
def Yu(ls:LN)(i:Nat):Nat:=Zq ls (ls.getD i 0)+(ls.take i).count (ls.getD i 0)
def Um(ls:LN):LN:=(List.range ls.length).map (Yu ls)
def MH(ls):(Um ls).length=ls.length:=by simp[Um]
def uI(ls i)(a:i<ls.length):(Um ls)[i]?=some (Yu ls i):=by simp[Um,Xa a]
def Nn(ls n):Yv ls n 0=[]:=rfl
def Nm(ls n i)(a:ls.getD i 0=n):Yv ls n (i+1)=Yv ls n i++[i]:=by unfold Yv;rw[JJ,Aw];congr 1;rw[Fb,Qg<|Xs a];rfl
def Nl(ls n i)(a:ls.getD i 0≠n):Yv ls n (i+1)=Yv ls n i:=by unfold Yv;rw[JJ,Aw,Fb,Qf (by rw[Xz a];decide)];simp
def kJ(ls:LN)(n i)(a:i<ls.length):(ls.take<|i+1).count n=(ls.take i).count n+if ls.getD i 0=n then 1 else 0:=by
 rw[Ay a,List.count_append,List.getD,Qj a,VI,List.count_singleton]
 congr 1
 by_cases a:ls[i]=n<;>simp[a]
def Nk(ls n):∀i,i≤ls.length→(Yv ls n i).length=(ls.take i).count n:=by
 intro i
 induction i with
 |zero=>intro _;simp[Yv]
 |succ i ih=>
  intro hi;rw[kJ ls n i<|by omega,←ih (by omega)]
  by_cases a:ls.getD i 0=n
  ·rw[Nm _ _ _ a,Qg a];simp
  rw[Nl _ _ _ a,Qf a];simp
def No(ls n):(BD ls n).length=ls.count n:=by unfold BD;rw[Nk ls n _<|Ql _,VG]
def zI(ls n k i):∀m,m≤ls.length→((Yv ls n m)[k]?=some i↔i<m∧ls.getD i 0=n∧(ls.take i).count n=k):=by
 intro m
 induction m with
 |zero=>intro _;simp[Yv]
 |succ m d=>
  intro a;have d:=d (by omega);have:=Nk ls n m (by omega)
  by_cases e:ls.getD m 0=n
  ·rw[Nm _ _ _ e];rcases Xq k (Yv ls n m).length with hk|hk
   ·rw[Xp hk,d];constructor
    ·exact fun a=>⟨by omega,a.2⟩
    rintro⟨f,b,c⟩;refine⟨?_,b,c⟩;rcases Xq i m with a|a
    ·exact a
    obtain rfl:i=m:=(by omega);omega
   rw[Zx hk];constructor
   ·intro a;have hlt:=(Qz.1 a).1;simp at hlt;have hz:k-(Yv ls n m).length=0:=(by omega);rw[hz]at a;simp at a;subst a;exact⟨by omega,e,by omega⟩
   rintro⟨f,b,c⟩;rcases Xq i m with a|a
   ·have:=(d.2 ⟨a,b,c⟩);have:=(Qz.1 this).1;omega
   obtain rfl:i=m:=(by omega);have hz:k-(Yv ls n i).length=0:=(by omega);rw[hz];rfl
  rw[Nl _ _ _ e,d];constructor
  ·exact fun a=>⟨by omega,a.2⟩
  rintro⟨f,b,c⟩;refine⟨?_,b,c⟩;rcases Xq i m with a|a
  ·exact a
  obtain rfl:i=m:=by omega
  exact absurd b e
def FT(ls n k i):(BD ls n)[k]?=some i↔i<ls.length∧ls.getD i 0=n∧(ls.take i).count n=k:=zI ls n k i ls.length<|Ql _
def Qcu(ls n):∀d,∃t,ZJ ls (n+d)=ZJ ls n++t:=by
 intro d
 induction d with
 |zero=>exact⟨[],by simp⟩
 |succ d ih=>obtain⟨t,a⟩:=ih;exact⟨t++BD ls (n+d),by rw[show n+(d+1)=n+d+1 by omega,ZJ,a,QQ]⟩
def Ks(ls n N k i)(a:n<N)(a:(BD ls n)[k]?=some i):(ZJ ls N)[(ZJ ls n).length+k]?=some i:=by obtain⟨b,b⟩:=Qcu ls (n+1)<|N-(n+1);rw[show n+1+(N-(n+1))=N by omega]at b;have hk:=(Qz.1 a).1;rwa[b,ZJ,QQ,Zx<|by omega,LG,Xp hk]
def Qct(ls):∀N k i,(ZJ ls N)[k]?=some i→i<ls.length∧ls.getD i 0<N∧k=(ZJ ls<|ls.getD i 0).length+(ls.take i).count (ls.getD i 0):=by
 intro N
 induction N with
 |zero=>intro k i a;simp[ZJ]at a
 |succ N ih=>
  intro k i a;rw[ZJ]at a;rcases Xq k (ZJ ls N).length with hk|hk
  ·rw[Xp hk]at a;obtain⟨b,c,d⟩:=ih k i a;exact⟨b,by omega,d⟩
  rw[Zx hk]at a;obtain⟨b,c,d⟩:=(FT ls N _ i).1 a;subst c;exact⟨b,by omega,by omega⟩
def Qcs(ls N)(a:∀x∈ls,x<N)(i)(hi:i<ls.length):∃k:Nat,(ZJ ls N)[k]?=some i:=by
 have b:ls.getD i 0<N:=by rw[List.getD,Qj hi];exact a _<|XV hi
 exact⟨_,Ks ls (ls.getD i 0) N _ i b<|(FT ls _ _ i).2 ⟨hi,rfl,rfl⟩⟩
def Qin(ls n):Zq ls n+ls.count n=(ls.map fun x=>if x≤n then 2^(n-x)else 0).sum:=by
 induction n with
 |zero=>
  rw[Zq,ZE]
  induction ls with
  |nil=>rfl
  |cons x ls ih=>
   rw[List.count_cons,QR,Z9,ih]
   by_cases a:x=0
   ·subst a;simp;omega
   simp[a]
 |succ n ih=>
  rw[Zq,ih];clear ih
  induction ls with
  |nil=>rfl
  |cons x ls ih=>
   rw[List.count_cons,QR,Z9,QR,Z9,←ih];have hp:(2:Nat)^(n+1-(n+1))=1:=by simp
   by_cases a:x≤n
   ·have b:(if x≤n then 2^(n-x)else 0)=2^(n-x):=Qg a;have d:(if x≤n+1 then 2^(n+1-x)else 0)=2*2^(n-x):=(by rw[Qg<|by omega,show n+1-x=(n-x)+1 by omega,J5];omega);have c:(x==n+1)=false:=(by simp;omega);rw[b,d,c];simp;omega
   have b:(if x≤n then 2^(n-x)else 0)=0:=Qf a;rw[b]
   by_cases a:x=n+1
   ·subst a;rw[Qg<|Ql _,hp];simp;omega
   have c:(x==n+1)=false:=(by simp;omega);rw[Qf (by omega: ¬x≤n+1),c];simp
def Qio(ls)(b:∀x∈ls,x≤20)(n)(a:n≤20):(Zq ls n+ls.count n)*2^(20-n)≤room ls:=by
 rw[Qin];unfold room
 induction ls with
 |nil=>simp
 |cons x ls a=>
  have a:=a (fun d c=>b d<|by simp[c]);have:=b x (by simp);rw[QR,Z9,QR,Z9,V8]
  by_cases b:x≤n
  ·rw[Qg b,←DZ,show n-x+(20-n)=20-x by omega];omega
  rw[Qf b,GZ,ZE];exact QS a<|Nat.le_add_left _ _
def fits(ls)(b:∀x∈ls,x≤20)(d:room ls≤1048576)(n)(c:n≤20):Zq ls n+ls.count n≤2^n:=by
 have a:=Qio ls b n c;have b:(Zq ls n+ls.count n)*2^(20-n)≤2^n*2^(20-n):=by rw[←DZ,show n+(20-n)=20 by omega];exact QS a d
 exact Nat.le_of_mul_le_mul_right b<|CU _
def wK(ls n):∀d,(Zq ls n+ls.count n)*2^(d+1)≤Zq ls (n+d+1):=by
 intro d
 induction d with
 |zero=>rw[Zq];omega
 |succ d ih=>rw[show n+(d+1)+1=(n+d+1)+1 by omega,Zq,J5,←GX];omega
def ID(ls i)(hi:i<ls.length):Zq ls (ls.getD i 0)≤Yu ls i∧Yu ls i<Zq ls (ls.getD i 0)+ls.count (ls.getD i 0):=by unfold Yu;refine⟨by omega,?_⟩;have a:=kJ ls (ls.getD i 0) i hi;rw[Qg rfl]at a;have:(ls.take<|i+1).count (ls.getD i 0)≤ls.count (ls.getD i 0):=(LA _ _).count_le _;omega
def Ws(ls)(a:∀x∈ls,x≤20)(b:room ls≤1048576)(i)(hi:i<ls.length):Yu ls i<2^(ls.getD i 0):=by
 have c:ls.getD i 0≤20:=by rw[List.getD,Qj hi];exact a _<|XV hi
 have:=fits ls a b _ c;have:=ID ls i hi;omega
def uG(ls n k i)(a:(BD ls n)[k]?=some i):Yu ls i=Zq ls n+k:=by obtain⟨b,b,c⟩:=(FT ls n k i).1 a;unfold Yu;rw[b,c]
def uH(ls n c)(a:Zq ls n≤c)(a:c<Zq ls n+ls.count n):∃i,i<ls.length∧ls.getD i 0=n∧Yu ls i=c∧(BD ls n)[c-Zq ls n]?=some i:=by
 have hk:c-Zq ls n<(BD ls n).length:=by rw[No];omega
 have a:=Qj hk;obtain⟨b,d,e⟩:=(FT ls n _ _).1 a;exact⟨_,b,d,by rw[uG ls n _ _ a];omega,a⟩
def Rw(ls:LN)(c n:Nat):Bool:=(List.range 21).any fun a=>decide (n<a∧0<ls.count a∧c*2^(a-n)<Zq ls a+ls.count a)
def It(ls c n):Rw ls c n=true↔∃m,m≤20∧n<m∧0<ls.count m∧c*2^(m-n)<Zq ls m+ls.count m:=by
 unfold Rw;simp only[List.any_eq_true,ZL,Zv];constructor
 ·rintro⟨m,b,a⟩;exact⟨m,by omega,a⟩
 rintro⟨m,b,a⟩;exact⟨m,by omega,a⟩
def Qgi(ls)(b:∀x∈ls,x≤20)(c n i)(hi:i<ls.length)(d:n<ls.getD i 0)(a:Yu ls i/2^(ls.getD i 0-n)=c):Rw ls c n=true:=by
 rw[It];have e:ls.getD i 0≤20:=by rw[List.getD,Qj hi];exact b _<|XV hi
 have:=ID ls i hi;refine⟨ls.getD i 0,e,d,by omega,?_⟩;have:c*2^(ls.getD i 0-n)≤Yu ls i:=by rw[←a];exact Nat.div_mul_le_self _ _
 omega
def yU(ls n i)(hi:i<ls.length)(a:n<ls.getD i 0):Zq ls n+ls.count n≤Yu ls i/2^(ls.getD i 0-n):=by rw[Nat.le_div_iff_mul_le<|CU _];have a:=wK ls n<|ls.getD i 0-n-1;rw[show ls.getD i 0-n-1+1=ls.getD i 0-n by omega,show n+(ls.getD i 0-n-1)+1=ls.getD i 0 by omega]at a;have:=(ID ls i hi).1;omega
end K
namespace K
def fR(a b j n)(c:j+n≤b.length):QW (a++b) (a.length+j) n=QW b j n:=by unfold QW;rw[EZ,JI<|by omega,Yy,show a.length+j-a.length=j by omega]
def Qhu(bs f g):∀k i p a,(∀j,i≤j→j<i+k→f j=g j)→Uz bs f k i p a=Uz bs g k i p a:=by
 intro k
 induction k with
 |zero=>intro i p a _;rfl
 |succ k ih=>intro i p a a;rw[Uz,Uz,a i (by omega)<|by omega,ih (i+1) _ _ fun j b c=>a j (by omega)<|by omega,ih (i+1) _ _ fun j b c=>a j (by omega)<|by omega]
end K
namespace K
def Qdr(bs p n)(a:p+n<bs.length):QW bs p (n+1)=QW bs p n++[bs.getD (p+n) false]:=by
 have b:n<(bs.drop p).length:=by rw[Y0];omega
 unfold QW;rw[Ay b]
 congr 2
 rw[List.getElem_drop,List.getD,Qj a];rfl
def Qck(bs p n)(a:p+n<bs.length):num (QW bs p<|n+1)=2*num (QW bs p n)+(bs.getD (p+n) false).toNat:=by rw[Qdr bs p n a,Ge]
def Jg(ls:LN)(bs:LB):Nat→Nat→Nat→Nat→Nat × Nat × Nat
 |0,_,_,_=>(0,0,90)
 |f+1,n,code,p=>
  if bs.length<p+1 then(0,0,10)
  else if Zq ls n≤2*code+(bs.getD p false).toNat∧2*code+(bs.getD p false).toNat<Zq ls n+ls.count n then
   ((ZJ ls 21).getD ((ZJ ls n).length+(2*code+(bs.getD p false).toNat-Zq ls n)) 0,p+1,0)
  else if Rw ls (2*code+(bs.getD p false).toNat) n then Jg ls bs f (n+1) (2*code+(bs.getD p false).toNat) (p+1)else(0,0,90)
def Z7(ls:LN)(bs:LB)(p:Nat):Nat × Nat × Nat:=Jg ls bs 20 1 0 p
def Qb9(ls bs):∀f n o p,(Jg ls bs f n o p).2.2=0→p<(Jg ls bs f n o p).2.1∧(Jg ls bs f n o p).2.1≤bs.length:=by
 intro f
 induction f with
 |zero=>intro n o p h;simp[Jg]at h
 |succ f ih=>
  intro n o p h;rw[Jg]at h ⊢
  by_cases q:bs.length<p+1
  ·rw[Qg q]at h;simp at h
  rw[Qf q]at h ⊢
  split
  ·simp only;omega
  rename_i y;rw[Qf y]at h
  split
  ·rename_i hb;rw[Qg hb]at h;have:=ih _ _ _ h;omega
  rename_i hb;rw[Qf hb]at h;simp at h
def Qb7(ls bs):∀f n o p,(Jg ls bs f n o p).2.2≠0→Jg ls bs f n o p=(0,0,(Jg ls bs f n o p).2.2):=by
 intro f
 induction f with
 |zero=>intro n o p h;rfl
 |succ f ih=>
  intro n o p h;rw[Jg]at h ⊢
  split
  ·rfl
  rename_i y;rw[Qf y]at h
  split
  ·rename_i q;rw[Qg q]at h;simp at h
  rename_i q;rw[Qf q]at h
  split
  ·rename_i hb;rw[Qg hb]at h;exact ih _ _ _ h
  rfl
def Qb8(ls bs):∀f n a p,(Jg ls bs f n a p).2.2≤90:=by
 intro f
 induction f with
 |zero=>intro n a p;simp[Jg]
 |succ f ih=>
  intro n a p;rw[Jg]
  split
  ·simp
  split
  ·simp
  split
  ·exact ih _ _ _
  simp
end K
namespace K
def Dd(l:LI):LN × Nat:=if XA l then(Um (QD l),0)else([],80)
def J0(ls:LN)(i:Nat):LB:=low (Yu ls i) (ls.getD i 0)
def kB(ls i):(J0 ls i).length=ls.getD i 0:=by simp[J0,X0]
def Yk(ls:LN)(bs:LB)(n e:Int):Nat→LN→Nat→LN × Nat × Nat
 |0,_,_=>([],0,10)
 |f+1,out,p=>
  if(out.length:Int)<n then
   if(Z7 ls bs p).2.2≠0 then([],0,(Z7 ls bs p).2.2)
   else if((Z7 ls bs p).1:Int)=e then(out++[(Z7 ls bs p).1],(Z7 ls bs p).2.1,0)
   else Yk ls bs n e f (out++[(Z7 ls bs p).1]) (Z7 ls bs p).2.1
  else(out,p,0)
def JP(l:LI)(bs:LB)(at_ n e:Int):LN × Nat × Nat:=
 if XA l then(if at_<0∨(bs.length:Int)<at_∨n<0 then([],0,2)else Yk (QD l) bs n e (bs.length+1) [] at_.toNat)else([],0,80)
def NR(ls bs p)(a:(Z7 ls bs p).2.2=0):p<(Z7 ls bs p).2.1∧(Z7 ls bs p).2.1≤bs.length:=Qb9 ls bs _ _ _ _ a
def eQ(ls bs p)(a:(Z7 ls bs p).2.2≠0):Z7 ls bs p=(0,0,(Z7 ls bs p).2.2):=Qb7 ls bs _ _ _ _ a
def Tt(ls bs n e f a p)(b:¬(a.length:Int)<n):Yk ls bs n e (f+1) a p=(a,p,0):=by rw[Yk,Qf b]
def Tv(ls bs n e f a p x)(b:(a.length:Int)<n)(c:Z7 ls bs p=(0,0,x))(d:x≠0):Yk ls bs n e (f+1) a p=([],0,x):=by rw[Yk,Qg b,c,Qg d]
def Tu(ls bs n e f a p x b)(c:(a.length:Int)<n)(d:Z7 ls bs p=(x,b,0))(g:(x:Int)=e):Yk ls bs n e (f+1) a p=(a++[x],b,0):=by rw[Yk,Qg c,d,Qf<|by simp,Qg g]
def Tx(ls bs n e f a p x b)(c:(a.length:Int)<n)(d:Z7 ls bs p=(x,b,0))(g:(x:Int)≠e):Yk ls bs n e (f+1) a p=Yk ls bs n e f (a++[x]) b:=by rw[Yk,Qg c,d,Qf<|by simp,Qf g]
def low_bit(v m j)(a:j<m):(low v m).getD j false=v.testBit (m-1-j):=by rw[List.getD,cW v m j a];rfl
def bC(v d):2*(v/2^(d+1))+(v.testBit d).toNat=v/2^d:=by rw[Gx,J5,←Si];omega
def Qca(ls)(f:∀x∈ls,x≤20)(a:room ls≤1048576)(bs p i)(hi:i<ls.length)(hp:p+ls.getD i 0≤bs.length)(hb:QW bs p (ls.getD i 0)=J0 ls i):
 ∀d n,n+d=ls.getD i 0→1≤n→Jg ls bs (21-n) n (Yu ls i/2^(ls.getD i 0-(n-1))) (p+(n-1))=(i,p+ls.getD i 0,0):=by
 have⟨a,b⟩:=qx<|ls.getD i 0;have j:ls.getD i 0≤20:=by rw[List.getD,Qj hi];exact f _<|XV hi
 have g:∀e,e<a→bs.getD (p+e) false=(Yu ls i).testBit (a-1-e):=by intro e h;have c:=Qu (fun k=>k.getD e false) hb;unfold QW at c;rw[b,List.getD,Bm,Qg h,J4]at c;unfold J0 at c;rwa[b,low_bit _ _ _ h]at c
 have c:=ID ls i hi;rw[b]at hp j c ⊢;intro d
 induction d with
 |zero=>
  intro n e h;obtain rfl:n=a:=by omega
  rw[show 21-n=(20-n)+1 by omega,Jg,Qf<|by omega,g (n-1)<|by omega,show n-(n-1)=0+1 by omega,show n-1-(n-1)=0 by omega,bC,Nat.pow_zero,Nat.div_one,Qg c];have c:=Ks ls n 21 (Yu ls i-Zq ls n) i (by omega)<|(FT ls n _ i).2 ⟨hi,b,by unfold Yu;rw[b];omega⟩;rw[List.getD,c,VI,show p+(n-1)+1=p+n by omega]
 |succ d c=>
  intro n e h;have c:=c (n+1) (by omega) (by omega);rw[UE]at c;have h:bs.getD (p+(n-1)) false=(Yu ls i).testBit (a-n):=by rw[g (n-1)<|by omega,show a-1-(n-1)=a-n by omega]
  have e:=yU ls n i hi (by omega);rw[b]at e;have e:=Qgi ls f _ n i hi (by omega) rfl;rw[b]at e;rw[show 21-n=(20-n)+1 by omega,Jg,Qf<|by omega,h,show a-(n-1)=(a-n)+1 by omega,bC,Qf<|by omega,Qg e];rw[show 21-(n+1)=20-n by omega]at c;rwa[show p+(n-1)+1=p+n by omega]
def Qce(ls)(b:∀x∈ls,1≤x∧x≤20)(c:room ls≤1048576)(bs p i)(hi:i<ls.length)(hp:p+ls.getD i 0≤bs.length)(hb:QW bs p (ls.getD i 0)=J0 ls i):Z7 ls bs p=(i,p+ls.getD i 0,0):=by
 have a:1≤ls.getD i 0:=by rw[List.getD,Qj hi];exact(b _<|XV hi).1
 have hlt:=Ws ls (fun x a=>(b x a).2) c i hi;have:=Qca ls (fun x a=>(b x a).2) c bs p i hi hp hb (ls.getD i 0-1) 1 (by omega)<|Ql _;rw[show 21-1=20 from rfl,show 1-1=0 from rfl,Br,Nat.div_eq_of_lt hlt,Jb]at this;exact this
end K
namespace K
end K
