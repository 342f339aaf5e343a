import Derived.Laws.AppendOwn
import Derived.Test.YtickjpnkoppmgaaGreatDoorAa
set_option linter.all false
namespace Go.Proofs.YtickjpnkoppmgaaGreatDoor
open Go.Proofs.Tryz Go.RowKit K
namespace K
def bt(bs:LB)(j:Nat):Nat:=(bs.getD j false).toNat
def Vx(bs j):bt bs j<=1:=by unfold bt;exact Eo _
def Nz(bs c j):bt (bs++[c]) j=if j=bs.length then c.toNat else bt bs j:=by
 unfold bt;rcases CF j bs with d|d|d
 ·rw[Qf ox];simp[List.getD,Xc d]
 ·subst d;simp[List.getD]
 rw[Qf ox];have d:(bs++[c])[j]?=none:=QU zx;have e:bs[j]?=none:=QU ox;simp[List.getD,d,e]
def YW(bs:LB)(i:Nat):Nat:=
 128*bt bs (8*i)+64*bt bs (8*i+1)+32*bt bs (8*i+2)+16*bt bs (8*i+3)+8*bt bs (8*i+4)+4*bt bs (8*i+5)+2*bt bs (8*i+6)+bt bs (8*i+7)
def NA(bs i):YW bs i<256:=by unfold YW;have:=Vx bs<|8*i;have:=Vx bs<|8*i+1;have:=Vx bs<|8*i+2;have:=Vx bs<|8*i+3;have:=Vx bs<|8*i+4;have:=Vx bs<|8*i+5;have:=Vx bs<|8*i+6;have:=Vx bs<|8*i+7;omega
def Qw(bs:LB):LU:=(List.range ((bs.length+7)/8)).map fun c=>UInt8.ofNat (YW bs c)
def UD(bs):(Qw bs).length=(bs.length+7)/8:=by simp[Qw]
def GY(bs i)(h:i<(bs.length+7)/8):(Qw bs)[i]?=some (UInt8.ofNat<|YW bs i):=by simp[Qw,Xl h]
def Kp(bs i):YW (bs++[false]) i=YW bs i:=by
 have h:∀j,bt (bs++[false]) j=bt bs j:=fun j=>by
  rw[Nz];split
  ·rename_i h;subst h;simp[bt,List.getD]
  rfl
 simp only[YW,h]
def vT(bs i)(h:bs.length<=8*i):YW bs i=0:=by
 have h:∀c,8*i<=c->bt bs c=0:=fun c d=>by have:bs[c]?=none:=QU ox;simp[bt,List.getD,this]
 simp only[YW];rw[h _ ox,h _ ox,h _ ox,h _ ox,h _ ox,h _ ox,h _ ox,h _ ox]
def jK(bs):Qw (bs++[false])=if bs.length%8=0 then Qw bs++[0]else Qw bs:=by
 have o:(bs++[false]).length=bs.length+1:=sx
 split
 ·rename_i h;have e:(bs.length+1+7)/8=(bs.length+7)/8+1:=ox
  unfold Qw;rw[o,e,J5,XC]
  congr 1
  ·exact YT fun i _=>by rw[Kp]
  simp only[QV,Y6,Kp];rw[vT _ _ ox];rfl
 rename_i h;have e:(bs.length+1+7)/8=(bs.length+7)/8:=ox
 unfold Qw;rw[o,e];exact YT fun i _=>by rw[Kp]
def Qfa(x r)(d:r<8)(h:x%2^(8-r)=0):x|||(128/2^r)=x+2^(7-r):=by
 have c:128/2^r=2^(7-r):=by
  match r,d with
  |0,_=>rfl|1,_=>rfl|2,_=>rfl|3,_=>rfl|4,_=>rfl|5,_=>rfl|6,_=>rfl|7,_=>rfl
 rw[c];have c:x=2^(8-r)*(x/2^(8-r)):=yx (MN x<|2^(8-r))
 rw[c];exact(MQ (Nat.pow_lt_pow_right dx ox) _).symm
def vR(bs i r)(c:bs.length=8*i+r)(e:r<8):YW bs i%2^(8-r)=0:=by
 have c:∀d,8*i+r<=d->bt bs d=0:=fun d g=>by have:bs[d]?=none:=QU ox;simp[bt,List.getD,this]
 unfold YW
 match r,e with
 |0,_=>rw[c _ ox,c _ ox,c _ ox,c _ ox,c _ ox,c _ ox,c _ ox,c _ ox]
 |1,_=>rw[c (8*i+1) ox,c (8*i+2) ox,c (8*i+3) ox,c (8*i+4) ox,c (8*i+5) ox,c (8*i+6) ox,c (8*i+7) ox];omega
 |2,_=>rw[c (8*i+2) ox,c (8*i+3) ox,c (8*i+4) ox,c (8*i+5) ox,c (8*i+6) ox,c (8*i+7) ox];omega
 |3,_=>rw[c (8*i+3) ox,c (8*i+4) ox,c (8*i+5) ox,c (8*i+6) ox,c (8*i+7) ox];omega
 |4,_=>rw[c (8*i+4) ox,c (8*i+5) ox,c (8*i+6) ox,c (8*i+7) ox];omega
 |5,_=>rw[c (8*i+5) ox,c (8*i+6) ox,c (8*i+7) ox];omega
 |6,_=>rw[c (8*i+6) ox,c (8*i+7) ox];omega
 |7,_=>rw[c (8*i+7) ox];omega
def vU(bs i r)(g:bs.length=8*i+r)(e:r<8):YW (bs++[true]) i=YW bs i+2^(7-r):=by
 have d:∀c,bt (bs++[true]) c=if c=bs.length then 1 else bt bs c:=fun c=>by rw[Nz];rfl
 have h0:bt bs bs.length=0:=by simp[bt,List.getD]
 rw[g]at d h0;unfold YW;simp only[d]
 match r,e with
 |0,_=>simp at h0 ⊢;omega
 |1,_=>simp[h0];omega
 |2,_=>simp[h0];omega
 |3,_=>simp[h0];omega
 |4,_=>simp[h0];omega
 |5,_=>simp[h0];omega
 |6,_=>simp[h0];omega
 |7,_=>simp[h0]
def aI(bs c i)(hi:i≠bs.length/8):YW (bs++[c]) i=YW bs i:=by
 have d:∀e,e≠bs.length->bt (bs++[c]) e=bt bs e:=fun e e=>by rw[Nz,Qf e]
 unfold YW;rw[d _ ox,d _ ox,d _ ox,d _ ox,d _ ox,d _ ox,d _ ox,d _ ox]
def Qfq(bs):
 Qw (bs++[true])=(Qw<|bs++[false]).set (bs.length/8) (UInt8.ofNat<|YW bs (bs.length/8)|||(128/2^(bs.length%8))):=by
 have d:∀c,(bs++[c]).length=bs.length+1:=sx
 rw[Qfa _ _ (J8 _ dx)<|vR bs _ _ ox<|J8 _ dx];apply XB;intro e;rw[Je]
 by_cases hi:e<(bs.length+1+7)/8
 ·rw[GY _ _<|by rwa[d],GY _ _<|by rwa[d],UD,d]
  by_cases c:bs.length/8=e
  ·rw[Qg c,Qg ox];subst c;rw[vU bs _ (bs.length%8) ox<|J8 _ dx]
  rw[Qf c,aI _ _ _ fun g=>c g.symm,aI _ _ _ fun g=>c g.symm]
 have c:(Qw<|bs++[true])[e]?=none:=QU (by rw[UD,d];omega);have g:(Qw<|bs++[false])[e]?=none:=QU (by rw[UD,d];omega);rw[c,g,Qf ox]
def low(v n:Nat):LB:=(List.range n).map fun k=>v.testBit (n-1-k)
def Yl(v n):(low v n).length=n:=by simp[low]
def Qdl(v n k)(h:k<n):(low v n).take (k+1)=(low v n).take k++[v.testBit<|n-1-k]:=by
 have c:k<(low v n).length:=by rwa[Yl]
 rw[Bd c];simp[low]
def fU(v n k)(h:k<n):(low v n)[k]?=some (v.testBit<|n-1-k):=by simp[low,Xl h]
def num(l:LB):Nat:=l.foldl (fun c b=>2*c+b.toNat) 0
def GV(l b):num (l++[b])=2*num l+b.toNat:=by simp[num,BS]
def DY(l):num l<2^l.length:=by
 suffices e:∀c (l:LB),l.length=c->num l<2^c from e _ l rfl
 intro c
 induction c with
 |zero=>intro l d;rw[J4 d];simp[num]
 |succ c ih=>
  intro l d;have hne:l≠[]:=by intro e;simp[e]at d
  have c:=Ii hne;rw[<-c,GV];have:=ih l.dropLast (by simp[d]);have:=Eo<|l.getLast hne;rw[J9];omega
def Yq(s:LU)(i:Nat):Bool:=(s.getD (i/8) 0).toNat.testBit (7-i%8)
def Ql(s:LU):LB:=(List.range (8*s.length)).map (Yq s)
def YP(s):(Ql s).length=8*s.length:=by simp[Ql]
def Rz(s i)(h:i<8*s.length):(Ql s)[i]?=some (Yq s i):=by simp[Ql,Xl h]
def vE(s k)(h:k<8*s.length):(Ql s).take (k+1)=(Ql s).take k++[Yq s k]:=by
 have c:k<(Ql s).length:=by rwa[YP]
 rw[Bd c]
 congr 2
 have:=Rz s k h;rw[Qj c]at this;exact Option.some.inj this
def QZ(l:LB)(at_ n:Nat):LB:=(l.drop at_).take n
def Lu(l at_ n)(h:at_+n<=l.length):(QZ l at_ n).length=n:=by simp[QZ];omega
def PC(l at_):QZ l at_ 0=[]:=by simp[QZ]
def jV(s at_ k)(h:at_+k<8*s.length):QZ (Ql s) at_ (k+1)=QZ (Ql s) at_ k++[Yq s<|at_+k]:=by
 have c:k<((Ql s).drop at_).length:=by rw[YN,YP];omega
 unfold QZ;rw[Bd c]
 congr 2
 have:=Rz s (at_+k) h;have c:at_+k<(Ql s).length:=by rwa[YP]
 rw[Qj c]at this;simpa using this
def Hr(v i):((v.testBit i).toNat:Nat)=v/2^i%2:=by rw[Nat.testBit_eq_decide_div_mod_eq];have:=J8 (v/2^i) (dx:0<2);rcases(ox:v/2^i%2=0\/v/2^i%2=1)with c|c<;>rw[c]<;>rfl
def Qim(v)(b:Bool):(v*2)|||b.toNat=2*v+b.toNat:=by have:=MQ (i:=1) (b:=b.toNat) (yx (Eo b)) v;rw[(ox:v*2=2^1*v),<-this]
def QY(bs:LB)(i:Nat):Nat->Nat
 |0=>0
 |k+1=>QY bs i k*2+bt bs (8*i+k)
def Xa(c:Int):Nat->LB->Nat × Nat
 |_,[]=>(0,10)
 |n,false::_=>(n,0)
 |n,true::t=>if(n:Int)=c then(0,3)else Xa c (n+1) t
def Qky(c n i s)(h:i<8*s.length)(hb:Yq s i=false):Xa c n ((Ql s).drop i)=(n,0):=by
 have c:i<(Ql s).length:=by rwa[YP]
 have:=Rz s i h;rw[Qj c]at this;rw[Xf c,Option.some.inj this,hb];rfl
def Qkx(c n i s)(h:i<8*s.length)(hb:Yq s i=true):
 Xa c n ((Ql s).drop i)=if(n:Int)=c then(0,3)else Xa c (n+1) ((Ql s).drop<|i+1):=by
 have c:i<(Ql s).length:=by rwa[YP]
 have:=Rz s i h;rw[Qj c]at this;rw[Xf c,Option.some.inj this,hb];rfl
def Qkv(c n i s)(h:8*s.length<=i):Xa c n ((Ql s).drop i)=(0,10):=by rw[CA<|by rwa[YP]];rfl
end K
namespace K
def nS(bs i)(h:i<8*(Qw bs).length):Yq (Qw bs) i=bs.getD i false:=by
 have hi:i/8<(bs.length+7)/8:=by rw[UD]at h;omega
 unfold Yq;rw[List.getD,GY bs _ hi,V9,U6,XH<|NA bs _];have d:((YW bs<|i/8).testBit<|7-i%8).toNat=(bs.getD i false).toNat:=by
  rw[Hr];have hb:(bs.getD i false).toNat=bt bs (8*(i/8)+i%8):=by unfold bt;rw[(ox:8*(i/8)+i%8=i)]
  rw[hb];unfold YW;have h0:=Vx bs<|8*(i/8);have:=Vx bs<|8*(i/8)+1;have:=Vx bs<|8*(i/8)+2;have:=Vx bs<|8*(i/8)+3;have:=Vx bs<|8*(i/8)+4;have:=Vx bs<|8*(i/8)+5;have h6:=Vx bs<|8*(i/8)+6;have h7:=Vx bs<|8*(i/8)+7;have c:i%8<8:=J8 _ dx;generalize i%8=r at c
  match r,c with
  |0,_=>simp;omega
  |1,_=>simp;omega
  |2,_=>simp;omega
  |3,_=>simp;omega
  |4,_=>simp;omega
  |5,_=>simp;omega
  |6,_=>simp;omega
  |7,_=>simp;omega
 revert d
 cases (YW bs<|i/8).testBit (7-i%8)<;>cases bs.getD i false<;>simp
def jT(bs i n)(h:i+n<=bs.length):QZ (Ql<|Qw bs) i n=QZ bs i n:=by
 apply XB;intro j;unfold QZ;rw[BT,BT]
 split
 ·rename_i o;rw[Ut,Ut,Rz _ _ (by rw[UD];omega),nS _ _ (by rw[UD];omega)];rw[List.getD,Qj (ox:i+j<bs)];rfl
 rfl
def Qdk(v n):low v (n+1)=low (v/2) n++[v.testBit 0]:=by
 unfold low;rw[J5,XC]
 congr 1
 ·refine YT fun k hk=>?_
  have:=ZR.1 hk;rw[(ox:n+1-1-k=(n-1-k)+1),Nat.testBit_succ]
 simp
def Lm(v n):num (low v n)=v%2^n:=by
 induction n generalizing v with
 |zero=>simp[low,num];omega
 |succ n ih=>rw[Qdk,GV,ih,Hr,J9,V6 (2^n) 2,Nat.mod_mul];simp;omega
def Fs(a b c):QZ (a++b++c) a.length b.length=b:=by unfold QZ;rw[QR,FQ,DA]
end K
section
namespace K
def JZ(s:LU)(n:Nat):LU:=((List.range n).map UInt8.ofNat).filter fun b=>decide (b∈s)
def QM(s:LU):LU:=JZ s 256
def oK(s)(n:Nat)(h:UInt8.ofNat n∈s):JZ s (n+1)=JZ s n++[UInt8.ofNat n]:=by unfold JZ;rw[J5,XC,Ba];simp[h]
def oJ(s)(n:Nat)(h:UInt8.ofNat n∉s):JZ s (n+1)=JZ s n:=by unfold JZ;rw[J5,XC,Ba];simp[h]
def oI(s n):(JZ s n).length<=n:=by unfold JZ;exact QS (Ew _ _) sx
def uH:((List.range 256).map UInt8.ofNat).Pairwise (· < ·):=by decide+kernel
def Hx(s):(QM s).Pairwise (· < ·):=uH.sublist Tg
def GT(s b):b∈QM s↔b∈s:=by
 unfold QM JZ;simp only[Ez,QA,ZR,ZE];constructor
 ·exact fun c=>c.2
 exact fun c=>⟨⟨b.toNat,Rc b,sx⟩,c⟩
def kY{l:LU}(h:l.Pairwise (· < ·)):l.Nodup:=h.imp fun {a b} hab he=>by rw[he]at hab;exact absurd hab<|UInt8.lt_irrefl b
def SB(l):QM l=l↔l.Pairwise (· < ·):=by
 constructor
 ·intro c;rw[<-c];exact Hx l
 intro c;refine Ig (le:=(· < ·)) (fun a b _ _ d e=>absurd (UInt8.lt_trans d e)<|UInt8.lt_irrefl a) (Hx l) c ?_;exact(To (kY<|Hx l)<|kY c).2 (GT l)
def oM(s):QM (QM s)=QM s:=(SB _).2 (Hx s)
def VB(l:LU):Bool:=decide (l≠[])&&decide (QM l=l)
def Qd1(s)(h:s≠[]):VB (QM s)=true:=by
 unfold VB;have:QM s≠[]:=by obtain⟨b,hb⟩:=List.exists_mem_of_ne_nil _ h;exact fun c=>by have:=(GT s b).2 hb;rw[c]at this;cases this
 simp[this,oM]
def Qd0(l)(h0:l≠[])(h:∀i,i+1<l.length->l.getD i 0<l.getD (i+1) 0):VB l=true:=by
 have key:∀c i,i+c+1<l.length->l.getD i 0<l.getD (i+c+1) 0:=by
  intro c
  induction c with
  |zero=>exact fun i hi=>h i hi
  |succ c ih=>exact fun i hi=>UInt8.lt_trans (ih i ox)<|h (i+c+1) hi
 have hp:l.Pairwise (· < ·):=by rw[JP];intro i c hi d e;have:=key (c-i-1) i ox;rw[(ox:i+(c-i-1)+1=c),List.getD,List.getD,Qj hi,Qj d]at this;exact this
 unfold VB;simp[h0,(SB l).2 hp]
def Qdz(l i)(hi:i+1<l.length)(h:¬l.getD i 0<l.getD (i+1) 0):VB l=false:=by
 have:QM l≠l:=by intro c;have hp:=(SB l).1 c;rw[JP]at hp;have:=hp i (i+1) ox hi ox;rw[List.getD,List.getD,Qj hi,Qj (ox:i<l)]at h;exact h this
 unfold VB;simp[this]
section
variable {α:Type} [Inhabited α]
def turned(l:List α)(p:Nat):List α:=l.getD p default::l.eraseIdx p
def Ej(l:List α)(p)(h:p<l.length):(turned l p).length=l.length:=by unfold turned;rw[QW,List.length_eraseIdx_of_lt h];omega
def Hs(l p)(h:p<l.length)(b:α):b∈turned l p↔b∈l:=by
 have c:l=l.take p++l[p]::l.drop (p+1):=by rw[<-Xf h,V3]
 have hp:(turned l p).Perm l:=by
  unfold turned;rw[List.eraseIdx_eq_take_drop_succ,List.getD,Qj h]
  conv=>rhs;rw[c]
  exact List.perm_middle.symm
 exact hp.mem_iff
def Qko(l:List α)(p):turned l p=l.getD p default::(l.take p++l.drop (p+1)):=by unfold turned;rw[List.eraseIdx_eq_take_drop_succ]
variable [BEq α] [LawfulBEq α]
def front(l:List α):List α->Option LN
 | []=>some []
 |b::s=>if l.idxOf b=l.length then none else(front (turned l (l.idxOf b)) s).map (l.idxOf b:: ·)
def back(l:List α):LI->Option (List α)
 | []=>some []
 |p::ps=>if p<0\/(l.length:Int)<=p then none else(back (turned l p.toNat) ps).map (l.getD p.toNat default:: ·)
def eP(l:List α)(b:α)(h:l.idxOf b<l.length):l.getD (l.idxOf b) default=b:=by rw[List.getD,Qj h];exact Im h
def uV(s):∀(l:List α)(o:LN),front l s=some o->back l (o.map fun p:Nat=>(p:Int))=some s:=by
 induction s with
 |nil=>intro l o h;simp[front]at h;subst h;rfl
 |cons b s ih=>
  intro l o h;have q:l.idxOf b<=l:=List.idxOf_le_length;rw[front]at h
  split at h
  ·cases h
  rename_i hne;have hlt:l.idxOf b<l:=ox
  cases hf:front (turned l<|l.idxOf b) s with
  |none=>rw[hf]at h;cases h
  |some qs=>rw[hf]at h;obtain rfl:l.idxOf b::qs=o:=(by simpa using h);have:=ih _ _ hf;rw[QV,back,Qf ox,ZH,this,eP l b hlt];rfl
def Qaq(s):∀(l:List α),(∀b∈s,b∈l)->∃c,front l s=some c:=by
 induction s with
 |nil=>exact fun l _=>⟨[],rfl⟩
 |cons b s ih=>intro l e;have hlt:=MB (e b sx);obtain⟨c,h⟩:=ih (turned l<|l.idxOf b) fun d g=>(Hs l _ hlt d).2 (e d<|by simp[g]);exact⟨l.idxOf b::c,by rw[front,Qf ox,h];rfl⟩
def Qan(s):∀(l:List α)(d:LN),front l s=some d->d.length=s.length:=by
 induction s with
 |nil=>intro l d c;simp[front]at c;subst c;rfl
 |cons b s ih=>
  intro l d c;rw[front]at c
  split at c
  ·cases c
  cases hf:front (turned l<|l.idxOf b) s with
  |none=>rw[hf]at c;cases c
  |some qs=>rw[hf]at c;obtain rfl:l.idxOf b::qs=d:=(by simpa using c);simp[ih _ _ hf]
def Qam(l)(b:α)(s)(h:l.idxOf b<l.length):front l (b::s)=(front (turned l<|l.idxOf b) s).map (l.idxOf b:: ·):=by rw[front,Qf ox]
def Qap(l)(b:α)(s)(h:l.idxOf b=l.length):front l (b::s)=none:=by rw[front,Qg h]
def gH{d:Type}(c:Option (List d))(A)(x:d):(c.map (x:: ·)).map (A++ ·)=c.map (A++[x]++ ·):=by cases c<;>simp
end
def AJ(s all:LU):LN × Nat:=if VB all then match front all s with|none=>([],60)|some l=>(l,0)else([],2)
def Bk(l:LI)(all:LU):LU × Nat:=if VB all then match back all l with|none=>([],60)|some s=>(s,0)else([],2)
def Ln(bs):∀j,j<bs.length->(num bs).testBit j=bs.getD (bs.length-1-j) false:=by
 suffices h:∀n (bs:LB),bs.length=n->∀j,j<n->(num bs).testBit j=bs.getD (n-1-j) false by intro j o;exact h _ bs rfl j o
 intro n
 induction n with
 |zero=>intro bs _ j o;omega
 |succ n ih=>
  intro bs q j o;have hne:bs≠[]:=by intro h;simp[h]at q
  have e:=Ii hne;have y:bs.dropLast.length=n:=by simp[q]
  rw[<-e,GV];cases j with
  |zero=>rw[(ox:n+1-1-0=bs.dropLast.length)];cases bs.getLast hne<;>simp[List.getD]
  |succ j=>rw[Nat.testBit_succ,show(2*num bs.dropLast+(bs.getLast hne).toNat)/2=num bs.dropLast by have:=Eo<|bs.getLast hne;omega,ih _ y j ox];rw[List.getD,List.getD,Xc ox,(ox:n+1-1-(j+1)=n-1-j)]
def Qdh(bs):low (num bs) bs.length=bs:=by
 apply XB;intro k
 by_cases hk:k<bs
 ·rw[fU _ _ _ hk,Ln bs _ ox,(ox:bs.length-1-(bs.length-1-k)=k),List.getD,Qj hk];rfl
 rw[QU (by rw[Yl];omega),QU ox]
def Vf(f:Nat->Bool)(n:Nat):Nat:=num ((List.range n).map f)
def Lf(f n):Vf f n<2^n:=by have:=DY<|(List.range n).map f;simpa[Vf]using this
def gJ(f n):low (Vf f n) n=(List.range n).map f:=by have:=Qdh<|(List.range n).map f;simpa[Vf]using this
def OU(f n k)(h:k<n):(Vf f n).testBit (n-1-k)=f k:=by unfold Vf;rw[Ln _ _ zx];simp[List.getD,(ox:n-1-(n-1-k)=k),Xl h]
def gI(x f n)(c:x<2^n)(h:∀k,k<n->x.testBit (n-1-k)=f k):x=Vf f n:=by
 apply Nat.eq_of_testBit_eq;intro c
 by_cases d:c<n
 ·have d:=h (n-1-c) ox;have e:=OU f n (n-1-c) ox;rw[(ox:n-1-(n-1-c)=c)]at d e;rw[d,e]
 have hp:2^n<=2^c:=Ju dx ox;rw[Nat.testBit_lt_two_pow ox,Nat.testBit_lt_two_pow (yx (Lf f n))]
def gN(f g n p)(hp:p<n)(c:∀k,k<n->g k=(f k||decide (k=p))):Vf f n|||2^(n-1-p)=Vf g n:=by
 refine gI _ _ _ (Nat.or_lt_two_pow (Lf f n)<|Nat.pow_lt_pow_right dx ox) fun k hk=>?_
 rw[Nat.testBit_or,OU f n k hk,c k hk,Nat.testBit_two_pow]
 congr 1
 rw[Cw];simp;omega
def OV(f g n)(h:∀k,k<n->f k=g k):Vf f n=Vf g n:=by unfold Vf;congr 1;exact YT fun k hk=>h k<|ZR.1 hk
def gM(n):Vf (fun _=>false) n=0:=by have:(0:Nat)=Vf (fun _=>false) n:=gI 0 _ n (DH n) (fun k hk=>sx);exact this.symm
def Qdt(f n):Vf f n=0↔∀k,k<n->f k=false:=by
 constructor
 ·intro c k hk;have:=OU f n k hk;rw[c]at this;simpa using this.symm
 intro c;rw[OV f (fun _=>false) n c,gM]
def has(l:LU)(i k:Nat):Bool:=decide (UInt8.ofNat (16*i+k)∈l)
def Ro(l:LU)(i:Nat):LB:=(List.range 16).map (has l i)
def JW(l:LU)(i:Nat):Bool:=(List.range 16).any (has l i)
def Vj(l:LU)(i:Nat):Nat:=Vf (has l i) 16
def LJ(l i):(Ro l i).length=16:=by simp[Ro]
def PV(l i):Vj l i=0↔JW l i=false:=by unfold Vj JW;rw[Qdt,List.any_eq_false];simp
def Qh0(l i):low (Vj l i) 16=Ro l i:=gJ _ _
def eH(l b i k)(hi:i<16)(hk:k<16):has (l++[b]) i k=(has l i k||decide (i=b.toNat/16/\k=b.toNat%16)):=by
 unfold has;rw[Cw];simp only[Q4,Zb,ZE,FK];refine or_congr Iff.rfl ?_;constructor
 ·intro c;have:=Qt UInt8.toNat c;rw[U6]at this;omega
 rintro⟨rfl,rfl⟩;rw[MN];simp
def Qh2(l b):Vj (l++[b]) (b.toNat/16)=Vj l (b.toNat/16)|||2^(15-b.toNat%16):=by have hb:=Rc b;refine(gN (has l<|b.toNat/16) _ 16 (b.toNat%16) ox fun k hk=>?_).symm;rw[eH l b _ k ox hk];simp
def Qh1(l b i)(hi:i<16)(h:i≠b.toNat/16):Vj (l++[b]) i=Vj l i:=by
 refine OV _ _ _ fun k hk=>?_
 rw[eH l b i k hi hk];simp[h]
def RD(l:LU)(n:Nat):Nat:=Vf (fun c=>decide (c<n)&&JW l c) 16
def Qbv(l):RD l 0=0:=by unfold RD;simp[gM]
def Qbu(l n)(c:n<16)(h:JW l n=true):RD l (n+1)=RD l n|||2^(15-n):=by
 refine(gN _ _ 16 n c fun k hk=>?_).symm;rw[Cw];simp only[Xt,FK,ZE];constructor
 ·rintro⟨d,c⟩
  by_cases hk:k=n
  ·exact .inr hk
  exact .inl ⟨ox,c⟩
 rintro(⟨d,c⟩|rfl)
 ·exact⟨ox,c⟩
 exact⟨ox,h⟩
def Qbt(l n)(h:JW l n=false):RD l (n+1)=RD l n:=by
 refine OV _ _ _ fun k hk=>?_
 rw[Cw];simp only[Xt,ZE];constructor
 ·rintro⟨e,c⟩;refine⟨?_,c⟩;rcases Xw k n with d|d
  ·exact d
  obtain rfl:k=n:=ox
  rw[h]at c;cases c
 rintro⟨e,c⟩;exact⟨ox,c⟩
def AN(l:LU):LB:=(List.range 16).map (JW l)
def GI(l):(AN l).length=16:=by simp[AN]
def Qbs(l):low (RD l 16) 16=AN l:=by unfold RD AN;rw[gJ];exact YT fun c hi=>by simp[ZR.1 hi]
def eJ(l n):RD l n<65536:=Lf _ 16
def lE(l n):Vj l n<65536:=Lf _ 16
def Ya(l:LU)(n:Nat):LB:=(List.range n).flatMap fun c=>if JW l c then Ro l c else []
def Qh5(l):Ya l 0=[]:=rfl
def Hd(l n)(h:JW l n=true):Ya l (n+1)=Ya l n++Ro l n:=by unfold Ya;rw[J5,Mz];simp[h]
def Hc(l n)(h:JW l n=false):Ya l (n+1)=Ya l n:=by unfold Ya;rw[J5,Mz];simp[h]
def lG(l n):(Ya l n).length<=16*n:=by
 induction n with
 |zero=>simp[Ya]
 |succ n ih=>
  rcases J1 (JW l n)with c|c
  ·rw[Hd l n c,Qo,LJ];omega
  rw[Hc l n c];omega
def Z9(l:LU):LB:=AN l++Ya l 16
def Sm(l):(Z9 l).length<=272:=by unfold Z9;rw[Qo,GI];have:=lG l 16;omega
def FB(l:LU):LU × Int × Nat:=if VB l then(Qw (Z9 l),(((Z9 l).length:Nat):Int),0)else([],0,2)
def Um(i:Nat)(r:LB)(n:Nat):LU:=((List.range n).filter fun k=>r.getD k false).map fun k=>UInt8.ofNat (16*i+k)
def lR(i r n)(h:r.getD n false=true):Um i r (n+1)=Um i r n++[UInt8.ofNat<|16*i+n]:=by
 unfold Um;rw[J5,Ba,XC]
 congr 1
 rw[FR,Qg h];rfl
def lP(i r n)(h:r.getD n false=false):Um i r (n+1)=Um i r n:=by unfold Um;rw[J5,Ba,XC];rw[FR,Qf (by rw[h];decide)];simp
def lO(i r n):(Um i r n).length<=n:=by unfold Um;rw[QH];exact QS (Ew _ _) sx
def UW(bs:LB)(a:Nat->Bool):Nat->Nat->Nat->LU->Option (LU × Nat)
 |0,_,p,out=>some (out,p)
 |k+1,i,p,out=>if a i then(if bs.length<p+16 then none else UW bs a k (i+1) (p+16) (out++Um i (QZ bs p 16) 16))else UW bs a k (i+1) p out
def LO:Option (LU × Nat)->LU × Int × Nat
 |none=>([],0,10)
 |some (out,p)=>if out=[]then([],0,60)else(out,(p:Int),0)
def AX(bs:LB)(at_:Int):LU × Int × Nat:=
 if at_<0\/(bs:Int)<at_ then([],0,2)else if bs<at_.toNat+16 then([],0,10)else
  LO (UW bs (fun c=>bs.getD (at_.toNat+c) false) 16 0 (at_.toNat+16) [])
def lQ(l i n)(hi:i<16)(c:n<=16):JZ l (16*i+n)=JZ l (16*i)++Um i (Ro l i) n:=by
 induction n with
 |zero=>simp[Um]
 |succ n d=>
  have d:=d ox;have e:(Ro l i).getD n false=has l i n:=by simp[Ro,List.getD,Xl (ox:n<16)]
  rcases J1 (has l i n)with c|c
  ·rw[lR _ _ _<|e.trans c,<-QR,<-d];exact oK l (16*i+n)<|Df c
  rw[lP _ _ _<|e.trans c,<-d];exact oJ l (16*i+n)<|Po c
def Qk3(l i)(hi:i<16)(h:JW l i=false):JZ l (16*(i+1))=JZ l (16*i):=by
 have c:=lQ l i 16 hi ox;rw[(ox:16*(i+1)=16*i+16),c];have:Um i (Ro l i) 16=[]:=by unfold Um;rw[Tk,List.filter_eq_nil_iff];intro k hk;have c:=ZR.1 hk;unfold JW at h;rw[List.any_eq_false]at h;have:=h k hk;simpa[Ro,List.getD,Xl c]using this
 rw[this,XX]
def Qj9(bs l p)(hp:∀j n,j+n<=(Ya l 16).length->QZ bs (p+j) n=QZ (Ya l 16) j n)(c:p+(Ya l 16).length<=bs.length):
 ∀k i,i+k=16->UW bs (JW l) k i (p+(Ya l i).length) (JZ l<|16*i)=some (QM l,p+(Ya l 16).length):=by
 intro k
 induction k with
 |zero=>
  intro i hi;have hi:i=16:=ox
  subst hi;rfl
 |succ k g=>
  intro i hi;have g:=g (i+1) ox;have:∀c,∃e,Ya l (i+c)=Ya l i++e:=by
   intro c
   induction c with
   |zero=>exact⟨[],sx⟩
   |succ c g=>
    obtain⟨e,h⟩:=g;rcases J1 (JW l<|i+c)with d|d
    ·exact⟨e++Ro l (i+c),by rw[(ox:i+(c+1)=i+c+1),Hd _ _ d,h,QR]⟩
    exact⟨e,by rw[(ox:i+(c+1)=i+c+1),Hc _ _ d,h]⟩
  rw[UW];rcases J1 (JW l i)with d|d
  ·have m:=Hd l i d;obtain⟨e,h⟩:∃e,Ya l 16=Ya l (i+1)++e:=by
    have:∀c,∃e,Ya l (i+1+c)=Ya l (i+1)++e:=by
     intro c
     induction c with
     |zero=>exact⟨[],sx⟩
     |succ c g=>
      obtain⟨e,h⟩:=g;rcases J1 (JW l<|i+1+c)with d|d
      ·exact⟨e++Ro l (i+1+c),by rw[(ox:i+1+(c+1)=i+1+c+1),Hd _ _ d,h,QR]⟩
      exact⟨e,by rw[(ox:i+1+(c+1)=i+1+c+1),Hc _ _ d,h]⟩
    have:=this<|16-(i+1);rwa[(ox:i+1+(16-(i+1))=16)]at this
   have c:(Ya l i).length+16<=(Ya l 16).length:=(by rw[h,m,Qo,Qo,LJ];omega);rw[Qg d,Qf ox,hp _ _ c];have c:QZ (Ya l 16) (Ya l i).length 16=Ro l i:=(by rw[h,m];have:=Fs (Ya l i) (Ro l i) e;rwa[LJ]at this);rw[c,<-lQ l i 16 ox ox,show 16*i+16=16*(i+1)by omega];rwa[m,Qo,LJ,<-Y7]at g
  have c:=Hc l i d;rw[c,Qk3 l i ox d]at g;rw[Qf (by rw[d];decide)];exact g
end K
end
namespace K
def Qf8(s p)(h:p<8*s.length):QZ (Ql s) p 1=[Yq s p]:=by have:=jV s p 0 ox;rw[PC]at this;simpa using this
def Qe1(b):num [b]=b.toNat:=by simp[num]
def Qdj(b):low b.toNat 1=[b]:=by cases b<;>rfl
end K
namespace K
def UR(s:LU)(n:Int):Bool:=decide (0<=n/\n<=(8*s.length:Nat)/\((8*s.length:Nat):Int)-n<8)&&((Ql s).drop n.toNat).all (! ·)
def Qin:∀r:Fin 8,∀x:Fin 256,(x.val*2^r.val%256==0)=((List.range<|8-r.val).all fun k=>! x.val.testBit (7-(r.val+k))):=by decide+kernel
def Qdw(s)(n:Nat)(h:¬s.length=n/8+(n%8+7)/8):UR s n=false:=by
 have:¬(0<=(n:Int)/\(n:Int)<=(8*s.length:Nat)/\((8*s.length:Nat):Int)-n<8):=ox
 unfold UR;rw[X0 this];rfl
def Qdv(s)(n:Nat)(h:s.length=n/8+(n%8+7)/8)(c:n%8=0):UR s n=true:=by
 have c:0<=(n:Int)/\(n:Int)<=(8*s.length:Nat)/\((8*s.length:Nat):Int)-n<8:=ox
 unfold UR;rw[XE c,ZH,Jq (by rw[YP];omega)];rfl
def Qdx(s)(n:Nat)(h:s.length=n/8+(n%8+7)/8)(c:¬n%8=0):UR s n=((s.getD (s.length-1) 0).toNat*2^(n%8)%256==0):=by
 obtain⟨e,d⟩:(0<=(n:Int)/\(n:Int)<=(8*s.length:Nat)/\((8*s.length:Nat):Int)-n<8)/\s.length-1=n/8:=ox
 have c:=Qin ⟨n%8,ox⟩ ⟨(s.getD (s.length-1) 0).toNat,Rc _⟩;simp only at c;rw[c];unfold UR;rw[XE e,ZH,Rt,Cw,Yb,Yb];constructor
 ·intro c k hk;have:=ZR.1 hk;refine c _<|List.mem_iff_getElem?.2 ⟨k,?_⟩;rw[Ut,Rz s (n+k) ox]
  congr 1
  unfold Yq;rw[show(n+k)/8=n/8 by omega,show(n+k)%8=n%8+k by omega,d]
 intro c b hb;obtain⟨k,hk⟩:=List.mem_iff_getElem?.1 hb;rw[Ut]at hk;have hlt:=(Qy.1 hk).1;rw[YP]at hlt;rw[Rz s (n+k) hlt]at hk;have:=c k (ZR.2 ox);rw[<-Option.some.inj hk];unfold Yq;rw[show(n+k)/8=n/8 by omega,show(n+k)%8=n%8+k by omega,<-d];exact this
end K
namespace K
def Cm(p:LU × Int):LB:=(Ql p.1).take p.2.toNat
def YK(c:List (LU × Int)):LB:=c.flatMap Cm
def JL(c:List (LU × Int)):Nat:=(c.map fun c=>c.1.length).sum
def Ch(c:List (LU × Int)):LU × Int × Nat:=
 if c.all fun d=>UR d.1 d.2 then(Qw (YK c),((YK c).length:Nat),0)else([],0,2)
def Qe6(p):(Cm p).length<=8*p.1.length:=by unfold Cm;rw[Zd,YP];omega
def Qco(c):(YK c).length<=8*JL c:=by
 induction c with
 |nil=>simp[YK,JL]
 |cons p c ih=>
  have:=Qe6 p;have d:YK (p::c)=Cm p++YK c:=by simp[YK]
  have e:JL (p::c)=p.1.length+JL c:=by simp[JL]
  rw[d,e,Qo];omega
def Qkj(c j):JL (c.take j)<=JL c:=by
 have:JL c=JL (c.take j)+JL (c.drop j):=by
  conv=>lhs;rw[<-V3 j c]
  simp only[JL,XC,List.sum_append]
 omega
def Qki(c)(j:Nat)(p)(h:c[j]?=some p):p.1.length<=JL c:=by
 induction c generalizing j with
 |nil=>simp at h
 |cons q c ih=>
  have:JL (q::c)=q.1.length+JL c:=by simp[JL]
  cases j with
  |zero=>simp at h;subst h;omega
  |succ j=>have:=ih j (by simpa using h);omega
def Qcq(c:List (LU × Int))(j p)(h:c[j]?=some p):YK (c.take<|j+1)=YK (c.take j)++Cm p:=by have c:=(Qy.1 h).1;rw[Bd c];rw[Qj c]at h;rw[Option.some.inj h];simp[YK]
def uL(c:List (LU × Int))(f j p)(h:c[j]?=some p):(c.take<|j+1).all f=((c.take j).all f&&f p):=by have c:=(Qy.1 h).1;rw[Bd c];rw[Qj c]at h;rw[Option.some.inj h];simp
def uK(c:List (LU × Int))(f)(j:Nat)(p:LU × Int)(h:c[j]?=some p)(hf:f p=false):c.all f=false:=by
 cases hall:c.all f with
 |false=>rfl
 |true=>have:=(Yb.1 hall) p<|QB h;rw[hf]at this;cases this
def Qcr(c)(j:Nat)(p)(h:c[j]?=some p)(hf:UR p.1 p.2=false):Ch c=([],0,2):=by unfold Ch;rw[uK c (fun p=>UR p.1 p.2) j p h hf];rfl
def Qdy(s n)(h:UR s n=true):0<=n/\n<=(8*s.length:Nat):=by unfold UR at h;rw[Xt]at h;have:=Df h.1;exact⟨this.1,this.2.1⟩
end K
namespace K
def OZ(p):UR (Qw p) (p.length:Nat)=true:=by
 have:=UD p;unfold UR;rw[Xt];refine⟨zx,Yb.2 fun b hb=>?_⟩;obtain⟨d,c⟩:=FT hb;rw[ZH,Ut]at c;have hlt:=(Qy.1 c).1;rw[YP]at hlt;rw[Rz _ _ hlt,nS _ _ hlt]at c;have:p.getD (p.length+d) false=false:=by rw[Ar,QU ox];rfl
 rw[this]at c;injection c with c;subst c;rfl
def Pp(p):Cm (Qw p,(p.length:Nat))=p:=by have:=jT p 0 p.length ox;unfold QZ at this;unfold Cm;rw[ZH];simpa using this
def Qf6(l i n)(h:i+n<=l.length):(QZ l i n).length=n:=by unfold QZ;rw[Zd,YN];omega
end K
namespace K
def VV(c x:Int):LB:=(List.replicate (x-c).toNat [true,false]).flatten++((List.replicate (c-x).toNat [true,true]).flatten++[false])
def VG(c:Int):LI->LB
 | []=>[]
 |x::xs=>VV c x++VG x xs
def Q7(xs:LI):LB:=low (xs.headD 0).toNat 5++VG (xs.headD 0) xs
def JU(xs:LI):Bool:=decide (2<=xs.length/\xs.length<=258)&&xs.all fun c=>decide (1<=c/\c<=20)
def Cq(xs:LI):LU × Int × Nat:=if JU xs then(Qw (Q7 xs),((Q7 xs).length:Nat),0)else([],0,80)
def mT(c x)(h:c<x):VV c x=true::false::VV (c+1) x:=by unfold VV;obtain⟨k,hk⟩:∃k:Nat,(x-c).toNat=k+1:=⟨(x-c).toNat-1,ox⟩;rw[hk,show(x-(c+1)).toNat=k by omega,show(c-x).toNat=0 by omega,show(c+1-x).toNat=0 by omega,JB];simp
def mR(c x)(h:x<c):VV c x=true::true::VV (c-1) x:=by unfold VV;obtain⟨k,hk⟩:∃k:Nat,(c-x).toNat=k+1:=⟨(c-x).toNat-1,ox⟩;rw[hk,show(c-1-x).toNat=k by omega,show(x-c).toNat=0 by omega,show(x-(c-1)).toNat=0 by omega,JB];simp
def mS(x):VV x x=[false]:=by simp[VV]
def Qjj(c x):(VV c x).length=1+2*(x-c).natAbs:=by unfold VV;simp only[Qo,List.length_flatten,Io,List.sum_replicate_nat,QW,YE];omega
def Sd(c x xs):VG c (x::xs)=VV c x++VG x xs:=rfl
def lX(c xs)(h0:1<=c/\c<=20)(h:∀x∈xs,1<=x/\x<=20):(VG c xs).length<=39*xs.length:=by
 induction xs generalizing c with
 |nil=>simp[VG]
 |cons x xs ih=>have d:=h x sx;have:=ih x d (fun e d=>h e<|by simp[d]);have:=Qjj c x;rw[Sd,Qo,QW];omega
def Ve(xs):JU xs=true↔(2<=xs.length/\xs.length<=258)/\∀x∈xs,1<=x/\x<=20:=by unfold JU;simp[Yb]
def Om(xs:LI)(h:0<xs.length):xs.headD 0∈xs:=by
 cases xs with
 |nil=>simp at h
 |cons x xs=>simp
def Hi(xs)(h:JU xs=true):(Q7 xs).length<=20000:=by
 obtain⟨⟨q,y⟩,o⟩:=(Ve xs).1 h;have:=lX (xs.headD 0) xs (o _<|Om xs ox) o;unfold Q7;rw[Qo];have hl:(low (xs.headD 0).toNat 5).length=5:=by simp[low]
 omega
def OM(xs)(h:¬(2<=xs.length/\xs.length<=258)):JU xs=false:=by
 cases e:JU xs with
 |false=>rfl
 |true=>exact absurd ((Ve xs).1 e).1 h
def fJ(xs)(i:Nat)(x)(c:xs[i]?=some x)(h:x<1\/20<x):JU xs=false:=by
 cases e:JU xs with
 |false=>rfl
 |true=>have:=((Ve xs).1 e).2 x (QB c);omega
def X9(n:Nat):LI->Int->Nat->LB->LI × Nat × Nat
 |QY,now,p,l=>if n<=QY.length then(QY,p,0)else if now<1\/20<now then([],0,80)else
  match l with
  | []=>([],0,10)
  |false::r=>X9 n (QY++[now]) now (p+1) r
  | [true]=>([],0,10)
  |true::false::r=>X9 n QY (now+1) (p+2) r
  |true::true::r=>X9 n QY (now-1) (p+2) r
def Jw(bs:LB)(at_ n:Int):LI × Nat × Nat:=
 if at_<0\/(bs:Nat)<at_\/n<2\/258<n then([],0,2)else if bs<at_.toNat+5 then([],0,10)else
  X9 n.toNat [] (num (QZ bs at_.toNat 5)) (at_.toNat+5) (bs.drop (at_.toNat+5))
def Lb(n QY c p l)(h:n<=QY.length):X9 n QY c p l=(QY,p,0):=by unfold X9;rw[Qg h]
def ON(n QY c p l)(h:QY.length<n)(d:c<1\/20<c):X9 n QY c p l=([],0,80):=by unfold X9;rw[Qf ox,Qg d]
def OO(n QY c p)(h:QY.length<n)(d:¬(c<1\/20<c)):X9 n QY c p []=([],0,10):=by unfold X9;rw[Qf ox,Qf d]
def OP(n QY c p r)(h:QY.length<n)(d:¬(c<1\/20<c)):X9 n QY c p (false::r)=X9 n (QY++[c]) c (p+1) r:=by rw[X9,Qf ox,Qf d]
def fL(n QY c p)(h:QY.length<n)(d:¬(c<1\/20<c)):X9 n QY c p [true]=([],0,10):=by rw[X9,Qf ox,Qf d]
def fM(n QY c p r)(h:QY.length<n)(d:¬(c<1\/20<c)):X9 n QY c p (true::false::r)=X9 n QY (c+1) (p+2) r:=by rw[X9,Qf ox,Qf d]
def fK(n QY c p r)(h:QY.length<n)(d:¬(c<1\/20<c)):X9 n QY c p (true::true::r)=X9 n QY (c-1) (p+2) r:=by rw[X9,Qf ox,Qf d]
def Qc9(n QY x q)(h:QY.length<n)(hx:1<=x/\x<=20):∀(d:Nat)(o:Int)(p:Nat),(x-o).natAbs=d->(1<=o/\o<=20)->
 X9 n QY o p (VV o x++q)=X9 n (QY++[x]) x (p+(VV o x).length) q:=by
 intro d
 induction d with
 |zero=>
  intro o p y hn;obtain rfl:o=x:=ox
  rw[mS];exact OP n QY o p q h ox
 |succ d ih=>
  intro o p y hn
  by_cases hlt:o<x
  ·rw[mT o x hlt];simp only[XY,QW];rw[fM n QY o p _ h ox,ih (o+1) (p+2) ox ox]
   congr 1
   omega
  rw[mR o x ox];simp only[XY,QW];rw[fK n QY o p _ h ox,ih (o-1) (p+2) ox ox]
  congr 1
  omega
def Qc7(n xs):∀(QY:LI)(c:Int)(p:Nat)(g:LB),QY.length+xs.length=n->(1<=c/\c<=20)->(∀x∈xs,1<=x/\x<=20)->
 X9 n QY c p (VG c xs++g)=(QY++xs,p+(VG c xs).length,0):=by
 induction xs with
 |nil=>intro QY c p g e h d;rw[Lb _ _ _ _ _ (by simp at e;omega)];simp[VG]
 |cons x xs ih=>intro QY c p g e h d;rw[QW]at e;rw[Sd,QR,Qc9 n QY x _ ox (d x sx) _ c p rfl h,ih _ x _ _ zx (d x sx) fun e c=>d e<|by simp[c]];simp[Y7]
end K
namespace K
end K
namespace K
def aD(a b):Ql (a++b)=Ql a++Ql b:=by
 apply XB;intro c
 by_cases d:c<8*a.length
 ·rw[Rz _ _ (by rw[Qo];omega),Xc<|by rwa[YP],Rz _ _ d];unfold Yq;have d:(a++b).getD (c/8) 0=a.getD (c/8) 0:=by rw[Ar,Xc ox,<-Ar]
  rw[d]
 rw[Zm (by rw[YP];omega),YP]
 by_cases e:c<8*(a++b).length
 ·rw[Qo]at e;rw[Rz _ _ (by rw[Qo];omega),Rz _ _ ox];unfold Yq;have d:(a++b).getD (c/8) 0=b.getD ((c-8*a.length)/8) 0:=by
   rw[Ar,Zm ox,<-Ar]
   congr 1
   omega
  rw[d,show(c-8*a.length)%8=c%8 by omega]
 rw[Qo]at e;rw[QU (by rw[YP,Qo];omega),QU (by rw[YP];omega)]
def vD(c):∃d,Ql (Qw c)=c++d:=by refine⟨(Ql<|Qw c).drop c.length,?_⟩;have:=jT c 0 c.length ox;unfold QZ at this;simp at this;have d:=V3 c.length<|Ql<|Qw c;rw[this]at d;exact d.symm
def Qc5(P R v n)(h:v<32)(c:2<=n/\n<=258):Jw (P++(low v 5++R)) (P.length:Nat) (n:Nat)=X9 n [] (v:Int) (P.length+5) R:=by
 have c:(low v 5).length=5:=by simp[low]
 unfold Jw;rw[Qf (by simp only[Qo];omega),ZH,Qf (by simp only[Qo];omega),ZH];have d:QZ (P++(low v 5++R)) P 5=low v 5:=by have:=Fs P (low v 5) R;rw[c,QR]at this;exact this
 have e:(P++(low v 5++R)).drop (P.length+5)=R:=by
  have g:(P++low v 5).length=P.length+5:=by rw[Qo,c]
  rw[<-QR,<-g,FQ]
 rw[d,e,Lm,XH h]
end K
namespace K
def room(ls:LN):Nat:=(ls.map fun c=>2^(20-c)).sum
def QE(l:LI):LN:=l.map Int.toNat
def Vi(l):(QE l).length=l.length:=by simp[QE]
def XM(l:LI):Bool:=JU l&&decide (room (QE l)<=1048576)
def Vc{l}(h:XM l=true):JU l=true:=by unfold XM at h;simp at h;exact h.1
def GH{l}(h:XM l=true):room (QE l)<=1048576:=by unfold XM at h;simp at h;exact h.2
def CU{l}(h:XM l=true):∀x∈QE l,1<=x/\x<=20:=by intro x c;simp only[QE,QA]at c;obtain⟨e,d,rfl⟩:=c;have:=((Ve l).1 (Vc h)).2 e d;omega
def Qhq(ls x):room (ls++[x])=room ls+2^(20-x):=by simp[room]
def Qho(ls):room ls<=ls.length*1048576:=by
 induction ls with
 |nil=>simp[room]
 |cons x ls ih=>
  have:2^(20-x)<=2^20:=Ju dx ox;have c:room (x::ls)=2^(20-x)+room ls:=by simp[room]
  rw[c,QW,DG];have:(2:Nat)^20=1048576:=rfl;omega
def Zw(ls:LN):Nat->Nat
 |0=>0
 |n+1=>2*(Zw ls n+ls.count n)
def YS(ls:LN)(n i:Nat):LN:=(List.range i).filter fun c=>decide (ls.getD c 0=n)
def Cf(ls:LN)(n:Nat):LN:=YS ls n ls.length
def ZQ(ls:LN):Nat->LN
 |0=>[]
 |n+1=>ZQ ls n++Cf ls n
def YQ(ls:LN)(i:Nat):Nat:=Zw ls (ls.getD i 0)+(ls.take i).count (ls.getD i 0)
def UM(ls:LN):LN:=(List.range ls.length).map (YQ ls)
def NO(ls):(UM ls).length=ls.length:=by simp[UM]
def xR(ls i)(h:i<ls.length):(UM ls)[i]?=some (YQ ls i):=by simp[UM,Xl h]
def Ow(ls n):YS ls n 0=[]:=rfl
def Ov(ls n i)(h:ls.getD i 0=n):YS ls n (i+1)=YS ls n i++[i]:=by unfold YS;rw[J5,Ba];congr 1;rw[FR,Qg<|XE h];rfl
def Ou(ls n i)(h:ls.getD i 0≠n):YS ls n (i+1)=YS ls n i:=by unfold YS;rw[J5,Ba,FR,Qf (by rw[X0 h];decide)];simp
def nN(ls:LN)(n i)(h:i<ls.length):(ls.take<|i+1).count n=(ls.take i).count n+if ls.getD i 0=n then 1 else 0:=by
 rw[Bd h,List.count_append,List.getD,Qj h,V9,List.count_singleton]
 congr 1
 by_cases c:ls[i]=n<;>simp[c]
def Ot(ls n):∀i,i<=ls.length->(YS ls n i).length=(ls.take i).count n:=by
 intro i
 induction i with
 |zero=>intro _;simp[YS]
 |succ i ih=>
  intro hi;rw[nN ls n i ox,<-ih ox]
  by_cases c:ls.getD i 0=n
  ·rw[Ov _ _ _ c,Qg c];simp
  rw[Ou _ _ _ c,Qf c];simp
def Ox(ls n):(Cf ls n).length=ls.count n:=by unfold Cf;rw[Ot ls n _<|Qk _,VM]
def Qca(ls n k i):∀m,m<=ls.length->((YS ls n m)[k]?=some i↔i<m/\ls.getD i 0=n/\(ls.take i).count n=k):=by
 intro m
 induction m with
 |zero=>intro _;simp[YS]
 |succ m g=>
  intro c;have g:=g ox;have:=Ot ls n m ox
  by_cases h:ls.getD m 0=n
  ·rw[Ov _ _ _ h];rcases Xw k (YS ls n m).length with hk|hk
   ·rw[Xc hk,g];constructor
    ·exact fun c=>⟨ox,c.2⟩
    rintro⟨j,d,e⟩;refine⟨?_,d,e⟩;rcases Xw i m with c|c
    ·exact c
    obtain rfl:i=m:=ox;omega
   rw[Zm hk];constructor
   ·intro c;have hlt:=(Qy.1 c).1;simp at hlt;have hz:k-(YS ls n m).length=0:=ox;rw[hz]at c;simp at c;subst c;exact⟨ox,h,ox⟩
   rintro⟨j,d,e⟩;rcases Xw i m with c|c
   ·have:=(g.2 ⟨c,d,e⟩);have:=(Qy.1 this).1;omega
   obtain rfl:i=m:=ox;have hz:k-(YS ls n i).length=0:=ox;rw[hz];rfl
  rw[Ou _ _ _ h,g];constructor
  ·exact fun c=>⟨ox,c.2⟩
  rintro⟨j,d,e⟩;refine⟨?_,d,e⟩;rcases Xw i m with c|c
  ·exact c
  obtain rfl:i=m:=ox
  exact absurd d h
def GK(ls n k i):(Cf ls n)[k]?=some i↔i<ls.length/\ls.getD i 0=n/\(ls.take i).count n=k:=Qca ls n k i ls.length<|Qk _
def Qfd(ls n):∀d,∃t,ZQ ls (n+d)=ZQ ls n++t:=by
 intro d
 induction d with
 |zero=>exact⟨[],sx⟩
 |succ d ih=>obtain⟨t,c⟩:=ih;exact⟨t++Cf ls (n+d),by rw[(ox:n+(d+1)=n+d+1),ZQ,c,QR]⟩
def Lq(ls n N k i)(c:n<N)(h:(Cf ls n)[k]?=some i):(ZQ ls N)[(ZQ ls n).length+k]?=some i:=by obtain⟨c,c⟩:=Qfd ls (n+1)<|N-(n+1);rw[(ox:n+1+(N-(n+1))=N)]at c;have hk:=(Qy.1 h).1;rwa[c,ZQ,QR,Zm ox,MM,Xc hk]
def Qfc(ls):∀N k i,(ZQ ls N)[k]?=some i->i<ls.length/\ls.getD i 0<N/\k=(ZQ ls<|ls.getD i 0).length+(ls.take i).count (ls.getD i 0):=by
 intro N
 induction N with
 |zero=>intro k i c;simp[ZQ]at c
 |succ N ih=>
  intro k i c;rw[ZQ]at c;rcases Xw k (ZQ ls N).length with hk|hk
  ·rw[Xc hk]at c;obtain⟨d,e,g⟩:=ih k i c;exact⟨d,ox,g⟩
  rw[Zm hk]at c;obtain⟨d,e,g⟩:=(GK ls N _ i).1 c;subst e;exact⟨d,ox,ox⟩
def Qfb(ls N)(h:∀x∈ls,x<N)(i)(hi:i<ls.length):∃k:Nat,(ZQ ls N)[k]?=some i:=by
 have c:ls.getD i 0<N:=by rw[List.getD,Qj hi];exact h _<|Yc hi
 exact⟨_,Lq ls (ls.getD i 0) N _ i c<|(GK ls _ _ i).2 ⟨hi,rfl,rfl⟩⟩
def Qk1(ls n):Zw ls n+ls.count n=(ls.map fun x=>if x<=n then 2^(n-x)else 0).sum:=by
 induction n with
 |zero=>
  rw[Zw,Zu]
  induction ls with
  |nil=>rfl
  |cons x ls ih=>
   rw[List.count_cons,QV,Xm,ih]
   by_cases c:x=0
   ·subst c;simp;omega
   simp[c]
 |succ n ih=>
  rw[Zw,ih];clear ih
  induction ls with
  |nil=>rfl
  |cons x ls ih=>
   rw[List.count_cons,QV,Xm,QV,Xm,<-ih];have hp:(2:Nat)^(n+1-(n+1))=1:=sx
   by_cases c:x<=n
   ·have d:(if x<=n then 2^(n-x)else 0)=2^(n-x):=Qg c;have g:(if x<=n+1 then 2^(n+1-x)else 0)=2*2^(n-x):=(by rw[Qg ox,(ox:n+1-x=(n-x)+1),J9];omega);have e:(x==n+1)=false:=zx;rw[d,g,e];simp;omega
   have d:(if x<=n then 2^(n-x)else 0)=0:=Qf c;rw[d]
   by_cases c:x=n+1
   ·subst c;rw[Qg<|Qk _,hp];simp;omega
   have e:(x==n+1)=false:=zx;rw[Qf (ox: ¬x<=n+1),e];simp
def Qk2(ls)(d:∀x∈ls,x<=20)(n)(c:n<=20):(Zw ls n+ls.count n)*2^(20-n)<=room ls:=by
 rw[Qk1];unfold room
 induction ls with
 |nil=>simp
 |cons x ls c=>
  have c:=c (fun g e=>d g<|by simp[e]);have:=d x sx;rw[QV,Xm,QV,Xm,V5]
  by_cases d:x<=n
  ·rw[Qg d,<-EK,(ox:n-x+(20-n)=20-x)];omega
  rw[Qf d,IA,Zu];exact QS c<|Nat.le_add_left _ _
def fits(ls)(d:∀x∈ls,x<=20)(g:room ls<=1048576)(n)(e:n<=20):Zw ls n+ls.count n<=2^n:=by
 have c:=Qk2 ls d n e;have d:(Zw ls n+ls.count n)*2^(20-n)<=2^n*2^(20-n):=by rw[<-EK,(ox:n+(20-n)=20)];exact QS c g
 exact Nat.le_of_mul_le_mul_right d<|DH _
def zX(ls n):∀d,(Zw ls n+ls.count n)*2^(d+1)<=Zw ls (n+d+1):=by
 intro d
 induction d with
 |zero=>rw[Zw];omega
 |succ d ih=>rw[(ox:n+(d+1)+1=(n+d+1)+1),Zw,J9,<-FZ];omega
def Kx(ls i)(hi:i<ls.length):Zw ls (ls.getD i 0)<=YQ ls i/\YQ ls i<Zw ls (ls.getD i 0)+ls.count (ls.getD i 0):=by unfold YQ;refine⟨ox,?_⟩;have c:=nN ls (ls.getD i 0) i hi;rw[Qg rfl]at c;have:(ls.take<|i+1).count (ls.getD i 0)<=ls.count (ls.getD i 0):=(MJ _ _).count_le _;omega
def bS(ls)(c:∀x∈ls,x<=20)(d:room ls<=1048576)(i)(hi:i<ls.length):YQ ls i<2^(ls.getD i 0):=by
 have e:ls.getD i 0<=20:=by rw[List.getD,Qj hi];exact c _<|Yc hi
 have:=fits ls c d _ e;have:=Kx ls i hi;omega
def xP(ls n k i)(h:(Cf ls n)[k]?=some i):YQ ls i=Zw ls n+k:=by obtain⟨c,c,d⟩:=(GK ls n k i).1 h;unfold YQ;rw[c,d]
def xQ(ls n c)(d:Zw ls n<=c)(d:c<Zw ls n+ls.count n):∃i,i<ls.length/\ls.getD i 0=n/\YQ ls i=c/\(Cf ls n)[c-Zw ls n]?=some i:=by
 have hk:c-Zw ls n<(Cf ls n).length:=by rw[Ox];omega
 have d:=Qj hk;obtain⟨e,g,h⟩:=(GK ls n _ _).1 d;exact⟨_,e,g,by rw[xP ls n _ _ d];omega,d⟩
def RX(ls:LN)(c n:Nat):Bool:=(List.range 21).any fun d=>decide (n<d/\0<ls.count d/\c*2^(d-n)<Zw ls d+ls.count d)
def Kn(ls c n):RX ls c n=true↔∃m,m<=20/\n<m/\0<ls.count m/\c*2^(m-n)<Zw ls m+ls.count m:=by
 unfold RX;simp only[List.any_eq_true,ZR,ZE];constructor
 ·rintro⟨m,e,d⟩;exact⟨m,ox,d⟩
 rintro⟨m,e,d⟩;exact⟨m,ox,d⟩
def Qiy(ls)(d:∀x∈ls,x<=20)(c n i)(hi:i<ls.length)(e:n<ls.getD i 0)(h:YQ ls i/2^(ls.getD i 0-n)=c):RX ls c n=true:=by
 rw[Kn];have g:ls.getD i 0<=20:=by rw[List.getD,Qj hi];exact d _<|Yc hi
 have:=Kx ls i hi;refine⟨ls.getD i 0,g,e,ox,?_⟩;have:c*2^(ls.getD i 0-n)<=YQ ls i:=by rw[<-h];exact Nat.div_mul_le_self _ _
 omega
def Qbw(ls n i)(hi:i<ls.length)(c:n<ls.getD i 0):Zw ls n+ls.count n<=YQ ls i/2^(ls.getD i 0-n):=by rw[Nat.le_div_iff_mul_le<|DH _];have c:=zX ls n<|ls.getD i 0-n-1;rw[(ox:ls.getD i 0-n-1+1=ls.getD i 0-n),(ox:n+(ls.getD i 0-n-1)+1=ls.getD i 0)]at c;have:=(Kx ls i hi).1;omega
end K
namespace K
def jU(a b j n)(h:j+n<=b.length):QZ (a++b) (a.length+j) n=QZ b j n:=by unfold QZ;rw[FP,Jq ox,YU,(ox:a.length+j-a.length=j)]
def Qj8(bs f g):∀k i p out,(∀j,i<=j->j<i+k->f j=g j)->UW bs f k i p out=UW bs g k i p out:=by
 intro k
 induction k with
 |zero=>intro i p out _;rfl
 |succ k ih=>intro i p out c;rw[UW,UW,c i ox ox,ih (i+1) _ _ fun j d e=>c j ox ox,ih (i+1) _ _ fun j d e=>c j ox ox]
end K
namespace K
def Qf9(bs p n)(h:p+n<bs.length):QZ bs p (n+1)=QZ bs p n++[bs.getD (p+n) false]:=by
 have c:n<(bs.drop p).length:=by rw[YN];omega
 unfold QZ;rw[Bd c]
 congr 2
 rw[List.getElem_drop,List.getD,Qj h];rfl
def Qe2(bs p n)(h:p+n<bs.length):num (QZ bs p<|n+1)=2*num (QZ bs p n)+(bs.getD (p+n) false).toNat:=by rw[Qf9 bs p n h,GV]
def JG(ls:LN)(bs:LB):Nat->Nat->Nat->Nat->Nat × Nat × Nat
 |0,_,_,_=>(0,0,90)
 |f+1,n,code,p=>
  if bs.length<p+1 then(0,0,10)
  else if Zw ls n<=2*code+(bs.getD p false).toNat/\2*code+(bs.getD p false).toNat<Zw ls n+ls.count n then
   ((ZQ ls 21).getD ((ZQ ls n).length+(2*code+(bs.getD p false).toNat-Zw ls n)) 0,p+1,0)
  else if RX ls (2*code+(bs.getD p false).toNat) n then JG ls bs f (n+1) (2*code+(bs.getD p false).toNat) (p+1)else(0,0,90)
def Xj(ls:LN)(bs:LB)(p:Nat):Nat × Nat × Nat:=JG ls bs 20 1 0 p
def Qeq(ls bs):∀f n o p,(JG ls bs f n o p).2.2=0->p<(JG ls bs f n o p).2.1/\(JG ls bs f n o p).2.1<=bs.length:=by
 intro f
 induction f with
 |zero=>intro n o p h;simp[JG]at h
 |succ f ih=>
  intro n o p h;rw[JG]at h ⊢
  by_cases q:bs<p+1
  ·rw[Qg q]at h;simp at h
  rw[Qf q]at h ⊢
  split
  ·simp only;omega
  rename_i y;rw[Qf y]at h
  split
  ·rename_i hb;rw[Qg hb]at h;have:=ih _ _ _ h;omega
  rename_i hb;rw[Qf hb]at h;simp at h
def Qeo(ls bs):∀f n o p,(JG ls bs f n o p).2.2≠0->JG ls bs f n o p=(0,0,(JG ls bs f n o p).2.2):=by
 intro f
 induction f with
 |zero=>intro n o p h;rfl
 |succ f ih=>
  intro n o p h;rw[JG]at h ⊢
  split
  ·rfl
  rename_i y;rw[Qf y]at h
  split
  ·rename_i q;rw[Qg q]at h;simp at h
  rename_i q;rw[Qf q]at h
  split
  ·rename_i hb;rw[Qg hb]at h;exact ih _ _ _ h
  rfl
def Qep(ls bs):∀f n c p,(JG ls bs f n c p).2.2<=90:=by
 intro f
 induction f with
 |zero=>intro n c p;simp[JG]
 |succ f ih=>
  intro n c p;rw[JG]
  split
  ·simp
  split
  ·simp
  split
  ·exact ih _ _ _
  simp
end K
namespace K
def DN(l:LI):LN × Nat:=if XM l then(UM (QE l),0)else([],80)
def Uq(ls:LN)(i:Nat):LB:=low (YQ ls i) (ls.getD i 0)
def nF(ls i):(Uq ls i).length=ls.getD i 0:=by simp[Uq,Yl]
def YG(ls:LN)(bs:LB)(n e:Int):Nat->LN->Nat->LN × Nat × Nat
 |0,_,_=>([],0,10)
 |f+1,out,p=>
  if(out.length:Int)<n then
   if(Xj ls bs p).2.2≠0 then([],0,(Xj ls bs p).2.2)
   else if((Xj ls bs p).1:Int)=e then(out++[(Xj ls bs p).1],(Xj ls bs p).2.1,0)
   else YG ls bs n e f (out++[(Xj ls bs p).1]) (Xj ls bs p).2.1
  else(out,p,0)
def Ue(l:LI)(bs:LB)(at_ n e:Int):LN × Nat × Nat:=
 if XM l then(if at_<0\/(bs:Int)<at_\/n<0 then([],0,2)else YG (QE l) bs n e (bs.length+1) [] at_.toNat)else([],0,80)
def Pd(ls bs p)(h:(Xj ls bs p).2.2=0):p<(Xj ls bs p).2.1/\(Xj ls bs p).2.1<=bs.length:=Qeq ls bs _ _ _ _ h
def iS(ls bs p)(h:(Xj ls bs p).2.2≠0):Xj ls bs p=(0,0,(Xj ls bs p).2.2):=Qeo ls bs _ _ _ _ h
def WO(ls bs n e f out p)(h:¬(out.length:Int)<n):YG ls bs n e (f+1) out p=(out,p,0):=by rw[YG,Qf h]
def WR(ls bs n e f out p x)(h:(out.length:Int)<n)(c:Xj ls bs p=(0,0,x))(d:x≠0):YG ls bs n e (f+1) out p=([],0,x):=by rw[YG,Qg h,c,Qg d]
def WQ(ls bs n e f out p x c)(h:(out.length:Int)<n)(d:Xj ls bs p=(x,c,0))(g:(x:Int)=e):YG ls bs n e (f+1) out p=(out++[x],c,0):=by rw[YG,Qg h,d,Qf sx,Qg g]
def WT(ls bs n e f out p x c)(h:(out.length:Int)<n)(d:Xj ls bs p=(x,c,0))(g:(x:Int)≠e):YG ls bs n e (f+1) out p=YG ls bs n e f (out++[x]) c:=by rw[YG,Qg h,d,Qf sx,Qf g]
def low_bit(v m j)(h:j<m):(low v m).getD j false=v.testBit (m-1-j):=by rw[List.getD,fU v m j h];rfl
def eD(v d):2*(v/2^(d+1))+(v.testBit d).toNat=v/2^d:=by rw[Hr,J9,<-Tw];omega
def Qer(ls)(j:∀x∈ls,x<=20)(c:room ls<=1048576)(bs p i)(hi:i<ls.length)(hp:p+ls.getD i 0<=bs.length)(hb:QZ bs p (ls.getD i 0)=Uq ls i):
 ∀d n,n+d=ls.getD i 0->1<=n->JG ls bs (21-n) n (YQ ls i/2^(ls.getD i 0-(n-1))) (p+(n-1))=(i,p+ls.getD i 0,0):=by
 have⟨c,e⟩:=qx<|ls.getD i 0;have o:ls.getD i 0<=20:=by rw[List.getD,Qj hi];exact j _<|Yc hi
 have l:∀h,h<c->bs.getD (p+h) false=(YQ ls i).testBit (c-1-h):=by intro h m;have g:=Qt (fun q=>q.getD h false) hb;unfold QZ at g;rw[e,List.getD,BT,Qg m,Ut]at g;unfold Uq at g;rwa[e,low_bit _ _ _ m]at g
 have g:=Kx ls i hi;rw[e]at hp o g ⊢;intro d
 induction d with
 |zero=>
  intro n h m;obtain rfl:n=c:=ox
  rw[(ox:21-n=(20-n)+1),JG,Qf ox,l (n-1) ox,(ox:n-(n-1)=0+1),(ox:n-1-(n-1)=0),eD,Nat.pow_zero,Nat.div_one,Qg g];have g:=Lq ls n 21 (YQ ls i-Zw ls n) i ox<|(GK ls n _ i).2 ⟨hi,e,by unfold YQ;rw[e];omega⟩;rw[List.getD,g,V9,(ox:p+(n-1)+1=p+n)]
 |succ d g=>
  intro n h m;have g:=g (n+1) ox ox;rw[U3]at g;have m:bs.getD (p+(n-1)) false=(YQ ls i).testBit (c-n):=by rw[l (n-1) ox,(ox:c-1-(n-1)=c-n)]
  have h:=Qbw ls n i hi ox;rw[e]at h;have h:=Qiy ls j _ n i hi ox rfl;rw[e]at h;rw[(ox:21-n=(20-n)+1),JG,Qf ox,m,(ox:c-(n-1)=(c-n)+1),eD,Qf ox,Qg h];rw[(ox:21-(n+1)=20-n)]at g;rwa[(ox:p+(n-1)+1=p+n)]
def Qev(ls)(d:∀x∈ls,1<=x/\x<=20)(e:room ls<=1048576)(bs p i)(hi:i<ls.length)(hp:p+ls.getD i 0<=bs.length)(hb:QZ bs p (ls.getD i 0)=Uq ls i):Xj ls bs p=(i,p+ls.getD i 0,0):=by
 have c:1<=ls.getD i 0:=by rw[List.getD,Qj hi];exact(d _<|Yc hi).1
 have hlt:=bS ls (fun x c=>(d x c).2) e i hi;have:=Qer ls (fun x c=>(d x c).2) e bs p i hi hp hb (ls.getD i 0-1) 1 ox<|Qk _;rw[show 21-1=20 from rfl,show 1-1=0 from rfl,Aw,Nat.div_eq_of_lt hlt,Jt]at this;exact this
end K
namespace K
end K
