import Derived.Test.YtickjpnkoppmgaaGreatDoorAx
import Derived.Test.YtickjpnkoppmgaaGreatDoorBa
set_option linter.all false
set_option maxHeartbeats 4000000
set_option maxRecDepth 100000
namespace Go.Proofs.YtickjpnkoppmgaaGreatDoor
open Go.Proofs.Tryz Go.RowKit K
def tH(w):(isAgg 214).run prog w=.ok false w:=by kernel_rfl
def tS:(prog.info? 214).map (·.size)=some 1:=by kernel_rfl
def Wj:(prog.info? 299).map (·.size)=some 16:=by kernel_rfl
def VU(l:LU):LV:=(List.range 16).map fun c=>.int .u64 (Vj l c:Nat)
def Fx(l):(VU l).length=16:=by simp[VU]
def LK(l i)(h:i<16):(VU l)[i]?=some (.int .u64 (Vj l i:Nat)):=by simp[VU,Xl h]
def Qh3:#[Value.int .u64 0,.int .u64 0,.int .u64 0,.int .u64 0,.int .u64 0,.int .u64 0,.int .u64 0,.int .u64 0,.int .u64 0,.int .u64 0,.int .u64 0,.int .u64 0,.int .u64 0,.int .u64 0,.int .u64 0,.int .u64 0]=(VU []).toArray:=by
 have:∀c,Vj [] c=0:=fun c=>(PV [] c).2 (by simp[JW,K.has])
 simp[VU,this,List.range,List.range.loop]
def Qh4(l b):(VU l).set (b.toNat/16) (.int .u64 ((Vj l (b.toNat/16)|||2^(15-b.toNat%16):Nat):Int))=VU (l++[b]):=by
 have hb:=Rc b;apply XB;intro d;rw[Je]
 by_cases hi:d<16
 ·rw[LK _ _ hi,LK _ _ hi,Fx]
  by_cases c:b.toNat/16=d
  ·rw[Qg c,Qg ox,<-c,Qh2]
  rw[Qf c,Qh1 l b d hi fun d=>c d.symm]
 rw[QU (by rw[Fx];omega),QU (by rw[Fx];omega),Qf ox]
def lF(l)(i:Nat)(h:i<16)(w):(Instr.index 299 (.agg (VU l).toArray) i).run prog w=.ok (.int .u64 (Vj l i:Nat)) w:=
 lL 299 214 16 (VU l) .i64 i _ w Wt tS (tH w) (Fx l) (LK l i h)
def Qkq(x)(h:x<256):bits BinOp.and IntKind.u8 ((x:Nat):Int) 15=((x%16:Nat):Int):=by have:=u8_and_nat x 15 h dx;rw[show((15:Nat):Int)=15 from rfl]at this;rw[this,show(15:Nat)=2^4-1 from rfl,Nat.and_two_pow_sub_one_eq_mod]
def oC(N t:Nat)(h:N<18446744073709551616)(c:t<=63):bits BinOp.or IntKind.u64 (N:Int) (IntKind.u64.wrap<|2^t)=((N|||2^t:Nat):Int):=by
 have hp:(2:Nat)^t<=2^63:=Ju dx c;rw[show((2:Int)^t)=((2^t:Nat):Int)by norm_cast];generalize (2:Nat)^t=p at hp;have hw:IntKind.u64.wrap (p:Int)=(p:Int):=by rw[J3];omega
 rw[hw];exact u64_or_nat N p h ox
def sM(s:BA)(w0:WD)(g:Nat)(k:Nat)(c:VL)(w:WD):Prop:=
 ∃d,d<=s.size/\k=s.size-d/\c=.int .i64 (d:Nat)/\Qe w g 299 (VU (s.data.toList.take d))/\Qb [] w0 w
def sN(l:LU)(w0:WD)(k:Nat)(a c:VL)(w:WD):Prop:=
 ∃d,d<=16/\k=16-d/\c=.int .i64 (d:Nat)/\a=.int .u64 (RD l d:Nat)/\w0=w
def sO(l:LU)(w0:WD)(b:Nat)(k:Nat)(c:VL)(w:WD):Prop:=
 ∃d e,d<=16/\k=16-d/\c=.int .i64 (d:Nat)/\Wr w b e (AN l++Ya l d)/\Qb [] w0 w/\Qu w0 (b::Qd e)
def Qi9(s:BA)(w)(hs:s.size<=1000000000):
 Calls prog 165 #[s] w (RK (Zk<|FB s) w):=by
 go_enter func165,ntmps165;go_wp2_with fail;have c:(w.alloc<|.cells #["",(0:Int)] 204).heap[w.heap.size]?=some (.cells #["",(0:Int)] 204 (0,0)):=Xq _ _;have d:Qb [] w (w.alloc<|.cells #["",(0:Int)] 204):=(Qc _ _).alloc _;generalize w.alloc (.cells #["",(0:Int)] 204)=W0 at c d ⊢;go_fit(Sh s _ ox);rintro e i⟨rfl,g⟩;have⟨H,J,B⟩:=qc c d g;clear c d g;rcases J1 (VB s)with j|j
 ·have u:FB s=(Qw<|Z9 s,(((Z9 s).length:Nat):Int),0):=by unfold FB;rw[j];rfl
  have F:=Qa u;rw[j];clear u j;go_wp2_with fail;rw[Qh3];have h:=Qx i (VU []) 299;have d:Qb [] W0 (i.alloc<|.cells (VU []).toArray 299):=B.o.alloc _;have y:W0.heap.size<=i.heap.size:=B.o.size;generalize i.alloc (.cells (VU []).toArray 299)=W1 at h d ⊢;have⟨m,c⟩:=qx i.heap.size;rw[c]at h y ⊢;clear c
  go_loopg [18] s.size (fun k t wr=>sM s W0 m k t wr)
  ·exact⟨0,ox,ox,rfl,h,d⟩
  obtain⟨c,hi,hk,rfl,h,x⟩:=hrel;have⟨E,n⟩:=qb hk x;clear hk x d
  by_cases hlt:c<s.size
  ·have O:(c:Int)<s.size:=ox;have g:=Rc<|s[c]'hlt;have⟨r,q⟩:=qx<|(s[c]'hlt).toNat%16;have⟨l,C⟩:=qx<|(s[c]'hlt).toNat/16;have⟨d,z⟩:=qx<|15-r;have:bits BinOp.and IntKind.u8 (((s[c]'hlt).toNat:Nat):Int) 15=(r:Int):=(by rw[Qkq _ g,q]);have:(((s[c]'hlt).toNat:Nat):Int)/16=(l:Int):=ox;obtain⟨S,o⟩:(15-(r:Int))%256=(d:Int)/\l<16:=ox;have:(l:Int)<16:=ox;have P:d<=15:=ox;have⟨N,g⟩:=qx<|Vj (s.data.toList.take c) l;have c0:=h.cell<|LK _ l o;rw[g]at c0;have M:=h.free l;have:N<65536:=(by rw[<-g];exact lE _ _);have G:(2:Nat)^d<=2^15:=Ju dx P;have o:bits BinOp.or IntKind.u64 (N:Int) (IntKind.u64.wrap<|2^d)=((N|||2^d:Nat):Int):=oC N d ox ox;have p:=h.set l<|.int .u64 ((N|||2^d:Nat):Int);have l:=Qh4 (s.data.toList.take c)<|s[c]'hlt;rw[<-Kq s c hlt,C,g,q,z]at l;rw[l]at p;have⟨A,D⟩:=qb p o;clear q C z l h p g G o;go_wp2_with fail
   go_region
   go_wp2
   go_roundg (s.size-(c+1))
   ·refine⟨c+1,ox,rfl,by go_num,?_,?_⟩
    ·have:=A.o;rw[<-D.o]at this;exact this
    exact(n.o.setCell (.inr y) _).drew
   have:=E.o;omega
  obtain rfl:c=s.size:=ox
  rw[Q5 (by rw[Zr];exact Qk _)]at h;have p:=Qa h;clear h;go_wp2_with fail;go_fit(DX _);rintro e y⟨b,rfl,q,l,h⟩;have⟨A,R,I,G,Q⟩:=qe (p.o.kept l sx) q (n.o.new l<|by simp[Qu]) (h.mono n.o.size) (show m∉b::Qd ()from fun j=>by have:=p.o.lt;have:=h m j;omega);clear q l h;go_wp2_with (refine SG rfl 299 _ rfl m rfl _ _ _ _ A.o Wt rfl (by rw[Wj];simp[Fx]) ?_)
  go_loopg [7,38] 16 (fun k a t wr=>sN s y k a t wr)
  ·exact⟨0,ox,ox,rfl,by rw[Qbv];rfl,rfl⟩
  obtain⟨c,hi,hk,rfl,rfl,rfl⟩:=hrel;have L:=Qa hk;have n:c<16->∀l,(Instr.index 299 (.agg (VU s).toArray) c).run prog l=.ok (.int .u64 (Vj s c:Nat)) l:=fun h l=>lF _ c h l
  have p:=Qa n;clear hk n
  by_cases C:c<16
  ·have n:=p.o C;have⟨N,g⟩:=qx<|Vj s c;rw[g]at n;have D:=eJ s c;have hz:=PV s c;rw[g]at hz;have q:=Qa hz;have S:IntKind.i64.wrap (15-(c:Int))=15-(c:Int):=Za _ ox;have O:(c:Int)<16:=ox;clear g hz;rcases Rx N with h0|h0
   ·have y:=Qbt s c<|q.o.1 h0;subst h0;have E:=Qa y;clear y D
    go_wp2
    go_roundg (16-(c+1))
    ·exact⟨c+1,ox,rfl,by go_num,by rw[E.o],rfl⟩
    have:=L.o;omega
   have p:=Qbu s c C (by
    rcases J1 (JW s c)with h|h
    ·exact h
    have:=q.o.2 h;omega)
   have hne:((N:Int) != 0)=true:=Rf.2 ox;have C:IntKind.u64.wrap (15-(c:Int))=((15-c:Nat):Int):=(by rw[J3];omega);have⟨d,z⟩:=qx<|15-c;rw[z]at C p;have P:d<=15:=ox;have o:=oC (RD s c) d ox ox;rw[<-p]at o;have C:=Qa o;clear p z o;generalize RD s c=d at D C
   go_wp2
   go_roundg (16-(c+1))
   ·exact⟨c+1,ox,rfl,by go_num,by rw[<-C.o],rfl⟩
   have:=L.o;omega
  obtain rfl:c=16:=ox
  have D:=eJ s 16;have z:=Qa<|Qbs s;have⟨d,o⟩:=qx<|RD s 16;rw[o]at D z ⊢;clear o;go_wp2_with fail;go_fit(RH b d 16 _ _ _ dx dx ox zx sx R.o);rintro e L⟨rfl,P,d,o,D⟩;have d:Wr L b P (AN s):=by have:=d;rw[ZH,show(16:Int).toNat=16 from rfl,z.o]at this;exact this
  have L:=I.o.new o G.o;have z:=G.o.grow D I.o.size;have⟨G,Q,I,A⟩:=qd (A.o.kept o Q.o) d L z;clear d o D L z;go_wp2_with (refine SG rfl 299 _ rfl m rfl _ _ _ _ G.o Wt rfl (by rw[Wj];simp[Fx]) ?_)
  go_loopg [55] 16 (fun k t wr=>sO s W0 b k t wr)
  ·exact⟨0,P,ox,ox,rfl,by simpa[Qh5]using Q.o,I.o,A.o⟩
  obtain⟨c,D,hi,hk,rfl,m,x,A⟩:=hrel;have⟨z,t,d,o⟩:=qd hk m x A;clear hk m x A
  by_cases x:c<16
  ·have n:=fun l=>lF s c x l
   have⟨N,g⟩:=qx<|Vj s c;rw[g]at n;have n:=lE s c;have l:=Qh0 s c;have hz:=PV s c;rw[g]at hz l n;have⟨q,x⟩:=qb hz l;have O:(c:Int)<16:=ox;have G:=lG s c;have A:=GI s;have n:=Qa (show(AN s++Ya s c).length<=1000000000000 by rw[Qo];omega);clear g hz l G A;rcases Rx N with h0|h0
   ·have y:=Hc s c<|q.o.1 h0;subst h0;have E:=Qa y;clear y
    go_wp2
    go_roundg (16-(c+1))
    ·exact⟨c+1,D,ox,rfl,by go_num,by rw[E.o];exact t.o,d.o,o.o⟩
    have:=z.o;omega
   have p:=Hd s c (by
    rcases J1 (JW s c)with h|h
    ·exact h
    have:=q.o.2 h;omega)
   have hne:((N:Int) != 0)=true:=Rf.2 ox;have C:=Qa p;clear p;go_wp2_with fail;go_fit(RH b N 16 _ _ _ dx dx ox zx n.o t.o);rintro e p⟨rfl,n,g,l,h⟩;have g:Wr p b n (AN s++Ya s (c+1)):=(by have:=g;rw[ZH,show(16:Int).toNat=16 from rfl,x.o,QR,<-C.o]at this;exact this);have q:=d.o.new l o.o;have p:=o.o.grow h d.o.size;clear l h
   go_wp2
   go_roundg (16-(c+1))
   ·exact⟨c+1,n,ox,rfl,by go_num,g,q,p⟩
   have:=z.o;omega
  obtain rfl:c=16:=ox
  have m:Wr wr b D (Z9 s):=t.o;have hh:=d.o.heap H.o sx;have c:wr.cell? w=_:=ZD wr w 0 _ _ _ hh;have g:wr.cell? ⟨w.heap.size,1,none⟩=_:=ZD wr w 1 _ _ _ hh;have M:=UN wr w 0 _ _ hh;have l:=UN wr w 1 _ _ hh;simp at c g;have h:=Qa (J.o.new d.o<|by simp[Qu]);clear hh;go_wp2_with fail;go_fit(Eg _ _ _ _ m);rintro e w'⟨rfl,rfl⟩;go_wp2_with fail;go_fit(DT _ _ _ _ m);rintro e w'⟨rfl,rfl⟩;go_wp2_with fail;rw[F.o];refine Zj (v:=Zk (Qw<|Z9 s,(((Z9 s).length:Nat):Int),0)) (by simp[results,results165,go_sem,c,g,Zk]) rfl ⟨rfl,?_⟩;exact(h.o.setCell (.inr<|Qk _) _).setCell (.inr<|Qk _) _
 have u:FB s=([],0,2):=by unfold FB;rw[j];rfl
 have F:=Qa u;rw[j];clear u j;have hh:=B.o.heap H.o sx;have c:i.cell? w=_:=ZD i w 0 _ _ _ hh;have g:i.cell? ⟨w.heap.size,1,none⟩=_:=ZD i w 1 _ _ _ hh;have M:=UN i w 0 _ _ hh;have l:=UN i w 1 _ _ hh;simp at c g;have h:=Qa (J.o.new B.o<|by simp[Qu]);clear hh;go_wp2_with fail;rw[F.o];refine Zj (v:=Zk ([],0,2)) (by simp[results,results165,go_sem,c,g,Zk]) rfl ⟨rfl,?_⟩;exact(h.o.setCell (.inr<|Qk _) _).setCell (.inr<|Qk _) _
namespace K
def Qf7(A c d i n)(h:i+n<=c.length):QZ (A++(c++d)) (A.length+i) n=QZ c i n:=by rw[jU A (c++d) i n (by rw[Qo];omega)];unfold QZ;rw[Tf ox,Is (by rw[YN];omega)]
def Qa3(A c d:LB)(i)(h:i<c.length):(A++(c++d)).getD (A.length+i) false=c.getD i false:=by rw[List.getD,List.getD,Zm ox,MM,Xc h]
def FE(A c v n)(e:v<2^n)(d:n<=64):QL (A++(low v n++c)) A.length (n:Nat)=(v,0):=by have d:=Yl v n;have:=Fs A (low v n) c;rw[d,QR]at this;unfold QL;rw[Qf ox,Qf (by simp only[Qo,d,ZH];omega),ZH,this,Lm,XH e]
def Qka(A c l)(h0:l≠[])(h:QM l=l):AX (A++(Z9 l++c)) (A.length:Nat)=(l,((A.length+(Z9 l).length:Nat):Int),0):=by
 have i:(Z9 l).length=16+(Ya l 16).length:=by unfold Z9;rw[Qo,GI]
 unfold AX;rw[Qf (by simp only[Qo];omega),ZH,Qf (by simp only[Qo];omega)];have g:UW (A++(Z9 l++c)) (fun d=>(A++(Z9 l++c)).getD (A.length+d) false) 16 0 (A.length+16) []=
  UW (A++(Z9 l++c)) (JW l) 16 0 (A.length+16) []:=by
  refine Qj8 _ _ _ 16 0 _ _ fun d _ e=>?_
  show(A++(Z9 l++c)).getD (A.length+d) false=JW l d;rw[Qa3 _ _ _ _ ox];unfold Z9;rw[List.getD,Xc (by rw[GI];omega)];simp[AN,Xl (ox:d<16)]
 rw[g];have g:=Qj9 (A++(Z9 l++c)) l (A.length+16) (fun d c e=>by rw[Y7,Qf7 _ _ _ _ _ ox];have:=jU (AN l) (Ya l 16) d c e;rw[GI]at this;exact this) (by simp only[Qo];omega) 16 0 rfl;rw[show(Ya l 0).length=0 from rfl,Jt,show JZ l (16*0)=[]from rfl]at g;rw[g,LO,h,Qf h0,i]
 congr 2
 omega
def Qcs(c:List LB):Ch (c.map fun b=>(Qw b,((b.length:Nat):Int)))=(Qw c.flatten,((c.flatten.length:Nat):Int),0):=by
 have d:YK (c.map fun b=>(Qw b,((b:Nat):Int)))=c.flatten:=by
  induction c with
  |nil=>rfl
  |cons b r ih=>rw[QV,Ev,<-ih];simp[YK,Pp]
 unfold Ch;rw[d,Qg];rw[Yb];intro c hp;obtain⟨b,-,rfl⟩:=QA.1 hp;exact OZ b
end K
namespace K
def JT(sum row:Nat):LB:=low 54156738319193 48++(low sum 32++(low 0 1++low row 24))
def CW(sum row):(JT sum row).length=105:=by unfold JT;simp[Yl]
def U9(sum row:Nat)(used:LU)(T:List LI)(P:LI)(c:LB):LB:=JT sum row++(Z9 used++(Zx T P++c))
structure BlkAt(S:LB)(p sum row:Nat)(used:LU)(T:List LI)(P z:LI)(q1 q2 q3:Nat):Prop where
 h_magic:QL S p 48=(54156738319193,0)
 h_sum:QL S (p+48) 32=(sum,0)
 h_zero:QL S (p+80) 1=(0,0)
 h_row:QL S (p+81) 24=(row,0)
 h_used:AX S ((p+105:Nat):Int)=(used,(q1:Int),0)
 h_plan:Us S (q1:Nat) ((used.length+2:Nat):Int)=(T,QE P,q2,0)
 h_list:Ac T P S (q2:Nat)=(QE z,q3,0)
 h_to:p+105<=q1/\q1<=q2/\q2<=q3/\q3<=S.length
def vJ(A d sum row used T P pre c)(hs:sum<4294967296)(t:row<16777216)(h0:used≠[])(hu:QM used=used)(h:Xz T P=true)(i:(T.getD 0 []).length=used.length+2)(q:∀s∈pre,0<=s/\s<(used.length:Int)+1)(n:Yg T P ((used.length:Int)+2) 0 (pre++[(used.length:Int)+1])=some c)(o:ZP (pre.length+1)<=P.length):
 BlkAt (A++(U9 sum row used T P c++d)) A.length sum row used T P (pre++[(used.length:Int)+1]) (A.length+105+(Z9 used).length) (A.length+105+(Z9 used).length+(Zx T P).length) (A.length+(U9 sum row used T P c).length):=by
 have e:U9 sum row used T P c=low 54156738319193 48++(low sum 32++(low 0 1++(low row 24++(Z9 used++(Zx T P++c))))):=by unfold U9 JT;simp only[QR]
 have p:(U9 sum row used T P c).length=105+((Z9 used).length+((Zx T P).length+c.length)):=by unfold U9;simp only[Qo,CW]
 have j:(A++low 54156738319193 48).length=A.length+48:=by rw[Qo,Yl]
 have l:(A++(low 54156738319193 48++low sum 32)).length=A.length+80:=by simp only[Qo,Yl]
 have m:(A++(low 54156738319193 48++(low sum 32++low 0 1))).length=A.length+81:=by simp only[Qo,Yl]
 have g:(A++JT sum row).length=A.length+105:=by rw[Qo,CW]
 have k1:(A++JT sum row++Z9 used).length=A.length+105+(Z9 used).length:=by rw[Qo,g]
 have k2:(A++JT sum row++Z9 used++Zx T P).length=A.length+105+(Z9 used).length+(Zx T P).length:=by rw[Qo,k1]
 refine⟨?_,?_,?_,?_,?_,?_,?_,⟨ox,ox,ox,by rw[Qo,Qo];omega⟩⟩
 ·rw[e];simp only[QR];exact FE A _ 54156738319193 48 dx dx
 ·have:=FE (A++low 54156738319193 48) (low 0 1++(low row 24++(Z9 used++(Zx T P++(c++d))))) sum 32 hs dx;rw[j]at this;rw[e];simp only[QR]at this ⊢;exact this
 ·have:=FE (A++(low 54156738319193 48++low sum 32)) (low row 24++(Z9 used++(Zx T P++(c++d)))) 0 1 dx dx;rw[l]at this;rw[e];simp only[QR]at this ⊢;exact this
 ·have:=FE (A++(low 54156738319193 48++(low sum 32++low 0 1))) (Z9 used++(Zx T P++(c++d))) row 24 t dx;rw[m]at this;rw[e];simp only[QR]at this ⊢;exact this
 ·have:=Qka (A++JT sum row) (Zx T P++(c++d)) used h0 hu;rw[g]at this;unfold U9;simp only[QR]at this ⊢;exact this
 ·have:=Qj4 T P (A++JT sum row++Z9 used) (c++d) (used.length+2) h i.symm;rw[k1]at this;unfold U9;simp only[QR]at this ⊢;exact this
 have:=Qa4 T P pre (A++JT sum row++Z9 used++Zx T P) c d (used.length+2) h i.symm (fun s hs=>by have:=q s hs;omega)
  (by rwa[show(((used.length+2:Nat):Int))=(used:Int)+2 by omega,show(used:Int)+2-1=(used:Int)+1 by omega]) o
 rw[k2,show(((used.length+2:Nat):Int))-1=(used:Int)+1 by omega]at this;rw[p,show A.length+(105+((Z9 used).length+((Zx T P).length+c.length)))=A.length+105+(Z9 used).length+(Zx T P).length+c.length by omega];unfold U9;simp only[QR]at this ⊢;exact this
end K
def jF(n f):∃L,K.Ordered n f n L:=by
 have c:∀a b,(decide (K.N f n a<=K.N f n b)&&(decide (K.N f n a<K.N f n b)||decide (a<=b)))=true↔¬VF f n b a:=by intro a b;simp only[Xt,FK,ZE];unfold VF;omega
 have hp:=ME (List.range n) fun a b=>decide (K.N f n a<=K.N f n b)&&(decide (K.N f n a<K.N f n b)||decide (a<=b));have hs:=MF (le:=fun a b=>decide (K.N f n a<=K.N f n b)&&(decide (K.N f n a<K.N f n b)||decide (a<=b))) (fun a b d d e=>by
  rw[c]at d e ⊢;unfold VF at*
  omega) (fun a b=>by
  rw[FK,c,c];unfold VF;omega) (List.range n)
 refine⟨_,hp,?_⟩;have g:=hp.nodup_iff.2 Dy;refine(hs.and g).imp fun {a b} h=>?_
 obtain⟨d,e⟩:=h;rw[c]at d;unfold VF at*
 omega
noncomputable def Fp(t:LU):LN:=Classical.choose (jF t.length (K.fS t))
def DZ(t):K.Ordered t.length (K.fS t) t.length (Fp t):=Classical.choose_spec<|jF t.length<|K.fS t
noncomputable def Va(t:LU):LU:=Yr (Z8 t.length (K.fS t) (Fp t))
noncomputable def Xs(t:LU):Nat:=(Fp t).idxOf 0
noncomputable def Ul(t:LU):LN:=(AJ (Va t) (QM t)).1
noncomputable def Xe(t:LU):LN:=K.zE (QM t).length 0 (Ul t)
noncomputable def QI(t:LU):List LI × LI × Nat:=U8 (Q0 (Xe t)) (((QM t).length:Int)+2)
noncomputable def Uz(t:LU):LB:=(JD (QI t).1 (QI t).2.1 (Q0 (Xe t))).1
noncomputable def XR(s:LU):LB:=U9 (Yd s).toNat (Xs (ZF s)) (QM (ZF s)) (QI (ZF s)).1 (QI (ZF s)).2.1 (Uz (ZF s))
def Qao(s):∀(l:LU)(o:LN),K.front l s=some o->∀x∈o,x<l.length:=by
 induction s with
 |nil=>intro l o h;rw[K.front]at h;injection h with h;subst h;simp
 |cons b s ih=>
  intro l o h;rw[K.front]at h
  split at h
  ·cases h
  rename_i y;have hlt:l.idxOf b<l:=yx (List.idxOf_le_length (a:=b) (l:=l))
  cases hf:K.front (K.turned l<|l.idxOf b) s with
  |none=>rw[hf]at h;cases h
  |some qs=>
   rw[hf]at h;injection h with h;subst h;intro x q;rcases QD.1 q with rfl|q
   ·exact hlt
   have:=ih _ qs hf x q;rwa[K.turned,QW,List.length_eraseIdx_of_lt hlt,Nat.sub_add_cancel ox]at this
def NP(t):(Va t).length=t.length:=by unfold Va Yr Z8;rw[QH,QH,(DZ t).len]
def zF(t)(h:0<t.length)(i):UInt8.ofNat (K.fS t i)∈t:=by unfold K.fS;rw[Kl,List.getD,Qj<|J8 _ h];exact Yc _
def xT(t)(h:0<t.length):∀b∈Va t,b∈t:=by intro b hb;unfold Va Yr Z8 at hb;rw[Xv]at hb;obtain⟨c,-,rfl⟩:=QA.1 hb;exact zF t h _
structure pK(t:LU):Prop where
 may:VB (QM t)=true
 used:1<=(QM t).length/\(QM t).length<=256
 front:AJ (Va t) (QM t)=(Ul t,0)
 back:Bk (Q0 (Ul t)) (QM t)=(Va t,0)
 plen:(Ul t).length=t.length
 plt:∀x∈Ul t,x<(QM t).length
 list:Ym (Q0 (Xe t)) (((QM t).length:Int)+2)=true
 slen:(Xe t).length<=t.length+1
 fit:Ap (QI t).1 (QI t).2.1 (Q0 (Xe t)) (((QM t).length:Int)+2)
 ok:(QI t).2.2=0
 cod:JD (QI t).1 (QI t).2.1 (Q0 (Xe t))=(Uz t,0)
 told:∀(A Z:LB)(sum:Nat),sum<4294967296->∃q1 q2 q3,q3=A.length+(U9 sum (Xs t) (QM t) (QI t).1 (QI t).2.1 (Uz t)).length/\
  K.BlkAt (A++(U9 sum (Xs t) (QM t) (QI t).1 (QI t).2.1 (Uz t)++Z)) A.length sum (Xs t) (QM t) (QI t).1 (QI t).2.1 (Q0 (Xe t)) q1 q2 q3
def Re(t)(h0:0<t.length)(c:t.length<=262144):pK t:=by
 have d:∀b,b∈QM t↔b∈t:=fun b=>GT t b
 have A:=oM t;have m:VB (QM t)=true:=Qd1 t<|EB h0;have o:1<=(QM t).length:=Ti<|(d _).2 (Yc h0);have B:(QM t).length<=256:=oI t 256;obtain⟨c,g⟩:=Qaq (Va t) (QM t) fun b hb=>(d b).2 (xT t h0 b hb)
 have u:AJ (Va t) (QM t)=(c,0):=by unfold AJ;rw[Qg m,g]
 have d:Ul t=c:=by unfold Ul;rw[u]
 have z:c.length=t.length:=by rw[Qan _ _ _ g,NP]
 have hlt:=Qao _ _ _ g;obtain⟨e,i,v,h⟩:=Mi (QM t).length o c 0 hlt;have h:Xe t=e++[(QM t).length+1]:=by unfold Xe;rw[d,i]
 have n:(Xe t).length<=t.length+1:=by rw[h,Qo];simp;omega
 have l:Ym (Q0<|Xe t) (((QM t).length:Int)+2)=true:=by
  unfold Ym;rw[XS];simp only[Xt,ZE,Yb];refine⟨⟨ox,by rw[h,Qo]at n ⊢;simp at n ⊢;omega⟩,?_⟩;intro j hs;unfold Q0 at hs;obtain⟨p,i,rfl⟩:=QA.1 hs;rw[h]at i;rcases Q4.1 i with c|c
  ·have:=v p c;omega
  simp at c;omega
 obtain⟨hf,y,-⟩:=vA _ _ l;have s:∀j∈Q0 (Xe t),0<=j/\j<((QM t).length:Int)+2:=by have c:=l;unfold Ym at c;simp only[Xt,ZE,Yb]at c;exact c.2
 obtain⟨w,x,q⟩:=hf.codes s;have s:Uz t=w:=by unfold Uz QI;rw[q]
 refine⟨m,⟨o,B⟩,by rwa[d],?_,by rwa[d],by rw[d];exact hlt,l,n,hf,y,by rwa[s],?_⟩
 ·unfold Bk;rw[Qg m,d];unfold Q0;rw[uV _ _ _ g]
 intro g l sum hs;have d:Q0 (Xe t)=Q0 e++[((QM t).length:Int)+1]:=by rw[h];unfold Q0;rw[XC];rfl
 have q:Xs t<16777216:=by have:=(KZ (DZ t) 0 h0).1;unfold Xs;omega
 have h:Yg (QI t).1 (QI t).2.1 (((QM t).length:Int)+2) 0 (Q0 e++[((QM t).length:Int)+1])=some (Uz t):=by rwa[<-d,s]
 have m:((QI t).1.getD 0 []).length=(QM t).length+2:=by have c:(((QI t).1.getD 0 []).length:Int)=((QM t).length:Int)+2:=hf.head;omega
 have n:ZP ((Q0 e).length+1)<=(QI t).2.1.length:=by have c:ZP (Q0<|Xe t).length<=(QI t).2.1.length:=hf.many;rw[d,Qo]at c;simpa using c
 have:=vJ g l sum (Xs t) (QM t) (QI t).1 (QI t).2.1 (Q0 e) (Uz t) hs q (EB o) A hf.may m (fun j c=>by unfold Q0 at c;obtain⟨p,i,rfl⟩:=QA.1 c;have:=v p i;omega) h n;rw[<-d]at this;exact⟨_,_,_,rfl,this⟩
def vH(t)(h0:0<t.length)(e:t.length<=262144):Gq ⟨(Va t).toArray⟩ (Xs t:Nat)=(t,0):=by have d:=KZ (DZ t) 0 h0;have g:Xs t<t.length:=d.1;have c:=uX ⟨t.toArray⟩ (Fp t) (by simpa[ByteArray.size]using h0) (by simpa[ByteArray.size]using e) (by simpa[ByteArray.size]using DZ t) (Xs t) (by simpa[ByteArray.size]using g);have e:(Fp t).getD (Xs t) 0=0:=d.2;rw[e]at c;simpa[ByteArray.size,Va]using c
def vK(t)(h0:0<t.length)(d:t.length<=262144)(c)(e:t.length<=c):K.zD (QM t).length c 0 1 [] (Xe t)=some (Ul t):=by have hb:=Re t h0 d;have:=SL (QM t).length c hb.used.1 (Ul t) 0 [] hb.plt (by rw[hb.plen];simp;exact e);unfold Xe;simpa using this
def Qhl(s)(c:s.length<=262144):JK 0 0 [] (ZF s)=some s:=by have:=Qhm s.length s 0 0 [] (Qk _) ox (.inl rfl) (by simpa using c);simpa using this
def Qav(t w)(h0:0<t.length)(c:t.length<=262144):Calls prog 160 #[str t] w (SW (Va t) (Xs t) 0 w):=by go_fit(Qaj (str t) w h0 c<|Qi4 _ (by rw[Cr];omega));rintro c c⟨c,e,g⟩;have d:c=Fp t:=e.one<|DZ t;subst d;exact g
def Qal(t w)(h0:0<t.length)(c:t.length<=262144):Calls prog 162 #[.string ⟨(Va t).toArray⟩,str<|QM t] w (Y8 (Ul t,0) w):=by have hb:=Re t h0 c;have c:=Qik (str<|Va t) (str<|QM t) w (by rw[Cr,NP];omega) (by rw[Cr];have:=hb.used;omega);rwa[XW,XW,hb.front]at c
def rY(W:WD)(b:Nat)(bs:LB)(e:Ending)(w':WD):Prop:=e=.returned (0:Int)/\∃c,Wr w' b c bs/\Qb [] W w'/\Qu W.heap.size (b::Qd c)
def Ft{W w b c bs}(hk:Qb [] W w)(hf:Qu W.heap.size (b::Qd c))(d:Wr w b c bs)(v)(x n:Nat)(e:v=(x:Int))(g:n<=64)(g:x<2^n)(h:bs.length<=1000000):
 Calls prog 119 #[.pointer b,.int .u64 v,(n:Int)] w (rY W b<|bs++K.low x n):=by
 subst e;go_fit(RH b (x:Int) (n:Int) c bs w ox ox ox (by simpa using g) ox d);rintro c c⟨g,h,c,d,e⟩;exact⟨g,h,by simpa using c,hk.new d hf,hf.grow e hk.size⟩
def Qlw(t a c w)(h0:0<t.length)(d:t.length<=262144)(h:Qp w 1 a (Ul t).length (Qi<|Ul t)):
 Calls prog 163 #[((QM t).length:Int),.slice a (Ul t).length c] w (RV (Xe t) 0 w):=by
 have hb:=Re t h0 d;exact Qlv _ a c _ w hb.used h hb.plt (by rw[hb.plen];omega)
def uZ(t a c w)(h0:0<t.length)(d:t.length<=11000)(h:Qp w 1 a (Xe t).length (Qi<|Xe t))(e:(Xe t).length<=c)(g:c<=maxLen):
 Calls prog 164 #[.slice a (Xe t).length c,.int .i64<|((QM t).length:Int)+2] w (CH (QI t).1 (QI t).2.1 0 w):=by
 have hb:=Re t h0 ox;have d:=Qax a c (Q0<|Xe t) (((QM t).length:Int)+2) w (by rwa[XS,Bl]) (by rwa[XS]) g (by rw[XS];have:=hb.slen;omega) hb.list;rw[XS]at d;have:=hb.ok;unfold QI at this;rwa[this]at d
def Qj1(t w)(h0:0<t.length)(c:t.length<=262144):Calls prog 165 #[str<|QM t] w (RK (Zk (Qw<|Z9<|QM t,((Z9<|QM t).length:Nat),0)) w):=by have hb:=Re t h0 c;have c:=Qi9 (str<|QM t) w (by rw[Cr];have:=hb.used;omega);rw[XW]at c;unfold FB at c;rwa[Qg hb.may]at c
def Qgm(t d c i g w)(h0:0<t.length)(j:t.length<=262144)(h:XI w d c i g (QI t).1 (QI t).2.1):
 Calls prog 166 #[ZL d (QI t).1.length i c (QI t).2.1.length g] w fun e w'=>e=.returned (Zk (Qw<|Zx (QI t).1 (QI t).2.1,((Zx (QI t).1 (QI t).2.1).length:Nat),0))/\Qb [] w w':=by
 have hb:=Re t h0 j;have h:=eA d c i g _ _ w h hb.fit.may;unfold BG at h;rwa[Qg hb.fit.may]at h
def Qgl(t i g a l j c w)(h0:0<t.length)(d:t.length<=262144)(h:XI w i g l j (QI t).1 (QI t).2.1)(hs:Qp w 1 a (Xe t).length (Qi<|Xe t)):
 Calls prog 167 #[ZL i (QI t).1.length l g (QI t).2.1.length j,.slice a (Xe t).length c] w (RK (Zk (Qw<|Uz t,((Uz t).length:Nat),0)) w):=by
 have hb:=Re t h0 d;have d:=dY i g a l j c _ _ (Q0<|Xe t) w h (by rwa[XS,Bl]) (by rw[XS];have:=hb.slen;omega);rw[XS]at d;unfold Rn at d;rwa[hb.cod]at d
def Jm(c:List LB):List (BA × Int):=c.map fun b=>(str (Qw b),((b.length:Nat):Int))
def fE(d a c w)(h:Qp w 2 a d.length (YH<|Jm d))(j:JL (YM<|Jm d)<=1000000)(g:d.length<=1000000)(hb:∀b∈d,b.length<=100000000):
 Calls prog 121 #[.slice a d.length c] w (RK (Zk (Qw d.flatten,((d.flatten.length:Nat):Int),0)) w):=by
 have i:(Jm d).length=d.length:=by simp[Jm]
 have g:=fD a c (Jm d) w (by rwa[i]) j ox (by intro j hp;unfold Jm at hp;obtain⟨b,j,rfl⟩:=QA.1 hp;have:=hb b j;show((b:Nat):Int)<=_;omega);rw[i]at g;have e:YM (Jm d)=d.map fun b=>(Qw b,((b:Nat):Int)):=by unfold YM Jm;rw[Xv];rfl
 rwa[e,Qcs]at g
def NM(t)(h0:0<t.length)(c:t.length<=262144):(Uz t).length<=20*(t.length+1):=by have hb:=Re t h0 c;have c:=(bR (QI t).1 (QI t).2.1 (Q0<|Xe t)).1;rw[hb.cod,XS]at c;have:=hb.slen;have c:(Uz t).length<=20*(Xe t).length:=c;omega
def Qea(s:BA)(w)(h0:0<s.size)(hs:s.size<=8192):Calls prog 116 #[s] w (RK (Zk (Qw<|XR s,((XR s).length:Nat),0)) w):=by
 have j:=Ed s;rw[Zr]at j;have g:0<(ZF s).length:=Fw _ (EB<|by rwa[Zr]);have⟨c,d⟩:=qx<|ZF s;have⟨l,h9⟩:=qb (fun h=>show Calls prog 159 #[s] h (RK (.string<|str c) h) by rw[<-d];exact Qhk s h ox) (by unfold XR;rw[d]:XR s=U9 (Yd s).toNat (Xs c) (QM c) (QI c).1 (QI c).2.1 (Uz c));rw[d]at j g;have hb:=Re c g ox;obtain⟨h,h⟩:=hb.used;have:(str<|QM c).size=(QM c).length:=rfl;have hne:=Do s h0;have:(str c).size=c:=rfl;have:¬(262144:Int)<c.length:=ox
 have x2:=Qa hb;clear d hb;go_enter func116,ntmps116;go_wp2_with fail;have h:=Qa<|Qx w ["",(0:Int)] 204;have o:Qb [] w (w.alloc<|.cells #["",(0:Int)] 204):=(Qc _ _).alloc _;have h8:w.heap.size<(w.alloc<|.cells #["",(0:Int)] 204).heap.size:=sx
 go_fit(l.o _);rintro e d⟨rfl,d⟩;have⟨m,j⟩:=qb (o.trans d sx) (h.o.kept d sx);clear o d h l;go_wp2_with fail;go_fit(Qav c _ g ox);rintro e d⟨rfl,d⟩;have⟨l,h⟩:=qb (m.o.trans d sx) (j.o.kept d sx);clear d m j;go_wp2_with fail;go_fit(Qix (str c) _ (by rw[Cr];omega));rintro e d⟨rfl,d⟩;have⟨m,j⟩:=qb (l.o.trans d sx) (h.o.kept d sx);have o:(⟨(QM (str c).data.toList).toArray⟩:BA)=str (QM c):=rfl;clear d l h;rw[o];go_wp2_with fail;go_fit(Qal c _ g ox);rintro e t⟨a4,p,rfl,h,d,-⟩;have⟨o,l,q⟩:=qc (m.o.trans d sx) (j.o.kept d sx)<|show Qp t 1 a4 (Ul c).length (Qi<|Ul c)from h.sZ;clear d m j h;go_wp2_with fail;go_fit(Qlw c a4 p _ g ox q.o);rintro e t⟨a5,h5,rfl,j,d,-⟩;have⟨p,m,h⟩:=qc (o.o.trans d sx) (l.o.kept d sx)<|show Qp t 1 a5 (Xe c).length (Qi<|Xe c)from j.sZ;obtain⟨-,t,x⟩:=j.ao;clear d o l j q;go_wp2_with fail
 with_reducible refine(uZ c a5 h5 _ g ox h.o t x).mono ?_
 rintro e A⟨t,y,q,x,rfl,o,d,-,-⟩;have⟨l,j,E,B⟩:=qd (p.o.trans d sx) (m.o.kept d sx) (h.o.kZ d) o;clear d p m h o;unfold ZL;go_wp2_with fail;have d:Qb [] A (A.alloc<|.cells #[.slice t (QI c).1.length y,.slice q (QI c).2.1.length x] 255):=(Qc _ _).alloc _;have⟨z,C,o,G,D⟩:=qe (Qx A [.slice t (QI c).1.length y,.slice q (QI c).2.1.length x] 255) (l.o.trans d sx) (j.o.kept d sx) (E.o.kZ d)<|B.o.kept d;clear d l j E B;go_fit(DX _);rintro e d⟨b,rfl,B,m,j⟩;have:=Qa<|ER s;obtain⟨d,l⟩:∃d:Nat,Yd s=(d:Int)/\d<2^32:=by have h:Zi (Yd s):=Zi.bits _ _ _;exact⟨(Yd s).toNat,(RT h.1).symm,yx h.2⟩
 obtain⟨h,I⟩:=l;have H:Xs c<2^24:=by have:=(KZ (DZ c) 0 g).1;unfold Xs;omega
 have h4:=Qa h;clear h;go_wp2_with fail;go_fit(Ft m j B _ 54156738319193 48 (by rfl) dx dx sx);rintro e h⟨rfl,h,E,p,l⟩;clear B m j;go_wp2_with fail;go_fit(ER s _ ox);rintro e h⟨rfl,h⟩;have F:=E.kept h<|Zy _;have h:=p.trans h sx;obtain⟨_,_⟩:(d:Int)<4294967296/\(Xs c:Int)<16777216:=ox
 clear E p;rw[h4.o];go_wp2_with fail;go_fit(Ft h l F _ d 32 (by rfl) dx (by simpa using I)<|by simp[Yl]);rintro e j⟨rfl,j,B,m,j⟩;clear F h l;go_wp2_with fail;go_fit(Ft m j B _ 0 1 (by rfl) dx dx (by simp[Yl];try omega));rintro e h⟨rfl,h,E,p,h⟩;clear B m j;go_wp2_with fail;go_fit(Ft p h E _ (Xs c) 24 (by rfl) dx (by simpa using H)<|by simp[Yl]);rintro e l⟨rfl,F,m,B,H⟩;clear E p h;go_wp2_with fail;have hh:([]:LB)++K.low 54156738319193 48++K.low d 32++K.low 0 1++K.low (Xs c) 24=JT d (Xs c):=by simp[JT]
 rw[hh]at m;have⟨j,h⟩:=qb m B;clear m B H hh;go_fit(Eg _ b F _ j.o);rintro e m⟨rfl,rfl⟩;go_wp2_with fail;go_fit(DT _ b F _ j.o);rintro e m⟨rfl,rfl⟩;rw[CW];have⟨B,m,p,H,F⟩:=qe (C.o.trans h.o sx) (o.o.kept h.o sx) (z.o.kept h.o sx) (G.o.kZ h.o)<|D.o.kept h.o;clear C o z G D h j;go_wp2_with fail;have h:Qb [] l (l.alloc<|.cells #[.string ⟨(Qw<|JT d<|Xs c).toArray⟩,(105:Int)] 204):=(Qc _ _).alloc _;have⟨D,E,j,o,I,G⟩:=qf (Qx l [.string ⟨(Qw<|JT d<|Xs c).toArray⟩,(105:Int)] 204) (B.o.trans h sx) (m.o.kept h sx) (p.o.kept h sx) (H.o.kZ h)<|F.o.kept h;clear h B m p H F;go_fit(Qj1 c _ g ox);rintro e z⟨rfl,h⟩;have⟨R,B,m,C,U,S⟩:=qf (E.o.trans h sx) (j.o.kept h sx) (o.o.kept h sx) (D.o.kept h sx) (I.o.kZ h)<|G.o.kept h;clear h E j o I G D;unfold Zk;have⟨j,H⟩:=qx<|Qw<|Z9<|QM c;have⟨o,J⟩:=qx<|(Z9<|QM c).length;rw[H,J];have⟨x0,x3⟩:=qb H J;obtain⟨g1,p⟩:∃h,A.heap.size=h:=⟨_,rfl⟩;obtain⟨A,I⟩:∃h,l.heap.size=h:=⟨_,rfl⟩;obtain⟨x5,A⟩:∃h,w.heap.size=h:=⟨_,rfl⟩;rw[A]at B;rw[p]at m;rw[I]at C;have l:Qb [] z (z.alloc<|.cells #[.string ⟨j.toArray⟩,.int .i64 o] 204):=(Qc _ _).alloc _;have⟨D,T,O,P,Q,h1,E⟩:=qg (Qx z [.string ⟨j.toArray⟩,.int .i64 o] 204) (R.o.trans l sx) (B.o.kept l sx) (m.o.kept l sx) (C.o.kept l sx) (U.o.kZ l)<|S.o.kept l;have F:=m.o.cq 0 (u:=.slice t (QI c).1.length y);have G:=m.o.cq 1 (u:=.slice q (QI c).2.1.length x);have L:=m.o.lt;have M:=Qa A;have:=Qa p;have V:=Qa I;clear H J l R B m C U S h8;rw[p];clear A p I;go_wp2_with fail;obtain⟨g3,l⟩:∃h,z.heap.size=h:=⟨_,rfl⟩;rw[V.o,l,M.o];rw[l]at D;have:=Qa l;clear l F G L;go_fit(Qgm c t q y x _ g ox E.o);rintro e A⟨rfl,m⟩;unfold Zk;have⟨l,C⟩:=qx<|Qw<|Zx (QI c).1 (QI c).2.1;have⟨n2,H⟩:=qx<|(Zx (QI c).1 (QI c).2.1).length;rw[C,H];have⟨x1,x4,U,I,z,R,W,h2⟩:=qh C H (T.o.trans m sx) (O.o.kept m sx) (P.o.kept m sx) (Q.o.kept m sx) (D.o.kept m sx)<|h1.o.kZ m;have Y:=Qa<|E.o.kept m;have p:Qb [] A (A.alloc<|.cells #[.string ⟨l.toArray⟩,.int .i64 n2] 204):=(Qc _ _).alloc _;have⟨B,V,J,S,X,h3,Z⟩:=qg (Qx A [.string ⟨l.toArray⟩,.int .i64 n2] 204) (U.o.trans p sx) (I.o.kept p sx) (R.o.kept p sx) (W.o.kept p sx) (h2.o.kZ p)<|Y.o.kept p;have F:=z.o.cq 0 (u:=.slice t (QI c).1.length y);have G:=z.o.cq 1 (u:=.slice q (QI c).2.1.length x);have L:=z.o.lt;clear C H p m T O P Q h1 E D U I z R W h2 Y;go_wp2_with fail;obtain⟨g4,m⟩:∃h,A.heap.size=h:=⟨_,rfl⟩;rw[m];rw[m]at B;have:=Qa m;clear m F G L;go_fit(Qgl c t q a5 y x h5 _ g ox Z.o h3.o);rintro e q⟨rfl,p⟩;unfold Zk;have⟨h,z⟩:=qx<|Qw<|Uz c;have⟨m,A⟩:=qx<|(Uz c).length;rw[z,A];have⟨E,F,D,C⟩:=qd z A (V.o.trans p sx) (J.o.kept p sx);have t:=S.o.kept p sx;have x:=X.o.kept p sx;have y:=B.o.kept p sx;have G:=t.cq 0 (u:=.string ⟨(Qw<|JT d<|Xs c).toArray⟩);have H:=t.cq 1 (u:=.int .i64 105);have I:=x.cq 0 (u:=.string ⟨j.toArray⟩);have L:=x.cq 1 (u:=.int .i64 o);have O:=y.cq 0 (u:=.string ⟨l.toArray⟩);have h6:=y.cq 1 (u:=.int .i64 n2);have Q:=t.lt;have R:=x.lt;have T:=y.lt;clear z A p V J S X h3 Z B t x y;go_wp2_with fail;have B:=NM c g ox;have J:=PF x2.o.fit.may;have P:=Sm<|QM c;have p:Qb [] q ((q.alloc<|.cells #[.string ⟨h.toArray⟩,.int .i64 m] 204).alloc<|.cells #[.string ⟨(Qw<|JT d<|Xs c).toArray⟩,(105:Int),.string ⟨j.toArray⟩,.int .i64 o,.string ⟨l.toArray⟩,.int .i64 n2,.string ⟨h.toArray⟩,.int .i64 m] 204):=((Qc _ _).alloc _).alloc _;have t:=Qx (q.alloc<|.cells #[.string ⟨h.toArray⟩,.int .i64 m] 204) [.string ⟨(Qw<|JT d<|Xs c).toArray⟩,(105:Int),.string ⟨j.toArray⟩,.int .i64 o,.string ⟨l.toArray⟩,.int .i64 n2,.string ⟨h.toArray⟩,.int .i64 m] 204;have⟨A,z⟩:=qb (D.o.trans p sx) (C.o.kept p sx);have hz:(q.alloc<|.cells #[.string ⟨h.toArray⟩,.int .i64 m] 204).heap.size=q.heap.size+1:=sx
 rw[hz]at t;have x:=t.sees (size:=2) (n:=4) rfl;have y:YH (Jm [JT d<|Xs c,Z9<|QM c,Zx (QI c).1 (QI c).2.1,Uz c])=[.string ⟨(Qw<|JT d<|Xs c).toArray⟩,.int .i64 105,.string ⟨j.toArray⟩,.int .i64 o,.string ⟨l.toArray⟩,.int .i64 n2,.string ⟨h.toArray⟩,.int .i64 m]:=by rw[<-x0.o,<-x3.o,<-x1.o,<-x4.o,<-E.o,<-F.o];simp[YH,Jm,str,CW]
 rw[<-y]at x;have j:[JT d<|Xs c,Z9<|QM c,Zx (QI c).1 (QI c).2.1,Uz c].flatten=XR s:=by rw[h9.o,h4.o,ZH];simp[U9]
 have g:=fE [JT d<|Xs c,Z9<|QM c,Zx (QI c).1 (QI c).2.1,Uz c] _ 4 _ x (by
  simp[YM,Jm,JL,XW,UD,CW];omega) sx (by
  intro b hb;simp at hb;rcases hb with rfl|rfl|rfl|rfl
  ·rw[CW];omega
  ·omega
  ·omega
  omega)
 rw[y]at g;have h:=Qa<|show Calls prog 121 #[.slice (q.heap.size+1:Nat) 4 4] _ _ from g;clear g p t x y B J P G H I L O h6 Q R T;go_fit h.o;rintro e c⟨rfl,d⟩;rw[j];unfold Zk;have g:=Qa (A.o.trans d sx);have c:=z.o.kept d sx;have c0:=c.cq 0 (u:=.string ⟨#[]⟩);have c1:=c.cq 1 (u:=.int .i64 0);have h8:=c.lt;have:=c.free 0;have:=c.free 1;have d:w<=x5:=by rw[M.o];exact Qk _
 clear h;go_wp2_with fail;have h:=(c.set 0<|.string ⟨(Qw<|XR s).toArray⟩).cq 0 (u:=.string ⟨(Qw<|XR s).toArray⟩);have j:=((c.set 0<|.string ⟨(Qw<|XR s).toArray⟩).set 1 ((XR s).length:Nat)).cq 1 (u:=.int .i64 ((XR s).length:Nat));refine Zj (v:=Zk (Qw<|XR s,((XR s).length:Nat),0)) (by simp[results,results116,go_sem,Zk,h,j]) rfl ⟨rfl,?_⟩
 first|exact(g.o.setCell (.inr d) _).setCell (.inr d) _|exact g.o.setCell (.inr d) _
section
open Go.Shelf
attribute [local go_sem] Oper.semAt_some
def Pq(s:BA)(xs:List BA):Prop:=xs=if s.size=0 then []else [s]
def rQ(s:BA)(d bs e g:Nat)(c:List BA->WD->Prop)(k:Nat)(wr:WD):Prop:=
 ((k=1/\Qe wr bs 9 [s]/\c [] wr)\/(k=0/\Qe wr bs 9 [""]/\c [s] wr/\0<s.size))/\Qe wr e 3 [(d:Int)]/\g<=wr
def cJ(s:BA)(h:s.size=0):s=⟨#[]⟩:=by
 obtain⟨c⟩:=s
 congr
 exact Array.eq_empty_of_size_eq_zero h
def Qfw(s:BA)(c bs d w)(hs:s.size<=1000000)(v:5*s.size<=4*c)(B:c<=10000000)(e:1<=c)(e:Qe w bs 9 [s])(g:Qe w d 3 [(c:Int)])(hne:bs≠d):
 Mu prog 157 #[.pointer bs,.pointer d] (fun x:BA=>#[.string x]) [bs,d] (fun pre x=>pre=[]/\x=s/\0<s.size) (Pq s) (fun _=>True) w:=by
 intro h q h h h j l m h0;have⟨n,o,t⟩:=qc (e.kept h sx) (g.kept h sx) j;have:=Qa l;have y:=h.size;have⟨z,F⟩:=qb m hne;refine callsIn_of_wp func157 rfl trivial ?_ rfl;simp only[ntmps157,Ir,QW,YE,Nat.reduceAdd,Nat.reduceSub,Ml,Mm,MG,Mw,YU,XY]
 gi_wp2_with fail
 gi_loopg [4] 1 (fun k h wr=>rQ s c bs d w q k wr)
 ·exact⟨.inl ⟨rfl,n.o,h0⟩,o.o,y⟩
 obtain⟨⟨rfl,e,l⟩|⟨rfl,e,l,q⟩,g,hz⟩:=hrel
 ·have⟨o,y⟩:=qb e g;have c0:=e.cq 0 (u:=.string s);have c1:=g.cq 0 (u:=.int .i64 (c:Int))
  by_cases h0:s.size=0
  ·have A:s.toList.isEmpty=true:=by rw[Xk,cJ s h0];rfl
   gi_wp2_with fail
   go_end0
   exact⟨⟨_,rfl⟩,.inl ⟨[],by unfold Pq;rw[Qg h0],l⟩⟩
  have A:=Do s ox;obtain⟨q,h⟩:0<s.size/\¬(s.size:Int)<1:=ox
  have:decide ((s.size:Int)<1)=false:=X0 h
  gi_wp2_with fail
  refine⟨trivial,?_⟩;refine(ET.2<|zZ s c _ hs v B).mono ?_;rintro m j⟨rfl,h⟩;have B:=t.o _ _ _ l hz (h.mono sx);have C:w.heap.size<=j.heap.size:=QS hz h.size;have n:=o.o.kept h sx;have v:=y.o.kept h sx;obtain⟨fn,h,assign,body,h,h⟩:=z.o [] s j B C ⟨rfl,rfl,q⟩;have:s.extract 0 s.size=s:=sx
  have c0:=n.cq 0 (u:=.string s)
  gi_wp2_with fail
  refine h.mono ?_;rintro m h (⟨rfl,C,o,E⟩|⟨rfl,G⟩)
  ·have j:Qe h bs 9 [s]:=(o bs sx).trans n;have y:Qe h d 3 [(c:Int)]:=(o d sx).trans v;have c0:=j.cq 0 (u:=.string s);have:=j.free 0;have:s.extract s.size s.size=⟨#[]⟩:=cJ _ sx;have D:=t.o _ _ _ C E<|(Qc [bs,d] h).setCell (p:=bs) sx<|.string ⟨#[]⟩;have t:=j.set 0<|.string ⟨#[]⟩;have z:Qe (h.setCell ⟨bs,0,none⟩<|.string ⟨#[]⟩) d 3 [(c:Int)]:=y.kept ((Qc [bs] h).setCell (p:=bs) sx _) (by simp;exact fun m=>F.o m.symm);have⟨h,c,d⟩:=qc D t z
   gi_wp2_with fail
   go_roundg 0
   ·exact⟨.inr ⟨rfl,c.o,h.o,q⟩,d.o,by simpa[World.setCell]using E⟩
   omega
  gi_wp2_with fail
  refine Zj (Dj rfl _ _ _) rfl ?_;exact⟨⟨_,rfl⟩,.inr ⟨[s],trivial,G⟩⟩
 have c0:=e.cq 0 (u:=.string ⟨#[]⟩);have A:(⟨#[]⟩:BA).toList.isEmpty=true:=by rw[Xk];rfl
 gi_wp2_with fail
 go_end0
 exact⟨⟨_,rfl⟩,.inl ⟨[s],by unfold Pq;rw[Qf ox],l⟩⟩
end
def CN(W:WD)(b):(convert 88 9<|.slice W.heap.size 1 1).run prog (W.alloc<|.cells #[.int .u8 (b.toNat:Int)] 5)=.ok (.string ⟨#[b]⟩) (W.alloc<|.cells #[.int .u8 (b.toNat:Int)] 5):=by
 have c:Qh (W.alloc<|.cells #[.int .u8 (b.toNat:Int)] 5) 5 (.slice W 1 1) (Qn [b]):=
  ⟨by simp[Qn],.inr ⟨W.heap.size,1,_,rfl,Zv _,Xq W _,Qk _,by simp[maxLen],sx,by simp[Qn]⟩⟩
 exact Qh.text c
def zC(s:BA)(a b):(s.extract a b).data.toList=(s.data.toList.drop a).take (b-a):=by simp[ByteArray.extract,ByteArray.copySlice,List.extract_eq_take_drop]
section
open Go.Shelf
attribute [local go_sem] Oper.semAt_some
def Zl:LU:=[66,90,104,49]
def vY:Qw (Ql Zl)=Zl:=by decide
noncomputable def XN(s:LU):LB:=
 Ql Zl++((if s.length=0 then []else XR s)++(K.low 25779555029136 48++K.low (Uo 0 (if s.length=0 then []else [Yd s])).toNat 32))
structure Uu(w0:WD)(ga gs r6 r7 bs bm:Nat)(Bs:List LB)(xs:LI)(va vs:VL)(W:WD):Prop where
 ha:Qe W ga 205 [va]
 hra:Qm W 204 2 va Bs.length (YH (Jm Bs))
 hs:Qe W gs 206 [vs]
 hrs:Qm W 67 1 vs xs.length (Zp xs)
 h6:Qe W r6 9 [.string ⟨#[]⟩]
 h7:Qe W r7 40 [(0:Int)]
 hk:Qb [] w0 W
 hf:∀x,x∈Qd va\/x∈Qd vs->w0.heap.size<=x/\x≠ga/\x≠gs/\x≠r6/\x≠r7/\x≠bs/\x≠bm
 hap:∀x,x∈Qd va->x∈Qd vs->False
 hne:ga≠gs/\ga≠r6/\ga≠r7/\gs≠r6/\gs≠r7/\(ga≠bs/\ga≠bm)/\(gs≠bs/\gs≠bm)/\(r6≠bs/\r6≠bm)/\(r7≠bs/\r7≠bm)
 hlt:bs<W.heap.size/\bm<W.heap.size
 hw:w0.heap.size<=ga/\w0.heap.size<=gs/\w0.heap.size<=r6/\w0.heap.size<=r7/\w0.heap.size<=bs/\w0.heap.size<=bm
def MX(w0:WD)(e g h i bs d:Nat)(c:List LB)(xs:LI)(W:WD):Prop:=∃j l,Uu w0 e g h i bs d c xs j l W
variable {w0 A B:WD} {ga gs r6 r7 bs bm n g m cap:Nat} {Bs Bs':List LB} {xs xs':LI} {va vs:VL}
def Uu.kept(h:Uu w0 ga gs r6 r7 bs bm Bs xs va vs A)(k:Qb [] A B):Uu w0 ga gs r6 r7 bs bm Bs xs va vs B:=
 ⟨h.ha.kept k sx,h.hra.kept k<|Zy _,h.hs.kept k sx,h.hrs.kept k<|Zy _,h.h6.kept k sx,h.h7.kept k sx,h.hk.trans k sx,h.hf,h.hap,h.hne,wx h.hlt k.size,h.hw⟩
def Uu.mild(h:Uu w0 ga gs r6 r7 bs bm Bs xs va vs A)(k:Vr [bs,bm] n A B)(e:w0.heap.size<=n):Uu w0 ga gs r6 r7 bs bm Bs xs va vs B:=by
 have ar:∀{b:Nat}{d:TypeId}{c:LV},b≠bs/\b≠bm->Qe A b d c->Qe B b d c:=fun hb ha=>k.block _ _ ha (by simp;exact hb)<|.inr rfl
 obtain⟨-,-,-,-,-,c,n2,g,i⟩:=h.hne;exact⟨ar c h.ha,k.row h.hra (fun d c=>by have:=h.hf d<|.inl c;simp;omega),ar n2 h.hs,k.row h.hrs (fun d c=>by have:=h.hf d<|.inr c;simp;omega),ar g h.h6,ar i h.h7,
  k.kept h.hk (by have:=h.hw;simp;omega) e,h.hf,h.hap,h.hne,wx h.hlt k.size,h.hw⟩
def Uu.push(h:Uu w0 ga gs r6 r7 bs bm Bs xs va vs A)(k:Qb (Qd va) A B)(i:g∈Qd va\/A.heap.size<=g)(d:m=Bs'.length)(l:Qm B 204 2 (.slice g m cap) m (YH<|Jm Bs')):
 Uu w0 ga gs r6 r7 bs bm Bs' xs (.slice g m cap) vs (B.setCell ⟨ga,0,none⟩<|.slice g m cap):=by
 subst d;obtain⟨c,n2,c,c,c,c,c,c,n9⟩:=h.hne;have:=h.ha.lt;have:=h.hs.lt;have:=h.h6.lt;have:=h.h7.lt;have:=h.hlt;have:=h.hk.size;have j:∀b,(b=ga\/b=gs\/b=r6\/b=r7)->b∉Qd va:=fun b hb d=>by have:=h.hf b<|.inl d;omega
 have c:∀b,b≠ga->Qb [ga] B (B.setCell ⟨ga,0,none⟩<|.slice g Bs' cap):=fun b _=>(Qc [ga] B).setCell (p:=ga) sx _
 have kk:=c gs ox;have:g≠ga/\g≠gs/\g≠r6/\g≠r7/\g≠bs/\g≠bm/\w0<=g:=by
  rcases i with i|i
  ·have:=h.hf g<|.inl i;omega
  omega
 refine⟨?_,?_,(h.hs.kept k<|j _ sx).kept kk zx,(h.hrs.kept k fun e c d=>h.hap e d c).kept kk ?_,(h.h6.kept k<|j _ sx).kept kk zx,(h.h7.kept k<|j _ sx).kept kk zx,?_,?_,?_,h.hne,by have:=k.size;simp[World.setCell];omega,h.hw⟩
 ·exact(h.ha.kept k<|j _ sx).set 0 _
 ·refine l.kept kk ?_;intro e c d;simp[Qd,qo]at c d;omega
 ·intro e c d;have:=h.hf e<|.inr c;simp at d;omega
 ·exact((h.hk.trans k fun e c=>.inr (h.hf e<|.inl c).1)).setCell (.inr h.hw.1) _
 ·intro e c;rcases c with c|c
  ·simp[Qd,qo]at c;omega
  exact h.hf e<|.inr c
 intro e c d;simp[Qd,qo]at c;subst c;rcases i with i|i
 ·exact h.hap _ i d
 have:=h.hrs.lt _ d;omega
def Uu.add(h:Uu w0 ga gs r6 r7 bs bm Bs xs va vs A)(k:Qb (Qd vs) A B)(i:g∈Qd vs\/A.heap.size<=g)(d:m=xs'.length)(l:Qm B 67 1 (.slice g m cap) m (Zp xs')):
 Uu w0 ga gs r6 r7 bs bm Bs xs' va (.slice g m cap) (B.setCell ⟨gs,0,none⟩<|.slice g m cap):=by
 subst d;obtain⟨c,n2,c,c,c,c,c,c,n9⟩:=h.hne;have:=h.ha.lt;have:=h.hs.lt;have:=h.h6.lt;have:=h.h7.lt;have:=h.hlt;have:=h.hk.size;have j:∀b,(b=ga\/b=gs\/b=r6\/b=r7)->b∉Qd vs:=fun b hb d=>by have:=h.hf b<|.inr d;omega
 have kk:Qb [gs] B (B.setCell ⟨gs,0,none⟩<|.slice g xs' cap):=(Qc [gs] B).setCell (p:=gs) sx _;have:g≠ga/\g≠gs/\g≠r6/\g≠r7/\g≠bs/\g≠bm/\w0<=g:=by
  rcases i with i|i
  ·have:=h.hf g<|.inr i;omega
  omega
 refine⟨(h.ha.kept k<|j _ sx).kept kk zx,(h.hra.kept k fun e c d=>h.hap e c d).kept kk ?_,(h.hs.kept k<|j _ sx).set 0 _,l.kept kk ?_,(h.h6.kept k<|j _ sx).kept kk zx,(h.h7.kept k<|j _ sx).kept kk zx,?_,?_,?_,h.hne,by have:=k.size;simp[World.setCell];omega,h.hw⟩
 ·intro e c d;have:=h.hf e<|.inl c;simp at d;omega
 ·intro e c d;simp[Qd,qo]at c d;omega
 ·exact((h.hk.trans k fun e c=>.inr (h.hf e<|.inr c).1)).setCell (.inr h.hw.2.1) _
 ·intro e c;rcases c with c|c
  ·exact h.hf e<|.inl c
  simp[Qd,qo]at c;omega
 intro e c d;simp[Qd,qo]at d;subst d;rcases i with i|i
 ·exact h.hap _ c i
 have:=h.hra.lt _ c;omega
def TM:(prog.info? 67).map (fun i=>(i.zero,i.size,i.bytes))=some (some<|.int .u32 0,1,4):=by kernel_rfl
def lD(w):Calls prog 114 #[(1:Int)] w fun e w'=>e=.returned (100000:Int)/\w'=w:=by
 go_enter func114,ntmps114
 go_wp2
 go_ret;exact⟨rfl,rfl⟩
def Qfx(s:BA)(c:Int)(w):Calls prog 115 #[s,c] w fun e w'=>e=.returned (.func (.func 157) #[] #[.pointer w,.pointer (w.heap.size+1:Nat)])/\w'=(w.alloc<|.cells #[s] 9).alloc (.cells #[c] 3):=by
 have:∀(fn:Fn)(first cap:Array VL)(w:WD),(Instr.makeFunc fn first cap).run prog w=.ok (.func fn first cap) w:=fun _ _ _ _=>rfl
 go_enter func115,ntmps115
 go_wp2
 go_ret;exact⟨rfl,rfl⟩
def Qge(w d)(s:BA)(hw:d=(((((((w.alloc<|.cells #[.string ⟨#[]⟩] 9).alloc<|.cells #[(0:Int)] 40).alloc<|.cells #[.int .u8 49] 5).alloc<|.cells #[str Zl,(32:Int)] 204).alloc<|.cells #[.slice (w.heap.size+1+1+1:Nat) 1 1] 205).alloc<|.cells #[.slice none 0 0] 206).alloc<|.cells #[s] 9).alloc (.cells #[(20000:Int)] 3)):
 MX w (w.heap.size+4) (w.heap.size+5) w.heap.size (w.heap.size+1) (w.heap.size+6) (w.heap.size+7) [Ql Zl] [] d/\Qe d (w.heap.size+6) 9 [s]/\Qe d (w.heap.size+7) 3 [(20000:Int)]/\d.heap.size=w.heap.size+8:=by
 have⟨c,e⟩:=qx w.heap.size;have a0:=Qe.newAt w [""] 9 c e;rw[e]at hw ⊢;have⟨i,o⟩:=qx<|w.alloc<|.cells #[""] 9;have g:i=c+1:=by rw[<-o];simp[e]
 rw[o]at hw a0;have u:=Qe.newAt i [(0:Int)] 40 (c+1) g;have⟨j,p⟩:=qx<|i.alloc<|.cells #[(0:Int)] 40;have z2:j=c+2:=by rw[<-p];simp[g]
 rw[p]at hw u;have⟨g,q⟩:=qx<|j.alloc<|.cells #[.int .u8 49] 5;have z3:g=c+3:=by rw[<-q];simp[z2]
 rw[q]at hw;have a3:=Qe.newAt g [str Zl,(32:Int)] 204 (c+3) z3;have⟨e,t⟩:=qx<|g.alloc<|.cells #[str Zl,(32:Int)] 204;have z4:e=c+4:=by rw[<-t];simp[z3]
 rw[t]at hw a3;have a4:=Qe.newAt e [.slice (some ⟨c+3,0,none⟩) 1 1] 205 (c+4) z4;have⟨g,n⟩:=qx<|e.alloc<|.cells #[.slice (some ⟨c+3,0,none⟩) 1 1] 205;have z5:g=c+5:=by rw[<-n];simp[z4]
 have m:d=((g.alloc<|.cells #[()] 206).alloc<|.cells #[s] 9).alloc (.cells #[(20000:Int)] 3):=by rw[hw,<-n]
 rw[n]at a4;have a5:=Qe.newAt g [()] 206 (c+5) z5;have⟨h,h6⟩:=qx<|g.alloc<|.cells #[()] 206;have x:h=c+6:=by rw[<-h6];simp[z5]
 rw[h6]at m a5;have v:=Qe.newAt h [s] 9 (c+6) x;have⟨l,h7⟩:=qx<|h.alloc<|.cells #[s] 9;have y:l=c+7:=by rw[<-h7];simp[x]
 rw[h7]at m v;have x:=Qe.newAt l [(20000:Int)] 3 (c+7) y;have k7:Qb [] l d:=by rw[m];exact(Qc _ _).alloc _
 have k6:Qb [] h d:=(by rw[<-h7];exact(Qc _ _).alloc _:Qb [] h l).trans k7 sx;have k5:Qb [] g d:=(by rw[<-h6];exact(Qc _ _).alloc _:Qb [] g h).trans k6 sx;have k4:Qb [] e d:=(by rw[<-n];exact(Qc _ _).alloc _:Qb [] e g).trans k5 sx;have k2:Qb [] j d:=(by rw[<-t,<-q];exact((Qc _ _).alloc _).alloc _:Qb [] j e).trans k4 sx;have k1:Qb [] i d:=(by rw[<-p];exact(Qc _ _).alloc _:Qb [] i j).trans k2 sx;have k0:Qb [] w d:=(by rw[<-o];exact(Qc _ _).alloc _:Qb [] w i).trans k1 sx;have g:Qm e 204 2 (.slice (some ⟨c+3,0,none⟩) 1 1) 1 (YH<|Jm [Ql Zl]):=by
  have e:YH (Jm [Ql Zl])=[.string<|str Zl,.int .i64 32]:=by simp[YH,Jm,vY,YP];decide
  rw[e];exact⟨rfl,.inr ⟨c+3,1,_,rfl,Zv _,a3,Qk _,by simp[maxLen],rfl,rfl⟩⟩
 have e:d=c+8:=by rw[m];simp[y]
 refine⟨⟨_,_,⟨a4.kept k5 sx,g.kept k4<|Zy _,a5.kept k6 sx,(Qm.nil h _ _).kept k6<|Zy _,a0.kept k1 sx,u.kept k2 sx,k0,?_,?_,ox,ox,ox⟩⟩,v.kept k7 sx,by rwa[m],e⟩
 ·intro d c;simp[Qd,qo]at c;omega
 intro d c;simp[Qd,qo]
end
