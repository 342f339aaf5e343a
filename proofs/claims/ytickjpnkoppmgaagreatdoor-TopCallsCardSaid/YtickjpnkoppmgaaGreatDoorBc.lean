import Derived.Test.YtickjpnkoppmgaaGreatDoorBb
import Derived.Test.YtickjpnkoppmgaaGreatDoorAy
set_option linter.all false
set_option maxHeartbeats 4000000
set_option maxRecDepth 100000
namespace Go.Proofs.YtickjpnkoppmgaaGreatDoor
open Go.Proofs.Tryz Go.RowKit K
def K.Qij{n o y w s:Nat}{q r L:List Nat}(h:K.zD n o y w q (s::r)=some L):s≤n+1∧
 (s<2→w≤o∧q.length+(y+(s+1)*w)≤o∧K.zD n o (y+(s+1)*w) (2*w) q r=some L)∧
 (2≤s→s=n+1→r=[]∧q++List.replicate y 0=L)∧
 (2≤s→s≠n+1→q.length+y≠o∧K.zD n o 0 1 (q++List.replicate y 0++[s-1]) r=some L):=by
 unfold K.zD at h
 split at h
 ·cases h
 refine⟨by omega,fun h2=>?_,fun h2 hs=>?_,fun h2 hs=>?_⟩
 ·rw[Qg h2]at h
  split at h
  ·cases h
  exact⟨by omega,by omega,h⟩
 ·rw[Qe<|by omega,Qg hs]at h
  split at h
  ·rename_i hr;injection h with h;exact⟨hr,h⟩
  cases h
 rw[Qe<|by omega,Qe hs]at h
 split at h
 ·cases h
 rename_i hl;exact⟨by simpa using hl,h⟩
def eA(m):List.replicate m (Value.int .i64 0)=Qi (List.replicate m 0):=by simp[Qi]
def Qii(n y a c l L w)(hn:1≤n∧n≤256)(hm:y≤262144)(h:Qn w 1 a l.length (Qi l))(hl:l.length≤1000000)(hL:K.zD n y 0 1 [] l=some L):
 Calls prog 227 #[(n:Int),(y:Int),.slice a l.length c] w (Ri L 0 w):=by
 have⟨HS,HL⟩:=qb h hL;obtain⟨h1,h2⟩:=hn;obtain⟨g1,g2,g3,g4⟩: ¬(n:Int)<1∧¬(256:Int)<n∧¬(y:Int)<0∧¬(262144:Int)<y:=by omega
 go_enter func227,ntmps227
 go_wp2
 go_loopg [8,9,10,29] (l.length) (fun k x8 x9 z6 z7 wr=>∃(i q wt:Nat)(o:List Nat)(p:Option Addr)(c:Nat),k=l.length-i∧i≤l.length∧x8=.slice p o.length c∧x9=.int .i64 (q:Nat)∧z6=.int .i64 (wt:Nat)∧z7=.int .i64 (i:Nat)∧o.length+q≤y∧wt≤600000∧
  Hid (K.zD n y q wt o (l.drop i)=some L)∧Hid (Qh wr 3 (.slice p o.length c)<|Qi o)∧Hid (Qb [] w wr)∧Hid (Qs w.heap.size<|Qd<|.slice p o.length c))
 ·exact⟨0,0,1,[],none,0,by omega,by omega,rfl,rfl,rfl,rfl,by simp,by omega,HL,Qa<|Qh.nil _ _,Qa<|Qc _ _,Qa<|by simp[Qs,Qd,qo]⟩
 obtain⟨i,q,wt,o,p,c8,hk,hi,rfl,rfl,rfl,rfl,p0,p2,HZ,HR,HK,HF⟩:=hrel;have Hk:=Qa hk
 by_cases hlt:i<l.length
 ·have z8:(i:Int)<l.length:=by omega
  have⟨x,hx⟩:=qy l i hlt;have hz:=HZ.o;rw[Xa hlt,show l[i]=x from(Qz.1 hx).2]at hz;obtain⟨z0,z1,z2,z3⟩:=Qij hz;have⟨Z1,Z2,Z3⟩:=qc z1 z2 z3;have x5:(Qi l)[i]?=some (.int .i64 (x:Int)):=by unfold Qi;rw[ZJ,hx];rfl
  obtain⟨b,p3,rfl,c0⟩:=(HS.o.kZ HK.o).2 i _ x5;obtain⟨q1,q2⟩: ¬(x:Int)<0∧¬(n:Int)+1<(x:Int):=by omega
  by_cases y9:x<2
  ·obtain⟨y1,y2,y3⟩:=Z1.o y9;have Y3:=Qa y3;have hp:(x+1)*wt≤1200000:=(by have:(x+1)*wt≤2*wt:=As _ (by omega);omega);have⟨pr,x0⟩:=qx<|(x+1)*wt;have p1:((x:Int)+1)*(wt:Int)=pr:=by rw[←x0];push_cast;rfl
   rw[x0]at y2 hp;obtain⟨r1,r2,r3⟩:(x:Int)<2∧¬(y:Int)<wt∧¬(y:Int)-o.length<(q:Int)+pr:=by omega
   go_wp2
   go_roundg (l.length-(i+1))
   ·refine⟨i+1,q+pr,2*wt,o,p,c8,rfl,by omega,rfl,by go_num,by go_num,by go_num,by omega,by omega,Qa ?_,HR,HK,HF⟩;have:=Y3.o;rwa[x0]at this
   have:=Hk.o;omega
  have r1:¬(x:Int)<2:=by omega
  have x1:=HR.o;have M1:(Qi o).length+q≤maxLen:=by rw[QD];simp only[maxLen];omega
  have M2:((Qi o).length+q)*8≤140737488355328:=by rw[QD];omega
  by_cases h4:x=n+1
  ·obtain⟨y1,y2⟩:=Z2.o (by omega) h4;have y7:i+1=l.length:=(by have:=Qq List.length y1;rw[YW]at this;simp at this;omega);have e1:((x:Int)==(n:Int)+1)=true:=(by simp;omega);have e2:¬(i:Int)+1<(l.length:Int):=(by omega);have Y2:=Qa y2;go_wp2_with ((at_builtin;refine lE rfl _ _ 51 3 rfl 3 (0:Int) 8 XH YG XR rfl rfl _ _ q rfl rfl x1 M1 M2 ?_;intro a5 x6 w5 h3 h8 h5));go_ret2;rw[eA,←Dt,Y2.o]at h3;exact Ri.of rfl rfl h3 rfl (HK.o.new h8 HF.o)<|HF.o.grow h5 HK.o.size
  obtain⟨y1,y2⟩:=Z3.o (by omega) h4;have e1:((x:Int)==(n:Int)+1)=false:=Zh.2 (by omega);have e2:(((Qi o).length:Int)+q==(y:Int))=false:=Zh.2 (by rw[QD];omega);have Y2:=Qa y2;have N1:(Qi o++List.replicate q (Value.int .i64 0)).length+1≤maxLen:=by simp[QD];simp only[maxLen];omega
  have N2:((Qi o++List.replicate q (Value.int .i64 0)).length+1)*8≤140737488355328:=by simp[QD];omega
  have y4:o.length+q+1≤y:=by omega
  go_wp2_with (first
   |(at_builtin;have hh:=x1;refine lE rfl _ _ 51 3 rfl 3 (0:Int) 8 XH YG XR rfl rfl _ _ q rfl rfl hh M1 M2 ?_;intro a5 x6 w5 h3 h8 h5)
   |(at_builtin;refine UL _ rfl _ _ 51 rfl 3 (0:Int) 8 XH XR rfl _ _ [.int .i64<|(x:Int)-1] 1 rfl rfl rfl rfl (by simp[Value.oneCell']) h3 N1 N2 ?_;intro a6 x7 w6 x2 y6 y5))
  go_roundg (l.length-(i+1))
  case measure=>have:=Hk.o;omega
  have x4:=HF.o.grow h5 HK.o.size;have x3:=HK.o.new h8 HF.o;have y0:=x4.grow y5 x3.size;rw[eA,←Dt]at x2;have h9:(Qi o).length+q+1=(o++List.replicate q 0++[x-1]).length:=by simp[QD];omega
  have y8:(o++List.replicate q 0++[x-1]).length+0≤y:=by simp;omega
  refine⟨i+1,0,1,o++List.replicate q 0++[x-1],a6,x7,rfl,by omega,by rw[←h9],rfl,rfl,by go_num,y8,by omega,Qa Y2.o,Qa ?_,Qa<|x3.new y6 x4,Qa ?_⟩
  ·rw[←h9];have e:(x:Int)-1=((x-1:Nat):Int):=(by omega);rw[e]at x2;simpa[Qi,QD]using x2
  rw[←h9];simpa[QD]using y0
 obtain rfl:i=l.length:=by omega
 have hz:=HZ.o;rw[KW,K.zD]at hz;cases hz
def K.Qef{same:Nat}{last x:UInt8}{b r L:List UInt8}(a:Jf same last b (x::r)=some L):
 (same=4→b.length+x.toNat≤262144∧Jf 0 last (b++List.replicate x.toNat last) r=some L)∧
 (same≠4→b.length≠262144∧Jf (if 0<same∧x=last then same+1 else 1) x (b++[x]) r=some L):=by
 unfold Jf at a;refine⟨fun b=>?_,fun b=>?_⟩
 ·rw[Qg b]at a
  split at a
  ·cases a
  exact⟨by omega,a⟩
 rw[Qe b]at a
 split at a
 ·cases a
 exact⟨by assumption,a⟩
def RV(a:List UInt8)(same:Nat)(last:UInt8):Prop:=∃b,a=b++List.replicate same last
def RV.get{a same last}(b:RV a same last){j}(c:j<same):(Qm a)[a.length-same+j]?=some (.int .u8 (last.toNat:Int)):=by obtain⟨a,rfl⟩:=b;unfold Qm;rw[ZJ,Zy<|by simp];simp[VM,c]
def RV.le{a same last}(b:RV a same last):same≤a.length:=by obtain⟨a,rfl⟩:=b;simp
def RV.step{o same last}(h:RV o same last)(x)(hs:same≤4)(y:same≠4):RV (o++[x]) (if 0<same∧x=last then same+1 else 1) x∧(if 0<same∧x=last then same+1 else 1)≤4:=by
 split
 ·rename_i hh;obtain⟨-,rfl⟩:=hh;obtain⟨q,rfl⟩:=h;exact⟨⟨q,by rw[Fm];simp⟩,by omega⟩
 exact⟨⟨o,rfl⟩,by omega⟩
def part(n m:Nat)(b:UInt8):List UInt8:=List.replicate n b++List.replicate (m-n) 0
def eY(n m b)(a:n≤m):(part n m b).length=m:=by simp[part];omega
def Qcq(n m k b)(a:n+k≤m):splice (Qm<|part n m b) n (List.replicate k<|.int .u8 (b.toNat:Int))=Qm (part (n+k) m b):=by unfold splice Qm part;rw[Xh,Xh,List.take_left'<|by simp,];simp only[GS,Ap];rw[Ff,List.drop_replicate,List.drop_replicate];simp only[Ap];rw[show n-(n+k)=0 by omega,show m-n-(n+k-n)=m-(n+k)by omega];simp[PD];rw[←QN,PD]
def Qed(s:ByteArray)(L w)(hs:s.size≤1000000)(hL:Jf 0 0 [] s.data.toList=some L):
 Calls prog 230 #[s] w (CX (L,0) w):=by
 have HL:=Qa hL;obtain⟨iU,x9,-,z6,-⟩:=Vc YL;have r3:=TC (P:=prog) 88 5 iU ZW x9;clear hL;go_enter func230,ntmps230;go_wp2_with fail
 go_step3
 go_wp2_with fail;clear r3
 go_step3
 go_wp2_with fail
 go_wp2
 go_loopg [4,5,6] s.size (fun k x4 x5 x6 wr=>∃(i same:Nat)(last:UInt8)(o:List UInt8)(p:Option Addr)(c:Nat),k=s.size-i∧i≤s.size∧x4=.slice p o.length c∧x5=.int .i64 (same:Nat)∧x6=.int .i64 (i:Nat)∧same≤4∧o.length≤262144∧Hid (RV o same last)∧
  Hid (Jf same last o (s.data.toList.drop i)=some L)∧Hid (Qh wr 5 (.slice p o.length c)<|Qm o)∧Hid (Qb [] w wr)∧Hid (Qs w.heap.size<|Qd<|.slice p o.length c))
 ·exact⟨0,0,0,[],_,0,by omega,by omega,rfl,rfl,rfl,by omega,by simp,Qa ⟨[],rfl⟩,HL,Qa<|Qh.mt _,Qa<|(Qc _ _).alloc _,Qa<|by simp[Qs,Qd,qo]⟩
 obtain⟨i,same,last,o,p,c,hk,hi,rfl,rfl,rfl,h4,b3,HT,HZ,HR,HK,HF⟩:=hrel;have Hk:=Qa hk;obtain⟨y,r2⟩:∃y:World,y=wr:=⟨_,rfl⟩;subst r2;clear hk
 by_cases hlt:i<s.size
 ·have r6:(i:Int)<s.size:=by omega
  have hz:=HZ.o;rw[FD s i hlt]at hz;obtain⟨z1,z2⟩:=Qef hz;have⟨x,hx⟩:=qx<|s[i]'hlt;have i2:=Ui s i (i:Int) hlt rfl;rw[hx]at z1 z2 i2;clear hz HZ
  by_cases e4:same=4
  ·obtain⟨y1,y2⟩:=z1 e4;subst e4;have⟨m,hm⟩:=qx x.toNat;rw[hm]at y1 y2 i2;have Y2:=Qa y2;have a7:m<256:=(by rw[←hm];exact x.toNat_lt);have a8:(m:Int)%256=(m:Int):=(by omega);clear y2 z1 z2 hm;have b9:0≤y.heap.size:=ZF _;go_wp2_with ((at_make;refine Y0 rfl _ _ 88 rfl 5 (.int .u8 0) 1 ZW YL rfl .i64 .i64 _ _ m m rfl rfl (by go_num) (by go_num) (by omega) (by omega) (by simp only[maxLen];omega) ?_;intro w2 p0 h3));have⟨HB,p8,q8,q5⟩:=qd (by have:=p0.blk;simpa[part,Qm]using this:QI w2 y.heap.size (Qm<|part 0 m last)) (HK.o.trans h3<|by simp) (HR.o.kept h3<|by simp) HR.o.lt;have b4:=HK.o.size;have b7:=h3.size;clear p0 h3 HK HR
   go_loopg [8] m (fun k x8 p4=>∃n:Nat,k=m-n∧n≤m∧x8=.int .i64 (n:Nat)∧Hid (QI p4 y.heap.size<|Qm<|part n m last)∧Hid (Qb [y.heap.size] w2 p4))
   ·exact⟨0,rfl,by omega,rfl,HB,Qa<|Qc _ _⟩
   obtain⟨n,h3,hn,rfl,y6,x0⟩:=hrel;have q9:=Qa h3;have z7:=q8.o.kept x0.o (by intro x hx hm;have h1:=q5.o x hx;simp at hm;omega);have a1:=HT.o.le;obtain⟨gb,cap,hv,x3,-,h8,-,-⟩:=z7.open (by rw[XV];omega);injection hv with y5 hv2 hv3;subst y5;subst hv3;rw[XV]at x3;clear hv2;have p5:=Qa fun j (hj:j<4)=>h8 _ _<|HT.o.get hj;clear h3 HB h8
   by_cases b2:n<m
   ·have r7:(n:Int)<m:=(by omega);obtain⟨q,hq⟩:∃q,o.length=q+4:=⟨o.length-4,by omega⟩;have c4:IntKind.i64.wrap ((o.length:Int)-4)=(q:Int):=(by rw[Q2 _<|by omega];omega);have p2:=Ol (P:=prog) 88 5 iU ZW x9 z6 gb 0 o.length c q (q:Int) rfl (by omega) (by omega);have p3:=Ol (P:=prog) 88 5 iU ZW x9 z6 y.heap.size 0 m m n (n:Int) rfl (by omega) (by omega);rw[Zz]at p2 p3;have c5:IntKind.i64.wrap (q:Int)=(q:Int):=Q2 _ (by omega);obtain⟨b6,q0,q1,q3,q4,q6⟩:(o.length:Int)-4=(q:Int)∧(0:Int)≤q∧(q:Int)≤o.length∧¬c=q∧¬m=n∧(n:Int)≤m:=(by omega);have Hq:=Qa hq;clear hq p2 p3;go_wp2_with fail;have⟨kk,y3⟩:=qx<|Nat.min (o.length-q)<|m-n;have r5:kk≤4∧n+kk≤m∧0<kk:=by rw[←y3];simp only[Nat.min_def];split<;>omega
    obtain⟨c8,p1,c9⟩:=r5;have p9:=Qa (show(List.replicate kk<|Value.int .u8 (last.toNat:Int)).length=Nat.min (o.length-q) (m-n)by rw[y3];simp);have q7:=Qa (show ∀W,Qb [] wr W→0<(List.replicate kk<|Value.int .u8 (last.toNat:Int)).length→(some ⟨y.heap.size,n,none⟩:Option Addr)=some ⟨y.heap.size,n,none⟩∧∃ad:Addr,(some ⟨gb,q,none⟩:Option Addr)=some ad∧∀j v,(List.replicate kk<|Value.int .u8 (last.toNat:Int))[j]?=some v→W.cell? (ad.add j)=some v from
     fun W hW _=>⟨rfl,_,rfl,fun j v hj=>by
      rw[VM]at hj
      split at hj
      ·injection hj with hj;subst hj;have:=p5.o j (by omega);rw[show o.length-4+j=q+j by have:=Hq.o;omega]at this;rw[YK];exact hW.cZ this (by simp)
      cases hj⟩)
    have p7:=Qa (by rw[XV,eY n m last hn];simp;omega:n+(List.replicate kk<|Value.int .u8 (last.toNat:Int)).length≤(Qm<|part n m last).length);have c6:IntKind.i64.wrap ((n:Int)+kk)=(n:Int)+kk:=Q2 _ (by omega);clear y3
    go_region_held3 (fun w'=>True) (exact trivial) ((refine Kv rfl _ _ 88 88 rfl 5 ZW Fx (some ⟨y.heap.size,n,none⟩) (some ⟨gb,q,none⟩) (m-n) (m-n) (o.length-q) (c-q) rfl rfl y.heap.size n (Qm<|part n m last) (List.replicate kk<|Value.int .u8 (last.toNat:Int)) (y6.o.kept (Qc [] _).drew<|by simp) p9.o (q7.o _ (Qc [] _).drew) p7.o (by intro v hv;rw[BQ hv];rfl) ?_;intro w1 y9 r4))
    rw[Qcq n m kk last p1]at y9
    go_wp2
    go_roundg (m-(n+kk))
    ·exact⟨n+kk,rfl,p1,by go_num,Qa y9,Qa<|x0.o.drew.trans r4 fun x hx=>.inl hx⟩
    have:=q9.o;omega
   obtain rfl:n=m:=(by omega);have r7:¬(n:Int)<n:=(by omega);have hl:(Qm<|part n n last).length=n:=(by rw[XV,eY n n last<|Ql _]);have r9:Qn wr 1 y.heap.size n (Qm<|part n n last):=(by have h:=y6.o.sees;rwa[hl]at h);have M1:(Qm o).length+n≤maxLen:=(by rw[XV];simp only[maxLen];omega);have M2:((Qm o).length+n)*1≤140737488355328:=(by rw[XV];omega);have HE:=Qa (by simp[Qm,part]:Qm o++Qm (part n n last)=Qm (o++List.replicate n last));clear hl;go_wp2_with ((at_builtin;refine CH rfl _ _ 88 rfl 5 (.int .u8 0) 1 ZW YL rfl _ _ (Qm<|part n n last) _ _ _ rfl rfl (kM _) z7 r9 (fun h=>by cases h) M1 M2 ?_;intro a5 x2 w5 h9 y0 x7));have y7:=p8.o.new x0.o (by intro x hx;simp at hx;omega)
   go_roundg (s.size-(i+1))
   ·have he:(Qm o).length+n=(o++List.replicate n last).length:=(by simp[XV]);rw[HE.o]at h9;refine⟨i+1,0,last,o++List.replicate n last,a5,x2,rfl,by omega,by rw[←he],rfl,by go_num,by omega,by rw[←he,XV];omega,Qa ⟨_,by simp;rfl⟩,Qa Y2.o,Qa ?_,Qa<|y7.new y0 HF.o,Qa ?_⟩
    ·rwa[←he]
    rw[←he];exact HF.o.grow x7 y7.size
   have:=Hk.o;omega
  obtain⟨y1,y2⟩:=z2 e4;have Y2:=Qa y2;have d4:((same:Int)==4)=false:=Zh.2 (by omega);have dm:((o.length:Int)==262144)=false:=Zh.2 (by omega);have c7:(x.toNat:Int)<256:=by have:=x.toNat_lt;omega
  have hy:o.length+1≤262144:=by omega
  have z8:=HR.o;have M1:(Qm o).length+1≤maxLen:=by rw[XV];simp only[maxLen];omega
  have M2:((Qm o).length+1)*1≤140737488355328:=by rw[XV];omega
  clear y2 z1 z2 y1 HR;obtain⟨t1,t2⟩:=HT.o.step x h4 e4;have⟨sm,y4⟩:=qx<|(if 0<same∧x=last then same+1 else 1);have Y3:=Qa Y2.o;rw[y4]at t1 t2 Y3;have⟨T1,x1⟩:=qb t1 y4;clear Y2 t1 y4
  by_cases h0:0<same
  case' neg=>have r0:decide ((0:Int)<same)=false:=XI (by omega);have h2:(sm:Int)=1:=(by rw[←x1.o,Qe fun h=>h0 h.1];rfl);have HV:=Qa h2;clear h2;refine ?cC
  case' pos=>
   have r0:(0:Int)<same:=(by omega);obtain⟨gb,cap,hv,x3,-,h8,-,-⟩:=z8.open (by rw[XV];have:=HT.o.le;omega);injection hv with y5 hv2 hv3;subst y5;subst hv3;have a6:=HT.o.le;obtain⟨q,hq⟩:∃q,o.length=q+1:=⟨o.length-1,by omega⟩;have c0:=h8 q (.int .u8 (last.toNat:Int)) (by have:=HT.o.get (j:=same-1) (by omega);rwa[show o.length-same+(same-1)=q by omega]at this);have b5:(o.length:Int)-1=(q:Int):=(by omega);have b8:IntKind.i64.wrap (q:Int)=(q:Int):=Q2 _ (by omega);obtain⟨q0,q1⟩:(0:Int)≤q∧(q:Int)<o.length:=(by omega);clear hv2 h8 x3 hq
   by_cases h5:x=last
  case' neg=>have b1:((x.toNat:Int)==(last.toNat:Int))=false:=Zh.2 (fun e=>h5<|Dd.1<|by omega);have h2:(sm:Int)=1:=(by rw[←x1.o,Qe fun h=>h5 h.2];rfl);have HV:=Qa h2;clear h5 h2;refine ?cB
  case' pos=>have b1:((x.toNat:Int)==(last.toNat:Int))=true:=(by rw[h5];simp);have h2:(sm:Int)=same+1:=(by rw[←x1.o,Qg ⟨h0,h5⟩];omega);have HV:=Qa h2;clear h5 h2
  all_goals
   go_wp2_with fail;go_quiet (fail);go_wp2_with ((at_builtin;refine UL (y.drewN _) rfl _ _ 88 rfl 5 (.int .u8 0) 1 ZW YL rfl _ _ [.int .u8 (x.toNat:Int)] 1 rfl rfl rfl rfl (by simp[Value.oneCell']) (z8.drewN _) M1 M2 ?_;intro a5 x2 w5 h9 y0 x7))
   go_roundg (s.size-(i+1))
   ·have he:(Qm o).length+1=(o++[x]).length:=(by simp[XV]);have r1:=(HK.o.drewN _).new y0 HF.o;refine⟨i+1,sm,x,o++[x],a5,x2,rfl,by omega,by rw[←he],by rw[HV.o],by go_num,t2,by simp;omega,T1,Y3,Qa ?_,Qa r1,Qa ?_⟩
    ·rw[←he];simpa[Qm]using h9
    rw[←he];exact HF.o.grow x7 HK.o.size
   have:=Hk.o;omega
 obtain rfl:i=s.size:=by omega
 have r6:¬(s.size:Int)<s.size:=by omega
 have hz:=HZ.o;rw[LY s s.size<|Ql _,Jf]at hz;have y8:same≠4:=by intro e;rw[Qg e]at hz;cases hz
 rw[Qe y8]at hz;injection hz with hz;have d4:((same:Int)==4)=false:=Zh.2 (by omega);have ht:=HR.o.text;have p6:=Qa hz;clear hz y8 HZ
 go_wp2
 go_ret2;exact⟨by rw[p6.o];rfl,HK.o⟩
def pM(w):(isAgg 214).run prog w=.ok false w:=by kernel_rfl
def pX:(prog.info? 214).map (·.size)=some 1:=by kernel_rfl
def SC:(prog.info? 299).map (·.size)=some 16:=by kernel_rfl
def Vg(l:List UInt8):List Value:=(List.range 16).map fun a=>.int .u64 (UG l a:Nat)
def EO(l):(Vg l).length=16:=by simp[Vg]
def Kn(l i)(a:i<16):(Vg l)[i]?=some (.int .u64 (UG l i:Nat)):=by simp[Vg,Xb a]
def Qez:#[Value.int .u64 0,.int .u64 0,.int .u64 0,.int .u64 0,.int .u64 0,.int .u64 0,.int .u64 0,.int .u64 0,.int .u64 0,.int .u64 0,.int .u64 0,.int .u64 0,.int .u64 0,.int .u64 0,.int .u64 0,.int .u64 0]=(Vg []).toArray:=by
 have:∀a,UG [] a=0:=fun a=>(NZ [] a).2 (by simp[Jq,K.has])
 simp[Vg,this,List.range,List.range.loop]
def Qe0(l b):(Vg l).set (b.toNat/16) (.int .u64 ((UG l (b.toNat/16)|||2^(15-b.toNat%16):Nat):Int))=Vg (l++[b]):=by
 have hb:=Vw b;apply Xu;intro c;rw[YV]
 by_cases hi:c<16
 ·rw[Kn _ _ hi,Kn _ _ hi,EO]
  by_cases a:b.toNat/16=c
  ·rw[Qg a,Qg<|by omega,←a,Qey]
  rw[Qe a,Qex l b c hi fun c=>a c.symm]
 rw[QW (by rw[EO];omega),QW (by rw[EO];omega),Qe<|by omega]
def gM(l)(i:Nat)(a:i<16)(w):(Instr.index 299 (.agg (Vg l).toArray) i).run prog w=.ok (.int .u64 (UG l i:Nat)) w:=
 gV 299 214 16 (Vg l) .i64 i _ w SM pX (pM w) (EO l) (Kn l i a)
def Qhl(x)(a:x<256):bits BinOp.and IntKind.u8 ((x:Nat):Int) 15=((x%16:Nat):Int):=by have:=u8_and_nat x 15 a (by decide);rw[show((15:Nat):Int)=15 from rfl]at this;rw[this,show(15:Nat)=2^4-1 from rfl,Nat.and_two_pow_sub_one_eq_mod]
def kL(N t:Nat)(a:N<18446744073709551616)(b:t≤63):bits BinOp.or IntKind.u64 (N:Int) (IntKind.u64.wrap<|2^t)=((N|||2^t:Nat):Int):=by
 have hp:(2:Nat)^t≤2^63:=Y7 (by decide) b;rw[show((2:Int)^t)=((2^t:Nat):Int)by norm_cast];generalize (2:Nat)^t=p at hp;have hw:IntKind.u64.wrap (p:Int)=(p:Int):=by rw[JA];omega
 rw[hw];exact u64_or_nat N p a (by omega)
def oR(s:ByteArray)(w0:World)(g:Nat)(k:Nat)(c:Value)(w:World):Prop:=
 ∃a,a≤s.size∧k=s.size-a∧c=.int .i64 (a:Nat)∧Qf w g 299 (Vg (s.data.toList.take a))∧Qb [] w0 w
def oS(l:List UInt8)(w0:World)(k:Nat)(a c:Value)(w:World):Prop:=
 ∃b,b≤16∧k=16-b∧c=.int .i64 (b:Nat)∧a=.int .u64 (V3 l b:Nat)∧w0=w
def oU(l:List UInt8)(w0:World)(b:Nat)(k:Nat)(c:Value)(w:World):Prop:=
 ∃a d,a≤16∧k=16-a∧c=.int .i64 (a:Nat)∧Wr w b d (Ae l++XM l a)∧Qb [] w0 w∧Qs w0.heap.size (b::Qd d)
def Qf5(s:ByteArray)(w)(hs:s.size≤1000000000):
 Calls prog 165 #[s] w fun e w'=>e=.returned (Zf<|ES s.data.toList)∧Qb [] w w':=by
 go_enter func165,ntmps165;go_wp2_with fail;have a:(w.alloc<|.cells #[.string ⟨#[]⟩,(0:Int)] 204).heap[w.heap.size]?=some (.cells #[.string ⟨#[]⟩,(0:Int)] 204 (0,0)):=Xe _ _;have b:Qb [] w (w.alloc<|.cells #[.string ⟨#[]⟩,(0:Int)] 204):=(Qc _ _).alloc _;generalize w.alloc (.cells #[.string ⟨#[]⟩,(0:Int)] 204)=W0 at a b ⊢;refine(Oo s _<|by omega).mono ?_;rintro e f⟨rfl,c⟩;have⟨E,G,y⟩:=qc a b c;clear a b c;rcases Jv (UW s.data.toList)with g|g
 ·have p:ES s.data.toList=(Qu<|ZQ s.data.toList,(((ZQ s.data.toList).length:Nat):Int),0):=by unfold ES;rw[g];rfl
  have C:=Qa p;rw[g];clear p g;go_wp2_with fail;rw[Qez];have d:=Qx f (Vg []) 299;have b:Qb [] W0 (f.alloc<|.cells (Vg []).toArray 299):=y.o.alloc _;have n:W0.heap.size≤f.heap.size:=y.o.size;generalize f.alloc (.cells (Vg []).toArray 299)=W1 at d b ⊢;have⟨i,a⟩:=qx f.heap.size;rw[a]at d n ⊢;clear a
  go_loopg [18] s.size (fun u o wr=>oR s W0 i u o wr)
  ·exact⟨0,by omega,by omega,rfl,d,b⟩
  obtain⟨a,hi,hk,rfl,d,q⟩:=hrel;have⟨A,j⟩:=qb hk q;clear hk q b
  by_cases hlt:a<s.size
  ·have J:(a:Int)<s.size:=(by omega);have k:=Vw<|s[a]'hlt;have⟨c,m⟩:=qx<|(s[a]'hlt).toNat%16;have⟨h,r⟩:=qx<|(s[a]'hlt).toNat/16;have⟨b,t⟩:=qx<|15-c;have:bits BinOp.and IntKind.u8 (((s[a]'hlt).toNat:Nat):Int) 15=(c:Int):=(by rw[Qhl _ k,m]);have:(((s[a]'hlt).toNat:Nat):Int)/16=(h:Int):=(by omega);obtain⟨P,k⟩:(15-(c:Int))%256=(b:Int)∧h<16:=(by omega);have:(h:Int)<16:=(by omega);have L:b≤15:=(by omega);have⟨N,c⟩:=qx<|UG (s.data.toList.take a) h;have c0:=d.cell<|Kn _ h k;rw[c]at c0;have I:=d.free h;have:N<65536:=(by rw[←c];exact gJ _ _);have B:(2:Nat)^b≤2^15:=Y7 (by decide) L;have l:bits BinOp.or IntKind.u64 (N:Int) (IntKind.u64.wrap<|2^b)=((N|||2^b:Nat):Int):=kL N b (by omega) (by omega);have k:=d.set h<|.int .u64 ((N|||2^b:Nat):Int);have h:=Qe0 (s.data.toList.take a)<|s[a]'hlt;rw[←Ie s a hlt,r,c,m,t]at h;rw[h]at k;have⟨x,z⟩:=qb k l;clear m r t h d k c B l;go_wp2_with fail
   go_region
   go_wp2
   go_roundg (s.size-(a+1))
   ·refine⟨a+1,by omega,rfl,by go_num,?_,?_⟩
    ·have:=x.o;rw[←z.o]at this;exact this
    exact(j.o.setCell (.inr n) _).drew
   have:=A.o;omega
  obtain rfl:a=s.size:=by omega
  rw[Zd (by rw[Zm];exact Ql _)]at d;have m:=Qa d;clear d;go_wp2_with fail;refine(Dv _).mono ?_;rintro e r⟨h,rfl,n,k,d⟩;have⟨x,O,F,D,M⟩:=qe (m.o.kept k<|by simp) n (j.o.new k<|by simp[Qs]) (d.mono j.o.size) (show i∉h::Qd (.slice none 0 0)from fun g=>by have:=m.o.lt;have:=d i g;omega);clear n k d;go_wp2_with (refine OP rfl 299 _ rfl i rfl _ _ _ _ x.o SM rfl (by rw[SC];simp[EO]) ?_)
  go_loopg [7,38] 16 (fun u d o wr=>oS s.data.toList r u d o wr)
  ·exact⟨0,by omega,by omega,rfl,by rw[yF];rfl,rfl⟩
  obtain⟨a,hi,hk,rfl,rfl,rfl⟩:=hrel;have H:=Qa hk;have k:a<16→∀j,(Instr.index 299 (.agg (Vg s.data.toList).toArray) a).run prog j=.ok (.int .u64 (UG s.data.toList a:Nat)) j:=fun d j=>gM _ a d j
  have m:=Qa k;clear hk k
  by_cases z:a<16
  ·have k:=m.o z;have⟨N,c⟩:=qx<|UG s.data.toList a;rw[c]at k;have A:=aX s.data.toList a;have hz:=NZ s.data.toList a;rw[c]at hz;have n:=Qa hz;have P:IntKind.i64.wrap (15-(a:Int))=15-(a:Int):=Q2 _ (by omega);have J:(a:Int)<16:=(by omega);clear c hz;rcases VR N with h0|h0
   ·have r:=yD s.data.toList a<|n.o.1 h0;subst h0;have B:=Qa r;clear r A
    go_wp2
    go_roundg (16-(a+1))
    ·exact⟨a+1,by omega,rfl,by go_num,by rw[B.o],rfl⟩
    have:=H.o;omega
   have m:=yE s.data.toList a z (by
    rcases Jv (Jq s.data.toList a)with d|d
    ·exact d
    have:=n.o.2 d;omega)
   have hne:((N:Int) != 0)=true:=Vy.2 (by omega);have z:IntKind.u64.wrap (15-(a:Int))=((15-a:Nat):Int):=(by rw[JA];omega);have⟨b,t⟩:=qx<|15-a;rw[t]at z m;have L:b≤15:=(by omega);have l:=kL (V3 s.data.toList a) b (by omega) (by omega);rw[←m]at l;have z:=Qa l;clear m t l;generalize V3 s.data.toList a=b at A z
   go_wp2
   go_roundg (16-(a+1))
   ·exact⟨a+1,by omega,rfl,by go_num,by rw[←z.o],rfl⟩
   have:=H.o;omega
  obtain rfl:a=16:=by omega
  have A:=aX s.data.toList 16;have t:=Qa<|yC s.data.toList;have⟨b,l⟩:=qx<|V3 s.data.toList 16;rw[l]at A t ⊢;clear l;go_wp2_with fail;refine(V7 h b 16 _ _ _ (by decide) (by decide) (by omega) (by simp;omega) (by simp) O.o).mono ?_;rintro e H⟨rfl,L,b,l,A⟩;have b:Wr H h L (Ae s.data.toList):=by have:=b;rw[Zw,show(16:Int).toNat=16 from rfl,t.o]at this;exact this
  have H:=F.o.new l D.o;have t:=D.o.grow A F.o.size;have⟨D,M,F,x⟩:=qd (x.o.kept l M.o) b H t;clear b l A H t;go_wp2_with (refine OP rfl 299 _ rfl i rfl _ _ _ _ D.o SM rfl (by rw[SC];simp[EO]) ?_)
  go_loopg [55] 16 (fun u o wr=>oU s.data.toList W0 h u o wr)
  ·exact⟨0,L,by omega,by omega,rfl,by simpa[Qe1]using M.o,F.o,x.o⟩
  obtain⟨a,x,hi,hk,rfl,i,q,u⟩:=hrel;have⟨t,o,b,l⟩:=qd hk i q u;clear hk i q u
  by_cases q:a<16
  ·have k:=fun j=>gM s.data.toList a q j
   have⟨N,c⟩:=qx<|UG s.data.toList a;rw[c]at k;have k:=gJ s.data.toList a;have j:=Qew s.data.toList a;have hz:=NZ s.data.toList a;rw[c]at hz j k;have⟨n,q⟩:=qb hz j;have J:(a:Int)<16:=(by omega);have A:=gN s.data.toList a;have u:=FU s.data.toList;have k:=Qa (show(Ae s.data.toList++XM s.data.toList a).length≤1000000000000 by rw[Qo];omega);clear c hz j A u;rcases VR N with h0|h0
   ·have r:=Gp s.data.toList a<|n.o.1 h0;subst h0;have B:=Qa r;clear r
    go_wp2
    go_roundg (16-(a+1))
    ·exact⟨a+1,x,by omega,rfl,by go_num,by rw[B.o];exact o.o,b.o,l.o⟩
    have:=t.o;omega
   have m:=Gq s.data.toList a (by
    rcases Jv (Jq s.data.toList a)with d|d
    ·exact d
    have:=n.o.2 d;omega)
   have hne:((N:Int) != 0)=true:=Vy.2 (by omega);have z:=Qa m;clear m;go_wp2_with fail;refine(V7 h N 16 _ _ _ (by decide) (by decide) (by omega) (by simp;omega) k.o o.o).mono ?_;rintro e m⟨rfl,k,c,j,d⟩;have c:Wr m h k (Ae s.data.toList++XM s.data.toList (a+1)):=(by have:=c;rw[Zw,show(16:Int).toNat=16 from rfl,q.o,QN,←z.o]at this;exact this);have n:=b.o.new j l.o;have m:=l.o.grow d b.o.size;clear j d
   go_wp2
   go_roundg (16-(a+1))
   ·exact⟨a+1,k,by omega,rfl,by go_num,c,n,m⟩
   have:=t.o;omega
  obtain rfl:a=16:=by omega
  have i:Wr wr h x (ZQ s.data.toList):=o.o;have hh:=b.o.heap E.o (by simp);have a:wr.cell? ⟨w.heap.size,0,none⟩=_:=Zt wr w.heap.size 0 _ _ _ hh;have c:wr.cell? ⟨w.heap.size,1,none⟩=_:=Zt wr w.heap.size 1 _ _ _ hh;have I:=Uc wr w.heap.size 0 _ _ hh;have h:=Uc wr w.heap.size 1 _ _ hh;simp at a c;have d:=Qa (G.o.new b.o<|by simp[Qs]);clear hh;go_wp2_with fail;refine(DC _ _ _ _ i).mono ?_;rintro e w'⟨rfl,rfl⟩;go_wp2_with fail;refine(Dr _ _ _ _ i).mono ?_;rintro e w'⟨rfl,rfl⟩;go_wp2_with fail;rw[C.o];refine Q9 (v:=Zf (Qu<|ZQ s.data.toList,(((ZQ s.data.toList).length:Nat):Int),0)) (by simp[results,results165,go_sem,a,c,Zf]) rfl ⟨rfl,?_⟩;exact(d.o.setCell (.inr<|Ql _) _).setCell (.inr<|Ql _) _
 have p:ES s.data.toList=([],0,2):=by unfold ES;rw[g];rfl
 have C:=Qa p;rw[g];clear p g;have hh:=y.o.heap E.o (by simp);have a:f.cell? ⟨w.heap.size,0,none⟩=_:=Zt f w.heap.size 0 _ _ _ hh;have c:f.cell? ⟨w.heap.size,1,none⟩=_:=Zt f w.heap.size 1 _ _ _ hh;have I:=Uc f w.heap.size 0 _ _ hh;have h:=Uc f w.heap.size 1 _ _ hh;simp at a c;have d:=Qa (G.o.new y.o<|by simp[Qs]);clear hh;go_wp2_with fail;rw[C.o];refine Q9 (v:=Zf ([],0,2)) (by simp[results,results165,go_sem,a,c,Zf]) rfl ⟨rfl,?_⟩;exact(d.o.setCell (.inr<|Ql _) _).setCell (.inr<|Ql _) _
namespace K
def Qc3(A a b i n)(c:i+n≤a.length):QS (A++(a++b)) (A.length+i) n=QS a i n:=by rw[fI A (a++b) i n (by rw[Qo];omega)];unfold QS;rw[List.drop_append_of_le_length<|by omega,PE (by rw[YW];omega)]
def xF(A a b:List Bool)(i)(c:i<a.length):(A++(a++b)).getD (A.length+i) false=a.getD i false:=by rw[List.getD,List.getD,Zy<|by omega,Ll,Xo c]
def EV(A a v n)(c:v<2^n)(b:n≤64):QH (A++(low v n++a)) A.length (n:Nat)=(v,0):=by have b:=XZ v n;have:=EK A (low v n) a;rw[b,QN]at this;unfold QH;rw[Qe<|by omega,Qe (by simp only[Qo,b,Zw];omega),Zw,this,IW,XQ c]
def Qg5(A a l)(h0:l≠[])(e:QJ l=l):An (A++(ZQ l++a)) (A.length:Nat)=(l,((A.length+(ZQ l).length:Nat):Int),0):=by
 have f:(ZQ l).length=16+(XM l 16).length:=by unfold ZQ;rw[Qo,FU]
 unfold An;rw[Qe (by simp only[Qo];omega),Zw,Qe (by simp only[Qo];omega)];have d:Ul (A++(ZQ l++a)) (fun b=>(A++(ZQ l++a)).getD (A.length+b) false) 16 0 (A.length+16) []=
  Ul (A++(ZQ l++a)) (Jq l) 16 0 (A.length+16) []:=by
  refine Qg3 _ _ _ 16 0 _ _ fun b _ c=>?_
  show(A++(ZQ l++a)).getD (A.length+b) false=Jq l b;rw[xF _ _ _ _<|by omega];unfold ZQ;rw[List.getD,Xo (by rw[FU];omega)];simp[Ae,Xb (by omega:b<16)]
 rw[d];have d:=Qg4 (A++(ZQ l++a)) l (A.length+16) (fun b a c=>by rw[Jj,Qc3 _ _ _ _ _<|by omega];have:=fI (Ae l) (XM l 16) b a c;rw[FU]at this;exact this) (by simp only[Qo];omega) 16 0 rfl;rw[show(XM l 0).length=0 from rfl,Y6,show Jt l (16*0)=[]from rfl]at d;rw[d,Kp,e,Qe h0,f]
 congr 2
 omega
def zJ(a:List (List Bool)):BA (a.map fun b=>(Qu b,((b.length:Nat):Int)))=(Qu a.flatten,((a.flatten.length:Nat):Int),0):=by
 have c:Ym (a.map fun b=>(Qu b,((b.length:Nat):Int)))=a.flatten:=by
  induction a with
  |nil=>rfl
  |cons b r ih=>rw[QO,DO,←ih];simp[Ym,Nv]
 unfold BA;rw[c,Qg];rw[XO];intro a hp;obtain⟨b,-,rfl⟩:=Qy.1 hp;exact Nl b
end K
namespace K
def Jm(sum row:Nat):List Bool:=low 54156738319193 48++(low sum 32++(low 0 1++low row 24))
def Cn(sum row):(Jm sum row).length=105:=by unfold Jm;simp[XZ]
def Ux(sum row:Nat)(used:List UInt8)(T:List (List Int))(P:List Int)(a:List Bool):List Bool:=Jm sum row++(ZQ used++(Zs T P++a))
structure BlkAt(S:List Bool)(p sum row:Nat)(used:List UInt8)(T:List (List Int))(P z:List Int)(q1 q2 q3:Nat):Prop where
 h_magic:QH S p 48=(54156738319193,0)
 h_sum:QH S (p+48) 32=(sum,0)
 h_zero:QH S (p+80) 1=(0,0)
 h_row:QH S (p+81) 24=(row,0)
 h_used:An S ((p+105:Nat):Int)=(used,(q1:Int),0)
 h_plan:Uk S (q1:Nat) ((used.length+2:Nat):Int)=(T,QA P,q2,0)
 h_list:Rx T P S (q2:Nat)=(QA z,q3,0)
 h_to:p+105≤q1∧q1≤q2∧q2≤q3∧q3≤S.length
def rQ(A b sum row used T P pre a)(hs:sum<4294967296)(n:row<16777216)(h0:used≠[])(o:QJ used=used)(e:Xm T P=true)(f:(T.getD 0 []).length=used.length+2)(m:∀s∈pre,0≤s∧s<(used.length:Int)+1)(j:XU T P ((used.length:Int)+2) 0 (pre++[(used.length:Int)+1])=some a)(k:ZG (pre.length+1)≤P.length):
 BlkAt (A++(Ux sum row used T P a++b)) A.length sum row used T P (pre++[(used.length:Int)+1]) (A.length+105+(ZQ used).length) (A.length+105+(ZQ used).length+(Zs T P).length) (A.length+(Ux sum row used T P a).length):=by
 have c:Ux sum row used T P a=low 54156738319193 48++(low sum 32++(low 0 1++(low row 24++(ZQ used++(Zs T P++a))))):=by unfold Ux Jm;simp only[QN]
 have l:(Ux sum row used T P a).length=105+((ZQ used).length+((Zs T P).length+a.length)):=by unfold Ux;simp only[Qo,Cn]
 have g:(A++low 54156738319193 48).length=A.length+48:=by rw[Qo,XZ]
 have h:(A++(low 54156738319193 48++low sum 32)).length=A.length+80:=by simp only[Qo,XZ]
 have i:(A++(low 54156738319193 48++(low sum 32++low 0 1))).length=A.length+81:=by simp only[Qo,XZ]
 have d:(A++Jm sum row).length=A.length+105:=by rw[Qo,Cn]
 have k1:(A++Jm sum row++ZQ used).length=A.length+105+(ZQ used).length:=by rw[Qo,d]
 have k2:(A++Jm sum row++ZQ used++Zs T P).length=A.length+105+(ZQ used).length+(Zs T P).length:=by rw[Qo,k1]
 refine⟨?_,?_,?_,?_,?_,?_,?_,⟨by omega,by omega,by omega,by rw[Qo,Qo];omega⟩⟩
 ·rw[c];simp only[QN];exact EV A _ 54156738319193 48 (by decide) (by decide)
 ·have:=EV (A++low 54156738319193 48) (low 0 1++(low row 24++(ZQ used++(Zs T P++(a++b))))) sum 32 hs (by decide);rw[g]at this;rw[c];simp only[QN]at this ⊢;exact this
 ·have:=EV (A++(low 54156738319193 48++low sum 32)) (low row 24++(ZQ used++(Zs T P++(a++b)))) 0 1 (by decide) (by decide);rw[h]at this;rw[c];simp only[QN]at this ⊢;exact this
 ·have:=EV (A++(low 54156738319193 48++(low sum 32++low 0 1))) (ZQ used++(Zs T P++(a++b))) row 24 n (by decide);rw[i]at this;rw[c];simp only[QN]at this ⊢;exact this
 ·have:=Qg5 (A++Jm sum row) (Zs T P++(a++b)) used h0 o;rw[d]at this;unfold Ux;simp only[QN]at this ⊢;exact this
 ·have:=Qgz T P (A++Jm sum row++ZQ used) (a++b) (used.length+2) e f.symm;rw[k1]at this;unfold Ux;simp only[QN]at this ⊢;exact this
 have:=xG T P pre (A++Jm sum row++ZQ used++Zs T P) a b (used.length+2) e f.symm (fun s hs=>by have:=m s hs;omega)
  (by rwa[show(((used.length+2:Nat):Int))=(used.length:Int)+2 by omega,show(used.length:Int)+2-1=(used.length:Int)+1 by omega]) k
 rw[k2,show(((used.length+2:Nat):Int))-1=(used.length:Int)+1 by omega]at this;rw[l,show A.length+(105+((ZQ used).length+((Zs T P).length+a.length)))=A.length+105+(ZQ used).length+(Zs T P).length+a.length by omega];unfold Ux;simp only[QN]at this ⊢;exact this
end K
def eS(n f):∃L,K.Ordered n f n L:=by
 have c:∀a b,(decide (K.N f n a≤K.N f n b)&&(decide (K.N f n a<K.N f n b)||decide (a≤b)))=true↔¬U2 f n b a:=by intro a b;simp only[Xg,Fb,Zu];unfold U2;omega
 have hp:=Ld (List.range n) fun a b=>decide (K.N f n a≤K.N f n b)&&(decide (K.N f n a<K.N f n b)||decide (a≤b));have hs:=Le (le:=fun a b=>decide (K.N f n a≤K.N f n b)&&(decide (K.N f n a<K.N f n b)||decide (a≤b))) (fun a b d d e=>by
  rw[c]at d e ⊢;unfold U2 at*
  omega) (fun a b=>by
  rw[Fb,c,c];unfold U2;omega) (List.range n)
 refine⟨_,hp,?_⟩;have g:=hp.nodup_iff.2 CP;refine(hs.and g).imp fun {a b} h=>?_
 obtain⟨d,e⟩:=h;rw[c]at d;unfold U2 at*
 omega
noncomputable def EH(t:List UInt8):List Nat:=Classical.choose (eS t.length (K.fS t))
def Dx(t):K.Ordered t.length (K.fS t) t.length (EH t):=Classical.choose_spec<|eS t.length<|K.fS t
noncomputable def Uy(t:List UInt8):List UInt8:=X4 (ZP t.length (K.fS t) (EH t))
noncomputable def Xf(t:List UInt8):Nat:=(EH t).idxOf 0
noncomputable def JP(t:List UInt8):List Nat:=(Aa (Uy t) (QJ t)).1
noncomputable def ZZ(t:List UInt8):List Nat:=K.zE (QJ t).length 0 (JP t)
noncomputable def QE(t:List UInt8):List (List Int) × List Int × Nat:=Uw (QV (ZZ t)) (((QJ t).length:Int)+2)
noncomputable def J0(t:List UInt8):List Bool:=(Y8 (QE t).1 (QE t).2.1 (QV (ZZ t))).1
noncomputable def XD(s:List UInt8):List Bool:=Ux (XS s).toNat (Xf (Zv s)) (QJ (Zv s)) (QE (Zv s)).1 (QE (Zv s)).2.1 (J0 (Zv s))
def wP(s):∀(l:List UInt8)(o:List Nat),K.front l s=some o→∀x∈o,x<l.length:=by
 induction s with
 |nil=>intro l o h;rw[K.front]at h;injection h with h;subst h;simp
 |cons b s ih=>
  intro l o h;rw[K.front]at h
  split at h
  ·cases h
  rename_i y;have hlt:l.idxOf b<l.length:=by have:=List.idxOf_le_length (a:=b) (l:=l);omega
  cases hf:K.front (K.turned l<|l.idxOf b) s with
  |none=>rw[hf]at h;cases h
  |some qs=>
   rw[hf]at h;injection h with h;subst h;intro x q;rcases QB.1 q with rfl|q
   ·exact hlt
   have:=ih _ qs hf x q;rwa[K.turned,QZ,List.length_eraseIdx_of_lt hlt,Nat.sub_add_cancel<|by omega]at this
def Mk(t):(Uy t).length=t.length:=by unfold Uy X4 ZP;rw[QG,QG,(Dx t).len]
def vG(t)(a:0<t.length)(i):UInt8.ofNat (K.fS t i)∈t:=by unfold K.fS;rw[Hy,List.getD,Qj<|JF _ a];exact XW _
def tX(t)(a:0<t.length):∀b∈Uy t,b∈t:=by intro b hb;unfold Uy X4 ZP at hb;rw[XG]at hb;obtain⟨c,-,rfl⟩:=Qy.1 hb;exact vG t a _
structure lP(t:List UInt8):Prop where
 may:UW (QJ t)=true
 used:1≤(QJ t).length∧(QJ t).length≤256
 front:Aa (Uy t) (QJ t)=(JP t,0)
 back:AB (QV (JP t)) (QJ t)=(Uy t,0)
 plen:(JP t).length=t.length
 plt:∀x∈JP t,x<(QJ t).length
 list:X1 (QV (ZZ t)) (((QJ t).length:Int)+2)=true
 slen:(ZZ t).length≤t.length+1
 fit:RO (QE t).1 (QE t).2.1 (QV (ZZ t)) (((QJ t).length:Int)+2)
 ok:(QE t).2.2=0
 cod:Y8 (QE t).1 (QE t).2.1 (QV (ZZ t))=(J0 t,0)
 told:∀(A Z:List Bool)(sum:Nat),sum<4294967296→∃q1 q2 q3,q3=A.length+(Ux sum (Xf t) (QJ t) (QE t).1 (QE t).2.1 (J0 t)).length∧
  K.BlkAt (A++(Ux sum (Xf t) (QJ t) (QE t).1 (QE t).2.1 (J0 t)++Z)) A.length sum (Xf t) (QJ t) (QE t).1 (QE t).2.1 (QV (ZZ t)) q1 q2 q3
def Vx(t)(h0:0<t.length)(a:t.length≤262144):lP t:=by
 have b:∀a,a∈QJ t↔a∈t:=fun a=>Gf t a
 have v:=kU t;have i:UW (QJ t)=true:=Qa0 t<|DT h0;have k:1≤(QJ t).length:=Pt<|(b _).2 (XW h0);have w:(QJ t).length≤256:=kR t 256;obtain⟨e,d⟩:=wR (Uy t) (QJ t) fun a hb=>(b a).2 (tX t h0 a hb)
 have o:Aa (Uy t) (QJ t)=(e,0):=by unfold Aa;rw[Qg i,d]
 have b:JP t=e:=by unfold JP;rw[o]
 have u:e.length=t.length:=by rw[wO _ _ _ d,Mk]
 have hlt:=wP _ _ _ d;obtain⟨c,a,p,f⟩:=KE (QJ t).length k e 0 hlt;have e:ZZ t=c++[(QJ t).length+1]:=by unfold ZZ;rw[b,a]
 have j:(ZZ t).length≤t.length+1:=by rw[e,Qo];simp;omega
 have h:X1 (QV<|ZZ t) (((QJ t).length:Int)+2)=true:=by
  unfold X1;rw[XE];simp only[Xg,Zu,XO];refine⟨⟨by omega,by rw[e,Qo]at j ⊢;simp at j ⊢;omega⟩,?_⟩;intro g hs;unfold QV at hs;obtain⟨l,f,rfl⟩:=Qy.1 hs;rw[e]at f;rcases Q5.1 f with a|a
  ·have:=p l a;omega
  simp at a;omega
 obtain⟨hf,s,-⟩:=rH _ _ h;have n:∀g∈QV (ZZ t),0≤g∧g<((QJ t).length:Int)+2:=by have a:=h;unfold X1 at a;simp only[Xg,Zu,XO]at a;exact a.2
 obtain⟨q,r,m⟩:=hf.codes n;have n:J0 t=q:=by unfold J0 QE;rw[m]
 refine⟨i,⟨k,w⟩,by rwa[b],?_,by rwa[b],by rw[b];exact hlt,h,j,hf,s,by rwa[n],?_⟩
 ·unfold AB;rw[Qg i,b];unfold QV;rw[rC _ _ _ d]
 intro d h sum hs;have b:QV (ZZ t)=QV c++[((QJ t).length:Int)+1]:=by rw[e];unfold QV;rw[Xh];rfl
 have m:Xf t<16777216:=by have:=(IJ (Dx t) 0 h0).1;unfold Xf;omega
 have e:XU (QE t).1 (QE t).2.1 (((QJ t).length:Int)+2) 0 (QV c++[((QJ t).length:Int)+1])=some (J0 t):=by rwa[←b,n]
 have i:((QE t).1.getD 0 []).length=(QJ t).length+2:=by have a:(((QE t).1.getD 0 []).length:Int)=((QJ t).length:Int)+2:=hf.head;omega
 have j:ZG ((QV c).length+1)≤(QE t).2.1.length:=by have a:ZG (QV<|ZZ t).length≤(QE t).2.1.length:=hf.many;rw[b,Qo]at a;simpa using a
 have:=rQ d h sum (Xf t) (QJ t) (QE t).1 (QE t).2.1 (QV c) (J0 t) hs m (DT k) v hf.may i (fun g a=>by unfold QV at a;obtain⟨l,f,rfl⟩:=Qy.1 a;have:=p l f;omega) e j;rw[←b]at this;exact⟨_,_,_,rfl,this⟩
def rO(t)(h0:0<t.length)(c:t.length≤262144):FA ⟨(Uy t).toArray⟩ (Xf t:Nat)=(t,0):=by have b:=IJ (Dx t) 0 h0;have d:Xf t<t.length:=b.1;have a:=rE ⟨t.toArray⟩ (EH t) (by simpa[ByteArray.size]using h0) (by simpa[ByteArray.size]using c) (by simpa[ByteArray.size]using Dx t) (Xf t) (by simpa[ByteArray.size]using d);have c:(EH t).getD (Xf t) 0=0:=b.2;rw[c]at a;simpa[ByteArray.size,Uy]using a
def rR(t)(h0:0<t.length)(b:t.length≤262144)(a)(c:t.length≤a):K.zD (QJ t).length a 0 1 [] (ZZ t)=some (JP t):=by have hb:=Vx t h0 b;have:=OV (QJ t).length a hb.used.1 (JP t) 0 [] hb.plt (by rw[hb.plen];simp;exact c);unfold ZZ;simpa using this
def Qei(s)(a:s.length≤262144):Jf 0 0 [] (Zv s)=some s:=by have:=Qej s.length s 0 0 [] (Ql _) (by omega) (.inl rfl) (by simpa using a);simpa using this
def wW(t w)(h0:0<t.length)(a:t.length≤262144):Calls prog 160 #[str t] w (Ph (Uy t) (Xf t) 0 w):=by refine(wK (str t) w h0 a<|Qf0 _ (by rw[BL];omega)).mono ?_;rintro a a⟨a,c,d⟩;have b:a=EH t:=c.one<|Dx t;subst b;exact d
def wM(t w)(h0:0<t.length)(a:t.length≤262144):Calls prog 162 #[.string ⟨(Uy t).toArray⟩,str<|QJ t] w (YE (JP t,0) w):=by have hb:=Vx t h0 a;have a:=Qfg (str<|Uy t) (str<|QJ t) w (by rw[BL,Mk];omega) (by rw[BL];have:=hb.used;omega);rwa[YS,YS,hb.front]at a
def oE(W:World)(b:Nat)(bs:List Bool)(e:Ending)(w':World):Prop:=e=.returned (0:Int)∧∃a,Wr w' b a bs∧Qb [] W w'∧Qs W.heap.size (b::Qd a)
def EL{W w b a bs}(hk:Qb [] W w)(hf:Qs W.heap.size (b::Qd a))(c:Wr w b a bs)(v)(x n:Nat)(d:v=(x:Int))(e:n≤64)(e:x<2^n)(f:bs.length≤1000000):
 Calls prog 119 #[.pointer b,.int .u64 v,(n:Int)] w (oE W b<|bs++K.low x n):=by
 subst d;refine(V7 b (x:Int) (n:Int) a bs w (by omega) (by omega) (by omega) (by simpa using e) (by omega) c).mono ?_;rintro a a⟨e,f,a,c,d⟩;exact⟨e,f,by simpa using a,hk.new c hf,hf.grow d hk.size⟩
def Qim(t a c w)(h0:0<t.length)(d:t.length≤262144)(b:Qn w 1 a (JP t).length (Qi<|JP t)):
 Calls prog 163 #[((QJ t).length:Int),.slice a (JP t).length c] w (Ri (ZZ t) 0 w):=by
 have hb:=Vx t h0 d;exact Qil _ a c _ w hb.used b hb.plt (by rw[hb.plen];omega)
def rG(t a c w)(h0:0<t.length)(b:t.length≤11000)(d:Qn w 1 a (ZZ t).length (Qi<|ZZ t))(e:(ZZ t).length≤c)(f:c≤maxLen):
 Calls prog 164 #[.slice a (ZZ t).length c,.int .i64<|((QJ t).length:Int)+2] w (BW (QE t).1 (QE t).2.1 0 w):=by
 have hb:=Vx t h0 (by omega);have b:=wZ a c (QV<|ZZ t) (((QJ t).length:Int)+2) w (by rwa[XE,AC]) (by rwa[XE]) f (by rw[XE];have:=hb.slen;omega);rw[XE]at b;have:=hb.ok;unfold QE at this;rwa[this]at b
def Qgw(t w)(h0:0<t.length)(a:t.length≤262144):Calls prog 165 #[str<|QJ t] w fun e w'=>e=.returned (Zf (Qu<|ZQ<|QJ t,((ZQ<|QJ t).length:Nat),0))∧Qb [] w w':=by have hb:=Vx t h0 a;have a:=Qf5 (str<|QJ t) w (by rw[BL];have:=hb.used;omega);rw[YS]at a;unfold ES at a;rwa[Qg hb.may]at a
def Qdi(t c b f d w)(h0:0<t.length)(g:t.length≤262144)(a:Xv w c b f d (QE t).1 (QE t).2.1):
 Calls prog 166 #[QX c (QE t).1.length f b (QE t).2.1.length d] w fun e w'=>e=.returned (Zf (Qu<|Zs (QE t).1 (QE t).2.1,((Zs (QE t).1 (QE t).2.1).length:Nat),0))∧Qb [] w w':=by
 have hb:=Vx t h0 g;have a:=xS c b f d _ _ w a;unfold AU at a;rwa[Qg hb.fit.may]at a
def Qdh(t f d a h g c w)(h0:0<t.length)(b:t.length≤262144)(i:Xv w f d h g (QE t).1 (QE t).2.1)(hs:Qn w 1 a (ZZ t).length (Qi<|ZZ t)):
 Calls prog 167 #[QX f (QE t).1.length h d (QE t).2.1.length g,.slice a (ZZ t).length c] w fun e w'=>e=.returned (Zf (Qu<|J0 t,((J0 t).length:Nat),0))∧Qb [] w w':=by
 have hb:=Vx t h0 b;have b:=aK f d a h g c _ _ (QV<|ZZ t) w i (by rwa[XE,AC]) (by rw[XE];have:=hb.slen;omega);rw[XE]at b;unfold VF at b;rwa[hb.cod]at b
def YQ(a:List (List Bool)):List (ByteArray × Int):=a.map fun a=>(str (Qu a),((a.length:Nat):Int))
def bO(d a c w)(h:Qn w 2 a d.length (Yk<|YQ d))(i:Jg (Yo<|YQ d)≤1000000)(f:d.length≤1000000)(hb:∀b∈d,b.length≤100000000):
 Calls prog 121 #[.slice a d.length c] w fun e w'=>e=.returned (Zf (Qu d.flatten,((d.flatten.length:Nat):Int),0))∧Qb [] w w':=by
 have g:(YQ d).length=d.length:=by simp[YQ]
 have f:=bN a c (YQ d) w (by rwa[g]) i (by omega) (by intro h hp;unfold YQ at hp;obtain⟨b,h,rfl⟩:=Qy.1 hp;have:=hb b h;show((b.length:Nat):Int)≤_;omega);rw[g]at f;have e:Yo (YQ d)=d.map fun b=>(Qu b,((b.length:Nat):Int)):=by unfold Yo YQ;rw[XG];rfl
 rwa[e,zJ]at f
def Mi(t)(h0:0<t.length)(a:t.length≤262144):(J0 t).length≤20*(t.length+1):=by have hb:=Vx t h0 a;have a:=(Wk (QE t).1 (QE t).2.1 (QV<|ZZ t)).1;rw[hb.cod,XE]at a;have:=hb.slen;have a:(J0 t).length≤20*(ZZ t).length:=a;omega
def Qa9(s:ByteArray)(w)(h0:0<s.size)(hs:s.size≤8192):Calls prog 116 #[s] w fun e w'=>e=.returned (Zf (Qu<|XD s.data.toList,((XD s.data.toList).length:Nat),0))∧Qb [] w w':=by
 have f:=DB s.data.toList;rw[Zm]at f;have c:0<(Zv s.data.toList).length:=EN _ (DT<|by rwa[Zm]);have⟨a,b⟩:=qx<|Zv s.data.toList;have⟨g,h4⟩:=qb (fun d=>show Calls prog 159 #[s] d fun e w'=>e=.returned (.string<|str a)∧Qb [] d w' by rw[←b];exact Qeh s d<|by omega) (by unfold XD;rw[b]:XD s.data.toList=Ux (XS s.data.toList).toNat (Xf a) (QJ a) (QE a).1 (QE a).2.1 (J0 a));rw[b]at f c;have hb:=Vx a c (by omega);obtain⟨d,d⟩:=hb.used;have:(str<|QJ a).size=(QJ a).length:=rfl;have hne:=CC s h0;have:(str a).size=a.length:=rfl;have:¬(262144:Int)<a.length:=by omega
 have h9:=Qa hb;clear b hb;go_enter func116,ntmps116;go_wp2_with fail;have d:=Qa<|Qx w [.string ⟨#[]⟩,(0:Int)] 204;have j:Qb [] w (w.alloc<|.cells #[.string ⟨#[]⟩,(0:Int)] 204):=(Qc _ _).alloc _;have h3:w.heap.size<(w.alloc<|.cells #[.string ⟨#[]⟩,(0:Int)] 204).heap.size:=by simp
 refine(g.o _).mono ?_;rintro e b⟨rfl,b⟩;have⟨h,f⟩:=qb (j.trans b<|by simp) (d.o.kept b<|by simp);clear j b d g;go_wp2_with fail;refine(wW a _ c<|by omega).mono ?_;rintro e b⟨rfl,b⟩;have⟨g,d⟩:=qb (h.o.trans b<|by simp) (f.o.kept b<|by simp);clear b h f;go_wp2_with fail;refine(Qft (str a) _ (by rw[BL];omega)).mono ?_;rintro e b⟨rfl,b⟩;have⟨h,f⟩:=qb (g.o.trans b<|by simp) (d.o.kept b<|by simp);have j:(⟨(QJ (str a).data.toList).toArray⟩:ByteArray)=str (QJ a):=rfl;clear b g d;rw[j];go_wp2_with fail;refine(wM a _ c<|by omega).mono ?_;rintro e m⟨a4,k,rfl,d,b,-⟩;have⟨j,g,l⟩:=qc (h.o.trans b<|by simp) (f.o.kept b<|by simp)<|show Qn m 1 a4 (JP a).length (Qi<|JP a)from d.sZ;clear b h f d;go_wp2_with fail;refine(Qim a a4 k _ c (by omega) l.o).mono ?_;rintro e m⟨a5,h2,rfl,f,b,-⟩;have⟨k,h,d⟩:=qc (j.o.trans b<|by simp) (g.o.kept b<|by simp)<|show Qn m 1 a5 (ZZ a).length (Qi<|ZZ a)from f.sZ;obtain⟨-,m,o⟩:=f.ao;clear b j g f l;go_wp2_with fail
 with_reducible refine(rG a a5 h2 _ c (by omega) d.o m o).mono ?_
 rintro e r⟨o,q,m,p,rfl,j,b,-,-⟩;have⟨g,f,z,t⟩:=qd (k.o.trans b<|by simp) (h.o.kept b<|by simp) (d.o.kZ b) j;clear b k h d j;unfold QX;go_wp2_with fail;have b:Qb [] r (r.alloc<|.cells #[.slice o (QE a).1.length q,.slice m (QE a).2.1.length p] 255):=(Qc _ _).alloc _;have⟨l,x,j,C,y⟩:=qe (Qx r [.slice o (QE a).1.length q,.slice m (QE a).2.1.length p] 255) (g.o.trans b<|by simp) (f.o.kept b<|by simp) (z.o.kZ b)<|t.o.kept b;clear b g f z t;refine(Dv _).mono ?_;rintro e b⟨A,rfl,t,h,f⟩;have:=Qa<|Ej s;obtain⟨b,g⟩:∃b:Nat,XS s.data.toList=(b:Int)∧b<2^32:=by have d:Zc (XS s.data.toList):=Zc.bits _ _ _;exact⟨(XS s.data.toList).toNat,(Rg d.1).symm,by have:=d.2;omega⟩
 obtain⟨d,E⟩:=g;have D:Xf a<2^24:=by have:=(IJ (Dx a) 0 c).1;unfold Xf;omega
 have h1:=Qa d;clear d;go_wp2_with fail;refine(EL h f t _ 54156738319193 48 (by rfl) (by decide) (by decide)<|by simp).mono ?_;rintro e d⟨rfl,d,z,k,g⟩;clear t h f;go_wp2_with fail;refine(Ej s _<|by omega).mono ?_;rintro e d⟨rfl,d⟩;have B:=z.kept d<|Z9 _;have d:=k.trans d (by simp);obtain⟨_,_⟩:(b:Int)<4294967296∧(Xf a:Int)<16777216:=by omega
 clear z k;rw[h1.o];go_wp2_with fail;refine(EL d g B _ b 32 (by rfl) (by decide) (by simpa using E)<|by simp[XZ]).mono ?_;rintro e f⟨rfl,f,t,h,f⟩;clear B d g;go_wp2_with fail;refine(EL h f t _ 0 1 (by rfl) (by decide) (by decide) (by simp[XZ];try omega)).mono ?_;rintro e d⟨rfl,d,z,k,d⟩;clear t h f;go_wp2_with fail;refine(EL k d z _ (Xf a) 24 (by rfl) (by decide) (by simpa using D)<|by simp[XZ]).mono ?_;rintro e g⟨rfl,B,h,t,D⟩;clear z k d;go_wp2_with fail;have hh:([]:List Bool)++K.low 54156738319193 48++K.low b 32++K.low 0 1++K.low (Xf a) 24=Jm b (Xf a):=by simp[Jm]
 rw[hh]at h;have⟨f,d⟩:=qb h t;clear h t D hh;refine(DC _ A B _ f.o).mono ?_;rintro e h⟨rfl,rfl⟩;go_wp2_with fail;refine(Dr _ A B _ f.o).mono ?_;rintro e h⟨rfl,rfl⟩;rw[Cn];have⟨t,h,k,D,B⟩:=qe (x.o.trans d.o<|by simp) (j.o.kept d.o<|by simp) (l.o.kept d.o<|by simp) (C.o.kZ d.o)<|y.o.kept d.o;clear x j l C y d f;go_wp2_with fail;have d:Qb [] g (g.alloc<|.cells #[.string ⟨(Qu<|Jm b<|Xf a).toArray⟩,(105:Int)] 204):=(Qc _ _).alloc _;have⟨y,z,f,j,E,C⟩:=qf (Qx g [.string ⟨(Qu<|Jm b<|Xf a).toArray⟩,(105:Int)] 204) (t.o.trans d<|by simp) (h.o.kept d<|by simp) (k.o.kept d<|by simp) (D.o.kZ d)<|B.o.kept d;clear d t h k D B;refine(Qgw a _ c<|by omega).mono ?_;rintro e l⟨rfl,d⟩;have⟨J,t,h,x,P,O⟩:=qf (z.o.trans d<|by simp) (f.o.kept d<|by simp) (j.o.kept d<|by simp) (y.o.kept d<|by simp) (E.o.kZ d)<|C.o.kept d;clear d z f j E C y;unfold Zf;have⟨f,D⟩:=qx<|Qu<|ZQ<|QJ a;have⟨j,F⟩:=qx<|(ZQ<|QJ a).length;rw[D,F];have⟨h5,x0⟩:=qb D F;obtain⟨g1,k⟩:∃d,r.heap.size=d:=⟨_,rfl⟩;obtain⟨r,E⟩:∃d,g.heap.size=d:=⟨_,rfl⟩;obtain⟨x2,r⟩:∃d,w.heap.size=d:=⟨_,rfl⟩;rw[r]at t;rw[k]at h;rw[E]at x;have g:Qb [] l (l.alloc<|.cells #[.string ⟨f.toArray⟩,.int .i64 j] 204):=(Qc _ _).alloc _;have⟨y,Q,I,L,M,X,z⟩:=qg (Qx l [.string ⟨f.toArray⟩,.int .i64 j] 204) (J.o.trans g<|by simp) (t.o.kept g<|by simp) (h.o.kept g<|by simp) (x.o.kept g<|by simp) (P.o.kZ g)<|O.o.kept g;have B:=h.o.cell (i:=0) (u:=.slice o (QE a).1.length q) rfl;have C:=h.o.cell (i:=1) (u:=.slice m (QE a).2.1.length p) rfl;have G:=h.o.lt;have H:=Qa r;have:=Qa k;have R:=Qa E;clear D F g J t h x P O h3;rw[k];clear r k E;go_wp2_with fail;obtain⟨g3,g⟩:∃d,l.heap.size=d:=⟨_,rfl⟩;rw[R.o,g,H.o];rw[g]at y;have:=Qa g;clear g B C G;refine(Qdi a o m q p _ c (by omega) z.o).mono ?_;rintro e t⟨rfl,h⟩;unfold Zf;have⟨g,D⟩:=qx<|Qu<|Zs (QE a).1 (QE a).2.1;have⟨k,E⟩:=qx<|(Zs (QE a).1 (QE a).2.1).length;rw[D,E];have⟨h8,x1,R,F,r,O,T,Y⟩:=qh D E (Q.o.trans h<|by simp) (I.o.kept h<|by simp) (L.o.kept h<|by simp) (M.o.kept h<|by simp) (y.o.kept h<|by simp)<|X.o.kZ h;have V:=Qa<|z.o.kept h;have l:Qb [] t (t.alloc<|.cells #[.string ⟨g.toArray⟩,.int .i64 k] 204):=(Qc _ _).alloc _;have⟨x,S,J,P,U,Z,W⟩:=qg (Qx t [.string ⟨g.toArray⟩,.int .i64 k] 204) (R.o.trans l<|by simp) (F.o.kept l<|by simp) (O.o.kept l<|by simp) (T.o.kept l<|by simp) (Y.o.kZ l)<|V.o.kept l;have B:=r.o.cell (i:=0) (u:=.slice o (QE a).1.length q) rfl;have C:=r.o.cell (i:=1) (u:=.slice m (QE a).2.1.length p) rfl;have G:=r.o.lt;clear D E l h Q I L M X z y R F r O T Y V;go_wp2_with fail;obtain⟨g4,h⟩:∃d,t.heap.size=d:=⟨_,rfl⟩;rw[h];rw[h]at x;have:=Qa h;clear h B C G;refine(Qdh a o m a5 q p h2 _ c (by omega) W.o Z.o).mono ?_;rintro e m⟨rfl,l⟩;unfold Zf;have⟨d,r⟩:=qx<|Qu<|J0 a;have⟨h,t⟩:=qx<|(J0 a).length;rw[r,t];have⟨B,C,z,y⟩:=qd r t (S.o.trans l<|by simp) (J.o.kept l<|by simp);have o:=P.o.kept l (by simp);have p:=U.o.kept l (by simp);have q:=x.o.kept l (by simp);have D:=o.cell (i:=0) (u:=.string ⟨(Qu<|Jm b<|Xf a).toArray⟩) rfl;have E:=o.cell (i:=1) (u:=.int .i64 105) rfl;have F:=p.cell (i:=0) (u:=.string ⟨f.toArray⟩) rfl;have G:=p.cell (i:=1) (u:=.int .i64 j) rfl;have I:=q.cell (i:=0) (u:=.string ⟨g.toArray⟩) rfl;have h6:=q.cell (i:=1) (u:=.int .i64 k) rfl;have M:=o.lt;have O:=p.lt;have Q:=q.lt;clear r t l S J P U Z W x o p q;go_wp2_with fail;have x:=Mi a c (by omega);have J:=NI h9.o.fit.may;have L:=Ow<|QJ a;have l:Qb [] m ((m.alloc<|.cells #[.string ⟨d.toArray⟩,.int .i64 h] 204).alloc<|.cells #[.string ⟨(Qu<|Jm b<|Xf a).toArray⟩,(105:Int),.string ⟨f.toArray⟩,.int .i64 j,.string ⟨g.toArray⟩,.int .i64 k,.string ⟨d.toArray⟩,.int .i64 h] 204):=((Qc _ _).alloc _).alloc _;have o:=Qx (m.alloc<|.cells #[.string ⟨d.toArray⟩,.int .i64 h] 204) [.string ⟨(Qu<|Jm b<|Xf a).toArray⟩,(105:Int),.string ⟨f.toArray⟩,.int .i64 j,.string ⟨g.toArray⟩,.int .i64 k,.string ⟨d.toArray⟩,.int .i64 h] 204;have⟨t,r⟩:=qb (z.o.trans l<|by simp) (y.o.kept l<|by simp);have hz:(m.alloc<|.cells #[.string ⟨d.toArray⟩,.int .i64 h] 204).heap.size=m.heap.size+1:=by simp
 rw[hz]at o;have p:=o.sees (size:=2) (n:=4) rfl;have q:Yk (YQ [Jm b<|Xf a,ZQ<|QJ a,Zs (QE a).1 (QE a).2.1,J0 a])=[.string ⟨(Qu<|Jm b<|Xf a).toArray⟩,.int .i64 105,.string ⟨f.toArray⟩,.int .i64 j,.string ⟨g.toArray⟩,.int .i64 k,.string ⟨d.toArray⟩,.int .i64 h]:=by rw[←h5.o,←x0.o,←h8.o,←x1.o,←B.o,←C.o];simp[Yk,YQ,str,Cn]
 rw[←q]at p;have f:[Jm b<|Xf a,ZQ<|QJ a,Zs (QE a).1 (QE a).2.1,J0 a].flatten=XD s.data.toList:=by rw[h4.o,h1.o,Zw];simp[Ux]
 have c:=bO [Jm b<|Xf a,ZQ<|QJ a,Zs (QE a).1 (QE a).2.1,J0 a] _ 4 _ p (by
  simp[Yo,YQ,Jg,YS,J3,Cn];omega) (by simp) (by
  intro A hb;simp at hb;rcases hb with rfl|rfl|rfl|rfl
  ·rw[Cn];omega
  ·omega
  ·omega
  omega)
 rw[q]at c;have d:=Qa<|show Calls prog 121 #[.slice (m.heap.size+1:Nat) 4 4] _ _ from c;clear c l o p q x J L D E F G I h6 M O Q;refine d.o.mono ?_;rintro e a⟨rfl,b⟩;rw[f];unfold Zf;have c:=Qa (t.o.trans b<|by simp);have a:=r.o.kept b (by simp);have c0:=a.cell (i:=0) (u:=.string ⟨#[]⟩) rfl;have c1:=a.cell (i:=1) (u:=.int .i64 0) rfl;have h3:=a.lt;have:=a.free 0;have:=a.free 1;have b:w.heap.size≤x2:=by rw[H.o];exact Ql _
 clear d;go_wp2_with fail;have d:=(a.set 0<|.string ⟨(Qu<|XD s.data.toList).toArray⟩).cell (i:=0) (u:=.string ⟨(Qu<|XD s.data.toList).toArray⟩) rfl;have f:=((a.set 0<|.string ⟨(Qu<|XD s.data.toList).toArray⟩).set 1 ((XD s.data.toList).length:Nat)).cell (i:=1) (u:=.int .i64 ((XD s.data.toList).length:Nat)) rfl;refine Q9 (v:=Zf (Qu<|XD s.data.toList,((XD s.data.toList).length:Nat),0)) (by simp[results,results116,go_sem,Zf,d,f]) rfl ⟨rfl,?_⟩
 first|exact(c.o.setCell (.inr b) _).setCell (.inr b) _|exact c.o.setCell (.inr b) _
