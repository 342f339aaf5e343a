import Derived.Test.YtickjpnkoppmgaaGreatDoorBa
import Derived.Test.YtickjpnkoppmgaaGreatDoorAx
set_option linter.all false
set_option maxHeartbeats 4000000
set_option maxRecDepth 100000
namespace Go.Proofs.YtickjpnkoppmgaaGreatDoor
open Go.Proofs.Tryz Go.RowKit K
def K.Qe1{same:Nat}{last x:UInt8}{b r L:LU}(a:Jk same last b (x::r)=some L):
 (same=4→b.length+x.toNat≤262144∧Jk 0 last (b++List.replicate x.toNat last) r=some L)∧
 (same≠4→b.length≠262144∧Jk (if 0<same∧x=last then same+1 else 1) x (b++[x]) r=some L):=by
 unfold Jk at a;refine⟨fun b=>?_,fun b=>?_⟩
 ·rw[Qg b]at a
  split at a
  ·cases a
  exact⟨by omega,a⟩
 rw[Qf b]at a
 split at a
 ·cases a
 exact⟨by assumption,a⟩
def R3(a:LU)(same:Nat)(last:UInt8):Prop:=∃b,a=b++List.replicate same last
def R3.get{a same last}(b:R3 a same last){j}(c:j<same):(Qm a)[a.length-same+j]?=some (.int .u8 (last.toNat:Int)):=by obtain⟨a,rfl⟩:=b;unfold Qm;rw[ZD,Zx<|by simp];simp[V4,c]
def R3.le{a same last}(b:R3 a same last):same≤a.length:=by obtain⟨a,rfl⟩:=b;simp
def R3.step{o same last}(h:R3 o same last)(x)(hs:same≤4)(y:same≠4):R3 (o++[x]) (if 0<same∧x=last then same+1 else 1) x∧(if 0<same∧x=last then same+1 else 1)≤4:=by
 split
 ·rename_i hh;obtain⟨-,rfl⟩:=hh;obtain⟨q,rfl⟩:=h;exact⟨⟨q,by rw[Fg];simp⟩,by omega⟩
 exact⟨⟨o,rfl⟩,by omega⟩
def part(n m:Nat)(b:UInt8):LU:=List.replicate n b++List.replicate (m-n) 0
def fJ(n m b)(a:n≤m):(part n m b).length=m:=by simp[part];omega
def Qdc(n m k b)(a:n+k≤m):splice (Qm<|part n m b) n (List.replicate k<|.int .u8 (b.toNat:Int))=Qm (part (n+k) m b):=by unfold splice Qm part;rw[Xi,Xi,List.take_left'<|by simp,];simp only[GP,RV];rw[EZ,List.drop_replicate,List.drop_replicate];simp only[RV];rw[show n-(n+k)=0 by omega,show m-n-(n+k-n)=m-(n+k)by omega];simp[Sb];rw[←QQ,Sb]
def Qez(s:BA)(L w)(hs:s.size≤1000000)(hL:Jk 0 0 [] s=some L):
 Calls prog 230 #[s] w (CW (L,0) w):=by
 have HL:=Qa hL;obtain⟨iU,x9,-,z6,-⟩:=Vr YQ;have r3:=TK (P:=prog) 88 5 iU Xb x9;clear hL;go_enter func230,ntmps230;go_wp2_with fail
 go_step3
 go_wp2_with fail;clear r3
 go_step3
 go_wp2_with fail
 go_wp2
 go_loopg [4,5,6] s.size (fun k x4 x5 x6 wr=>∃(i same:Nat)(last:UInt8)(o:LU)(p:OA)(c:Nat),k=s.size-i∧i≤s.size∧x4=.slice p o.length c∧x5=.int .i64 (same:Nat)∧x6=.int .i64 (i:Nat)∧same≤4∧o.length≤262144∧Hid (R3 o same last)∧
  Hid (Jk same last o (s.data.toList.drop i)=some L)∧Hid (Qh wr 5 (.slice p o.length c)<|Qm o)∧Hid (Qb [] w wr)∧Hid (Qs w.heap.size<|Qd<|.slice p o.length c))
 ·exact⟨0,0,0,[],_,0,by omega,by omega,rfl,rfl,rfl,by omega,by simp,Qa ⟨[],rfl⟩,HL,Qa<|Qh.mt _,Qa<|(Qc _ _).alloc _,Qa<|by simp[Qs,Qd,qo]⟩
 obtain⟨i,same,last,o,p,c,hk,hi,rfl,rfl,rfl,h4,b3,HT,HZ,HR,HK,HF⟩:=hrel;have Hk:=Qa hk;obtain⟨y,r2⟩:∃y:WD,y=wr:=⟨_,rfl⟩;subst r2;clear hk
 by_cases hlt:i<s.size
 ·have r6:(i:Int)<s.size:=by omega
  have hz:=HZ.o;rw[FC s i hlt]at hz;obtain⟨z1,z2⟩:=Qe1 hz;have⟨x,hx⟩:=qx<|s[i]'hlt;have i2:=Ux s i (i:Int) hlt rfl;rw[hx]at z1 z2 i2;clear hz HZ
  by_cases e4:same=4
  ·obtain⟨y1,y2⟩:=z1 e4;subst e4;have⟨m,hm⟩:=qx x.toNat;rw[hm]at y1 y2 i2;have Y2:=Qa y2;have a7:m<256:=(by rw[←hm];exact x.toNat_lt);have a8:(m:Int)%256=(m:Int):=(by omega);clear y2 z1 z2 hm;have b9:0≤y.heap.size:=ZF _;go_wp2_with ((at_make;refine YZ rfl _ _ 88 rfl 5 (.int .u8 0) 1 Xb YQ rfl .i64 .i64 _ _ m m rfl rfl (by go_num) (by go_num) (by omega) (by omega) (by simp only[maxLen];omega) ?_;intro w2 p0 h3));have⟨HB,p8,q8,q5⟩:=qd (by have:=p0.blk;simpa[part,Qm]using this:QK w2 y.heap.size (Qm<|part 0 m last)) (HK.o.trans h3<|by simp) (HR.o.kept h3<|by simp) HR.o.lt;have b4:=HK.o.size;have b7:=h3.size;clear p0 h3 HK HR
   go_loopg [8] m (fun k x8 p4=>∃n:Nat,k=m-n∧n≤m∧x8=.int .i64 (n:Nat)∧Hid (QK p4 y.heap.size<|Qm<|part n m last)∧Hid (Qb [y.heap.size] w2 p4))
   ·exact⟨0,rfl,by omega,rfl,HB,Qa<|Qc _ _⟩
   obtain⟨n,h3,hn,rfl,y6,x0⟩:=hrel;have q9:=Qa h3;have z7:=q8.o.kept x0.o (by intro x hx hm;have h1:=q5.o x hx;simp at hm;omega);have a1:=HT.o.le;obtain⟨gb,cap,hv,x3,-,h8,-,-⟩:=z7.open (by rw[XU];omega);injection hv with y5 hv2 hv3;subst y5;subst hv3;rw[XU]at x3;clear hv2;have p5:=Qa fun j (hj:j<4)=>h8 _ _<|HT.o.get hj;clear h3 HB h8
   by_cases b2:n<m
   ·have r7:(n:Int)<m:=(by omega);obtain⟨q,hq⟩:∃q,o.length=q+4:=⟨o.length-4,by omega⟩;have c4:IntKind.i64.wrap ((o.length:Int)-4)=(q:Int):=(by rw[Q3 _<|by omega];omega);have p2:=OP (P:=prog) 88 5 iU Xb x9 z6 gb 0 o.length c q (q:Int) rfl (by omega) (by omega);have p3:=OP (P:=prog) 88 5 iU Xb x9 z6 y.heap.size 0 m m n (n:Int) rfl (by omega) (by omega);rw[ZE]at p2 p3;have c5:IntKind.i64.wrap (q:Int)=(q:Int):=Q3 _ (by omega);obtain⟨b6,q0,q1,q3,q4,q6⟩:(o.length:Int)-4=(q:Int)∧(0:Int)≤q∧(q:Int)≤o.length∧¬c=q∧¬m=n∧(n:Int)≤m:=(by omega);have Hq:=Qa hq;clear hq p2 p3;go_wp2_with fail;have⟨kk,y3⟩:=qx<|Nat.min (o.length-q)<|m-n;have r5:kk≤4∧n+kk≤m∧0<kk:=by rw[←y3];simp only[Nat.min_def];split<;>omega
    obtain⟨c8,p1,c9⟩:=r5;have p9:=Qa (show(List.replicate kk<|Value.int .u8 (last.toNat:Int)).length=Nat.min (o.length-q) (m-n)by rw[y3];simp);have q7:=Qa (show ∀W,Qb [] wr W→0<(List.replicate kk<|Value.int .u8 (last.toNat:Int)).length→(some ⟨y.heap.size,n,none⟩:OA)=some ⟨y.heap.size,n,none⟩∧∃ad:Addr,(some ⟨gb,q,none⟩:OA)=some ad∧∀j v,(List.replicate kk<|Value.int .u8 (last.toNat:Int))[j]?=some v→W.cell? (ad.add j)=some v from
     fun W hW _=>⟨rfl,_,rfl,fun j v hj=>by
      rw[V4]at hj
      split at hj
      ·injection hj with hj;subst hj;have:=p5.o j (by omega);rw[show o.length-4+j=q+j by have:=Hq.o;omega]at this;rw[YM];exact hW.cZ this (by simp)
      cases hj⟩)
    have p7:=Qa (by rw[XU,fJ n m last hn];simp;omega:n+(List.replicate kk<|Value.int .u8 (last.toNat:Int)).length≤(Qm<|part n m last).length);have c6:IntKind.i64.wrap ((n:Int)+kk)=(n:Int)+kk:=Q3 _ (by omega);clear y3
    go_region_held3 (fun w'=>True) (exact trivial) ((refine KO rfl _ _ 88 88 rfl 5 Xb Fs (some ⟨y.heap.size,n,none⟩) (some ⟨gb,q,none⟩) (m-n) (m-n) (o.length-q) (c-q) rfl rfl y.heap.size n (Qm<|part n m last) (List.replicate kk<|Value.int .u8 (last.toNat:Int)) (y6.o.kept (Qc [] _).drew<|by simp) p9.o (q7.o _ (Qc [] _).drew) p7.o (by intro v hv;rw[Bl hv];rfl) ?_;intro w1 y9 r4))
    rw[Qdc n m kk last p1]at y9
    go_wp2
    go_roundg (m-(n+kk))
    ·exact⟨n+kk,rfl,p1,by go_num,Qa y9,Qa<|x0.o.drew.trans r4 fun x hx=>.inl hx⟩
    have:=q9.o;omega
   obtain rfl:n=m:=(by omega);have r7:¬(n:Int)<n:=(by omega);have hl:(Qm<|part n n last).length=n:=(by rw[XU,fJ n n last<|Ql _]);have r9:Qp wr 1 y.heap.size n (Qm<|part n n last):=(by have h:=y6.o.sees;rwa[hl]at h);have M1:(Qm o).length+n≤maxLen:=(by rw[XU];simp only[maxLen];omega);have M2:((Qm o).length+n)*1≤140737488355328:=(by rw[XU];omega);have HE:=Qa (by simp[Qm,part]:Qm o++Qm (part n n last)=Qm (o++List.replicate n last));clear hl;go_wp2_with ((at_builtin;refine CI rfl _ _ 88 rfl 5 (.int .u8 0) 1 Xb YQ rfl _ _ (Qm<|part n n last) _ _ _ rfl rfl (kV _) z7 r9 (fun h=>by cases h) M1 M2 ?_;intro a5 x2 w5 h9 y0 x7));have y7:=p8.o.new x0.o (by intro x hx;simp at hx;omega)
   go_roundg (s.size-(i+1))
   ·have he:(Qm o).length+n=(o++List.replicate n last).length:=(by simp[XU]);rw[HE.o]at h9;refine⟨i+1,0,last,o++List.replicate n last,a5,x2,rfl,by omega,by rw[←he],rfl,by go_num,by omega,by rw[←he,XU];omega,Qa ⟨_,by simp;rfl⟩,Qa Y2.o,Qa ?_,Qa<|y7.new y0 HF.o,Qa ?_⟩
    ·rwa[←he]
    rw[←he];exact HF.o.grow x7 y7.size
   have:=Hk.o;omega
  obtain⟨y1,y2⟩:=z2 e4;have Y2:=Qa y2;have d4:((same:Int)==4)=false:=Zb.2 (by omega);have dm:((o.length:Int)==262144)=false:=Zb.2 (by omega);have c7:(x.toNat:Int)<256:=by have:=x.toNat_lt;omega
  have hy:o.length+1≤262144:=by omega
  have z8:=HR.o;have M1:(Qm o).length+1≤maxLen:=by rw[XU];simp only[maxLen];omega
  have M2:((Qm o).length+1)*1≤140737488355328:=by rw[XU];omega
  clear y2 z1 z2 y1 HR;obtain⟨t1,t2⟩:=HT.o.step x h4 e4;have⟨sm,y4⟩:=qx<|(if 0<same∧x=last then same+1 else 1);have Y3:=Qa Y2.o;rw[y4]at t1 t2 Y3;have⟨T1,x1⟩:=qb t1 y4;clear Y2 t1 y4
  by_cases h0:0<same
  case' neg=>have r0:decide ((0:Int)<same)=false:=Xz (by omega);have h2:(sm:Int)=1:=(by rw[←x1.o,Qf fun h=>h0 h.1];rfl);have HV:=Qa h2;clear h2;refine ?cC
  case' pos=>
   have r0:(0:Int)<same:=(by omega);obtain⟨gb,cap,hv,x3,-,h8,-,-⟩:=z8.open (by rw[XU];have:=HT.o.le;omega);injection hv with y5 hv2 hv3;subst y5;subst hv3;have a6:=HT.o.le;obtain⟨q,hq⟩:∃q,o.length=q+1:=⟨o.length-1,by omega⟩;have c0:=h8 q (.int .u8 (last.toNat:Int)) (by have:=HT.o.get (j:=same-1) (by omega);rwa[show o.length-same+(same-1)=q by omega]at this);have b5:(o.length:Int)-1=(q:Int):=(by omega);have b8:IntKind.i64.wrap (q:Int)=(q:Int):=Q3 _ (by omega);obtain⟨q0,q1⟩:(0:Int)≤q∧(q:Int)<o.length:=(by omega);clear hv2 h8 x3 hq
   by_cases h5:x=last
  case' neg=>have b1:((x.toNat:Int)==(last.toNat:Int))=false:=Zb.2 (fun e=>h5<|CZ.1<|by omega);have h2:(sm:Int)=1:=(by rw[←x1.o,Qf fun h=>h5 h.2];rfl);have HV:=Qa h2;clear h5 h2;refine ?cB
  case' pos=>have b1:((x.toNat:Int)==(last.toNat:Int))=true:=(by rw[h5];simp);have h2:(sm:Int)=same+1:=(by rw[←x1.o,Qg ⟨h0,h5⟩];omega);have HV:=Qa h2;clear h5 h2
  all_goals
   go_wp2_with fail;go_quiet (fail);go_wp2_with ((at_builtin;refine UW (y.drewN _) rfl _ _ 88 rfl 5 (.int .u8 0) 1 Xb YQ rfl _ _ [.int .u8 (x.toNat:Int)] 1 rfl rfl rfl rfl (by simp[Value.oneCell']) (z8.drewN _) M1 M2 ?_;intro a5 x2 w5 h9 y0 x7))
   go_roundg (s.size-(i+1))
   ·have he:(Qm o).length+1=(o++[x]).length:=(by simp[XU]);have r1:=(HK.o.drewN _).new y0 HF.o;refine⟨i+1,sm,x,o++[x],a5,x2,rfl,by omega,by rw[←he],by rw[HV.o],by go_num,t2,by simp;omega,T1,Y3,Qa ?_,Qa r1,Qa ?_⟩
    ·rw[←he];simpa[Qm]using h9
    rw[←he];exact HF.o.grow x7 HK.o.size
   have:=Hk.o;omega
 obtain rfl:i=s.size:=by omega
 have r6:¬(s.size:Int)<s.size:=by omega
 have hz:=HZ.o;rw[Mw s s.size<|Ql _,Jk]at hz;have y8:same≠4:=by intro e;rw[Qg e]at hz;cases hz
 rw[Qf y8]at hz;injection hz with hz;have d4:((same:Int)==4)=false:=Zb.2 (by omega);have ht:=HR.o.text;have p6:=Qa hz;clear hz y8 HZ
 go_wp2
 go_ret2;exact⟨by rw[p6.o];rfl,HK.o⟩
def pY(w):(isAgg 214).run prog w=.ok false w:=by kernel_rfl
def qK:(prog.info? 214).map (·.size)=some 1:=by kernel_rfl
def SS:(prog.info? 299).map (·.size)=some 16:=by kernel_rfl
def Vw(l:LU):LV:=(List.range 16).map fun a=>.int .u64 (UR l a:Nat)
def EI(l):(Vw l).length=16:=by simp[Vw]
def KG(l i)(a:i<16):(Vw l)[i]?=some (.int .u64 (UR l i:Nat)):=by simp[Vw,Xa a]
def Qfn:#[Value.int .u64 0,.int .u64 0,.int .u64 0,.int .u64 0,.int .u64 0,.int .u64 0,.int .u64 0,.int .u64 0,.int .u64 0,.int .u64 0,.int .u64 0,.int .u64 0,.int .u64 0,.int .u64 0,.int .u64 0,.int .u64 0]=(Vw []).toArray:=by
 have:∀a,UR [] a=0:=fun a=>(OG [] a).2 (by simp[Jw,K.has])
 simp[Vw,this,List.range,List.range.loop]
def Qfo(l b):(Vw l).set (b.toNat/16) (.int .u64 ((UR l (b.toNat/16)|||2^(15-b.toNat%16):Nat):Int))=Vw (l++[b]):=by
 have hb:=VM b;apply Xo;intro c;rw[YO]
 by_cases hi:c<16
 ·rw[KG _ _ hi,KG _ _ hi,EI]
  by_cases a:b.toNat/16=c
  ·rw[Qg a,Qg<|by omega,←a,Qfm]
  rw[Qf a,Qfl l b c hi fun c=>a c.symm]
 rw[QX (by rw[EI];omega),QX (by rw[EI];omega),Qf<|by omega]
def gZ(l)(i:Nat)(a:i<16)(w):(Instr.index 299 (.agg (Vw l).toArray) i).run prog w=.ok (.int .u64 (UR l i:Nat)) w:=
 iF 299 214 16 (Vw l) .i64 i _ w Tb qK (pY w) (EI l) (KG l i a)
def Qic(x)(a:x<256):bits BinOp.and IntKind.u8 ((x:Nat):Int) 15=((x%16:Nat):Int):=by have:=u8_and_nat x 15 a (by decide);rw[show((15:Nat):Int)=15 from rfl]at this;rw[this,show(15:Nat)=2^4-1 from rfl,Nat.and_two_pow_sub_one_eq_mod]
def kU(N t:Nat)(a:N<18446744073709551616)(b:t≤63):bits BinOp.or IntKind.u64 (N:Int) (IntKind.u64.wrap<|2^t)=((N|||2^t:Nat):Int):=by
 have hp:(2:Nat)^t≤2^63:=Jc (by decide) b;rw[show((2:Int)^t)=((2^t:Nat):Int)by norm_cast];generalize (2:Nat)^t=p at hp;have hw:IntKind.u64.wrap (p:Int)=(p:Int):=by rw[JH];omega
 rw[hw];exact u64_or_nat N p a (by omega)
def pF(s:BA)(w0:WD)(g:Nat)(k:Nat)(c:VL)(w:WD):Prop:=
 ∃a,a≤s.size∧k=s.size-a∧c=.int .i64 (a:Nat)∧Qe w g 299 (Vw (s.data.toList.take a))∧Qb [] w0 w
def pG(l:LU)(w0:WD)(k:Nat)(a c:VL)(w:WD):Prop:=
 ∃b,b≤16∧k=16-b∧c=.int .i64 (b:Nat)∧a=.int .u64 (Rf l b:Nat)∧w0=w
def pH(l:LU)(w0:WD)(b:Nat)(k:Nat)(c:VL)(w:WD):Prop:=
 ∃a d,a≤16∧k=16-a∧c=.int .i64 (a:Nat)∧Wr w b d (Aj l++XN l a)∧Qb [] w0 w∧Qs w0.heap.size (b::Qd d)
def Qgt(s:BA)(w)(hs:s.size≤1000000000):
 Calls prog 165 #[s] w fun e w'=>e=.returned (Zg<|EL s)∧Qb [] w w':=by
 go_enter func165,ntmps165;go_wp2_with fail;have a:(w.alloc<|.cells #[.string ⟨#[]⟩,(0:Int)] 204).heap[w.heap.size]?=some (.cells #[.string ⟨#[]⟩,(0:Int)] 204 (0,0)):=Xf _ _;have b:Qb [] w (w.alloc<|.cells #[.string ⟨#[]⟩,(0:Int)] 204):=(Qc _ _).alloc _;generalize w.alloc (.cells #[.string ⟨#[]⟩,(0:Int)] 204)=W0 at a b ⊢;refine(OR s _<|by omega).mono ?_;rintro e f⟨rfl,c⟩;have⟨E,G,y⟩:=qc a b c;clear a b c;rcases JD (Vc s)with g|g
 ·have p:EL s=(Qv<|ZS s,(((ZS s).length:Nat):Int),0):=by unfold EL;rw[g];rfl
  have C:=Qa p;rw[g];clear p g;go_wp2_with fail;rw[Qfn];have d:=Qy f (Vw []) 299;have b:Qb [] W0 (f.alloc<|.cells (Vw []).toArray 299):=y.o.alloc _;have n:W0.heap.size≤f.heap.size:=y.o.size;generalize f.alloc (.cells (Vw []).toArray 299)=W1 at d b ⊢;have⟨i,a⟩:=qx f.heap.size;rw[a]at d n ⊢;clear a
  go_loopg [18] s.size (fun u o wr=>pF s W0 i u o wr)
  ·exact⟨0,by omega,by omega,rfl,d,b⟩
  obtain⟨a,hi,hk,rfl,d,q⟩:=hrel;have⟨A,j⟩:=qb hk q;clear hk q b
  by_cases hlt:a<s.size
  ·have J:(a:Int)<s.size:=(by omega);have k:=VM<|s[a]'hlt;have⟨c,m⟩:=qx<|(s[a]'hlt).toNat%16;have⟨h,r⟩:=qx<|(s[a]'hlt).toNat/16;have⟨b,t⟩:=qx<|15-c;have:bits BinOp.and IntKind.u8 (((s[a]'hlt).toNat:Nat):Int) 15=(c:Int):=(by rw[Qic _ k,m]);have:(((s[a]'hlt).toNat:Nat):Int)/16=(h:Int):=(by omega);obtain⟨P,k⟩:(15-(c:Int))%256=(b:Int)∧h<16:=(by omega);have:(h:Int)<16:=(by omega);have L:b≤15:=(by omega);have⟨N,c⟩:=qx<|UR (s.data.toList.take a) h;have c0:=d.cell<|KG _ h k;rw[c]at c0;have I:=d.free h;have:N<65536:=(by rw[←c];exact gY _ _);have B:(2:Nat)^b≤2^15:=Jc (by decide) L;have l:bits BinOp.or IntKind.u64 (N:Int) (IntKind.u64.wrap<|2^b)=((N|||2^b:Nat):Int):=kU N b (by omega) (by omega);have k:=d.set h<|.int .u64 ((N|||2^b:Nat):Int);have h:=Qfo (s.data.toList.take a)<|s[a]'hlt;rw[←Iw s a hlt,r,c,m,t]at h;rw[h]at k;have⟨x,z⟩:=qb k l;clear m r t h d k c B l;go_wp2_with fail
   go_region
   go_wp2
   go_roundg (s.size-(a+1))
   ·refine⟨a+1,by omega,rfl,by go_num,?_,?_⟩
    ·have:=x.o;rw[←z.o]at this;exact this
    exact(j.o.setCell (.inr n) _).drew
   have:=A.o;omega
  obtain rfl:a=s.size:=by omega
  rw[Q8 (by rw[Zo];exact Ql _)]at d;have m:=Qa d;clear d;go_wp2_with fail;refine(Dq _).mono ?_;rintro e r⟨h,rfl,n,k,d⟩;have⟨x,O,F,D,M⟩:=qe (m.o.kept k<|by simp) n (j.o.new k<|by simp[Qs]) (d.mono j.o.size) (show i∉h::Qd (.slice none 0 0)from fun g=>by have:=m.o.lt;have:=d i g;omega);clear n k d;go_wp2_with (refine Pq rfl 299 _ rfl i rfl _ _ _ _ x.o Tb rfl (by rw[SS];simp[EI]) ?_)
  go_loopg [7,38] 16 (fun u d o wr=>pG s r u d o wr)
  ·exact⟨0,by omega,by omega,rfl,by rw[yT];rfl,rfl⟩
  obtain⟨a,hi,hk,rfl,rfl,rfl⟩:=hrel;have H:=Qa hk;have k:a<16→∀j,(Instr.index 299 (.agg (Vw s).toArray) a).run prog j=.ok (.int .u64 (UR s a:Nat)) j:=fun d j=>gZ _ a d j
  have m:=Qa k;clear hk k
  by_cases z:a<16
  ·have k:=m.o z;have⟨N,c⟩:=qx<|UR s a;rw[c]at k;have A:=bG s a;have hz:=OG s a;rw[c]at hz;have n:=Qa hz;have P:IntKind.i64.wrap (15-(a:Int))=15-(a:Int):=Q3 _ (by omega);have J:(a:Int)<16:=(by omega);clear c hz;rcases V9 N with h0|h0
   ·have r:=yR s a<|n.o.1 h0;subst h0;have B:=Qa r;clear r A
    go_wp2
    go_roundg (16-(a+1))
    ·exact⟨a+1,by omega,rfl,by go_num,by rw[B.o],rfl⟩
    have:=H.o;omega
   have m:=yS s a z (by
    rcases JD (Jw s a)with d|d
    ·exact d
    have:=n.o.2 d;omega)
   have hne:((N:Int) != 0)=true:=VO.2 (by omega);have z:IntKind.u64.wrap (15-(a:Int))=((15-a:Nat):Int):=(by rw[JH];omega);have⟨b,t⟩:=qx<|15-a;rw[t]at z m;have L:b≤15:=(by omega);have l:=kU (Rf s a) b (by omega) (by omega);rw[←m]at l;have z:=Qa l;clear m t l;generalize Rf s a=b at A z
   go_wp2
   go_roundg (16-(a+1))
   ·exact⟨a+1,by omega,rfl,by go_num,by rw[←z.o],rfl⟩
   have:=H.o;omega
  obtain rfl:a=16:=by omega
  have A:=bG s 16;have t:=Qa<|yQ s;have⟨b,l⟩:=qx<|Rf s 16;rw[l]at A t ⊢;clear l;go_wp2_with fail;refine(Rk h b 16 _ _ _ (by decide) (by decide) (by omega) (by simp;omega) (by simp) O.o).mono ?_;rintro e H⟨rfl,L,b,l,A⟩;have b:Wr H h L (Aj s):=by have:=b;rw[Zs,show(16:Int).toNat=16 from rfl,t.o]at this;exact this
  have H:=F.o.new l D.o;have t:=D.o.grow A F.o.size;have⟨D,M,F,x⟩:=qd (x.o.kept l M.o) b H t;clear b l A H t;go_wp2_with (refine Pq rfl 299 _ rfl i rfl _ _ _ _ D.o Tb rfl (by rw[SS];simp[EI]) ?_)
  go_loopg [55] 16 (fun u o wr=>pH s W0 h u o wr)
  ·exact⟨0,L,by omega,by omega,rfl,by simpa[Qfp]using M.o,F.o,x.o⟩
  obtain⟨a,x,hi,hk,rfl,i,q,u⟩:=hrel;have⟨t,o,b,l⟩:=qd hk i q u;clear hk i q u
  by_cases q:a<16
  ·have k:=fun j=>gZ s a q j
   have⟨N,c⟩:=qx<|UR s a;rw[c]at k;have k:=gY s a;have j:=Qfk s a;have hz:=OG s a;rw[c]at hz j k;have⟨n,q⟩:=qb hz j;have J:(a:Int)<16:=(by omega);have A:=iA s a;have u:=FQ s;have k:=Qa (show(Aj s++XN s a).length≤1000000000000 by rw[Qo];omega);clear c hz j A u;rcases V9 N with h0|h0
   ·have r:=Gj s a<|n.o.1 h0;subst h0;have B:=Qa r;clear r
    go_wp2
    go_roundg (16-(a+1))
    ·exact⟨a+1,x,by omega,rfl,by go_num,by rw[B.o];exact o.o,b.o,l.o⟩
    have:=t.o;omega
   have m:=Gk s a (by
    rcases JD (Jw s a)with d|d
    ·exact d
    have:=n.o.2 d;omega)
   have hne:((N:Int) != 0)=true:=VO.2 (by omega);have z:=Qa m;clear m;go_wp2_with fail;refine(Rk h N 16 _ _ _ (by decide) (by decide) (by omega) (by simp;omega) k.o o.o).mono ?_;rintro e m⟨rfl,k,c,j,d⟩;have c:Wr m h k (Aj s++XN s (a+1)):=(by have:=c;rw[Zs,show(16:Int).toNat=16 from rfl,q.o,QQ,←z.o]at this;exact this);have n:=b.o.new j l.o;have m:=l.o.grow d b.o.size;clear j d
   go_wp2
   go_roundg (16-(a+1))
   ·exact⟨a+1,k,by omega,rfl,by go_num,c,n,m⟩
   have:=t.o;omega
  obtain rfl:a=16:=by omega
  have i:Wr wr h x (ZS s):=o.o;have hh:=b.o.heap E.o (by simp);have a:wr.cell? w=_:=Zu wr w.heap.size 0 _ _ _ hh;have c:wr.cell? ⟨w.heap.size,1,none⟩=_:=Zu wr w.heap.size 1 _ _ _ hh;have I:=Ur wr w.heap.size 0 _ _ hh;have h:=Ur wr w.heap.size 1 _ _ hh;simp at a c;have d:=Qa (G.o.new b.o<|by simp[Qs]);clear hh;go_wp2_with fail;refine(Dx _ _ _ _ i).mono ?_;rintro e w'⟨rfl,rfl⟩;go_wp2_with fail;refine(Dj _ _ _ _ i).mono ?_;rintro e w'⟨rfl,rfl⟩;go_wp2_with fail;rw[C.o];refine Q5 (v:=Zg (Qv<|ZS s,(((ZS s).length:Nat):Int),0)) (by simp[results,results165,go_sem,a,c,Zg]) rfl ⟨rfl,?_⟩;exact(d.o.setCell (.inr<|Ql _) _).setCell (.inr<|Ql _) _
 have p:EL s=([],0,2):=by unfold EL;rw[g];rfl
 have C:=Qa p;rw[g];clear p g;have hh:=y.o.heap E.o (by simp);have a:f.cell? w=_:=Zu f w.heap.size 0 _ _ _ hh;have c:f.cell? ⟨w.heap.size,1,none⟩=_:=Zu f w.heap.size 1 _ _ _ hh;have I:=Ur f w.heap.size 0 _ _ hh;have h:=Ur f w.heap.size 1 _ _ hh;simp at a c;have d:=Qa (G.o.new y.o<|by simp[Qs]);clear hh;go_wp2_with fail;rw[C.o];refine Q5 (v:=Zg ([],0,2)) (by simp[results,results165,go_sem,a,c,Zg]) rfl ⟨rfl,?_⟩;exact(d.o.setCell (.inr<|Ql _) _).setCell (.inr<|Ql _) _
namespace K
def Qdp(A a b i n)(c:i+n≤a.length):QW (A++(a++b)) (A.length+i) n=QW a i n:=by rw[fR A (a++b) i n (by rw[Qo];omega)];unfold QW;rw[List.drop_append_of_le_length<|by omega,Sc (by rw[Y0];omega)]
def xR(A a b:LB)(i)(c:i<a.length):(A++(a++b)).getD (A.length+i) false=a.getD i false:=by rw[List.getD,List.getD,Zx<|by omega,LG,Xp c]
def EO(A a v n)(c:v<2^n)(b:n≤64):QJ (A++(low v n++a)) A.length (n:Nat)=(v,0):=by have b:=X0 v n;have:=EE A (low v n) a;rw[b,QQ]at this;unfold QJ;rw[Qf<|by omega,Qf (by simp only[Qo,b,Zs];omega),Zs,this,Kp,XP c]
def Qhw(A a l)(h0:l≠[])(e:QL l=l):As (A++(ZS l++a)) (A.length:Nat)=(l,((A.length+(ZS l).length:Nat):Int),0):=by
 have f:(ZS l).length=16+(XN l 16).length:=by unfold ZS;rw[Qo,FQ]
 unfold As;rw[Qf (by simp only[Qo];omega),Zs,Qf (by simp only[Qo];omega)];have d:Uz (A++(ZS l++a)) (fun b=>(A++(ZS l++a)).getD (A.length+b) false) 16 0 (A.length+16) []=
  Uz (A++(ZS l++a)) (Jw l) 16 0 (A.length+16) []:=by
  refine Qhu _ _ _ 16 0 _ _ fun b _ c=>?_
  show(A++(ZS l++a)).getD (A.length+b) false=Jw l b;rw[xR _ _ _ _<|by omega];unfold ZS;rw[List.getD,Xp (by rw[FQ];omega)];simp[Aj,Xa (by omega:b<16)]
 rw[d];have d:=Qhv (A++(ZS l++a)) l (A.length+16) (fun b a c=>by rw[Ja,Qdp _ _ _ _ _<|by omega];have:=fR (Aj l) (XN l 16) b a c;rw[FQ]at this;exact this) (by simp only[Qo];omega) 16 0 rfl;rw[show(XN l 0).length=0 from rfl,Jb,show JB l (16*0)=[]from rfl]at d;rw[d,KI,e,Qf h0,f]
 congr 2
 omega
def Qaa(a:List LB):BE (a.map fun b=>(Qv b,((b.length:Nat):Int)))=(Qv a.flatten,((a.flatten.length:Nat):Int),0):=by
 have c:Yo (a.map fun b=>(Qv b,((b.length:Nat):Int)))=a.flatten:=by
  induction a with
  |nil=>rfl
  |cons b r ih=>rw[QR,DJ,←ih];simp[Yo,NX]
 unfold BE;rw[c,Qg];rw[XO];intro a hp;obtain⟨b,-,rfl⟩:=QB.1 hp;exact NM b
end K
namespace K
def Js(sum row:Nat):LB:=low 54156738319193 48++(low sum 32++(low 0 1++low row 24))
def Cn(sum row):(Js sum row).length=105:=by unfold Js;simp[X0]
def UI(sum row:Nat)(used:LU)(T:List LI)(P:LI)(a:LB):LB:=Js sum row++(ZS used++(Zr T P++a))
structure BlkAt(S:LB)(p sum row:Nat)(used:LU)(T:List LI)(P z:LI)(q1 q2 q3:Nat):Prop where
 h_magic:QJ S p 48=(54156738319193,0)
 h_sum:QJ S (p+48) 32=(sum,0)
 h_zero:QJ S (p+80) 1=(0,0)
 h_row:QJ S (p+81) 24=(row,0)
 h_used:As S ((p+105:Nat):Int)=(used,(q1:Int),0)
 h_plan:Uy S (q1:Nat) ((used.length+2:Nat):Int)=(T,QD P,q2,0)
 h_list:RD T P S (q2:Nat)=(QD z,q3,0)
 h_to:p+105≤q1∧q1≤q2∧q2≤q3∧q3≤S.length
def sD(A b sum row used T P pre a)(hs:sum<4294967296)(n:row<16777216)(h0:used≠[])(o:QL used=used)(e:Xm T P=true)(f:(T.getD 0 []).length=used.length+2)(m:∀s∈pre,0≤s∧s<(used.length:Int)+1)(j:XT T P ((used.length:Int)+2) 0 (pre++[(used.length:Int)+1])=some a)(k:ZH (pre.length+1)≤P.length):
 BlkAt (A++(UI sum row used T P a++b)) A.length sum row used T P (pre++[(used.length:Int)+1]) (A.length+105+(ZS used).length) (A.length+105+(ZS used).length+(Zr T P).length) (A.length+(UI sum row used T P a).length):=by
 have c:UI sum row used T P a=low 54156738319193 48++(low sum 32++(low 0 1++(low row 24++(ZS used++(Zr T P++a))))):=by unfold UI Js;simp only[QQ]
 have l:(UI sum row used T P a).length=105+((ZS used).length+((Zr T P).length+a.length)):=by unfold UI;simp only[Qo,Cn]
 have g:(A++low 54156738319193 48).length=A.length+48:=by rw[Qo,X0]
 have h:(A++(low 54156738319193 48++low sum 32)).length=A.length+80:=by simp only[Qo,X0]
 have i:(A++(low 54156738319193 48++(low sum 32++low 0 1))).length=A.length+81:=by simp only[Qo,X0]
 have d:(A++Js sum row).length=A.length+105:=by rw[Qo,Cn]
 have k1:(A++Js sum row++ZS used).length=A.length+105+(ZS used).length:=by rw[Qo,d]
 have k2:(A++Js sum row++ZS used++Zr T P).length=A.length+105+(ZS used).length+(Zr T P).length:=by rw[Qo,k1]
 refine⟨?_,?_,?_,?_,?_,?_,?_,⟨by omega,by omega,by omega,by rw[Qo,Qo];omega⟩⟩
 ·rw[c];simp only[QQ];exact EO A _ 54156738319193 48 (by decide) (by decide)
 ·have:=EO (A++low 54156738319193 48) (low 0 1++(low row 24++(ZS used++(Zr T P++(a++b))))) sum 32 hs (by decide);rw[g]at this;rw[c];simp only[QQ]at this ⊢;exact this
 ·have:=EO (A++(low 54156738319193 48++low sum 32)) (low row 24++(ZS used++(Zr T P++(a++b)))) 0 1 (by decide) (by decide);rw[h]at this;rw[c];simp only[QQ]at this ⊢;exact this
 ·have:=EO (A++(low 54156738319193 48++(low sum 32++low 0 1))) (ZS used++(Zr T P++(a++b))) row 24 n (by decide);rw[i]at this;rw[c];simp only[QQ]at this ⊢;exact this
 ·have:=Qhw (A++Js sum row) (Zr T P++(a++b)) used h0 o;rw[d]at this;unfold UI;simp only[QQ]at this ⊢;exact this
 ·have:=Qhq T P (A++Js sum row++ZS used) (a++b) (used.length+2) e f.symm;rw[k1]at this;unfold UI;simp only[QQ]at this ⊢;exact this
 have:=xS T P pre (A++Js sum row++ZS used++Zr T P) a b (used.length+2) e f.symm (fun s hs=>by have:=m s hs;omega)
  (by rwa[show(((used.length+2:Nat):Int))=(used.length:Int)+2 by omega,show(used.length:Int)+2-1=(used.length:Int)+1 by omega]) k
 rw[k2,show(((used.length+2:Nat):Int))-1=(used.length:Int)+1 by omega]at this;rw[l,show A.length+(105+((ZS used).length+((Zr T P).length+a.length)))=A.length+105+(ZS used).length+(Zr T P).length+a.length by omega];unfold UI;simp only[QQ]at this ⊢;exact this
end K
def fE(n f):∃L,K.Ordered n f n L:=by
 have c:∀a b,(decide (K.N f n a≤K.N f n b)&&(decide (K.N f n a<K.N f n b)||decide (a≤b)))=true↔¬Vg f n b a:=by intro a b;simp only[Xh,ET,Zv];unfold Vg;omega
 have hp:=Lv (List.range n) fun a b=>decide (K.N f n a≤K.N f n b)&&(decide (K.N f n a<K.N f n b)||decide (a≤b));have hs:=Lw (le:=fun a b=>decide (K.N f n a≤K.N f n b)&&(decide (K.N f n a<K.N f n b)||decide (a≤b))) (fun a b d d e=>by
  rw[c]at d e ⊢;unfold Vg at*
  omega) (fun a b=>by
  rw[ET,c,c];unfold Vg;omega) (List.range n)
 refine⟨_,hp,?_⟩;have g:=hp.nodup_iff.2 CO;refine(hs.and g).imp fun {a b} h=>?_
 obtain⟨d,e⟩:=h;rw[c]at d;unfold Vg at*
 omega
noncomputable def EB(t:LU):LN:=Classical.choose (fE t.length (K.fS t))
def Ds(t):K.Ordered t.length (K.fS t) t.length (EB t):=Classical.choose_spec<|fE t.length<|K.fS t
noncomputable def UJ(t:LU):LU:=X5 (ZR t.length (K.fS t) (EB t))
noncomputable def Xg(t:LU):Nat:=(EB t).idxOf 0
noncomputable def JW(t:LU):LN:=(Af (UJ t) (QL t)).1
noncomputable def ZZ(t:LU):LN:=K.zE (QL t).length 0 (JW t)
noncomputable def QG(t:LU):List LI × LI × Nat:=UH (QY (ZZ t)) (((QL t).length:Int)+2)
noncomputable def J8(t:LU):LB:=(Jd (QG t).1 (QG t).2.1 (QY (ZZ t))).1
noncomputable def XE(s:LU):LB:=UI (XQ s).toNat (Xg (Zw s)) (QL (Zw s)) (QG (Zw s)).1 (QG (Zw s)).2.1 (J8 (Zw s))
def xB(s):∀(l:LU)(o:LN),K.front l s=some o→∀x∈o,x<l.length:=by
 induction s with
 |nil=>intro l o h;rw[K.front]at h;injection h with h;subst h;simp
 |cons b s ih=>
  intro l o h;rw[K.front]at h
  split at h
  ·cases h
  rename_i y;have hlt:l.idxOf b<l.length:=by have:=List.idxOf_le_length (a:=b) (l:=l);omega
  cases hf:K.front (K.turned l<|l.idxOf b) s with
  |none=>rw[hf]at h;cases h
  |some qs=>
   rw[hf]at h;injection h with h;subst h;intro x q;rcases QE.1 q with rfl|q
   ·exact hlt
   have:=ih _ qs hf x q;rwa[K.turned,Q0,List.length_eraseIdx_of_lt hlt,Nat.sub_add_cancel<|by omega]at this
def MI(t):(UJ t).length=t.length:=by unfold UJ X5 ZR;rw[QH,QH,(Ds t).len]
def vR(t)(a:0<t.length)(i):UInt8.ofNat (K.fS t i)∈t:=by unfold K.fS;rw[Ir,List.getD,Qj<|JL _ a];exact XV _
def uK(t)(a:0<t.length):∀b∈UJ t,b∈t:=by intro b hb;unfold UJ X5 ZR at hb;rw[XI]at hb;obtain⟨c,-,rfl⟩:=QB.1 hb;exact vR t a _
structure mA(t:LU):Prop where
 may:Vc (QL t)=true
 used:1≤(QL t).length∧(QL t).length≤256
 front:Af (UJ t) (QL t)=(JW t,0)
 back:AH (QY (JW t)) (QL t)=(UJ t,0)
 plen:(JW t).length=t.length
 plt:∀x∈JW t,x<(QL t).length
 list:X2 (QY (ZZ t)) (((QL t).length:Int)+2)=true
 slen:(ZZ t).length≤t.length+1
 fit:RT (QG t).1 (QG t).2.1 (QY (ZZ t)) (((QL t).length:Int)+2)
 ok:(QG t).2.2=0
 cod:Jd (QG t).1 (QG t).2.1 (QY (ZZ t))=(J8 t,0)
 told:∀(A Z:LB)(sum:Nat),sum<4294967296→∃q1 q2 q3,q3=A.length+(UI sum (Xg t) (QL t) (QG t).1 (QG t).2.1 (J8 t)).length∧
  K.BlkAt (A++(UI sum (Xg t) (QL t) (QG t).1 (QG t).2.1 (J8 t)++Z)) A.length sum (Xg t) (QL t) (QG t).1 (QG t).2.1 (QY (ZZ t)) q1 q2 q3
def VN(t)(h0:0<t.length)(a:t.length≤262144):mA t:=by
 have b:∀a,a∈QL t↔a∈t:=fun a=>Gb t a
 have v:=lE t;have i:Vc (QL t)=true:=Qbj t<|DQ h0;have k:1≤(QL t).length:=PU<|(b _).2 (XV h0);have w:(QL t).length≤256:=lB t 256;obtain⟨e,d⟩:=xD (UJ t) (QL t) fun a hb=>(b a).2 (uK t h0 a hb)
 have o:Af (UJ t) (QL t)=(e,0):=by unfold Af;rw[Qg i,d]
 have b:JW t=e:=by unfold JW;rw[o]
 have u:e.length=t.length:=by rw[xA _ _ _ d,MI]
 have hlt:=xB _ _ _ d;obtain⟨c,a,p,f⟩:=KZ (QL t).length k e 0 hlt;have e:ZZ t=c++[(QL t).length+1]:=by unfold ZZ;rw[b,a]
 have j:(ZZ t).length≤t.length+1:=by rw[e,Qo];simp;omega
 have h:X2 (QY<|ZZ t) (((QL t).length:Int)+2)=true:=by
  unfold X2;rw[XF];simp only[Xh,Zv,XO];refine⟨⟨by omega,by rw[e,Qo]at j ⊢;simp at j ⊢;omega⟩,?_⟩;intro g hs;unfold QY at hs;obtain⟨l,f,rfl⟩:=QB.1 hs;rw[e]at f;rcases Q6.1 f with a|a
  ·have:=p l a;omega
  simp at a;omega
 obtain⟨hf,s,-⟩:=rS _ _ h;have n:∀g∈QY (ZZ t),0≤g∧g<((QL t).length:Int)+2:=by have a:=h;unfold X2 at a;simp only[Xh,Zv,XO]at a;exact a.2
 obtain⟨q,r,m⟩:=hf.codes n;have n:J8 t=q:=by unfold J8 QG;rw[m]
 refine⟨i,⟨k,w⟩,by rwa[b],?_,by rwa[b],by rw[b];exact hlt,h,j,hf,s,by rwa[n],?_⟩
 ·unfold AH;rw[Qg i,b];unfold QY;rw[rN _ _ _ d]
 intro d h sum hs;have b:QY (ZZ t)=QY c++[((QL t).length:Int)+1]:=by rw[e];unfold QY;rw[Xi];rfl
 have m:Xg t<16777216:=by have:=(Kd (Ds t) 0 h0).1;unfold Xg;omega
 have e:XT (QG t).1 (QG t).2.1 (((QL t).length:Int)+2) 0 (QY c++[((QL t).length:Int)+1])=some (J8 t):=by rwa[←b,n]
 have i:((QG t).1.getD 0 []).length=(QL t).length+2:=by have a:(((QG t).1.getD 0 []).length:Int)=((QL t).length:Int)+2:=hf.head;omega
 have j:ZH ((QY c).length+1)≤(QG t).2.1.length:=by have a:ZH (QY<|ZZ t).length≤(QG t).2.1.length:=hf.many;rw[b,Qo]at a;simpa using a
 have:=sD d h sum (Xg t) (QL t) (QG t).1 (QG t).2.1 (QY c) (J8 t) hs m (DQ k) v hf.may i (fun g a=>by unfold QY at a;obtain⟨l,f,rfl⟩:=QB.1 a;have:=p l f;omega) e j;rw[←b]at this;exact⟨_,_,_,rfl,this⟩
def rZ(t)(h0:0<t.length)(c:t.length≤262144):Fz ⟨(UJ t).toArray⟩ (Xg t:Nat)=(t,0):=by have b:=Kd (Ds t) 0 h0;have d:Xg t<t.length:=b.1;have a:=rP ⟨t.toArray⟩ (EB t) (by simpa[ByteArray.size]using h0) (by simpa[ByteArray.size]using c) (by simpa[ByteArray.size]using Ds t) (Xg t) (by simpa[ByteArray.size]using d);have c:(EB t).getD (Xg t) 0=0:=b.2;rw[c]at a;simpa[ByteArray.size,UJ]using a
def sE(t)(h0:0<t.length)(b:t.length≤262144)(a)(c:t.length≤a):K.zD (QL t).length a 0 1 [] (ZZ t)=some (JW t):=by have hb:=VN t h0 b;have:=Pw (QL t).length a hb.used.1 (JW t) 0 [] hb.plt (by rw[hb.plen];simp;exact c);unfold ZZ;simpa using this
def Qe4(s)(a:s.length≤262144):Jk 0 0 [] (Zw s)=some s:=by have:=Qe5 s.length s 0 0 [] (Ql _) (by omega) (.inl rfl) (by simpa using a);simpa using this
def xI(t w)(h0:0<t.length)(a:t.length≤262144):Calls prog 160 #[str t] w (PJ (UJ t) (Xg t) 0 w):=by refine(wW (str t) w h0 a<|Qgo _ (by rw[BP];omega)).mono ?_;rintro a a⟨a,c,d⟩;have b:a=EB t:=c.one<|Ds t;subst b;exact d
def wY(t w)(h0:0<t.length)(a:t.length≤262144):Calls prog 162 #[.string ⟨(UJ t).toArray⟩,str<|QL t] w (YI (JW t,0) w):=by have hb:=VN t h0 a;have a:=Qf4 (str<|UJ t) (str<|QL t) w (by rw[BP,MI];omega) (by rw[BP];have:=hb.used;omega);rwa[Jz,Jz,hb.front]at a
def oS(W:WD)(b:Nat)(bs:LB)(e:Ending)(w':WD):Prop:=e=.returned (0:Int)∧∃a,Wr w' b a bs∧Qb [] W w'∧Qs W.heap.size (b::Qd a)
def EF{W w b a bs}(hk:Qb [] W w)(hf:Qs W.heap.size (b::Qd a))(c:Wr w b a bs)(v)(x n:Nat)(d:v=(x:Int))(e:n≤64)(e:x<2^n)(f:bs.length≤1000000):
 Calls prog 119 #[.pointer b,.int .u64 v,(n:Int)] w (oS W b<|bs++K.low x n):=by
 subst d;refine(Rk b (x:Int) (n:Int) a bs w (by omega) (by omega) (by omega) (by simpa using e) (by omega) c).mono ?_;rintro a a⟨e,f,a,c,d⟩;exact⟨e,f,by simpa using a,hk.new c hf,hf.grow d hk.size⟩
def Qjg(t a c w)(h0:0<t.length)(d:t.length≤262144)(b:Qp w 1 a (JW t).length (Qi<|JW t)):
 Calls prog 163 #[((QL t).length:Int),.slice a (JW t).length c] w (Ru (ZZ t) 0 w):=by
 have hb:=VN t h0 d;exact Qjf _ a c _ w hb.used b hb.plt (by rw[hb.plen];omega)
def rR(t a c w)(h0:0<t.length)(b:t.length≤11000)(d:Qp w 1 a (ZZ t).length (Qi<|ZZ t))(e:(ZZ t).length≤c)(f:c≤maxLen):
 Calls prog 164 #[.slice a (ZZ t).length c,.int .i64<|((QL t).length:Int)+2] w (Cb (QG t).1 (QG t).2.1 0 w):=by
 have hb:=VN t h0 (by omega);have b:=xL a c (QY<|ZZ t) (((QL t).length:Int)+2) w (by rwa[XF,AI]) (by rwa[XF]) f (by rw[XF];have:=hb.slen;omega);rw[XF]at b;have:=hb.ok;unfold QG at this;rwa[this]at b
def Qhn(t w)(h0:0<t.length)(a:t.length≤262144):Calls prog 165 #[str<|QL t] w fun e w'=>e=.returned (Zg (Qv<|ZS<|QL t,((ZS<|QL t).length:Nat),0))∧Qb [] w w':=by have hb:=VN t h0 a;have a:=Qgt (str<|QL t) w (by rw[BP];have:=hb.used;omega);rw[Jz]at a;unfold EL at a;rwa[Qg hb.may]at a
def Qd4(t c b f d w)(h0:0<t.length)(g:t.length≤262144)(a:Xv w c b f d (QG t).1 (QG t).2.1):
 Calls prog 166 #[QZ c (QG t).1.length f b (QG t).2.1.length d] w fun e w'=>e=.returned (Zg (Qv<|Zr (QG t).1 (QG t).2.1,((Zr (QG t).1 (QG t).2.1).length:Nat),0))∧Qb [] w w':=by
 have hb:=VN t h0 g;have a:=yG c b f d _ _ w a;unfold Bc at a;rwa[Qg hb.fit.may]at a
def Qd3(t f d a h g c w)(h0:0<t.length)(b:t.length≤262144)(i:Xv w f d h g (QG t).1 (QG t).2.1)(hs:Qp w 1 a (ZZ t).length (Qi<|ZZ t)):
 Calls prog 167 #[QZ f (QG t).1.length h d (QG t).2.1.length g,.slice a (ZZ t).length c] w fun e w'=>e=.returned (Zg (Qv<|J8 t,((J8 t).length:Nat),0))∧Qb [] w w':=by
 have hb:=VN t h0 b;have b:=aX f d a h g c _ _ (QY<|ZZ t) w i (by rwa[XF,AI]) (by rw[XF];have:=hb.slen;omega);rw[XF]at b;unfold VW at b;rwa[hb.cod]at b
def YW(a:List LB):List (BA × Int):=a.map fun a=>(str (Qv a),((a.length:Nat):Int))
def cA(d a c w)(h:Qp w 2 a d.length (Yl<|YW d))(i:Jl (Yq<|YW d)≤1000000)(f:d.length≤1000000)(hb:∀b∈d,b.length≤100000000):
 Calls prog 121 #[.slice a d.length c] w fun e w'=>e=.returned (Zg (Qv d.flatten,((d.flatten.length:Nat):Int),0))∧Qb [] w w':=by
 have g:(YW d).length=d.length:=by simp[YW]
 have f:=bY a c (YW d) w (by rwa[g]) i (by omega) (by intro h hp;unfold YW at hp;obtain⟨b,h,rfl⟩:=QB.1 hp;have:=hb b h;show((b.length:Nat):Int)≤_;omega);rw[g]at f;have e:Yq (YW d)=d.map fun b=>(Qv b,((b.length:Nat):Int)):=by unfold Yq YW;rw[XI];rfl
 rwa[e,Qaa]at f
def MG(t)(h0:0<t.length)(a:t.length≤262144):(J8 t).length≤20*(t.length+1):=by have hb:=VN t h0 a;have a:=(Wq (QG t).1 (QG t).2.1 (QY<|ZZ t)).1;rw[hb.cod,XF]at a;have:=hb.slen;have a:(J8 t).length≤20*(ZZ t).length:=a;omega
def Qbs(s:BA)(w)(h0:0<s.size)(hs:s.size≤8192):Calls prog 116 #[s] w fun e w'=>e=.returned (Zg (Qv<|XE s,((XE s).length:Nat),0))∧Qb [] w w':=by
 have f:=Dw s;rw[Zo]at f;have c:0<(Zw s).length:=EH _ (DQ<|by rwa[Zo]);have⟨a,b⟩:=qx<|Zw s;have⟨g,h4⟩:=qb (fun d=>show Calls prog 159 #[s] d fun e w'=>e=.returned (.string<|str a)∧Qb [] d w' by rw[←b];exact Qe3 s d<|by omega) (by unfold XE;rw[b]:XE s=UI (XQ s).toNat (Xg a) (QL a) (QG a).1 (QG a).2.1 (J8 a));rw[b]at f c;have hb:=VN a c (by omega);obtain⟨d,d⟩:=hb.used;have:(str<|QL a).size=(QL a).length:=rfl;have hne:=CD s h0;have:(str a).size=a.length:=rfl;have:¬(262144:Int)<a.length:=by omega
 have h9:=Qa hb;clear b hb;go_enter func116,ntmps116;go_wp2_with fail;have d:=Qa<|Qy w [.string ⟨#[]⟩,(0:Int)] 204;have j:Qb [] w (w.alloc<|.cells #[.string ⟨#[]⟩,(0:Int)] 204):=(Qc _ _).alloc _;have h3:w.heap.size<(w.alloc<|.cells #[.string ⟨#[]⟩,(0:Int)] 204).heap.size:=by simp
 refine(g.o _).mono ?_;rintro e b⟨rfl,b⟩;have⟨h,f⟩:=qb (j.trans b<|by simp) (d.o.kept b<|by simp);clear j b d g;go_wp2_with fail;refine(xI a _ c<|by omega).mono ?_;rintro e b⟨rfl,b⟩;have⟨g,d⟩:=qb (h.o.trans b<|by simp) (f.o.kept b<|by simp);clear b h f;go_wp2_with fail;refine(Qgh (str a) _ (by rw[BP];omega)).mono ?_;rintro e b⟨rfl,b⟩;have⟨h,f⟩:=qb (g.o.trans b<|by simp) (d.o.kept b<|by simp);have j:(⟨(QL (str a).data.toList).toArray⟩:BA)=str (QL a):=rfl;clear b g d;rw[j];go_wp2_with fail;refine(wY a _ c<|by omega).mono ?_;rintro e m⟨a4,k,rfl,d,b,-⟩;have⟨j,g,l⟩:=qc (h.o.trans b<|by simp) (f.o.kept b<|by simp)<|show Qp m 1 a4 (JW a).length (Qi<|JW a)from d.sZ;clear b h f d;go_wp2_with fail;refine(Qjg a a4 k _ c (by omega) l.o).mono ?_;rintro e m⟨a5,h2,rfl,f,b,-⟩;have⟨k,h,d⟩:=qc (j.o.trans b<|by simp) (g.o.kept b<|by simp)<|show Qp m 1 a5 (ZZ a).length (Qi<|ZZ a)from f.sZ;obtain⟨-,m,o⟩:=f.ao;clear b j g f l;go_wp2_with fail
 with_reducible refine(rR a a5 h2 _ c (by omega) d.o m o).mono ?_
 rintro e r⟨o,q,m,p,rfl,j,b,-,-⟩;have⟨g,f,z,t⟩:=qd (k.o.trans b<|by simp) (h.o.kept b<|by simp) (d.o.kZ b) j;clear b k h d j;unfold QZ;go_wp2_with fail;have b:Qb [] r (r.alloc<|.cells #[.slice o (QG a).1.length q,.slice m (QG a).2.1.length p] 255):=(Qc _ _).alloc _;have⟨l,x,j,C,y⟩:=qe (Qy r [.slice o (QG a).1.length q,.slice m (QG a).2.1.length p] 255) (g.o.trans b<|by simp) (f.o.kept b<|by simp) (z.o.kZ b)<|t.o.kept b;clear b g f z t;refine(Dq _).mono ?_;rintro e b⟨A,rfl,t,h,f⟩;have:=Qa<|Ef s;obtain⟨b,g⟩:∃b:Nat,XQ s=(b:Int)∧b<2^32:=by have d:Zf (XQ s):=Zf.bits _ _ _;exact⟨(XQ s).toNat,(Rs d.1).symm,by have:=d.2;omega⟩
 obtain⟨d,E⟩:=g;have D:Xg a<2^24:=by have:=(Kd (Ds a) 0 c).1;unfold Xg;omega
 have h1:=Qa d;clear d;go_wp2_with fail;refine(EF h f t _ 54156738319193 48 (by rfl) (by decide) (by decide)<|by simp).mono ?_;rintro e d⟨rfl,d,z,k,g⟩;clear t h f;go_wp2_with fail;refine(Ef s _<|by omega).mono ?_;rintro e d⟨rfl,d⟩;have B:=z.kept d<|ZM _;have d:=k.trans d (by simp);obtain⟨_,_⟩:(b:Int)<4294967296∧(Xg a:Int)<16777216:=by omega
 clear z k;rw[h1.o];go_wp2_with fail;refine(EF d g B _ b 32 (by rfl) (by decide) (by simpa using E)<|by simp[X0]).mono ?_;rintro e f⟨rfl,f,t,h,f⟩;clear B d g;go_wp2_with fail;refine(EF h f t _ 0 1 (by rfl) (by decide) (by decide) (by simp[X0];try omega)).mono ?_;rintro e d⟨rfl,d,z,k,d⟩;clear t h f;go_wp2_with fail;refine(EF k d z _ (Xg a) 24 (by rfl) (by decide) (by simpa using D)<|by simp[X0]).mono ?_;rintro e g⟨rfl,B,h,t,D⟩;clear z k d;go_wp2_with fail;have hh:([]:LB)++K.low 54156738319193 48++K.low b 32++K.low 0 1++K.low (Xg a) 24=Js b (Xg a):=by simp[Js]
 rw[hh]at h;have⟨f,d⟩:=qb h t;clear h t D hh;refine(Dx _ A B _ f.o).mono ?_;rintro e h⟨rfl,rfl⟩;go_wp2_with fail;refine(Dj _ A B _ f.o).mono ?_;rintro e h⟨rfl,rfl⟩;rw[Cn];have⟨t,h,k,D,B⟩:=qe (x.o.trans d.o<|by simp) (j.o.kept d.o<|by simp) (l.o.kept d.o<|by simp) (C.o.kZ d.o)<|y.o.kept d.o;clear x j l C y d f;go_wp2_with fail;have d:Qb [] g (g.alloc<|.cells #[.string ⟨(Qv<|Js b<|Xg a).toArray⟩,(105:Int)] 204):=(Qc _ _).alloc _;have⟨y,z,f,j,E,C⟩:=qf (Qy g [.string ⟨(Qv<|Js b<|Xg a).toArray⟩,(105:Int)] 204) (t.o.trans d<|by simp) (h.o.kept d<|by simp) (k.o.kept d<|by simp) (D.o.kZ d)<|B.o.kept d;clear d t h k D B;refine(Qhn a _ c<|by omega).mono ?_;rintro e l⟨rfl,d⟩;have⟨J,t,h,x,P,O⟩:=qf (z.o.trans d<|by simp) (f.o.kept d<|by simp) (j.o.kept d<|by simp) (y.o.kept d<|by simp) (E.o.kZ d)<|C.o.kept d;clear d z f j E C y;unfold Zg;have⟨f,D⟩:=qx<|Qv<|ZS<|QL a;have⟨j,F⟩:=qx<|(ZS<|QL a).length;rw[D,F];have⟨h5,x0⟩:=qb D F;obtain⟨g1,k⟩:∃d,r.heap.size=d:=⟨_,rfl⟩;obtain⟨r,E⟩:∃d,g.heap.size=d:=⟨_,rfl⟩;obtain⟨x2,r⟩:∃d,w.heap.size=d:=⟨_,rfl⟩;rw[r]at t;rw[k]at h;rw[E]at x;have g:Qb [] l (l.alloc<|.cells #[.string ⟨f.toArray⟩,.int .i64 j] 204):=(Qc _ _).alloc _;have⟨y,Q,I,L,M,X,z⟩:=qg (Qy l [.string ⟨f.toArray⟩,.int .i64 j] 204) (J.o.trans g<|by simp) (t.o.kept g<|by simp) (h.o.kept g<|by simp) (x.o.kept g<|by simp) (P.o.kZ g)<|O.o.kept g;have B:=h.o.cell (i:=0) (u:=.slice o (QG a).1.length q) rfl;have C:=h.o.cell (i:=1) (u:=.slice m (QG a).2.1.length p) rfl;have G:=h.o.lt;have H:=Qa r;have:=Qa k;have R:=Qa E;clear D F g J t h x P O h3;rw[k];clear r k E;go_wp2_with fail;obtain⟨g3,g⟩:∃d,l.heap.size=d:=⟨_,rfl⟩;rw[R.o,g,H.o];rw[g]at y;have:=Qa g;clear g B C G;refine(Qd4 a o m q p _ c (by omega) z.o).mono ?_;rintro e t⟨rfl,h⟩;unfold Zg;have⟨g,D⟩:=qx<|Qv<|Zr (QG a).1 (QG a).2.1;have⟨k,E⟩:=qx<|(Zr (QG a).1 (QG a).2.1).length;rw[D,E];have⟨h8,x1,R,F,r,O,T,Y⟩:=qh D E (Q.o.trans h<|by simp) (I.o.kept h<|by simp) (L.o.kept h<|by simp) (M.o.kept h<|by simp) (y.o.kept h<|by simp)<|X.o.kZ h;have V:=Qa<|z.o.kept h;have l:Qb [] t (t.alloc<|.cells #[.string ⟨g.toArray⟩,.int .i64 k] 204):=(Qc _ _).alloc _;have⟨x,S,J,P,U,Z,W⟩:=qg (Qy t [.string ⟨g.toArray⟩,.int .i64 k] 204) (R.o.trans l<|by simp) (F.o.kept l<|by simp) (O.o.kept l<|by simp) (T.o.kept l<|by simp) (Y.o.kZ l)<|V.o.kept l;have B:=r.o.cell (i:=0) (u:=.slice o (QG a).1.length q) rfl;have C:=r.o.cell (i:=1) (u:=.slice m (QG a).2.1.length p) rfl;have G:=r.o.lt;clear D E l h Q I L M X z y R F r O T Y V;go_wp2_with fail;obtain⟨g4,h⟩:∃d,t.heap.size=d:=⟨_,rfl⟩;rw[h];rw[h]at x;have:=Qa h;clear h B C G;refine(Qd3 a o m a5 q p h2 _ c (by omega) W.o Z.o).mono ?_;rintro e m⟨rfl,l⟩;unfold Zg;have⟨d,r⟩:=qx<|Qv<|J8 a;have⟨h,t⟩:=qx<|(J8 a).length;rw[r,t];have⟨B,C,z,y⟩:=qd r t (S.o.trans l<|by simp) (J.o.kept l<|by simp);have o:=P.o.kept l (by simp);have p:=U.o.kept l (by simp);have q:=x.o.kept l (by simp);have D:=o.cell (i:=0) (u:=.string ⟨(Qv<|Js b<|Xg a).toArray⟩) rfl;have E:=o.cell (i:=1) (u:=.int .i64 105) rfl;have F:=p.cell (i:=0) (u:=.string ⟨f.toArray⟩) rfl;have G:=p.cell (i:=1) (u:=.int .i64 j) rfl;have I:=q.cell (i:=0) (u:=.string ⟨g.toArray⟩) rfl;have h6:=q.cell (i:=1) (u:=.int .i64 k) rfl;have M:=o.lt;have O:=p.lt;have Q:=q.lt;clear r t l S J P U Z W x o p q;go_wp2_with fail;have x:=MG a c (by omega);have J:=Om h9.o.fit.may;have L:=OV<|QL a;have l:Qb [] m ((m.alloc<|.cells #[.string ⟨d.toArray⟩,.int .i64 h] 204).alloc<|.cells #[.string ⟨(Qv<|Js b<|Xg a).toArray⟩,(105:Int),.string ⟨f.toArray⟩,.int .i64 j,.string ⟨g.toArray⟩,.int .i64 k,.string ⟨d.toArray⟩,.int .i64 h] 204):=((Qc _ _).alloc _).alloc _;have o:=Qy (m.alloc<|.cells #[.string ⟨d.toArray⟩,.int .i64 h] 204) [.string ⟨(Qv<|Js b<|Xg a).toArray⟩,(105:Int),.string ⟨f.toArray⟩,.int .i64 j,.string ⟨g.toArray⟩,.int .i64 k,.string ⟨d.toArray⟩,.int .i64 h] 204;have⟨t,r⟩:=qb (z.o.trans l<|by simp) (y.o.kept l<|by simp);have hz:(m.alloc<|.cells #[.string ⟨d.toArray⟩,.int .i64 h] 204).heap.size=m.heap.size+1:=by simp
 rw[hz]at o;have p:=o.sees (size:=2) (n:=4) rfl;have q:Yl (YW [Js b<|Xg a,ZS<|QL a,Zr (QG a).1 (QG a).2.1,J8 a])=[.string ⟨(Qv<|Js b<|Xg a).toArray⟩,.int .i64 105,.string ⟨f.toArray⟩,.int .i64 j,.string ⟨g.toArray⟩,.int .i64 k,.string ⟨d.toArray⟩,.int .i64 h]:=by rw[←h5.o,←x0.o,←h8.o,←x1.o,←B.o,←C.o];simp[Yl,YW,str,Cn]
 rw[←q]at p;have f:[Js b<|Xg a,ZS<|QL a,Zr (QG a).1 (QG a).2.1,J8 a].flatten=XE s:=by rw[h4.o,h1.o,Zs];simp[UI]
 have c:=cA [Js b<|Xg a,ZS<|QL a,Zr (QG a).1 (QG a).2.1,J8 a] _ 4 _ p (by
  simp[Yq,YW,Jl,Jz,Ub,Cn];omega) (by simp) (by
  intro A hb;simp at hb;rcases hb with rfl|rfl|rfl|rfl
  ·rw[Cn];omega
  ·omega
  ·omega
  omega)
 rw[q]at c;have d:=Qa<|show Calls prog 121 #[.slice (m.heap.size+1:Nat) 4 4] _ _ from c;clear c l o p q x J L D E F G I h6 M O Q;refine d.o.mono ?_;rintro e a⟨rfl,b⟩;rw[f];unfold Zg;have c:=Qa (t.o.trans b<|by simp);have a:=r.o.kept b (by simp);have c0:=a.cell (i:=0) (u:=.string ⟨#[]⟩) rfl;have c1:=a.cell (i:=1) (u:=.int .i64 0) rfl;have h3:=a.lt;have:=a.free 0;have:=a.free 1;have b:w.heap.size≤x2:=by rw[H.o];exact Ql _
 clear d;go_wp2_with fail;have d:=(a.set 0<|.string ⟨(Qv<|XE s).toArray⟩).cell (i:=0) (u:=.string ⟨(Qv<|XE s).toArray⟩) rfl;have f:=((a.set 0<|.string ⟨(Qv<|XE s).toArray⟩).set 1 ((XE s).length:Nat)).cell (i:=1) (u:=.int .i64 ((XE s).length:Nat)) rfl;refine Q5 (v:=Zg (Qv<|XE s,((XE s).length:Nat),0)) (by simp[results,results116,go_sem,Zg,d,f]) rfl ⟨rfl,?_⟩
 first|exact(c.o.setCell (.inr b) _).setCell (.inr b) _|exact c.o.setCell (.inr b) _
section
open Go.Shelf
attribute [local go_sem] Oper.semAt_some
def NY(s:BA)(xs:List BA):Prop:=xs=if s.size=0 then []else [s]
def oI(s:BA)(b bs c d:Nat)(a:List BA→WD→Prop)(k:Nat)(wr:WD):Prop:=
 ((k=1∧Qe wr bs 9 [s]∧a [] wr)∨(k=0∧Qe wr bs 9 [.string ⟨#[]⟩]∧a [s] wr∧0<s.size))∧Qe wr c 3 [(b:Int)]∧d≤wr.heap.size
def WK(s:BA)(a:s.size=0):s=⟨#[]⟩:=by
 obtain⟨b⟩:=s
 congr
 exact Array.eq_empty_of_size_eq_zero a
def Qde(s:BA)(a bs b w)(hs:s.size≤1000000)(n:5*s.size≤4*a)(t:a≤10000000)(c:1≤a)(c:Qe w bs 9 [s])(d:Qe w b 3 [(a:Int)])(hne:bs≠b):
 Lk prog 157 #[.pointer bs,.pointer b] (fun x:BA=>#[.string x]) [bs,b] (fun pre x=>pre=[]∧x=s∧0<s.size) (NY s) (fun _=>True) w:=by
 intro e l e e e f g h h0;have⟨j,k,m⟩:=qc (c.kept e<|by simp) (d.kept e<|by simp) f;have:=Qa g;have o:=e.size;have⟨q,A⟩:=qb h hne;refine callsIn_of_wp func157 rfl trivial ?_ rfl;simp only[ntmps157,GT,Q0,Yg,Nat.reduceAdd,Nat.reduceSub,Lc,Ld,Lx,Lm,Yy,Yf]
 gi_wp2_with fail
 gi_loopg [4] 1 (fun e f wr=>oI s a bs b w.heap.size l e wr)
 ·exact⟨.inl ⟨rfl,j.o,h0⟩,k.o,o⟩
 obtain⟨⟨rfl,c,g⟩|⟨rfl,c,g,l⟩,d,hz⟩:=hrel
 ·have⟨k,o⟩:=qb c d;have c0:=c.cell (i:=0) (u:=.string s) rfl;have c1:=d.cell (i:=0) (u:=.int .i64 (a:Int)) rfl
  by_cases h0:s.size=0
  ·have r:s.toList.isEmpty=true:=by rw[X6,WK s h0];rfl
   gi_wp2_with fail
   go_end0
   exact⟨⟨_,rfl⟩,.inl ⟨[],by unfold NY;rw[Qg h0],g⟩⟩
  have r:=CD s (by omega);obtain⟨l,e⟩:0<s.size∧¬(s.size:Int)<1:=by omega
  have:decide ((s.size:Int)<1)=false:=Xz e
  gi_wp2_with fail
  refine⟨trivial,?_⟩;refine(Eh.2<|wM s a _ hs n t).mono ?_;rintro h f⟨rfl,e⟩;have t:=m.o _ _ _ g hz (e.mono<|by simp);have v:w.heap.size≤f.heap.size:=QS hz e.size;have j:=k.o.kept e (by simp);have n:=o.o.kept e (by simp);obtain⟨fn,e,assign,body,e,e⟩:=q.o [] s f t v ⟨rfl,rfl,l⟩;have:s.extract 0 s.size=s:=by simp
  have c0:=j.cell (i:=0) (u:=.string s) rfl
  gi_wp2_with fail
  refine e.mono ?_;rintro h e (⟨rfl,v,k,z⟩|⟨rfl,B⟩)
  ·have f:Qe e bs 9 [s]:=(k bs<|by simp).trans j;have o:Qe e b 3 [(a:Int)]:=(k b<|by simp).trans n;have c0:=f.cell (i:=0) (u:=.string s) rfl;have:=f.free 0;have:s.extract s.size s.size=⟨#[]⟩:=WK _ (by simp);have y:=m.o _ _ _ v z<|(Qc [bs,b] e).setCell (p:=bs) (by simp)<|.string ⟨#[]⟩;have m:=f.set 0<|.string ⟨#[]⟩;have q:Qe (e.setCell ⟨bs,0,none⟩<|.string ⟨#[]⟩) b 3 [(a:Int)]:=o.kept ((Qc [bs] e).setCell (p:=bs) (by simp) _) (by simp;exact fun h=>A.o h.symm);have⟨e,a,b⟩:=qc y m q
   gi_wp2_with fail
   go_roundg 0
   ·exact⟨.inr ⟨rfl,a.o,e.o,l⟩,b.o,by simpa[World.setCell]using z⟩
   omega
  gi_wp2_with fail
  refine Q5 (Cy rfl _ _ _) rfl ?_;exact⟨⟨_,rfl⟩,.inr ⟨[s],trivial,B⟩⟩
 have c0:=c.cell (i:=0) (u:=.string ⟨#[]⟩) rfl;have r:(⟨#[]⟩:BA).toList.isEmpty=true:=by rw[X6];rfl
 gi_wp2_with fail
 go_end0
 exact⟨⟨_,rfl⟩,.inl ⟨[s],by unfold NY;rw[Qf<|by omega],g⟩⟩
end
def Db(W:WD)(b):(convert 88 9<|.slice W.heap.size 1 1).run prog (W.alloc<|.cells #[.int .u8 (b.toNat:Int)] 5)=.ok (.string ⟨#[b]⟩) (W.alloc<|.cells #[.int .u8 (b.toNat:Int)] 5):=by
 have a:Qh (W.alloc<|.cells #[.int .u8 (b.toNat:Int)] 5) 5 (.slice W.heap.size 1 1) (Qm [b]):=
  ⟨by simp[Qm],.inr ⟨W.heap.size,1,_,rfl,ZF _,Xf W _,Ql _,by simp[maxLen],by simp,by simp[Qm]⟩⟩
 exact Qh.text a
def vQ(s:BA)(a b):(s.extract a b).data.toList=(s.data.toList.drop a).take (b-a):=by simp[ByteArray.extract,ByteArray.copySlice,List.extract_eq_take_drop]
