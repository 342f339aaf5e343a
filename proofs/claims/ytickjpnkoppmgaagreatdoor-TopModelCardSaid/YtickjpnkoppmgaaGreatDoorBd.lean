import Derived.Lib.SplitLaws
import Derived.Test.YtickjpnkoppmgaaGreatDoorBa
import Derived.Test.YtickjpnkoppmgaaGreatDoorAy
set_option linter.all false
set_option maxHeartbeats 1000000
set_option maxRecDepth 100000
namespace Go.Proofs.YtickjpnkoppmgaaGreatDoor
open Go.Proofs.Tryz Go.RowKit K
def JQ(w:WD)(v:VL)(xs:LV):Prop:=∃c cap d,v=.slice (some ⟨c,0,none⟩) xs.length cap/\QJ w c (xs++d)/\cap=xs.length+d.length/\cap<=maxLen
def JQ.kept{S w w' v xs}(h:JQ w v xs)(hk:Qb S w w')(g:∀k∈Qd v,k∉S):JQ w' v xs:=by obtain⟨c,cap,i,rfl,hb,d,e⟩:=h;exact⟨c,cap,i,rfl,hb.kept hk<|g c<|by simp[Qd,qo],d,e⟩
def JQ.lt{w v xs}(h:JQ w v xs):∀k∈Qd v,k<w.heap.size:=by
 obtain⟨c,cap,d,rfl,hb,d,d⟩:=h;intro k hk;have:k=c:=by simpa[Qd,qo]using hk
 subst this;exact hb.lt
def JQ.open{w v xs}(h:JQ w v xs):∃g cap,v=.slice (some ⟨g,0,none⟩) xs.length cap/\QJ w g xs/\xs.length<=cap/\cap<=maxLen:=by obtain⟨g,cap,c,rfl,hb,c,m⟩:=h;obtain⟨j,n,l,c,d,e,i⟩:=hb;refine⟨g,cap,rfl,⟨j,n,l,c,by simp at d;omega,fun c d hi=>e c d ?_,fun c hi=>i c zx⟩,ox,m⟩;rwa[Xc (Qy.1 hi).1]
def JQ.cut{w}{g n cap:Nat}{xs}(h:JQ w (.slice g n cap) xs)(m)(c:m<=n):JQ w (.slice g m cap) (xs.take m):=by
 obtain⟨c,c,e,c,hb,d,d⟩:=h;injection c with c e2 e3;injection c with c;injection c with c;subst c e2 e3;have c:(xs.take m).length=m:=zx
 refine⟨g,cap,xs.drop m++e,by rw[c],?_,zx,d⟩;rwa[<-QR,V3]
def Qib{P}(w t u ty e z bytes)(ht:P.underlying t=some (.slice e))(hu:P.underlying u=some (.int .i64))(T:(P.info? e).map (fun i=>(i.zero,i.size,i.bytes))=some (some z,1,bytes))(hz:z.cells=#[z])(h1:z.oneCell'=true)(v xs)(x6:JQ w v xs)(m)(hM:xs.length+m<=maxLen)(hb:(xs.length+m)*bytes<=140737488355328):
 ∃v' w',(Builtin.append_ #[t,u] ty #[v,(m:Int)]).run P w=.ok v' w'/\JQ w' v' (xs++List.replicate m z)/\Qb (Qd v) w w'/\QQ w.heap.size (Qd v) (Qd v'):=by
 obtain⟨i,hi,h0,h3,x8⟩:=VR T;subst x8;have y2:xs.length+m<=9223372036854775807:=by simp only[maxLen]at hM;omega
 have hw:IntKind.i64.wrap (m:Int)=(m:Int):=Za _ ox;have hn:¬((m:Int)<0):=ox
 have y4:m*i.bytes<=140737488355328:=QS (Be _ ox) hb;have x5:¬((2:Int)^48<(m:Int)*i.bytes):=by
  have:((m*i.bytes:Nat):Int)=m*(i.bytes:Int):=by push_cast;rfl
  rw[<-this];omega
 have h5:¬(281474976710656<(m:Int)*i.bytes):=by simpa using x5
 have y0:=SN z m hz;have ha:∀(x:Int)(W:WD),Sem.run P (asInt<|.int .i64 x) W=.ok x W:=fun _ _=>rfl
 have x9:IntKind.i64.wrap 0=0:=dx
 obtain⟨g,cap,o,rfl,h4,hc,x2⟩:=x6
 by_cases h2:xs.length+m<=cap
 ·obtain⟨w',y,x0,hk⟩:=LM (P:=P) g (xs.length*1) (List.replicate m z) 0 (xs++o) w h4 zx (fun u hu=>by rwa[BR hu]);have x1:QJ w' g ((xs++List.replicate m z)++o.drop m):=by
   have e:List.take (xs.length*1+0) (xs++o)++List.replicate m z++List.drop (xs.length*1+0+(List.replicate m z).length) (xs++o)=(xs++List.replicate m z)++o.drop m:=(by rw[RW,Jt,As,List.take_left' rfl,FP];simp);rwa[e]at x0
  refine⟨.slice g (xs.length+m) cap,w',?_,⟨g,cap,o.drop m,sx,x1,zx,x2⟩,hk.mono<|by simp[Qd,qo],fun x hx=>.inl<|by simpa[Qd,qo]using hx⟩
  by_cases q:m=0
  ·subst q;have x7:xs<=cap:=h2;simp[storeCells]at y;subst y;simp[Builtin.append_,Jn ht,Jn hu,sizeOf,typeInfo,hi,h3,ha,x9,x7,storeCells]
  simp only[RW]at y;simp[Builtin.append_,Jn ht,Jn hu,sizeOf,typeInfo,zeroValue,hi,h0,h3,ha,hw,hn,h5,q,h2,Jc,y0];rw[y];rfl
 have holds:∀j u,xs[j]?=some u->w.cell? ((⟨g,0,none⟩:Addr).add j)=some u:=fun j u hj=>by rw[Jc,Zu];exact h4.cell (by rwa[Xc (Qy.1 hj).1])
 have y3:=grownCap_ge w (xs.length+m) cap e;have x3:=Oi w (xs.length+m) cap e hM;have x4:=run_firstCells_some (P:=P) w.drew 1 xs ⟨g,0,none⟩ xs cap xs sx (by simpa using holds);have h9:¬(9223372036854775807<((xs:Int)+m)):=ox
 have h8:¬(281474976710656<Builtin.nextslicecap (xs.length+m) cap*i.bytes):=yx (KR (need:=xs.length+m) (old:=cap) ox hb)
 have q:m≠0:=ox
 refine⟨.slice w (xs.length+m)<|grownCap w (xs.length+m) cap e,w.drew.alloc<|.cells ((xs++List.replicate m z)++List.replicate (grownCap w (xs.length+m) cap e-(xs.length+m)) z).toArray e,?_,
  ⟨w.heap.size,_,List.replicate (grownCap w (xs.length+m) cap e-(xs.length+m)) z,sx,QJ.new w.drew _ e,zx,x3⟩,((Qc _ w).drew).alloc _,fun x hx=>.inr (by simp[Qd,qo]at hx;omega)⟩
 have y1:∀k,Builtin.zeroCells z.cells k=(List.replicate k z).toArray:=fun k=>by rw[<-SN z k hz]
 simp[Builtin.append_,Jn ht,Jn hu,sizeOf,typeInfo,zeroValue,hi,h0,h3,ha,hw,hn,h5,q,h2,h9,h8,Question.forced,x4,newRow,grownCap,y1]
 congr 2
 exact Array.ext' sx
def Qid{P}(w j o p d g c e l)(s:BA)(xs)(hu:P.underlying j=some (.slice d))(hs:(P.info? d).map (·.size)=some 1)(h:QJ w g xs)(n:s.size<=e)(m:c+s.size<=xs.length):
 ∃w',(Builtin.copy_ #[j,o] p #[.slice (some ⟨g,c,none⟩) e l,s]).run P w=.ok (goInt s.size) w'/\QJ w' g (splice xs c<|Qn s)/\Qb [g] w w':=by
 have e:(Qn s).length=s.size:=by simp[Qn]
 obtain⟨w',j,hb,hk⟩:=LM (P:=P) g c (Qn s) 0 xs w h (by rwa[e]) (fun c hu=>by obtain⟨b,-,rfl⟩:=QA.1 hu;rfl);refine⟨w',?_,by simpa[splice,e]using hb,hk⟩;cases hq:P.info? d with
 |none=>simp[hq]at hs
 |some i=>
  have hi:i.size=1:=by simpa[hq]using hs
  have:(s.extract 0 s.size)=s:=sx
  have:(Array.map (fun b:UInt8=>Value.int .u8 (b.toNat:Int)) s.data).toList=Qn s:=by simp[Qn]
  simp[Builtin.copy_,Jn hu,Builtin.lenOf,Builtin.firstCells,sizeOf,typeInfo,hq,hi,Iy n];rw[show List.map (fun b:UInt8=>Value.int .u8 (b.toNat:Int)) s=Qn s from rfl,Q5 ox,j];rfl
section
def Dk(w:WD)(d:Nat)(c e:VL)(s:QG):Prop:=
 (∃kv,Qe w d 91 [s.cap,kv,c,e,(0:Int),(),.bool false,s.lZ])/\JQ w c (Qn s.img.flatten)/\(∃g,Qh w 246 e g/\g.length<=s.lZ)/\
 (d::(Qd c++Qd e)).Nodup
abbrev Q2(d:Nat)(nv pv:VL):LN:=d::(Qd nv++Qd pv)
def Dk.kept{S w w' d c e s}(h:Dk w d c e s)(hk:Qb S w w')(ha:Qq (Q2 d c e) S):Dk w' d c e s:=by obtain⟨⟨kv,e⟩,g,⟨c,i,l⟩,j⟩:=h;exact⟨⟨kv,e.kept hk<|ha d sx⟩,g.kept hk fun k h=>ha k<|by simp[h],⟨c,i.kept hk fun k h=>ha k<|by simp[h],l⟩,j⟩
def Dk.kZ{w w' d c e s}(h:Dk w d c e s)(hk:Qb [] w w'):Dk w' d c e s:=h.kept hk<|Zy _
def Dk.lt{w d c e s}(h:Dk w d c e s):∀x∈Q2 d c e,x<w.heap.size:=by
 obtain⟨⟨kv,e⟩,g,⟨c,i,-⟩,c⟩:=h;intro x c;simp at c;rcases c with rfl|c|c
 ·exact e.lt
 ·exact g.lt x c
 exact i.lt x c
def Qiw{P}(t e)(i:TypeInfo)(hu:P.underlying t=some (.slice e))(hi:P.info? e=some i)(j:i.size=1)(b off n c lo d:Nat)(x g)(l:x=(lo:Int))(m:g=(d:Int))(h:lo<=d)(o:d<=c)(p:lo<c)(W):
 (Instr.slice t (.slice (some ⟨b,off,none⟩) n c) (some<|.int .i64 x) (some<|.int .i64 g) none).run P W=.ok (.slice (some ⟨b,off+lo,none⟩) (d-lo)<|c-lo) W:=by
 subst l m;obtain⟨g,l,m⟩: ¬c=lo/\(lo:Int)<=d/\(d:Int)<=c:=ox
 simp[Instr.slice,Jn hu,sizeOf,typeInfo,hi,j,Instr.sliceBounds,Instr.sliceBound,asIntOf,l,m,h,o,g,Jc]
def QJ.textAt{w g L l}(h:QJ w g (Qn L))(c n cap)(d:(L.drop c).take n=l)(i:l.length=n):(convert 88 9<|.slice (some ⟨g,c,none⟩) n cap).run prog w=.ok (.string<|str l) w:=by
 subst d;have h:=lK w _ _ _ ⟨g,c,none⟩ cap ((L.drop c).take n) Xo Bi Yw (fun j d=>by
  rw[Jc];refine h.cell ?_;have e:c+j<L:=by simp at d;omega
  simp[Qn,Qj e])
 rwa[i]at h
def K.Qll{img:LY}{i:Nat}{x:LU}(h:∀e∈img,e.length=512)(j:x.length=512):
 Qn (JM img i x).flatten=splice (Qn img.flatten++List.replicate (512*(i+1)-512*img.length) (.int .u8 0)) (512*i) (Qn x):=by
 have⟨d,g⟩:=qx<|img++List.replicate (i+1-img.length) (Q3 512);have hs:∀e∈d,e.length=512:=by
  intro e c;rw[<-g]at c;rcases Q4.1 c with c|c
  ·exact h e c
  rw[BR c,VY]
 have hi:i<d:=by rw[<-g];simp;omega
 have hf:Qn img.flatten++List.replicate (512*(i+1)-512*img.length) (.int .u8 0)=Qn d.flatten:=by
  rw[<-g,List.flatten_append];have:∀d c,(List.replicate d<|Q3 c).flatten=Q3 (c*d):=fun d c=>by simp[Q3,V6]
  rw[this,show 512*(i+1)-512*img.length=512*(i+1-img.length)by omega];simp[Qn,Q3]
 have c:(Qn x).length=512:=by simp[Qn,j]
 rw[hf,JM,g,List.set_eq_take_append_cons_drop,Qg hi,splice,c,show 512*i+512=512*(i+1)by omega];unfold Qn;rw[<-Ey,<-List.map_drop,(Fg hs i).1,(Fg hs<|i+1).2];simp
def mQ{P z c a w K o}{n:Prop}(t:c.guard=none)(d x:Operand)(i m)(v:c.op=.call {callee:=.builtin .copy,args:=#[d,x],argTypes:=#[i,m]})(j)(hu:P.underlying i=some (.slice j))(y:(P.info? j).map (·.size)=some 1)(g off e l s xs)(p:a.eval d=.slice (some ⟨g,off,none⟩) e l)(hs:a.eval x=.string s)(hb:QJ w g xs)(u:s.size<=e)(q:off+s.size<=xs.length)(h:∀w',QJ w' g (splice xs off<|Qn s.data.toList)->Qb [g] w w'->K (a.put c.dst<|goInt s.size) w'):
 if Region.wanted c (yielded z a.tmps)=true then Oper.wp P c a w K o else n:=by
 rw[Qg<|by simp[Region.wanted,t]];obtain⟨w',QX,n,hk⟩:=Qid (P:=P) w i m c.type j g off e l s xs hu y hb u q;unfold Oper.wp;simp[execOp,v,resolve,invoke,builtin,p,hs,QX,Result.andThen];exact h w' n hk
def SI{P w w' e g c a d v}(i:c.guard=none)(s x:Operand)(t u)(j:c.op=Op.call {callee:=Callee.builtin Builtin.append,args:=#[s,x],argTypes:=#[t,u]})(l:(Builtin.append_ #[t,u] c.type #[a.eval s,a.eval x]).run P w=.ok v w')(h:wpList P e d g (a.put c.dst v) w'):wpList P e d (c::g) a w:=by
 refine El i fun c c=>?_
 unfold Oper.wp;simp only[execOp,j,resolve,invoke,builtin,Sem.run_bind,Sem.run_pure,Ua,Bc,QV,Y6,l];exact c _ _ h
def Ia(w:WD)(d:VL)(img:LY)(e:Ending)(w':WD):Prop:=
 ∃c,e=.returned c/\JQ w' c (Qn img.flatten)/\Qb (Qd d) w w'/\QQ w (Qd d) (Qd c)
def Qlq(nv img)(bi bs i:Nat)(x w)(hr:JQ w nv (Qn img.flatten))(hs:∀y∈img,y.length=512)(hl:img.length<=4096)(hi:i<4096)(hx:x.length=512)(x2:Qe w bi 3 [i])(x3:Qe w bs 9 [.string<|str x])(hn:bi∉Qd nv/\bs∉Qd nv):
 Calls prog 110 #[nv,.pointer bi,.pointer bs] w (Ia w nv<|JM img i x):=by
 have hf:=K.flat_len hs;have hu:(Qn img.flatten).length=512*img.length:=by rw[<-hf];unfold Qn;rw[QH]
 have⟨HW,x0,HN,HX⟩:=qd (Qll (i:=i) hs hx) (show(str x).size=512 from hx) hn hx;have y5:=x2.lt;have z1:=x3.lt;have c0:=x2.cq 0 (u:=.int .i64 i);have c1:=x3.cq 0 (u:=.string<|str x);obtain⟨g,cap,y4,-,y6,p1⟩:=hr.open;rw[hu]at y6 y4;subst y4;have HR:=Qa hr;obtain⟨iU,y2,-,y8,-⟩:=VR Jg;have x8:=Qa fun g n c k x hx h hc=>Sf (P:=prog) 88 5 iU Xo y2 y8 g 0 n c k x hx h hc;clear y2 hr hs hn hf hx x2 x3;obtain⟨n1,g1,pZ,o,L,q,hL,x9,h5,y0,y7,h8,x1,QX⟩:∃n1 g1 pZ o L q,L=Qn img.flatten++List.replicate (512*(i+1)-512*img.length) (.int .u8 0)/\L.length=n1/\QJ q g1 (L++o)/\pZ=n1+o.length/\pZ<=maxLen/\
  Qb (Qd<|.slice (some ⟨g,0,none⟩) (512*img.length) cap) w q/\(g1=g\/w<=g1)/\((img<i+1/\(Builtin.append_ #[88,3] 88 #[.slice (some ⟨g,0,none⟩) (512*img.length) cap,.int .i64<|((i:Int)+1)*512-512*(img:Int)]).run prog w=.ok (.slice (some ⟨g1,0,none⟩) n1 pZ) q)
   \/(¬img<i+1/\q=w/\n1=512*img.length/\g1=g/\pZ=cap)):=by
  by_cases hlt:img<i+1
  ·obtain⟨v',q,QX,⟨g1,pZ,o,rfl,h5,h1,h2⟩,h8,x1⟩:=Qib (P:=prog) w 88 3 88 5 (.int .u8 0) 1 Xo Vv Jg rfl rfl _ _ HR.o (512*(i+1)-512*img.length) (by rw[hu];simp only[maxLen];omega) (by rw[hu];omega);refine⟨_,g1,pZ,o,_,q,rfl,rfl,h5,h1,h2,h8,by simpa[Qd,qo]using x1 g1<|by simp[Qd,qo],.inl ⟨hlt,?_⟩⟩;rw[<-QX];congr 4;simp;omega
  obtain⟨g',p0,o,he,h5,h1,h2⟩:=HR.o;injection he with e1 e2 e3;injection e1 with e1;injection e1 with e1;subst e1 e3;have e0:512*(i+1)-512*img.length=0:=ox
  refine⟨512*img.length,g,cap,o,_,w,rfl,by rw[e0];simpa using hu,by rw[e0];simpa using h5,ox,h2,Qc _ _,.inl rfl,.inr ⟨hlt,rfl,rfl,rfl,rfl⟩⟩
 have x7:=Qa hL;have y3:n1=max (512*img.length) (512*(i+1)):=by rw[<-x9,hL,Qo,hu];simp;omega
 have p2:=x8.o g1 n1 pZ (512*i) ((i:Int)*512) ox ox ox;have HB:=Qa h5;have HK:=Qa h8;have HG:=Qa x1;have d0:q.cell? bi=some (.int .i64 i):=h8.cZ c0 HN.o.1;have d1:q.cell? bs=some (.string<|str x):=h8.cZ c1 HN.o.2;have HE:=Qa (show ∀w2,QJ w2 g1 (splice (L++o) (512*i)<|Qn (str x).data.toList)->Qb [g1] q w2->Ia w (.slice (some ⟨g,0,none⟩) (512*img.length) cap) (JM img i x) (.returned<|.slice (some ⟨g1,0,none⟩) n1 pZ) w2 from by
  intro w2 h4 h3;have z7:(Qn x).length=512:=by simp[Qn,HX.o]
  have z6:splice (L++o) (512*i) (Qn x)=splice L (512*i) (Qn x)++o:=by unfold splice;rw[Is ox,Tf ox];simp
  have x4:(splice L (512*i)<|Qn x).length=n1:=by unfold splice;simp[z7];omega
  have h4:QJ w2 g1 (splice (L++o) (512*i)<|Qn x):=h4;rw[z6,x7.o,<-HW.o]at h4;rw[x7.o,<-HW.o]at x4;have y1:∀y,y∈Qd (.slice (some ⟨g,0,none⟩) (512*img.length) cap)↔y=g:=fun y=>by simp[Qd,qo]
  refine⟨_,rfl,⟨g1,pZ,o,by rw[x4],h4,by rwa[x4],y7⟩,HK.o.trans h3 fun y hy=>?_,fun y hy=>?_⟩
  ·obtain rfl:y=g1:=(by simpa using hy);rw[y1];exact HG.o
  obtain rfl:y=g1:=by simpa[Qd,qo]using hy
  rw[y1];exact HG.o)
 have y9:bi∉[g1]/\bs∉[g1]:=by have:=y5;have:=z1;have h1:=HN.o;simp[Qd,qo]at h1 ⊢;omega
 have⟨h9,z8,x6,x5⟩:=qd y9 y3 (by simp;omega:512*i+512<=(L++o).length) (ox:512<=n1-512*i);have p3:IntKind.i64.wrap ((i:Int)*512)=(i:Int)*512:=Za _ ox;clear hL h5 h8 x1 x8 y3 y0 x9;rcases QX with⟨hlt,QX⟩|⟨hlt,rfl,rfl,rfl,rfl⟩
 ·have g0:512*(img:Int)<((i:Int)+1)*512:=ox
  go_enter func110,ntmps110;go_wp2_with (at_builtin;refine SI rfl _ _ 88 3 rfl QX ?_)
  go_region_held3 (fun w'=>w'.cell? bi=some (.int .i64 i)/\w'.cell? bs=some (.string<|str x)) (first|exact⟨d0,d1⟩|exact⟨e0,e1⟩|go_keep)
   ((refine mQ rfl _ _ 88 9 rfl 5 Xo Gh g1 (512*i) (n1-512*i) (pZ-512*i) (str x) (L++o) rfl rfl (HB.o.kept (Qc [] q).drew sx) (by rw[x0.o];exact x5.o) (by rw[x0.o];exact x6.o) ?_;intro w2 h4 h3;have e0:=h3.cZ d0 h9.o.1;have e1:=h3.cZ d1 h9.o.2))
  all_goals
   go_wp2
   go_ret;exact HE.o w2 h4<|Qb.trans (Qc [g1] q).drew h3 fun x hx=>.inl hx
 have g0:¬512*(img:Int)<((i:Int)+1)*512:=ox
 go_enter func110,ntmps110;go_wp2_with fail
 go_region_held3 (fun w'=>w'.cell? bi=some (.int .i64 i)/\w'.cell? bs=some (.string<|str x)) (first|exact⟨d0,d1⟩|exact⟨e0,e1⟩|go_keep)
  ((refine mQ rfl _ _ 88 9 rfl 5 Xo Gh g1 (512*i) ((512*img.length)-512*i) (pZ-512*i) (str x) (L++o) rfl rfl (HB.o.kept (Qc [] q).drew sx) (by rw[x0.o];exact x5.o) (by rw[x0.o];exact x6.o) ?_;intro w2 h4 h3;have e0:=h3.cZ d0 h9.o.1;have e1:=h3.cZ d1 h9.o.2))
 all_goals
  go_wp2
  go_ret;exact HE.o w2 h4<|Qb.trans (Qc [g1] q).drew h3 fun x hx=>.inl hx
def yH(c)(img:LY)(e n w)(d:JQ w c (Qn img.flatten))(hs:∀g∈img,g.length=512)(g:img.length<=4096)(g:n<=img.length)(hb:Qe w e 3 [n]):Calls prog 125 #[c,.pointer e] w (Ia w c<|img.take n):=by
 have hf:=K.flat_len hs;have e:(Qn img.flatten).length=512*img.length:=by rw[<-hf];unfold Qn;rw[QH]
 have c0:=hb.cq 0 (u:=.int .i64 n);obtain⟨c,cap,c,-,g,h⟩:=d.open;rw[e]at g c;subst c;have c:=d.cut (512*n) ox;rw[show(Qn img.flatten).take (512*n)=Qn (img.take n).flatten by unfold Qn;rw[<-Ey,(Fg hs n).1]]at c;have g:=Qa c;clear c d hf e;go_enter func125,ntmps125;go_wp2_with fail
 all_goals
  go_ret
  first
   |rw[show((n:Int)*512).toNat=512*n by omega]
   |rw[show(512*(img:Int)).toNat=512*n by omega]
   |rw[show(min (512*(img:Int))<|(n:Int)*512).toNat=512*n by omega]
  exact⟨_,rfl,g.o,Qc _ _,fun c c=>.inl<|by simpa[Qd,qo]using c⟩
def tI:(prog.info? 246).map (fun i=>(i.zero,i.size,i.bytes))=some (some .nilFunc,1,8):=by kernel_rfl
def Zf(w:WD)(d:Nat)(c g:VL)(s:QG)(w':WD):Prop:=∃e h,Dk w' d e h s/\Qb (Q2 d c g) w w'/\QQ w.heap.size (Q2 d c g) (Q2 d e h)
section
variable {d:Nat} {nv pv:VL} {s:QG} {w:WD}
def Ll(h:Dk w d nv pv s)(hs:s.Ok):Calls prog 41 #[.pointer d] w fun e w'=>e=.returned (.bool false)/\w'=w:=by
 obtain⟨⟨kv,c⟩,g,g,g⟩:=h;have c0:=c.cq 0 (u:=.int .i64 s.cap);have:((s.cap:Int)==0)=false:=Ze.2 (yx hs.c1);go_enter func41,ntmps41
 go_wp2
 go_ret;exact⟨rfl,rfl⟩
def Rg(h:Dk w d nv pv s)(hs:s.Ok):Calls prog 14 #[.pointer d] w fun e w'=>e=.returned s.cap/\w'=w:=by have c:=Qa<|Ll h hs;obtain⟨⟨kv,g⟩,j,j,j⟩:=h;have c0:=g.cq 0 (u:=.int .i64 s.cap);go_enter func14,ntmps14;go_wp2_with (go_fit c.o;rintro e g⟨rfl,rfl⟩);go_ret;exact⟨rfl,rfl⟩
def DS(h:Dk w d nv pv s)(hs:s.Ok):Calls prog 24 #[.pointer d] w fun e w'=>e=.returned s.img.length/\w'=w:=by
 have q:=Qa<|Ll h hs;obtain⟨⟨kv,o⟩,y,h3,h4⟩:=h;obtain⟨g,cap,rfl,-,-⟩:=y.open;have hf:=hs.flat;have hl:=hs.len;have hc:=hs.c2;have hu:(Qn s.img.flatten).length=512*s.img.length:=by rw[<-hf];unfold Qn;rw[QH]
 rw[hu]at o;have c0:=o.cell (i:=2) (u:=.slice g (512*s.img.length) cap) rfl;have q0:((512*s.img.length:Nat):Int).tdiv 512=(s.img:Int):=by rw[FN ox];omega
 have q1:IntKind.i64.wrap (s.img:Int)=(s.img:Int):=wraps_i64' _ ox ox;go_enter func24,ntmps24;go_wp2_with (go_fit q.o;rintro e w1⟨rfl,rfl⟩);go_ret;exact⟨rfl,rfl⟩
def EZ(h:Dk w d nv pv s)(hs:s.Ok):Calls prog 33 #[.pointer d] w fun e w'=>e=.returned (.bool false)/\w'=w:=by have c:=Qa<|Ll h hs;obtain⟨⟨kv,g⟩,j,j,j⟩:=h;have c0:=g.cq 6 (u:=.bool false);go_enter func33,ntmps33;go_wp2_with (go_fit c.o;rintro e g⟨rfl,rfl⟩);go_ret;exact⟨rfl,rfl⟩
def Km(h:Dk w d nv pv s)(hs:s.Ok):Calls prog 91 #[.pointer d] w fun e w'=>e=.returned (0:Int)/\w'=w:=by have c:=Qa<|Ll h hs;obtain⟨⟨kv,g⟩,j,j,j⟩:=h;have c0:=g.cq 6 (u:=.bool false);go_enter func91,ntmps91;go_wp2_with (go_fit c.o;rintro e g⟨rfl,rfl⟩);go_ret;exact⟨rfl,rfl⟩
def PL(h:Dk w d nv pv s)(hs:s.Ok)(i:Nat)(x)(q:s.img[i]?=some x):
 Calls prog 57 #[.pointer d,i] w fun e w'=>e=.returned (.tuple #[str x,(0:Int)])/\Dk w' d nv pv {s with lZ:=s.lZ+1}/\Qb [d] w w':=by
 have⟨y,z⟩:=qb (Km h hs)<|DS h hs;have hlt:i<s.img:=(Qy.1 q).1;have:=hs.len;have:=hs.c2;have hf:=hs.flat;have:=hs.lZ;have v:(Qn s.img.flatten).length=512*s.img.length:=by rw[<-hf];unfold Qn;rw[QH]
 obtain⟨⟨kv,m⟩,o,n,c⟩:=id h;obtain⟨j,cap,g,hb,t,-⟩:=o.open;rw[v]at t g;subst g;have t:j≠d:=by simp[Qd,qo]at c;omega
 have c2:=m.cq 2 (u:=.slice j (512*s.img.length) cap);have:=m.cq 7 (u:=.int .i64 s.lZ);have:=m.free 7;obtain⟨_,g1⟩:(i:Int)<s.img.length/\¬((s.img:Int)<=i):=ox
 obtain⟨A,v,-,g,-⟩:=VR Jg;have:=Qiw (P:=prog) 88 5 A Xo v g j 0 (512*s.img.length) cap (512*i) (512*(i+1)) ((i:Int)*512) (((i:Int)+1)*512) ox ox ox ox ox;have g:=(Qc [d] w).setCell (p:=⟨d,7,none⟩) sx<|.int .i64<|(s.lZ:Int)+1;have:x.length=512:=hs.sec x<|QB q;have:=(hb.kept g<|by simpa using t).textAt (512*i) (512*(i+1)-512*i) (cap-512*i) (l:=x) (by rw[(Fg hs.sec i).2,(ox:512*(i+1)-512*i=512*1),(Fg (fun B A=>hs.sec B<|MD A) 1).1,Xf hlt];simp[(Qy.1 q).2]) ox;have q:=Qa (show Dk (w.setCell ⟨d,7,none⟩<|.int .i64<|(s.lZ:Int)+1) d (.slice j (512*s.img.length) cap) pv {s with lZ:=s.lZ+1}from
  ⟨⟨kv,m.set 7 _⟩,o.kept g<|by simpa[Qd,qo]using t,by obtain⟨j,n,m⟩:=n;exact⟨j,n.kept g (fun k hk=>by simp at c ⊢;intro e;subst e;exact c.1.2 hk),Nat.le_succ_of_le m⟩,c⟩)
 have j:=Qa g;clear v h o n c g hb;go_enter func57,ntmps57;go_wp2_with (first|(go_fit y.o;rintro e c⟨rfl,rfl⟩)|(go_fit z.o;rintro e c⟨rfl,rfl⟩));go_ret2;exact⟨rfl,q.o,j.o⟩
end
end
section
def Qat(n:Nat)(cap W):(binOp BinOp.neq 246 (.func (.func n) #[] cap) .nilFunc).run prog W=.ok (.bool true) W:=by kernel_rfl
def Qau(W):(binOp BinOp.neq 246 .nilFunc .nilFunc).run prog W=.ok (.bool false) W:=by kernel_rfl
section
variable {d:Nat} {nv pv:VL} {s:QG} {w:WD}
def wT(v xs w)(h:JQ w v xs)(g:∀u∈xs,u.oneCell'=true)(d:xs.length<=10000000):
 Calls prog 152 #[v] w fun e w'=>(∃a n c,e=.returned (.slice a n c))/\Qb [] w w':=by
 obtain⟨d,cap,rfl,hb,i,i⟩:=h.open;have⟨j,i⟩:=qb hb g;have:=fun l:WD=>FO (P:=prog) l 88 5 d xs cap 0 0 Xo
 go_enter func152,ntmps152;have m:Qp (w.alloc<|.cells #[] 5) 1 d xs xs:=by refine⟨ox,fun g u g=>⟨d,0,rfl,?_⟩⟩;have:=(j.o.kept ((Qc [] w).alloc<|.cells #[] 5) sx).cell g;rwa[Zu]
 go_wp2_with ((at_builtin;refine Du rfl _ _ 88 rfl 5 (.int .u8 0) 1 Xo Jg rfl (.slice w 0 0) [] xs d xs cap rfl rfl i.o (Qh.empty w _) m (fun h=>by cases h) (by simp[maxLen];omega) zx ?_;intro a4 p o l g j));have g:Qb [] w o:=((Qc [] w).alloc _).new g (by intro d d;simp[Qd,qo]at d;omega);go_ret;exact⟨⟨_,_,_,rfl⟩,g⟩
def cG(h:Dk w d nv pv s)(hs:s.Ok)(n:Nat)(cap img)(y8:∀W,(callFunc n<|#[nv]++cap).run prog W=.ok (.enter n<|#[nv]++cap) W)(x2:∀w1,Qb (d::Qd pv) w w1->Calls prog n (#[nv]++cap) w1 (Ia w1 nv img)):
 Calls prog 109 #[.pointer d,.func (.func n) #[] cap] w fun e w'=>e=.returned (0:Int)/\Zf w d nv pv {s with img:=img,lZ:=s.lZ+1} w':=by
 obtain⟨⟨kv,h1⟩,h2,⟨fs,h3,h5⟩,h4⟩:=h;have y9:=hs.lZ;have hl:=h1.lt;have c3:=h1.cq 3 (u:=pv);have c4:=h1.cq 4 (u:=.int .i64 0);have c2:=h1.cq 2 (u:=nv);have c7:=h1.cq 7 (u:=.int .i64 s.lZ);have f3:=h1.free 3;have f2:=h1.free 2;have f7:=h1.free 7;have L1:fs.length+1<=maxLen:=by simp only[maxLen];omega
 have L2:(fs.length+1)*8<=140737488355328:=ox
 have h9:d∉Qd pv:=fun hm=>by simp at h4;exact h4.1.2 hm
 have h8:d∉Qd nv:=fun hm=>by simp at h4;exact h4.1.1 hm
 have HD:=Qa<|show d∉Qd pv/\d∉Qd nv from⟨h9,h8⟩;have x8:=Qa h4;have H1:=Qa h1;have H2:=Qa h2;have H3:=Qa h3;have x7:=Qa x2;have hne:=Qat n cap;go_enter func109,ntmps109;go_wp2_with (first
  |(at_builtin;refine Dt w rfl _ _ 89 rfl 246 .nilFunc 8 underlying89 tI rfl pv (.func (.func n) #[] cap) fs rfl rfl rfl rfl H3.o L1 L2 ?_;intro g1 pZ w1 x5 x0 y1
    have A1:=H1.o.kept x0 HD.o.1;have e3:=A1.cq 3 (u:=pv);have e4:=A1.cq 4 (u:=.int .i64 0);have e2:=A1.cq 2 (u:=nv);have e7:=A1.cq 7 (u:=.int .i64 s.lZ);have q3:=A1.free 3;have q2:=A1.free 2;have q7:=A1.free 7)
  |(go_fit(x7.o _<|Qb.setCell (p:=⟨d,3,none⟩) (x0.mono fun x o=>XO _ o) (.inl sx) _);rintro e w3⟨z8,rfl,x4,x1,y3⟩
    have A3:=(A1.set 3<|.slice g1 (fs.length+1) pZ).kept x1 HD.o.2;have y5:=A3.cq 2 (u:=nv);have y6:=A3.cq 7 (u:=.int .i64 s.lZ);have y2:=A3.free 2;have y7:=A3.free 7;have x9:=Qa x4;obtain⟨g3,y0,rfl,-,-,-⟩:=x4.open))
 go_ret;obtain⟨h9,h8⟩:=HD.o;have x3:=x8.o;rw[RU,CC]at x3;have z6:=x0.size;have y4:=x1.size;have zs:(w1.setCell ⟨d,3,none⟩<|.slice g1 (fs.length+1) pZ).heap.size=w1.heap.size:=sx
 rw[zs]at y4;have z1:g1<w1:=x5.lt g1 (by simp[Qd,qo]);have G3:g3∈Qd nv\/w1<=g3:=by have:=y3 g3 (by simp[Qd,qo]);rwa[zs]at this
 have G1:g1∈Qd pv\/w<=g1:=y1;have ln:=H2.o.lt;have n1:g1≠d:=by rcases G1 with h|h;exact fun e=>h9<|e▸h;omega
 have n3:g3≠d:=by rcases G3 with h|h;exact fun e=>h8<|e▸h;omega
 have x6:g1∉Qd nv:=fun h=>by
  rcases G1 with h'|h'
  ·exact x3.2.2.2 _ h _ h' rfl
  have:=ln _ h;omega
 have z7:g3≠g1:=by
  rcases G3 with h|h
  ·intro e;subst e;exact x6 h
  omega
 have ks:Qb [d] w3 ((w3.setCell ⟨d,2,none⟩<|.slice g3 (Qn img.flatten).length y0).setCell ⟨d,7,none⟩<|.int .i64<|(s.lZ:Int)+1):=
  ((Qc [d] w3).setCell (p:=⟨d,2,none⟩) sx _).setCell (p:=⟨d,7,none⟩) sx _
 have kA:Qb (Q2 d nv pv) w (w1.setCell ⟨d,3,none⟩<|.slice g1 (fs.length+1) pZ):=(x0.mono fun x o=>by simp[o]).setCell (p:=⟨d,3,none⟩) (.inl sx) _;refine⟨rfl,_,.slice g1 (fs.length+1) pZ,⟨⟨kv,(A3.set 2 _).set 7 _⟩,x9.o.kept ks (by intro y q;simp[Qd,qo]at q ⊢;omega),⟨fs++[.func (.func n) #[] cap],?_,zx⟩,?_⟩,(kA.trans (x1.mono fun x o=>by simp[o]) fun x o=>.inl o).trans (ks.mono (fun x o=>by simp at o;simp[o])) fun x o=>.inl o,?_⟩
 ·have r1:=x5.kept (((Qc [d] w1).setCell (p:=⟨d,3,none⟩) sx<|.slice g1 (fs.length+1) pZ)) (by intro y q;simp[Qd,qo]at q ⊢;omega);exact(r1.kept x1 (by intro y q;simp[Qd,qo]at q;subst q;exact x6)).kept ks (by intro y q;simp[Qd,qo]at q ⊢;omega)
 ·simp[Qd,qo];omega
 intro y q;simp[Qd,qo]at q;rcases q with rfl|rfl|rfl
 ·exact .inl sx
 ·rcases G3 with h|h
  ·exact .inl (by simp[h])
  right;omega
 rcases G1 with h|h
 ·exact .inl (by simp[h])
 exact .inr h
def yP(h:Dk w d nv pv s)(hs:s.Ok):
 Calls prog 109 #[.pointer d,.nilFunc] w fun e w'=>e=.returned (0:Int)/\Zf w d nv pv {s with lZ:=s.lZ+1} w':=by
 obtain⟨⟨kv,c⟩,g,⟨j,n,j⟩,l⟩:=h;have hf:=hs.flat;have:=hs.len;have:=hs.c2;have j:(Qn s.img.flatten).length=512*s.img.length:=by rw[<-hf];unfold Qn;rw[QH]
 have q:=Qa (wT nv (Qn s.img.flatten) w g (fun m j=>by obtain⟨b,-,rfl⟩:=QA.1 j;rfl) ox);have:=hs.lZ;have:=c.lt;have:=c.cq 4 (u:=.int .i64 0);have c2:=c.cq 2 (u:=nv);have⟨o,t,u⟩:=qc c g l;have hne:=Qau;go_enter func109,ntmps109
 go_wp2_with (go_fit q.o;rintro e n⟨⟨v,y,x,rfl⟩,l⟩
              have c:=o.o.kept l sx;have:=c.free 1;have:=c.free 3;have:=c.free 7;have:=c.cq 7 (u:=.int .i64 s.lZ);have:=c.cq 1 (u:=kv);have:=c.cq 3 (u:=pv))
 go_ret;have j:=u.o;simp only[RU,CC,Q4,Uj]at j;have o:∀m q g:VL,Qb [d] n (((n.setCell ⟨d,1,none⟩ m).setCell ⟨d,3,none⟩ q).setCell ⟨d,7,none⟩ g):=fun m q g=>
  (((Qc [d] n).setCell (p:=⟨d,1,none⟩) sx _).setCell (p:=⟨d,3,none⟩) sx _).setCell (p:=⟨d,7,none⟩) sx _
 refine⟨rfl,nv,(),⟨⟨.slice v y x,((c.set 1 _).set 3 _).set 7 _⟩,(t.o.kept l sx).kept (o _ _ _) fun c c e=>j.1.1 (by simp at e;exact e▸c),⟨[],Qh.nil _ _,sx⟩,?_⟩,(l.mono fun g c=>by cases c).trans ((o _ _ _).mono (fun g c=>by simp at c;simp[c])) fun g c=>.inl c,fun g c=>.inl (by simp[Qd,qo]at c ⊢;rcases c with h|h;exact .inl h;exact .inr<|.inl h)⟩;show(d::(Qd nv++[])).Nodup;rw[XX];exact RU.2 ⟨j.1.1,j.2.1⟩
def Dk.nodup(h:Dk w d nv pv s):d∉Qd nv/\d∉Qd pv/\∀x∈Qd nv,x∉Qd pv:=by have c:=h.2.2.2;simp only[RU,CC,Q4,Uj]at c;exact⟨c.1.1,c.1.2,fun x e g=>c.2.2.2 x e x g rfl⟩
def Zf.from{w1 w'}(h:Zf w1 d nv pv s w')(k:Qb [] w w1):Zf w d nv pv s w':=by obtain⟨e,j,c,g,i⟩:=h;have:=k.size;exact⟨e,j,c,(k.mono fun e c=>by cases c).trans g fun e c=>.inl c,fun e c=>(i e c).imp id fun h=>ox⟩
def Qlr(h:Dk w d nv pv s)(hs:s.Ok)(i x)(hi:i<s.cap)(n:x.length=512):
 Calls prog 74 #[.pointer d,i,.string<|str x] w fun e w'=>e=.returned (0:Int)/\Zf w d nv pv {s with img:=JM s.img i x,lZ:=s.lZ+1} w':=by
 have:(str x).size=512:=n;have:=hs.len;have:=hs.c2;have⟨c,m⟩:=qx<|(w.alloc<|.cells #[(i:Int)] 3).alloc<|.cells #[.string<|str x] 9;have hk:Qb [] w c:=by rw[<-m];exact((Qc [] w).alloc _).alloc _
 have o:Qe c w 3 [i]:=by rw[<-m];exact(Qx w [(i:Int)] 3).kept ((Qc [] _).alloc _) sx
 have p:Qe c (w.heap.size+1) 9 [.string<|str x]:=by rw[<-m];have:=Qx (w.alloc<|.cells #[(i:Int)] 3) [.string<|str x] 9;simpa using this
 have j:=h.kZ hk;have hlt:=h.lt;have y:=Qa (show ∀g,Calls prog 109 #[.pointer d,.func (.func 110) #[] #[.pointer w,.pointer (w.heap.size+1:Nat)]] (c.drewN g) fun e w'=>e=.returned (0:Int)/\Zf w d nv pv {s with img:=JM s.img i x,lZ:=s.lZ+1} w' from fun g=>by
  have l:Qb [] c (c.drewN g):=(Qc [] c).drewN g;obtain⟨z,n2,A⟩:=h.nodup;have nb:∀c,w.heap.size<=c->c∉Q2 d nv pv:=fun c g h=>by have:=hlt c h;omega
  have q:∀c,c∈d::Qd pv->c∈Q2 d nv pv:=fun c g=>by simp at g ⊢;rcases g with h|h;exact .inl h;exact .inr<|.inr h
  have t:∀c,c∈Qd nv->c∈Q2 d nv pv:=fun c g=>by simp[g]
  refine(cG (j.kZ l) hs _ _ _ (fun _=>kx) fun v k1=>?_).mono fun e w' h=>⟨h.1,h.2.from<|hk.trans l fun x n=>.inl n⟩
  refine Qlq nv s.img _ _ i x v (((j.kZ l).2.1).kept k1 fun c g e=>?_) hs.sec ox ox n ((o.kept l sx).kept k1 fun e=>?_) ((p.kept l sx).kept k1 fun e=>?_) ⟨fun e=>?_,fun e=>?_⟩
  ·rcases QD.1 e with e|e
   ·exact z<|e▸g
   exact A c g e
  ·exact nb _ (Qk _)<|q _ e
  ·exact nb _ (DF _)<|q _ e
  ·exact nb _ (Qk _)<|t _ e
  exact nb _ (DF _) (t _ e))
 have g:=Qa<|Km j hs;have c0:=o.cq 0 (u:=.int .i64 i);have c1:=p.cq 0 (u:=.string<|str x);obtain⟨kv,c⟩:=j.1;have c2:=c.cq 0 (u:=.int .i64 s.cap);have g1:decide ((i:Int)<0)=false:=sx
 have:decide (s.cap<=i)=false:=zx
 have g3:¬s.cap<=i:=ox
 have:∀(fn:Fn)(first cap:Array VL)(w:WD),(Instr.makeFunc fn first cap).run prog w=.ok (.func fn first cap) w:=fun _ _ _ _=>rfl
 go_enter func74,ntmps74;go_wp2_with (first|(go_fit g.o;rintro e v⟨rfl,rfl⟩));go_quiet (fail);go_wp2_with (first|(go_fit(y.o _);rintro e g⟨rfl,c⟩));go_ret;exact⟨rfl,c⟩
def yI(h:Dk w d nv pv s)(hs:s.Ok)(n)(hi:n<=s.img.length):
 Calls prog 83 #[.pointer d,n] w fun e w'=>e=.returned (0:Int)/\Zf w d nv pv (s.cut n) w':=by
 have:=hs.len;have:=hs.c2;have⟨c,o⟩:=qx<|w.alloc<|.cells #[(n:Int)] 3;have hk:Qb [] w c:=by rw[<-o];exact(Qc [] w).alloc _
 have m:Qe c w 3 [n]:=by rw[<-o];exact Qx w [(n:Int)] 3
 have j:=h.kZ hk;have hlt:=h.lt;have t:=Qa (show ∀g,Calls prog 109 #[.pointer d,.func (.func 125) #[] #[.pointer w]] (c.drewN g) fun e w'=>e=.returned (0:Int)/\Zf w d nv pv (s.cut n) w' from fun g=>by
  have l:Qb [] c (c.drewN g):=(Qc [] c).drewN g;obtain⟨v,n2,x⟩:=h.nodup;refine(cG (j.kZ l) hs _ _ _ (fun _=>kx) fun q k1=>?_).mono fun e w' h=>⟨h.1,h.2.from<|hk.trans l fun p p=>.inl p⟩
  refine yH nv s.img _ n q (((j.kZ l).2.1).kept k1 fun y p e=>?_) hs.sec ox hi<|(m.kept l sx).kept k1 fun e=>?_
  ·rcases QD.1 e with e|e
   ·exact v<|e▸p
   exact x y p e
  have:=hlt w (by simp at e ⊢;rcases e with h|h;exact .inl h;exact .inr<|.inr h);omega)
 have⟨l,p⟩:=qb (Km j hs) fun g=>DS (j.kZ<|(Qc [] c).drewN g) hs;have c0:=m.cq 0 (u:=.int .i64 n);have g1:decide ((n:Int)<0)=false:=sx
 have:decide (s.img<n)=false:=zx
 have g3:¬s.img<n:=ox
 have:∀(fn:Fn)(first cap:Array VL)(w:WD),(Instr.makeFunc fn first cap).run prog w=.ok (.func fn first cap) w:=fun _ _ _ _=>rfl
 go_enter func83,ntmps83;go_wp2_with (first|(go_fit l.o;rintro e q⟨rfl,rfl⟩));go_quiet ((go_at_call 24;refine Calls.quiet_of_same<|p.o _));go_wp2_with (first|(go_fit(t.o _);rintro e g⟨rfl,c⟩));go_ret;exact⟨rfl,c⟩
def nG(h:Dk w d nv pv s)(hs:s.Ok):
 Calls prog 75 #[.pointer d] w fun e w'=>e=.returned (0:Int)/\Zf w d nv pv (s.tick 1) w':=by
 have⟨c,g⟩:=qb (Km h hs)<|yP h hs;go_enter func75,ntmps75;go_wp2_with (first|(go_fit c.o;rintro e j⟨rfl,rfl⟩)|(go_fit g.o;rintro e l⟨rfl,i⟩));go_ret;exact⟨rfl,i⟩
end
def QJ.bytes0{W g c}(h:W.heap[g]?=some (.cells (bytesRow ⟨#[]⟩ c) 5 ((bytesRow ⟨#[]⟩ c).size,(bytesRow ⟨#[]⟩ c).size+1))):QJ W g (List.replicate c<|.int .u8 0):=by
 have d:bytesRow ⟨#[]⟩ c=Array.replicate c (.int .u8 0):=by have:(⟨#[]⟩:BA).size=0:=rfl;simp[bytesRow,this]
 have hs:(bytesRow ⟨#[]⟩ c).size=c:=by rw[d];simp
 rw[hs]at h;refine⟨_,_,_,h,by rw[hs];simp,fun e i hi=>?_,fun e hi=>?_⟩
 ·rwa[d,<-Array.getElem?_toList,Array.toList_replicate]
 simp at hi ⊢;omega
def Ty(w:WD)(n:Nat)(e:Ending)(w':WD):Prop:=
 ∃c d,e=.returned (.tuple #[.pointer (some ⟨c,0,none⟩),(0:Int)])/\Dk w' c d () ⟨n,[],0⟩/\Qb [] w w'/\∀g∈Q2 c d (),w.heap.size<=g
def Qdd(n:Nat)(w)(c:1<=n)(c:n<=4096):Calls prog 63 #[n,.string ⟨#[]⟩] w (Ty w n):=by
 have c:=fun d:WD=>run_bytes_of_string (P:=prog) d 9 88 5 ⟨#[]⟩ Yw Xo Bi
 have e:(⟨#[]⟩:BA).size=0:=rfl;rw[e]at c;obtain⟨g1,_,g3⟩: ¬(n:Int)<1/\¬(4096:Int)<n/\¬(n:Int)<0:=ox
 go_enter func63,ntmps63
 go_wp2
 go_ret2;obtain⟨g,e⟩:∃d,(w.alloc<|Obj.cells (bytesRow ⟨#[]⟩<|grownCap w 0 0 5) 5 ((bytesRow ⟨#[]⟩<|grownCap w 0 0 5).size,(bytesRow ⟨#[]⟩<|grownCap w 0 0 5).size+1))=d:=⟨_,rfl⟩;rw[e];have⟨c,h⟩:=qx<|grownCap g.drew 0 0 5;have j:c<=maxLen:=h▸Oi _ _ _ _ (Zv _);rw[h];have i:g.heap.size=w.heap.size+1:=by rw[<-e];simp
 have k1:Qb [] w g:=by rw[<-e];exact(Qc _ _).alloc _
 obtain⟨e,h⟩:∃d,g.alloc (Obj.cells (bytesRow ⟨#[]⟩ c) 5 ((bytesRow ⟨#[]⟩ c).size,(bytesRow ⟨#[]⟩ c).size+1))=d:=⟨_,rfl⟩;rw[h];have z2:e.heap.size=w.heap.size+1+1:=by rw[<-h,<-i];simp
 have k2:Qb [] w e:=by rw[<-h];exact k1.alloc _
 have g:QJ e (w.heap.size+1) (List.replicate c<|.int .u8 0):=QJ.bytes0 (by rw[<-h,<-i];exact Xq _ _);have d:=Qx e [(n:Int),.slice w 0<|grownCap w 0 0 5,.slice (w.heap.size+1:Nat) 0 c,.slice none 0 0,(0:Int),.slice none 0 0,.bool false,(0:Int)] 91;rw[z2]at d;have k3:=(((Qc [] e).alloc<|Obj.cells [.int .i64 (n:Int),.slice w 0<|grownCap w 0 0 5,.slice (w.heap.size+1:Nat) 0 c,.slice none 0 0,.int .i64 0,.slice none 0 0,.bool false,.int .i64 0].toArray 91).drew).drew;refine⟨_,.slice (w.heap.size+1:Nat) 0 c,rfl,⟨⟨_,d⟩,⟨_,c,List.replicate c<|.int .u8 0,rfl,?_,by simp[Qn],j⟩,⟨[],Qh.nil _ _,Qk _⟩,?_⟩,k2.trans k3 fun d c=>.inl c,?_⟩
 ·exact g.kept k3 sx
 ·simp[Qd,qo]
 intro d c;simp[Qd,qo]at c;omega
def Qem(n:Nat)(w)(d:1<=n)(e:n<=4096):Calls prog 31 #[n] w (Ty w n):=by have c:=Qa<|Qdd n w d e;go_enter func31,ntmps31;go_wp2_with (go_fit c.o;rintro h i⟨d,g,rfl,e⟩);go_ret2;exact⟨d,g,rfl,e⟩
end
def Yt(w:WD):Prop:=∃c:Int,w.cell? ⟨0,0,none⟩=some (.int .i64 c)
def Yt.kept{S w w'}(h:Yt w)(hk:Qb S w w')(h0:0∉S):Yt w':=by obtain⟨d,c⟩:=h;exact⟨d,hk.cZ c h0⟩
def strs(l:LY):LV:=l.map fun c=>.string (str c)
def UF(l):(strs l).length=l.length:=by simp[strs]
def Fz{l}{i:Nat}{x}(h:l[i]?=some x):(strs l)[i]?=some (.string<|str x):=by simp[strs,h]
def Rp(b):str b.data.toList=b:=by obtain⟨c⟩:=b;rfl
def Qi6(s):((Lib.splitB ⟨#[47]⟩ 0 (Lib.countB s ⟨#[47]⟩) s).map Value.string)=strs (ZO s.data.toList)/\Lib.countB s ⟨#[47]⟩+1=(ZO s.data.toList).length:=by
 have c:(Lib.splitB ⟨#[47]⟩ 0 (Lib.countB s ⟨#[47]⟩) s).map (·.data.toList)=ZO s.data.toList:=by rw[Lib.splitB_data,<-mJ s.data.toList s.data.toList (Qk _)];rfl
 have d:=Lib.splitB_all ⟨#[47]⟩ dx 0 (Lib.countB s ⟨#[47]⟩) s rfl;refine⟨?_,by rw[<-c,QH,d]⟩;rw[<-c,strs,Xv];apply YT;intro b _;simp only[Function.comp,Rp]
def jO(s:BA)(w)(hs:s.size<=1000000)(c:Yt w):
 Calls prog 105 #[s] w fun e w'=>e=.returned (.slice w.heap.size (ZO s).length (ZO s).length)/\w'=w.alloc (.cells (strs<|ZO s).toArray 9):=by
 obtain⟨d,g⟩:=c;have j:=Qa (Tryz.strSplit s ⟨#[47]⟩ d w ox g dx);obtain⟨c,d⟩:=Qi6 s;have⟨h,i⟩:=qb c d;go_enter func105,ntmps105;go_wp2_with fail;go_fit j.o;rintro e c⟨rfl,rfl⟩;rw[h.o,i.o]
 go_wp2
 go_ret;exact⟨rfl,rfl⟩
def wU{A c:LY}{i a}(ha:A[i]?=some a)(hb:c[i]?=some a):Yf (A.drop i) (c.drop i)=Yf (A.drop<|i+1) (c.drop<|i+1):=by obtain⟨e,c⟩:=Qy.1 ha;obtain⟨g,d⟩:=Qy.1 hb;rw[Xf e,Xf g,c,d,Yf,Qg rfl]
def wW{A c:LY}{i a b}(ha:A[i]?=some a)(hb:c[i]?=some b)(h:a≠b):Yf (A.drop i) (c.drop i)=Lib.compareBytes a b:=by obtain⟨e,c⟩:=Qy.1 ha;obtain⟨g,d⟩:=Qy.1 hb;rw[Xf e,Xf g,c,d,Yf,Qf h]
def wV(A c:LY)(i)(h:i=min A.length c.length):Yf (A.drop i) (c.drop i)=if A.length<c.length then -1 else if c.length<A.length then 1 else 0:=by
 rcases CF A c with d|d|d
 ·rw[Qg d,CA ox,Xf (i:=i) (l:=c) ox,Yf]
 ·rw[Qf ox,Qf ox,CA ox,CA ox,Yf]
 rw[Qf ox,Qg d,show c.drop i=[]from CA ox,Xf (i:=i) (l:=A) ox,Yf]
section
open Go.Shelf
attribute [local go_sem] Oper.semAt_some
def XA(l:LU)(f i:Nat)(c:LY):Prop:=
 if l<i then c=[]else f<=i/\c=ZO (l.drop f)/\47∉(l.drop f).take (i-f)
def XA.start(l):XA l 0 0 (ZO l):=by unfold XA;rw[Qf ox];exact⟨ox,sx,sx⟩
def XA.le{l f i r}(h:XA l f i r)(hi:i<=l.length):f<=i:=by unfold XA at h;rw[Qf ox]at h;exact h.1
def XA.last{l f r}(h:XA l f l.length r):r=[(l.drop f).take<|l.length-f]:=by
 unfold XA at h;rw[Qf ox]at h;obtain⟨c,e,c⟩:=h;have d:(l.drop f).take (l.length-f)=l.drop f:=by rw[Q5 sx]
 rw[d]at c ⊢;rw[e,NS _ c]
def XA.cut{l f i r}(h:XA l f i r)(hi:i<l.length)(hb:l[i]'hi=47):∃c,r=(l.drop f).take (i-f)::c/\XA l (i+1) (i+1) c:=by
 unfold XA at h;rw[Qf ox]at h;obtain⟨c,e,g⟩:=h;have d:l.drop f=(l.drop f).take (i-f)++47::l.drop (i+1):=by have c:l.drop f=(l.drop f).take (i-f)++(l.drop f).drop (i-f):=(V3 _ _).symm;rwa[Aq,(ox:f+(i-f)=i),Xf hi,hb]at c
 refine⟨ZO<|l.drop<|i+1,?_,?_⟩
 ·rw[e]
  conv=>lhs;rw[d]
  exact NR _ _ g
 unfold XA;rw[Qf ox];exact⟨ox,rfl,sx⟩
def XA.more{l f i r}(h:XA l f i r)(hi:i<l.length)(hb:l[i]'hi≠47):XA l f (i+1) r:=by unfold XA at h ⊢;rw[Qf ox]at h ⊢;obtain⟨c,c,d⟩:=h;refine⟨ox,c,?_⟩;rw[(ox:i+1-f=(i-f)+1),Zh];simp only[Q4,Uj];refine⟨d,?_⟩;rw[Ut,(ox:f+(i-f)=i),Qj hi];simpa using fun c=>hb c.symm
def XA.over{l f i}(h:l.length<i):XA l f i []:=by unfold XA;rw[Qg h]
def JS(s:ByteArray)(f i)(h:i<=s.size):s.extract f i=str ((s.data.toList.drop f).take<|i-f):=by
 rw[<-Rp (s.extract f i)]
 congr 1
 simp[List.take_drop]
def pO(s:BA)(bs h:Nat)(g:LY->WD->Prop)(k:Nat)(i j:VL)(wr:WD):Prop:=
 ∃f c:Nat,∃d e,c<=s.size+1/\k=s.size+1-c/\i=.int .i64 (f:Nat)/\j=.int .i64 (c:Nat)/\Hid (ZO s=d++e/\XA s f c e/\Qe wr bs 9 [s]/\g d wr/\h<=wr)
def wM(s:BA)(bs w)(hs:s.size<=1000000)(d:Qe w bs 9 [s]):
 Mu prog 84 #[.pointer bs] (fun x:LU=>#[.string<|str x]) [bs] (fun pre x=>∃post,ZO s=pre++x::post) (fun xs=>xs=ZO s) (fun pre=>∃post,ZO s=pre++post) w:=by
 intro c n c p c g h j h0;have l:=Qa (d.kept c sx);have:=Qa g;have:=Qa h;have o:=c.size;have⟨D,m⟩:=qb j h0;have i:=Zr s;have e:=Qa i;clear d g h j c h0 i;refine callsIn_of_wp func84 rfl trivial ?_ rfl;simp only[ntmps84,Ir,QW,YE,Nat.reduceAdd,Nat.reduceSub,Ml,Mm,MG,Mw,YU,XY]
 gi_wp2_with fail
 gi_loopg [3,4] (s.size+1) (fun k c d wr=>pO s bs w n k c d wr)
 ·exact⟨0,0,[],ZO s,ox,ox,rfl,rfl,Qa ⟨rfl,XA.start _,l.o,m.o,o⟩⟩
 obtain⟨f,d,pre,A,hi,hk,rfl,rfl,c⟩:=hrel;have c0:=c.o.2.2.1.cq 0 (u:=.string s)
 by_cases g:d<=s.size
 ·have H:(d:Int)<=s.size:=ox
  by_cases g:d=s.size
  ·have g1:((d:Int)==(s.size:Int))=true:=zx;subst g;have z:f<=s.size:=c.o.2.1.le (by rw[e.o];omega);have F:(f:Int)<=s.size:=ox;have g:=XA.last (l:=s.data.toList) (f:=f) (r:=A) (by rw[e.o];exact c.o.2.1);rw[e.o]at g;have j:=JS s f s.size<|Qk _;have o:=Qa g;obtain⟨fn,I,assign,body,v,q⟩:=D.o pre _ wr c.o.2.2.2.1 c.o.2.2.2.2 ⟨[],by rw[<-o.o];exact c.o.1⟩;rw[<-j]at v;clear g j
   gi_wp2_with fail
   refine q.mono ?_;rintro E B (⟨rfl,l,h,y⟩|⟨rfl,t⟩)
   ·have g:Qe B bs 9 [s]:=(h bs sx).trans c.o.2.2.1;have c0:=g.cq 0 (u:=.string s);have⟨n,m⟩:=qb l g;clear l h g
    gi_wp2_with fail
    go_roundg 0
    ·exact⟨s.size+1,s.size+1,_,[],ox,ox,by go_num,by go_num,Qa ⟨by rw[XX,<-o.o];exact c.o.1,XA.over (by rw[e.o];omega),m.o,n.o,y⟩⟩
    omega
   gi_wp2_with fail
   refine Zj (Dj rfl _ _ _) rfl ?_;exact⟨⟨_,rfl⟩,.inr ⟨_,⟨[],by rw[XX,<-o.o];exact c.o.1⟩,t⟩⟩
  have hlt:d<s.size:=ox
  have g1:((d:Int)==(s.size:Int))=false:=Ze.2 ox;have i0:=UV s d (d:Int) hlt rfl;have⟨b,hb⟩:=qx<|s[d]'hlt;have i:s.data.toList[d]'(by rw[e.o];exact hlt)=b:=hb;rw[hb]at i0;have C:=Qa i;clear hb i
  by_cases o:b=47
  ·subst o;have:∀p,(Instr.index 9 (.string s) (d:Int)).run prog p=.ok (.int .u8 47) p:=i0;clear i0;have z:f<=d:=c.o.2.1.le (by rw[e.o];omega);obtain⟨F,g3⟩:(f:Int)<=d/\(d:Int)<=s.size:=ox;obtain⟨z,p,G⟩:=c.o.2.1.cut (by rw[e.o];exact hlt) C.o;have i:=Qa<|show A=_/\_ from⟨p,G⟩;have j:=JS s f d ox;obtain⟨fn,I,assign,body,v,q⟩:=D.o pre _ wr c.o.2.2.2.1 c.o.2.2.2.2 ⟨z,by rw[<-p];exact c.o.1⟩;rw[<-j]at v;clear p G j
   gi_wp2_with fail
   refine q.mono ?_;rintro E B (⟨rfl,l,h,y⟩|⟨rfl,t⟩)
   ·have g:Qe B bs 9 [s]:=(h bs sx).trans c.o.2.2.1;have c0:=g.cq 0 (u:=.string s);have⟨n,m⟩:=qb l g;clear l h g
    gi_wp2_with fail
    go_roundg (s.size-d)
    ·exact⟨d+1,d+1,_,z,ox,ox,by go_num,by go_num,Qa ⟨by rw[QR,Iq,<-i.o.1];exact c.o.1,i.o.2,m.o,n.o,y⟩⟩
    omega
   gi_wp2_with fail
   refine Zj (Dj rfl _ _ _) rfl ?_;exact⟨⟨_,rfl⟩,.inr ⟨_,⟨z,by rw[QR,Iq,<-i.o.1];exact c.o.1⟩,t⟩⟩
  have F:((b.toNat:Int)==47)=false:=Ze.2 fun E=>o<|DK.1 (by show b.toNat=47;omega)
  gi_wp2_with fail
  go_roundg (s.size-d)
  ·exact⟨f,d+1,pre,A,ox,ox,rfl,by go_num,Qa ⟨c.o.1,c.o.2.1.more (by rw[e.o];exact hlt)<|by rwa[C.o],c.o.2.2.1,c.o.2.2.2.1,c.o.2.2.2.2⟩⟩
  omega
 have H:¬(d:Int)<=s.size:=ox
 gi_wp2_with fail
 go_end0
 refine⟨⟨_,rfl⟩,.inl ?_⟩;have d:=c.o.2.1;unfold XA at d;rw[Qg (by rw[e.o];omega)]at d;rw[c.o.1,d,XX];exact c.o.2.2.2.1
end
section
attribute [local go_sem] Oper.semAt_some
def UY(w0:WD)(bs g e:Nat)(bad:Bool)(out:LY)(d:VL)(W:WD):Prop:=
 Qe W e 4 [.bool bad]/\Qe W g 60 [d]/\Qh W 9 d (strs out)/\(∀c∈Qd d,w0.heap.size<=c/\c≠bs/\c≠g/\c≠e)/\Qb [] w0 W
def UY.mild{w0 A e bs d c n bad out g}(h:UY w0 bs d c bad out g A)(k:Vr [bs] n A e)(l:w0.heap.size<=n)(h0:w0.heap.size<=bs)(i:d≠bs)(j:c≠bs):UY w0 bs d c bad out g e:=
 ⟨k.block _ _ h.1 (by simpa using j)<|.inr rfl,k.block _ _ h.2.1 (by simpa using i)<|.inr rfl,k.row h.2.2.1 (fun d c=>by have:=h.2.2.2.1 d c;simp;omega),h.2.2.2.1,k.kept h.2.2.2.2 zx l⟩
def UY.push{w0 A j bs c d g m cap out x i}(h:UY w0 bs c d false out i A)(k:Qb (Qd i) A j)(o:g∈Qd i\/A.heap.size<=g)(q:Qm j 9 1 (.slice g (m+1) cap) (m+1) (strs out++[.string<|str x]))(e:m=(strs out).length)(l:w0.heap.size<=c)(l:c≠d)(l:bs<A.heap.size):
 UY w0 bs c d false (out++[x]) (.slice g (m+1) cap) (j.setCell ⟨c,0,none⟩<|.slice g (m+1) cap):=by
 obtain⟨n,z2,z3,z4,z5⟩:=h;have:=n.lt;have:=z2.lt;have l:=(Qc [c] j).setCell (p:=c) sx<|.slice g (m+1) cap;have j:d∉Qd i:=fun e=>(z4 d e).2.2.2 rfl
 have n2:c∉Qd i:=fun e=>(z4 c e).2.2.1 rfl
 have i:w0<=g/\g≠bs/\g≠c/\g≠d:=by
  rcases o with h|h
  ·exact z4 g h
  have:=z5.size;omega
 have hf:∀d∈Qd (.slice g (m+1) cap),d=g:=by intro d c;simpa[Qd,qo]using c
 refine⟨(n.kept k j).kept l zx,(z2.kept k n2).set 0 _,?_,fun d c=>by rwa[hf d c],(z5.trans k fun d c=>.inr (z4 d c).1).trans l (by intro d c;simp at c;right;omega)⟩;have hs:strs (out++[x])=strs out++[.string<|str x]:=by simp[strs]
 rw[hs];have i:=Qm.kept q l (by intro d c e;have:=hf d c;simp at e;omega);have c:(strs out++[Value.string<|str x]).length=m+1:=by rw[Qo,e];rfl
 unfold Qh;rwa[c]
def CK:(prog.info? 9).map (fun i=>(i.zero,i.size,i.bytes))=some (some<|.string ⟨#[]⟩,1,16):=by kernel_rfl
def Qiv(c out W)(h:Qh W 9 c (strs out))(hw:K.wt out<=2000000):
 Calls prog 85 #[c,.string ⟨#[47]⟩] W (RK (str<|Xh out) W):=by
 have:=fC out;have:out<=K.wt out:=by
  unfold K.wt;have:∀c:LY,c.length<=(c.map fun d=>d.length+1).sum:=by
   intro c
   induction c with
   |nil=>simp
   |cons d r ih=>rw[QV,Xm,QW];omega
  exact this out
 rcases h.2 with⟨c,d⟩|⟨g,cap,i,c,i,i,n,i,-⟩
 ·rw[UF]at d;have:out=[]:=J4 d;subst this;subst c;exact(Tryz.strJoin0 _ _ ⟨#[47]⟩ W).mono fun e w' ⟨c,d⟩=>⟨c,d▸Qc _ _⟩
 have hb:g<W:=h.lt g (by rw[c];simp[Qd,qo]);obtain⟨b,off,ha,i⟩:∃b off,b=g/\off=0:=⟨g,0,rfl,rfl⟩;have i:(out.map str).map (·.data.toList)=out:=by rw[Xv];exact(YT fun l _=>rfl).trans<|Ex _
 have j:=Tryz.strJoin g 0 cap (out.map str) ⟨#[47]⟩ W (fun o l g=>by
  rw[Zu];have m:(strs out)[o]?=some (.string l):=by unfold strs;rw[Zz]at g ⊢;obtain⟨l,l,rfl⟩:=TC.1 g;rw[l];rfl
  rw[c]at h;exact h.aZ m) hb (by rw[QH];omega) (by rw[QH];simpa[UF]using n) (by rw[i];show(Lib.join out [47]).length<=_;rw[OG];omega)
 rw[i,QH]at j;rw[c,UF];refine j.mono fun e w' ⟨c,d⟩=>⟨?_,Qb.of_below d⟩
 rw[c];show Ending.returned (.string ⟨(Lib.join out [47]).toArray⟩)=_;rw[OG];rfl
def wN(s:BA)(w)(hs:s.size<=1000000):Calls prog 44 #[s] w (RK (.tuple #[str (Rh s).1,.int .i64 (Rh s).2]) w):=by
 have h8:=Qa<|Zr s;refine ET.1<|callsIn_of_wp_marks (F:=Fence.wide) (n:=6) func44 rfl trivial ?_ rfl;refine wpIn_wide.2 ?_;simp only[ntmps44,Ir,QW,YE,Nat.reduceAdd,Nat.reduceSub,Ml,Mm,MG,Mw,YU,XY];have r0:∀(fn:Fn)(first cap:Array VL)(w:WD),(Instr.makeFunc fn first cap).run prog w=.ok (.func fn first cap) w:=fun _ _ _ _=>rfl
 obtain⟨iU,p1,-,r9,-⟩:=VR CK;have q7:=aG (P:=prog) 60 9 iU CL p1;clear p1;go_wp2_with fail
 go_step3
 go_wp2_with fail;have⟨W1,x1⟩:=qx<|(((w.alloc<|.cells #[s] 9).alloc<|.cells #[] 9).alloc<|.cells #[.slice (w.heap.size+1:Nat) 0 0] 60);have p3:Qb [] w W1:=by rw[<-x1];exact(((Qc [] w).alloc _).alloc _).alloc _
 have x0:Qb [] (w.alloc<|.cells #[s] 9) W1:=by rw[<-x1];exact((Qc [] _).alloc _).alloc _
 have p2:Qb [] ((w.alloc<|.cells #[s] 9).alloc<|.cells #[] 9) W1:=by rw[<-x1];exact(Qc [] _).alloc _
 have hA:Qe W1 w 9 [s]:=(Qx w [s] 9).kept x0 sx;have hR:Qh W1 9 (.slice (w.heap.size+1:Nat) 0 0) []:=by have:=(Qh.mt (W:=w.alloc<|.cells #[s] 9) 9).kept p2 sx;simpa using this
 have hO:Qe W1 (w.heap.size+1+1) 60 [.slice (w.heap.size+1:Nat) 0 0]:=by have:=Qx ((w.alloc<|.cells #[s] 9).alloc<|.cells #[] 9) [.slice (w.heap.size+1:Nat) 0 0] 60;rw[<-x1];simpa using this
 rw[x1];have⟨y5,HA,HR,HO⟩:=qd p3 hA hR hO;clear x1 p3 x0 p2 hA hR hO q7 r0;obtain⟨W0,q6⟩:∃W0:WD,W0=W1:=⟨_,rfl⟩;subst q6
 go_loopg [14] s.size (fun k r4 wr=>(∃i:Nat,i<=s.size/\k=s.size-i/\r4=.int .i64 (i:Nat)/\Hid ((s.data.toList.take i).all CT=true))/\Hid (Qb [] W0 wr))
 ·exact⟨⟨0,ox,ox,rfl,Qa sx⟩,Qa<|Qc _ _⟩
 obtain⟨⟨i,hi,hk,rfl,HG⟩,h9⟩:=hrel;have c0:=(HA.o.kept h9.o sx).cq 0 (u:=.string s)
 by_cases hlt:i<s.size
 ·have g0:(i:Int)<s.size:=ox
  have i0:=UV s i (i:Int) hlt rfl;have⟨b,hb⟩:=qx<|s[i]'hlt;have z7:s.data.toList[i]'(by rw[h8.o];exact hlt)=b:=hb;rw[hb]at i0;have HB:=Qa z7;clear hb z7
  by_cases o:b.toNat<32
  ·have g1:decide ((b.toNat:Int)<32)=true:=zx;go_wp2_with fail;rw[Cy];refine⟨.tuple #["",(140:Int)],by simp[results,Ge,go_sem],?_,y5.o.trans h9.o fun x hx=>.inl hx⟩;rw[bH (i:=i) (by rw[h8.o];exact hlt) (by rw[HB.o];simp[CT];omega)];rfl
  have g1:decide ((b.toNat:Int)<32)=false:=zx
  by_cases h2:126<b.toNat
  ·have g2:decide (126<(b.toNat:Int))=true:=zx;go_wp2_with fail;rw[Cy];refine⟨.tuple #["",(140:Int)],by simp[results,Ge,go_sem],?_,y5.o.trans h9.o fun x hx=>.inl hx⟩;rw[bH (i:=i) (by rw[h8.o];exact hlt) (by rw[HB.o];simp[CT];omega)];rfl
  have g2:decide (126<(b.toNat:Int))=false:=zx
  go_wp2
  go_roundg (s.size-(i+1))
  ·refine⟨⟨i+1,ox,rfl,by go_num,Qa ?_⟩,h9⟩;rw[Zh,List.all_append,HG.o,Qj (by rw[h8.o];exact hlt),HB.o];simp[CT];omega
  omega
 have g0:¬(i:Int)<s.size:=ox
 obtain rfl:i=s.size:=ox
 go_wp2_with fail
 go_step3
 go_wp2_with fail;have x8:=(HA.o.kept h9.o sx).kept ((Qc [] wr).alloc<|.cells #[.bool false] 4) sx;have y0:=(HO.o.kept h9.o sx).kept ((Qc [] wr).alloc<|.cells #[.bool false] 4) sx;have y1:=(HR.o.kept h9.o fun x hx h=>by cases h).kept ((Qc [] wr).alloc<|.cells #[.bool false] 4) (fun x hx h=>by cases h);have y6:=Qx wr [.bool false] 4;have x9:=(y5.o.trans h9.o fun x hx=>.inl hx).alloc<|.cells #[.bool false] 4;have r3:=h9.o.size;have q9:=HO.o.lt;have y9:(wr.alloc<|.cells #[.bool false] 4).heap.size=wr.heap.size+1:=sx
 have⟨W2,y2⟩:=qx<|wr.alloc<|.cells #[.bool false] 4;obtain⟨bb,y7⟩:∃g,wr.heap.size=g:=⟨_,rfl⟩;obtain⟨bo,y8⟩:∃g,w.heap.size+1+1=g:=⟨_,rfl⟩;obtain⟨bs,x2⟩:∃g,w.heap.size=g:=⟨_,rfl⟩;rw[show(Obj.cells #[Value.bool false] 4)=Obj.cells [Value.bool false].toArray 4 from rfl]at y2 x8 y0 y1 x9 y9;rw[y2]at x8 y0 y1 y6 x9 y9;have HE:=Qa (ox:bo=bs+2/\w=bs/\bs+2<bb/\W2=bb+1);have HC:=Qa<|show UY w bs bo bb false [] (.slice (bs+1:Nat) 0 0) W2 from⟨by rwa[<-y7],by rwa[<-y8,<-x2],by rwa[<-x2],by simp[Qd,qo];omega,x9⟩;have p7:=Qa (by rwa[<-x2]:Qe W2 bs 9 [s]);clear x8 y0 y1 y6 x9 r3 q9 y9;rw[y8,y7,x2];rw[show(Obj.cells #[Value.bool false] 4)=Obj.cells [Value.bool false].toArray 4 from rfl,y2];clear y2 y8 y7 x2;refine wpIn_wide.1 (kH (w:=W2) (gf:=84) (lb:=#[.pointer bs]) rfl (enters_of func84 kx rfl)
  (wM s bs W2 hs p7.o) (by have:=HE.o;simp;omega) (fun _=>rfl)
  (fun h4 W=>[46,46]∉h4/\∃q,UY w bs bo bb false (Y0 h4) q W)
  (fun c h4 W=>c=.exit 2/\∃p0,h4=p0++[[46,46]]/\[46,46]∉p0/\∃q,UY w bs bo bb true (Y0 p0) q W) ?hI ?hIx ⟨sx,_,HC.o⟩ ?rd ?done ?stop)
 case hI=>exact fun p A B ⟨hp,q,h⟩ hz hm=>⟨hp,q,h.mild hm (yx HE.o) (yx HE.o) (yx HE.o) (yx HE.o)⟩
 case hIx=>exact fun c p A B ⟨hc,p0,hp,hn,q,h⟩ hz hm=>⟨hc,p0,hp,hn,q,h.mild hm (yx HE.o) (yx HE.o) (yx HE.o) (yx HE.o)⟩
 case rd=>
  rintro l h4 x W⟨hp,q,hC⟩ ⟨post,x5⟩ hW;have⟨h5,HP⟩:=qb hC hp;clear hC hp;apply Exists.intro;constructor
  ·intro W' K hK
   gi_wp2
   exact hK
  by_cases o:x=[]\/x=[46]
  ·have x4:Y0 (h4++[x])=Y0 h4:=(by unfold Y0;rw[Ba,List.filter_cons_of_neg (by simp only[o];decide)];simp);have hne:[46,46]∉h4++[x]:=by simp only[Q4,Zb,Uj];refine⟨HP.o,fun e=>?_⟩;subst e;rcases o with h|h<;>cases h
   have HF:=Qa (show _/\∃q,UY w bs bo bb false (Y0<|h4++[x]) q W from⟨hne,q,by rw[x4];exact h5.o⟩);clear x4 hne;rcases o with rfl|rfl
   ·have q1:(str []).toList.isEmpty=true:=by rw[Xk];rfl
    gi_wp2_with fail
    exact⟨KeepsOthers.refl W,fun _ _=>rfl,HF.o⟩
   have q1:(str [46]).toList.isEmpty=false:=(by rw[Xk];rfl);have q2:(str [46]).toList=[46]:=by rw[Xk];rfl
   gi_wp2_with fail
   exact⟨KeepsOthers.refl W,fun _ _=>rfl,HF.o⟩
  by_cases h2:x=[46,46]
  ·subst h2;have HF:Hid (UY w bs bo bb true (Y0 h4) q<|W.setCell ⟨bb,0,none⟩<|.bool true):=(by obtain⟨z1,z2,z3,z4,z5⟩:=h5.o;have k:=(Qc [bb] W).setCell (p:=bb) sx<|.bool true;have:=HE.o;exact Qa ⟨z1.set 0<|.bool true,z2.kept k zx,z3.kept k (fun x hx=>by have:=z4 x hx;simp;omega),z4,z5.trans k (by intro x hx;simp at hx;right;omega)⟩);have q1:(str [46,46]).toList.isEmpty=false:=(by rw[Xk];rfl);have q2:(str [46,46]).toList=[46,46]:=(by rw[Xk];rfl);have c0:=h5.o.1.cq 0 (u:=.bool false);have f0:=h5.o.1.free 0
   gi_wp2_with fail
   exact⟨keeps_of ((Qc [bb] W).setCell (p:=bb) sx<|.bool true)<|by simpa using⟨_,h5.o.1,rfl⟩,rfl,_,rfl,HP.o,_,HF.o⟩
  have x4:Y0 (h4++[x])=Y0 h4++[x]:=by unfold Y0;rw[Ba,List.filter_cons_of_pos (by simp only[o];decide)];rfl
  have a1:(Y0 h4).length<=s.size:=by have e1:=Qt List.length x5;have e2:=Ky s;have e3:(Y0 h4).length<=h4.length:=Ew _ _;rw[h8.o]at e2;simp at e1;omega
  have L1:(strs<|Y0 h4).length+1<=maxLen:=by rw[UF];simp only[maxLen];omega
  have L2:((strs<|Y0 h4).length+1)*16<=140737488355328:=by rw[UF];omega
  have q1:(str x).toList.isEmpty=false:=by
   rw[Xk,XW];cases x with
   |nil=>exact absurd (.inl rfl) o
   |cons b r=>rfl
  have q2:((str x).toList==[46])=false:=by rw[Xk,XW];exact Ze.2 fun e=>o<|.inr e
  have q3:((str x).toList==[46,46])=false:=by rw[Xk,XW];exact Ze.2 h2
  have c0:=h5.o.2.1.cq 0 (u:=q);have p4:(strs<|Y0 h4).length=(Y0 h4).length:=UF _;have⟨q4,r5,p6⟩:=qc x4 p4<|show ¬(x=[]\/x=[46])/\x≠[46,46]from⟨o,h2⟩;clear x4 p4 o h2;have q5:=Qa<|show bo∉Qd q from fun hm=>(h5.o.2.2.2.1 bo hm).2.2.1 rfl
  gi_wp2_with ((gi_at_builtin;refine oV W rfl _ _ 60 rfl 9 ("") 1 16 CL CK rfl dx q (strs<|Y0 h4).length (strs<|Y0 h4) [.string<|str x] rfl rfl rfl rfl (by simp[Value.oneCell']) h5.o.2.2.1 L1 L2 ?_;intro g5 r6 w5 r1 x3 q8;have z6:=h5.o.2.1.kept x3 q5.o;have c5:=z6.cq 0 (u:=q);have f5:=z6.free 0))
  have z8:=UY.push h5.o x3 q8 r1 rfl (yx HE.o) (yx HE.o) (yx HE.o);rw[<-q4.o]at z8;refine⟨keeps_of (S:=bo::Qd q) ((x3.mono fun x hx=>XO _ hx).trans ((Qc [bo] w5).setCell (p:=bo) sx _) (by intro y hy;simp at hy;left;simp[hy])) ?_,fun b hb=>?_,?_,_,z8⟩
  ·intro b hb;rcases QD.1 hb with rfl|hb
   ·exact⟨_,h5.o.2.1,rfl⟩
   rcases h5.o.2.2.1.2 with⟨h,-⟩|⟨g,cap,r7,h,-,hg,-⟩
   ·rw[h]at hb;simp[Qd,qo]at hb
   rw[h]at hb;have:b=g:=(by simpa[Qd,qo]using hb);subst this;exact⟨_,hg,rfl⟩
  ·obtain rfl:b=bs:=(by simpa using hb);have e0:=HE.o;have e1:b∉Qd q:=fun hm=>(h5.o.2.2.2.1 b hm).2.1 rfl
   have e2:=x3.size;exact((Qc [bo] w5).setCell (p:=bo) sx _).block b ox zx|>.trans (x3.block b ox e1)
  simp only[Q4,Zb,Uj];exact⟨HP.o,fun e=>p6.o.2 e.symm⟩
 case' done=>
  rintro D xs W hD rfl⟨hp,q,hC⟩ hK;have HX:=Qa (show ∃bad out,UY w bs bo bb bad out q W/\K.wt out<=s.size+1/\Rh s=(if bad=true\/Xh out=[]\/120<(Xh out).length then([],140)else(Xh out,0))from by
   refine⟨false,_,hC,?_,?_⟩
   ·have o:=OH<|ZO s;rwa[NT,h8.o]at o
   have o:=Pv (ZO s) [] hp;rw[XX]at o;have h2:=HG.o;rw[Q5 (by rw[h8.o];exact Qk _)]at h2;unfold Rh;rw[Qg h2,o];simp[RE])
  clear hp hC
 case' stop=>
  rintro D c h4 W hD⟨post,x5⟩ ⟨rfl,p0,rfl,hp,q,hC⟩ hK;have HX:=Qa (show ∃bad out,UY w bs bo bb bad out q W/\K.wt out<=s.size+1/\Rh s=(if bad=true\/Xh out=[]\/120<(Xh out).length then([],140)else(Xh out,0))from by
   refine⟨true,_,hC,?_,?_⟩
   ·have o:=OH p0;have h2:=NT s;rw[x5,pD,pD,h8.o]at h2;omega
   have h2:=HG.o;rw[Q5 (by rw[h8.o];exact Qk _)]at h2;unfold Rh;rw[Qg h2,x5,QR,Pv p0 _ hp,Iq];simp[RE])
  clear hp hC x5
 all_goals
  obtain⟨bad,out,hC,r2,p5⟩:=HX.o;have⟨y4,x7⟩:=qb hC p5;have c0:=hC.2.1.cq 0 (u:=q);clear hC p5
 case' stop=>apply wpIn_wide.2
 all_goals
  first|go_step3|skip
  go_wp2_with fail;refine(Qiv q out W y4.o.2.2.1 ox).mono ?_;rintro e W2⟨rfl,x0⟩;have p8:=Qa (y4.o.1.kept x0 sx);have b0:=p8.o.cq 0 (u:=.bool bad);have q0:(str<|Xh out).size=(Xh out).length:=rfl;have y3:=x0.heap hK sx;have⟨x6,p9⟩:=qb ((y4.o.2.2.2.2.trans x0 fun x hx=>by cases hx).trans ((Qc [D] W2).put (l:=D) sx<|.deferred none) (fun x hx=>by simp at hx;right;rw[hx];have:=HE.o;omega)) (by cases bad<;>by_cases o:Xh out=[]<;>by_cases h2:120<(Xh out).length<;>simp[o,h2]<;>omega:bad=true\/Xh out=[]\/120<(Xh out).length\/(bad=false/\Xh out≠[]/\(Xh out).length<=120));clear x0 r2;rcases p9.o with o|o|o|⟨o,h2,h3⟩
  ·subst o;go_wp2_with fail;rw[Cy];refine⟨sx,.inl ⟨_,_,rfl,run_takeDeferred y3,?_⟩⟩;refine⟨.tuple #["",(140:Int)],by simp[results,Ge,go_sem],?_,x6.o⟩;rw[x7.o,Qg sx];rfl
  ·have q1:(str<|Xh out).toList.isEmpty=true:=(by rw[o,Xk];rfl);have H1:=Qa o;clear o;cases bad<;>
   ·go_wp2_with fail;rw[Cy];refine⟨sx,.inl ⟨_,_,rfl,run_takeDeferred y3,?_⟩⟩;refine⟨.tuple #["",(140:Int)],by simp[results,Ge,go_sem],?_,x6.o⟩;rw[x7.o,Qg<|.inr<|.inl H1.o];rfl
  ·have q1:(str<|Xh out).toList.isEmpty=false:=by
    rw[Xk,XW];cases hh:Xh out with
    |nil=>rw[hh]at o;simp at o
    |cons=>rfl
   have q2:(120:Int)<((Xh out).length:Int):=ox;have q3:decide (120<(Xh out).length)=true:=(by simpa using o);cases bad<;>
   ·go_wp2_with fail;rw[Cy];refine⟨sx,.inl ⟨_,_,rfl,run_takeDeferred y3,?_⟩⟩;refine⟨.tuple #["",(140:Int)],by simp[results,Ge,go_sem],?_,x6.o⟩;rw[x7.o,Qg<|.inr<|.inr o];rfl
  subst o;have q1:(str<|Xh out).toList.isEmpty=false:=by
   rw[Xk,XW];cases hh:Xh out with
   |nil=>exact absurd hh h2
   |cons=>rfl
  have q2:¬(120:Int)<((Xh out).length:Int):=ox
  have q3:decide (120<(Xh out).length)=false:=by simpa using h3
  go_wp2_with fail;rw[Cy];refine⟨sx,.inl ⟨_,_,rfl,run_takeDeferred y3,?_⟩⟩;refine⟨.tuple #[.string<|str<|Xh out,(0:Int)],by simp[results,Ge,go_sem],?_,x6.o⟩;rw[x7.o,Qf (by simp[h2];omega)]
end
