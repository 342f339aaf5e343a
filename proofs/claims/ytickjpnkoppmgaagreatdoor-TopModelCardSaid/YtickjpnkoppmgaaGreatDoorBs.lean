import Derived.Test.YtickjpnkoppmgaaGreatDoorBr
set_option linter.all false
set_option maxHeartbeats 2000000
set_option maxRecDepth 100000
namespace Go.Proofs.YtickjpnkoppmgaaGreatDoor
open Go.Proofs.Tryz Go.RowKit K
section
open Go.Sort Go.Shelf
def vG{b n c:Nat}{d w}(h:w.cell? ⟨b,1,none⟩=some (.slice d n c)):
 Calls prog 62 #[.pointer b] w fun e d=>e=.returned n/\d=w:=by
 go_enter func62,ntmps62
 go_wp2
 go_ret;exact⟨rfl,rfl⟩
def vL{S w w1 b l}(h:J0 S w b l w1):
 Calls prog 60 #[.pointer b] w1 fun e g=>e=.returned (str l)/\Qb S w g/\Below w.heap.size w1 g/\∃d c,g.cell? ⟨b,1,none⟩=some (.slice d l.length c):=by
 go_fit(Any.Builder_String_any_f Tryz.lays169 Tryz.lext w b l w1 (Lib.IsBuilderF.of h.1) h.2.size);rintro e g⟨i,hb,d⟩;refine⟨i,⟨d.os.trans h.2.os,d.tape.trans h.2.tape,d.output.trans h.2.output,QS h.2.size d.size,fun k hk i=>(d.block k hk).trans<|h.2.block k hk i⟩,d,?_⟩;have:∃d,Lib.BuilderAtF 115 5 w.heap.size b d (Lib.byteCells l) g:=hb.elim (fun h=>⟨_,h⟩) fun h=>⟨_,h⟩;obtain⟨d,-,d,hb,i,-⟩:=this;have d:=Lib.cell_of_heap hb 1;have g:(Lib.byteCells l).length=l.length:=by simp[Lib.byteCells]
 rw[<-g];rcases i.2 with⟨rfl,h0⟩|⟨g,cap,g,g,rfl,-⟩
 ·exact⟨none,0,by rwa[h0]⟩
 exact⟨_,_,d⟩
def Dk.below{d c e g s w w1}(h:Dk w d e g s)(hb:Below c w w1)(i:∀x∈Q2 d e g,x<c):Dk w1 d e g s:=
 h.kept (S:=List.range' c<|w.heap.size-c) ⟨hb.os,hb.tape,hb.output,hb.size,fun k hk c=>hb.block k (by
  rw[List.mem_range'_1]at c;omega)⟩ fun x e c=>by have:=i x e;rw[List.mem_range'_1]at c;omega
def vM{S w w1 b l}(h:J0 S w b l w1)(s:BA)(c:l.length+s.size<=100000000):
 Calls prog 58 #[.pointer b,s] w1 fun e c=>e=.returned (.tuple #[s.size,.nilIface])/\J0 S w b (l++s.data.toList) c/\Below w.heap.size w1 c:=by
 have d:(Lib.byteCells l).length=l.length:=by simp[Lib.byteCells]
 go_fit(Tryz.strWrite w b (Lib.byteCells l) s w1 h.1 (by rw[d];omega) h.2.size);rintro e c⟨i,d,c⟩;have g:Lib.byteCells l++Lib.strCells s=Lib.byteCells (l++s.data.toList):=by simp[Lib.byteCells,Lib.strCells]
 rw[g]at d;exact⟨i,⟨.inr d,⟨c.os.trans h.2.os,c.tape.trans h.2.tape,c.output.trans h.2.output,QS h.2.size c.size,fun k hk d=>(c.block k hk).trans<|h.2.block k hk d⟩⟩,c⟩
def cY{a d nv pv mv s w c}(h:Zn w a d nv pv mv s)(q:Vok s c){m}(hm:m∈s.mem)(hc:s.dev.lZ+10000<=1000000000):
 Calls prog 30 #[.pointer a,str m.path] w fun e w'=>e=.returned (.tuple #[str<|c m.path,(0:Int)])/\
  ZU w a d nv pv mv {s with dev:={s.dev with lZ:=s.dev.lZ+m.eZ.toNat}} w':=by
 have h9:=Qa<|Pb h q.dev (yx q.few) m.path (yx (q.plen hm));rw[q.find hm]at h9;have HH:=Qa h;have h4:=q.mems m hm;have h8:=Vz (f:=(m.path,c m.path)) (q.plen hm) h4.big;have⟨n,hn⟩:=qx<|ZG (m.path,c m.path);rw[hn]at h8;have⟨L,hL⟩:=qx<|Ja (m.path,c m.path);have p0:L=n:=by rw[<-hL,AU,hn]
 have z8:∀x∈L,x.length=512:=by rw[<-hL];exact Hh (q.plen hm) h4.big
 have x1:L.flatten=Yh (m.path,c m.path):=by rw[<-hL];unfold Ja;rw[hn];exact bC _ _ h8.1
 have r9:=q.inX hm;have a1:m.eZ=(n:Int):=by rw[h4.eZ,hn]
 have a6:(m.start.toNat:Int)=m.start:=RT ox;obtain⟨st,p7⟩:∃st:Nat,m.start.toNat=st:=⟨_,rfl⟩;have q7:=Qa (fun i y (hy:L[i]?=some y) W (hD:Dk W d nv pv {s.dev with lZ:=s.dev.lZ+i})=>show Calls prog 57 #[.pointer d,.int .i64<|m.start+(i:Int)] W
  fun e w'=>e=.returned (.tuple #[.string<|str y,(0:Int)])/\Dk w' d nv pv {s.dev with lZ:=s.dev.lZ+(i+1)}/\Qb [d] W w' by
  have hi:=(Qy.1 hy).1;have h1:s.dev.img[st+i]?=some y:=by have:=h4.holds i y (by rwa[hL]);rw[p7]at this;exact this
  have h2:=PL (s:={s.dev with lZ:=s.dev.lZ+i}) hD ⟨q.dev.c1,q.dev.c2,q.dev.len,q.dev.sec,by show s.dev.lZ+i<=_;omega⟩ (st+i) _ h1;rw[show((st+i:Nat):Int)=m.start+(i:Int)by omega]at h2;exact h2.mono fun e w' ⟨e1,e2,e3⟩=>⟨e1,e2,e3⟩)
 have x5:=Qa fun W (hE:Y5 W)=>Qi7 m.path (c m.path) W hE h4.ok h4.big;rw[<-x1]at x5;have y2:=Qa fun W=>Oz (str<|c m.path) W (by have:=h4.big;show(c m.path).length<=_;omega);rw[show YJ (str<|c m.path).data.toList=m.sum from h4.sum.symm]at y2;have y5:((c m.path).length:Int)=m.size:=h4.size.symm;have p4:L.flatten=512*n:=by rw[x1];exact h8.1
 have⟨y8,y9,b2⟩:=qc z8 p0 p4;have b4:n<=200:=h8.2.2;have q1:=Qa<|show Dk w d nv pv {s.dev with lZ:=s.dev.lZ+0}from h.vt.dk;have⟨x,o⟩:=qx<|c m.path;rw[o]at y2 x5 y5 ⊢;have b5:0<=m.start/\m.start<=4096:=yx q.dev.c2
 unfold Q9 at h9;rw[a1]at h9 ⊢;rw[<-y5]at h9;have hd:d<w:=h.vt.lt d (by simp[Q2]);have p2:¬a=d:=fun e=>h.vt.apart.1 (by rw[e];simp[Q2])
 have p8:=Qa<|h.vt.arr.cq 0 (u:=.pointer d);rw[<-x1]at h8;clear h q h4 hn hL p0 z8 x1 r9 a6 p7 y5 o p4 h8 hc;go_enter func30,ntmps30;go_wp2_with (first
  |(go_fit h9.o;rintro e w1⟨rfl,y3⟩))
 have r5:=y3.size;have A1:=Qx w1 [str m.path,m.start,.int .i64 n,.int .i64 x,.int .u32 m.sum] 69;have x6:=y3.alloc<|.cells #[str m.path,m.start,.int .i64 n,.int .i64 x,.int .u32 m.sum] 69;have⟨b,hb⟩:=qx w1.heap.size;have⟨W1,hW⟩:=qx<|w1.alloc<|.cells #[str m.path,m.start,.int .i64 n,.int .i64 x,.int .u32 m.sum] 69;have p1:W1=b+1:=by rw[<-hW,<-hb];simp
 rw[hb]at A1 r5 ⊢;rw[hW];rw[show[Value.string<|str m.path,.int .i64 m.start,.int .i64 n,.int .i64 x,.int .u32 m.sum].toArray=#[Value.string<|str m.path,.int .i64 m.start,.int .i64 n,.int .i64 x,.int .u32 m.sum]from rfl,hW]at A1;rw[hW]at x6;have⟨y6,h5⟩:=qb A1 x6;have x8:¬b=d:=ox
 have r0:=Qa p1;clear hW hb A1 x6 y3 p1
 go_loopg [9,10,11,25] n (fun k x9 b6 b7 a7 wr=>∃i:Nat,i<=n/\k=n-i/\a7=.int .i64 (i:Nat)/\Hid (Dk wr d nv pv {s.dev with lZ:=s.dev.lZ+i})/\Hid (J0 [d] W1 (b+1) (L.take i).flatten wr))
 ·exact⟨0,ox,ox,rfl,Qa<|q1.o.kZ<|h5.o.alloc _,Qa (by rw[<-r0.o];exact J0.new [d] W1)⟩
 obtain⟨i,hi,hk,rfl,HD,HB⟩:=hrel
 by_cases hlt:i<n
 ·have q0:(i:Int)<n:=ox
  have⟨y,hy⟩:=qy L i (yx y9.o);have⟨HR,HT⟩:=qb (fun W=>q7.o i y hy W) (show(L.take<|i+1).flatten=(L.take i).flatten++y by rw[Zh,hy];simp);have p6:(L.take i).flatten.length<=102400:=by have h1:=K.flat_len (l:=L.take i) fun x o=>y8.o x<|Rv o;rw[Zd]at h1;omega
  have⟨q6,r1⟩:=qb p6<|y8.o y<|QB hy;have c0:wr.cell? a=some (.pointer d):=(HB.o.2).cZ (h5.o.cZ p8.o sx) (by simpa using p2);have c1:wr.cell? ⟨b,1,none⟩=some (.int .i64 m.start):=(HB.o.2).cZ (y6.o.cq 1) (by simpa using x8);have w5:IntKind.i64.wrap (m.start+(i:Int))=m.start+(i:Int):=by rw[Zq];omega
  have q3:=Qa hd;clear hy p6 hd;go_wp2_with fail
  go_region_held3 (fun w'=>w'.cell? a=some (.pointer d)/\w'.cell? ⟨b,1,none⟩=some (.int .i64 m.start)) (first|exact⟨c0,c1⟩|exact⟨d0,d1⟩|go_keep)
   ((go_fit(HR.o _<|HD.o.kZ (Qc [] wr).drew);rintro e w3⟨rfl,z7,x2⟩;have d0:=x2.cZ c0 (by simpa using p2);have d1:=x2.cZ c1<|by simpa using x8))
  have p5:Qb [d] wr w3:=Qb.trans (Qc [d] wr).drew x2 fun x o=>.inl o;have z6:=HB.o.kept p5 (fun x o=>o) (fun x o=>by rw[Zb]at o;subst o;exact Av q3.o h5.o.size);have⟨q9,p9⟩:=qb (vM z6 (str y) (by have:=q6.o;have:=r1.o;show _+y.length<=_;omega)) z7;clear x2 p5 z6 z7;go_wp2_with (go_fit q9.o;rintro e w4⟨rfl,r2,r6⟩)
  go_roundg (n-(i+1))
  ·exact⟨i+1,ox,rfl,by go_num,Qa<|p9.o.below r6 fun x o=>Av (HH.o.vt.lt x (by simp only[QN,QD,Q4];exact .inr<|.inr<|by simpa[Q2]using o)) h5.o.size,Qa<|by rwa[HT.o]⟩
  omega
 obtain rfl:i=n:=ox
 have q0:¬(i:Int)<i:=ox
 have p3:(L.take i).flatten=L.flatten:=by rw[Q5 (by rw[y9.o];exact Qk _)]
 have hB:=HB.o;rw[p3]at hB;have a8:=Qa hB;have q8:=Qa<|vL hB;have q4:=Qa fun W (hW:Qb [d] W1 W)=>HH.o.env.kept ((h5.o.mono (T:=[d]) sx).trans hW fun x o=>.inl o) fun x o=>HH.o.low x (by rw[Zb]at o;subst o;simp[Q2]);clear p3 hB;go_wp2_with (first
  |(go_fit q8.o;rintro e w5⟨rfl,x3,r7,o5,b3,y0⟩)
  |(go_fit(x5.o _<|q4.o _ x3);rintro e w6⟨rfl,y4⟩))
 have z1:=((y6.o.kept x3<|by simpa using x8).kept y4 sx);have hE:=Qx w6 [str m.path,.string<|str x] 63;have x4:=y4.alloc<|.cells #[str m.path,.string<|str x] 63;have⟨g,hg⟩:=qx w6.heap.size;have⟨W7,x7⟩:=qx<|w6.alloc<|.cells #[str m.path,.string<|str x] 63;have x0:=z1.kept ((Qc [] w6).alloc<|.cells #[str m.path,.string<|str x] 63) sx;rw[hg]at hE ⊢;rw[x7]at x4 x0 ⊢;rw[show[Value.string<|str m.path,.string<|str x].toArray=#[Value.string<|str m.path,.string<|str x]from rfl,x7]at hE;have H0:=fun w' (hk:Qb [] W7 w')=>hk.cZ (hE.cq 0 (u:=.string<|str m.path)) sx
 have H1:=fun w' (hk:Qb [] W7 w')=>hk.cZ (hE.cq 1 (u:=.string<|str x)) sx
 have H2:=fun w' (hk:Qb [] W7 w')=>hk.cZ (x0.cq 3 (u:=.int .i64 x)) sx
 have H3:=fun w' (hk:Qb [] W7 w')=>hk.cZ (x0.cq 4 (u:=.int .u32 m.sum)) sx
 have H4:=fun w' (hk:Qb [] W7 w')=>vG ((x4.trans hk sx).cZ y0 sx)
 have e1:(str x).size=x:=rfl;have y1:=H1 W7<|Qc _ _;have⟨y7,q5,b1⟩:=qc x4 x3 y0;clear z1 hE x4 y4 x0 x7 y0 x3 hg;refine Mh W7 kx kx (Qc _ _) ?_
 repeat
  first
   |go_big_quiet_skip
   |(go_big_quiet_want
     go_big_quiet_op
     first
      |go_big_quiet_on
      |(apply Exists.intro
        refine⟨fun wq h3=>?_,?_⟩
        ·first
          |with_reducible rfl
          |(go_at_call 61;exact Calls.keptK h3<|y2.o wq)
          |(go_at_call 62;exact Calls.keptK h3<|(H4 wq h3).mono fun e w' ⟨h1,h2⟩=>⟨h1,h2▸Qc _ _⟩)
          |(simp only[H0 wq h3,H1 wq h3,H2 wq h3,H3 wq h3,Ua];exact⟨trivial,rfl⟩)
        go_big_quiet_on))
 refine wpQuiet_nil ?_;intro wq h3;have y1:=H1 wq h3
 go_wp2
 go_ret2;have r3:=(((HD.o.below r7 fun x o=>Av (HH.o.vt.lt x (by simp only[QN,QD,Q4];exact .inr<|.inr<|by simpa[Q2]using o)) h5.o.size).kZ y7.o).kZ h3);have r4:Qb [d] w wq:=(((h5.o.mono (T:=[d]) sx).trans q5.o fun x o=>.inl o).trans y7.o sx).trans h3 sx;exact⟨rfl,HH.o.dev ⟨nv,pv,r3,r4.mono (fun x o=>by rw[Zb]at o;subst o;simp[Q2]),QQ.refl _ _⟩⟩
end
def vB(xs n)(h:Ym xs n=true):(U8 xs n).2.1.length=ZP xs.length:=by
 have e:(QE xs).length=xs.length:=Vi xs;have c:(YZ xs n).2.1.length=ZP xs.length:=by unfold YZ;rw[h,Qg rfl];show(AI xs).length=_;unfold AI;simp
 have d:(XD xs n).2.1.length=ZP xs.length:=by unfold XD;rw[h,Qg rfl];show(Q0<|RG _ _ _ _).length=_;rw[XS,Pz,e]
 unfold U8;rw[Qg (bB xs n h).2]
 split
 ·exact c
 exact d
def Qad(l:List LI)(m)(h:∀t∈l,XM t=true/\t.length<=m):(l.flatMap Q7).length<=(5+39*m)*l.length:=by
 induction l with
 |nil=>simp
 |cons t l ih=>
  have:=ih fun d c=>h d (by simp[c])
  obtain⟨d,c⟩:=h t sx;have c:=(Ve t).1 (Vc d);have:=lX (t.headD 0) t (c.2 _<|Om t ox) c.2;rw[Jd,Qo,QW];have h6:(Q7 t).length<=5+39*m:=by unfold Q7;rw[Qo,Yl];omega
  rw[Iz];omega
def vI(x):(XR [x]).length<=2000:=by
 have e:=Ed [x];have hp:=Fw [x] sx;have⟨c,g⟩:=qx<|ZF [x];rw[g]at e hp;simp only[QW,YE]at e;have hb:=Re c hp ox;have:(QM c).length<=1:=by
  obtain⟨d,rfl⟩:∃d,c=[d]:=by
   match c,e,hp with
   | [d],_,_=>exact⟨d,rfl⟩
   |_::_::_,e,_=>simp at e;omega
  match hL:QM [d]with
  | []=>simp
  | [_]=>simp
  |a::b::r=>have e:=Hx [d];rw[hL]at e;have ha:a=d:=(by simpa using(GT [d] a).1 (by rw[hL];simp));have hb:b=d:=(by simpa using(GT [d] b).1 (by rw[hL];simp));have:=(Vo.1 e).1 b sx;rw[ha,hb]at this;exact absurd this sx
 obtain⟨i,d,j,l⟩:=Af hb.fit.may;have e:=Sm<|QM c;have:=NM c hp ox;have hs:=hb.slen;have d:(QI c).2.1.length=ZP (Q0<|Xe c).length:=vB _ _ hb.list;rw[XS]at d;have h:(QI c).2.1.length<=1:=by rw[d];unfold ZP;omega
 have:=Qad (QI c).1 3 fun e d=>⟨(j e d).2.2,yx (hb.fit.len e d)⟩
 have h6:=iJ (QE (QI c).2.1) (List.range (QI c).1.length)<|iO l;rw[VK,Vi]at h6;have h7:(QI c).2.1.length*(QI c).1.length<=1*6:=Ga h i.2;have:(Zx (QI c).1 (QI c).2.1).length<=800:=by unfold Zx JF;simp only[Qo,Yl];omega
 unfold XR U9;rw[g];rw[Qo,Qo,Qo,CW];omega
def lS(p x)(hp:p.length<=100):ZG (p,[x])=2:=by
 have:=vI x;have:1<=(XN [x]).length/\(XN [x]).length<=2200:=by unfold XN;simp only[Qo,YP,Yl];rw[Qf sx];simp[Zl];omega
 have c:=Bq<|Qw<|XN [x];rw[UD]at c;have d:(Ug p 1).length=512:=by unfold Ug UE;rw[Qg hp];exact Ad _ _ hp sx
 unfold ZG Yh;rw[Qo,c];have:((p,[x]):QC).2.length=1:=rfl;rw[show(Ug ((p,[x]):QC).1 ((p,[x]):QC).2.length).length=512 from d];omega
def dE{cap need g l}(e:1<=need)(c:30<=cap)(hk:ZZ cap l=true)(d:30<=g)(i:g+need<=cap)(hf:UA l g need)(n:∀t,30<=t->t<g->¬UA l t need):YR cap l need=some g:=by
 cases h:YR cap l need with
 |none=>exact absurd hf<|dF e c hk h g d i
 |some t=>
  obtain⟨-,i,-,j,m⟩:=GD e c h;rcases Int.lt_trichotomy t g with c|rfl|c
  ·exact absurd j<|n t i c
  ·rfl
  exact absurd hf<|m g d c
def Vst.room_mem(s:Vst)(n):(s.room n).mem=s.mem:=(Vst.room_same s n).1
def kG{s:Vst}{f:QC}{g}(hb:Vst.bad [f]=0)(d:¬16<(Q8 s.mem [Vst.noteF (f,(0,0))]).length)(ha:YR s.dev.cap s.exts (ZG f)=some g):
 (s.put [f]).1=0/\(s.put [f]).2.mem=UO ⟨f.1,g,ZG f,f.2.length,YJ f.2⟩ s.mem/\(s.put [f]).2.dev.cap=s.dev.cap:=by
 have c:s.put [f]=(0,((s.room 2).write [(f,(g,(ZG f:Int)))]).commit [Vst.noteF (f,(g,(ZG f:Int)))]):=by
  unfold Vst.put;rw[Qf (by rw[hb];simp),Qf sx,Qf<|by simpa using d];have d:Vst.alloc s.dev.cap s.exts [f]=some [(f,(g,(ZG f:Int)))]:=by simp[Vst.alloc,ha]
  rw[d];simp
 rw[c];refine⟨rfl,?_,?_⟩
 ·show Q8 (s.room 2).mem _=_;rw[Vst.room_mem];rfl
 exact(Vst.room_same s 2).2.1
def Qgr{m t s s'}(c:¬(m.start-t<m.eZ/\m.start≠t))(d:m.start≠t)(e:s.move m.path t=(0,s')):Vst.pull [m] t s=s'.trim:=by unfold Vst.pull;simp only[Qf c,Qg d,ne_eq,not_true,CX,e];rfl
abbrev fB:QC:=([98],[50])
abbrev fA:QC:=([97],[49])
def Qk8(c0:LU->LU):∃s1 e c d c1 c2,(Vst.fresh 60).put [fB]=(0,s1)/\Vok s1 c1/\s1.put [fA]=(0,e)/\Vok e c2/\e.del [98]=(0,c)/\Vok c c2/\c.compact=(0,d)/\Vok d c2/\
 d.mem=[⟨[97],30,2,1,YJ [49]⟩]/\c2 [97]=[49]/\s1.dev.lZ<=60006/\e.dev.lZ<=120006/\c.dev.lZ<=180006/\d.dev.lZ<=240006:=by
 have q:∀{h i:Type}(d:h × i)(a:h),d.1=a->d=(a,d.2):=fun d a d=>by rw[<-d]
 have h0:=Vok.fresh 60 dx dx c0;have k0:(Vst.fresh 60).dev.lZ<=6:=by show 0+(Yp 0 []).length+1<=6;rw[Un];decide
 have o:Xr [98]=true:=by decide+kernel
 have z:Xr [97]=true:=by decide+kernel
 have lt:Xp [97] [98]<0:=by decide+kernel
 have i:ZG fB=2:=lS _ _ sx;have t:ZG fA=2:=lS _ _ sx;have j:YR ((Vst.fresh 60).dev.cap:Nat) (Vst.fresh 60).exts (ZG fB)=some 30:=by rw[i];show YR 60 [] 2=some 30;exact dE dx dx ((YL _ _).2 ⟨fun n d=>absurd d EC,List.Pairwise.nil⟩) dx dx (fun n d=>absurd d sx) (fun w h u=>ox)
 obtain⟨v,a2,a3⟩:=kG (s:=Vst.fresh 60) (f:=fB) (g:=30) (by simp[Vst.bad,o]) (by show ¬16<(Q8 [] [_]).length;simp[Q8,BI,Vst.noteF,UO,XT]) j;obtain⟨p,-,-⟩:=h0.put [fB] (QS (Tv k0 _) dx) v;rw[i]at a2;have⟨s1,y⟩:=qx<|((Vst.fresh 60).put [fB]).2;rw[y]at a2 a3 p;have i:s1.mem=[⟨[98],30,2,1,YJ [50]⟩]:=by rw[a2];unfold Vst.fresh UO XT;congr 1
 have k1:=QS p.c1<|Tv k0 _;rw[i]at k1;have j:ZV [(⟨[98],30,2,1,YJ [50]⟩:RM)]=2:=rfl;rw[j]at k1;have o:s1.exts=[(30,2)]:=by unfold Vst.exts;rw[i];rfl
 have c1:(s1.dev.cap:Int)=60:=by rw[a3];rfl
 have j:YR s1.dev.cap s1.exts (ZG fA)=some 32:=by
  rw[t,o,c1];refine dE dx dx ((YL _ _).2 ⟨fun n d=>?_,Tn ..⟩) dx dx (fun n d=>?_) fun w h u o=>?_
  ·rw[Zb]at d;subst d;exact⟨dx,dx,dx⟩
  ·rw[Zb]at d;subst d;exact .inr dx
  have:=o (30,2) sx;simp at this;omega
 obtain⟨w,o,x⟩:=kG (s:=s1) (f:=fA) (g:=32) (by simp[Vst.bad,z]) (by rw[i];simp[Q8,BI,Vst.noteF,UO,XT,lt]) j;obtain⟨j,-,-⟩:=p.ok.put [fA] (by simp at k1;omega) w;rw[t,i]at o;have⟨e,z⟩:=qx<|(s1.put [fA]).2;rw[z]at o x j;have i:e.mem=[⟨[97],32,2,1,YJ [49]⟩,⟨[98],30,2,1,YJ [50]⟩]:=by rw[o];simp[UO,XT,lt]
 have k2:=j.c1;rw[i]at k2;have q2:ZV [(⟨[97],32,2,1,YJ [49]⟩:RM),⟨[98],30,2,1,YJ [50]⟩]=4:=rfl;rw[q2]at k2;have o:e.find [98]=(0,⟨[98],30,2,1,YJ [50]⟩):=j.ok.find (m:=⟨[98],30,2,1,YJ [50]⟩) (by rw[i];simp);have g1:(e.del [98]).1=0:=by unfold Vst.del;rw[Qf (by rw[o];simp)]
 obtain⟨o,-,t⟩:=j.ok.del [98] (by simp at k1 k2;omega) g1;have⟨c,A⟩:=qx<|(e.del [98]).2;rw[A]at o t;rw[i]at t;have i:c.mem=[⟨[97],32,2,1,YJ [49]⟩]:=by rw[t];rfl
 have k3:=o.c1;have c3:(c.dev.cap:Int)=60:=by rwa[o.cap,x]
 have t:c.exts=[(32,2)]:=by unfold Vst.exts;rw[i];rfl
 have d:ZZ c.dev.cap (c.exts++[(30,2)])=true:=by
  rw[t,c3];refine(YL _ _).2 ⟨fun n d=>?_,?_⟩
  ·simp at d;rcases d with rfl|rfl<;>exact⟨dx,dx,dx⟩
  refine Vo.2 ⟨fun x n=>?_,Tn ..⟩;simp at n;subst n;exact .inr dx
 obtain⟨t,C,n2,B,D,E⟩:=o.ok.move_to (m:=⟨[97],32,2,1,YJ [49]⟩) (by rw[i];simp) (tg:=30) d (by simp at k1 k2;omega);have B:t.mem=[⟨[97],30,2,1,YJ [49]⟩]:=by
  have d:t.mem.length=1:=by have:=Qt List.length E;rw[QH,QH,i]at this;simpa using this
  obtain⟨x,n⟩:=List.length_eq_one_iff.1 d;have h:=(D x).1 (by rw[n];simp);rw[i]at h;rw[n];rcases h with h|⟨h,u⟩
  ·rw[h]
  simp at h;subst h;exact absurd rfl u
 obtain⟨h,t2,-,t4,-⟩:=n2.ok.trim (by have:=n2.c1;simp at k1 k2 this;omega);have hb:Vst.bZ c.mem=c.mem:=by rw[i];exact List.perm_singleton.1<|DL _
 have d:c.compact=t.trim:=by unfold Vst.compact;rw[hb,i];exact Qgr sx sx C
 have k4:=t2.c1;have k5:=n2.c1;refine⟨s1,e,c,t.trim.2,_,_,by rw[<-y];exact q _ _ v,p.ok,by rw[<-z];exact q _ _ w,j.ok,by rw[<-A];exact q _ _ g1,o.ok,by rw[d];exact q _ _ h,t2.ok,by rw[t4];exact B,?_,?_,?_,?_,?_⟩
 ·exact Hw (l:=[fA]) sx (f:=fA) sx
 all_goals simp at k1 k2 k5;omega
section
open Go.Sort Go.Shelf
structure Rs where
 act:Ys
 fv:VL
 fat:Int
 kv:VL
def Uf(x:Rs):LV:=[x.act.kind,str x.act.path,str x.act.text,x.act.tg,x.fv,x.fat,x.kv]
structure Dv(w:WD)(v:VL)(l:List Rs):Prop where
 see:∃a c,v=.slice a l.length c/\Qp w 7 a l.length (Qs Uf l)
 few:l.length<=17592186043904
 ents:∀x∈l,UZ w x.fv x.act.files
 keep:∀x∈l,∃a n c,x.kv=.slice a n c
 strs:∀x∈l,x.act.path.length<=140737488351232/\x.act.text.length<=140737488351232/\x.act.files.length<=17592186043904/\∀f∈x.act.files,f.1.length<=140737488351232/\f.2.length<=140737488351232
def Dv.kZ{w w' v l}(h:Dv w v l)(hk:Qb [] w w'):Dv w' v l:=by obtain⟨a,c,d,e⟩:=h.see;exact⟨⟨a,c,d,e.kZ hk⟩,h.few,fun d c=>(h.ents d c).kZ hk,h.keep,h.strs⟩
def cK{w a n l}(h:Qp w 7 a n (Qs Uf l)){i}{x:Rs}(e:l[i]?=some x):
 ∃g off,a=some ⟨g,off,none⟩/\∀r u,r<7->(Uf x)[r]?=some u->w.cell? ⟨g,off+i*7+r,none⟩=some u:=by
 have h0:=Vy (enc:=Uf) (k:=7) (fun _=>rfl) l i 0 x e dx;obtain⟨g,off,d,-⟩:=h.2 _ x.act.kind (by rw[h0];rfl);refine⟨g,off,d,fun r u j m=>?_⟩;obtain⟨c,c,c,c2⟩:=h.2 _ u (by rwa[Vy (enc:=Uf) (k:=7) (fun _=>rfl) l i r x e j]);rw[d]at c;injection c with c;injection c with c e3;subst c e3;rwa[Y7]
def FM(x:Rs):Prop:=x.act.path.length<=200/\x.act.files.length<=20/\∀f∈x.act.files,f.1.length<=200
def pW(l:List Rs)(e:Ending):Prop:=∃b:Bool,e=.returned (.bool b)/\(b=true->l.length<=200/\∀c∈l,FM c)
def Qiu(n:Int)(w)(c: -9223372036854775808<=n)(c:n<=9223372036854775807):Calls prog 9 #[n,(200:Int)] w fun e w'=>(∃c:Nat,e=.returned (.int .i64 c)/\31<=c/\c<=231)/\w'=w:=by
 have⟨r,d⟩:=qx<|n.tmod 200;have: -200<r/\r<200:=by
  rw[<-d];rcases Int.lt_or_le n 0 with d|d
  ·have e:n.tmod 200= -((-n).tmod 200):=(by rw[Int.neg_tmod];omega);rw[e,BQ ox];omega
  rw[BQ d];omega
 have⟨c,d⟩:=qx<|(r+200).tmod 200;have t2:0<=c/\c<200:=by rw[<-d,BQ ox];omega
 have:IntKind.i64.wrap r=r:=by rw[Zq];omega
 have:IntKind.i64.wrap (r+200)=r+200:=by rw[Zq];omega
 have:IntKind.i64.wrap c=c:=by rw[Zq];omega
 have:IntKind.i64.wrap (31+c)=31+c:=by rw[Zq];omega
 go_enter func9,ntmps9
 go_wp2
 go_ret;exact⟨⟨(31+c).toNat,by rw[RT ox];rfl,ox,ox⟩,rfl⟩
def zI(v l w)(h:Dv w v l)(x0:Int)(z6:0<=x0/\x0<=40000):Calls prog 6 #[v,x0] w fun e w'=>pW l e/\w'=w:=by
 obtain⟨a,c,rfl,hs⟩:=h.see;have⟨n,hn⟩:=qx l.length;have HH:=Qa h;rw[hn]at hs ⊢;have z7:n<=17592186043904:=by rw[<-hn];exact h.few
 have⟨HS,HN⟩:=qb hs hn;go_enter func6,ntmps6
 go_wp2
 go_loopg [5,6,7] n (fun k x5 x6 x7 wr=>(∃(i:Nat)(N:Int),i<=n/\k=n-i/\x5=.int .i64 N/\x6=.int .i64 (i:Nat)/\200*i<=N/\N<=x0/\Hid (∀x∈l.take i,FM x))/\wr=w)
 ·exact⟨⟨0,0,ox,ox,rfl,rfl,ox,ox,Qa sx⟩,rfl⟩
 obtain⟨⟨i,N,hi,hk,rfl,rfl,y7,y8,HG⟩,rfl⟩:=hrel
 by_cases hlt:i<n
 ·have q0:(i:Int)<n:=ox
  have⟨x,hx⟩:=qy l i (yx HN.o);obtain⟨g,off,rfl,hc⟩:=cK HS.o hx;have x2:=QB hx;obtain⟨af,cf,x3,h9⟩:=HH.o.ents x x2;obtain⟨y1,y2,y3,y4⟩:=HH.o.strs x x2;have c1:=hc 1 (.string<|str x.act.path) dx rfl;have c2:=hc 2 (.string<|str x.act.text) dx rfl;have c4:=hc 4 x.fv dx rfl;have⟨fl,h8⟩:=qx x.act.files;have⟨m,hm⟩:=qx fl.length;rw[x3,h8,hm]at c4;rw[h8,hm]at h9 y3;have⟨q,hq⟩:=qx<|min ((str x.act.text).size:Int) 20000;have z8:0<=q/\q<=20000:=ox
  have y0:(str x.act.path).size=x.act.path:=rfl;have⟨p,hp⟩:=qx x.act.path.length;have w1:IntKind.i64.wrap (200+q)=200+q:=by rw[Zq];omega
  have w2:IntKind.i64.wrap (N+(200+q))=N+(200+q):=by rw[Zq];omega
  have HX:=Qa<|Qr hx<|Qr h8<|Qr hm<|Qr hp h9;rw[hp]at y0 y1
  by_cases h1:200<p
  ·have g1:(200:Int)<p:=ox
   go_wp2
   go_ret;exact⟨⟨false,rfl,sx⟩,rfl⟩
  have g1:¬(200:Int)<p:=ox
  by_cases h2:20<m
  ·have g2:(20:Int)<m:=ox
   go_wp2
   go_ret;exact⟨⟨false,rfl,sx⟩,rfl⟩
  have g2:¬(20:Int)<m:=ox
  by_cases h3:x0<N+(200+q)
  ·go_wp2
   go_ret;exact⟨⟨false,rfl,sx⟩,rfl⟩
  go_wp2
  go_loopg [5,7] m (fun k x5 x7 wz=>(∃(j:Nat)(M:Int),j<=m/\k=m-j/\x5=.int .i64 M/\x7=.int .i64 (j:Nat)/\200*i+200<=M/\M<=x0/\Hid (∀f∈fl.take j,f.1.length<=200))/\wz=wr)
  ·exact⟨⟨0,_,ox,ox,rfl,rfl,ox,ox,Qa sx⟩,rfl⟩
  obtain⟨⟨j,M,hj,y9,rfl,rfl,y5,y6,HF⟩,rfl⟩:=hrel
  by_cases z1:j<m
  ·have q1:(j:Int)<m:=ox;obtain⟨hx,h8,hm,hp,h9⟩:=HX.o;have⟨f,hf⟩:=qy fl j ox;obtain⟨g',p2,rfl,d0,d1⟩:=Cd h9 hf;have⟨u,hu⟩:=qx<|min ((str f.2).size:Int) 20000;have p0:0<=u/\u<=20000:=ox;have⟨pf,x1⟩:=qx f.1.length;have p1:(str f.1).size=pf:=x1;have x9:=((HH.o.strs x<|QB hx).2.2.2 f (by rw[h8];exact QB hf)).1;rw[x1]at x9;have w3:IntKind.i64.wrap (100+u)=100+u:=(by rw[Zq];omega);have w4:IntKind.i64.wrap (M+(100+u))=M+(100+u):=(by rw[Zq];omega);have x8:=Qa (show pf<=200->∀f∈fl.take (j+1),f.1.length<=200 from fun h y o=>by
    rw[Zh,hf]at o;rcases Q4.1 o with o|o
    ·exact HF.o y o
    simp at o;subst o;omega)
   by_cases h4:200<pf
   ·have g4:(200:Int)<pf:=ox
    go_wp2
    go_ret;exact⟨⟨false,rfl,sx⟩,rfl⟩
   have g4:¬(200:Int)<pf:=ox
   by_cases h5:x0<M+(100+u)
   ·go_wp2
    go_ret;exact⟨⟨false,rfl,sx⟩,rfl⟩
   go_wp2
   go_roundg (m-(j+1))
   ·exact⟨⟨j+1,_,ox,rfl,rfl,by go_num,ox,ox,Qa<|x8.o ox⟩,rfl⟩
   omega
  obtain rfl:m=j:=ox
  have q1:¬(m:Int)<m:=ox
  have x4:=Qa (show ∀y∈l.take (i+1),FM y from fun y o=>by
   obtain⟨hx,h8,hm,hp,h9⟩:=HX.o;rw[Zh,hx]at o;rcases Q4.1 o with o|o
   ·exact HG.o y o
   simp at o;subst o;refine⟨ox,by rw[h8];omega,fun f hf=>?_⟩;rw[h8]at hf;exact HF.o f (by rwa[Q5 ox]))
  go_wp2
  go_roundg (n-(i+1))
  ·exact⟨⟨i+1,_,ox,rfl,rfl,by go_num,ox,ox,x4⟩,rfl⟩
  omega
 obtain rfl:n=i:=ox
 have q0:¬(n:Int)<n:=ox
 go_wp2
 go_ret;refine⟨⟨true,rfl,fun _=>⟨yx HN.o,?_⟩⟩,rfl⟩;have:=HG.o;rwa[Q5 (by rw[HN.o];exact Qk _)]at this
def rJ(w:WD)(n:Nat)(e:Ending)(w':WD):Prop:=
 ∃c a d g,e=.returned (.tuple #[.pointer (some ⟨c,0,none⟩),.pointer (some ⟨a,0,none⟩)])/\Zn w' a c d g () (Vst.fresh n)/\Qb [] w w'/\∀h∈QN a c d g (),w.heap.size<=h
def jE(n:Nat)(w)(o:31<=n)(h:n<=4096)(c:Y5 w)(p:10<=w.heap.size):Calls prog 8 #[n] w (rJ w n):=by
 have j:=Qa<|Qem n w ox h;have i:=Qa c;go_enter func8,ntmps8;go_wp2_with (first
  |(go_fit j.o;rintro m z⟨l,y,rfl,s,g,e⟩)
  |(go_fit(Qe8 s o h (i.o.kZ g) fun c d=>QS p<|e c d);rintro m A⟨a,v,x,rfl,q,u,t⟩))
 go_ret2;exact⟨l,a,v,x,rfl,q,g.trans u fun c d=>.inr<|e c d,fun c d=>(t c d).elim (e c) fun c=>QS g.size c⟩
def acts_ok{a d g i mv s w c}(h:Zn w a d g i mv s)(l:Vok s c)(x:Rs)(n:UZ w x.fv x.act.files)(j:FM x)(hs:x.act.text.length<=140737488351232/\∀f∈x.act.files,f.2.length<=140737488351232)(m:s.dev.lZ+200000<=1000000000):
 Calls prog 15 #[.pointer a,.agg (Uf x).toArray] w fun e w'=>e=.returned (.int .i64 (s.does x.act).1)/\ZU w a d g i mv (s.does x.act).2 w':=by
 obtain⟨g1,A,g3⟩:=j;have⟨i,o,q,u,p,z,v,y⟩:=qh (fun g=>(Qc [] w).alloc g) (fun j (g:Qb [] w j)=>Mf (h.kZ g) l x.act.path x.act.text ox hs.1 ox) (fun j (g:Qb [] w j)=>cA (h.kZ g) l x.act.path ox ox) (fun j (g:Qb [] w j)=>iH (h.kZ g) l x.act.path ox x.act.tg ox) (fun j (g:Qb [] w j)=>bU (h.kZ g) l m) (fun j (g:Qb [] w j)=>nX (h.kZ g) l ox) (fun j (g:Qb [] w j)=>SD (h.kZ g) l x.fv x.act.files (n.kZ g) ox (fun f hf=>⟨yx (g3 f hf),hs.2 f hf⟩) ox) h.refl;have t:=Qa<|show s.does x.act=s.does x.act from rfl;have⟨j,g⟩:=qx<|s.does x.act;rw[g];unfold Vst.does at g;unfold Uf
 by_cases h0:x.act.kind=0
 ·rw[Qg h0]at g;have m:(x.act.kind==0)=true:=by rw[h0];rfl
  have j:=Qa g;go_enter func15,EP;go_wp2_with (go_fit(o.o _<|i.o _);rintro e t⟨rfl,l⟩);go_ret;rw[<-j.o];exact⟨rfl,.from (i.o _) l⟩
 rw[Qf h0]at g;have m:(x.act.kind==0)=false:=Ze.2 h0
 by_cases m:x.act.kind=1
 ·rw[Qg m]at g;have n:(x.act.kind==1)=true:=by rw[m];rfl
  have j:=Qa g;go_enter func15,EP;go_wp2_with (go_fit(q.o _<|i.o _);rintro e t⟨rfl,l⟩);go_ret;rw[<-j.o];exact⟨rfl,.from (i.o _) l⟩
 rw[Qf m]at g;have n:(x.act.kind==1)=false:=Ze.2 m
 by_cases n:x.act.kind=2
 ·rw[Qg n]at g;have q2:(x.act.kind==2)=true:=by rw[n];rfl
  have j:=Qa g;go_enter func15,EP;go_wp2_with (go_fit(u.o _<|i.o _);rintro e t⟨rfl,l⟩);go_ret;rw[<-j.o];exact⟨rfl,.from (i.o _) l⟩
 rw[Qf n]at g;have q2:(x.act.kind==2)=false:=Ze.2 n
 by_cases o:x.act.kind=3
 ·rw[Qg o]at g;have q:(x.act.kind==3)=true:=by rw[o];rfl
  have j:=Qa g;go_enter func15,EP;go_wp2_with (go_fit(p.o _<|i.o _);rintro e t⟨rfl,l⟩);go_ret;rw[<-j.o];exact⟨rfl,.from (i.o _) l⟩
 rw[Qf o]at g;have q:(x.act.kind==3)=false:=Ze.2 o
 by_cases p:x.act.kind=4
 ·rw[Qg p]at g;have q:(x.act.kind==4)=true:=by rw[p];rfl
  have j:=Qa g;go_enter func15,EP;go_wp2_with (go_fit(z.o _<|i.o _);rintro e t⟨rfl,l⟩);go_ret;rw[<-j.o];exact⟨rfl,.from (i.o _) l⟩
 rw[Qf p]at g;have q:(x.act.kind==4)=false:=Ze.2 p
 by_cases q:x.act.kind=5
 ·rw[Qg q]at g;have u:(x.act.kind==5)=true:=by rw[q];rfl
  have j:=Qa g;go_enter func15,EP;go_wp2_with (go_fit(v.o _<|i.o _);rintro e t⟨rfl,l⟩);go_ret;rw[<-j.o];exact⟨rfl,.from (i.o _) l⟩
 rw[Qf q]at g;have u:(x.act.kind==5)=false:=Ze.2 q;have j:=Qa g;go_enter func15,EP
 go_wp2
 go_ret;rw[<-j.o];exact⟨rfl,y.o.kept<|i.o _⟩
end
section
open Go.ChangeShapes Go.WideShapes Go.ChangeAt Go.Deep
def oQ{H P e}:∀{ds:List (DataW H)}{d:DataW H},d∈ds->∀n∈d.weights P e,n∈DataW.weightsAll P e ds
 |d0::ds,d,h,n,hn=>by
  simp only[DataW.weightsAll,Q4];rcases QD.1 h with rfl|h
  ·exact .inl hn
  exact .inr<|oQ h n hn
def lT{H enc W t e a len cap}{d:DataW H}{p}{α:Type}(size)(f:α->LV)(good:α->Prop)(ht:prog.underlying t=some (.slice e))(hc:prog.cellsOf e=size)(hs:0<size)(hf:∀x,(f x).length=size)(x8:∀n cs D,DataW.trod enc prog W 0 (fun _=>true) true n e cs=some D->(∀m∈D.1.weights prog e,m<=reachBytes)->∃x,cs=f x/\good x)(x4:∀m∈d.weights prog t,m<=reachBytes)(h:DataW.Trod enc prog W 0 (fun _=>true) true t (.slice a len cap) d p):
 ∃xs:List α,Qp W size a len (xs.flatMap f)/\xs.length=len/\len<=cap/\cap<=maxLen/\len*prog.bytesOf e<=reachBytes/\∀x∈xs,good x:=by
 obtain⟨y8,hr⟩:=h;simp only[Value.cells]at hr;rcases open_slice ht hr with⟨h5,-⟩|⟨ad,l,c,m,n,D,Pl,h5,-,hl,hm,x3,h9,hx⟩
 ·simp only[List.cons.injEq,Value.slice.injEq,and_true]at h5;obtain⟨rfl,rfl,rfl⟩:=h5;exact⟨[],⟨sx,fun j u o=>by simp at o⟩,rfl,Qk _,Zv _,sx,fun x hx=>by simp at hx⟩
 simp only[List.cons.injEq,Value.slice.injEq,and_true]at h5;obtain⟨rfl,rfl,rfl⟩:=h5;simp only[Cg]at x3;subst x3;injection h9 with h9 _;subst h9;have y5:=x4 ((((List.range len).map D).length+((List.range<|m-len).map fun j=>D<|len+j).length)*prog.bytesOf e) (by simp[DataW.weights,ht]);have y4:∀k,k<len->∀m∈(D k).weights prog e,m<=reachBytes:=fun k hk m hm=>x4 m (by simp only[DataW.weights,ht,QD,Q4];exact .inr<|.inl<|oQ (QA.2 ⟨k,ZR.2 hk,rfl⟩) _ hm)
 have key:∀k,k<=len->∃xs:List α,xs.length=k/\∀i x,xs[i]?=some x->W.cells? 0 (ad.add<|i*size) size=some (f x)/\good x:=by
  intro k
  induction k with
  |zero=>exact fun _=>⟨[],rfl,fun i x hi=>by simp at hi⟩
  |succ k ih=>
   intro hk;obtain⟨xs,h1,q⟩:=ih ox;obtain⟨y7,h3,h4⟩:=hx k ox;obtain⟨x,rfl,hg⟩:=x8 _ _ _ h4 (y4 k ox);rw[hc]at h3;refine⟨xs++[x],by simp[h1],fun i y hi=>?_⟩;rcases Xw i xs with hlt|x9
   ·rw[Xc hlt]at hi;exact q i y hi
   rw[Zm x9]at hi;have y0:i-xs.length=0:=(by have:=(Qy.1 hi).1;simp at this;omega);rw[y0]at hi;simp at hi;subst hi;rw[(ox:i=k)];exact⟨h3,hg⟩
 obtain⟨xs,h1,q⟩:=key len<|Qk _;refine⟨xs,⟨by rw[Qac f size hf,h1],fun j u o=>?_⟩,h1,hl,hm,?_,fun x hx=>?_⟩
 ·have hr:j%size<size:=J8 _ hs;have x2:j=j/size*size+j%size:=by have:=MN j size;rw[V6]at this;omega
  rw[x2,dJ f size hf xs _ _ hr]at o;cases hxi:xs[j/size]? with
  |none=>rw[hxi]at o;cases o
  |some x=>rw[hxi]at o;obtain⟨-,y9,x6⟩:=World.cells?_some (q _ _ hxi).1;have h8:=x6 (j%size) hr;simp only[Option.bind_some]at o;rw[o]at h8;have x5:∃x0,xs[0]?=some x0:=⟨_,Qj<|Iw (Zv _) (Qy.1 hxi).1⟩;obtain⟨x0,y6⟩:=x5;obtain⟨-,z1,x7⟩:=World.cells?_some (q 0 x0 y6).1;have x1:=x7 0 hs;have y1:0<(f x0).length:=(by rw[hf];exact hs);rw[Qj y1]at x1;have y2:=World.cell?_spot x1;obtain⟨b,off,sp⟩:=ad;have y3:sp=none:=(by simpa[Addr.add]using y2);subst y3;refine⟨b,off,rfl,?_⟩;rw[Jc,Jc]at h8;rw[x2,<-Y7];exact h8
 ·refine QS (Be _ ?_) y5;simp only[QH,VK];omega
 obtain⟨i,hi⟩:=FT hx;exact(q i x hi).2
end
section
open Go.ChangeShapes Go.WideShapes Go.ChangeAt Go.Deep

end
section
open Go.ChangeShapes Go.WideShapes Go.ChangeAt Go.Deep

end
section
open Go.ChangeShapes Go.WideShapes Go.ChangeAt Go.Deep
def mU(x):str x.data.toList=x:=by unfold str;rw[Array.toArray_toList]
def Qij{H enc W a len cap}{d:DataW H}{p}(h:DataW.Trod enc prog W 0 (fun _=>true) true 30 (.slice a len cap) d p)(x1:∀m∈d.weights prog 30,m<=reachBytes):
 ∃l:List QC,UZ W (.slice a len cap) l/\l.length<=17592186043904/\∀f∈l,f.1.length<=140737488351232/\f.2.length<=140737488351232:=by
 obtain⟨ps,h1,h2,h3,h4,h5,h6⟩:=lT 2 (fun p:ByteArray × ByteArray=>[Value.string p.1,.string p.2]) (fun p=>p.1.size<=140737488351232/\p.2.size<=140737488351232) Gi kx dx (fun _=>rfl)
  (fun n o D hr hw=>by
   obtain⟨y0,y1,m,rfl,hl,x2,x3⟩:=trod_struct2 Ww hr;have x0:o.length=2:=hl.trans kx;obtain⟨c0,c1,rfl⟩:∃c0 c1,o=[c0,c1]:=by
    match o,x0 with
    | [c0,c1],_=>exact⟨c0,c1,rfl⟩
   obtain⟨x,g1,hx,-⟩:=DataW.trod_string Yw x2;obtain⟨y,g2,hy,-⟩:=DataW.trod_string Yw x3;have e1:prog.cellsOf 9=1:=kx;simp[e1]at g1 g2;subst g1 g2;have h8:=hw x.data.toList (by simp[DataW.weights,DataW.weightsEach,Ww,hx]);have h9:=hw y.data.toList (by simp[DataW.weights,DataW.weightsEach,Ww,hy]);rw[Dr]at h8 h9;exact⟨(x,y),rfl,by simpa[reachBytes]using h8,by simpa[reachBytes]using h9⟩) x1 h
 have e3:prog.bytesOf 63=32:=kx
 rw[e3]at h5;simp only[reachBytes]at h5;refine⟨ps.map fun p=>(p.1.data.toList,p.2.data.toList),⟨a,cap,by simp[h2],?_⟩,by rw[QH];omega,?_⟩
 ·rw[QH,h2];have e:Qs Jv (ps.map fun p=>(p.1.data.toList,p.2.data.toList))=ps.flatMap (fun p:ByteArray × ByteArray=>[Value.string p.1,.string p.2]):=by unfold Qs Jv;rw[List.flatMap_map];simp only[mU]
  rwa[e]
 intro f hf;obtain⟨q,hq,rfl⟩:=QA.1 hf;have:=h6 q hq;simp only[RS];exact this
def Qkm{p enc P w base e d t}{g i j l m o:Field}{q c}{x:DataW p × List MemPlace}(z:P.underlying t=some (.struct #[g,i,j,l,m,o]))(h:DataW.trod enc P w base e d q t c=some x):
 ∃p q s u v y n,x=(.agg [p.1,q.1,s.1,u.1,v.1,y.1],p.2++(q.2++(s.2++(u.2++(v.2++y.2)))))/\c.length=P.cellsOf t/\DataW.trod enc P w base e d n g.type ((c.drop g.offset).take<|P.cellsOf g.type)=some p/\
  DataW.trod enc P w base e d n i.type ((c.drop i.offset).take<|P.cellsOf i.type)=some q/\DataW.trod enc P w base e d n j.type ((c.drop j.offset).take<|P.cellsOf j.type)=some s/\
  DataW.trod enc P w base e d n l.type ((c.drop l.offset).take<|P.cellsOf l.type)=some u/\DataW.trod enc P w base e d n m.type ((c.drop m.offset).take<|P.cellsOf m.type)=some v/\
  DataW.trod enc P w base e d n o.type ((c.drop o.offset).take<|P.cellsOf o.type)=some y:=by
 obtain⟨e,n,_,rfl,c,d,hf⟩:=DataW.trod_struct z h
 match e,d with
 | [p,q,s,u,v,y],_=>exact⟨p,q,s,u,v,y,n,sx,c,by simpa using hf 0 g rfl,by simpa using hf 1 i rfl,by simpa using hf 2 j rfl,by simpa using hf 3 l rfl,by simpa using hf 4 m rfl,by simpa using hf 5 o rfl⟩
def Qii{H enc W a len cap}{d:DataW H}{p}(h:DataW.Trod enc prog W 0 (fun _=>true) true 22 (.slice a len cap) d p)(x8:∀m∈d.weights prog 22,m<=reachBytes):
 ∃l:List Rs,Dv W (.slice a len cap) l:=by
 obtain⟨l,h1,h2,h3,h4,h5,h6⟩:=lT 7 Uf (fun x=>UZ W x.fv x.act.files/\(∃a n c,x.kv=.slice a n c)/\x.act.path.length<=140737488351232/\x.act.text.length<=140737488351232/\x.act.files.length<=17592186043904/\∀f∈x.act.files,f.1.length<=140737488351232/\f.2.length<=140737488351232)
  underlying22 kx dx (fun _=>rfl)
  (fun n cs D hr hw=>by
   obtain⟨y0,y1,y2,y3,y4,y5,m,rfl,hl,g0,g1,g2,g3,g4,g5⟩:=Qkm Nq hr;have x4:cs.length=7:=hl.trans kx;obtain⟨c0,c1,c2,c3,q,c5,y,rfl⟩:∃c0 c1 c2 c3 q c5 y,cs=[c0,c1,c2,c3,q,c5,y]:=by
    match cs,x4 with
    | [c0,c1,c2,c3,q,c5,y],_=>exact⟨c0,c1,c2,c3,q,c5,y,rfl⟩
   have e1:prog.cellsOf 9=1:=kx;have e2:prog.cellsOf 3=1:=kx;have e3:prog.cellsOf 30=1:=kx;have e4:prog.cellsOf 35=2:=kx;have e5:prog.cellsOf 33=1:=kx;obtain⟨x0,k0,-,-⟩:=DataW.trod_int Vv g0;obtain⟨x1,k1,x9,-⟩:=DataW.trod_string Yw g1;obtain⟨x2,k2,y6,-⟩:=DataW.trod_string Yw g2;obtain⟨x3,k3,-,-⟩:=DataW.trod_int Vv g3;obtain⟨z0,z1,m2,-,-,q0,q1⟩:=trod_struct2 underlying35 g5;obtain⟨x5,k5,-,-⟩:=DataW.trod_int Vv q0;simp[e1,e2,e3,e4,e5]at k0 k1 k2 k3 k5 g4;subst k0 k1 k2 k3 k5;obtain⟨a4,l4,h8,rfl⟩:∃a4 l4 h8,q=.slice a4 l4 h8:=by
    rcases open_slice Gi g4 with⟨o,-⟩|⟨ad,l,c,m,n',D',Pl,o,-⟩
    ·exact⟨_,_,_,by simpa using o⟩
    exact⟨_,_,_,by simpa using o⟩
   obtain⟨a6,l6,h9,rfl⟩:∃a6 l6 h9,y=.slice a6 l6 h9:=by
    simp[e2,e4,e5]at q1;rcases open_slice underlying33 q1 with⟨o,-⟩|⟨ad,l,c,m,n',D',Pl,o,-⟩
    ·exact⟨_,_,_,by simpa using o⟩
    exact⟨_,_,_,by simpa using o⟩
   obtain⟨fl,f1,f2,f3⟩:=Qij (a:=a4) (len:=l4) (cap:=h8) (d:=y4.1) (p:=y4.2) ⟨m,g4⟩ (fun n hn=>hw n<|by simp[DataW.weights,DataW.weightsEach,Nq,hn]);have x6:=hw x1.data.toList (by simp[DataW.weights,DataW.weightsEach,Nq,x9]);have x7:=hw x2.data.toList (by simp[DataW.weights,DataW.weightsEach,Nq,y6]);refine⟨⟨⟨x0,x1.data.toList,x2.data.toList,x3,fl⟩,.slice a4 l4 h8,x5,.slice a6 l6 h9⟩,by simp[Uf,mU],f1,⟨_,_,_,rfl⟩,by simpa[reachBytes]using x6,by simpa[reachBytes]using x7,f2,f3⟩) x8 h
 have e3:prog.bytesOf 22=24:=kx
 refine⟨l,⟨⟨a,cap,by rw[h2],by rwa[h2]⟩,?_,fun x hx=>(h6 x hx).1,fun x hx=>(h6 x hx).2.1,fun x hx=>(h6 x hx).2.2⟩⟩;have e4:prog.bytesOf 37=104:=kx
 rw[e4]at h5;simp only[reachBytes]at h5;omega
end
section
open Go.Sort Go.Shelf
def tA(L:LY)(w:WD)(e:Ending)(w':WD):Prop:=∃c,e=.returned c/\Qh w' 9 c (strs L)/\Qb [] w w'/\∀d∈Qd c,w.heap.size<=d
def Qdb{a d nv pv mv s w}(h:Vt w a d nv pv mv s)(hl:s.mem.length<=1000):Calls prog 27 #[.pointer a] w (tA (s.mem.map (·.path)) w):=by
 have HM:=Qa<|Fo h hl;have⟨l,x4⟩:=qx s.mem;rw[x4]at HM hl ⊢;have⟨n,h1⟩:=qx l.length;have HN:=Qa h1;rw[h1]at hl;go_enter func27,ntmps27;go_wp2_with (first
  |(go_fit HM.o;rintro e w1⟨v1,rfl,x5,x2,-⟩;obtain⟨a1,c1,rfl,h5,-⟩:=x5.memA;rw[h1]at h5;have x7:=Qa h5;have h9:=Qa x2))
 go_loopg [3,9] n (fun k x3 x9 wr=>(∃(i:Nat)(v3:VL),i<=n/\k=n-i/\v3=x3/\x9=.int .i64 (i:Nat)/\Hid (Qh wr 9 v3<|strs<|(l.take i).map (·.path))/\Hid (∀x∈Qd v3,w1.heap.size<=x))/\Hid (Qb [] w1 wr))
 ·exact⟨⟨0,_,ox,ox,rfl,rfl,Qa<|Qh.nil _ _,Qa<|by simp[Qd,qo]⟩,Qa<|Qc _ _⟩
 obtain⟨⟨i,v3,hi,hk,rfl,rfl,x0,h2⟩,q⟩:=hrel
 by_cases hlt:i<n
 ·have q0:(i:Int)<n:=ox
  have⟨m,hm⟩:=qy l i (yx HN.o);obtain⟨g,off,rfl,c0,e1,e2,e3,e4⟩:=RA (x7.o.kZ q.o) hm;have HT:=Qa (by rw[Zh,hm];simp[strs]:strs ((l.take<|i+1).map (·.path))=strs ((l.take i).map (·.path))++[.string<|str m.path]);have x1:(strs<|(l.take i).map (·.path)).length<=1000:=by rw[UF,QH,Zd];omega
  have h3:=x0.o;have⟨o,x6⟩:=qx<|strs<|(l.take i).map (·.path);rw[x6]at HT x1 h3;have L1:o.length+1<=maxLen:=by simp only[maxLen];omega
  have L2:(o.length+1)*16<=140737488355328:=ox
  have h4:=(Qc [] wr).alloc<|.cells #[.string<|str m.path,.int .i64 m.start,.int .i64 m.eZ,.int .i64 m.size,.int .u32 m.sum] 69;have y1:=h3.kept h4 sx;have h8:=Qa h4;go_wp2_with (at_builtin;refine Dt (wr.alloc<|.cells #[.string<|str m.path,.int .i64 m.start,.int .i64 m.eZ,.int .i64 m.size,.int .u32 m.sum] 69) rfl _ _ 60 rfl 9 ("") 16 CL CK rfl v3 (.string<|str m.path) o rfl (by rw[Ux];rfl) rfl rfl y1 L1 L2 ?_;intro g5 c5 w5 y2 y0 x8)
  go_roundg (n-(i+1))
  ·refine⟨⟨i+1,_,ox,rfl,rfl,by go_num,Qa ?_,Qa ?_⟩,Qa<|(q.o.trans h8.o sx).trans y0 fun y hy=>.inr<|h2.o y hy⟩
   ·rwa[HT.o]
   intro y hy;simp[Qd,qo]at hy;subst hy;rcases x8 with h|h
   ·exact h2.o _ h
   have:=q.o.size;have:=h8.o.size;omega
  omega
 obtain rfl:i=n:=ox
 have q0:¬(i:Int)<i:=ox
 go_wp2
 go_ret;have:=x0.o;rw[Q5 (by rw[HN.o];exact Qk _)]at this;exact⟨_,rfl,this,h9.o.trans q.o sx,fun x hx=>QS h9.o.size<|h2.o x hx⟩
end
def Jh(x:QC)(F:List QC)(i:Nat)(b:Bool)(c:List QC):Prop:=
 XT (·.1) x F=c++(if b=true then F.drop i else XT (·.1) x (F.drop i))/\(b=true->∀f∈F.drop i,Xp x.1 f.1<0)
def Jh.start(x:QC)(F:List QC):Jh x F 0 false []:=⟨sx,sx⟩
def Jh.stop{x:QC}{F c:List QC}{i:Nat}{b:Bool}(h:Jh x F i b c)(hi:F.length<=i):XT (·.1) x F=if b=true then c else c++[x]:=by have c:=h.1;rw[CA hi]at c;rw[c];cases b<;>simp[XT]
def Jh.step{x f:QC}{F c:List QC}{i:Nat}{b:Bool}(h:Jh x F i b c)(e:UG (·.1) F)(hf:F[i]?=some f):
 (b=false->Xp x.1 f.1<0->Jh x F (i+1) true (c++[x]++[f]))/\(b=false->Xp x.1 f.1=0->Jh x F (i+1) true (c++[x]))/\
 (b=false->0<Xp x.1 f.1->Jh x F (i+1) false (c++[f]))/\(b=true->Xp x.1 f.1<0/\Jh x F (i+1) true (c++[f])):=by
 obtain⟨d,rfl⟩:=Qy.1 hf;have c:=Xf d;obtain⟨g,j⟩:=h;rw[c]at g j;have m:∀d∈F.drop (i+1),Xp F[i].1 d.1<0:=by have:=List.Pairwise.sublist (List.drop_sublist i F) e;rw[c]at this;exact(Vo.1 this).1
 have hlt:Xp x.1 F[i].1<0->∀d∈F.drop (i+1),Xp x.1 d.1<0:=fun h d l=>EW h<|m d l
 refine⟨fun c e=>⟨?_,fun _=>hlt e⟩,fun c e=>⟨?_,fun _ d l=>?_⟩,fun c e=>⟨?_,fun c=>by simp at c⟩,fun c=>⟨j c _<|Yv ..,?_,fun _=>hlt<|j c _<|Yv ..⟩⟩
 ·subst c;rw[g,Qf sx,XT,Qg e,Qg rfl];simp
 ·subst c;rw[g,Qf sx,XT,Qf ox,Qg e,Qg rfl];simp
 ·rw[DM e];exact m d l
 ·subst c;rw[g,Qf sx,XT,Qf ox,Qf ox,Qf sx];simp
 subst c;rw[g,Qg rfl,Qg rfl];simp
def Qlg{p:LU}{F:List QC}{i:Nat}{f:QC}(hf:F[i]?=some f):Vb (·.1) p (F.take<|i+1)=Vb (·.1) p (F.take i)++if f.1=p then []else [f]:=by
 rw[Zh,hf];unfold Vb;rw[Ba]
 by_cases c:f.1=p
 ·rw[Qg c];simp[c]
 rw[Qf c];simp[c]
def zJ{s s':Vst}{c:LU->LU}{p:LU}(h:s'.mem=CS p s.mem):ZX s' c=Vb (·.1) p (ZX s c):=by unfold ZX Vb;rw[h,List.filter_map];rfl
def Jf(l:List RM)(cap i:Nat)(k:Int)(d:LN):Prop:=
 d=cap/\∀(c e:Nat),d[c]?=some e->(e≠0↔∃(r:Nat)(d:RM),l[r]?=some d/\d.start<=(c:Int)/\(c:Int)<d.start+d.eZ/\(r<i\/(r=i/\(c:Int)<k)))
def Jf.start(l:List RM)(cap:Nat):Jf l cap 0 0 (List.replicate cap 0):=by refine⟨As ..,fun c c c=>?_⟩;have:=BR<|QB c;subst this;refine⟨fun c=>absurd rfl c,?_⟩;rintro⟨r,d,-,-,-,c|⟨-,c⟩⟩<;>omega
def Jf.next{l:List RM}{cap i:Nat}{k k':Int}{o:LN}{m:RM}(h:Jf l cap i k o)(hm:l[i]?=some m)(hk:m.start+m.eZ<=k)(h5:k'<=0):Jf l cap (i+1) k' o:=by
 refine⟨h.1,fun j u hu=>?_⟩;rw[h.2 j u hu];constructor
 ·rintro⟨r,x,q,y,h3,h4⟩;exact⟨r,x,q,y,h3,.inl ox⟩
 rintro⟨r,x,q,y,h3,h4|⟨-,h4⟩⟩
 ·by_cases e:r=i
  ·subst e;rw[hm]at q;injection q with q;subst q;exact⟨r,m,hm,y,h3,.inr ⟨rfl,ox⟩⟩
  exact⟨r,x,q,y,h3,.inl ox⟩
 omega
def Jf.skip{l:List RM}{cap i:Nat}{k k':Int}{o:LN}{m:RM}(h:Jf l cap i k o)(hm:l[i]?=some m)(hk:k<=m.start)(h5:k'<=m.start):Jf l cap i k' o:=by
 refine⟨h.1,fun j u hu=>?_⟩;rw[h.2 j u hu];constructor<;>rintro⟨r,x,q,h2,h3,y|⟨rfl,y⟩⟩
 ·exact⟨r,x,q,h2,h3,.inl y⟩
 ·rw[hm]at q;injection q with q;subst q;omega
 ·exact⟨r,x,q,h2,h3,.inl y⟩
 rw[hm]at q;injection q with q;subst q;omega
def Jf.put{s:Vst}{c:LU->LU}(l:Vok s c){cap i k:Nat}{d:LN}{m:RM}(h:Jf s.mem cap i k d)(n:s.mem[i]?=some m)(u:m.start<=k)(v:(k:Int)<m.start+m.eZ)(e:cap=s.dev.cap):
 d[k]?=some 0/\Jf s.mem cap i ((k+1:Nat):Int) (d.set k<|i+1):=by
 have o:=QB n;have:=l.inX o;have hk:k<d:=by rw[h.1,e];omega
 have h0:d[k]=0:=Classical.byContradiction fun d=>by
  obtain⟨r,e,g1,g,g3,g4⟩:=(h.2 k _<|Qj hk).1 d;have w:r<i:=ox
  have d:=QB g1;have hne:e.path≠m.path:=fun j=>by have:=l.only d o j;subst this;obtain⟨p,a2⟩:=Qy.1 g1;obtain⟨q,t⟩:=Qy.1 n;have hp:=JP.1 l.rise r i p q w;rw[a2,t,CQ]at hp;omega
  have:=l.apart d o hne;unfold UJ ZW at this;simp only[]at this;omega
 refine⟨by rw[Qj hk,h0],by rw[JO];exact h.1,fun l o d=>?_⟩;rw[Je]at d
 by_cases j:k=l
 ·subst j;rw[Qg rfl,Qg hk]at d;injection d with d;subst d;exact⟨fun _=>⟨i,m,n,u,v,.inr ⟨rfl,ox⟩⟩,fun _=>ox⟩
 rw[Qf j]at d;rw[h.2 l o d];constructor<;>rintro⟨r,e,g1,g,g3,g4|⟨g4,d⟩⟩
 ·exact⟨r,e,g1,g,g3,.inl g4⟩
 ·exact⟨r,e,g1,g,g3,.inr ⟨g4,ox⟩⟩
 ·exact⟨r,e,g1,g,g3,.inl g4⟩
 exact⟨r,e,g1,g,g3,.inr ⟨g4,ox⟩⟩
def IB(s:Vst)(d:LN):Prop:=d.length=s.dev.cap/\∀(c e:Nat),d[c]?=some e->(e≠0↔∃d∈s.mem,d.start<=(c:Int)/\(c:Int)<d.start+d.eZ)
def Jf.stop{s:Vst}{i:Nat}{k:Int}{c:LN}(h:Jf s.mem s.dev.cap i k c)(hi:s.mem.length<=i):IB s c:=by
 refine⟨h.1,fun d e c=>?_⟩;rw[h.2 d e c];constructor
 ·rintro⟨r,g,c,d,e,-⟩;exact⟨g,QB c,d,e⟩
 rintro⟨g,c,d,e⟩;obtain⟨r,j⟩:=FT c;exact⟨r,g,j,d,e,.inl (yx ((Qy.1 j).1))⟩
structure U4(o:LN)(need k r:Nat):Prop where
 lt:r<need
 le:30+r<=k
 zero:∀j,k-r<=j->j<k->o[j]?=some 0
 edge:k=30+r\/o[k-r-1]?≠some 0
 no:∀a,30<=a->a+need<=k->∃j,a<=j/\j<a+need/\o[j]?≠some 0
def IH(d:LN)(need:Nat)(r:Int):Prop:=(r= -1/\∀a,30<=a->a+need<=d.length->∃c,a<=c/\c<a+need/\d[c]?≠some 0)\/
 ∃a:Nat,r=a/\30<=a/\a+need<=d/\∀c,a<=c->c<a+need->d[c]?=some 0
def U4.start(c:LN){need:Nat}(h:1<=need):U4 c need 30 0:=⟨h,Qk _,fun c c d=>ox,.inl rfl,fun a c d=>ox⟩
def U4.full{c:LN}{need k r:Nat}(h:U4 c need k r)(h0:c[k]?≠some 0):U4 c need (k+1) 0:=by
 have:=h.le;have:=h.lt;refine⟨ox,ox,fun c c d=>ox,.inr<|by simpa using h0,fun a c d=>?_⟩
 by_cases d:a+need<=k
 ·exact h.no a c d
 exact⟨k,ox,ox,h0⟩
def U4.free{d:LN}{need k r:Nat}(h:U4 d need k r)(h0:d[k]?=some 0):(r+1=need->IH d need ((k+1-need:Nat):Int))/\(r+1≠need->U4 d need (k+1) (r+1)):=by
 have:=h.le;have:=h.lt;have hk:=(Qy.1 h0).1;have hz:∀c,k+1-(r+1)<=c->c<k+1->d[c]?=some 0:=fun c g1 e=>by
  by_cases d:c=k
  ·rwa[d]
  exact h.zero c ox ox
 refine⟨fun d=>.inr ⟨k+1-need,rfl,ox,ox,fun c g1 e=>hz c ox ox⟩,fun d=>⟨ox,ox,hz,?_,fun a g1 e=>?_⟩⟩
 ·rcases h.edge with c|c
  ·exact .inl ox
  right;rwa[(ox:k+1-(r+1)-1=k-r-1)]
 by_cases d:a+need<=k
 ·exact h.no a g1 d
 rcases h.edge with c|c
 ·omega
 exact⟨k-r-1,ox,ox,c⟩
def U4.stop{c:LN}{need k r:Nat}(h:U4 c need k r)(hk:c.length<=k):IH c need (-1):=.inl ⟨rfl,fun a c d=>h.no a c ox⟩
