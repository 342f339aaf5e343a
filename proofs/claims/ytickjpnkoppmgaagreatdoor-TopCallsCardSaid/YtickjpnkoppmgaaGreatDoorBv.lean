import Derived.Test.YtickjpnkoppmgaaGreatDoorBu
set_option linter.all false
set_option maxHeartbeats 4000000
set_option maxRecDepth 100000
namespace Go.Proofs.YtickjpnkoppmgaaGreatDoor
open Go.Proofs.Tryz Go.RowKit K
section
open Go.ChangeShapes Go.WideShapes Go.ChangeAt Go.Deep
def kY{H P e}:∀{ds:List (DataW H)}{d:DataW H},d∈ds→∀n∈d.weights P e,n∈DataW.weightsAll P e ds
 |d0::ds,d,h,n,hn=>by
  simp only[DataW.weightsAll,Q5];rcases QB.1 h with rfl|h
  ·exact .inl hn
  exact .inr<|kY h n hn
def iE{H enc W t e a len cap}{d:DataW H}{p}{α:Type}(size)(f:α→List Value)(good:α→Prop)(ht:prog.underlying t=some (.slice e))(hc:prog.cellsOf e=size)(hs:0<size)(hf:∀x,(f x).length=size)(x8:∀n cs D,DataW.trod enc prog W 0 (fun _=>true) true n e cs=some D→(∀m∈D.1.weights prog e,m≤reachBytes)→∃x,cs=f x∧good x)(x4:∀m∈d.weights prog t,m≤reachBytes)(h:DataW.Trod enc prog W 0 (fun _=>true) true t (.slice a len cap) d p):
 ∃xs:List α,Qn W size a len (xs.flatMap f)∧xs.length=len∧len≤cap∧cap≤maxLen∧len*prog.bytesOf e≤reachBytes∧∀x∈xs,good x:=by
 obtain⟨y9,hr⟩:=h;simp only[Value.cells]at hr;rcases open_slice ht hr with⟨h5,-⟩|⟨ad,l,c,m,n,D,Pl,h5,-,hl,hm,x3,h9,hx⟩
 ·simp only[List.cons.injEq,Value.slice.injEq,and_true]at h5;obtain⟨rfl,rfl,rfl⟩:=h5;exact⟨[],⟨by simp,fun j u o=>by simp at o⟩,rfl,Ql _,ZF _,by simp,fun x hx=>by simp at hx⟩
 simp only[List.cons.injEq,Value.slice.injEq,and_true]at h5;obtain⟨rfl,rfl,rfl⟩:=h5;simp only[Co]at x3;subst x3;injection h9 with h9 _;subst h9;have y5:=x4 ((((List.range len).map D).length+((List.range<|m-len).map fun j=>D<|len+j).length)*prog.bytesOf e) (by simp[DataW.weights,ht]);have y4:∀k,k<len→∀m∈(D k).weights prog e,m≤reachBytes:=fun k hk m hm=>x4 m (by simp only[DataW.weights,ht,QB,Q5];exact .inr<|.inl<|kY (Qy.2 ⟨k,ZL.2 hk,rfl⟩) _ hm)
 have key:∀k,k≤len→∃xs:List α,xs.length=k∧∀i x,xs[i]?=some x→W.cells? 0 (ad.add<|i*size) size=some (f x)∧good x:=by
  intro k
  induction k with
  |zero=>exact fun _=>⟨[],rfl,fun i x hi=>by simp at hi⟩
  |succ k ih=>
   intro hk;obtain⟨xs,h1,q⟩:=ih (by omega);obtain⟨y8,h3,h4⟩:=hx k (by omega);obtain⟨x,rfl,hg⟩:=x8 _ _ _ h4 (y4 k<|by omega);rw[hc]at h3;refine⟨xs++[x],by simp[h1],fun i y hi=>?_⟩;rcases Xp i xs.length with hlt|x9
   ·rw[Xo hlt]at hi;exact q i y hi
   rw[Zy x9]at hi;have y0:i-xs.length=0:=(by have:=(Qz.1 hi).1;simp at this;omega);rw[y0]at hi;simp at hi;subst hi;rw[show i=k by omega];exact⟨h3,hg⟩
 obtain⟨xs,h1,q⟩:=key len<|Ql _;refine⟨xs,⟨by rw[wD f size hf,h1],fun j u o=>?_⟩,h1,hl,hm,?_,fun x hx=>?_⟩
 ·have hr:j%size<size:=JF _ hs;have x2:j=j/size*size+j%size:=by have:=Lm j size;rw[RR]at this;omega
  rw[x2,WU f size hf xs _ _ hr]at o;cases hxi:xs[j/size]? with
  |none=>rw[hxi]at o;cases o
  |some x=>rw[hxi]at o;obtain⟨-,z1,x6⟩:=World.cells?_some (q _ _ hxi).1;have h8:=x6 (j%size) hr;simp only[Option.bind_some]at o;rw[o]at h8;have x5:∃x0,xs[0]?=some x0:=⟨_,Qj<|GX (ZF _) (Qz.1 hxi).1⟩;obtain⟨x0,y6⟩:=x5;obtain⟨-,z6,x7⟩:=World.cells?_some (q 0 x0 y6).1;have x1:=x7 0 hs;have y1:0<(f x0).length:=(by rw[hf];exact hs);rw[Qj y1]at x1;have y2:=World.cell?_spot x1;obtain⟨b,y7,sp⟩:=ad;have y3:sp=none:=(by simpa[Addr.add]using y2);subst y3;refine⟨b,y7,rfl,?_⟩;rw[YK,YK]at h8;rw[x2,←Jj];exact h8
 ·refine QU (As _ ?_) y5;simp only[QG,U6];omega
 obtain⟨i,hi⟩:=GQ hx;exact(q i x hi).2
end
section
open Go.ChangeShapes Go.WideShapes Go.ChangeAt Go.Deep

end
section
open Go.ChangeShapes Go.WideShapes Go.ChangeAt Go.Deep

end
section
open Go.ChangeShapes Go.WideShapes Go.ChangeAt Go.Deep
def jG(x):str x.data.toList=x:=by unfold str;rw[Array.toArray_toList]
def Qff{H enc W a len cap}{d:DataW H}{p}(h:DataW.Trod enc prog W 0 (fun _=>true) true 30 (.slice a len cap) d p)(x1:∀m∈d.weights prog 30,m≤reachBytes):
 ∃l:List Q4,Bd W (.slice a len cap) l∧l.length≤17592186043904∧∀f∈l,f.1.length≤140737488351232∧f.2.length≤140737488351232:=by
 obtain⟨ps,h1,h2,h3,h4,h5,h6⟩:=iE 2 (fun p:ByteArray × ByteArray=>[Value.string p.1,.string p.2]) (fun p=>p.1.size≤140737488351232∧p.2.size≤140737488351232) underlying30 (by kernel_rfl) (by decide) (fun _=>rfl)
  (fun n o D hr hw=>by
   obtain⟨y0,y1,m,rfl,hl,x2,x3⟩:=trod_struct2 SO hr;have x0:o.length=2:=hl.trans (by kernel_rfl);obtain⟨c0,c1,rfl⟩:∃c0 c1,o=[c0,c1]:=by
    match o,x0 with
    | [c0,c1],_=>exact⟨c0,c1,rfl⟩
   obtain⟨x,g1,hx,-⟩:=DataW.trod_string Xc x2;obtain⟨y,g2,hy,-⟩:=DataW.trod_string Xc x3;have e1:prog.cellsOf 9=1:=(by kernel_rfl);simp[e1]at g1 g2;subst g1 g2;have h8:=hw x.data.toList.length (by simp[DataW.weights,DataW.weightsEach,SO,hx]);have h9:=hw y.data.toList.length (by simp[DataW.weights,DataW.weightsEach,SO,hy]);rw[CF]at h8 h9;exact⟨(x,y),rfl,by simpa[reachBytes]using h8,by simpa[reachBytes]using h9⟩) x1 h
 have e3:prog.bytesOf 63=32:=by kernel_rfl
 rw[e3]at h5;simp only[reachBytes]at h5;refine⟨ps.map fun p=>(p.1.data.toList,p.2.data.toList),⟨a,cap,by simp[h2],?_⟩,by rw[QG];omega,?_⟩
 ·rw[QG,h2];have e:Qw Dm (ps.map fun p=>(p.1.data.toList,p.2.data.toList))=ps.flatMap (fun p:ByteArray × ByteArray=>[Value.string p.1,.string p.2]):=by unfold Qw Dm;rw[List.flatMap_map];simp only[jG]
  rwa[e]
 intro f hf;obtain⟨q,hq,rfl⟩:=Qy.1 hf;have:=h6 q hq;simp only[Rf];exact this
def Qhh{j enc P w base c b t}{d e f g h i:Field}{k a}{x:DataW j × List MemPlace}(r:P.underlying t=some (.struct #[d,e,f,g,h,i]))(q:DataW.trod enc P w base c b k t a=some x):
 ∃j k l m o p n,x=(.agg [j.1,k.1,l.1,m.1,o.1,p.1],j.2++(k.2++(l.2++(m.2++(o.2++p.2)))))∧a.length=P.cellsOf t∧DataW.trod enc P w base c b n d.type ((a.drop d.offset).take<|P.cellsOf d.type)=some j∧
  DataW.trod enc P w base c b n e.type ((a.drop e.offset).take<|P.cellsOf e.type)=some k∧DataW.trod enc P w base c b n f.type ((a.drop f.offset).take<|P.cellsOf f.type)=some l∧
  DataW.trod enc P w base c b n g.type ((a.drop g.offset).take<|P.cellsOf g.type)=some m∧DataW.trod enc P w base c b n h.type ((a.drop h.offset).take<|P.cellsOf h.type)=some o∧
  DataW.trod enc P w base c b n i.type ((a.drop i.offset).take<|P.cellsOf i.type)=some p:=by
 obtain⟨c,n,_,rfl,a,b,hf⟩:=DataW.trod_struct r q
 match c,b with
 | [j,k,l,m,o,p],_=>exact⟨j,k,l,m,o,p,n,by simp,a,by simpa using hf 0 d rfl,by simpa using hf 1 e rfl,by simpa using hf 2 f rfl,by simpa using hf 3 g rfl,by simpa using hf 4 h rfl,by simpa using hf 5 i rfl⟩
def Qfe{H enc W a len cap}{d:DataW H}{p}(h:DataW.Trod enc prog W 0 (fun _=>true) true 22 (.slice a len cap) d p)(x7:∀m∈d.weights prog 22,m≤reachBytes):
 ∃l:List RI,CJ W (.slice a len cap) l:=by
 obtain⟨l,h1,h2,h3,h4,h5,h6⟩:=iE 7 R6 (fun x=>Bd W x.fv x.act.files∧x.act.path.length≤140737488351232∧x.act.text.length≤140737488351232∧x.act.files.length≤17592186043904∧∀f∈x.act.files,f.1.length≤140737488351232∧f.2.length≤140737488351232)
  underlying22 (by kernel_rfl) (by decide) (fun _=>rfl)
  (fun n cs D hr hw=>by
   obtain⟨y0,y1,y2,y3,y4,y5,m,rfl,hl,g0,g1,g2,g3,g4,g5⟩:=Qhh LL hr;have h9:cs.length=7:=hl.trans (by kernel_rfl);obtain⟨c0,c1,c2,c3,o,c5,q,rfl⟩:∃c0 c1 c2 c3 o c5 q,cs=[c0,c1,c2,c3,o,c5,q]:=by
    match cs,h9 with
    | [c0,c1,c2,c3,o,c5,q],_=>exact⟨c0,c1,c2,c3,o,c5,q,rfl⟩
   have e1:prog.cellsOf 9=1:=(by kernel_rfl);have e2:prog.cellsOf 3=1:=(by kernel_rfl);have e3:prog.cellsOf 30=1:=(by kernel_rfl);have e4:prog.cellsOf 35=2:=(by kernel_rfl);have e5:prog.cellsOf 33=1:=(by kernel_rfl);obtain⟨x0,k0,-,-⟩:=DataW.trod_int YG g0;obtain⟨x1,k1,x8,-⟩:=DataW.trod_string Xc g1;obtain⟨x2,k2,x9,-⟩:=DataW.trod_string Xc g2;obtain⟨x3,k3,-,-⟩:=DataW.trod_int YG g3;obtain⟨z0,z1,m2,-,-,q0,q1⟩:=trod_struct2 underlying35 g5;obtain⟨x5,k5,-,-⟩:=DataW.trod_int YG q0;simp[e1,e2,e3,e4,e5]at k0 k1 k2 k3 k5 g4;subst k0 k1 k2 k3 k5;obtain⟨a4,l4,y,rfl⟩:∃a4 l4 y,o=.slice a4 l4 y:=by
    rcases open_slice underlying30 g4 with⟨h8,-⟩|⟨ad,l,c,m,n',D',Pl,h8,-⟩
    ·exact⟨_,_,_,by simpa using h8⟩
    exact⟨_,_,_,by simpa using h8⟩
   obtain⟨fl,f1,f2,f3⟩:=Qff (a:=a4) (len:=l4) (cap:=y) (d:=y4.1) (p:=y4.2) ⟨m,g4⟩ (fun n hn=>hw n<|by simp[DataW.weights,DataW.weightsEach,LL,hn]);have x4:=hw x1.data.toList.length (by simp[DataW.weights,DataW.weightsEach,LL,x8]);have x6:=hw x2.data.toList.length (by simp[DataW.weights,DataW.weightsEach,LL,x9]);refine⟨⟨⟨x0,x1.data.toList,x2.data.toList,x3,fl⟩,.slice a4 l4 y,x5,q⟩,by simp[R6,jG],f1,by simpa[reachBytes]using x4,by simpa[reachBytes]using x6,f2,f3⟩) x7 h
 have e3:prog.bytesOf 22=24:=by kernel_rfl
 refine⟨l,⟨⟨a,cap,by rw[h2],by rwa[h2]⟩,?_,fun x hx=>(h6 x hx).1,fun x hx=>(h6 x hx).2⟩⟩;have e4:prog.bytesOf 37=104:=by kernel_rfl
 rw[e4]at h5;simp only[reachBytes]at h5;omega
end
section
open Go.Sort Go.Shelf
def rA(w)(n:Jy w)(a:10≤w.heap.size):Calls prog 7 #[] w fun e w'=>e=.returned (.bool true)∧Qb [] w w':=by
 obtain⟨j,l,m,h,c1,c2,p,t,q,v2,r,v3,s,v4,k,o,k1,k2,k3,k4⟩:=Qh4 fun _=>[];have v0:=Vok.fresh 60 (by decide) (by decide) fun _=>[];have k0:(Vst.fresh 60).dev.lZ≤6:=by show 0+(UI 0 []).length+1≤6;rw[CA];decide
 have⟨B,v,u,y,x⟩:=qe (eR 60 w (by decide) (by decide) n a) (fun a b c d f mv (g:Ze a b c d f mv (Vst.fresh 60))=>show Calls prog 12 #[.pointer<|some ⟨b,0,none⟩,.string ⟨#[98]⟩,.string ⟨#[50]⟩] a fun e w'=>e=.returned (0:Int)∧ZS a b c d f mv j w' by have:=OL g v0 [98] [50] (by simp) (by simp) (QU (PJ k0 _)<|by decide);rw[p]at this;exact this) (fun a b c d f mv (g:Ze a b c d f mv j)=>show Calls prog 12 #[.pointer<|some ⟨b,0,none⟩,.string ⟨#[97]⟩,.string ⟨#[49]⟩] a fun e w'=>e=.returned (0:Int)∧ZS a b c d f mv l w' by have:=OL g t [97] [49] (by simp) (by simp) (by omega);rw[q]at this;exact this) (fun a b c d f mv (g:Ze a b c d f mv l)=>show Calls prog 28 #[.pointer<|some ⟨b,0,none⟩,.string ⟨#[98]⟩] a fun e w'=>e=.returned (0:Int)∧ZS a b c d f mv m w' by have:=Wt g v2 [98] (by simp) (by omega);rw[r]at this;exact this) (fun a b c d f mv (g:Ze a b c d f mv m)=>show Calls prog 29 #[.pointer<|some ⟨b,0,none⟩] a fun e w'=>e=.returned (0:Int)∧ZS a b c d f mv h w' by have:=Wm g v3 (by omega);rw[s]at this;exact this);obtain⟨j,m⟩:∃j:RM,(⟨[97],30,2,1,Yt [49]⟩:RM)=j:=⟨_,rfl⟩;have l:j.path=[97]∧j.start=30:=by rw[←m];exact⟨rfl,rfl⟩
 rw[m]at k;have z:=Qa (fun a b c d f mv (g:Ze a b c d f mv h)=>show Calls prog 30 #[.pointer<|some ⟨b,0,none⟩,.string ⟨#[97]⟩] a fun e w'=>e=.returned (.tuple #[.string ⟨#[49]⟩,(0:Int)])∧
  ZS a b c d f mv {h with dev:={h.dev with lZ:=h.dev.lZ+j.eZ.toNat}} w' by
  have:=vF g v4 (m:=j) (by rw[k];simp) (by omega);rw[l.1,o]at this;exact this)
 have A:=Qa (fun a b c d f mv (g:Ze a b c d f mv {h with dev:={h.dev with lZ:=h.dev.lZ+j.eZ.toNat}})=>show Calls prog 10 #[.pointer<|some ⟨b,0,none⟩] a (Fo [j] a)by
  have:=Gg g.vt (by show h.mem.length≤1000;rw[k];simp);rwa[show({h with dev:={h.dev with lZ:=h.dev.lZ+j.eZ.toNat}}:Vst).mem=[j]from k]at this)
 have a:=Qa l.2;go_enter func7,ntmps7;go_wp2_with (first
  |(go_at_call 8;refine B.o.mono ?_;rintro e x5⟨c,b,d,f,rfl,g,m,t⟩)
  |(go_at_call 12;(with_reducible refine(v.o _ _ _ _ _ _ g).mono ?_);rintro e h⟨rfl,U,Y,Q,o,G,C⟩)
  |(go_at_call 12;(with_reducible refine(u.o _ _ _ _ _ _ o).mono ?_);rintro e k⟨rfl,V,Z,R,p,H,D⟩)
  |(go_at_call 28;(with_reducible refine(y.o _ _ _ _ _ _ p).mono ?_);rintro e l⟨rfl,W,h1,S,q,I,E⟩)
  |(go_at_call 29;(with_reducible refine(x.o _ _ _ _ _ _ q).mono ?_);rintro e n⟨rfl,X,h2,T,r,J,F⟩)
  |(go_at_call 30;(with_reducible refine(z.o _ _ _ _ _ _ r).mono ?_);rintro e x6⟨rfl,x1,x3,x0,s,L,h9⟩)
  |(go_at_call 10;(with_reducible refine(A.o _ _ _ _ _ _ s).mono ?_);rintro e x7⟨x4,rfl,O,M,-⟩;obtain⟨h4,h5,rfl,P,-⟩:=O.memA;obtain⟨h8,x2,rfl,-,h3,-⟩:=Ru P (i:=0) (x:=j) rfl;rw[a.o,Hd,Y6]at h3))
 go_ret;refine⟨rfl,?_⟩;have hw:∀a∈QY b c d f (.slice none 0 0),w.heap.size≤a:=t;have g:=(m.trans G fun a d=>.inr<|hw a d);have h:∀a∈QY b c U Y Q,w.heap.size≤a:=fun a d=>(C a d).elim (hw a) fun f=>QU m.size f
 have j:=g.trans H fun a d=>.inr<|h a d;have k:∀a∈QY b c V Z R,w.heap.size≤a:=fun a d=>(D a d).elim (h a) fun f=>QU g.size f
 have g:=j.trans I fun a d=>.inr<|k a d;have l:∀a∈QY b c W h1 S,w.heap.size≤a:=fun a d=>(E a d).elim (k a) fun f=>QU j.size f
 have h:=g.trans J fun a d=>.inr<|l a d;have n:∀a∈QY b c X h2 T,w.heap.size≤a:=fun a d=>(F a d).elim (l a) fun f=>QU g.size f
 exact(h.trans L fun a d=>.inr<|n a d).trans M (by simp)
end
section
open Go.Sort Go.Shelf
def pF(L:List (List UInt8))(w:World)(e:Ending)(w':World):Prop:=∃a,e=.returned a∧Qh w' 9 a (strs L)∧Qb [] w w'∧∀b∈Qd a,w.heap.size≤b
def Qac{a d nv pv mv s w}(h:Vt w a d nv pv mv s)(hl:s.mem.length≤1000):Calls prog 27 #[.pointer a] w (pF (s.mem.map (·.path)) w):=by
 have HM:=Qa<|Gg h hl;have⟨l,x4⟩:=qx s.mem;rw[x4]at HM hl ⊢;have⟨n,h1⟩:=qx l.length;have HN:=Qa h1;rw[h1]at hl;go_enter func27,ntmps27;go_wp2_with (first
  |(go_at_call 10;refine HM.o.mono ?_;rintro e w1⟨v1,rfl,x5,x2,-⟩;obtain⟨a1,c1,rfl,h5,-⟩:=x5.memA;rw[h1]at h5;have x7:=Qa h5;have h9:=Qa x2))
 go_loopg [3,9] n (fun k x3 x9 wr=>(∃(i:Nat)(v3:Value),i≤n∧k=n-i∧v3=x3∧x9=.int .i64 (i:Nat)∧Hid (Qh wr 9 v3<|strs<|(l.take i).map (·.path))∧Hid (∀x∈Qd v3,w1.heap.size≤x))∧Hid (Qb [] w1 wr))
 ·exact⟨⟨0,_,by omega,by omega,rfl,rfl,Qa<|Qh.nil _ _,Qa<|by simp[Qd,qo]⟩,Qa<|Qc _ _⟩
 obtain⟨⟨i,v3,hi,hk,rfl,rfl,x0,h2⟩,q⟩:=hrel
 by_cases hlt:i<n
 ·have q0:(i:Int)<n:=by omega
  have⟨m,hm⟩:=qy l i (by have:=HN.o;omega);obtain⟨g,y3,rfl,c0,e1,e2,e3,e4⟩:=Ru (x7.o.kZ q.o) hm;have HT:=Qa (by rw[ZE,hm];simp[strs]:strs ((l.take<|i+1).map (·.path))=strs ((l.take i).map (·.path))++[.string<|str m.path]);have x1:(strs<|(l.take i).map (·.path)).length≤1000:=by rw[Uj,QG,Zn];omega
  have h3:=x0.o;have⟨o,x6⟩:=qx<|strs<|(l.take i).map (·.path);rw[x6]at HT x1 h3;have L1:o.length+1≤maxLen:=by simp only[maxLen];omega
  have L2:(o.length+1)*16≤140737488355328:=by omega
  have h4:=(Qc [] wr).alloc<|.cells #[.string<|str m.path,.int .i64 m.start,.int .i64 m.eZ,.int .i64 m.size,.int .u32 m.sum] 69;have y1:=h3.kept h4 (by simp);have h8:=Qa h4;go_wp2_with (at_builtin;refine Fa (wr.alloc<|.cells #[.string<|str m.path,.int .i64 m.start,.int .i64 m.eZ,.int .i64 m.size,.int .u32 m.sum] 69) rfl _ _ 60 rfl 9 (.string ⟨#[]⟩) 16 Cd CY rfl v3 (.string<|str m.path) o rfl (by rw[U8];rfl) rfl rfl y1 L1 L2 ?_;intro g5 c5 w5 y2 y0 x8)
  go_roundg (n-(i+1))
  ·refine⟨⟨i+1,_,by omega,rfl,rfl,by go_num,Qa ?_,Qa ?_⟩,Qa<|(q.o.trans h8.o<|by simp).trans y0 fun y hy=>.inr<|h2.o y hy⟩
   ·rwa[HT.o]
   intro y hy;simp[Qd,qo]at hy;subst hy;rcases x8 with h|h
   ·exact h2.o _ h
   have:=q.o.size;have:=h8.o.size;omega
  omega
 obtain rfl:i=n:=by omega
 have q0:¬(i:Int)<i:=by omega
 go_wp2
 go_ret;have:=x0.o;rw[Zd (by rw[HN.o];exact Ql _)]at this;exact⟨_,rfl,this,h9.o.trans q.o<|by simp,fun x hx=>QU h9.o.size<|h2.o x hx⟩
end
section
open Go.Sort Go.Shelf
def Qhc(n:Int)(v l w)(f:Jy w)(a:10≤w.heap.size)(o: -9223372036854775808≤n)(p:n≤9223372036854775807)(b:CJ w v l):
 Calls prog 5 #[n,v] w fun e w'=>e=.returned (.bool true)∧Qb [] w w':=by
 obtain⟨al,c,rfl,hs⟩:=b.see;have⟨h,g⟩:=qx l.length;have j:=Qa<|vJ _ l w b;have i:=Qa b;rw[g]at hs j ⊢;have z:=Qa hs;have m:=Qa g;have:=Qa f;have:=Qa a;have s:=Qa<|Qfq n w o p;have W:=Qa fun k (c:Qb [] w k)=>rA k (f.kZ c)<|QU a c.size;have r:=Qa fun d (F:31≤d)(h2:d≤231)=>eR d w F (by omega) f a;clear b hs g f a o p;go_enter func5,ntmps5;go_wp2_with (first
  |(go_at_call 6;refine j.o.mono ?_;rintro e D⟨⟨a,rfl,hb⟩,L⟩;replace L:=L.symm;subst L;have q:=Qa hb;clear hb)
  |(go_at_call 7;refine(W.o _<|Qc _ _).mono ?_;rintro e C⟨rfl,x⟩)
  |(go_at_call 9;refine s.o.mono ?_;rintro e C⟨⟨d,rfl,p,y⟩,M⟩;replace M:=M.symm;subst M)
  |(go_at_call 8;refine(r.o d p y).mono ?_;rintro e E⟨g,f,A,B,rfl,t,o,b⟩))
 ·go_ret;exact⟨rfl,x⟩
 have hb:a=true:=by simpa using ‹(!a)=false›
 obtain⟨j,a⟩:=q.o hb;have r:=Qa a;rw[m.o]at j;clear a hb;have⟨x,s,q⟩:=qc t o b;clear t o b
 go_loopg [7,8,9,10,11] h (fun a o b b b b wr=>∃(b:Nat)(y:Vst)(j:List UInt8→List UInt8)(A B mv:Value),b≤h∧a=h-b∧o=.int .i64 (b:Nat)∧Hid (Ze wr f g A B mv y∧Vok y j∧y.dev.lZ≤10+60000*b∧∀a∈QY f g A B mv,w.heap.size≤a)∧Hid (Qb [] w wr))
 ·exact⟨0,_,fun _=>[],_,_,_,by omega,by omega,rfl,Qa ⟨x.o,Vok.fresh d p (by omega) _,by show 0+(UI 0 []).length+1≤_;rw[CA];omega,q.o⟩,s⟩
 obtain⟨b,y,j,d,d,d,hi,hk,rfl,j,o⟩:=hrel
 by_cases hlt:b<h
 ·have x6:(b:Int)<h:=by omega
  have⟨a,d⟩:=qy l b (by have:=m.o;omega);have H:=QC d;obtain⟨t,x,x4,h3⟩:=j.o;obtain⟨x2,x5,rfl,h1⟩:=WD z.o d;have V:=Qa (fun k (c:Qb [] w k) m u (hr:m<7)(hu:(R6 a)[m]?=some u)=>c.cZ (h1 m u hr hu)<|by simp);have X:=Qa<|TK t.vt.dk x.dev;have Y:=Qa<|eE t x;have h8:=Qa fun k (c:Qb [] wr k)=>Qac (t.kZ c).vt (by have:=x.few;omega);have T:=r.o a H;obtain⟨x7,t2,t3,t4⟩:=i.o.strs a H;have D:=Qa (fun k (c:Qb [] wr k)=>qI (t.kZ c) x a (((i.o.ents a H).kZ o.o).kZ c) T ⟨t2,fun c hf=>(t4 c hf).2⟩<|by omega);obtain⟨E,p⟩:=x.does a.act (by omega);have s:=p.few x (by have:=T.2.1;omega);obtain⟨⟨m,c⟩,Z⟩:∃j,y.does a.act=j:=⟨_,rfl⟩;rw[Z]at p s D;obtain⟨x0,x1,h4,-⟩:=i.o.ents a H;have⟨z,O⟩:=qx y.dev.lZ;have⟨C,P⟩:=qx c.dev.lZ;have⟨q,R⟩:=qx<|Zj y.mem;have⟨r,S⟩:=qx<|Zj c.mem;have⟨j,G⟩:=qx y.mem.length;have⟨i,Q⟩:=qx a.act.files.length;have hb:=p.c1;have U:=p.same;have x3:=x.sum;have I:=p.ok.sum;have J:=x.few;have h5:=p.ok.few;have h9:=T.2.1;simp only[]at hb U s I h5;rw[O,P,R,S,G,Q]at hb;rw[O,P]at U s;rw[R,G]at x3;rw[S]at I;rw[G]at J;rw[Q]at h9;have I:=Qa fun k A mv B (s:Ze k f g A B mv c)=>TK s.vt.dk p.ok.dev;have J:=Qa fun k A mv B (s:Ze k f g A B mv c)=>eE s p.ok;rw[O]at X;rw[R]at Y;rw[P]at I;rw[S]at J;have x3:=V.o w<|Qc _ _;have A:=Qa<|QQ p.ok (by omega:c.dev.lZ≤10+60000*(b+1));have B:=Qa<|QQ t h3;have h5:=Qa (by omega:z≤20000000);have h9:=Qa (show(y.mem.map (·.path)).length=j by rw[QG,G]);have k:=Qa<|QQ h4 Q;clear p Z O P R S G Q t x x4 h3 h1 T x7 t2 t3 t4 d H x3 h4;go_wp2_with (first
   |(go_at_call 26;refine X.o.mono ?_;rintro e O⟨rfl,p⟩;replace p:=p.symm;subst p)
   |(go_at_call 23;refine Y.o.mono ?_;rintro e y⟨rfl,t⟩))
  have x:=V.o y (o.o.trans t<|by simp) 4 _ (by decide) rfl;rw[k.o.1,k.o.2]at x;have L:IntKind.i64.wrap ((j:Int)+i)=(j:Int)+i:=by rw[Zx];omega
  have M:IntKind.i64.wrap ((j:Int)+i+1)=(j:Int)+i+1:=by rw[Zx];omega
  have:IntKind.i64.wrap ((C:Int)-z)=(C:Int)-z:=by have:=h5.o;rw[Zx];omega
  have p:IntKind.i64.wrap ((q:Int)+r)=(q:Int)+r:=by rw[Zx];omega
  have:IntKind.i64.wrap (4*((q:Int)+r))=4*((q:Int)+r):=by rw[Zx];omega
  have:IntKind.i64.wrap (30*((j:Int)+i+1))=30*((j:Int)+i+1):=by rw[Zx];omega
  have:IntKind.i64.wrap (4*((q:Int)+r)+30*((j:Int)+i+1))=4*((q:Int)+r)+30*((j:Int)+i+1):=by rw[Zx];omega
  have:¬4*((q:Int)+r)+30*((j:Int)+i+1)<(C:Int)-z:=by omega
  go_region_held3 (fun w'=>w'.cell? ⟨x2,x5+b*7+4,none⟩=some (.slice x0 i x1)) (first|exact x|exact q|go_keep)
   ((go_at_call 27;refine(h8.o _<|t.trans (Qc [] y).drew<|by simp).mono ?_;rintro e H⟨v9,rfl,G,p,-⟩;obtain⟨a9,r,j,-,-,-⟩:=G.sees;rw[Uj,h9.o]at j;subst j;have q:=p.cZ x<|by simp))
  have j:Qb [] wr H:=t.trans ((Qc [] y).drew.trans p<|by simp) (by simp);have r:=Qa j;have i:=V.o H (o.o.trans j<|by simp);have y:=i 0 _ (by decide) rfl;have:=i 1 _ (by decide) rfl;have:=i 2 _ (by decide) rfl;have:=i 3 _ (by decide) rfl;have H:=i 4 _ (by decide) rfl;have:=i 5 _ (by decide) rfl;have:=i 6 _ (by decide) rfl;rw[Y6]at y;unfold R6 at D;rw[k.o.1,k.o.2]at D H;clear i j p t G x q;have key:m=0∨m=220∨(m≠0∧m≠220∧z=C):=by
   by_cases h0:m=0
   ·exact .inl h0
   by_cases F:m=220
   ·exact .inr<|.inl F
   exact .inr<|.inr ⟨h0,F,(U h0 F).symm⟩
  clear U;rcases key with rfl|rfl|⟨k0,k1,rfl⟩
  ·skip
   go_wp2_with (first
    |(go_at_call 15;refine(D.o _ r.o).mono ?_;rintro e H⟨rfl,p,q,k,j,F,C⟩)
    |(go_at_call 26;refine(I.o _ _ _ _ j).mono ?_;rintro e L⟨rfl,i⟩;replace i:=i.symm;subst i)
    |(go_at_call 23;refine(J.o _ _ _ _ j).mono ?_;rintro e x⟨rfl,t⟩))
   have G:∀a∈QY f g p q k,w.heap.size≤a:=fun a d=>(C a d).elim (B.o.2 a) fun s=>QU o.o.size<|QU r.o.size s
   have⟨z,y⟩:=qb (show Ze x f g p q k c∧Vok c E∧c.dev.lZ≤10+60000*(b+1)∧∀a∈QY f g p q k,w.heap.size≤a from⟨j.kZ t,A.o.1,A.o.2,G⟩)<|show Qb [] w x from(((o.o.trans r.o<|by simp).trans F fun a d=>.inr<|B.o.2 a d).trans t<|by simp)
   go_roundg (h-(b+1))
   ·exact⟨b+1,c,E,_,_,_,by omega,rfl,by go_num,z,y⟩
   omega
  ·skip
   go_wp2_with (first
    |(go_at_call 15;refine(D.o _ r.o).mono ?_;rintro e H⟨rfl,p,q,k,j,F,C⟩)
    |(go_at_call 26;refine(I.o _ _ _ _ j).mono ?_;rintro e L⟨rfl,i⟩;replace i:=i.symm;subst i)
    |(go_at_call 23;refine(J.o _ _ _ _ j).mono ?_;rintro e x⟨rfl,t⟩))
   have G:∀a∈QY f g p q k,w.heap.size≤a:=fun a d=>(C a d).elim (B.o.2 a) fun s=>QU o.o.size<|QU r.o.size s
   have⟨z,y⟩:=qb (show Ze x f g p q k c∧Vok c E∧c.dev.lZ≤10+60000*(b+1)∧∀a∈QY f g p q k,w.heap.size≤a from⟨j.kZ t,A.o.1,A.o.2,G⟩)<|show Qb [] w x from(((o.o.trans r.o<|by simp).trans F fun a d=>.inr<|B.o.2 a d).trans t<|by simp)
   go_roundg (h-(b+1))
   ·exact⟨b+1,c,E,_,_,_,by omega,rfl,by go_num,z,y⟩
   omega
  have:(m==0)=false:=Zh.2 k0;have q2:(m==220)=false:=Zh.2 k1;go_wp2_with (first
   |(go_at_call 15;refine(D.o _ r.o).mono ?_;rintro e H⟨rfl,p,q,k,j,F,C⟩)
   |(go_at_call 26;refine(I.o _ _ _ _ j).mono ?_;rintro e L⟨rfl,i⟩;replace i:=i.symm;subst i)
   |(go_at_call 23;refine(J.o _ _ _ _ j).mono ?_;rintro e x⟨rfl,t⟩))
  have G:∀a∈QY f g p q k,w.heap.size≤a:=fun a d=>(C a d).elim (B.o.2 a) fun s=>QU o.o.size<|QU r.o.size s
  have⟨z,y⟩:=qb (show Ze x f g p q k c∧Vok c E∧c.dev.lZ≤10+60000*(b+1)∧∀a∈QY f g p q k,w.heap.size≤a from⟨j.kZ t,A.o.1,A.o.2,G⟩)<|show Qb [] w x from(((o.o.trans r.o<|by simp).trans F fun a d=>.inr<|B.o.2 a d).trans t<|by simp)
  go_roundg (h-(b+1))
  ·exact⟨b+1,c,E,_,_,_,by omega,rfl,by go_num,z,y⟩
  omega
 obtain rfl:h=b:=by omega
 have x6:¬(h:Int)<h:=by omega
 go_wp2_with (go_at_call 7;refine(W.o _ o.o).mono ?_;rintro e O⟨rfl,a⟩);go_ret;exact⟨rfl,o.o.trans a<|by simp⟩
end
