import Derived.Test.YtickjpnkoppmgaaGreatDoorBt
set_option linter.all false
set_option maxHeartbeats 2000000
set_option maxRecDepth 100000
namespace Go.Proofs.YtickjpnkoppmgaaGreatDoor
open Go.Proofs.Tryz Go.RowKit K
section
open Go.ChangeShapes Go.WideShapes Go.ChangeAt Go.Deep
def jP(x):str x.data.toList=x:=by unfold str;rw[Array.toArray_toList]
def Qf3{H enc W a len cap}{d:DataW H}{p}(h:DataW.Trod enc prog W 0 (fun _=>true) true 30 (.slice a len cap) d p)(x1:∀m∈d.weights prog 30,m≤reachBytes):
 ∃l:List QC,V2 W (.slice a len cap) l∧l.length≤17592186043904∧∀f∈l,f.1.length≤140737488351232∧f.2.length≤140737488351232:=by
 obtain⟨ps,h1,h2,h3,h4,h5,h6⟩:=iN 2 (fun p:ByteArray × ByteArray=>[Value.string p.1,.string p.2]) (fun p=>p.1.size≤140737488351232∧p.2.size≤140737488351232) Ft (by kernel_rfl) (by decide) (fun _=>rfl)
  (fun n o D hr hw=>by
   obtain⟨y0,y1,m,rfl,hl,x2,x3⟩:=trod_struct2 Td hr;have x0:o.length=2:=hl.trans (by kernel_rfl);obtain⟨c0,c1,rfl⟩:∃c0 c1,o=[c0,c1]:=by
    match o,x0 with
    | [c0,c1],_=>exact⟨c0,c1,rfl⟩
   obtain⟨x,g1,hx,-⟩:=DataW.trod_string Yj x2;obtain⟨y,g2,hy,-⟩:=DataW.trod_string Yj x3;have e1:prog.cellsOf 9=1:=(by kernel_rfl);simp[e1]at g1 g2;subst g1 g2;have h8:=hw x.data.toList.length (by simp[DataW.weights,DataW.weightsEach,Td,hx]);have h9:=hw y.data.toList.length (by simp[DataW.weights,DataW.weightsEach,Td,hy]);rw[CG]at h8 h9;exact⟨(x,y),rfl,by simpa[reachBytes]using h8,by simpa[reachBytes]using h9⟩) x1 h
 have e3:prog.bytesOf 63=32:=by kernel_rfl
 rw[e3]at h5;simp only[reachBytes]at h5;refine⟨ps.map fun p=>(p.1.data.toList,p.2.data.toList),⟨a,cap,by simp[h2],?_⟩,by rw[QH];omega,?_⟩
 ·rw[QH,h2];have e:Qx Y4 (ps.map fun p=>(p.1.data.toList,p.2.data.toList))=ps.flatMap (fun p:ByteArray × ByteArray=>[Value.string p.1,.string p.2]):=by unfold Qx Y4;rw[List.flatMap_map];simp only[jP]
  rwa[e]
 intro f hf;obtain⟨q,hq,rfl⟩:=QB.1 hf;have:=h6 q hq;simp only[Rr];exact this
def Qh8{j enc P w base c b t}{d e f g h i:Field}{k a}{x:DataW j × List MemPlace}(r:P.underlying t=some (.struct #[d,e,f,g,h,i]))(q:DataW.trod enc P w base c b k t a=some x):
 ∃j k l m o p n,x=(.agg [j.1,k.1,l.1,m.1,o.1,p.1],j.2++(k.2++(l.2++(m.2++(o.2++p.2)))))∧a.length=P.cellsOf t∧DataW.trod enc P w base c b n d.type ((a.drop d.offset).take<|P.cellsOf d.type)=some j∧
  DataW.trod enc P w base c b n e.type ((a.drop e.offset).take<|P.cellsOf e.type)=some k∧DataW.trod enc P w base c b n f.type ((a.drop f.offset).take<|P.cellsOf f.type)=some l∧
  DataW.trod enc P w base c b n g.type ((a.drop g.offset).take<|P.cellsOf g.type)=some m∧DataW.trod enc P w base c b n h.type ((a.drop h.offset).take<|P.cellsOf h.type)=some o∧
  DataW.trod enc P w base c b n i.type ((a.drop i.offset).take<|P.cellsOf i.type)=some p:=by
 obtain⟨c,n,_,rfl,a,b,hf⟩:=DataW.trod_struct r q
 match c,b with
 | [j,k,l,m,o,p],_=>exact⟨j,k,l,m,o,p,n,by simp,a,by simpa using hf 0 d rfl,by simpa using hf 1 e rfl,by simpa using hf 2 f rfl,by simpa using hf 3 g rfl,by simpa using hf 4 h rfl,by simpa using hf 5 i rfl⟩
def Qf2{H enc W a len cap}{d:DataW H}{p}(h:DataW.Trod enc prog W 0 (fun _=>true) true 22 (.slice a len cap) d p)(x8:∀m∈d.weights prog 22,m≤reachBytes):
 ∃l:List V0,CK W (.slice a len cap) l:=by
 obtain⟨l,h1,h2,h3,h4,h5,h6⟩:=iN 7 J9 (fun x=>V2 W x.fv x.act.files∧(∃a n c,x.kv=.slice a n c)∧x.act.path.length≤140737488351232∧x.act.text.length≤140737488351232∧x.act.files.length≤17592186043904∧∀f∈x.act.files,f.1.length≤140737488351232∧f.2.length≤140737488351232)
  underlying22 (by kernel_rfl) (by decide) (fun _=>rfl)
  (fun n cs D hr hw=>by
   obtain⟨y0,y1,y2,y3,y4,y5,m,rfl,hl,g0,g1,g2,g3,g4,g5⟩:=Qh8 Ml hr;have x4:cs.length=7:=hl.trans (by kernel_rfl);obtain⟨c0,c1,c2,c3,q,c5,y,rfl⟩:∃c0 c1 c2 c3 q c5 y,cs=[c0,c1,c2,c3,q,c5,y]:=by
    match cs,x4 with
    | [c0,c1,c2,c3,q,c5,y],_=>exact⟨c0,c1,c2,c3,q,c5,y,rfl⟩
   have e1:prog.cellsOf 9=1:=(by kernel_rfl);have e2:prog.cellsOf 3=1:=(by kernel_rfl);have e3:prog.cellsOf 30=1:=(by kernel_rfl);have e4:prog.cellsOf 35=2:=(by kernel_rfl);have e5:prog.cellsOf 33=1:=(by kernel_rfl);obtain⟨x0,k0,-,-⟩:=DataW.trod_int U6 g0;obtain⟨x1,k1,x9,-⟩:=DataW.trod_string Yj g1;obtain⟨x2,k2,y6,-⟩:=DataW.trod_string Yj g2;obtain⟨x3,k3,-,-⟩:=DataW.trod_int U6 g3;obtain⟨z0,z1,m2,-,-,q0,q1⟩:=trod_struct2 underlying35 g5;obtain⟨x5,k5,-,-⟩:=DataW.trod_int U6 q0;simp[e1,e2,e3,e4,e5]at k0 k1 k2 k3 k5 g4;subst k0 k1 k2 k3 k5;obtain⟨a4,l4,h8,rfl⟩:∃a4 l4 h8,q=.slice a4 l4 h8:=by
    rcases open_slice Ft g4 with⟨o,-⟩|⟨ad,l,c,m,n',D',Pl,o,-⟩
    ·exact⟨_,_,_,by simpa using o⟩
    exact⟨_,_,_,by simpa using o⟩
   obtain⟨a6,l6,h9,rfl⟩:∃a6 l6 h9,y=.slice a6 l6 h9:=by
    simp[e2,e4,e5]at q1;rcases open_slice underlying33 q1 with⟨o,-⟩|⟨ad,l,c,m,n',D',Pl,o,-⟩
    ·exact⟨_,_,_,by simpa using o⟩
    exact⟨_,_,_,by simpa using o⟩
   obtain⟨fl,f1,f2,f3⟩:=Qf3 (a:=a4) (len:=l4) (cap:=h8) (d:=y4.1) (p:=y4.2) ⟨m,g4⟩ (fun n hn=>hw n<|by simp[DataW.weights,DataW.weightsEach,Ml,hn]);have x6:=hw x1.data.toList.length (by simp[DataW.weights,DataW.weightsEach,Ml,x9]);have x7:=hw x2.data.toList.length (by simp[DataW.weights,DataW.weightsEach,Ml,y6]);refine⟨⟨⟨x0,x1.data.toList,x2.data.toList,x3,fl⟩,.slice a4 l4 h8,x5,.slice a6 l6 h9⟩,by simp[J9,jP],f1,⟨_,_,_,rfl⟩,by simpa[reachBytes]using x6,by simpa[reachBytes]using x7,f2,f3⟩) x8 h
 have e3:prog.bytesOf 22=24:=by kernel_rfl
 refine⟨l,⟨⟨a,cap,by rw[h2],by rwa[h2]⟩,?_,fun x hx=>(h6 x hx).1,fun x hx=>(h6 x hx).2.1,fun x hx=>(h6 x hx).2.2⟩⟩;have e4:prog.bytesOf 37=104:=by kernel_rfl
 rw[e4]at h5;simp only[reachBytes]at h5;omega
end
section
open Go.Sort Go.Shelf
def rL(w)(n:JF w)(a:10≤w.heap.size):Calls prog 7 #[] w fun e w'=>e=.returned (.bool true)∧Qb [] w w':=by
 obtain⟨j,l,m,h,c1,c2,p,t,q,v2,r,v3,s,v4,k,o,k1,k2,k3,k4⟩:=Qiv fun _=>[];have v0:=Vok.fresh 60 (by decide) (by decide) fun _=>[];have k0:(Vst.fresh 60).dev.lZ≤6:=by show 0+(UT 0 []).length+1≤6;rw[CB];decide
 have⟨B,v,u,y,x⟩:=qe (fD 60 w (by decide) (by decide) n a) (fun a b c d f mv (g:Zj a b c d f mv (Vst.fresh 60))=>show Calls prog 12 #[.pointer<|some ⟨b,0,none⟩,.string ⟨#[98]⟩,.string ⟨#[50]⟩] a fun e w'=>e=.returned (0:Int)∧ZQ a b c d f mv j w' by have:=Pm g v0 [98] [50] (by simp) (by simp) (QS (Sh k0 _)<|by decide);rw[p]at this;exact this) (fun a b c d f mv (g:Zj a b c d f mv j)=>show Calls prog 12 #[.pointer<|some ⟨b,0,none⟩,.string ⟨#[97]⟩,.string ⟨#[49]⟩] a fun e w'=>e=.returned (0:Int)∧ZQ a b c d f mv l w' by have:=Pm g t [97] [49] (by simp) (by simp) (by omega);rw[q]at this;exact this) (fun a b c d f mv (g:Zj a b c d f mv l)=>show Calls prog 28 #[.pointer<|some ⟨b,0,none⟩,.string ⟨#[98]⟩] a fun e w'=>e=.returned (0:Int)∧ZQ a b c d f mv m w' by have:=Wz g v2 [98] (by simp) (by omega);rw[r]at this;exact this) (fun a b c d f mv (g:Zj a b c d f mv m)=>show Calls prog 29 #[.pointer<|some ⟨b,0,none⟩] a fun e w'=>e=.returned (0:Int)∧ZQ a b c d f mv h w' by have:=Wt g v3 (by omega);rw[s]at this;exact this);obtain⟨j,m⟩:∃j:RM,(⟨[97],30,2,1,Yw [49]⟩:RM)=j:=⟨_,rfl⟩;have l:j.path=[97]∧j.start=30:=by rw[←m];exact⟨rfl,rfl⟩
 rw[m]at k;have z:=Qa (fun a b c d f mv (g:Zj a b c d f mv h)=>show Calls prog 30 #[.pointer<|some ⟨b,0,none⟩,.string ⟨#[97]⟩] a fun e w'=>e=.returned (.tuple #[.string ⟨#[49]⟩,(0:Int)])∧
  ZQ a b c d f mv {h with dev:={h.dev with lZ:=h.dev.lZ+j.eZ.toNat}} w' by
  have:=WT g v4 (m:=j) (by rw[k];simp) (by omega);rw[l.1,o]at this;exact this)
 have A:=Qa (fun a b c d f mv (g:Zj a b c d f mv {h with dev:={h.dev with lZ:=h.dev.lZ+j.eZ.toNat}})=>show Calls prog 10 #[.pointer<|some ⟨b,0,none⟩] a (Fh [j] a)by
  have:=Do g.vt (by show h.mem.length≤1000;rw[k];simp);rwa[show({h with dev:={h.dev with lZ:=h.dev.lZ+j.eZ.toNat}}:Vst).mem=[j]from k]at this)
 have a:=Qa l.2;go_enter func7,ntmps7;go_wp2_with (first
  |(go_at_call 8;refine B.o.mono ?_;rintro e x5⟨c,b,d,f,rfl,g,m,t⟩)
  |(go_at_call 12;(with_reducible refine(v.o _ _ _ _ _ _ g).mono ?_);rintro e h⟨rfl,U,Y,Q,o,G,C⟩)
  |(go_at_call 12;(with_reducible refine(u.o _ _ _ _ _ _ o).mono ?_);rintro e k⟨rfl,V,Z,R,p,H,D⟩)
  |(go_at_call 28;(with_reducible refine(y.o _ _ _ _ _ _ p).mono ?_);rintro e l⟨rfl,W,h1,S,q,I,E⟩)
  |(go_at_call 29;(with_reducible refine(x.o _ _ _ _ _ _ q).mono ?_);rintro e n⟨rfl,X,h2,T,r,J,F⟩)
  |(go_at_call 30;(with_reducible refine(z.o _ _ _ _ _ _ r).mono ?_);rintro e x6⟨rfl,x1,x3,x0,s,L,h9⟩)
  |(go_at_call 10;(with_reducible refine(A.o _ _ _ _ _ _ s).mono ?_);rintro e x7⟨x4,rfl,O,M,-⟩;obtain⟨h4,h5,rfl,P,-⟩:=O.memA;obtain⟨h8,x2,rfl,-,h3,-⟩:=VT P (i:=0) (x:=j) rfl;rw[a.o,GZ,Jb]at h3))
 go_ret;refine⟨rfl,?_⟩;have hw:∀a∈QT b c d f (.slice none 0 0),w.heap.size≤a:=t;have g:=(m.trans G fun a d=>.inr<|hw a d);have h:∀a∈QT b c U Y Q,w.heap.size≤a:=fun a d=>(C a d).elim (hw a) fun f=>QS m.size f
 have j:=g.trans H fun a d=>.inr<|h a d;have k:∀a∈QT b c V Z R,w.heap.size≤a:=fun a d=>(D a d).elim (h a) fun f=>QS g.size f
 have g:=j.trans I fun a d=>.inr<|k a d;have l:∀a∈QT b c W h1 S,w.heap.size≤a:=fun a d=>(E a d).elim (k a) fun f=>QS j.size f
 have h:=g.trans J fun a d=>.inr<|l a d;have n:∀a∈QT b c X h2 T,w.heap.size≤a:=fun a d=>(F a d).elim (l a) fun f=>QS g.size f
 exact(h.trans L fun a d=>.inr<|n a d).trans M (by simp)
end
def YR(x:QC)(F:List QC)(i:Nat)(b:Bool)(a:List QC):Prop:=
 XY (·.1) x F=a++(if b=true then F.drop i else XY (·.1) x (F.drop i))∧(b=true→∀a∈F.drop i,Xd x.1 a.1<0)
def YR.start(x:QC)(F:List QC):YR x F 0 false []:=⟨by simp,by simp⟩
def YR.stop{x:QC}{F a:List QC}{i:Nat}{b:Bool}(c:YR x F i b a)(hi:F.length≤i):XY (·.1) x F=if b=true then a else a++[x]:=by have a:=c.1;rw[BV hi]at a;rw[a];cases b<;>simp[XY]
def YR.step{x f:QC}{F a:List QC}{i:Nat}{b:Bool}(d:YR x F i b a)(h:Ug (·.1) F)(hf:F[i]?=some f):
 (b=false→Xd x.1 f.1<0→YR x F (i+1) true (a++[x]++[f]))∧(b=false→Xd x.1 f.1=0→YR x F (i+1) true (a++[x]))∧
 (b=false→0<Xd x.1 f.1→YR x F (i+1) false (a++[f]))∧(b=true→Xd x.1 f.1<0∧YR x F (i+1) true (a++[f])):=by
 obtain⟨c,rfl⟩:=Qz.1 hf;have a:=Z8 c;obtain⟨e,g⟩:=d;rw[a]at e g;have j:∀c∈F.drop (i+1),Xd F[i].1 c.1<0:=by have:=List.Pairwise.sublist (List.drop_sublist i F) h;rw[a]at this;exact(Vm.1 this).1
 have hlt:Xd x.1 F[i].1<0→∀c∈F.drop (i+1),Xd x.1 c.1<0:=fun d c h=>FF d<|j c h
 refine⟨fun a d=>⟨?_,fun _=>hlt d⟩,fun a d=>⟨?_,fun _ c h=>?_⟩,fun a d=>⟨?_,fun a=>by simp at a⟩,fun a=>⟨g a _<|YH ..,?_,fun _=>hlt<|g a _<|YH ..⟩⟩
 ·subst a;rw[e,Qf<|by simp,XY,Qg d,Qg rfl];simp
 ·subst a;rw[e,Qf<|by simp,XY,Qf<|by omega,Qg d,Qg rfl];simp
 ·rw[El d];exact j c h
 ·subst a;rw[e,Qf<|by simp,XY,Qf<|by omega,Qf<|by omega,Qf<|by simp];simp
 subst a;rw[e,Qg rfl,Qg rfl];simp
def Qi1{p:LU}{F:List QC}{i:Nat}{f:QC}(hf:F[i]?=some f):UK (·.1) p (F.take<|i+1)=UK (·.1) p (F.take i)++if f.1=p then []else [f]:=by
 rw[Zt,hf];unfold UK;rw[Aw]
 by_cases a:f.1=p
 ·rw[Qg a];simp[a]
 rw[Qf a];simp[a]
def vV{s s':Vst}{c:LU→LU}{p:LU}(a:s'.mem=Ci p s.mem):Yn s' c=UK (·.1) p (Yn s c):=by unfold Yn UK;rw[a,List.filter_map];rfl
def YP(l:List RM)(cap i:Nat)(k:Int)(b:LN):Prop:=
 b.length=cap∧∀(a c:Nat),b[a]?=some c→(c≠0↔∃(c:Nat)(b:RM),l[c]?=some b∧b.start≤(a:Int)∧(a:Int)<b.start+b.eZ∧(c<i∨(c=i∧(a:Int)<k)))
def YP.start(l:List RM)(cap:Nat):YP l cap 0 0 (List.replicate cap 0):=by refine⟨RV ..,fun a a a=>?_⟩;have:=Bl<|QA a;subst this;refine⟨fun a=>absurd rfl a,?_⟩;rintro⟨b,b,-,-,-,a|⟨-,a⟩⟩<;>omega
def YP.next{l:List RM}{cap i:Nat}{k k':Int}{o:LN}{m:RM}(h:YP l cap i k o)(hm:l[i]?=some m)(hk:m.start+m.eZ≤k)(h5:k'≤0):YP l cap (i+1) k' o:=by
 refine⟨h.1,fun j u hu=>?_⟩;rw[h.2 j u hu];constructor
 ·rintro⟨r,x,q,y,h3,h4⟩;exact⟨r,x,q,y,h3,.inl<|by omega⟩
 rintro⟨r,x,q,y,h3,h4|⟨-,h4⟩⟩
 ·by_cases e:r=i
  ·subst e;rw[hm]at q;injection q with q;subst q;exact⟨r,m,hm,y,h3,.inr ⟨rfl,by omega⟩⟩
  exact⟨r,x,q,y,h3,.inl<|by omega⟩
 omega
def YP.skip{l:List RM}{cap i:Nat}{k k':Int}{o:LN}{m:RM}(h:YP l cap i k o)(hm:l[i]?=some m)(hk:k≤m.start)(h5:k'≤m.start):YP l cap i k' o:=by
 refine⟨h.1,fun j u hu=>?_⟩;rw[h.2 j u hu];constructor<;>rintro⟨r,x,q,h2,h3,y|⟨rfl,y⟩⟩
 ·exact⟨r,x,q,h2,h3,.inl y⟩
 ·rw[hm]at q;injection q with q;subst q;omega
 ·exact⟨r,x,q,h2,h3,.inl y⟩
 rw[hm]at q;injection q with q;subst q;omega
def YP.put{s:Vst}{c:LU→LU}(h:Vok s c){cap i k:Nat}{a:LN}{m:RM}(g:YP s.mem cap i k a)(j:s.mem[i]?=some m)(q:m.start≤k)(r:(k:Int)<m.start+m.eZ)(b:cap=s.dev.cap):
 a[k]?=some 0∧YP s.mem cap i ((k+1:Nat):Int) (a.set k<|i+1):=by
 have l:=QA j;have:=h.inX l;have hk:k<a.length:=by rw[g.1,b];omega
 have h0:a[k]=0:=Classical.byContradiction fun a=>by
  obtain⟨b,d,g1,e,g3,g4⟩:=(g.2 k _<|Qj hk).1 a;have t:b<i:=by omega
  have a:=QA g1;have hne:d.path≠m.path:=fun f=>by have:=h.only a l f;subst this;obtain⟨n,a2⟩:=Qz.1 g1;obtain⟨o,p⟩:=Qz.1 j;have hp:=Jp.1 h.rise b i n o t;rw[a2,p,Dc]at hp;omega
  have:=h.apart a l hne;unfold Uj Xe at this;simp only[]at this;omega
 refine⟨by rw[Qj hk,h0],by rw[Jo];exact g.1,fun h l a=>?_⟩;rw[YO]at a
 by_cases f:k=h
 ·subst f;rw[Qg rfl,Qg hk]at a;injection a with a;subst a;exact⟨fun _=>⟨i,m,j,q,r,.inr ⟨rfl,by omega⟩⟩,fun _=>by omega⟩
 rw[Qf f]at a;rw[g.2 h l a];constructor<;>rintro⟨b,d,g1,e,g3,g4|⟨g4,a⟩⟩
 ·exact⟨b,d,g1,e,g3,.inl g4⟩
 ·exact⟨b,d,g1,e,g3,.inr ⟨g4,by omega⟩⟩
 ·exact⟨b,d,g1,e,g3,.inl g4⟩
 exact⟨b,d,g1,e,g3,.inr ⟨g4,by omega⟩⟩
def LM(s:Vst)(b:LN):Prop:=b.length=s.dev.cap∧∀(a c:Nat),b[a]?=some c→(c≠0↔∃b∈s.mem,b.start≤(a:Int)∧(a:Int)<b.start+b.eZ)
def YP.stop{s:Vst}{i:Nat}{k:Int}{b:LN}(a:YP s.mem s.dev.cap i k b)(hi:s.mem.length≤i):LM s b:=by
 refine⟨a.1,fun c d b=>?_⟩;rw[a.2 c d b];constructor
 ·rintro⟨f,d,a,b,c,-⟩;exact⟨d,QA a,b,c⟩
 rintro⟨d,a,b,c⟩;obtain⟨f,e⟩:=Fc a;exact⟨f,d,e,b,c,.inl (by have:=(Qz.1 e).1;omega)⟩
structure UG(o:LN)(need k r:Nat):Prop where
 lt:r<need
 le:30+r≤k
 zero:∀j,k-r≤j→j<k→o[j]?=some 0
 edge:k=30+r∨o[k-r-1]?≠some 0
 no:∀a,30≤a→a+need≤k→∃j,a≤j∧j<a+need∧o[j]?≠some 0
def Fl(c:LN)(need:Nat)(r:Int):Prop:=(r= -1∧∀a,30≤a→a+need≤c.length→∃b,a≤b∧b<a+need∧c[b]?≠some 0)∨
 ∃a:Nat,r=a∧30≤a∧a+need≤c.length∧∀b,a≤b→b<a+need→c[b]?=some 0
def UG.start(b:LN){need:Nat}(a:1≤need):UG b need 30 0:=⟨a,Ql _,fun a a b=>by omega,.inl rfl,fun c a b=>by omega⟩
def UG.full{b:LN}{need k r:Nat}(a:UG b need k r)(h0:b[k]?≠some 0):UG b need (k+1) 0:=by
 have:=a.le;have:=a.lt;refine⟨by omega,by omega,fun b c d=>by omega,.inr<|by simpa using h0,fun b c d=>?_⟩
 by_cases d:b+need≤k
 ·exact a.no b c d
 exact⟨k,by omega,by omega,h0⟩
def UG.free{c:LN}{need k r:Nat}(b:UG c need k r)(h0:c[k]?=some 0):(r+1=need→Fl c need ((k+1-need:Nat):Int))∧(r+1≠need→UG c need (k+1) (r+1)):=by
 have:=b.le;have:=b.lt;have hk:=(Qz.1 h0).1;have hz:∀a,k+1-(r+1)≤a→a<k+1→c[a]?=some 0:=fun a g1 d=>by
  by_cases c:a=k
  ·rwa[c]
  exact b.zero a (by omega) (by omega)
 refine⟨fun c=>.inr ⟨k+1-need,rfl,by omega,by omega,fun a g1 d=>hz a (by omega)<|by omega⟩,fun c=>⟨by omega,by omega,hz,?_,fun c g1 d=>?_⟩⟩
 ·rcases b.edge with a|a
  ·exact .inl (by omega)
  right;rwa[show k+1-(r+1)-1=k-r-1 by omega]
 by_cases d:c+need≤k
 ·exact b.no c g1 d
 rcases b.edge with a|a
 ·omega
 exact⟨k-r-1,by omega,by omega,a⟩
def UG.stop{a:LN}{need k r:Nat}(b:UG a need k r)(hk:a.length≤k):Fl a need (-1):=.inl ⟨rfl,fun a c d=>b.no a c<|by omega⟩
def Qfa{s:Vst}{c:LU→LU}{a:LN}{r:Int}(f:LM s a)(b:Fl a 1 r)(hp:Ys s c [] (30+Zd s.mem)):r<0∨30+(Zd s.mem:Int)≤r:=by
 rcases b with⟨rfl,-⟩|⟨a,rfl,b,b,d⟩
 ·exact .inl (by omega)
 right;refine Int.not_lt.1 fun hlt=>?_
 obtain⟨g,e,-,g1,b⟩:=hp.tile a (by omega) hlt;exact((f.2 a 0<|d a (Ql _)<|by omega).2 ⟨g,e,g1,b⟩) rfl
def Qg0{A b:LY}{a n:Nat}(c:∀x∈A,x.length=512)(d:∀x∈b,x.length=512)(e:1≤n)(e:a+n≤A.length)(e:∀i,a≤i→i<a+n→b[i]?=A[i]?):
 512*(a+n)≤A.flatten.length∧512*(a+n)≤b.flatten.length∧(b.flatten.drop<|512*a).take (512*n)=(A.flatten.drop<|512*a).take (512*n):=by
 have hb:a+n≤b.length:=by have:=e (a+n-1) (by omega) (by omega);rw[Qj (l:=A)<|by omega]at this;have:=(Qz.1 this).1;omega
 refine⟨by rw[K.flat_len c];omega,by rw[K.flat_len d];omega,?_⟩;rw[(AN d a).2,(AN c a).2,(AN (fun x b=>d x<|GQ b) n).1,(AN (fun x b=>c x<|GQ b) n).1]
 congr 1
 refine Xo fun i=>?_
 by_cases hi:i<n
 ·rw[Bo hi,Bo hi,J4,J4];exact e _ (by omega) (by omega)
 rw[QX (by simp;omega),QX (by simp;omega)]
section
open Go.Sort Go.Shelf
def LD(w:WD)(F:List QC)(e:Ending)(w':WD):Prop:=∃a,e=.returned (.agg #[a])∧Qn w' 63 2 a F.length (Qx Y4 F)∧Qb [] w w'∧∀b∈Qd a,w.heap.size≤b
def Dv{fn:Func}{p:Tmp}(a:fn.results=#[.cell p 32])(tmps:Array VL)(w:WD){b:Nat}{v:VL}(A:Qe w b 32 [v])(hp:tmps.getD p undef=.pointer b):
 (results fn tmps).run prog w=.ok (.agg #[v]) w:=results_cell_row a _ _ b _ _ _ _ hp A underlying32 rfl (by kernel_rfl)
structure JK(W:WD)(B:Nat)(v:VL)(O:List QC)(w:WD):Prop where
 a5:Qe w B 32 [v]
 row:Qn w 63 2 v O.length (Qx Y4 O)
 far:∀y∈Qd v,B<y
 kept:Qb [B] W w
 size:W.heap.size=B+1
def JK.put{W w w1:WD}{c g cap:Nat}{v:VL}{a:List QC}{f:QC}(b:JK W c v a w)(i:Qb (Qd v) w w1)(j:Qn w1 63 2 (.slice g (a.length+1) cap) (a.length+1) (Qx Y4 a++Y4 f))(h:g∈Qd v∨w.heap.size≤g):
 JK W c (.slice g (a.length+1) cap) (a++[f]) (w1.setCell ⟨c,0,none⟩<|.slice g (a.length+1) cap):=by
 have hf:∀e∈Qd (.slice g (a.length+1) cap),c<e:=fun e d=>by
  simp[Qd,qo]at d;subst d;rcases h with h|h
  ·exact b.far _ h
  exact Az b.a5.lt h
 have h:Qx Y4 (a++[f])=Qx Y4 a++Y4 f:=by simp[Qx]
 refine⟨((b.a5.kept i fun a=>DX _<|b.far _ a).set 0 _),?_,hf,?_,b.size⟩
 ·rw[h,Qo];exact j.kept ((Qc [c] w1).setCell (p:=c) (.inl<|by simp) _) (fun e d a=>by have:=hf e d;simp at a;omega)
 exact(b.kept.trans i fun e d=>.inr (by have:=b.far e d;have:=b.size;omega)).setCell (.inl<|by simp) _
def JK.kZ{W w w':WD}{b:Nat}{v:VL}{c:List QC}(a:JK W b v c w)(hk:Qb [] w w'):JK W b v c w':=
 ⟨a.a5.kept hk<|by simp,a.row.kept hk<|ZM _,a.far,a.kept.trans hk<|by simp,a.size⟩
def JK.store{W w w1:WD}{a:Nat}{v:VL}{c:List QC}(b:JK W a v c w)(c:Qb (Qd v) w w1):w1.cell? a=some v∧w1.frozen? a=false:=
 have a:=b.a5.kept c fun c=>DX _<|b.far _ c
 ⟨a.cell (i:=0) rfl,a.free 0⟩
def JK.done{w W w1:WD}{a b:Nat}{v:VL}{d L:List QC}(c:JK W a v d w1)(k:Qb [] w W)(hb:w.heap.size≤b∧b<a)(e:L=d):LD w L (.returned<|.agg #[v]) (w1.setCell ⟨b,0,none⟩ v):=by
 subst e;exact⟨v,rfl,c.row.kept ((Qc [b] w1).setCell (p:=b) (.inl<|by simp) v) (fun d a f=>by have:=c.far d a;simp at f;omega),
  (k.trans c.kept fun d a=>.inr (by simp at a;omega)).setCell (.inr hb.1) v,fun d a=>by have:=c.far d a;omega⟩
def Hl:(prog.info? 63).map (fun i=>(i.zero,i.size,i.bytes))=some (some<|.agg #[.string ⟨#[]⟩,.string ⟨#[]⟩],2,32):=by kernel_rfl
def IK(f:QC):∀u∈Y4 f,u.oneCell'=true:=by simp[Y4,Value.oneCell']
def lK(mv:VL)(F:List QC)(x:QC)(w:WD)(h:V2 w mv F)(hr:Ug (·.1) F)(hl:F.length≤1000)(hp:∀f∈F,f.1.length≤1000000)(hx:x.1.length≤1000000)(q:YN w):
 Calls prog 45 #[.agg #[mv],.agg #[str x.1,str x.2]] w (LD w<|XY (·.1) x F):=by
 obtain⟨ao,c0,rfl,hs⟩:=h;have⟨n,hn⟩:=qx F.length;rw[hn]at hs hl ⊢;have⟨HS,HN,HH⟩:=qc hs hn<|Qr hr<|Qr hp q;go_enter func45,ntmps45;go_wp2_with fail;have⟨B,q⟩:=qx<|w.heap.size+1+1+1;have⟨W,hW⟩:=qx<|((((w.alloc<|.cells #[.slice ao n c0] 32).alloc<|.cells #[str x.1,str x.2] 63).alloc<|.cells #[.slice none 0 0] 32).alloc<|.cells #[.slice none 0 0] 32);have K0:Qb [] w W:=by rw[←hW];exact((((Qc [] w).alloc _).alloc _).alloc _).alloc _
 have P2:Qe W w.heap.size 32 [.slice ao n c0]:=by rw[←hW];exact(((Qy w _ _).alloc _).alloc _).alloc _
 have o:Qe W (w.heap.size+1) 63 [str x.1,str x.2]:=by rw[←hW];exact((Qe.newAt _ _ _ _<|by simp).alloc _).alloc _
 have P4:Qe W (w.heap.size+1+1) 32 [.slice none 0 0]:=by rw[←hW];exact(Qe.newAt _ _ _ _<|by simp).alloc _
 have P5:Qe W B 32 [.slice none 0 0]:=by rw[←hW,←q];exact Qe.newAt _ _ _ _ (by simp)
 have hz:W.heap.size=B+1:=by rw[←hW,←q];simp
 rw[q,hW];have⟨HP,HM⟩:=qb (Qr K0<|Qr P2<|Qr o<|Qr P4<|Qr q hz)<|show JK W B (.slice none 0 0) [] W from⟨P5,Qn.nil _ _ _,by simp[Qd,qo],Qc _ _,hz⟩
 go_loopg [6,7,8] n (fun k x6 x7 x8 wr=>∃(i:Nat)(b:Bool)(O:List QC)(av:OA)(mo cv:Nat),i≤n∧k=n-i∧x6=.bool b∧x7=.int .i64 (i:Nat)∧Hid (YR x F i b O∧O.length≤2*i)∧Hid (JK W B (.slice av mo cv) O wr))
 ·exact⟨0,false,[],_,_,_,by omega,by omega,rfl,rfl,Qa ⟨YR.start x F,by simp⟩,HM⟩
 obtain⟨i,b,O,av,mo,cv,hi,hk,rfl,rfl,HI,HW⟩:=hrel;obtain⟨K0,P2,o,P4,q,hz⟩:=HP.o;obtain⟨hr,hp,y7⟩:=HH.o;have h3:=HW.o.kept;have b2:w.heap.size∉[B]:=by simp;omega
 have b3:w.heap.size+1∉[B]:=by simp;omega
 have c2:=(P2.kept h3 b2).cell (i:=0) (u:=.slice ao n c0) rfl
 by_cases hlt:i<n
 ·have q0:(i:Int)<n:=by omega
  have y8:=K0.trans h3 fun y hy=>.inr (by simp at hy;omega);have⟨f,hf⟩:=qy F i (by have:=HN.o;omega);obtain⟨g,off,rfl,y0,y1⟩:=Cj HS.o hf;have d0:=y8.cZ y0 (by simp);have c3:=(o.kept h3 b3).cell (i:=0) (u:=.string<|str x.1) rfl;have e3:=(o.kept h3 b3).cell (i:=1) (u:=.string<|str x.2) rfl;have p1:=hp f<|QA hf;have HC:=Qa (fun W' (p7:Qb [] wr W')=>Wl (str x.1) (str f.1) W' hx p1<|(y7.kept y8<|by simp).kept p7<|by simp);rw[show(str x.1).data.toList=x.1 from rfl,show(str f.1).data.toList=f.1 from rfl]at HC;have HT:=Qa<|HI.o.1.step hr hf;have⟨r,p2⟩:=qx<|Xd x.1 f.1;rw[p2]at HC HT;have HX:=Qa<|Qr y0 y1;go_wp2_with fail
  go_region_held3 (fun w'=>w'.cell? ⟨w.heap.size+1,0,none⟩=some (.string<|str x.1)∧w'.cell? w=some (.slice (some ⟨g,off,none⟩) n c0)∧w'.cell? ⟨g,off+i*2,none⟩=some (.string<|str f.1))
   (first|exact⟨c3,c2,d0⟩|exact⟨k3,k2,k0⟩|go_keep)
   ((go_at_call 70;refine(HC.o _ (Qc [] wr).drew).mono ?_;rintro e w1⟨rfl,x2⟩;have k3:=x2.cZ c3 (by simp);have k2:=x2.cZ c2 (by simp);have k0:=x2.cZ d0<|by simp))
  have p0:=(Qc [] wr).drew.trans x2 (by simp);have h4:=Qa<|HW.o.kZ p0;rename_i p5;have p6:=HI.o.2;have L1:O.length+1≤maxLen:=by simp only[maxLen];omega
  have L2:(O.length+1)*32≤140737488355328:=by omega
  iterate 3 go_step
  go_cut [6]from 26 to 37 (fun x6 w'=>∃(b':Bool)(O':List QC)(h5:OA)(h9 h8:Nat),x6=.bool b'∧Hid (O'.length≤2*i+1∧(r=0→YR x F (i+1) b' O')∧(r≠0→YR x F (i+1) b' (O'++[f])))∧Hid (JK W B (.slice h5 h9 h8) O' w'))
  ·cases b with
   |true=>
    obtain⟨t1,t2⟩:=HT.o.2.2.2 rfl;have x1:r≤0:=(by omega);have h2:=Qa<|show(r=0→YR x F (i+1) true O)∧(r≠0→YR x F (i+1) true (O++[f]))from⟨fun e=>by omega,fun _=>t2⟩
    go_wp2
    go_meet
    case rel=>exact⟨true,O,av,mo,cv,rfl,Qa ⟨by omega,h2.o⟩,h4⟩
   |false=>
    by_cases x1:r≤0
    ·have o:=(HP.o.2.2.1.kept h4.o.kept (by have:=HP.o.2.2.2.2.1;simp;omega));have c3:=o.cell (i:=0) (u:=.string<|str x.1) rfl;have e3:=o.cell (i:=1) (u:=.string<|str x.2) rfl;have c5:=h4.o.a5.cell (i:=0) (u:=.slice av mo cv) rfl;have h2:=Qa<|show(r=0→YR x F (i+1) true (O++[x]))∧(r≠0→YR x F (i+1) true (O++[x]++[f]))from⟨fun e=>HT.o.2.1 rfl e,fun e=>HT.o.1 rfl<|by omega⟩;go_wp2_with (at_builtin;(refine RO w1 rfl _ _ 30 rfl 63 (.agg #[.string ⟨#[]⟩,.string ⟨#[]⟩]) 2 32 Ft Hl rfl (by decide) (.slice av mo cv) O.length _ (Y4 x) rfl rfl rfl rfl (IK _) h4.o.row L1 L2 ?_;intro g5 p4 w5 z1 x0 y9;obtain⟨z5,x5⟩:=h4.o.store x0));go_meet
     case rel=>exact⟨true,_,_,_,_,rfl,Qa ⟨by simp;omega,h2.o⟩,Qa<|h4.o.put x0 z1 y9⟩
    have h2:=Qa<|show(r=0→YR x F (i+1) false O)∧(r≠0→YR x F (i+1) false (O++[f]))from⟨fun e=>by omega,fun _=>HT.o.2.2.1 rfl<|by omega⟩
    go_wp2
    go_meet
    case rel=>exact⟨false,O,av,mo,cv,rfl,Qa ⟨by omega,h2.o⟩,h4⟩
  obtain⟨b',O',h5,h9,h8,rfl,y3,h1⟩:=hcut;obtain⟨K0,P2,o,P4,q,hz⟩:=HP.o;have z6:=Qa<|K0.trans h1.o.kept fun y hy=>.inr (by simp at hy;omega)
  by_cases x1:r=0
  ·obtain⟨t1,t2,-⟩:=y3.o;have h2:=Qa<|t2 x1;have q2:(r==0)=true:=by simpa using x1
   go_wp2
   go_roundg (n-(i+1))
   ·exact⟨i+1,b',O',h5,h9,h8,by omega,rfl,rfl,by go_num,Qa ⟨h2.o,by omega⟩,h1⟩
   omega
  obtain⟨t1,-,t2⟩:=y3.o;have h2:=Qa<|t2 x1;have q2:(r==0)=false:=by simpa using x1
  have c2:=(P2.kept h1.o.kept (by simp;omega)).cell (i:=0) (u:=.slice (some ⟨g,off,none⟩) n c0) rfl;have d0:=z6.o.cZ HX.o.1 (by simp);have d1:=z6.o.cZ HX.o.2 (by simp);have c5:=h1.o.a5.cell (i:=0) (u:=.slice h5 h9 h8) rfl;have x5:=h1.o.a5.free 0;have n2:w.heap.size∉Qd (.slice h5 h9 h8):=fun hm=>by have:=h1.o.far _ hm;omega
  have n1:g∉Qd (.slice h5 h9 h8):=fun hm=>by have:=h1.o.far _ hm;have:=JN w _ HX.o.1;simp at this;omega
  have l5:B<wc.heap.size:=h1.o.a5.lt;have l2:w.heap.size<wc.heap.size:=by omega
  have l1:g<wc.heap.size:=by have:=JN wc _ d0;simpa using this
  have L1:O'.length+1≤maxLen:=by simp only[maxLen];omega
  have L2:(O'.length+1)*32≤140737488355328:=by omega
  go_wp2_with fail
  go_region_law (refine Gs rfl _ _ 30 rfl 63 (.agg #[.string ⟨#[]⟩,.string ⟨#[]⟩]) 2 32 Ft Hl rfl (by decide) (.slice h5 h9 h8) O'.length _ (Y4 f) ⟨wc.heap.size,0,none⟩ rfl rfl ((Qy wc.drew (Y4 f) 63).sees (size:=2) (n:=1) rfl) (IK _) (World.ownsRow.alloc (h1.o.row.kept (Qc [] wc).drew<|ZM _) _) L1 L2 ?_;intro g9 q1 w9 p9 z8 p8;obtain⟨z9,x9⟩:=(h1.o.kZ<|(Qc [] wc).drew.alloc _).store z8)
  all_goals (
   go_wp2
   go_roundg (n-(i+1))
   case measure=>omega
   exact⟨i+1,b',O'++[f],_,_,_,by omega,rfl,rfl,by go_num,Qa ⟨h2.o,by simp;omega⟩,Qa<|(h1.o.kZ<|(Qc [] wc).drew.alloc _).put z8 p9 p8⟩)
 obtain rfl:n=i:=by omega
 have q0:¬(n:Int)<n:=by omega
 have y2:=Qa<|HI.o.1.stop (by have:=HN.o;omega);have o:=o.kept h3 b3;have c3:=o.cell (i:=0) (u:=.string<|str x.1) rfl;have e3:=o.cell (i:=1) (u:=.string<|str x.2) rfl;have P4:=P4.kept h3 (by simp;omega);have c4:=P4.cell (i:=0) (u:=.slice none 0 0) rfl;have x4:=P4.free 0;have c5:=HW.o.a5.cell (i:=0) (u:=.slice av mo cv) rfl;have z7:=Qa P4;have p6:=HI.o.2;have L1:O.length+1≤maxLen:=by simp only[maxLen];omega
 have L2:(O.length+1)*32≤140737488355328:=by omega
 have⟨y5,p3,x3⟩:=qc (by simp;omega:w.heap.size+1+1∉[B]) (fun av mo cv O (h:JK W B (.slice av mo cv) O wr)=>show w.heap.size+1+1∉Qd (.slice av mo cv)from fun hm=>by have:=h.far _ hm;omega)<|Qr K0 (by omega:w.heap.size≤w.heap.size+1+1∧w.heap.size+1+1<B);cases b with
 |true=>have y6:=Qa<|y2.o.trans<|Qg rfl;go_wp2_with fail;refine Q5 (Dv rfl _ _ (z7.o.set 0<|.slice av mo cv) rfl) rfl ?_;exact HW.o.done x3.o.1 x3.o.2 y6.o
 |false=>have y6:=Qa (y2.o.trans<|Qf<|by simp);go_wp2_with (at_builtin;(refine RO wr rfl _ _ 30 rfl 63 (.agg #[.string ⟨#[]⟩,.string ⟨#[]⟩]) 2 32 Ft Hl rfl (by decide) (.slice av mo cv) O.length _ (Y4 x) rfl rfl rfl rfl (IK _) HW.o.row L1 L2 ?_;intro g5 p4 w5 z1 x0 y9;obtain⟨z5,x5⟩:=HW.o.store x0;have A4:=z7.o.kept x0<|p3.o _ _ _ _ HW.o;have y4:=(fun u=>(A4.kept ((Qc [B] w5).setCell (p:=B) (.inl<|by simp) u) y5.o).cell (i:=0) rfl);have x4:=(fun u=>(A4.kept ((Qc [B] w5).setCell (p:=B) (.inl<|by simp) u) y5.o).free 0)));refine Q5 (Dv rfl _ _ ((A4.kept ((Qc [B] w5).setCell (p:=B) (.inl<|by simp) _) y5.o).set 0 _) rfl) rfl ?_;exact(HW.o.put x0 z1 y9).done x3.o.1 x3.o.2 y6.o
def Qg9(a b:LU):((str a).toList==(str b).toList)=(a==b):=by rw[X6,X6];rfl
def Qi0(mv:VL)(F:List QC)(p:LU)(w:WD)(h:V2 w mv F)(hl:F.length≤1000):
 Calls prog 46 #[.agg #[mv],str p] w (LD w<|UK (·.1) p F):=by
 obtain⟨ao,c0,rfl,hs⟩:=h;have⟨n,hn⟩:=qx F.length;rw[hn]at hs hl ⊢;have⟨HS,HN⟩:=qb hs hn;clear hs hn;go_enter func46,ntmps46;go_wp2_with fail;have⟨B,hB⟩:=qx<|w.heap.size+1+1;have⟨W,hW⟩:=qx<|(((w.alloc<|.cells #[.slice ao n c0] 32).alloc<|.cells #[.slice none 0 0] 32).alloc<|.cells #[.slice none 0 0] 32);have K0:Qb [] w W:=by rw[←hW];exact(((Qc [] w).alloc _).alloc _).alloc _
 have P2:Qe W w.heap.size 32 [.slice ao n c0]:=by rw[←hW];exact((Qy w _ _).alloc _).alloc _
 have q:Qe W (w.heap.size+1) 32 [.slice none 0 0]:=by rw[←hW];exact(Qe.newAt _ _ _ _<|by simp).alloc _
 have P5:Qe W B 32 [.slice none 0 0]:=by rw[←hW,←hB];exact Qe.newAt _ _ _ _ (by simp)
 have hz:W.heap.size=B+1:=by rw[←hW,←hB];simp
 rw[hB,hW];have⟨HP,HM⟩:=qb (Qr K0<|Qr P2<|Qr q hB)<|show JK W B (.slice none 0 0) (UK (·.1) p<|F.take 0) W from⟨P5,Qn.nil _ _ _,by simp[Qd,qo],Qc _ _,hz⟩;clear K0 P2 q P5 hz hW hB
 go_loopg [6] n (fun k x6 wr=>∃(i:Nat)(av:OA)(mo cv:Nat),i≤n∧k=n-i∧x6=.int .i64 (i:Nat)∧Hid (JK W B (.slice av mo cv) (UK (·.1) p<|F.take i) wr))
 ·exact⟨0,_,_,_,by omega,by omega,rfl,HM⟩
 obtain⟨i,av,mo,cv,hi,hk,rfl,o⟩:=hrel;obtain⟨K0,P2,q,hB⟩:=HP.o;have h2:=o.o.kept;have b2:w.heap.size∉[B]:=by simp;omega
 have c2:=(P2.kept h2 b2).cell (i:=0) (u:=.slice ao n c0) rfl
 by_cases hlt:i<n
 ·have q0:(i:Int)<n:=by omega
  have h3:=K0.trans h2 fun y hy=>.inr (by have:=o.o.size;simp at hy;omega);have⟨f,hf⟩:=qy F i (by have:=HN.o;omega);obtain⟨g,off,rfl,y0,y1⟩:=Cj HS.o hf;have d0:=h3.cZ y0 (by simp);have d1:=h3.cZ y1 (by simp);have h1:=Qi1 (p:=p) hf;have hq:=Qg9 f.1 p
  by_cases he:f.1=p
  ·rw[Qg he,XH]at h1;rw[beq_iff_eq.2 he]at hq;have HT:=Qa<|h1▸o.o;clear K0 P2 q hB h2 hf h3 y0 y1 h1 he
   go_wp2
   go_roundg (n-(i+1))
   ·exact⟨i+1,av,mo,cv,by omega,rfl,by go_num,HT⟩
   omega
  rw[Qf he]at h1;rw[Zb.2 he]at hq;have⟨O,hO⟩:=qx<|UK (·.1) p<|F.take i;have HL:=Qa (by rw[←hO];exact QS (DL _ _) (by rw[Zl];omega):O.length≤n);rw[hO]at h1 o;have h9:=Qa h1;have l5:B<wr.heap.size:=o.o.a5.lt;have l2:w.heap.size<wr.heap.size:=by omega
  have l1:g<wr.heap.size:=by have:=JN wr _ d0;simpa using this
  have c5:=o.o.a5.cell (i:=0) (u:=.slice av mo cv) rfl;have x5:=o.o.a5.free 0;have L1:O.length+1≤maxLen:=by have:=HL.o;simp only[maxLen];omega
  have L2:(O.length+1)*32≤140737488355328:=by have:=HL.o;omega
  clear K0 P2 q hB h2 hf h3 y0 y1 h1 he hO;go_wp2_with fail
  go_region_law (refine Gs rfl _ _ 30 rfl 63 (.agg #[.string ⟨#[]⟩,.string ⟨#[]⟩]) 2 32 Ft Hl rfl (by decide) (.slice av mo cv) O.length _ (Y4 f) ⟨wr.heap.size,0,none⟩ rfl rfl ((Qy wr.drew (Y4 f) 63).sees (size:=2) (n:=1) rfl) (IK _) (World.ownsRow.alloc (o.o.row.kept (Qc [] wr).drew<|ZM _) _) L1 L2 ?_;intro g9 x2 w9 x1 h5 x0;obtain⟨z9,x9⟩:=(o.o.kZ<|(Qc [] wr).drew.alloc _).store h5)
  all_goals (
   go_wp2
   go_roundg (n-(i+1))
   case measure=>omega
   exact⟨i+1,_,_,_,by omega,rfl,by go_num,Qa<|h9.o▸((o.o.kZ<|(Qc [] wr).drew.alloc _).put h5 x1 x0)⟩)
 obtain rfl:n=i:=by omega
 have q0:¬(n:Int)<n:=by omega
 have h1:UK (·.1) p (F.take n)=UK (·.1) p F:=by rw[Q8 (by rw[HN.o];exact Ql _)]
 rw[h1]at o;have q:=q.kept h2 (by simp;omega);have c4:=q.cell (i:=0) (u:=.slice none 0 0) rfl;have x4:=q.free 0;have c5:=o.o.a5.cell (i:=0) (u:=.slice av mo cv) rfl;have⟨h8,h4⟩:=qb q<|Qr K0 (by omega:w.heap.size≤w.heap.size+1∧w.heap.size+1<B);clear K0 P2 q hB h2 h1;go_wp2_with fail;refine Q5 (Dv rfl _ _ (h8.o.set 0<|.slice av mo cv) rfl) rfl ?_;exact o.o.done h4.o.1 h4.o.2 rfl
end
section
open Go.Sort Go.Shelf
def AQ(l:List QC)(F:List QC):List QC:=l.foldl (fun a b=>XY (·.1) b a) F
def bW{P:QC→Prop}:∀{l F:List QC},Ug (·.1) F→(∀f∈F,P f)→(∀f∈l,P f)→Ug (·.1) (AQ l F)∧(AQ l F).length≤F.length+l.length∧∀f∈AQ l F,P f
 | [],F,hr,h1,h2=>⟨hr,Ql _,h1⟩
 |x::l,F,hr,h1,h2=>by obtain⟨a,b,c⟩:=bW (P:=P) (l:=l) (Cz (m:=x) hr) (fun f hf=>((Dm hr).1 hf).elim (fun d=>d▸h2 x (YH ..)) fun d=>h1 f d.1) fun f hf=>h2 f<|XW _ hf;refine⟨a,?_,c⟩;have:=Nr (pt:=fun f:QC=>f.1) x F;rw[Q0];exact QS b (by omega)
def Ud.goes(a:Ud)(F:List QC):List QC:=if a.kind=0 then XY (·.1) (a.path,a.text) F else if a.kind=1 then UK (·.1) a.path F else if a.kind=5 then AQ a.files F else F
def Y1(w:WD)(v:VL)(F:List QC):Prop:=Qn w 63 2 v F.length (Qx Y4 F)
def Y1.ent{w:WD}{v:VL}{F:List QC}(c:Y1 w v F):V2 w v F:=by obtain⟨a,b,d,-,-,e,-⟩:=Qn.sees c;exact⟨a,b,d,e⟩
def GE(w:WD)(mv:VL)(F:List QC)(e:Ending)(w':WD):Prop:=∃a,e=.returned (.agg #[a])∧Y1 w' a F∧Qb [] w w'∧∀b∈Qd a,w.heap.size≤b∨b∈Qd mv
def GE.fin{w w1:WD}{b:Nat}{mv v:VL}{L:List QC}(k:Qb [] w w1)(hb:w.heap.size≤b)(c:Y1 w1 v L)(hf:∀a∈Qd v,w.heap.size≤a∨a∈Qd mv)(d:b∉Qd v):GE w mv L (.returned<|.agg #[v]) (w1.setCell ⟨b,0,none⟩ v):=
 ⟨v,rfl,Qn.kept c ((Qc [b] w1).setCell (p:=b) (.inl<|by simp) v) fun a c a=>d (by simp at a;exact a▸c),k.setCell (.inr hb) v,hf⟩
def yB(mv:VL)(F:List QC)(x:V0)(w:WD)(h:Y1 w mv F)(hr:Ug (·.1) F)(hl:F.length≤100)(hp:∀f∈F,f.1.length≤1000000)(hx:V2 w x.fv x.act.files)(hg:EW x)(hB:YN w):
 Calls prog 18 #[.agg #[mv],.agg (J9 x).toArray] w (GE w mv<|x.act.goes F):=by
 obtain⟨am,cm,rfl,-⟩:=h.ent;obtain⟨af,cf,x8,x6⟩:=hx;have⟨n,hn⟩:=qx F.length;have⟨o,x3⟩:=qx x.act.files.length;rw[hn]at h hl ⊢;rw[x3]at x8 x6;have⟨L,q⟩:=qx<|x.act.goes F;rw[q];unfold Ud.goes at q;unfold J9;rw[x8];have⟨W,hW⟩:=qx<|((w.alloc<|.cells #[.slice am n cm] 32).alloc<|.cells #[x.act.kind,str x.act.path,str x.act.text,x.act.tg,.slice af o cf,x.fat,x.kv] 37).alloc<|.cells #[.slice none 0 0] 32;have K0:Qb [] w W:=by rw[←hW];exact(((Qc [] w).alloc _).alloc _).alloc _
 have P2:Qe W w.heap.size 32 [.slice am n cm]:=by rw[←hW];exact((Qy w _ _).alloc _).alloc _
 have P3:Qe W (w.heap.size+1) 37 [x.act.kind,str x.act.path,str x.act.text,x.act.tg,.slice af o cf,x.fat,x.kv]:=by rw[←hW];exact(Qe.newAt _ _ _ _<|by simp).alloc _
 have P4:Qe W (w.heap.size+1+1) 32 [.slice none 0 0]:=by rw[←hW];exact Qe.newAt _ _ _ _ (by simp)
 have⟨HP,HF,HN,HG⟩:=qd (Qr K0<|Qr P2<|Qr P3 P4) (Qr h<|Qr hr<|Qr hp hB) (Qr hn<|Qr x3 x6) hg;have y6:o≤20:=by rw[←x3];exact hg.2.1
 have a2:=P2.cell (i:=0) (u:=.slice am n cm) rfl;have a3:=P3.cell (i:=0) (u:=.int .i64 x.act.kind) rfl;have a4:=P3.cell (i:=1) (u:=.string<|str x.act.path) rfl;have a5:=P3.cell (i:=2) (u:=.string<|str x.act.text) rfl;have a6:=P3.cell (i:=4) (u:=.slice af o cf) rfl;clear h hr hp hB hn x3 x6 x8 hg P2 P3 P4 K0;go_enter func18,ntmps18
 go_upto_region 1 with(fail)
 have y3:W.heap.size=w.heap.size+3:=by rw[←hW];simp
 have⟨HZ,y0⟩:=qb y3 (show ∀y∈Qd (.slice am n cm),y<w.heap.size from HF.o.1.lt);clear hW y3
 by_cases k0:x.act.kind=0
 ·rw[Qg k0]at q;have HL:=Qa q;have q0:(x.act.kind==0)=true:=by rw[k0];rfl
  have HC:=Qa (lK (.slice am n cm) F (x.act.path,x.act.text) W ((Y1.ent HF.o.1).kZ HP.o.1) HF.o.2.1 (by rw[HN.o.1];omega) HF.o.2.2.1 (by have:=HG.o.1;simp only[];omega)<|HF.o.2.2.2.kept HP.o.1<|by simp);clear q k0;go_wp2_with (go_at_call 45;refine HC.o.mono ?_;rintro e w1⟨v,rfl,h9,h5,h4⟩;obtain⟨a1,c1,rfl,-⟩:=Y1.ent h9;have A4:=HP.o.2.2.2.kept h5 (by simp);have c4:=A4.cell (i:=0) rfl;have x4:=A4.free 0);refine Q5 (Dv rfl _ _ (A4.set 0 _) rfl) rfl ?_;rw[←HL.o];exact .fin (HP.o.1.trans h5<|by simp) (by omega) h9 (fun y hy=>.inl (by have:=h4 y hy;have:=HZ.o;omega)) (fun hm=>by have:=h4 _ hm;have:=HZ.o;omega)
 rw[Qf k0]at q;have q0:(x.act.kind==0)=false:=Zb.2 k0
 by_cases k1:x.act.kind=1
 ·rw[Qg k1]at q;have HL:=Qa q;have q1:(x.act.kind==1)=true:=by rw[k1];rfl
  have HC:=Qa<|Qi0 (.slice am n cm) F x.act.path W ((Y1.ent HF.o.1).kZ HP.o.1) (by rw[HN.o.1];omega);clear q k0 k1;go_wp2_with (go_at_call 46;refine HC.o.mono ?_;rintro e w1⟨v,rfl,h9,h5,h4⟩;obtain⟨a1,c1,rfl,-⟩:=Y1.ent h9;have A4:=HP.o.2.2.2.kept h5 (by simp);have c4:=A4.cell (i:=0) rfl;have x4:=A4.free 0);refine Q5 (Dv rfl _ _ (A4.set 0 _) rfl) rfl ?_;rw[←HL.o];exact .fin (HP.o.1.trans h5<|by simp) (by omega) h9 (fun y hy=>.inl (by have:=h4 y hy;have:=HZ.o;omega)) (fun hm=>by have:=h4 _ hm;have:=HZ.o;omega)
 rw[Qf k1]at q;have q1:(x.act.kind==1)=false:=Zb.2 k1
 by_cases k5:x.act.kind=5
 ·rw[Qg k5]at q;have HL:=Qa q;have q5:(x.act.kind==5)=true:=by rw[k5];rfl
  clear q k0 k1 k5
  go_wp2
  go_loopg [5] o (fun k x5 wr=>∃(i:Nat)(av:OA)(mo cv:Nat),i≤o∧k=o-i∧x5=.int .i64 (i:Nat)∧Hid (Qe wr w.heap.size 32 [.slice av mo cv]∧Y1 wr (.slice av mo cv) (AQ (x.act.files.take i) F)∧Qb [w.heap.size] W wr∧∀y∈Qd (.slice av mo cv),W.heap.size≤y∨y∈Qd (.slice am n cm)))
  ·exact⟨0,am,n,cm,by omega,by omega,rfl,Qa ⟨HP.o.2.1,Qn.kept HF.o.1 HP.o.1<|ZM _,Qc _ _,fun y hy=>.inr hy⟩⟩
  obtain⟨i,av,mo,cv,hi,hk,rfl,HI⟩:=hrel;obtain⟨A2,hR,h8,x7⟩:=HI.o;obtain⟨K0,-,P3,P4⟩:=HP.o;have b3:w.heap.size+1∉[w.heap.size]:=by simp
  have b4:w.heap.size+1+1∉[w.heap.size]:=by simp;omega
  have c2:=A2.cell (i:=0) (u:=.slice av mo cv) rfl;have x2:=A2.free 0;have x0:=K0.trans h8 fun y hy=>.inr (by simp at hy;omega)
  by_cases hlt:i<o
  ·have g0:(i:Int)<o:=(by omega);have c3:=(P3.kept h8 b3).cell (i:=4) (u:=.slice af o cf) rfl;have⟨f,hf⟩:=qy x.act.files i (by have:=HN.o.2.1;omega);obtain⟨g,off,rfl,d0,d1⟩:=Cj (HN.o.2.2.kZ x0) hf;obtain⟨r1,r2,r3⟩:=bW (P:=fun f=>f.1.length≤1000000) (l:=x.act.files.take i) HF.o.2.1 HF.o.2.2.1 (fun f hf=>by have:=HG.o.2.2 f<|VE hf;omega);have y2:(AQ (x.act.files.take i) F).length≤1000:=(by rw[HN.o.1,Zl]at r2;have:=HG.o.2.1;omega);have⟨HC,HT⟩:=qb (fun W' (y1:Qb [] wr W')=>lK (.slice av mo cv) _ f W' (hR.ent.kZ y1) r1 y2 r3 (by have:=HG.o.2.2 f<|QA hf;omega)<|(HF.o.2.2.2.kept x0<|by simp).kept y1<|by simp) (by unfold AQ;rw[Zt,hf,DK];rfl:AQ (x.act.files.take<|i+1) F=XY (·.1) f (AQ (x.act.files.take i) F));have n2:w.heap.size<wr.heap.size:=A2.lt;have x1:=Qa<|Qr h8<|Qr A2<|Qr n2<|show W.heap.size≤wr.heap.size from h8.size;clear K0 P3 P4 h8 x0 hf r1 r2 r3 y2 hR x7 A2 HI n2;go_wp2_with fail
   go_region_law (go_simp;go_at_call 45;refine(HC.o _ (Qc [] wr).drew).mono ?_;rintro e w1⟨v,rfl,h9,h5,h4⟩;obtain⟨a1,e1,rfl,-⟩:=Y1.ent h9;have A1:=x1.o.2.1.kept ((Qc [] wr).drew.trans h5<|by simp) (by simp);have z2:=A1.cell (i:=0) rfl;have z3:=A1.free 0;have y4:=Qa A1;clear A1)
   all_goals (
    go_wp2
    go_roundg (o-(i+1))
    case measure=>omega
    have y5:=(Qc [] wr).drew.trans h5 (by simp);refine⟨i+1,_,_,_,by omega,rfl,by go_num,Qa ⟨y4.o.set 0 _,by rw[HT.o];exact Qn.kept h9 ((Qc [w.heap.size] w1).setCell (p:=⟨w.heap.size,0,none⟩) (.inl<|by simp) _) (fun y hy hm=>by have h2:=x1.o.2.2.1;have h3:wr.heap.size≤y:=h4 y hy;simp at hm;omega),(x1.o.1.trans y5<|by simp).setCell (.inl<|by simp) _,fun y hy=>.inl ?_⟩⟩;have h1:wr.heap.size≤y:=h4 y hy;have h2:=x1.o.2.2.2;omega)
  obtain rfl:o=i:=by omega
  have g0:¬(o:Int)<o:=by omega
  have c3:=(P3.kept h8 b3).cell (i:=4) (u:=.slice af o cf) rfl;have A4:=P4.kept h8 b4;have c4:=A4.cell (i:=0) (u:=.slice none 0 0) rfl;have x4:=A4.free 0;have⟨x9,HE⟩:=qb (Qr A4 x0) (by rw[←HL.o,←Q8 (l:=x.act.files) (i:=o) (by rw[HN.o.2.1];exact Ql _)];exact hR:Y1 wr (.slice av mo cv) L);clear K0 P3 P4 h8 x0 hR A4 A2 HI;go_wp2_with fail;refine Q5 (Dv rfl _ _ (x9.o.1.set 0 _) rfl) rfl ?_;refine .fin x9.o.2 (by omega) HE.o (fun y hy=>(x7 y hy).imp (fun h=>by have:=HZ.o;omega) id) fun hm=>?_;rcases x7 _ hm with h|h
  ·have:=HZ.o;omega
  have:=y0.o _ h;omega
 rw[Qf k5]at q;have HL:=Qa q;have q5:(x.act.kind==5)=false:=Zb.2 k5;have c4:=HP.o.2.2.2.cell (i:=0) (u:=.slice none 0 0) rfl;have x4:=HP.o.2.2.2.free 0;clear q k0 k1 k5;go_wp2_with fail;refine Q5 (Dv rfl _ _ (HP.o.2.2.2.set 0 _) rfl) rfl ?_;rw[←HL.o];refine .fin HP.o.1 (by omega) ?_ (fun y hy=>.inr hy) (fun hm=>by have:=y0.o _ hm;omega);exact Qn.kept HF.o.1 HP.o.1<|ZM _
end
section
open Go.Sort Go.Shelf
def oH(w:WD)(s:Vst)(e:Ending)(w':WD):Prop:=∃c a b,e=.returned (.tuple #[.slice a s.dev.cap b,.bool true])∧LM s c∧Qh w' 3 (.slice a s.dev.cap b) (Qi c)∧Qb [] w w'∧∀c∈Qd (.slice a s.dev.cap b),w.heap.size≤c
def Qc6{s:Vst}{c:LU→LU}(hv:Vok s c)(v:VL)(w:WD)(h:Uf w v s.mem):Calls prog 19 #[v,s.dev.cap] w (oH w s):=by
 obtain⟨al,cl,rfl,hs,-⟩:=h;have⟨n,hn⟩:=qx s.mem.length;have⟨cap,h9⟩:=qx s.dev.cap;have h1:=hv.few;have h2:=hv.dev.c2;rw[hn]at hs h1 ⊢;rw[h9]at h2 ⊢;have⟨HS,HV,x5⟩:=qc hs (Qr hv<|Qr hn h9)<|YP.start s.mem cap;clear hs hv hn h9;go_enter func19,ntmps19;go_wp2_with ((at_make;refine YZ rfl _ _ 51 rfl 3 (0:Int) 8 XC XJ rfl .i64 .i64 _ _ cap cap rfl rfl rfl rfl (Ql _) (by omega) (by simp only[maxLen];omega) ?_;intro w2 h8 x2));have⟨g,hg⟩:=qx w.heap.size;rw[hg]at h8 ⊢;have e0:List.replicate cap (Value.int .i64 0)=Qi (List.replicate cap 0):=by simp[Qi]
 rw[e0]at h8;have⟨x4,x3,HG⟩:=qc h8 x2 hg;clear h8 x2 hg e0
 go_loopg [7,8] n (fun k x7 x8 wr=>∃(i:Nat)(o:LN),i≤n∧k=n-i∧x7=.int .i64 (i:Nat)∧Hid (YP s.mem cap i 0 o∧Qh wr 3 (.slice (some ⟨g,0,none⟩) cap cap) (Qi o)∧Qb [] w wr))
 ·exact⟨0,_,by omega,by omega,rfl,Qa ⟨x5.o,x4.o,x3.o⟩⟩
 obtain⟨i,o,hi,hk,rfl,HI⟩:=hrel
 by_cases hlt:i<n
 ·have q0:(i:Int)<n:=by omega
  have⟨m,hm⟩:=qy s.mem i (by have:=HV.o.2.1;omega);have x1:=HV.o.1.inX<|QA hm;rw[HV.o.2.2]at x1;obtain⟨i1,i2,i3⟩:=x1;obtain⟨g1,off,rfl,c0,c1,c2,c3,c4⟩:=VT (HS.o.kZ HI.o.2.2) hm;obtain⟨a,ha⟩:∃a:Nat,m.start=(a:Int):=⟨m.start.toNat,by omega⟩;obtain⟨b,hb⟩:∃b:Nat,m.eZ=(b:Int):=⟨m.eZ.toNat,by omega⟩;rw[ha]at c1 i1 i3;rw[hb]at c2 i2 i3;have⟨HM,H0⟩:=qb (Qr hm<|Qr ha hb) (HI.o.1.skip (k':=((a+0:Nat):Int)) hm (by omega)<|by omega);have w1:IntKind.i64.wrap ((a:Int)+b)=(a:Int)+b:=by rw[Zz];omega
  clear hm ha hb;go_wp2_with fail;obtain⟨W,hW⟩:∃W:WD,W=wr:=⟨_,rfl⟩;subst hW
  go_loopg [8] b (fun k x8 wz=>∃(q:Nat)(o:LN),q≤b∧k=b-q∧x8=.int .i64 ((a+q:Nat):Int)∧Hid (YP s.mem cap i ((a+q:Nat):Int) o∧Qh wz 3 (.slice (some ⟨g,0,none⟩) cap cap) (Qi o)∧Qb [g] W wz))
  ·exact⟨0,o,by omega,by omega,rfl,Qa ⟨H0.o,HI.o.2.1,Qc _ _⟩⟩
  obtain⟨q,o',hq,x6,rfl,HJ⟩:=hrel;have n1:g1∉[g]:=by have h3:=JN W _ c0;have h4:=(HS.o.2 (i*5) (.string<|str m.path) (by rw[show i*5=i*5+0 from rfl,Va (enc:=Zi) (k:=5) WM s.mem i 0 m HM.o.1<|by decide];rfl));obtain⟨g2,o2,h5,h6⟩:=h4;injection h5 with h5;injection h5 with h5 h7;subst h5;have:=JN w _ h6;simp at this;have:=HG.o;simp;omega
  have d1:=HJ.o.2.2.cZ c1 n1;have d2:=HJ.o.2.2.cZ c2 n1
  by_cases x9:q<b
  ·have r0:((a+q:Nat):Int)<a+(b:Int):=(by omega);obtain⟨u1,u2⟩:=HJ.o.1.put HV.o.1 HM.o.1 (by rw[HM.o.2.1];omega) (by rw[HM.o.2.1,HM.o.2.2];omega) HV.o.2.2.symm;have d0:=HJ.o.2.1.aZ<|BG u1;have x0:=HJ.o.2.1.free<|a+q;obtain⟨r1,r2,r3⟩: ¬((a+q:Nat):Int)<30∧¬(cap:Int)≤((a+q:Nat):Int)∧a+q<cap:=(by omega);have⟨HU,HP⟩:=qb u2 (fun nq=>show Qh ((wr.drewN nq).setCell ⟨g,a+q,none⟩ ((i+1:Nat):Int)) 3 (.slice (some ⟨g,0,none⟩) cap cap) (Qi<|o'.set (a+q)<|i+1)by rw[AV];exact(HJ.o.2.1.drewN nq).put _ _);clear u1 u2 i1 i2 i3;go_wp2_with fail;go_quiet (fail)
   go_wp2
   go_roundg (b-(q+1))
   ·exact⟨q+1,_,by omega,rfl,by go_num,Qa ⟨HU.o,HP.o _,(HJ.o.2.2.drewN _).setCell (.inl<|by simp) _⟩⟩
   omega
  obtain rfl:b=q:=by omega
  have r0:¬((a+b:Nat):Int)<a+(b:Int):=by omega
  have HN:=Qa<|HJ.o.1.next (k':=0) HM.o.1 (by rw[HM.o.2.1,HM.o.2.2];omega)<|Av 0;clear i1 i2 i3;go_wp2_with fail;go_quiet (fail)
  go_wp2
  go_roundg (n-(i+1))
  ·exact⟨i+1,_,by omega,rfl,by go_num,Qa ⟨HN.o,HJ.o.2.1.drewN _,HI.o.2.2.trans (HJ.o.2.2.drewN _) fun y hy=>.inr (by simp at hy;have:=HG.o;omega)⟩⟩
  omega
 obtain rfl:n=i:=by omega
 have q0:¬(n:Int)<n:=by omega
 have HE:=Qa<|HI.o.1
 go_wp2
 go_ret2;obtain⟨hv,e1,e2⟩:=HV.o;subst e2;exact⟨o,some ⟨g,0,none⟩,_,rfl,YP.stop HI.o.1<|by omega,HI.o.2.1,HI.o.2.2,fun y hy=>by simp[Qd,qo]at hy;have:=HG.o;omega⟩
def Qfb(a:OA)(c N:Nat)(o:LN)(need:Nat)(w:WD)(hN:o.length=N)(h:Qp w 1 a N (Qi o))(h1:1≤need)(h2:need≤1000000)(h3:30≤N)(h4:N≤4096):
 Calls prog 25 #[.slice a N c,need] w fun e w'=>(∃r,e=.returned (.int .i64 r)∧Fl o need r)∧w'=w:=by
 have⟨HS,HN,h8⟩:=qc h hN<|UG.start o h1;clear h hN;go_enter func25,ntmps25
 go_wp2
 go_loopg [5,6] (N-30) (fun kk x5 x6 wr=>(∃k r:Nat,30≤k∧k≤N∧kk=N-k∧x5=.int .i64 (r:Int)∧x6=.int .i64 (k:Int)∧Hid (UG o need k r))∧wr=w)
 ·exact⟨⟨30,0,by omega,by omega,by omega,rfl,rfl,h8⟩,rfl⟩
 obtain⟨⟨k,r,h9,x0,x1,rfl,rfl,y⟩,rfl⟩:=hrel;have x2:=y.o.lt;have x3:=y.o.le
 by_cases hlt:k<N
 ·have q0:(k:Int)<N:=by omega
  have⟨u,hu⟩:=qy o k (by have:=HN.o;omega);obtain⟨g,off,rfl,d0⟩:=HS.o.2 k _<|BG hu
  by_cases h5:u=0
  ·subst h5;have HF:=Qa<|y.o.free hu;clear hu
   by_cases he:r+1=need
   ·have q1:((r:Int)+1==(need:Int))=true:=(by simp;omega);have q:=Qa<|HF.o.1 he;have w1:IntKind.i64.wrap ((k:Int)+1-(need:Int))=(k:Int)+1-need:=(by rw[Zz];omega);clear HF
    go_wp2
    go_ret;exact⟨⟨_,rfl,by have:=q.o;rwa[show((k+1-need:Nat):Int)=k+1-need by omega]at this⟩,rfl⟩
   have q1:((r:Int)+1==(need:Int))=false:=(by simp;omega);have q:=Qa<|HF.o.2 he;clear HF
   go_wp2
   go_roundg (N-(k+1))
   ·exact⟨⟨k+1,r+1,by omega,by omega,rfl,by go_num,by go_num,q⟩,rfl⟩
   omega
  have q1:((u:Int)==0)=false:=by simp;omega
  have q2:((0:Int)==(need:Int))=false:=by simp;omega
  have q:=Qa<|y.o.full (by rw[hu];simpa using h5);clear hu
  go_wp2
  go_roundg (N-(k+1))
  ·exact⟨⟨k+1,0,by omega,by omega,rfl,rfl,by go_num,q⟩,rfl⟩
  omega
 obtain rfl:N=k:=by omega
 have q0:¬(N:Int)<N:=by omega
 have q:=Qa<|y.o.stop (by have:=HN.o;omega)
 go_wp2
 go_ret;exact⟨⟨_,rfl,q.o⟩,rfl⟩
end
section
open Go.Sort Go.Shelf
def Qg1{s s':Vst}{c:LU→LU}(h:Vok s c)(m:s'.dev.Ok)(x:V0)(v:VL)(w:WD)(a:Uf w v s.mem)(n:x.act.kind≠3→Uh s s'):
 Calls prog 22 #[v,str s.dev.img.flatten,str s'.dev.img.flatten,.agg (J9 x).toArray] w fun e w'=>e=.returned (.bool true)∧Qb [] w w':=by
 obtain⟨al,b,rfl,hs,-⟩:=a;have⟨d,f⟩:=qx s.mem.length;have a:=h.few;rw[f]at hs a ⊢;have⟨r,j,l⟩:=qc hs (Qr h<|Qr f m) n;have⟨g,a⟩:=qx s.dev.img;have⟨i,b⟩:=qx s'.dev.img;rw[a,b];have⟨q,k⟩:=qb (Qr a b) fun o=>(Qc [] w).alloc o;unfold J9
 by_cases k3:x.act.kind=3
 ·have a:(x.act.kind==3)=true:=by rw[k3];rfl
  go_enter func22,ntmps22
  go_wp2
  go_ret;exact⟨rfl,k.o _⟩
 have a:(x.act.kind==3)=false:=Zb.2 k3;have n:=Qa<|l.o k3;go_enter func22,ntmps22
 go_wp2
 go_loopg [9,10,11] d (fun a b f f wr=>(∃f:Nat,f≤d∧a=d-f∧b=.int .i64 (f:Nat))∧Hid (Qb [] w wr))
 ·exact⟨⟨0,by omega,by omega,rfl⟩,Qa<|k.o _⟩
 obtain⟨⟨f,hi,hk,rfl⟩,o⟩:=hrel
 by_cases hlt:f<d
 ·have z:(f:Int)<d:=by omega
  have⟨h,p⟩:=qy s.mem f (by have:=j.o.2.1;omega);have l:=QA p;obtain⟨a,i2,i3⟩:=j.o.1.inX l;have k:=j.o.1.lenM l;have y:=j.o.1.dev.c2;obtain⟨g1,off,rfl,c0,c1,c2,c3,a⟩:=VT (r.o.kZ o.o) p;obtain⟨a,ha⟩:∃a:Nat,h.start=(a:Int):=⟨h.start.toNat,by omega⟩;obtain⟨b,hb⟩:∃b:Nat,h.eZ=(b:Int):=⟨h.eZ.toNat,by omega⟩;have m:=n.o h l;rw[ha,hb]at m k i3;rw[ha]at c1;rw[hb]at c2 i2;simp only[Zs]at m k;obtain⟨t,u,n⟩:=Qg0 j.o.1.dev.sec j.o.2.2.sec (by omega) k m;rw[q.o.1]at t n;rw[q.o.2]at u n;have A:(str g.flatten).size=g.flatten.length:=rfl;have z2:(str i.flatten).size=i.flatten.length:=rfl;have j:=Gq (str g.flatten) (512*a) (512*(a+b)) ((a:Int)*512) (((a:Int)+b)*512) (by omega) (by omega) (by omega) (by omega);have t2:=Gq (str i.flatten) (512*a) (512*(a+b)) ((a:Int)*512) (((a:Int)+b)*512) (by omega) (by omega) (by omega) (by omega);rw[Uo _ _ _<|by omega,show 512*(a+b)-512*a=512*b by omega,Jz]at j t2;rw[n]at t2;have⟨h,r⟩:=qx<|(g.flatten.drop<|512*a).take<|512*b;rw[r]at j t2;have:((str h).toList==(str h).toList)=true:=by simp
  have⟨h,j⟩:=qx g.flatten.length;have⟨g,q⟩:=qx i.flatten.length;rw[j]at A t;rw[q]at z2 u;obtain⟨i,t⟩: ¬(h:Int)<((a:Int)+b)*512∧¬(g:Int)<((a:Int)+b)*512:=by omega
  have:IntKind.i64.wrap ((a:Int)*512)=(a:Int)*512:=by rw[Zz];omega
  have:IntKind.i64.wrap ((a:Int)+b)=(a:Int)+b:=by rw[Zz];omega
  have:IntKind.i64.wrap (((a:Int)+b)*512)=((a:Int)+b)*512:=by rw[Zz];omega
  have:decide ((h:Int)<((a:Int)+b)*512)=false:=Xz i;have:decide ((g:Int)<((a:Int)+b)*512)=false:=Xz t;go_wp2_with fail;go_quiet (fail);go_wp2_with fail;go_quiet (fail)
  go_wp2
  go_roundg (d-(f+1))
  ·exact⟨⟨f+1,by omega,rfl,by go_num⟩,Qa<|o.o.drewN _⟩
  omega
 obtain rfl:d=f:=by omega
 have z:¬(d:Int)<d:=by omega
 go_wp2
 go_ret;exact⟨rfl,o.o⟩
end
section
open Go.Sort Go.Shelf
def pR(L:LY)(w:WD)(e:Ending)(w':WD):Prop:=∃a,e=.returned a∧Qh w' 9 a (strs L)∧Qb [] w w'∧∀b∈Qd a,w.heap.size≤b
def Qat{a d nv pv mv s w}(h:Vt w a d nv pv mv s)(hl:s.mem.length≤1000):Calls prog 27 #[.pointer a] w (pR (s.mem.map (·.path)) w):=by
 have HM:=Qa<|Do h hl;have⟨l,x4⟩:=qx s.mem;rw[x4]at HM hl ⊢;have⟨n,h1⟩:=qx l.length;have HN:=Qa h1;rw[h1]at hl;go_enter func27,ntmps27;go_wp2_with (first
  |(go_at_call 10;refine HM.o.mono ?_;rintro e w1⟨v1,rfl,x5,x2,-⟩;obtain⟨a1,c1,rfl,h5,-⟩:=x5.memA;rw[h1]at h5;have x7:=Qa h5;have h9:=Qa x2))
 go_loopg [3,9] n (fun k x3 x9 wr=>(∃(i:Nat)(v3:VL),i≤n∧k=n-i∧v3=x3∧x9=.int .i64 (i:Nat)∧Hid (Qh wr 9 v3<|strs<|(l.take i).map (·.path))∧Hid (∀x∈Qd v3,w1.heap.size≤x))∧Hid (Qb [] w1 wr))
 ·exact⟨⟨0,_,by omega,by omega,rfl,rfl,Qa<|Qh.nil _ _,Qa<|by simp[Qd,qo]⟩,Qa<|Qc _ _⟩
 obtain⟨⟨i,v3,hi,hk,rfl,rfl,x0,h2⟩,q⟩:=hrel
 by_cases hlt:i<n
 ·have q0:(i:Int)<n:=by omega
  have⟨m,hm⟩:=qy l i (by have:=HN.o;omega);obtain⟨g,off,rfl,c0,e1,e2,e3,e4⟩:=VT (x7.o.kZ q.o) hm;have HT:=Qa (by rw[Zt,hm];simp[strs]:strs ((l.take<|i+1).map (·.path))=strs ((l.take i).map (·.path))++[.string<|str m.path]);have x1:(strs<|(l.take i).map (·.path)).length≤1000:=by rw[Vi,QH,Zl];omega
  have h3:=x0.o;have⟨o,x6⟩:=qx<|strs<|(l.take i).map (·.path);rw[x6]at HT x1 h3;have L1:o.length+1≤maxLen:=by simp only[maxLen];omega
  have L2:(o.length+1)*16≤140737488355328:=by omega
  have h4:=(Qc [] wr).alloc<|.cells #[.string<|str m.path,.int .i64 m.start,.int .i64 m.eZ,.int .i64 m.size,.int .u32 m.sum] 69;have y1:=h3.kept h4 (by simp);have h8:=Qa h4;go_wp2_with (at_builtin;refine ES (wr.alloc<|.cells #[.string<|str m.path,.int .i64 m.start,.int .i64 m.eZ,.int .i64 m.size,.int .u32 m.sum] 69) rfl _ _ 60 rfl 9 (.string ⟨#[]⟩) 16 CY CX rfl v3 (.string<|str m.path) o rfl (by rw[Vo];rfl) rfl rfl y1 L1 L2 ?_;intro g5 c5 w5 y2 y0 x8)
  go_roundg (n-(i+1))
  ·refine⟨⟨i+1,_,by omega,rfl,rfl,by go_num,Qa ?_,Qa ?_⟩,Qa<|(q.o.trans h8.o<|by simp).trans y0 fun y hy=>.inr<|h2.o y hy⟩
   ·rwa[HT.o]
   intro y hy;simp[Qd,qo]at hy;subst hy;rcases x8 with h|h
   ·exact h2.o _ h
   have:=q.o.size;have:=h8.o.size;omega
  omega
 obtain rfl:i=n:=by omega
 have q0:¬(i:Int)<i:=by omega
 go_wp2
 go_ret;have:=x0.o;rw[Q8 (by rw[HN.o];exact Ql _)]at this;exact⟨_,rfl,this,h9.o.trans q.o<|by simp,fun x hx=>QS h9.o.size<|h2.o x hx⟩
end
