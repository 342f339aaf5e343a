import Derived.Test.YtickjpnkoppmgaaGreatDoorAg
set_option linter.all false
namespace Go.Proofs.YtickjpnkoppmgaaGreatDoor
open Go.Proofs.Tryz Go.RowKit K
def LZ:(prog.info? 204).map (fun i=>(i.zero,i.size,i.bytes))=some (some<|.agg #[.string ⟨#[]⟩,(0:Int)],2,24):=by kernel_rfl
def An(T:List LI)(P:LI)(k:Nat):List (BA × Int):=(⟨(Qv (Jf T P)).toArray⟩,((Jf T P).length:Nat))::(T.take k).map fun a=>(⟨(Qv (Q2 a)).toArray⟩,((Q2 a).length:Nat))
def Ol(T P k):Yq (An T P k)=Ao T P k:=by simp[Yq,An,Ao,EV]
def Lf(p:LU × Int × Nat)(w:WD)(e:Ending)(w':WD):Prop:=e=.returned (Zg p)∧Qb [] w w'
def yH(b a d c T P w)(g:Xv w b a d c T P)(k:Xm T P=false):
 Calls prog 166 #[QZ b T.length d a P.length c] w (Lf (Bc T P) w):=by
 have l:=Qa (by unfold Bc;rw[k];rfl:Bc T P=([],0,110));have hk:Qb [] w ((w.alloc<|.cells #[.slice b T.length d,.slice a P.length c] 255).alloc<|.cells #[.string ⟨#[]⟩,(0:Int)] 204):=((Qc [] w).alloc _).alloc _;have h:Qe ((w.alloc<|.cells #[.slice b T.length d,.slice a P.length c] 255).alloc<|.cells #[.string ⟨#[]⟩,(0:Int)] 204) w.heap.size 255 [.slice b T.length d,.slice a P.length c]:=
  (Qy w [.slice b T.length d,.slice a P.length c] 255).kept ((Qc [] _).alloc _) (by simp)
 have j:Qe ((w.alloc<|.cells #[.slice b T.length d,.slice a P.length c] 255).alloc<|.cells #[.string ⟨#[]⟩,(0:Int)] 204) (w.heap.size+1) 204 [.string ⟨#[]⟩,(0:Int)]:=by have g:=Qy (w.alloc<|.cells #[.slice b T.length d,.slice a P.length c] 255) [.string ⟨#[]⟩,(0:Int)] 204;rwa[show(w.alloc<|.cells #[.slice b T.length d,.slice a P.length c] 255).heap.size=w.heap.size+1 by simp]at g
 have e:=g.kept hk;unfold QZ;generalize m:(w.alloc<|.cells #[.slice b T.length d,.slice a P.length c] 255).alloc (.cells #[.string ⟨#[]⟩,(0:Int)] 204)=W at hk h j e;have f:=FO b a d c T P W e.tabs e.picks e.tl e.pl e.rl;rw[k]at f;unfold QZ at f;subst m;have b0:=h.cell (i:=0) (u:=.slice b T.length d) rfl;have:=h.cell (i:=1) (u:=.slice a P.length c) rfl;have⟨d,b⟩:=qb hk j;go_enter func166,ntmps166;go_wp2_with fail;refine f.mono ?_;rintro a a⟨rfl,a⟩;have c:=b.o.kept a (by simp);obtain⟨e,e,e,e,g,h⟩:=c.six (.string ⟨#[]⟩) (0:Int);have e:=Qa (d.o.trans a<|by simp);go_wp2_with fail;refine Q5 (v:=Zg ([],0,110)) (by simp[results,results166,go_sem,Zg,g,h]) rfl ?_;exact⟨by rw[l.o],e.o.set2<|.inr<|by simp⟩
def pK(w0 W:WD)(T:List LI)(P:LI)(b e a:Nat)(k:Nat)(v:VL)(wr:WD):Prop:=
 ∃(a:Nat)(d:LB)(f:VL)(c:LN),k=P.length-a∧a≤P.length∧v=.int .i64 (a:Nat)∧d.length≤100+7*a∧Hid (Wr wr b f d)∧Hid (QK wr e (Qi c))∧Hid (c.length=T.length∧∀g,g∈c↔g<T.length)∧
  Hid (Jf T P=d++JT c ((QD P).drop a))∧Hid (Qq (b::Qd f) [e])∧Hid (Qb [] W wr)∧Hid (Qs W.heap.size (b::Qd f))∧Hid (W.heap.size≤e)
def pL(W:WD)(g:LN)(f:LB)(b d e:Nat)(k:Nat)(v:VL)(wr:WD):Prop:=
 ∃(a:Nat)(c:VL),k=e-a∧a≤e∧v=.int .i64 (a:Nat)∧Hid (Wr wr b c (f++List.replicate a true))∧Hid (QK wr d (Qi g))∧Hid (Qq (b::Qd c) [d])∧Hid (Qb [] W wr)∧Hid (Qs W.heap.size (b::Qd c))
def pM(W:WD)(T:List LI)(P:LI)(m:Nat)(v9 v:VL)(wr:WD):Prop:=
 ∃(a:Nat)(b:OA)(c:Nat),m=T.length-a∧a≤T.length∧v9=.slice b (a+1) c∧v=.int .i64 (a:Nat)∧Hid (Qn wr 204 2 (.slice b (a+1) c) (a+1) (Yl (An T P a)))∧Hid (Qb [] W wr)∧Hid (Qs W.heap.size (fZ b))
def Qn.two(w:WD)(u v e):Qn (w.alloc<|.cells #[u,v] e) e 2 (.slice w.heap.size 1 1) 1 [u,v]:=
 ⟨rfl,.inr ⟨w.heap.size,1,#[u,v],rfl,ZF _,Xf w _,Ql _,by simp[maxLen],rfl,rfl⟩⟩
set_option maxRecDepth 100000 in
set_option maxHeartbeats 2000000 in
def bA(f b g c T P w)(i:Xv w f b g c T P)(e:Xm T P=true):
 Calls prog 166 #[QZ f T.length g b P.length c] w (Lf (Bc T P) w):=by
 have h4:=Qa (by unfold Bc;rw[e];rfl:Bc T P=(Qv<|Zr T P,(((Zr T P).length:Nat):Int),0));obtain⟨a,a,p,m⟩:=RG e;have⟨S,L,h1,U⟩:=qd p m (Ka e)<|Qr (Qd2 e)<|Qd1 e;have hk:Qb [] w ((w.alloc<|.cells #[.slice f T.length g,.slice b P.length c] 255).alloc<|.cells #[.string ⟨#[]⟩,(0:Int)] 204):=((Qc [] w).alloc _).alloc _;have h:Qe ((w.alloc<|.cells #[.slice f T.length g,.slice b P.length c] 255).alloc<|.cells #[.string ⟨#[]⟩,(0:Int)] 204) w.heap.size 255 [.slice f T.length g,.slice b P.length c]:=
  (Qy w [.slice f T.length g,.slice b P.length c] 255).kept ((Qc [] _).alloc _) (by simp)
 have k:Qe ((w.alloc<|.cells #[.slice f T.length g,.slice b P.length c] 255).alloc<|.cells #[.string ⟨#[]⟩,(0:Int)] 204) (w.heap.size+1) 204 [.string ⟨#[]⟩,(0:Int)]:=by have i:=Qy (w.alloc<|.cells #[.slice f T.length g,.slice b P.length c] 255) [.string ⟨#[]⟩,(0:Int)] 204;rwa[show(w.alloc<|.cells #[.slice f T.length g,.slice b P.length c] 255).heap.size=w.heap.size+1 by simp]at i
 have a:=i.kept hk;unfold QZ;generalize d:(w.alloc<|.cells #[.slice f T.length g,.slice b P.length c] 255).alloc (.cells #[.string ⟨#[]⟩,(0:Int)] 204)=W at hk h k a;have j:=FO f b g c T P W a.tabs a.picks a.tl a.pl a.rl;rw[e]at j;unfold QZ at j;subst d;have b0:=h.cell (i:=0) (u:=.slice f T.length g) rfl;have q:=h.cell (i:=1) (u:=.slice b P.length c) rfl;have l:=Qa h;have d:=Qa hk;have n:=Qa k;have o:=Qa a;clear hk h k a i e p m;go_enter func166,ntmps166;go_wp2_with fail;refine j.mono ?_;rintro m G⟨rfl,a⟩;have h3:=Qa (d.o.trans a<|by simp);have B:=Qa (l.o.kept a<|by simp);have Y:=Qa (n.o.kept a<|by simp);have I:=Qa<|o.o.kept a;clear a j b0 q l n d o;go_wp2_with fail;refine(Dq _).mono ?_;rintro m j⟨s,rfl,h,a,e⟩;have p:=Qa a;have n:=Qa e;have c0:=(B.o.kept a<|by simp).cell (i:=0) (u:=.slice f T.length g) rfl;have v:=Rk s (T.length:Int) 3 (.slice none 0 0) [] j (by omega) (by omega) (by omega) (by simp;omega) (by simp) h;have z:=Qa v;clear a e h v;go_wp2_with fail;refine z.o.mono ?_;rintro m q⟨rfl,a,l,k,j⟩;have e:=Qa<|p.o.new k n.o;have o:=Qa<|n.o.grow j p.o.size;have c1:=(B.o.kept e.o<|by simp).cell (i:=1) (u:=.slice b P.length c) rfl;have h:=Rk s (P.length:Int) 15 a _ q (by omega) (by omega) (by omega) (by simp;omega) (by simp[X0]) l;have a:=Qa h;clear k j l h z c0;go_wp2_with fail;refine a.o.mono ?_;rintro m q⟨rfl,H,l,j,h⟩;have k:=Qa<|e.o.new j o.o;have C:=Qa<|o.o.grow h e.o.size;have r:=Qa l;have c0:=(B.o.kept k.o<|by simp).cell (i:=0) (u:=.slice f T.length g) rfl;clear j h l a c1;go_wp2_with fail;refine(aW T.length q<|by omega).mono ?_;rintro m a⟨x,rfl,E,y,F⟩;have q:=Qa (k.o.trans y<|by simp);have t:=Qa (r.o.kept y<|by simp[Qq]);have A:=Qa E.blk;have l:=Qa (show Qq (s::Qd H) [x]by
  intro a h j;simp only[Za]at j;have:=r.o.lt a h;omega)
 have D:=Qa (by have:=k.o.size;omega:G.heap.size≤x);have c1:=(B.o.kept q.o<|by simp).cell (i:=1) (u:=.slice b P.length c) rfl;clear y E F r k e p n o c0;go_wp2_with fail;rw[show([]:LB)++K.low (Int.toNat (T.length:Int)) (Int.toNat 3)++K.low (Int.toNat (P.length:Int)) (Int.toNat 15)=K.low T.length 3++K.low P.length 15 from rfl]at t
 go_loopg [38] P.length (fun e F wr=>pK w G T P s x T.length e F wr)
 ·exact⟨0,_,H,List.range T.length,by omega,by omega,rfl,by simp[X0],t,A,Qa ⟨by simp,fun a=>by simp⟩,Qa (by unfold Jf;rw[VD,QQ]),l,q,C,D⟩
 clear t A l q C D c1;obtain⟨t,R,E,n,hk,hi,rfl,b,A,r,H,O,l,d,y,D⟩:=hrel;have J:=Qa hk;clear hk
 by_cases hlt:t<P.length
 ·have h9:(t:Int)<P.length:=by omega
  have⟨a,h⟩:=qy P t hlt;obtain⟨b,c⟩:=L.o a<|QA h;obtain⟨a,rfl⟩:=X7 b;obtain⟨b,b,rfl,-⟩:=(I.o.kept d.o).picks.at (by rw[Xk];omega);have c0:=(I.o.kept d.o).picks.int h;have h8:=Qa h;clear h;obtain⟨b,rfl⟩:∃b:WD,b=wr:=⟨_,rfl⟩;go_wp2_with fail;have C:a∈n:=(H.o.2 a).2 (by omega);have⟨q,k⟩:=qx<|n.idxOf a;have Q:q<n.length:=by rw[←k];exact Ls.2 C
  have L:n[q]?=some a:=by rw[←k,Qj<|Ls.2 C,GO]
  have M:∀h,h<q→∀b,n[h]?=some b→b≠a:=by intro h p b c o;rw[←k]at p;exact TE a n h b p c o
  have⟨h2,V,Z⟩:=qc k L M;have X:n.length=T.length:=H.o.1;clear C k L M c0
  go_loopg [8] q (fun e F wr=>pL G n R s x q e F wr)
  ·exact⟨0,E,by omega,by omega,rfl,by simpa using A,r,l,d,y⟩
  clear A r l d y;obtain⟨h,E,hk,p,rfl,A,r,l,d,y⟩:=hrel;have h5:=Qa hk;clear hk;have⟨b,c⟩:=qy n h (by omega);have c0:=r.o.cell<|AX c;have:(h:Int)<T.length:=by omega
  by_cases k:h<q
  ·have g1:((b:Int) != (a:Int))=true:=(by have:=Z.o h k b c;simp;omega);have v:=Rk s 1 1 E _ wr (by omega) (by omega) (by omega) (by decide) (by simp;omega) A.o;have z:=Qa v;clear c v;go_wp2_with fail;refine z.o.mono ?_;rintro m k⟨rfl,M,L,p,C⟩
   go_wp2
   go_roundg (q-(h+1))
   case measure=>have:=h5.o;omega
   refine⟨h+1,M,rfl,by omega,by simp,Qa ?_,Qa<|r.o.kept p fun j=>l.o x j<|by simp,Qa ?_,Qa<|d.o.new p y.o,Qa<|y.o.grow C d.o.size⟩
   ·rw[Fg,←QQ];exact L
   intro b c j;simp only[Za]at j;rcases C b c with i|i
   ·exact l.o b i (by simp[j])
   have:=r.o.lt;omega
  obtain rfl:h=q:=by omega
  have q:b=a:=by have:=V.o;rw[c]at this;injection this
  have g1:((b:Int) != (a:Int))=false:=by rw[q];simp
  have:=Qa q;have v:=Rk s 0 1 E _ wr (by omega) (by omega) (by omega) (by decide) (by simp;omega) A.o;have z:=Qa v;clear c q v;go_wp2_with fail;refine z.o.mono ?_;rintro m k⟨rfl,M,L,p,C⟩;have V:=r.o.kept p (fun j=>l.o x j<|by simp);have q:=Qa<|d.o.new p y.o;have Z:=Qa<|y.o.grow C d.o.size;have y:=Qa (show Qq (s::Qd M) [x]by
   intro b c j;simp only[Za]at j;rcases C b c with i|i
   ·exact l.o b i (by simp[j])
   have:=r.o.lt;omega)
  have h5:=Qa L;have v:=aS x T.length h n k Q (by omega) (by omega) (by omega) V;rw[X]at v;have x:=Qa v;clear p C L V v z;go_wp2_with fail;refine x.o.mono ?_;rintro m v⟨rfl,x,v⟩
  go_wp2
  go_roundg (P.length-(t+1))
  case measure=>have:=J.o;omega
  have C:(QD P)[t]?=some a:=by rw[QD,ZD,h8.o];rfl
  have z:(QD P).drop t=a::(QD P).drop (t+1):=by obtain⟨a,L⟩:=Qz.1 C;rw[Z8 a,L]
  have o:=O.o;rw[z,JT,h2.o]at o;refine⟨t+1,(R++List.replicate h true)++[false],M,K.turned n h,by omega,by omega,by simp,by simp;omega,Qa<|h5.o.kept v y.o,Qa x,Qa ⟨by rw[DA _ _ Q];exact X,fun a=>by rw[Gy _ _ Q];exact H.o.2 a⟩,Qa ?_,y,Qa<|q.o.trans v (by intro a hz;simp at hz;subst hz;exact .inr D.o),Z,D⟩;rw[o];simp
 obtain rfl:t=P.length:=by omega
 have z:¬(P.length:Int)<P.length:=by omega
 have o:=O.o;rw[JI (by rw[UQ];exact Ql _),JT,XH]at o;have a:=Qa (by rw[o];exact A.o:Wr wr s E (Jf T P));have:=h1.o;clear o O A r H l J;go_wp2_with fail;refine(Dx _ _ _ _ a.o).mono ?_;rintro m h⟨rfl,rfl⟩;go_wp2_with fail;refine(Dj _ _ _ _ a.o).mono ?_;rintro m h⟨rfl,rfl⟩;have c0:=((B.o.kept d.o<|by simp).kept ((Qc [] wr).alloc<|.cells #[.string ⟨(Qv<|Jf T P).toArray⟩,((Jf T P).length:Nat)] 204)<|by simp).cell (i:=0) (u:=.slice f T.length g) rfl;have:w.heap.size<wr.heap.size:=by have:=(B.o.kept d.o<|by simp).lt;omega
 go_wp2_with fail;have l:=Qn.two wr (.string ⟨(Qv<|Jf T P).toArray⟩) ((Jf T P).length:Nat) 204;have⟨g,f,h⟩:=qc (d.o.alloc<|.cells #[.string ⟨(Qv<|Jf T P).toArray⟩,((Jf T P).length:Nat)] 204) (by intro b c;simp[fZ]at c;have:=d.o.size;omega:Qs G.heap.size (fZ<|some ⟨wr.heap.size,0,none⟩))<|show Qn (wr.alloc<|.cells #[.string ⟨(Qv<|Jf T P).toArray⟩,((Jf T P).length:Nat)] 204) 204 2 (.slice (some ⟨wr.heap.size,0,none⟩) (0+1) 1) (0+1) (Yl<|An T P 0)from l;clear l c0 a d
 go_loopg [9,67] T.length (fun e v9 F wr=>pM G T P e v9 F wr)
 ·exact⟨0,some ⟨wr.heap.size,0,none⟩,1,by omega,by omega,rfl,rfl,h,g,f⟩
 clear h g f;obtain⟨e,a9,t,hk,a,rfl,rfl,r,f,n⟩:=hrel;have J:=Qa hk;clear hk
 by_cases hlt:e<T.length
 ·have h9:(e:Int)<T.length:=by omega
  have⟨a,d⟩:=qy T e hlt;obtain⟨g,g,x,y,rfl,g,h,-⟩:=(I.o.kept f.o).tabs.int d;have g:=(S.o a<|QA d).2.2;have:=I.o.rl a<|QA d;have⟨l,s,v⟩:=qc (by unfold BO;rw[UL g];rfl:BO a=(Qv<|Q2 a,(((Q2 a).length:Nat):Int),0)) d h;clear d h g;go_wp2_with fail;refine(vG x y a _ v.o<|by omega).mono ?_;rintro m k⟨rfl,p⟩;rw[l.o];unfold Zg;have q:=Qa (f.o.trans p<|by simp);have d:Qb [] k (k.alloc<|.cells #[.string ⟨(Qv<|Q2 a).toArray⟩,.int .i64 ((Q2 a).length:Nat)] 204):=(Qc _ _).alloc _;have v:=Qn.kept (Qn.kept r.o p<|by simp[Qq]) d (by simp[Qq]);have g:=Qa (q.o.trans d<|by simp);have:=Gn a<|UL<|(S.o a<|QA s.o).2.2;clear p d
  go_upto_region 22 with(fail)
  have x:(k.alloc<|.cells #[.string ⟨(Qv<|Q2 a).toArray⟩,.int .i64 ((Q2 a).length:Nat)] 204).heap.size=k.heap.size+1:=by simp
  have p:=Qy k [.string ⟨(Qv<|Q2 a).toArray⟩,.int .i64 ((Q2 a).length:Nat)] 204;have q:k.heap.size<(k.alloc<|.cells #[.string ⟨(Qv<|Q2 a).toArray⟩,.int .i64 ((Q2 a).length:Nat)] 204).heap.size:=by simp
  have⟨d,l⟩:=qx<|k.alloc<|.cells #[.string ⟨(Qv<|Q2 a).toArray⟩,.int .i64 ((Q2 a).length:Nat)] 204;have h:Qe d k.heap.size 204 [.string ⟨(Qv<|Q2 a).toArray⟩,.int .i64 ((Q2 a).length:Nat)]:=by rwa[←l]
  rw[l]at v g q ⊢;have:=h.cell (i:=0) (u:=.string ⟨(Qv<|Q2 a).toArray⟩) rfl;have:=h.cell (i:=1) (u:=.int .i64 ((Q2 a).length:Nat)) rfl;clear p h l x;go_wp2_with ((at_builtin;refine RO d rfl _ _ 205 rfl 204 (.agg #[.string ⟨#[]⟩,(0:Int)]) 2 24 Tc LZ rfl (by decide) (.slice a9 (e+1) t) (e+1) _ [.string ⟨(Qv<|Q2 a).toArray⟩,.int .i64 ((Q2 a).length:Nat)] rfl rfl rfl rfl (by simp[Value.oneCell']) v (by simp only[maxLen];omega) (by omega) ?_;intro k h x q p l))
  go_roundg (T.length-(e+1))
  case measure=>have:=J.o;omega
  have o:Yl (An T P<|e+1)=Yl (An T P e)++[.string ⟨(Qv<|Q2 a).toArray⟩,.int .i64 ((Q2 a).length:Nat)]:=by simp[An,Yl,Zt,s.o]
  refine⟨e+1,some ⟨k,0,none⟩,h,by omega,by omega,rfl,by simp,Qa ?_,Qa<|g.o.new p fun b c=>n.o b<|by rwa[XK]at c,Qa ?_⟩
  ·rwa[o]
  intro b c;simp[fZ]at c;subst c;rcases l with i|i
  ·rw[XK]at i;exact n.o _ i
  have:=g.o.size;omega
 obtain rfl:e=T.length:=by omega
 have z:¬(T.length:Int)<T.length:=by omega
 have b:(An T P T.length).length=T.length+1:=by simp[An]
 have c:=bY a9 t (An T P T.length) wr (by rw[b];exact(Qn.sZ r.o).1) (by rw[Ol];exact U.o.1) (by rw[b];omega) (fun d e=>by have j:(d.1.data.toList,d.2)∈Yq (An T P T.length):=QB.2 ⟨d,e,rfl⟩;rw[Ol]at j;exact U.o.2 _ j);rw[b,Ol]at c;have⟨e,d⟩:=qb c (Y.o.kept f.o<|by simp);clear c b;have b:BE (Ao T P T.length)=(Qv<|Zr T P,(((Zr T P).length:Nat):Int),0):=by
  unfold BE;rw[Qd0,Qg];rw[XO];intro c hp;simp only[Ao,QE,QB]at hp;rcases hp with rfl|⟨a,-,rfl⟩
  ·exact NM _
  exact NM _
 have g:=Qa b;have c:=d.o.cell (i:=0) (u:=.string ⟨#[]⟩) rfl;clear b c;go_wp2_with fail;refine e.o.mono ?_;rintro m a⟨rfl,a⟩;rw[g.o];unfold Zg;have b:=d.o.kept a (by simp);obtain⟨c,c,c,c,d,e⟩:=b.six (.string ⟨(Qv<|Zr T P).toArray⟩) ((Zr T P).length:Nat);have c:=Qa ((h3.o.trans f.o<|by simp).trans a<|by simp);clear b a;go_wp2_with fail;refine Q5 (v:=Zg (Qv<|Zr T P,(((Zr T P).length:Nat):Int),0)) (by simp[results,results166,go_sem,Zg,d,e]) rfl ?_;exact⟨by rw[h4.o],c.o.set2<|.inr<|by simp⟩
def Qp.natD{w}{b off n i x:Nat}{xs}(a:Qp w 1 (some ⟨b,off,none⟩) n (Qi xs))(c:xs[i]?=some x):w.cell? ⟨b,off+i,none⟩=some (.int .i64 (x:Int)):=by rw[Cs]at a;exact a.int (by rw[ZD,c];rfl)
def nH(l:LN)(w:WD)(e:Ending)(w':WD):Prop:=
 ∃a b,e=.returned (.slice a l.length b)∧Qh w' 3 (.slice a l.length b) (Qi l)∧Qb [] w w'∧Qs w.heap.size (fZ a)
def BG{l}{i x:Nat}(a:l[i]?=some x):(Qi l)[i]?=some (.int .i64 (x:Int)):=by simp[Qi,a]
def AV(l)(i x:Nat):Qi (l.set i x)=(Qi l).set i (x:Int):=by simp[Qi,Bp]
def Ym(x:Int):Int:=if 1≤x then x else 1
def ZP(xs:LI):LN:=xs.map fun a=>(Ym a).toNat
def Wh(x):1≤Ym x:=by unfold Ym;split<;>omega
def Qc3(xs):QM (xs.map Ym)=Qi (ZP xs):=by
 rw[Cs]
 congr 1
 simp only[ZP,XI];apply Yx;intro a _;have:=Wh a;simp only[Function.comp];omega
def Jh(xs):(ZP xs).length=xs.length:=by simp[ZP]
def Oe{xs}(a:Yc xs=true):∀x∈ZP xs,1≤x∧x≤1073741824:=by
 intro x b;obtain⟨d,c,rfl⟩:=QB.1 b;have:=(EA a).2.2 d c;unfold Ym
 split<;>omega
def Qc5{w:LN}(b:w.length≤258)(a:∀x∈w,1≤x∧x≤1073741824):w.sum≤1000000000000:=by have:=jT w 1073741824 fun x c=>(a x c).2;have:w.length*1073741824≤258*1073741824:=AA _ b;omega
def tE(xs:LI)(i x)(a:xs[i]?=some x):((xs.take i).map Ym++xs.drop i).set i (Ym x)=(xs.take<|i+1).map Ym++xs.drop (i+1):=by
 obtain⟨hi,b⟩:=Qz.1 a;have a:((xs.take i).map Ym).length=i:=by simp;omega
 rw[VF _ _<|by omega,a,ZO,Z8 hi,UY,Ay hi,b];simp
def tD(xs:LI)(i x)(a:xs[i]?=some x):((xs.take i).map Ym++xs.drop i)[i]?=some x:=by
 obtain⟨hi,b⟩:=Qz.1 a;have b:((xs.take i).map Ym).length=i:=by simp;omega
 rw[Zx<|by omega,b,ZO,J4];simpa using a
def zO(l i)(x:Int):QM (l.set i x)=(QM l).set i x:=by simp[QM,Bp]
def dP{ls:LN}{m}{a:Nat}(c:m∈ls.map fun n:Nat=>(n:Int))(d:∀x∈ls.map fun n:Nat=>(n:Int),x≤m):(m≤(a:Int))↔∀x∈ls,x≤a:=by
 constructor
 ·intro b x a;have:=d (x:Int)<|QB.2 ⟨x,a,rfl⟩;omega
 intro b;obtain⟨x,a,rfl⟩:=QB.1 c;have:=b x a;omega
def AU(a:Int):Bool:=decide (12≤a∧a≤20)
def mD(w0:WD)(xs:LI)(c b:Nat)(g:Nat)(v:VL)(wr:WD):Prop:=
 ∃a:Nat,g=xs.length-a∧a≤xs.length∧v=.int .i64 (a:Nat)∧Hid (Qh wr 3 (.slice c xs.length b) (QM ((xs.take a).map Ym++xs.drop a)))∧Hid (Qb [] w0 wr)
def nB(w0:WD)(N:Nat)(b:LN)(d c:Nat)(g:Nat)(v:VL)(wr:WD):Prop:=
 ∃a:Nat,g=N-a∧a≤N∧v=.int .i64 (a:Nat)∧Hid (Qh wr 3 (.slice d N c) (Qi (Ua (b.take a)++b.drop a)))∧Hid (Qb [] w0 wr)
def fU{k n}(a:2^k≤n)(a:n≤258):k≤8:=by
 rcases Xq k 9 with a|a
 ·omega
 have:=Jc (n:=2) (by omega) a;omega
def fG{xs i x}(a:xs[i]?=some x):(((ZP xs).getD i 0:Nat):Int)=Ym x:=by
 have b:(ZP xs)[i]?=some (Ym x).toNat:=by simp[ZP,a]
 have:=Wh x;rw[List.getD,b,VI];omega
