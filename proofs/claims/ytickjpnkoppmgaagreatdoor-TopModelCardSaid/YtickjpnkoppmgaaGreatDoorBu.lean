import Derived.Laws.Cover3
import Derived.ChangeKeysEq
import Derived.Test.YtickjpnkoppmgaaGreatDoorBt
set_option linter.all false
set_option maxHeartbeats 20000000
set_option maxRecDepth 100000
namespace Go.Proofs.YtickjpnkoppmgaaGreatDoor
open Go.Proofs.Tryz Go.RowKit K
section
open Go.Sort Go.Shelf
def VT(kind:UInt8)(g i:Nat)(d:LU):LV:=[.int .u8 kind.toNat,g,i,str d]
structure Mt(s:LU)(k:UInt8)(g i n:Nat):Prop where
 len:s.length=512
 k4:s[4]?=some k
 g8:YB ((s.drop 5).take 8) 0=g
 i4:YB ((s.drop 13).take 4) 0=i
 n2:YB ((s.drop 17).take 2) 0=n
 gb:g<=4611686018427387904
 ib:i<=100
 nb:n<=486
structure Xn(w0 w:WD)(b:Nat)(s:LU):Prop where
 a:Qe w (b+1) 188 [str s]
 r:Qe w b 131 [.int .u8 0,(0:Int),(0:Int),.string ⟨#[]⟩]
 k:Qb [] w0 w
 sz:w0.heap.size=b
def Xn.set{w0 w w1:WD}{b:Nat}{s s1:LU}(h:Xn w0 w b s)(hk:Qb [] (w.setCell ⟨b+1,0,none⟩<|.string<|str s1) w1):Xn w0 w1 b s1:=
 ⟨(h.a.set 0 _).kept hk sx,(h.r.kept ((Qc [b+1] w).setCell (p:=⟨b+1,0,none⟩) (.inl sx) _) sx).kept hk sx,(h.k.setCell (.inr (by rw[h.sz];simp)) _).trans hk sx,h.sz⟩
def Xn.kept{w0 w w1:WD}{b:Nat}{s:LU}(h:Xn w0 w b s)(hk:Qb [] w w1):Xn w0 w1 b s:=⟨h.a.kept hk sx,h.r.kept hk sx,h.k.trans hk sx,h.sz⟩
def Xn.sets{w0 w:WD}{b a:Nat}{s:LU}{l:LV}(h:Xn w0 w b s)(d:Qe w a 131 l)(ha:b+1<a)(v0 c v2 v3:VL):
 Qe ((((w.setCell ⟨a,0,none⟩ v0).setCell ⟨a,1,none⟩ c).setCell ⟨a,2,none⟩ v2).setCell ⟨a,3,none⟩ v3) a 131 ((((l.set 0 v0).set 1 c).set 2 v2).set 3 v3)/\Xn w0 ((((w.setCell ⟨a,0,none⟩ v0).setCell ⟨a,1,none⟩ c).setCell ⟨a,2,none⟩ v2).setCell ⟨a,3,none⟩ v3) b s:=
 have hk:Qb [a] w ((((w.setCell ⟨a,0,none⟩ v0).setCell ⟨a,1,none⟩ c).setCell ⟨a,2,none⟩ v2).setCell ⟨a,3,none⟩ v3):=((((Qc [a] w).setCell (p:=a) (.inl sx) _).setCell (p:=⟨a,1,none⟩) (.inl sx) _).setCell (p:=⟨a,2,none⟩) (.inl sx) _).setCell (p:=⟨a,3,none⟩) (.inl sx) _;have hb:w0<=a:=by rw[h.sz];omega
 ⟨(((d.set 0 v0).set 1 c).set 2 v2).set 3 v3,h.a.kept hk zx,h.r.kept hk zx,(((h.k.setCell (.inr hb) _).setCell (.inr hb) _).setCell (.inr hb) _).setCell (.inr hb) _,h.sz⟩
def Xn.one{w0 w:WD}{b a:Nat}{s:LU}{l:LV}(h:Xn w0 w b s)(c:Qe w a 131 l)(ha:b+1<a)(i:Nat)(v:VL):
 Qe (w.setCell ⟨a,i,none⟩ v) a 131 (l.set i v)/\Xn w0 (w.setCell ⟨a,i,none⟩ v) b s:=
 have hk:Qb [a] w (w.setCell ⟨a,i,none⟩ v):=(Qc [a] w).setCell (p:=⟨a,i,none⟩) (.inl sx) _;have hb:w0<=a:=by rw[h.sz];omega
 ⟨c.set i v,h.a.kept hk zx,h.r.kept hk zx,h.k.setCell (.inr hb) _,h.sz⟩
def Xn.o{w0 w:WD}{b:Nat}{s:LU}(h:Xn w0 w b s)(v0 c v2 v3:VL):
 Qe ((((w.setCell ⟨b,0,none⟩ v0).setCell ⟨b,1,none⟩ c).setCell ⟨b,2,none⟩ v2).setCell ⟨b,3,none⟩ v3) b 131 [v0,c,v2,v3]/\Qb [] w0 ((((w.setCell ⟨b,0,none⟩ v0).setCell ⟨b,1,none⟩ c).setCell ⟨b,2,none⟩ v2).setCell ⟨b,3,none⟩ v3):=
 have hb:w0<=b:=by rw[h.sz];exact Qk b
 ⟨(((h.r.set 0 v0).set 1 c).set 2 v2).set 3 v3,(((h.k.setCell (.inr hb) _).setCell (.inr hb) _).setCell (.inr hb) _).setCell (.inr hb) _⟩
def kU{fn:Func}{p u:Tmp}(h:fn.results=#[.cell p 131,.tmp u])(tmps:Array VL)(w:WD){b:Nat}{v0 c v2 v3:VL}(A:Qe w b 131 [v0,c,v2,v3])(hp:tmps.getD p undef=.pointer b):
 (results fn tmps).run prog w=.ok (.tuple #[.agg #[v0,c,v2,v3],tmps.getD u undef]) w:=by
 rw[results_cell_tmp h,hp];simp only[asAddr,Sem.run_pure,Ua];rw[run_loadVar_row w b 131 131 _ _ _ A underlying131 rfl kx];rfl
def Qgx{w0 w:WD}{b:Nat}{s:LU}{k:UInt8}{g i:Nat}(h:Xn w0 w b s)(v0 c v2 v3:VL)(e:[v0,c,v2,v3]=VT k g i []):
 ∃d,Value.pointer w=.pointer (some ⟨d,0,none⟩)/\Hid (Qe (w.alloc<|.cells #[v0,c,v2,v3] 131) d 131<|VT k g i [])/\Hid (Xn w0 (w.alloc<|.cells #[v0,c,v2,v3] 131) b s)/\b+1<d:=
 ⟨_,rfl,Qa<|e▸Qe.newAt w [v0,c,v2,v3] 131 _ rfl,Qa<|h.kept<|(Qc [] w).alloc _,h.a.lt⟩
def Qgy{w0 w:WD}{b a:Nat}{s:LU}{k:UInt8}{g i:Nat}{c d u2 l:VL}(h:Xn w0 w b s)(j:Qe w a 131 [c,d,u2,l])(ha:b+1<a)(v0 c v2 v3:VL)(e:[v0,c,v2,v3]=VT k g i []):
 ∃d,Value.pointer a=.pointer (some ⟨d,0,none⟩)/\Hid (Qe ((((w.setCell ⟨a,0,none⟩ v0).setCell ⟨a,1,none⟩ c).setCell ⟨a,2,none⟩ v2).setCell ⟨a,3,none⟩ v3) d 131<|VT k g i [])/\Hid (Xn w0 ((((w.setCell ⟨a,0,none⟩ v0).setCell ⟨a,1,none⟩ c).setCell ⟨a,2,none⟩ v2).setCell ⟨a,3,none⟩ v3) b s)/\b+1<d:=
 ⟨_,rfl,Qa<|e▸(h.sets j ha v0 c v2 v3).1,Qa (h.sets j ha v0 c v2 v3).2,ha⟩
def kJ(s:LU)(k:UInt8)(g i n:Nat)(w:WD)(h:Mt s k g i n)(ok:Bool)(x4:if ok=true then s.take 4=[75,73,83,84]/\k≠0/\Yn k g i ((s.drop 19).take n)=s else s.take 4≠[75,73,83,84]):
 Calls prog 66 #[str s] w fun e w'=>e=.returned (if ok=true then .tuple #[.agg (VT k g i<|(s.drop 19).take n).toArray,(0:Int)]else .tuple #[.agg #[.int .u8 0,(0:Int),(0:Int),.string ⟨#[]⟩],(200:Int)])/\Qb [] w w':=by
 have hz:(str s).size=512:=h.len;have⟨HH,x0⟩:=qb h x4;have⟨b,hb⟩:=qx w.heap.size;have⟨W,hW⟩:=qx<|((w.alloc<|.cells #[.int .u8 0,(0:Int),(0:Int),""] 131).alloc<|.cells #[str s] 188);have R0:Qe W b 131 [.int .u8 0,(0:Int),(0:Int),""]:=by rw[<-hW,<-hb];exact(Qx _ _ _).alloc _
 have A0:Qe W (b+1) 188 [str s]:=by rw[<-hW,<-hb];exact Qe.newAt _ _ _ _ sx
 have K0:Qb [] w W:=by rw[<-hW];exact((Qc [] w).alloc _).alloc _
 have⟨H0,HT,HN⟩:=qc (show Xn w W b s from⟨A0,R0,K0,hb⟩) (fun(y:LU)(n:Nat) o (A:Xn w o b y)(hn:n<=100000)(hs:y.length<=512)=>(OR (b+1) _ y n o A.a hn ox).mono (R':=fun e w'=>e=.returned (str<|y.take n)/\Xn w w' b (y.drop n)/\Qb [b+1] o w') fun e w' h=>⟨h.1,A.set<|h.2▸Qc _ _,h.2▸(Qc [b+1] o).setCell (p:=⟨b+1,0,none⟩) (.inl sx) _⟩) fun(y:LU)(n:Nat) o (A:Xn w o b y)(hn:n<=8)(hs:y.length<=512) hx=>(kL (b+1) _ y n o A.a hn ox hx).mono (R':=fun e w'=>e=.returned ((YB (y.take n) 0:Nat):Int)/\Xn w w' b (y.drop n)/\Qb [b+1] o w') fun e w' h=>⟨h.1,A.set h.2,((Qc [b+1] o).setCell (p:=⟨b+1,0,none⟩) (.inl sx) _).trans h.2 sx⟩;have hd:∀k,(s.drop k).length<=512:=fun k=>by rw[YN,h.len];omega
 have HD:=Qa hd;have x9:=Qa (fun o (A:Xn w o b (s.drop 5))=>show Calls prog 101 #[.pointer<|some ⟨b+1,0,none⟩,(8:Int)] o fun e w'=>e=.returned (g:Nat)/\Xn w w' b (s.drop 13)/\Qb [b+1] o w' by have:=HN.o _ 8 o A dx (hd 5) (by rw[h.g8];have:=h.gb;omega);rwa[h.g8,Aq]at this);have x8:=Qa (fun o (A:Xn w o b (s.drop 13))=>show Calls prog 101 #[.pointer<|some ⟨b+1,0,none⟩,(4:Int)] o fun e w'=>e=.returned (i:Nat)/\Xn w w' b (s.drop 17)/\Qb [b+1] o w' by have:=HN.o _ 4 o A dx (hd 13) (by rw[h.i4];have:=h.ib;omega);rwa[h.i4,Aq]at this);have h9:=Qa (fun o (A:Xn w o b (s.drop 17))=>show Calls prog 101 #[.pointer<|some ⟨b+1,0,none⟩,(2:Int)] o fun e w'=>e=.returned (n:Nat)/\Xn w w' b (s.drop 19)/\Qb [b+1] o w' by have:=HN.o _ 2 o A dx (hd 17) (by rw[h.n2];have:=h.nb;omega);rwa[h.n2,Aq]at this);have y0:=Qa (fun o (A:Xn w o b (s.drop 4))=>show Calls prog 100 #[.pointer<|some ⟨b+1,0,none⟩,(1:Int)] o fun e w'=>e=.returned (.string<|str [k])/\Xn w w' b (s.drop 5)/\Qb [b+1] o w' by
  have:=HT.o _ 1 o A dx<|hd 4;have e:(s.drop 4).take 1=[k]:=by
   have:=h.k4;cases hs:s.drop 4 with
   |nil=>rw[<-List.head?_drop,hs]at this;simp at this
   |cons x l=>rw[<-List.head?_drop,hs]at this;simp at this;simp[this]
  rwa[e,Aq]at this)
 clear h x4 R0 A0 K0 hd;go_enter func66,ntmps66;go_wp2_with (go_fit(HT.o s 4 _ H0.o dx<|HD.o 0);rintro e w1⟨rfl,h1,-⟩;have H1:=Qa h1;clear h1);have z1:(str [k]).size=1:=rfl;have⟨m,hm⟩:=qx<|s.take 4;have HM:=Qa hm;rw[hm];clear hm hb hW
 go_cut [6]from 22 to 31 (fun x6 wx=>∃a6,x6=.pointer (some ⟨a6,0,none⟩)/\Hid (Qe wx a6 131<|VT k g i [])/\Hid (Xn w wx b<|s.drop 17)/\b+1<a6)
 ·go_region_with (first
   |(go_fit(y0.o _<|H1.o.kept<|by first|exact(Qc [] w1).drew|exact((Qc [] w1).drew).alloc _);rintro e w2⟨rfl,h2,k2⟩;(try have Z2:Qe w2 w1 131 [.int .u8 0,(0:Int),(0:Int),""]:=(Qx w1.drew [.int .u8 0,(0:Int),(0:Int),""] 131).kept k2 (by have:=H1.o.a.lt;simp;omega)))
   |(go_at_call 101;(with_reducible refine(x9.o _<|by first|exact h2|exact h2.kept<|(Qc [] w2).alloc _).mono ?_);rintro e w3⟨rfl,h3,k3⟩;first|have Z3:=Z2.kept k3 (by have:=H1.o.a.lt;simp;omega)|have Z3:=(Qx w2 [.int .u8 0,(0:Int),(0:Int),""] 131).kept k3 (by have:=h2.a.lt;simp;omega)|skip)
   |(go_at_call 101;(with_reducible refine(x8.o _<|by first|exact h3|exact h3.kept<|(Qc [] w3).alloc _).mono ?_);rintro e w4⟨rfl,h4,k4⟩;(first|have Z4:=Z3.kept k4 (by first|(have:=H1.o.a.lt;simp;omega)|(have:=h2.a.lt;simp;omega))|have Z4:=(Qx w3 [.int .u8 0,(0:Int),(0:Int),""] 131).kept k4 (by have:=h3.a.lt;simp;omega)|skip);
     (try (have c0:=Z4.cq 0;have c1:=Z4.cq 1;have c2:=Z4.cq 2;have c3:=Z4.cq 3;have e0:=Z4.free 0;have e1:=Z4.free 1;have e2:=Z4.free 2;have e3:=Z4.free 3)))
   |fail)
  all_goals (
   go_wp2
   go_meet
   first
   |(with_reducible refine Qgx h4 _ _ _ _ ?_)
    rfl
   |(with_reducible refine Qgy h4 Z4 ?_ _ _ _ _ ?_)
    ·first|(have:=h3.a.lt;omega)|(have:=h2.a.lt;omega)|(have:=H1.o.a.lt;omega)
    rfl)
 obtain⟨a6,rfl,y3,x1,hlt⟩:=hcut;have⟨x7,h8⟩:=qb (fun w5 (k5:Qb [b+1] wc w5)=>y3.o.kept k5 zx) hlt;have hn:=HH.o.nb;have y7:(n:Int)<=486:=ox
 have y8:decide ((486:Int)<(n:Nat))=false:=zx
 cases ok with
 |false=>
  have hne:m≠[75,73,83,84]:=by rw[<-HM.o];exact x0.o
  have y4:¬(str m).toList=[75,73,83,84]:=by rw[Xk,XW];exact hne
  have y9:((str m).toList==[75,73,83,84])=false:=by simpa using y4
  go_wp2_with (go_at_call 101;(with_reducible refine(h9.o _ x1.o).mono ?_);rintro e w5⟨rfl,q,k5⟩;have H5:=Qa q;have d0:=q.r.cq 0;have d1:=q.r.cq 1;have d2:=q.r.cq 2;have d3:=q.r.cq 3;have f0:=q.r.free 0;have f1:=q.r.free 1;have f2:=q.r.free 2;have f3:=q.r.free 3;clear q);exact Zj (kU rfl _ _ (H5.o.o _ _ _ _).1 rfl) rfl ⟨rfl,(H5.o.o _ _ _ _).2⟩
 |true=>
  obtain⟨x3,x2,x5⟩:=x0.o;obtain rfl:m=[75,73,83,84]:=by rwa[<-HM.o]
  have y6:(str [75,73,83,84]).toList=[75,73,83,84]:=by rw[Xk,XW]
  have HE:=Qa (fun w'=>show Calls prog 102 #[.int .u8 k.toNat,g,i,str<|(s.drop 19).take n] w' fun e w2=>e=.returned (.tuple #[str s,(0:Int)])/\Qb [] w' w2 by have:=LA k g i ((s.drop 19).take n) w' x2 HH.o.gb (yx HH.o.ib) (by rw[Zd];omega);rwa[x5]at this);clear x3 x2 x5;go_wp2_with (first
   |(go_at_call 101;(with_reducible refine(h9.o _ x1.o).mono ?_);rintro e w5⟨rfl,q,k5⟩;have H5:=Qa q;have Z5:=x7.o w5 k5;have y1:=Qa Z5;have d0:=Z5.cq 0;have d1:=Z5.cq 1;have d2:=Z5.cq 2;have d3:=Z5.cq 3;have f3:=Z5.free 3;clear q Z5 k5)
   |(go_fit(HT.o _ n _ H5.o ox<|HD.o 19);rintro e w6⟨rfl,h6,k6⟩;have Z6:=y1.o.kept k6 (by have:=h8.o;simp;omega);have H6:=Qa h6;have y2:=Qa Z6;have c0:=Z6.cq 0;have c1:=Z6.cq 1;have c2:=Z6.cq 2;have c3:=Z6.cq 3;have e3:=Z6.free 3;clear h6 Z6 k6)
   |(go_fit(HE.o _);rintro e w7⟨rfl,k7⟩;have O:=H6.o.one y2.o h8.o 3<|.string<|str<|(s.drop 19).take n;have Z7:=O.1.kept k7 sx;have h7:=O.2.kept k7;have y5:=Qa Z7;have H7:=Qa h7;have i0:=Z7.cq 0;have i1:=Z7.cq 1;have i2:=Z7.cq 2;have i3:=Z7.cq 3;have j0:=h7.r.cq 0;have j1:=h7.r.cq 1;have j2:=h7.r.cq 2;have j3:=h7.r.cq 3;have f0:=h7.r.free 0;have f1:=h7.r.free 1;have f2:=h7.r.free 2;have f3:=h7.r.free 3;clear O Z7 h7 k7))
  exact Zj (kU rfl _ _ (H7.o.o _ _ _ _).1 rfl) rfl ⟨rfl,(H7.o.o _ _ _ _).2⟩
end
section
open Go.Sort Go.Shelf
structure ZS(w0 w:WD)(B:Nat)(s:LU)(v:VL)(L:List RM):Prop where
 a:Qe w B 188 [str s]
 row:Qm w 69 5 v L.length (Qs Q9 L)
 k:Qb [] w0 w
 b:w0.heap.size<=B
 f:∀x∈Qd v,w0.heap.size<=x/\x≠B
def ZS.set{w0 w w1:WD}{c:Nat}{s s1:LU}{v:VL}{L:List RM}(h:ZS w0 w c s v L)(hk:Qb [] (w.setCell ⟨c,0,none⟩<|.string<|str s1) w1):ZS w0 w1 c s1 v L/\Qb [c] w w1:=by have k1:Qb [c] w w1:=((Qc [c] w).setCell (p:=c) (.inl sx) _).trans hk sx;exact⟨⟨(h.a.set 0 _).kept hk sx,h.row.kept k1 (fun d c=>by simp;exact(h.f d c).2),(h.k.setCell (.inr h.b) _).trans hk sx,h.b,h.f⟩,k1⟩
def ZS.kept{w0 w w1:WD}{c:Nat}{s:LU}{v:VL}{L:List RM}(h:ZS w0 w c s v L)(hk:Qb [] w w1):ZS w0 w1 c s v L:=
 ⟨h.a.kept hk sx,h.row.kept hk fun c c=>sx,h.k.trans hk sx,h.b,h.f⟩
def ZS.num{w0 W:WD}{c:Nat}{v:VL}{L:List RM}(k:Nat)(kk:Int)(d:kk=(k:Nat))(x:Nat)(s:LU)(h:ZS w0 W c (QK k x++s) v L)(hk:k<=4)(i:x<256^k)(g:s.length<=90000):
 Calls prog 101 #[.pointer c,kk] W fun e w'=>e=.returned (x:Nat)/\ZS w0 w' c s v L/\Qb [c] W w':=by
 subst d;have:(QK k x).length=k:=U7 k x;have d:(QK k x++s).take k=QK k x:=by rw[Is ox,Q5 ox]
 have j:(QK k x++s).drop k=s:=by rw[Tf ox,Jq ox];rfl
 have g:YB (QK k x) 0=x:=by rw[Pi,XH i];omega
 have:x<4294967296:=Av i (QS (Ju dx hk) dx);go_fit(kL c _ _ k W h.a ox (by rw[Qo];omega) (by rw[d,g];omega));rintro e w'⟨rfl,c⟩;rw[d,g];rw[j]at c;exact⟨rfl,h.set c⟩
def ZS.take{w0 W:WD}{c:Nat}{v:VL}{L:List RM}(p s:LU)(h:ZS w0 W c (p++s) v L)(hp:p.length<=5000)(d:s.length<=90000):
 Calls prog 100 #[.pointer c,p.length] W fun e w'=>e=.returned (str p)/\ZS w0 w' c s v L/\Qb [c] W w':=by
 go_fit(OR c _ _ p W h.a ox (by rw[Qo];omega));rintro e w'⟨rfl,rfl⟩;have c:(p++s).take p=p:=sx
 have d:(p++s).drop p=s:=sx
 rw[c,d];exact⟨rfl,h.set<|Qc [] _⟩
def ZS.fill{w0 w:WD}{c a:Nat}{s:LU}{v:VL}{L:List RM}(h:ZS w0 w c s v L)(ha:w0.heap.size<=a)(e:a≠c)(hf:a∉Qd v)(d v2 v3 v4:VL):
 ZS w0 ((((w.setCell ⟨a,1,none⟩ d).setCell ⟨a,2,none⟩ v2).setCell ⟨a,3,none⟩ v3).setCell ⟨a,4,none⟩ v4) c s v L:=by
 have hk:Qb [a] w ((((w.setCell ⟨a,1,none⟩ d).setCell ⟨a,2,none⟩ v2).setCell ⟨a,3,none⟩ v3).setCell ⟨a,4,none⟩ v4):=((((Qc [a] w).setCell (p:=⟨a,1,none⟩) (.inl sx) _).setCell (p:=⟨a,2,none⟩) (.inl sx) _).setCell (p:=⟨a,3,none⟩) (.inl sx) _).setCell (p:=⟨a,4,none⟩) (.inl sx) _;exact⟨h.a.kept hk (by simp;exact fun c=>e c.symm),h.row.kept hk (fun d d=>by simp;exact fun c=>hf<|c▸d),(((h.k.setCell (.inr ha) _).setCell (.inr ha) _).setCell (.inr ha) _).setCell (.inr ha) _,h.b,h.f⟩
def ZS.push{w0 w w1:WD}{e g c:Nat}{s:LU}{v:VL}{L:List RM}{m:RM}(h:ZS w0 w e s v L)(j:Qm w1 69 5 (.slice g (L.length+1) c) (L.length+1) (Qs Q9 L++Q9 m))(hk:Qb (Qd v) w w1)(d:g∈Qd v\/w.heap.size<=g):
 ZS w0 w1 e s (.slice g (L.length+1) c) (L++[m]):=by
 have i:Qs Q9 (L++[m])=Qs Q9 L++Q9 m:=by simp[Qs]
 refine⟨h.a.kept hk fun hb=>(h.f e hb).2 rfl,by rwa[i,Qo],h.k.trans hk fun i e=>.inr (h.f i e).1,h.b,fun i e=>?_⟩;obtain rfl:i=g:=by simpa[Qd,qo]using e
 rcases d with d|d
 ·exact h.f _ d
 have:=h.a.lt;have:=h.b;exact⟨ox,ox⟩
def PR(m:RM)(h:UH m):m.path.length<=120/\((m.start.toNat:Nat):Int)=m.start/\((m.eZ.toNat:Nat):Int)=m.eZ/\((m.size.toNat:Nat):Int)=m.size/\((m.sum.toNat:Nat):Int)=m.sum/\m.start.toNat<65536/\m.eZ.toNat<65536/\m.size.toNat<65536/\m.sum.toNat<4294967296:=by have c:=(XU h.ok).2.2;have:=h.st;have:=h.sz;have:=h.sm;refine⟨c,?_⟩;omega
def lC(l:List RM)(n:Nat)(w:WD)(hn:l.length=n)(hl:n<=600)(y4:∀m∈l,UH m):
 Calls prog 99 #[str<|l.flatMap Xi] w fun e w'=>∃v,e=.returned (.tuple #[v,(0:Int)])/\Qm w' 69 5 v n (Qs Q9 l)/\Qb [] w w'/\∀x∈Qd v,w.heap.size<=x:=by
 have⟨x8,HN⟩:=qb y4 hn;have y2:∀l':List RM,(∀m∈l',UH m)->(l'.flatMap Xi).length<=131*l'.length:=fun l' h=>by
  induction l' with
  |nil=>simp
  |cons m l' ih=>have h1:=Lj m (PR m<|h m sx).1;have h2:=ih (fun x q=>h x<|by simp[q]);simp only[Jd,Qo,QW];omega
 have y7:=Qa y2;have⟨W,hW⟩:=qx<|w.alloc<|.cells #[str<|l.flatMap Xi] 188;have H0:Hid (ZS w W w (l.flatMap Xi) () []):=Qa<|hW▸⟨Qe.newAt _ _ _ _ rfl,Qm.nil _ _ _,(Qc [] w).alloc _,Qk _,fun x q=>by simp[Qd,qo]at q⟩;have⟨B,hB⟩:=qx w.heap.size;rw[hB]at H0;clear y4 hn y2;go_enter func99,ntmps99
 go_wp2
 go_loopg [4] n (fun k x4 wr=>∃i:Nat,i<=n/\k=n-i/\Hid (ZS w wr B ((l.drop i).flatMap Xi) x4<|l.take i))
 ·exact⟨0,ox,ox,by simpa using H0⟩
 obtain⟨i,hi,hk,HS⟩:=hrel
 by_cases hlt:i<n
 ·have⟨m,hm⟩:=qy l i (yx HN.o);have x5:=x8.o m<|QB hm;have hD:l.drop i=m::l.drop (i+1):=by obtain⟨h1,h2⟩:=Qy.1 hm;rw[Xf h1,h2]
  have⟨R,hR⟩:=qx<|(l.drop<|i+1).flatMap Xi;have p5:R.length<=80000:=by have:=y7.o (l.drop<|i+1) fun x q=>x8.o x<|MD q;rw[hR,YN]at this;have:=HN.o;omega
  have hL:(l.take i).length=i:=by rw[Zd];have:=HN.o;omega
  have h0:=HS.o;rw[hD,Jd,hR]at h0;obtain⟨q1,q2,q3,q4,q5,q6,q7,q8,q9⟩:=PR m x5;have⟨y,y3⟩:=qx m.path.length;have z0:=h0.a.cq 0;have hz:¬(str<|Xi m++R).toList=[]:=by rw[Xk,XW];simp[Xi,QK]
  have p3:(str<|Xi m++R).toList.isEmpty=false:=by rw[Xk,XW];simp[Xi,QK]
  have y6:∀k∈Qd u4,k<wr.heap.size:=h0.row.lt;have⟨p4,y8⟩:=qb y6 h0;obtain⟨T5,x3⟩:∃T,QK 4 m.sum.toNat++R=T:=⟨_,rfl⟩;obtain⟨T4,x2⟩:∃T,QK 2 m.size.toNat++T5=T:=⟨_,rfl⟩;obtain⟨T3,x1⟩:∃T,QK 2 m.eZ.toNat++T4=T:=⟨_,rfl⟩;obtain⟨T2,x0⟩:∃T,QK 2 m.start.toNat++T3=T:=⟨_,rfl⟩;obtain⟨T1,h9⟩:∃T,m.path++T2=T:=⟨_,rfl⟩;have y0:Xi m++R=QK 1 y++T1:=by rw[<-h9,<-x0,<-x1,<-x2,<-x3,<-y3];simp[Xi]
  have l5:T5.length=R.length+4:=by rw[<-x3,Qo,U7];omega
  have l4:T4.length=R.length+6:=by rw[<-x2,Qo,U7];omega
  have l3:T3.length=R.length+8:=by rw[<-x1,Qo,U7];omega
  have l2:T2.length=R.length+10:=by rw[<-x0,Qo,U7];omega
  have l1:T1.length=R.length+10+y:=by rw[<-h9,Qo];omega
  have⟨Z,hZ⟩:=qx<|(str T1).size;have p6:¬((Z:Int)<y+10):=by have:Z=T1:=hZ.symm.trans rfl;omega
  have wl:IntKind.i64.wrap ((y:Int)+10)=(y:Int)+10:=by rw[Zq];omega
  have wu:IntKind.u32.wrap m.sum=m.sum:=by rw[IntKind.wrap_u32];omega
  have⟨H1,H2,H3,H4,H5,H6⟩:=qf (fun W (h:ZS w W B (Xi m++R) u4 (l.take i))=>ZS.num 1 1 rfl y T1 (y0▸h) dx ox ox) (fun W (h:ZS w W B T1 u4 (l.take i))=>show Calls prog 100 #[.pointer<|some ⟨B,0,none⟩,.int .i64 (y:Nat)] W fun e w'=>e=.returned (.string<|str m.path)/\ZS w w' B T2 u4 (l.take i)/\Qb [B] W w' from y3▸ZS.take m.path T2 (h9▸h) ox ox) (fun W (h:ZS w W B T2 u4 (l.take i))=>ZS.num 2 2 rfl m.start.toNat T3 (x0▸h) dx ox ox) (fun W (h:ZS w W B T3 u4 (l.take i))=>ZS.num 2 2 rfl m.eZ.toNat T4 (x1▸h) dx ox ox) (fun W (h:ZS w W B T4 u4 (l.take i))=>ZS.num 2 2 rfl m.size.toNat T5 (x2▸h) dx ox ox) (fun W (h:ZS w W B T5 u4 (l.take i))=>ZS.num 4 4 rfl m.sum.toNat R (x3▸h) dx ox ox);rw[q2]at H3;rw[q3]at H4;rw[q4]at H5;rw[q5]at H6;have HC:=Qa fun W=>PJ m W x5;have L1:(l.take i).length+1<=maxLen:=by simp only[maxLen];omega
  have L2:((l.take i).length+1)*48<=140737488355328:=ox
  have HT:=Qa (by rw[Zh,hm];rfl:l.take (i+1)=l.take i++[m]);unfold Vg at HC;clear h0 hD y6 y0 h9 x0 x1 x2 x3 q2 q3 q4 q5 x5;go_wp2_with (first
   |(go_at_call 101;(with_reducible refine(H1.o _ y8.o).mono ?_);rintro e w1⟨rfl,h1,k1⟩;have y1:=h1.a.cq 0;have y9:=Qa h1;clear h1)
   |(go_at_call 100;(with_reducible refine(H2.o _ y9.o).mono ?_);rintro e w2⟨rfl,h2,k2⟩;have h8:=Qa h2;have z1:=Qa<|h2.kept<|(Qc [] w2).alloc<|.cells #[.string<|str m.path,(0:Int),(0:Int),(0:Int),.int .u32 0] 69;have X2:=Qa<|Qx w2 [.string<|str m.path,(0:Int),(0:Int),(0:Int),.int .u32 0] 69;clear h2)
   |(go_at_call 101;(with_reducible refine(H3.o _ z1.o).mono ?_);rintro e w3⟨rfl,h3,k3⟩;have z6:=Qa h3;have X3:=Qa<|X2.o.kept k3 (by have:=h8.o.a.lt;simp;omega);clear h3)
   |(go_at_call 101;(with_reducible refine(H4.o _ z6.o).mono ?_);rintro e w4⟨rfl,h4,k4⟩;have z7:=Qa h4;have X4:=Qa<|X3.o.kept k4 (by have:=h8.o.a.lt;simp;omega);clear h4)
   |(go_at_call 101;(with_reducible refine(H5.o _ z7.o).mono ?_);rintro e w5⟨rfl,h5,k5⟩;have z8:=Qa h5;have X5:=Qa<|X4.o.kept k5 (by have:=h8.o.a.lt;simp;omega);clear h5)
   |(go_at_call 101;(with_reducible refine(H6.o _ z8.o).mono ?_);rintro e w6⟨rfl,h6,k6⟩;have p0:=Qa h6;have o:=X5.o.kept k6 (by have:=h8.o.a.lt;simp;omega);have X6:=Qa o;have c0:=o.cq 0;have c1:=o.cq 1;have c2:=o.cq 2;have c3:=o.cq 3;have c4:=o.cq 4;have f1:=o.free 1;have f2:=o.free 2;have f3:=o.free 3;have f4:=o.free 4;clear h6 o)
   |(go_at_call 71;(go_fit(HC.o _));rintro e w7⟨rfl,k7⟩;have x7:=((((X6.o.set 1<|.int .i64 m.start).set 2<|.int .i64 m.eZ).set 3<|.int .i64 m.size).set 4<|.int .u32 m.sum).kept k7 sx;have d0:=x7.cq 0;have d1:=x7.cq 1;have d2:=x7.cq 2;have d3:=x7.cq 3;have d4:=x7.cq 4;have x9:=Qa<|(p0.o.fill (a:=w2.heap.size) (wx h8.o.a.lt h8.o.b) (yx h8.o.a.lt) (fun q=>absurd (h8.o.row.lt _ q)<|CE _) (.int .i64 m.start) (.int .i64 m.eZ) (.int .i64 m.size)<|.int .u32 m.sum).kept k7;clear x7 k7)
   |(at_builtin;(refine Rr w7 rfl _ _ 38 rfl 69 (.agg #["",(0:Int),(0:Int),(0:Int),.int .u32 0]) 5 48 Gj Nf rfl dx u4 (l.take i).length _ (Q9 m) rfl rfl rfl rfl (KG _) x9.o.row L1 L2 ?_;intro g8 c8 w8 y5 p2 p1)))
  go_roundg (n-(i+1))
  ·have P:=x9.o.push (m:=m) (by rw[hL];rwa[hL]at y5) p2 p1;rw[hL]at P;exact⟨i+1,ox,rfl,Qa (by rw[HT.o,hR];exact P)⟩
  omega
 obtain rfl:i=n:=ox
 have h0:=HS.o;rw[Jq (yx HN.o),Q5 (yx HN.o)]at h0;have z0:=h0.a.cq 0;have p3:(str ([]:LU)).toList.isEmpty=true:=by rw[Xk,XW];rfl
 have p7:(str ([]:LU)).toList=[]:=by rw[Xk,XW]
 go_wp2
 go_ret2;exact⟨_,rfl,HN.o▸h0.row,h0.k,fun x q=>(h0.f x q).1⟩
end
section
open Go.Sort Go.Shelf
def Qg8(k:UInt8)(g i:Nat)(d:LU):∃z,Yn k g i d=[75,73,83,84]++([k]++(QK 8 g++(QK 4 i++(QK 2 d.length++(d++z))))):=by unfold Yn;refine⟨Q3 (489-d.length)++QK 4 (YJ<|[75,73,83,84]++([k]++(QK 8 g++(QK 4 i++(QK 2 d.length++(d++Q3 (489-d.length))))))).toNat,?_⟩;simp only[QR]
def Pj(k x:Nat)(h:x<256^k):YB (QK k x) 0=x:=by rw[Pi,XH h];omega
def Gy{a b:LU}{n:Nat}(h:a.length=n):(a++b).take n=a/\(a++b).drop n=b:=by subst h;simp
def Qby(k:UInt8)(g i:Nat)(d:LU)(v:g<=4611686018427387904)(hi:i<=100)(u:d.length<=486):
 Mt (Yn k g i d) k g i d.length/\(Yn k g i d).take 4=[75,73,83,84]/\((Yn k g i d).drop 19).take d.length=d:=by
 have p:=Lz k g i d ox;obtain⟨c,hz⟩:=Qg8 k g i d;rw[hz]at p ⊢;have s:=Gy (a:=[75,73,83,84]) (b:=[k]++(QK 8 g++(QK 4 i++(QK 2 d.length++(d++c))))) (n:=4) rfl;have j:([75,73,83,84]++([k]++(QK 8 g++(QK 4 i++(QK 2 d.length++(d++c)))))).drop 5=QK 8 g++(QK 4 i++(QK 2 d.length++(d++c))):=rfl;have o:=Gy (a:=QK 8 g) (b:=QK 4 i++(QK 2 d.length++(d++c)))<|U7 8 g;have m:=Gy (a:=QK 4 i) (b:=QK 2 d.length++(d++c))<|U7 4 i;have l:=Gy (a:=QK 2 d) (b:=d++c)<|U7 2 d;have t:=Gy (a:=d) (b:=c) rfl;have e:([75,73,83,84]++([k]++(QK 8 g++(QK 4 i++(QK 2 d.length++(d++c)))))).drop 13=QK 4 i++(QK 2 d.length++(d++c)):=by rw[show(13:Nat)=5+8 from rfl,<-Aq,j,o.2]
 have h:([75,73,83,84]++([k]++(QK 8 g++(QK 4 i++(QK 2 d.length++(d++c)))))).drop 17=QK 2 d.length++(d++c):=by rw[show(17:Nat)=13+4 from rfl,<-Aq,e,m.2]
 have q:([75,73,83,84]++([k]++(QK 8 g++(QK 4 i++(QK 2 d.length++(d++c)))))).drop 19=d++c:=by rw[show(19:Nat)=17+2 from rfl,<-Aq,h,l.2]
 refine⟨⟨p,rfl,?_,?_,?_,v,hi,u⟩,s.1,?_⟩
 ·rw[j,o.1,Pj 8 g ox]
 ·rw[e,m.1,Pj 4 i ox]
 ·rw[h,l.1,Pj 2 d.length ox]
 rw[q,t.1]
def eK:Mt (Q3 512) 0 0 0 0/\(Q3 512).take 4≠[75,73,83,84]:=
 ⟨⟨by rfl,by rfl,by rfl,by rfl,by rfl,dx,dx,dx⟩,fun c=>absurd (Qt List.head? c) dx⟩
def Lw(k:UInt8)(g i:Nat)(d:LU)(w:WD)(hk:k≠0)(m:g<=4611686018427387904)(hi:i<=100)(l:d.length<=486):
 Calls prog 66 #[str<|Yn k g i d] w (RK (.tuple #[.agg (VT k g i d).toArray,(0:Int)]) w):=by
 obtain⟨h,j,c⟩:=Qby k g i d m hi l;have:=kJ _ k g i d w h true (by rw[c];simpa[j]using hk);rw[c]at this;simpa using this
def kK(w:WD):
 Calls prog 66 #[str<|Q3 512] w (RK (.tuple #[.agg #[.int .u8 0,(0:Int),(0:Int),.string ⟨#[]⟩],(200:Int)]) w):=by
 have:=kJ _ 0 0 0 0 w eK.1 false (by simpa using eK.2);simpa using this
end
section
open Go.Sort Go.Shelf
def wG(b h c:Nat)(L:LY)(w:WD)(hs:Qp w 1 (some ⟨b,h,none⟩) 5 (strs L))(h0:L[0]?=some (Q3 512)):
 Calls prog 64 #[.slice (some ⟨b,h,none⟩) 5 c] w (RK (.tuple #[(0:Int),.slice none 0 0,(230:Int)]) w):=by
 have i:=Qa fun d=>kK d;have⟨d,hz⟩:=qx<|Q3 512;rw[hz]at i h0;obtain⟨g,l⟩:=hs;obtain⟨j,j,m,j⟩:=l 0 (.string<|str d) (by rw[Fz h0]);cases m;have c0:w.cell? ⟨b,h,none⟩=some (.string<|str d):=by simpa using j
 go_enter func64,ntmps64
 go_wp2
 go_loopg [19] 5 (fun k d wr=>k=5/\d=.int .i64 0/\w=wr)
 ·exact⟨rfl,rfl,rfl⟩
 obtain⟨rfl,rfl,rfl⟩:=hrel;go_wp2_with (go_fit(i.o _);rintro e d⟨rfl,g⟩)
 go_ret3
 exact⟨rfl,g.alloc _⟩
def yY(z0 c z2 z3 z4:BA)(W:WD):
 (binOp .neq 183 (.agg #[z0,c,z2,z3,z4])<|.agg #[z0,c,z2,z3,z4]).run prog W=.ok (.bool false) W:=by
 obtain⟨e,hi⟩:∃e,prog.info? 9=some e:=Option.isSome_iff_exists.1 kx;have g:prog.cellsOf 9=1:=kx
 rw[run_neq_struct,run_equalIn_array (d:=9999) (i:=e) (hu:=Wu) (hi:=hi),g];have g:∀(e:BA)(W:WD),(Op.equalIn 9999 9 (.string e)<|.string e).run prog W=.ok true W:=fun e W=>by rw[run_equalIn_string (d:=9998) (h:=Yw)];simp
 have e:List.range 5=[0,1,2,3,4]:=rfl;rw[e];have e:prog.plainKey 9=true:=kx
 have i:=fun W=>LL (P:=prog) W e (xs:=#[.string z0,.string c,.string z2,.string z3,.string z4]) (off:=0) (v:=.string z0) rfl
 have j:=fun W=>LL (P:=prog) W e (xs:=#[.string z0,.string c,.string z2,.string z3,.string z4]) (off:=1) (v:=.string c) rfl
 have l:=fun W=>LL (P:=prog) W e (xs:=#[.string z0,.string c,.string z2,.string z3,.string z4]) (off:=2) (v:=.string z2) rfl
 have m:=fun W=>LL (P:=prog) W e (xs:=#[.string z0,.string c,.string z2,.string z3,.string z4]) (off:=3) (v:=.string z3) rfl
 have n:=fun W=>LL (P:=prog) W e (xs:=#[.string z0,.string c,.string z2,.string z3,.string z4]) (off:=4) (v:=.string z4) rfl
 simp only[Op.eqItems,Sem.run_bind,RW,i,j,l,m,n,g,Ua,Bool.not_true,Hz,CX,Sem.run_pure]
def wH(gen:Nat)(l:List RM)(b o c:Nat)(w:WD)(hB:Yt w)(hs:Qp w 1 (some ⟨b,o,none⟩) 5 (strs<|Yp gen l))(hg:gen<=4611686018427387904)(x0:∀m∈l,UH m)(hr:Uv l)(hl:l.length<=16)(hx:ZZ 4096 (l.map fun m=>(m.start,m.eZ))=true):
 Calls prog 64 #[.slice (some ⟨b,o,none⟩) 5 c] w fun e w'=>∃v,e=.returned (.tuple #[gen,v,(0:Int)])/\Qm w' 69 5 v l.length (Qs Q9 l)/\Qb [] w w'/\∀x∈Qd v,w.heap.size<=x:=by
 have⟨B,h9⟩:=qx<|l.flatMap Xi;have HB:=Qa h9;have z6:B.length<=2430:=by
  have h:∀l':List RM,(∀m∈l',UH m)->(l'.flatMap Xi).length<=131*l'.length:=fun l' h=>by
   induction l' with
   |nil=>simp
   |cons m l' ih=>have q:=Lj m (PR m<|h m<|by simp).1;have h2:=ih (fun x hx=>h x<|by simp[hx]);simp only[Jd,Qo,QW];omega
  have:=h l x0;rw[h9]at this;omega
 have⟨HD,HM,HE⟩:=qc (fun i (hi:i<5) W=>Lw 4 gen i ((B.drop<|486*i).take 486) W dx hg ox (by rw[Zd];omega)) (fun W=>h9▸lC l l W rfl ox x0) fun v W (h:J6 W v l)(hb:Yt W)=>bA v l gen W h hb hg x0 hr hl hx;have hc:∀i,i<5->w.cell? ⟨b,o+i,none⟩=some (.string<|str<|Yn 4 gen i<|(B.drop<|486*i).take 486):=fun i hi=>by obtain⟨q,h2⟩:=hs;obtain⟨b',o',e1,e2⟩:=h2 i _ (by rw[strs,Zz,Yp,h9,LW gen 5 0 B i hi];rfl);cases e1;simpa using e2
 have⟨HC,HS,y3⟩:=qc hc hs hB;clear hs hc x0 hr hx hB;go_enter func64,ntmps64
 go_wp2
 go_loopg [5,6,19] 5 (fun k x5 x6 y7 wr=>∃i X:Nat,i<=5/\k=5-i/\y7=.int .i64 (i:Nat)/\x5=.int .i64 (X:Nat)/\x6=.string (str<|B.take<|486*i)/\Hid (X=if i=0 then 0 else gen)/\Hid (Qb [] w wr))
 ·exact⟨0,0,ox,rfl,rfl,rfl,rfl,Qa rfl,Qa<|Qc [] w⟩
 obtain⟨i,X,hi,hk,rfl,rfl,rfl,HX,HK⟩:=hrel
 by_cases hlt:i<5
 ·have g0:(i:Int)<5:=ox
  have c0:=HK.o.cZ<|HC.o i hlt;have⟨D,hD⟩:=qx<|(B.drop<|486*i).take 486;have h8:=Qa fun W=>HD.o i hlt W;rw[hD]at c0 h8;have y5:str (B.take<|486*i)++str D=str (B.take<|486*(i+1)):=by rw[<-hD,Sl,(ox:486*(i+1)=486*i+486),List.take_add]
  have⟨T,hT⟩:=qx<|str<|B.take<|486*i;have⟨z,hz⟩:=qx<|Yn 4 gen i D;rw[hz]at c0 h8;have sT:T.size<=2430:=by rw[<-hT];show(B.take _).length<=_;rw[Zd];omega
  have sD:(str D).size<=486:=by show D.length<=_;rw[<-hD,Zd];omega
  have z7:T.size+(str D).size<=2916:=ox
  rw[hT]at y5 ⊢;clear hD hz hT
  by_cases h0:i=0
  ·subst h0;have c1:wr.cell? ⟨b,o,none⟩=some (.string<|str z):=(by simpa using c0);clear c0;go_wp2_with (go_fit(h8.o _);rintro e w1⟨rfl,q⟩;unfold VT;have x1:=Qa (HK.o.trans q<|by simp);clear q)
   go_roundg 4
   ·exact⟨1,gen,ox,rfl,rfl,rfl,by simp,Qa rfl,Qa<|x1.o.alloc _⟩
   omega
  have g1:¬(i:Int)=0:=ox
  obtain rfl:X=gen:=by rw[HX.o,Qf h0]
  go_wp2_with (go_fit(h8.o _);rintro e w1⟨rfl,q⟩;unfold VT;have x1:=Qa (HK.o.trans q<|by simp);clear q)
  go_roundg (5-(i+1))
  ·exact⟨i+1,X,ox,rfl,by go_num,rfl,rfl,Qa<|by simp,Qa<|x1.o.alloc _⟩
  omega
 obtain rfl:i=5:=ox
 have e5:B.take (486*5)=B:=Q5 ox;rw[e5];obtain rfl:X=gen:=by simpa using HX.o
 go_wp2_with (first
  |(go_fit(HM.o _);rintro e w1⟨v,rfl,x4,x2,y2⟩;have y0:=y3.o.kept (HK.o.trans x2<|by simp)<|by simp)
  |(go_fit(HE.o v _ x4.memA y0);rintro e w2⟨v2,rfl,x7,x3,y6⟩))
 have x9:(strs<|Yp X l).length=5:=by rw[strs,QH,Un]
 have h3:∀i,i<5->∃z,(strs<|Yp X l)[i]?=some (.string<|str z)/\w.cell? ⟨b,o+i,none⟩=some (.string<|str z):=fun i hi=>by refine⟨_,?_,HC.o i hi⟩;rw[strs,Zz,Yp,HB.o,LW X 5 0 B i hi];simp
 obtain⟨g2,x8,rfl,y1,y4,h4⟩:=x7.open ox;rw[x9]at y1 x7 ⊢;obtain⟨z0,a0,b0⟩:=h3 0 dx;obtain⟨z1,a1,b1⟩:=h3 1 dx;obtain⟨z2,a2,b2⟩:=h3 2 dx;obtain⟨z3,a3,b3⟩:=h3 3 dx;obtain⟨z4,a4,b4⟩:=h3 4 dx;have y:=(HK.o.trans x2<|by simp).trans x3 (by simp);have b0:w2.cell? ⟨b,o,none⟩=some (.string<|str z0):=by simpa using y.cZ b0 (by simp)
 have b1:=y.cZ b1 (by simp);have b2:=y.cZ b2 (by simp);have b3:=y.cZ b3 (by simp);have b4:=y.cZ b4 (by simp);have d0:=h4.1 0 _ a0;have d1:=h4.1 1 _ a1;have d2:=h4.1 2 _ a2;have d3:=h4.1 3 _ a3;have d4:=h4.1 4 _ a4;have HO:=Qa (show Qm w2 69 5 v l (Qs Q9 l)/\Qb [] w w2/\∀x∈Qd v,w.heap.size<=x from⟨x4.kept x3<|Zy _,y,fun x hx=>QS (HK.o).size<|y2 x hx⟩);clear a0 a1 a2 a3 a4 h4 h3 x7 x4 x2 x3 y y2 y6 y1 y4 x9 y0;have y8:∀w,(Instr.arrayAt 183<|.slice g2 5 x8).run prog w=.ok (.pointer g2) w:=fun w=>run_arrayAt w 183 _ 5 _ 5 x8 Wu<|Qk 5
 have y9:∀w,(Instr.arrayAt 183<|.slice (some ⟨b,o,none⟩) 5 c).run prog w=.ok (.pointer<|some ⟨b,o,none⟩) w:=fun w=>run_arrayAt w 183 _ 5 _ 5 c Wu<|Qk 5
 have h5:=fun W=>yY (str z0) (str z1) (str z2) (str z3) (str z4) W
 go_region
 go_wp2
 go_ret3
 exact⟨v,rfl,HO.o.1.drew,HO.o.2.1.drew,HO.o.2.2⟩
end
def eY{m:RM}:∀{l:List RM},Uv l->((∃x∈l,x.path=m.path)->(UO m l).length=l.length)/\((∀x∈l,x.path≠m.path)->(UO m l).length=l.length+1)
 | [],_=>⟨fun⟨x,h,_⟩=>(EC h).elim,fun _=>rfl⟩
 |f::r,h=>by
  obtain⟨h1,h2⟩:=Vo.1 h;obtain⟨i1,i2⟩:=eY (m:=m) h2;show(_->(XT RM.path m<|f::r).length=_)/\(_->(XT RM.path m<|f::r).length=_);rw[XT]
  split
  ·rename_i q;refine⟨fun⟨x,o,e⟩=>?_,fun _=>rfl⟩;rcases QD.1 o with rfl|o
   ·exact absurd e.symm<|Da q
   exact absurd e.symm<|Da<|EW q<|h1 x o
  split
  ·rename_i q;exact⟨fun _=>rfl,fun h=>absurd (DM q).symm<|h f<|Yv ..⟩
  rename_i h3 y;refine⟨fun⟨x,o,e⟩=>?_,fun h=>?_⟩
  ·rcases QD.1 o with rfl|o
   ·rw[e,CQ]at y;exact absurd rfl y
   rw[QW,QW];exact Qt (· +1)<|i1 ⟨x,o,e⟩
  rw[QW,QW];exact Qt (· +1)<|i2 fun x o=>h x<|XO _ o
def jI{s:Vst}{c:LU->LU}(h:Vok s c){n:LN}(m:IB s n)(a need:Nat)(g:1<=need)(d:a+need<=s.dev.cap):(∀j,a<=j->j<a+need->n[j]?=some 0)↔UA s.exts a need:=by
 constructor
 ·rintro l d i;obtain⟨d,e,rfl⟩:=QA.1 i;obtain⟨i,i2,i3⟩:=h.inX e;refine Classical.byContradiction fun g=>?_
  have h:(ZW d).1=d.start:=rfl;have i:(ZW d).2=d.eZ:=rfl;rw[h,i]at g;have hz:=l (max a d.start.toNat) ox ox;exact(m.2 _ 0 hz).2 ⟨d,e,ox,ox⟩ rfl
 intro l j o o;have o:j<n:=by rw[m.1];omega
 rw[Qj o];refine Qt some<|Classical.byContradiction fun g=>?_;obtain⟨d,e,g1,n⟩:=(m.2 j _<|Qj o).1 g;have:=l (ZW d)<|JA e;have h:(ZW d).1=d.start:=rfl;have i:(ZW d).2=d.eZ:=rfl;rw[h,i]at this;omega
def Qla{s:Vst}{c:LU->LU}(e:Vok s c)(f:QC):
 (Xr f.1=false->(s.put [f]).1=140)/\(Xr f.1=true->(8192<f.2.length->(s.put [f]).1=3)/\(¬8192<f.2.length->
  ((∀x∈s.mem,x.path≠f.1)/\16<=s.mem.length->(s.put [f]).1=241)/\
  (¬((∀x∈s.mem,x.path≠f.1)/\16<=s.mem.length)->∀(i:LN)(r:Int),IB s i->IH i (ZG f) r->(s.put [f]).1=if r<0 then 220 else 0))):=by
 have l:(30:Int)<=s.dev.cap:=yx e.pZ
 unfold Vst.put Vst.bad;refine⟨fun d=>by rw[Qg d];rfl,fun d=>?_⟩;simp only[d,CX,Bool.true_eq_false];refine⟨fun g=>by simp only[Qg g];rfl,fun g=>?_⟩;simp only[Qf g];have h:Q8 s.mem ([f].map fun f=>Vst.noteF (f,(0,0)))=UO (Vst.noteF (f,(0,0))).2 s.mem:=rfl;have j:(Vst.noteF (f,((0:Int),(0:Int)))).2.path=f.1:=rfl;have g:=eY (m:=(Vst.noteF (f,(0,0))).2) e.rise;rw[j,<-h]at g;have:=e.few;have z0:Vst.bad []=0:=rfl;rw[z0,Qf dx,Qf sx];refine⟨fun j=>?_,fun j i r h o=>?_⟩
 ·rw[Qg (by rw[g.2 j.1];omega)]
 rw[Qf (by
  by_cases hh:∃x∈s.mem,x.path=f.1
  ·rw[g.1 hh];omega
  have n:∀x∈s.mem,x.path≠f.1:=fun x q p=>hh ⟨x,q,p⟩
  rw[g.2 n];have:¬16<=s.mem.length:=fun g=>j ⟨n,g⟩
  omega)]
 obtain⟨g,n2,g⟩:=Vz (f:=f) (XU d).2.2 ox;have g:∀{a:Nat},a+ZG f<=i->a+ZG f<=s.dev.cap:=fun d=>by rwa[h.1]at d
 have d:Vst.alloc s.dev.cap s.exts [f]=(YR s.dev.cap s.exts<|ZG f).map fun a=>[(f,(a,(ZG f:Int)))]:=by unfold Vst.alloc;cases YR (↑s.dev.cap) s.exts ↑(ZG f)<;>rfl
 rw[d];cases hf:YR s.dev.cap s.exts (ZG f)with
 |none=>
  have i:=dF ox l e.ext hf;rcases o with⟨rfl,-⟩|⟨a,rfl,d,a2,a3⟩
  ·rfl
  exact absurd ((jI e h a _ ox<|g a2).1 a3)<|i a ox (yx (g a2))
 |some t=>
  obtain⟨-,g,t2,t3,-⟩:=GD ox l hf;rcases o with⟨rfl,g⟩|⟨a,rfl,d,a2,a3⟩
  ·have d:((t.toNat:Nat):Int)=t:=ox;obtain⟨i,j,l,n⟩:=g t.toNat ox (by rw[h.1];omega);exact absurd ((jI e h t.toNat _ ox ox).2 (by rwa[d]) i j l) n
  show(0:Int)=_;rw[Qf ox]
def yM(s:Vst)(p:LU):(s.del p).1=(s.find p).1:=by
 unfold Vst.del
 split
 ·rfl
 rename_i h;exact(Decidable.not_not.1 h).symm
def zS{s:Vst}{c:LU->LU}(h:Vok s c)(p:LU):
 ((∃m∈s.mem,m.path=p)->Xr p=true/\(s.find p).1=0)/\((∀m∈s.mem,m.path≠p)->(s.find p).1=if Xr p=true then 240 else 140):=by
 unfold Vst.find;refine⟨fun⟨m,d,e⟩=>?_,fun g=>?_⟩
 ·have hk:Xr p=true:=e▸(h.mems m d).ok;refine⟨hk,?_⟩;rw[Qf (by rw[hk];decide)];cases hf:s.mem.find? (fun m=>m.path==p)with
  |none=>exact absurd (by simpa using e)<|Eu.1 hf m d
  |some x=>rfl
 cases hk:Xr p with
 |false=>rfl
 |true=>rw[Qf dx,Qg rfl,Eu.2 fun m d=>by simpa using g m d]
section
open Go.Sort Go.Shelf
def qN(w:WD)(F:List QC)(p:LU)(e:Ending)(w':WD):Prop:=(∃(c:BA)(b:Bool),e=.returned (.tuple #[c,.bool b])/\(b=true↔∃f∈F,f.1=p))/\Qb [] w w'
def eG(mv:VL)(F:List QC)(p:LU)(w:WD)(h:UZ w mv F)(hl:F.length<=1000):
 Calls prog 16 #[.agg #[mv],str p] w (qN w F p):=by
 obtain⟨ao,c0,rfl,hs⟩:=h;have⟨n,hn⟩:=qx F.length;rw[hn]at hs hl ⊢;have⟨HS,HN⟩:=qb hs hn;have A:=Qx w [.slice ao n c0] 32;have K0:=(Qc [] w).alloc<|.cells #[.slice ao n c0] 32;have⟨W,hW⟩:=qx<|w.alloc<|.cells #[.slice ao n c0] 32;change Qe (w.alloc<|.cells #[.slice ao n c0] 32) _ _ _ at A;rw[hW]at A K0;have c2:=A.cq 0 (u:=.slice ao n c0);have HK:=Qa K0;clear hs hn A K0;go_enter func16,ntmps16
 go_wp2
 go_loopg [6] n (fun k x6 wr=>(∃i:Nat,i<=n/\k=n-i/\x6=.int .i64 (i:Nat)/\Hid (∀f∈F.take i,f.1≠p))/\wr=W)
 ·exact⟨⟨0,ox,ox,rfl,Qa sx⟩,rfl⟩
 obtain⟨⟨i,hi,hk,rfl,HI⟩,rfl⟩:=hrel
 by_cases hlt:i<n
 ·have q0:(i:Int)<n:=ox
  have⟨f,hf⟩:=qy F i (yx HN.o);obtain⟨g,off,rfl,y0,y1⟩:=Cd (HS.o.kZ HK.o) hf
  by_cases q:f.1=p
  ·have t1:((str f.1).toList==(str p).toList)=true:=(by rw[q];simp);have HF:=Qa<|Qr (QB hf) q;clear hf q
   go_wp2
   go_ret2;exact⟨⟨_,true,rfl,fun _=>⟨f,HF.o.1,HF.o.2⟩,fun _=>rfl⟩,HK.o⟩
  have t1:((str f.1).toList==(str p).toList)=false:=by rw[Xk,Xk,XW,XW];simpa using q
  have HT:=Qa (show ∀f∈F.take (i+1),f.1≠p from fun y o=>by
   rw[Zh,hf]at o;rcases Q4.1 o with o|o
   ·exact HI.o y o
   simp at o;subst o;exact q)
  clear hf q
  go_wp2
  go_roundg (n-(i+1))
  ·exact⟨⟨i+1,ox,rfl,by go_num,HT⟩,rfl⟩
  omega
 obtain rfl:n=i:=ox
 have q0:¬(n:Int)<n:=ox
 go_wp2
 go_ret2;have:=HI.o;rw[Q5 (by rw[HN.o];exact Qk _)]at this;refine⟨⟨_,false,rfl,?_⟩,HK.o⟩;simp only[Hz,false_iff];rintro⟨f,h1,h2⟩;exact this f h1 h2
def Qk9{s:Vst}{c:LU->LU}(hv:Vok s c)(mv v:VL)(x:Rs)(w:WD)(hM:UZ w mv (ZX s c))(hl:J6 w v s.mem)(hE:Y5 w)(hp:x.act.path.length<=1000000)(hx:x.act.text.length<=140737488351232):
 Calls prog 13 #[.agg #[mv],v,s.dev.cap,.agg (Uf x).toArray] w (RK (.int .i64 (s.put [(x.act.path,x.act.text)]).1) w):=by
 obtain⟨ao,c0,rfl,hs⟩:=id hM;have x7:(ZX s c).length=s.mem.length:=by unfold ZX;rw[QH]
 have⟨n,hn⟩:=qx s.mem.length;rw[x7,hn]at hM ⊢;have⟨p,y5⟩:=qx x.act.path;have⟨t,y6⟩:=qx x.act.text;rw[y5]at hp ⊢;rw[y6]at hx ⊢;have z6:=hv.few;rw[hn]at z6;obtain⟨W1,W2⟩:=Qla hv (p,t);simp only[]at W1 W2;have⟨h9,h5⟩:=qb (fun W (hW:Qb [] w W)=>eG (.slice ao n c0) (ZX s c) p W (hM.kZ hW) (by rw[x7,hn];omega)) fun W=>CP (str p) W hp;rw[show X1 (str p).data.toList=X1 p from rfl]at h5;have⟨HV,HN,HE,HL,x1⟩:=qe hv hn hE hl fun W (hW:Qb [] w W)=>jJ hv v W<|hl.kZ hW;have p0:=hM;clear hM hl hE hv hn hs x7 p0;unfold Uf;rw[y5,y6];cases hk:Xr p with
 |false=>
  have e1:X1 p=140:=by unfold X1;rw[hk];rfl
  rw[W1 hk];rw[e1]at h5;clear W1 W2 h9 x1;go_enter func13,Nl;go_wp2_with (go_fit(h5.o _);rintro e w1⟨rfl,q⟩);go_ret;exact⟨rfl,(((Qc [] w).alloc _).alloc _).trans q sx⟩
 |true=>
  have e1:X1 p=0:=by unfold X1;rw[hk];rfl
  rw[e1]at h5;have hz:(str t).size=t:=rfl;have⟨T,hT⟩:=qx t.length;have W2:=W2 hk;rw[hT]at W2 hz hx;have⟨h8,h4,x0⟩:=qc (((Qc [] w).alloc<|.cells #[.slice ao n c0] 32).alloc<|.cells #[x.act.kind,.string<|str p,.string<|str t,x.act.tg,x.fv,x.fat,x.kv] 37) (Qe.newAt (w.alloc<|.cells #[.slice ao n c0] 32) [x.act.kind,.string<|str p,.string<|str t,x.act.tg,x.fv,x.fat,x.kv] 37 (w.heap.size+1) sx)<|(Qx w [.slice ao n c0] 32).alloc<|.cells #[x.act.kind,.string<|str p,.string<|str t,x.act.tg,x.fv,x.fat,x.kv] 37
  by_cases hb:8192<T
  ·have q0:(8192:Int)<T:=ox;rw[W2.1 hb];clear W1 W2 h9 x1;go_enter func13,Nl;go_wp2_with (go_fit(h5.o _);rintro e w1⟨rfl,q⟩;have z2:=(h4.o.kept q sx).cq 2);go_ret;exact⟨rfl,h8.o.trans q sx⟩
  have q0:¬(8192:Int)<T:=ox
  obtain⟨H,hH⟩:∃H:Bool,(H=true↔∃f∈ZX s c,f.1=p):=by
   by_cases h:∃f∈ZX s c,f.1=p
   ·exact⟨true,by simpa using h⟩
   exact⟨false,by simpa using h⟩
  have y4:=Qa fun W (hW:Qb [] w W)=>(h9.o W hW).mono (R':=fun e w'=>(∃y,e=.returned (.tuple #[.string y,.bool H]))/\Qb [] W w') (fun e w' h=>by obtain⟨⟨y,b,q,h2⟩,h3⟩:=h;exact⟨⟨y,by rw[q,Cw.2<|h2.trans hH.symm]⟩,h3⟩);have x5:H=false->∀m∈s.mem,m.path≠p:=fun h m hm e=>by have:=hH.2 ⟨(m.path,c m.path),JA hm,e⟩;rw[h]at this;cases this
  have x6:H=true->¬ ∀m∈s.mem,m.path≠p:=fun h hn=>by obtain⟨f,hf,e⟩:=hH.1 h;obtain⟨m,hm,rfl⟩:=QA.1 hf;exact hn m hm e
  have W3:=W2.2 hb;rw[HN.o]at W3;clear h9 hH W1 W2
  by_cases x8:H=false/\16<=n
  ·obtain⟨rfl,y8⟩:=x8;have q1:(16:Int)<=n:=ox;rw[W3.1 ⟨x5 rfl,y8⟩];clear W3 x5 x6 x1;go_enter func13,Nl;go_wp2_with (first
    |(go_fit(h5.o _);rintro e w1⟨rfl,q⟩;have z1:=(h4.o.kept q sx).cq 1;have z2:=(h4.o.kept q sx).cq 2;have y0:=(x0.o.kept q sx).cq 0)
    |(go_fit(y4.o _<|h8.o.trans q sx);rintro e w2⟨⟨y,rfl⟩,h2⟩;have y2:=((x0.o.kept q sx).kept h2 sx).cq 0))
   go_ret;exact⟨rfl,(h8.o.trans q sx).trans h2 sx⟩
  have p1:(str t).size<=8192:=by rw[hz];omega
  have x2:=Qa fun W (hW:Qb [] w W)=>OT (str p) (str t) W (HE.o.kZ hW) hk p1;rw[show((str p).data.toList,(str t).data.toList)=(p,t)from rfl]at x2;have⟨M,hM⟩:=qx<|Yh (p,t);have⟨Z,hZ⟩:=qx<|ZG (p,t);have x9:=Vz (f:=(p,t)) (XU hk).2.2 (by show t.length<=_;omega);rw[hM,hZ]at x9;rw[hM]at x2;rw[hZ]at W3;have y9:((str M).size:Int)/512=(Z:Int):=by show((M:Nat):Int)/512=_;omega
  have p2:((str M).size:Int).tdiv 512=(Z:Int):=by rwa[FN ox]
  have wZ:IntKind.i64.wrap (Z:Int)=(Z:Int):=by rw[Zq];omega
  have p4:=HV.o.pZ;have p3:=HV.o.dev.c2;have W4:=Qa<|W3.2 fun h=>x8 ⟨by cases H with|false=>rfl|true=>exact absurd h.1<|x6 rfl,h.2⟩;have hq:H=true\/(H=false/\¬(16:Int)<=n):=by
   cases H with
   |true=>exact .inl rfl
   |false=>exact .inr ⟨rfl,fun h=>x8 ⟨rfl,ox⟩⟩
  have HZ:=Qa x9.2;clear W3 x5 x6 hM hZ x9;have y7:=Qa (fun o x3 x4 W (ho:o.length=s.dev.cap) hs=>Qhr x3 x4 s.dev.cap o Z W ho hs (yx HZ.o) (yx HZ.o) ox ox);go_enter func13,Nl;rcases hq with rfl|⟨rfl,p6⟩
  all_goals
   go_wp2_with (first
    |(go_fit(h5.o _);rintro e w1⟨rfl,q⟩;have z1:=(h4.o.kept q sx).cq 1;have z2:=(h4.o.kept q sx).cq 2;have y0:=(x0.o.kept q sx).cq 0)
    |(go_fit(y4.o _<|h8.o.trans q sx);rintro e w2⟨⟨y,rfl⟩,h2⟩;have y1:=((h4.o.kept q sx).kept h2 sx).cq 1;have y2:=((h4.o.kept q sx).kept h2 sx).cq 2;have y3:=((x0.o.kept q sx).kept h2 sx).cq 0;have K2:=(h8.o.trans q sx).trans h2 sx)
    |(go_fit(x2.o _ K2);rintro e w3⟨rfl,h3⟩)
    |(go_fit(x1.o _<|K2.trans h3 sx);rintro e w4⟨o,x3,x4,rfl,ho,z8,z7,p5⟩)
    |(go_fit(y7.o o x3 x4 _ ho.1<|Qh.sZ z8);rintro e w5⟨⟨r,rfl,hr⟩,rfl⟩))
   all_goals go_ret
   all_goals
    have:=W4.o o r ho hr;rw[this];refine⟨?_,(K2.trans h3 sx).trans z7 sx⟩
    first|(rw[Qg ox];rfl)|(rw[Qf ox];rfl)
end
section
open Go.Sort Go.Shelf
def uT(w)(q:Y5 w)(c:10<=w.heap.size):Calls prog 7 #[] w (RK (.bool true) w):=by
 obtain⟨s1,m,o,l,c1,c2,t,y,u,v2,v,v3,x,v4,n,s,k1,k2,k3,k4⟩:=Qk8 fun _=>[];have v0:=Vok.fresh 60 dx dx fun _=>[];have k0:(Vst.fresh 60).dev.lZ<=6:=by show 0+(Yp 0 []).length+1<=6;rw[Un];decide
 have⟨F,A,z,C,B⟩:=qe (jE 60 w dx dx q c) (fun c a d g h mv (j:Zn c a d g h mv (Vst.fresh 60))=>show Calls prog 12 #[.pointer<|some ⟨a,0,none⟩,.string ⟨#[98]⟩,.string ⟨#[50]⟩] c fun e w'=>e=.returned (0:Int)/\ZU c a d g h mv s1 w' by have:=Mf j v0 [98] [50] sx sx (QS (Tv k0 _) dx);rw[t]at this;exact this) (fun c a d g h mv (j:Zn c a d g h mv s1)=>show Calls prog 12 #[.pointer<|some ⟨a,0,none⟩,.string ⟨#[97]⟩,.string ⟨#[49]⟩] c fun e w'=>e=.returned (0:Int)/\ZU c a d g h mv m w' by have:=Mf j y [97] [49] sx sx ox;rw[u]at this;exact this) (fun c a d g h mv (j:Zn c a d g h mv m)=>show Calls prog 28 #[.pointer<|some ⟨a,0,none⟩,.string ⟨#[98]⟩] c fun e w'=>e=.returned (0:Int)/\ZU c a d g h mv o w' by have:=cA j v2 [98] sx ox;rw[v]at this;exact this) (fun c a d g h mv (j:Zn c a d g h mv o)=>show Calls prog 29 #[.pointer<|some ⟨a,0,none⟩] c fun e w'=>e=.returned (0:Int)/\ZU c a d g h mv l w' by have:=bU j v3 ox;rw[x]at this;exact this);obtain⟨m,p⟩:∃m:RM,(⟨[97],30,2,1,YJ [49]⟩:RM)=m:=⟨_,rfl⟩;have o:m.path=[97]/\m.start=30:=by rw[<-p];exact⟨rfl,rfl⟩
 rw[p]at n;have D:=Qa (fun c a d g h mv (j:Zn c a d g h mv l)=>show Calls prog 30 #[.pointer<|some ⟨a,0,none⟩,.string ⟨#[97]⟩] c fun e w'=>e=.returned (.tuple #[.string ⟨#[49]⟩,(0:Int)])/\
  ZU c a d g h mv {l with dev:={l.dev with lZ:=l.dev.lZ+m.eZ.toNat}} w' by
  have:=cY j v4 (m:=m) (by rw[n];simp) ox;rw[o.1,s]at this;exact this)
 have E:=Qa (fun c a d g h mv (j:Zn c a d g h mv {l with dev:={l.dev with lZ:=l.dev.lZ+m.eZ.toNat}})=>show Calls prog 10 #[.pointer<|some ⟨a,0,none⟩] c (FX [m] c)by
  have:=Fo j.vt (by show l.mem.length<=1000;rw[n];simp);rwa[show({l with dev:={l.dev with lZ:=l.dev.lZ+m.eZ.toNat}}:Vst).mem=[m]from n]at this)
 have c:=Qa o.2;go_enter func7,ntmps7;go_wp2_with (first
  |(go_fit F.o;rintro e x9⟨d,a,g,h,rfl,j,p,y⟩)
  |(go_at_call 12;(with_reducible refine(A.o _ _ _ _ _ _ j).mono ?_);rintro e l⟨rfl,Y,h3,U,s,L,G⟩)
  |(go_at_call 12;(with_reducible refine(z.o _ _ _ _ _ _ s).mono ?_);rintro e n⟨rfl,Z,h4,V,t,M,H⟩)
  |(go_at_call 28;(with_reducible refine(C.o _ _ _ _ _ _ t).mono ?_);rintro e o⟨rfl,h1,h5,W,u,O,I⟩)
  |(go_at_call 29;(with_reducible refine(B.o _ _ _ _ _ _ u).mono ?_);rintro e q⟨rfl,h2,h8,X,v,P,J⟩)
  |(go_at_call 30;(with_reducible refine(D.o _ _ _ _ _ _ v).mono ?_);rintro e y0⟨rfl,x5,x7,x4,x,Q,x3⟩)
  |(go_at_call 10;(with_reducible refine(E.o _ _ _ _ _ _ x).mono ?_);rintro e y1⟨x8,rfl,S,R,-⟩;obtain⟨x0,x1,rfl,T,-⟩:=S.memA;obtain⟨x2,x6,rfl,-,h9,-⟩:=RA T (i:=0) (x:=m) rfl;rw[c.o,IA,Jt]at h9))
 go_ret;refine⟨rfl,?_⟩;have hw:∀c∈QN a d g h (),w.heap.size<=c:=y;have j:=(p.trans L fun c g=>.inr<|hw c g);have l:∀c∈QN a d Y h3 U,w.heap.size<=c:=fun c g=>(G c g).elim (hw c) fun h=>QS p.size h
 have m:=j.trans M fun c g=>.inr<|l c g;have n:∀c∈QN a d Z h4 V,w.heap.size<=c:=fun c g=>(H c g).elim (l c) fun h=>QS j.size h
 have j:=m.trans O fun c g=>.inr<|n c g;have o:∀c∈QN a d h1 h5 W,w.heap.size<=c:=fun c g=>(I c g).elim (n c) fun h=>QS m.size h
 have l:=j.trans P fun c g=>.inr<|o c g;have q:∀c∈QN a d h2 h8 X,w.heap.size<=c:=fun c g=>(J c g).elim (o c) fun h=>QS j.size h
 exact(l.trans Q fun c g=>.inr<|q c g).trans R sx
end
section
open Go.Sort Go.Shelf
def Gb(cap:Int)(img:LY)(k g:Nat)(l:List RM):Bool->Prop
 |true=>Xu img (k*5) (Yp g l)/\g%2=k/\g<=4611686018427387904/\Dx cap l
 |false=>g=0/\l=[]/\(img.length<(k+1)*5\/img[k*5]?=some (Q3 512))
def Xu.len{img L:LY}{p:Nat}(h:Xu img p L)(h0:0<L.length):p+L.length<=img.length:=by have c:=h (L.length-1) _ (Qj ox);have:=(Qy.1 c).1;omega
def Xu.cut{img L:LY}{p:Nat}(h:Xu img p L):(img.drop p).take L.length=L:=by
 refine XB fun c=>?_
 by_cases hi:c<L
 ·rw[Bb hi,Ut,Qj hi];exact h c _<|Qj hi
 rw[QU zx,QU ox]
def Q6.slots{s:Vst}{c:LU->LU}{b:List RM}{r:List (List Note)}(h:Q6 s b r)(d:Vok s c):
 Gb s.dev.cap s.dev.img (s.gen%2) s.gen b true/\∃g l f,Gb s.dev.cap s.dev.img ((s.gen+1)%2) g l f/\(f=true->g<s.gen):=by
 have:=d.gen;have:=d.dev.lZ;have hb:=h.mids 0<|Zv _;rw[DB]at hb;refine⟨⟨h.slot,rfl,ox,hb⟩,?_⟩;rcases h.other with d|d|⟨g,l,d,e,i,j⟩
 ·exact⟨0,[],false,⟨rfl,rfl,.inl ox⟩,fun h=>by cases h⟩
 ·exact⟨0,[],false,⟨rfl,rfl,.inr d⟩,fun h=>by cases h⟩
 exact⟨g,l,true,⟨j,e,ox,i⟩,fun _=>d⟩
def OQ(gen:Nat):∀(r:List (List Note))(i j t:Nat)(ns:List Note),r[j]?=some ns->t<=ns.length->(UP gen i r)[ZY (r.take j)+t]?=(JV gen (i+ZY (r.take j)) ns)[t]?
 | [],_,_,_,_,c,_=>by simp at c
 |x::r,i,0,t,ns,c,ht=>by injection c with c;subst c;rw[DB,ZY,Zu,UP,Xc (by rw[RI];omega)];rfl
 |x::r,i,j+1,t,ns,c,ht=>by
  rw[FW,ZY,UP,Zm (by rw[RI];omega),RI,<-Y7 i,<-Y7 i];rw[<-OQ gen r (i+x.length+1) j t ns c ht]
  congr 1;omega
def GN(r:List (List Note))(j:Nat)(ns:List Note)(h:r[j]?=some ns):ZY (r.take<|j+1)=ZY (r.take j)+ns.length+1:=by rw[Zh,h,EL,OK]
def Fl:∀(r:List (List Note))(j:Nat),ZY (r.take j)<=ZY r
 | [],_=>by rw[List.take_nil];exact Qk _
 |x::r,0=>Zv _
 |x::r,j+1=>by rw[FW,ZY,ZY];have:=Fl r j;omega
def Q6.sector{s:Vst}{b:List RM}{r:List (List Note)}(h:Q6 s b r){j t:Nat}{ns:List Note}(d:r[j]?=some ns):
 (∀n,ns[t]?=some n->s.dev.img[10+(ZY (r.take j)+t)]?=some (Yn (if n.1 then 1 else 2) s.gen (ZY (r.take j)+t)<|VC n))/\
 (t=ns.length->s.dev.img[10+(ZY (r.take j)+t)]?=some (Yn 3 s.gen (ZY (r.take j)+t) [UInt8.ofNat ns.length]))/\(t<=ns.length->ZY (r.take j)+t<s.next):=by
 refine⟨fun n e=>?_,fun c=>?_,fun c=>?_⟩
 ·have c:=(Qy.1 e).1;refine h.log _ _ ?_;rw[OQ s.gen r 0 j t ns d ox,Zu,JV,Xc<|by rwa[Fv],PM _ _ _ _ _ e]
 ·refine h.log _ _ ?_;rw[OQ s.gen r 0 j t ns d ox,Zu,JV,Zm (by rw[Fv];omega),Fv,c,ZM];rfl
 have:=GN r j ns d;have:=Fl r<|j+1;have:=h.len;omega
def YO(w:WD)(d:Nat)(c e:VL)(s:QG)(n:Nat)(w':WD):Prop:=Dk w' d c e (s.tick n)/\Qb [d] w w'
section
variable {d n:Nat} {nv pv:VL} {s:QG} {w w1 w2:WD}
def YO.refl(h:Dk w d nv pv s):YO w d nv pv s 0 w:=⟨h,Qc _ _⟩
def YO.kept(h:YO w d nv pv s n w1)(k:Qb [] w1 w2):YO w d nv pv s n w2:=⟨h.1.kZ k,h.2.trans k sx⟩
def YO.get(h:YO w d nv pv s n w1)(hs:s.Ok)(c:s.lZ+1000<=1000000000)(c:n<=900){i:Nat}{x:LU}(g:s.img[i]?=some x):
 Calls prog 57 #[.pointer d,i] w1 fun e w'=>e=.returned (.tuple #[str x,(0:Int)])/\YO w d nv pv s (n+1) w'/\Qb [d] w1 w':=by
 have c:(s.tick n).Ok:=⟨hs.c1,hs.c2,hs.len,hs.sec,by show s.lZ+n<=_;omega⟩;go_fit(PL h.1 c i x g);rintro e w'⟨rfl,g,c⟩;exact⟨rfl,⟨g,h.2.trans c sx⟩,c⟩
end
end
