import Derived.Test.YtickjpnkoppmgaaGreatDoorBb
set_option linter.all false
namespace Go.Proofs.YtickjpnkoppmgaaGreatDoor
open Go.Proofs.Tryz Go.RowKit K
section
open Go.Shelf
attribute [local go_sem] Oper.semAt_some
def Zh:LU:=[66,90,104,49]
def sR:Qv (Qk Zh)=Zh:=by decide
noncomputable def XB(s:LU):LB:=
 Qk Zh++((if s.length=0 then []else XE s)++(K.low 25779555029136 48++K.low (JZ 0 (if s.length=0 then []else [XQ s])).toNat 32))
structure J6(w0:WD)(ga gs r6 r7 bs bm:Nat)(Bs:List LB)(xs:LI)(va vs:VL)(W:WD):Prop where
 ha:Qe W ga 205 [va]
 hra:Qn W 204 2 va Bs.length (Yl (YW Bs))
 hs:Qe W gs 206 [vs]
 hrs:Qn W 67 1 vs xs.length (Zm xs)
 h6:Qe W r6 9 [.string ⟨#[]⟩]
 h7:Qe W r7 40 [(0:Int)]
 hk:Qb [] w0 W
 hf:∀x,x∈Qd va∨x∈Qd vs→w0.heap.size≤x∧x≠ga∧x≠gs∧x≠r6∧x≠r7∧x≠bs∧x≠bm
 hap:∀x,x∈Qd va→x∈Qd vs→False
 hne:ga≠gs∧ga≠r6∧ga≠r7∧gs≠r6∧gs≠r7∧(ga≠bs∧ga≠bm)∧(gs≠bs∧gs≠bm)∧(r6≠bs∧r6≠bm)∧(r7≠bs∧r7≠bm)
 hlt:bs<W.heap.size∧bm<W.heap.size
 hw:w0.heap.size≤ga∧w0.heap.size≤gs∧w0.heap.size≤r6∧w0.heap.size≤r7∧w0.heap.size≤bs∧w0.heap.size≤bm
def LQ(w0:WD)(c d e f bs b:Nat)(a:List LB)(xs:LI)(W:WD):Prop:=∃g h,J6 w0 c d e f bs b a xs g h W
variable {w0 A B:WD} {ga gs r6 r7 bs bm n g m cap:Nat} {Bs Bs':List LB} {xs xs':LI} {va vs:VL}
def J6.kept(a:J6 w0 ga gs r6 r7 bs bm Bs xs va vs A)(k:Qb [] A B):J6 w0 ga gs r6 r7 bs bm Bs xs va vs B:=
 ⟨a.ha.kept k<|by simp,a.hra.kept k<|ZM _,a.hs.kept k<|by simp,a.hrs.kept k<|ZM _,a.h6.kept k<|by simp,a.h7.kept k<|by simp,a.hk.trans k<|by simp,a.hf,a.hap,a.hne,by have:=a.hlt;have:=k.size;omega,a.hw⟩
def J6.mild(a:J6 w0 ga gs r6 r7 bs bm Bs xs va vs A)(k:U3 [bs,bm] n A B)(f:w0.heap.size≤n):J6 w0 ga gs r6 r7 bs bm Bs xs va vs B:=by
 have b:∀{c:Nat}{e:TypeId}{d:LV},c≠bs∧c≠bm→Qe A c e d→Qe B c e d:=fun hb ha=>k.block _ _ ha (by simp;exact hb)<|.inr rfl
 obtain⟨-,-,-,-,-,c,e,g,h⟩:=a.hne;exact⟨b c a.ha,k.row a.hra (fun d c=>by have:=a.hf d<|.inl c;simp;omega),b e a.hs,k.row a.hrs (fun d c=>by have:=a.hf d<|.inr c;simp;omega),b g a.h6,b h a.h7,
  k.kept a.hk (by have:=a.hw;simp;omega) f,a.hf,a.hap,a.hne,by have:=a.hlt;have:=k.size;omega,a.hw⟩
def J6.push(a:J6 w0 ga gs r6 r7 bs bm Bs xs va vs A)(k:Qb (Qd va) A B)(e:g∈Qd va∨A.heap.size≤g)(c:m=Bs'.length)(h:Qn B 204 2 (.slice g m cap) m (Yl<|YW Bs')):
 J6 w0 ga gs r6 r7 bs bm Bs' xs (.slice g m cap) vs (B.setCell ⟨ga,0,none⟩<|.slice g m cap):=by
 subst c;obtain⟨b,b,b,b,b,b,b,b,n9⟩:=a.hne;have:=a.ha.lt;have:=a.hs.lt;have:=a.h6.lt;have:=a.h7.lt;have:=a.hlt;have:=a.hk.size;have f:∀b,(b=ga∨b=gs∨b=r6∨b=r7)→b∉Qd va:=fun b hb c=>by have:=a.hf b<|.inl c;omega
 have d:∀b,b≠ga→Qb [ga] B (B.setCell ⟨ga,0,none⟩<|.slice g Bs'.length cap):=fun b _=>(Qc [ga] B).setCell (p:=ga) (by simp) _
 have kk:=d gs (by omega);have:g≠ga∧g≠gs∧g≠r6∧g≠r7∧g≠bs∧g≠bm∧w0.heap.size≤g:=by
  rcases e with e|e
  ·have:=a.hf g<|.inl e;omega
  omega
 refine⟨?_,?_,(a.hs.kept k<|f _<|by simp).kept kk (by simp;omega),(a.hrs.kept k fun d b c=>a.hap d c b).kept kk ?_,(a.h6.kept k<|f _<|by simp).kept kk (by simp;omega),(a.h7.kept k<|f _<|by simp).kept kk (by simp;omega),?_,?_,?_,a.hne,by have:=k.size;simp[World.setCell];omega,a.hw⟩
 ·exact(a.ha.kept k<|f _<|by simp).set 0 _
 ·refine h.kept kk ?_;intro d b c;simp[Qd,qo]at b c;omega
 ·intro d b c;have:=a.hf d<|.inr b;simp at c;omega
 ·exact((a.hk.trans k fun d b=>.inr (a.hf d<|.inl b).1)).setCell (.inr a.hw.1) _
 ·intro d b;rcases b with b|b
  ·simp[Qd,qo]at b;omega
  exact a.hf d<|.inr b
 intro d b c;simp[Qd,qo]at b;subst b;rcases e with e|e
 ·exact a.hap _ e c
 have:=a.hrs.lt _ c;omega
def J6.add(a:J6 w0 ga gs r6 r7 bs bm Bs xs va vs A)(k:Qb (Qd vs) A B)(e:g∈Qd vs∨A.heap.size≤g)(c:m=xs'.length)(h:Qn B 67 1 (.slice g m cap) m (Zm xs')):
 J6 w0 ga gs r6 r7 bs bm Bs xs' va (.slice g m cap) (B.setCell ⟨gs,0,none⟩<|.slice g m cap):=by
 subst c;obtain⟨b,b,b,b,b,b,b,b,n9⟩:=a.hne;have:=a.ha.lt;have:=a.hs.lt;have:=a.h6.lt;have:=a.h7.lt;have:=a.hlt;have:=a.hk.size;have f:∀b,(b=ga∨b=gs∨b=r6∨b=r7)→b∉Qd vs:=fun b hb c=>by have:=a.hf b<|.inr c;omega
 have kk:Qb [gs] B (B.setCell ⟨gs,0,none⟩<|.slice g xs'.length cap):=(Qc [gs] B).setCell (p:=gs) (by simp) _;have:g≠ga∧g≠gs∧g≠r6∧g≠r7∧g≠bs∧g≠bm∧w0.heap.size≤g:=by
  rcases e with e|e
  ·have:=a.hf g<|.inr e;omega
  omega
 refine⟨(a.ha.kept k<|f _<|by simp).kept kk (by simp;omega),(a.hra.kept k fun d b c=>a.hap d b c).kept kk ?_,(a.hs.kept k<|f _<|by simp).set 0 _,h.kept kk ?_,(a.h6.kept k<|f _<|by simp).kept kk (by simp;omega),(a.h7.kept k<|f _<|by simp).kept kk (by simp;omega),?_,?_,?_,a.hne,by have:=k.size;simp[World.setCell];omega,a.hw⟩
 ·intro d b c;have:=a.hf d<|.inl b;simp at c;omega
 ·intro d b c;simp[Qd,qo]at b c;omega
 ·exact((a.hk.trans k fun d b=>.inr (a.hf d<|.inr b).1)).setCell (.inr a.hw.2.1) _
 ·intro d b;rcases b with b|b
  ·exact a.hf d<|.inl b
  simp[Qd,qo]at b;omega
 intro d b c;simp[Qd,qo]at c;subst c;rcases e with e|e
 ·exact a.hap _ b e
 have:=a.hra.lt _ b;omega
def Sx:(prog.info? 67).map (fun i=>(i.zero,i.size,i.bytes))=some (some<|.int .u32 0,1,4):=by kernel_rfl
def gX(w):Calls prog 114 #[(1:Int)] w fun e w'=>e=.returned (100000:Int)∧w'=w:=by
 go_enter func114,ntmps114
 go_wp2
 go_ret;exact⟨rfl,rfl⟩
def Qdf(s:BA)(a:Int)(w):Calls prog 115 #[s,a] w fun e w'=>e=.returned (.func (.func 157) #[] #[.pointer w,.pointer (w.heap.size+1:Nat)])∧w'=(w.alloc<|.cells #[s] 9).alloc (.cells #[a] 3):=by
 have:∀(fn:Fn)(first cap:Array VL)(w:WD),(Instr.makeFunc fn first cap).run prog w=.ok (.func fn first cap) w:=fun _ _ _ _=>rfl
 go_enter func115,ntmps115
 go_wp2
 go_ret;exact⟨rfl,rfl⟩
def Qdw(w b)(s:BA)(hw:b=(((((((w.alloc<|.cells #[.string ⟨#[]⟩] 9).alloc<|.cells #[(0:Int)] 40).alloc<|.cells #[.int .u8 49] 5).alloc<|.cells #[str Zh,(32:Int)] 204).alloc<|.cells #[.slice (w.heap.size+1+1+1:Nat) 1 1] 205).alloc<|.cells #[.slice none 0 0] 206).alloc<|.cells #[s] 9).alloc (.cells #[(20000:Int)] 3)):
 LQ w (w.heap.size+4) (w.heap.size+5) w.heap.size (w.heap.size+1) (w.heap.size+6) (w.heap.size+7) [Qk Zh] [] b∧Qe b (w.heap.size+6) 9 [s]∧Qe b (w.heap.size+7) 3 [(20000:Int)]∧b.heap.size=w.heap.size+8:=by
 have⟨a,c⟩:=qx w.heap.size;have a0:=Qe.newAt w [.string ⟨#[]⟩] 9 a c;rw[c]at hw ⊢;have⟨f,k⟩:=qx<|w.alloc<|.cells #[.string ⟨#[]⟩] 9;have d:f.heap.size=a+1:=by rw[←k];simp[c]
 rw[k]at hw a0;have o:=Qe.newAt f [(0:Int)] 40 (a+1) d;have⟨g,l⟩:=qx<|f.alloc<|.cells #[(0:Int)] 40;have z2:g.heap.size=a+2:=by rw[←l];simp[d]
 rw[l]at hw o;have⟨d,m⟩:=qx<|g.alloc<|.cells #[.int .u8 49] 5;have z3:d.heap.size=a+3:=by rw[←m];simp[z2]
 rw[m]at hw;have a3:=Qe.newAt d [str Zh,(32:Int)] 204 (a+3) z3;have⟨c,n⟩:=qx<|d.alloc<|.cells #[str Zh,(32:Int)] 204;have z4:c.heap.size=a+4:=by rw[←n];simp[z3]
 rw[n]at hw a3;have a4:=Qe.newAt c [.slice (some ⟨a+3,0,none⟩) 1 1] 205 (a+4) z4;have⟨d,j⟩:=qx<|c.alloc<|.cells #[.slice (some ⟨a+3,0,none⟩) 1 1] 205;have z5:d.heap.size=a+5:=by rw[←j];simp[z4]
 have i:b=((d.alloc<|.cells #[.slice none 0 0] 206).alloc<|.cells #[s] 9).alloc (.cells #[(20000:Int)] 3):=by rw[hw,←j]
 rw[j]at a4;have a5:=Qe.newAt d [.slice none 0 0] 206 (a+5) z5;have⟨e,h6⟩:=qx<|d.alloc<|.cells #[.slice none 0 0] 206;have q:e.heap.size=a+6:=by rw[←h6];simp[z5]
 rw[h6]at i a5;have p:=Qe.newAt e [s] 9 (a+6) q;have⟨h,h7⟩:=qx<|e.alloc<|.cells #[s] 9;have r:h.heap.size=a+7:=by rw[←h7];simp[q]
 rw[h7]at i p;have q:=Qe.newAt h [(20000:Int)] 3 (a+7) r;have k7:Qb [] h b:=by rw[i];exact(Qc _ _).alloc _
 have k6:Qb [] e b:=(by rw[←h7];exact(Qc _ _).alloc _:Qb [] e h).trans k7 (by simp);have k5:Qb [] d b:=(by rw[←h6];exact(Qc _ _).alloc _:Qb [] d e).trans k6 (by simp);have k4:Qb [] c b:=(by rw[←j];exact(Qc _ _).alloc _:Qb [] c d).trans k5 (by simp);have k2:Qb [] g b:=(by rw[←n,←m];exact((Qc _ _).alloc _).alloc _:Qb [] g c).trans k4 (by simp);have k1:Qb [] f b:=(by rw[←l];exact(Qc _ _).alloc _:Qb [] f g).trans k2 (by simp);have k0:Qb [] w b:=(by rw[←k];exact(Qc _ _).alloc _:Qb [] w f).trans k1 (by simp);have d:Qn c 204 2 (.slice (some ⟨a+3,0,none⟩) 1 1) 1 (Yl<|YW [Qk Zh]):=by
  have c:Yl (YW [Qk Zh])=[.string<|str Zh,.int .i64 32]:=by simp[Yl,YW,sR,Yt];decide
  rw[c];exact⟨rfl,.inr ⟨a+3,1,_,rfl,ZF _,a3,Ql _,by simp[maxLen],rfl,rfl⟩⟩
 have c:b.heap.size=a+8:=by rw[i];simp[r]
 refine⟨⟨_,_,⟨a4.kept k5<|by simp,d.kept k4<|ZM _,a5.kept k6<|by simp,(Qn.nil e _ _).kept k6<|ZM _,a0.kept k1<|by simp,o.kept k2<|by simp,k0,?_,?_,by omega,by omega,by omega⟩⟩,p.kept k7<|by simp,by rwa[i],c⟩
 ·intro b a;simp[Qd,qo]at a;omega
 intro b a;simp[Qd,qo]
end
section
open Go.Shelf
attribute [local go_sem] Oper.semAt_some
def TJ(s)(h0:0<s.length)(a:s.length≤8192):(XE s).length≤700000:=by have:=Dw s;have hp:=EH s<|DQ h0;have hb:=VN (Zw s) hp (by omega);have:=OV<|QL<|Zw s;have a:=Om hb.fit.may;have:=MG (Zw s) hp (by omega);have a:(Zr (QG<|Zw s).1 (QG<|Zw s).2.1).length≤400000:=a;unfold XE UI;rw[Qo,Qo,Qo,Cn];omega
def LP(w:WD)(b c D:Nat)(e:BA)(d:Int)(f g:VL)(W:WD):Prop:=
 ∃a,f=.pointer (some ⟨a,0,none⟩)∧g=.int .i64 0∧Qe W a 204 [e,d]∧Qe W b 9 [.string ⟨#[]⟩]∧Qe W c 40 [(0:Int)]∧Qb [] w W∧a≠b∧a≠c∧W.heap[D]?=some (.deferred (some []))
set_option maxHeartbeats 4000000 in
set_option maxRecDepth 100000 in
def Qc7(s w)(hs:s.size≤8192):Calls prog 80 #[.string s,(1:Int),(20000:Int)] w fun e w'=>e=.returned (.tuple #[.string<|str<|Qv<|XB s.data.toList,(0:Int)])∧Qb [] w w':=by
 refine Eh.1<|callsIn_of_wp_marks (F:=Fence.wide) (n:=6) func80 rfl trivial ?_ rfl;refine wpIn_wide.2 ?_;simp only[ntmps80,GT,Q0,Yg,Nat.reduceAdd,Nat.reduceSub,Lc,Ld,Lx,Lm,Yy,Yf];have f2:∀(fn:Fn)(first cap:Array Value)(w:World),(Instr.makeFunc fn first cap).run prog w=.ok (.func fn first cap) w:=fun _ _ _ _=>rfl
 have e4:(convert 88 9<|.slice (w.heap.size+1+1:Nat) 1 1).run prog (((w.alloc<|.cells #[.string ⟨#[]⟩] 9).alloc<|.cells #[(0:Int)] 40).alloc<|.cells #[.int .u8 49] 5)=.ok (.string ⟨#[49]⟩) (((w.alloc<|.cells #[.string ⟨#[]⟩] 9).alloc<|.cells #[(0:Int)] 40).alloc<|.cells #[.int .u8 49] 5):=by have:=Db ((w.alloc<|.cells #[.string ⟨#[]⟩] 9).alloc<|.cells #[(0:Int)] 40) 49;simpa using this
 have e5:(⟨#[66,90,104]⟩:ByteArray)++⟨#[49]⟩=str Zh:=by decide
 have j0:(s.size:Int)≤8192:=by omega
 go_wp2_with fail;refine(gX _).mono ?_;rintro e w1⟨rfl,rfl⟩;go_wp2_with fail;refine(Qdf _ _ _).mono ?_;rintro e w8⟨rfl,b5⟩;obtain⟨hI,hA,hB,hz⟩:=Qdw w w8 s b5;have HI:=Qa hI;have HA:=Qa hA;have HB:=Qa hB;have HZ:=Qa hz;clear b5 hI hA hB hz e4 e5 f2;go_wp2_with fail;obtain⟨bm,p0⟩:∃g,w.heap.size+1+1+1+1+1+1+1=g:=⟨_,rfl⟩;obtain⟨bs,p1⟩:∃g,w.heap.size+1+1+1+1+1+1=g:=⟨_,rfl⟩;obtain⟨gs,q4⟩:∃g,w.heap.size+1+1+1+1+1=g:=⟨_,rfl⟩;obtain⟨ga,h9⟩:∃g,w.heap.size+1+1+1+1=g:=⟨_,rfl⟩;obtain⟨r7,r1⟩:∃g,w.heap.size+1=g:=⟨_,rfl⟩;obtain⟨r6,y2⟩:∃g,w.heap.size=g:=⟨_,rfl⟩;have HI:=Qa (by rw[←h9,←q4,←y2,←r1,←p1,←p0];exact HI.o:LQ w ga gs r6 r7 bs bm [Qk Zh] [] w8);have HA:=Qa (by rw[←p1];exact HA.o:Qe w8 bs 9 [.string s]);have HB:=Qa (by rw[←p0];exact HB.o:Qe w8 bm 3 [(20000:Int)]);have HE:=Qa (by omega:ga=r6+4∧gs=r6+5∧r7=r6+1∧bs=r6+6∧bm=r6+7∧w.heap.size=r6);rw[p0,p1,q4,h9,r1,y2];clear p0 p1 q4 h9 r1 y2;refine wpIn_wide.1 (fX (w:=w8) (gf:=157) (lb:=#[.pointer bs,.pointer bm]) rfl (enters_of func157 (by kernel_rfl) rfl)
  (Qde s 20000 bs bm w8 (by omega) (by omega) (by omega) (by omega) HA.o HB.o (by have:=HE.o;omega)) (by have:=HE.o;have:=HZ.o;simp;omega) (fun _=>rfl)
  (fun r2 W=>LQ w ga gs r6 r7 bs bm (Qk Zh::r2.map fun x=>XE x.data.toList) (r2.map fun x=>XQ x.data.toList) W)
  (fun _ _ _=>False) ?hI (fun _ _ _ _ h=>h.elim) HI.o ?rd ?done (fun _ _ _ _ _ _ h=>h.elim))
 case hI=>exact fun s A B ⟨va,vs,h⟩ hz hm=>⟨va,vs,h.mild hm (by have:=HZ.o;have:=HE.o;omega)⟩
 case rd=>
  rintro l r2 x W hp⟨rfl,rfl,f8⟩ hW;obtain⟨va,vs,hp⟩:=hp;have HP:=Qa hp;clear hp;apply Exists.intro;constructor
  ·intro W' K y
   gi_wp2
   exact y
  gi_wp2_with fail
  refine⟨trivial,(CallsIn.inRound l<|Eh.2<|Qbs x W f8 hs).mono ?_⟩;rintro e W1⟨rfl,x8⟩;unfold Zg;have⟨W2,y9⟩:=qx<|W1.alloc<|.cells #[.string ⟨(Qv<|XE x.data.toList).toArray⟩,.int .i64 ((XE x.data.toList).length:Nat)] 204;have q9:=HP.o.kept x8;have y1:=HP.o.kept (by rw[←y9];exact x8.alloc _:Qb [] W W2);have c1:=q9.ha.cell (i:=0) (u:=va) rfl;have x1:=q9.ha.lt;have⟨r3,y8,x3⟩:=qc (by rw[←y9];exact x8.alloc _:Qb [] W W2) y9 y1;have M1:(1:Nat)+1≤maxLen:=by simp only[maxLen];omega
  clear x8 q9 y1 y9
  gi_wp2_with ((gi_at_builtin;refine lM (W1.alloc<|.cells #[.string ⟨(Qv<|XE x.data.toList).toArray⟩,.int .i64 ((XE x.data.toList).length:Nat)] 204) rfl _ _ 205 rfl 204 (.agg #[.string ⟨#[]⟩,(0:Int)]) 2 24 Tc LZ rfl (by decide) va 1 (Yl<|YW [Qk Zh]) [.string ⟨(Qv<|XE x.data.toList).toArray⟩,.int .i64 ((XE x.data.toList).length:Nat)] rfl (by rw[Vo];rfl) rfl rfl (by simp[Value.oneCell']) (by rw[y8.o];exact x3.o.hra) M1 (by decide) ?_;intro g3 y3 W3 b2 x9 q3;have c3:=(x3.o.ha.kept (by rwa[←y8.o]) fun h=>(x3.o.hf _<|.inl h).2.1 rfl).cell (i:=0) (u:=va) rfl;have f3:=(x3.o.ha.kept (by rwa[←y8.o]) fun h=>(x3.o.hf _<|.inl h).2.1 rfl).free 0))
  rw[y8.o]at x9 q3;have h3:J6 w ga gs r6 r7 bs bm [Qk Zh,XE x.data.toList] [] (.slice g3 2 y3) vs (W3.setCell ⟨ga,0,none⟩<|.slice g3 2 y3):=x3.o.push (Bs':=[Qk Zh,XE x.data.toList]) (m:=2) x9 q3 rfl b2;have q0:KeepsOthers W (W3.setCell ⟨ga,0,none⟩<|.slice g3 2 y3):=((keeps_of r3.o<|by simp).trans<|keeps_of x9 x3.o.hra.cells).trans<|KeepsOthers.setCell _ _ _;have q1:Qb (ga::gs::(Qd va++Qd vs)) W (W3.setCell ⟨ga,0,none⟩<|.slice g3 2 y3):=((r3.o.mono<|by simp).trans x9 fun x hx=>.inl<|by simp[hx]).setCell (.inl<|by simp) _;have⟨W4,z1⟩:=qx<|W3.setCell ⟨ga,0,none⟩<|.slice g3 2 y3;have j1:Zf (XQ x.data.toList):=Zf.bits _ _ _;have HN:=Qa (show ∀W5,Qb [] W4 W5→∃g6 h5 W6,(Builtin.append_ #[206,206] 206 #[vs,.slice (some ⟨W5.heap.size,0,none⟩) 1 1]).run prog (W5.alloc<|.cells #[.int .u32<|XQ x.data.toList] 67)=.ok (.slice (some ⟨g6,0,none⟩) 1 h5) W6∧
   J6 w ga gs r6 r7 bs bm [Qk Zh,XE x.data.toList] [XQ x.data.toList] (.slice g3 2 y3) (.slice (some ⟨g6,0,none⟩) 1 h5) (W6.setCell ⟨gs,0,none⟩<|.slice (some ⟨g6,0,none⟩) 1 h5)∧KeepsOthers W (W6.setCell ⟨gs,0,none⟩<|.slice (some ⟨g6,0,none⟩) 1 h5)∧
   (∀b∈[bs,bm],(W6.setCell ⟨gs,0,none⟩<|.slice (some ⟨g6,0,none⟩) 1 h5).heap[b]?=W.heap[b]?)∧W6.cell? ⟨gs,0,none⟩=some vs∧W6.frozen? ⟨gs,0,none⟩=false from by
   intro W5 h4;rw[z1]at h3 q0 q1;have y7:=h3.kept h4;obtain⟨v6,W6,y2,y6,x0,f0⟩:=BN (P:=prog) (W5.alloc<|.cells #[.int .u32<|XQ x.data.toList] 67) 206 206 67 (.int .u32 0) 1 4 underlying206 Sx rfl (by decide) vs 0 [] (World.ownsRow.alloc y7.hrs _) ⟨W5.heap.size,0,none⟩ 1 1 [.int .u32<|XQ x.data.toList] rfl (by intro j u hj;rw[YM,ZE,To _ _ _ _ rfl];simpa using hj) (by simp[Value.oneCell']) (by simp only[maxLen];omega) (by omega);rcases y6.2 with⟨-,h0⟩|⟨g6,h5,g8,rfl,-⟩
   ·omega
   have p3:Qb (Qd vs) W5 W6:=((Qc (Qd vs) W5).alloc _).trans x0 fun x hx=>.inl hx;have f5:=y7.add (xs':=[XQ x.data.toList]) p3 ((f0 g6<|by simp[Qd,qo]).imp id (fun h=>by simp at h;omega)) rfl y6;have h9:=y7.hs.kept p3 fun h=>(y7.hf _<|.inr h).2.2.1 rfl;have hT:∀b∈[bs,bm],(W6.setCell ⟨gs,0,none⟩<|.slice (some ⟨g6,0,none⟩) 1 h5).heap[b]?=W.heap[b]?:=fun b hb=>(((q1.trans h4<|by simp).trans p3 fun x hx=>.inl<|by simp[hx]).setCell (.inl<|by simp) _).block b (by have:=HP.o.hlt;simp at hb;omega) (by
    intro hm;have hn:=HP.o.hne;simp at hm hb;rcases hm with h|h|h|h
    ·omega
    ·omega
    ·have:=HP.o.hf b<|.inl h;omega
    have:=HP.o.hf b<|.inr h;omega)
   exact⟨g6,h5,W6,y2,f5,((q0.trans<|keeps_of h4<|by simp).trans<|keeps_of p3 y7.hrs.cells).trans<|KeepsOthers.setCell _ _ _,hT,h9.cell (i:=0) rfl,h9.free 0⟩)
  have mixed:prog.follows .mixedOrders=true:=by kernel_rfl
  rw[z1]at h3;have c4:=h3.hs.cell (i:=0) (u:=vs) rfl;have x4:=h3.hs.lt;have h8:=Qa h3;rw[z1];clear c3 f3 c1 x1 b2 x9 q3 h3 q0 z1 q1;refine wpIn_region_any mixed ?_;change wpAnyIn _ _ _ _ _ _ _ _ _ (World.drew _);refine wpAnyIn_ready (rs:=[0,1]) (by kernel_rfl) (by simp) ?_;refine AllReadyIn.cons rfl (fun K y=>?ord0)<|AllReadyIn.cons rfl (fun K y=>?ord1) AllReadyIn.nil
  case' ord0=>go_simp;refine y _ _ ?_;clear y K;refine wpAnyIn_ready (rs:=[1]) (by kernel_rfl) (by simp) ?_;refine AllReadyIn.cons rfl (fun K y=>?_) AllReadyIn.nil;go_simp;refine y _ _ ?_;clear y K;refine wpAnyIn_ready (rs:=[2]) (by kernel_rfl) (by simp) ?_;refine AllReadyIn.cons rfl (fun K y=>?_) AllReadyIn.nil;go_simp;refine⟨trivial,(CallsIn.inRound l<|Eh.2<|Ef x _<|by omega).mono ?_⟩;rintro e W5⟨rfl,h4⟩;have hk:=(Qc [] W4).drew.trans h4 (by simp);have c5:=(h8.o.kept hk).hs.cell (i:=0) (u:=vs) rfl;have x5:=(h8.o.kept hk).hs.lt;clear h4 c4 x4;refine y _ _ ?_;clear y K;refine wpAnyIn_ready (rs:=[3]) (by kernel_rfl) (by simp) ?_;refine AllReadyIn.cons rfl (fun K y=>?_) AllReadyIn.nil;go_simp;refine y _ _ ?_;clear y K;refine ?end0
  case' ord1=>go_simp;refine y _ _ ?_;clear y K;refine wpAnyIn_ready (rs:=[0,2]) (by kernel_rfl) (by simp) ?_;refine AllReadyIn.cons rfl (fun K y=>?ord2)<|AllReadyIn.cons rfl (fun K y=>?ord3) AllReadyIn.nil
  case' ord2=>go_simp;refine y _ _ ?_;clear y K;refine wpAnyIn_ready (rs:=[2]) (by kernel_rfl) (by simp) ?_;refine AllReadyIn.cons rfl (fun K y=>?_) AllReadyIn.nil;go_simp;refine⟨trivial,(CallsIn.inRound l<|Eh.2<|Ef x _<|by omega).mono ?_⟩;rintro e W5⟨rfl,h4⟩;have hk:=(Qc [] W4).drew.trans h4 (by simp);have c5:=(h8.o.kept hk).hs.cell (i:=0) (u:=vs) rfl;have x5:=(h8.o.kept hk).hs.lt;clear h4 c4 x4;refine y _ _ ?_;clear y K;refine wpAnyIn_ready (rs:=[3]) (by kernel_rfl) (by simp) ?_;refine AllReadyIn.cons rfl (fun K y=>?_) AllReadyIn.nil;go_simp;refine y _ _ ?_;clear y K;refine ?end1
  case' ord3=>go_simp;refine⟨trivial,(CallsIn.inRound l<|Eh.2<|Ef x _<|by omega).mono ?_⟩;rintro e W5⟨rfl,h4⟩;have hk:=(Qc [] W4).drew.trans h4 (by simp);have c5:=(h8.o.kept hk).hs.cell (i:=0) (u:=vs) rfl;have x5:=(h8.o.kept hk).hs.lt;clear h4 c4 x4;refine y _ _ ?_;clear y K;refine wpAnyIn_ready (rs:=[0,3]) (by kernel_rfl) (by simp) ?_;refine AllReadyIn.cons rfl (fun K y=>?ord4)<|AllReadyIn.cons rfl (fun K y=>?ord5) AllReadyIn.nil
  case' ord4=>go_simp;refine y _ _ ?_;clear y K;refine wpAnyIn_ready (rs:=[3]) (by kernel_rfl) (by simp) ?_;refine AllReadyIn.cons rfl (fun K y=>?_) AllReadyIn.nil;go_simp;refine y _ _ ?_;clear y K;refine ?end2
  case' ord5=>go_simp;refine y _ _ ?_;clear y K;refine wpAnyIn_ready (rs:=[0]) (by kernel_rfl) (by simp) ?_;refine AllReadyIn.cons rfl (fun K y=>?_) AllReadyIn.nil;go_simp;refine y _ _ ?_;clear y K;refine ?end3
  all_goals
   obtain⟨g6,h5,W6,y2,f4,d9,e0,c6,f6⟩:=HN.o _ hk;refine wpAnyIn_ready (rs:=[4]) (by kernel_rfl) (by simp) ?_;refine AllReadyIn.cons rfl (fun K y=>?_) AllReadyIn.nil;refine Qcp (v:=.slice (some ⟨g6,0,none⟩) 1 h5) (w':=W6) rfl _ _ 206 rfl y2 ?_;refine y _ _ ?_;clear y K;refine wpAnyIn_ready (rs:=[5]) (by kernel_rfl) (by simp) ?_;refine AllReadyIn.cons rfl (fun K y=>?_) AllReadyIn.nil;go_simp;refine y _ _ ?_;clear y K;refine wpAnyIn_done (by kernel_rfl) ?_ _
   gi_wp2_with fail
   exact⟨d9,e0,_,_,f4⟩
 rintro D xs W hD hS⟨va,vs,hp⟩ y;have b6:xs.length≤1:=by rw[hS];split<;>simp
 have⟨X,hX⟩:=qx<|(xs.map fun x=>XQ x.data.toList);have⟨Y,hY⟩:=qx<|(Qk Zh::xs.map fun x=>XE x.data.toList);have g9:X.length≤1:=by rw[←hX];simpa using b6
 have⟨HX,HY⟩:=qb (by rw[←hX,hS,Zo];split<;>rfl:X=if s.data.toList.length=0 then []else [XQ s.data.toList]) (by rw[←hY,hS,Zo];split<;>rfl:Y=Qk Zh::if s.data.toList.length=0 then []else [XE s.data.toList]);rw[hX,hY]at hp;obtain⟨a,c,rfl,-,-,-,-⟩:=hp.hrs.sees;have⟨HP,HD⟩:=qb hp y;clear hp y hS hX hY b6;go_wp2_with fail;refine(Dq _).mono ?_;rintro e w1⟨b,rfl,b3,x8,a8⟩;go_wp2_with fail;refine(EF x8 a8 b3 _ 25779555029136 48 (by rfl) (by decide) (by decide)<|by simp).mono ?_;rintro e w2⟨rfl,o2,b4,q5,e9⟩;have y1:=HP.o.kept q5;have c1:=y1.hs.cell (i:=0) (u:=.slice a X.length c) rfl;obtain⟨a',c',he,-,-,p4,-⟩:=y1.hrs.sees;injection he with e1 e2 e3;subst e1 e3;clear e2;have x3:=Qa y1;clear b3 x8 a8 y1;go_wp2_with fail;refine(jQ a c X _ p4<|by omega).mono ?_;rintro e w3⟨rfl,rfl⟩;obtain⟨q,hq⟩:∃q:Nat,JZ 0 X=(q:Int)∧q<2^32:=by have h:Zf (JZ 0 X):=Gv X 0 (by unfold Zf;omega);exact⟨(JZ 0 X).toNat,(Rs h.1).symm,by have:=h.2;omega⟩
 obtain⟨r0,f9⟩:=hq;have HQ:=Qa r0;have i8:(q:Int)<4294967296:=by omega
 rw[r0];clear p4 c1 r0;go_wp2_with fail;refine(EF q5 e9 b4 _ q 32 (by rfl) (by decide) (by simpa using f9)<|by simp[X0]).mono ?_;rintro e w4⟨rfl,o4,p5,p2,i6⟩;have hh:([]:List Bool)++K.low 25779555029136 48++K.low q 32=K.low 25779555029136 48++K.low q 32:=by simp
 rw[hh]at p5;have⟨Z,hZ⟩:=qx<|K.low 25779555029136 48++K.low q 32;have z8:Z.length=80:=by rw[←hZ];simp[X0]
 rw[hZ]at p5;have d8:=Qa hZ;have h3:=HP.o.kept p2;have c2:=h3.ha.cell (i:=0) (u:=va) rfl;have x2:=h3.ha.lt;have⟨h8,r4⟩:=qb h3 fun(W:World)(h:Qb [] w4 W)=>p5.kept h<|ZM _;have i1:Y.length≤2:=by have:=HY.o;rw[this];split<;>simp
 have hv:Yl (YW Y)++[.string ⟨(Qv Z).toArray⟩,.int .i64 80]=Yl (YW<|Y++[Z]):=by simp[Yl,YW,str,z8]
 have HV:=Qa hv;have h9:ga∉Qd va:=fun h=>(h3.hf _<|.inl h).2.1 rfl
 have d3:=Qa h9;have M1:Y.length+1≤maxLen:=by simp only[maxLen];omega
 have M2:(Y.length+1)*24≤140737488355328:=by omega
 obtain⟨TT,y4⟩:∃T,str (Qv (Y++[Z]).flatten)=T:=⟨_,rfl⟩;obtain⟨NN,a6⟩:∃N:Int,(((Y++[Z]).flatten.length:Nat):Int)=N:=⟨_,rfl⟩;have d5:=Qa y4;have HJ:=Qa (show ∀W g c,Qn W 204 2 (.slice (some ⟨g,0,none⟩) (Y.length+1) c) (Y.length+1) (Yl<|YW<|Y++[Z])→Calls prog 121 #[.slice (some ⟨g,0,none⟩) (Y.length+1) c] W fun e w'=>e=.returned (.tuple #[.agg #[TT,NN],(0:Int)])∧Qb [] W w' from by
  intro W g c hr;obtain⟨aa,cc,he,-,-,p4,-⟩:=hr.sees;injection he with e1 e2 e3;subst e1;have b1:(Y++[Z]).length=Y.length+1:=by simp
  have a7:0<s.data.toList.length→(XE s.data.toList).length≤700000:=fun h=>TJ _ h (by rwa[Zo])
  have hj:=cA (Y++[Z]) (some ⟨g,0,none⟩) c W (by rwa[b1]) (by
   rw[HY.o]
   split
   ·simp[Yq,YW,Jl,Jz,Ub,z8,Yt,Zh]
   ·have:=a7 (by omega);simp[Yq,YW,Jl,Jz,Ub,z8,Yt,Zh];omega) (by omega) (by
   intro b hb;rw[HY.o]at hb;rcases Q6.1 hb with hb|hb
   ·rcases QE.1 hb with rfl|hb
    ·simp[Yt,Zh]
    split at hb
    ·cases hb
    have:=a7 (by omega);simp at hb;subst hb;omega
   simp at hb;subst hb;omega)
  rw[b1]at hj;unfold Zg at hj;rwa[←y4,←a6])
 have b8:=Qa (show ∀W' o,Qb (Qd va) ((w4.alloc<|.cells #[.string ⟨#[]⟩,(0:Int)] 204).alloc o).drew W'→Qe W' w4.heap.size 204 [.string ⟨#[]⟩,(0:Int)]from fun W' o hk=>((Qy w4 [.string ⟨#[]⟩,(0:Int)] 204).alloc o).kept (Qb.trans (Qc (Qd va) _).drew hk fun x hx=>.inl hx) (fun h=>by have:=h3.hra.lt _ h;omega));have b9:=Qa (show ∀W' o,Qb (Qd va) ((w4.alloc o).alloc<|.cells #[.string ⟨#[]⟩,(0:Int)] 204).drew W'→Qe W' (w4.heap.size+1) 204 [.string ⟨#[]⟩,(0:Int)]from fun W' o hk=>(Qe.newAt (w4.alloc o) [.string ⟨#[]⟩,(0:Int)] 204 (w4.heap.size+1)<|by simp).kept (Qb.trans (Qc (Qd va) _).drew hk fun x hx=>.inl hx) (fun h=>by have:=h3.hra.lt _ h;omega));have g7:=Qa (show ∀o o',Qp (((w4.alloc o).alloc<|.cells #[.string ⟨(Qv Z).toArray⟩,(80:Int)] 204).alloc o').drew 2 (w4.heap.size+1:Nat) 1 [.string ⟨(Qv Z).toArray⟩,(80:Int)]from fun o o'=>((Qe.newAt (w4.alloc o) [.string ⟨(Qv Z).toArray⟩,(80:Int)] 204 (w4.heap.size+1)<|by simp).alloc o').sees (size:=2) (n:=1) rfl);have d1:=Qa (show ∀W6 w7 w8 p,Qb (Qd va) w4 W6→Qb [] W6 w7→Qb [] w7 w8→Qe w8 p 204 [.string ⟨#[]⟩,(0:Int)]→w4.heap.size≤p→
  LP w r6 r7 D TT NN (.pointer<|some ⟨p,0,none⟩) (0:Int) ((w8.setCell ⟨p,0,none⟩<|.string TT).setCell ⟨p,1,none⟩ NN)from by
  intro W6 w7 w8 p k1 k2 k3 hA hp;have z6:=h3.h6.lt;have z7:=h3.h7.lt;have zk:=h3.hk.size;have k4:Qb [p] w8 ((w8.setCell ⟨p,0,none⟩<|.string TT).setCell ⟨p,1,none⟩ NN):=((Qc [p] w8).setCell (p:=⟨p,0,none⟩) (by simp) _).setCell (p:=⟨p,1,none⟩) (by simp) _;have y5:=p2.heap HD.o (by simp);have zd:=(Rq.1 y5).1;have hD:D∉Qd va:=fun h=>by obtain⟨o,h1,h2⟩:=h3.hra.cells _ h;rw[y5]at h1;injection h1 with h1;subst h1;cases h2
  have n6:r6∉Qd va:=fun h=>(h3.hf _<|.inl h).2.2.2.1 rfl
  have n7:r7∉Qd va:=fun h=>(h3.hf _<|.inl h).2.2.2.2.1 rfl
  exact⟨p,rfl,rfl,(hA.set 0 _).set 1 _,(((h3.h6.kept k1 n6).kept k2<|by simp).kept k3<|by simp).kept k4 (by simp;omega),(((h3.h7.kept k1 n7).kept k2<|by simp).kept k3<|by simp).kept k4 (by simp;omega),
   (((h3.hk.trans k1 fun x hx=>.inr (h3.hf x<|.inl hx).1).trans k2<|by simp).trans k3<|by simp).trans k4 (by intro x hx;simp at hx;right;omega),by omega,by omega,k4.heap (k3.heap (k2.heap (k1.heap y5 hD)<|by simp)<|by simp) (by simp;omega)⟩)
 have d2:=Qa (show ∀W6 w7,Qb (Qd va) w4 W6→Qb [] W6 w7→LP w r6 r7 D TT NN (.pointer<|some ⟨w7.heap.size,0,none⟩) (0:Int) (w7.alloc<|.cells #[TT,NN] 204)from by
  intro W6 w7 k1 k2;have z6:=h3.h6.lt;have z7:=h3.h7.lt;have s1:=k1.size;have s2:=k2.size;have k3:Qb [] w7 (w7.alloc<|.cells #[TT,NN] 204):=(Qc _ _).alloc _;have y5:=p2.heap HD.o (by simp);have hD:D∉Qd va:=fun h=>by obtain⟨o,h1,h2⟩:=h3.hra.cells _ h;rw[y5]at h1;injection h1 with h1;subst h1;cases h2
  have n6:r6∉Qd va:=fun h=>(h3.hf _<|.inl h).2.2.2.1 rfl
  have n7:r7∉Qd va:=fun h=>(h3.hf _<|.inl h).2.2.2.2.1 rfl
  exact⟨_,rfl,rfl,Qy w7 [TT,NN] 204,((h3.h6.kept k1 n6).kept k2<|by simp).kept k3<|by simp,((h3.h7.kept k1 n7).kept k2<|by simp).kept k3<|by simp,
   ((h3.hk.trans k1 fun x hx=>.inr (h3.hf x<|.inl hx).1).trans k2<|by simp).trans k3 (by simp),by omega,by omega,k3.heap (k2.heap (k1.heap y5 hD)<|by simp) (by simp)⟩)
 clear y4 a6 hv h9 h3 p5 p2 b4 q5 hh
 go_upto_region 17 with(fail)
 go_cut [14,15]from 72 to 83 (fun g2 g5 w'=>LP w r6 r7 D TT NN g2 g5 w')
 ·go_region_held3 (fun w'=>w'.cell? ⟨ga,0,none⟩=some va) (first|exact c2|exact((Qc [] w4).alloc _).cZ c2 (by simp)|exact(((Qc [] w4).alloc _).alloc _).cZ c2 (by simp)|exact c6|exact((Qc [] W6).alloc _).cZ c6 (by simp)|exact c7|exact((Qc [] w7).alloc _).cZ c7 (by simp)|exact iO c7 (by omega)|exact iO (((Qc [] w7).alloc _).cZ c7<|by simp) (by omega)|go_keep)
   (first
     |(go_at_call 122;refine(Dx _ b o4 _<|r4.o _<|by first|exact(Qc [] w4).drew|exact((Qc [] w4).alloc _).drew).mono ?_;rintro e w5⟨rfl,rfl⟩)
     |(go_at_call 123;refine(Dj _ b o4 _<|r4.o _<|by first|exact(Qc [] w4).drew|exact((Qc [] w4).alloc _).drew).mono ?_;rw[z8];rintro e w5⟨rfl,rfl⟩)
     |(refine Gs rfl _ _ 205 rfl 204 (.agg #[.string ⟨#[]⟩,(0:Int)]) 2 24 Tc LZ rfl (by decide) va Y.length (Yl<|YW Y) [.string ⟨(Qv Z).toArray⟩,(80:Int)] _ rfl rfl
        (by first
         |exact(Qy w4 [.string ⟨(Qv Z).toArray⟩,(80:Int)] 204).sees (size:=2) (n:=1) rfl
         |exact((Qy w4 [.string ⟨(Qv Z).toArray⟩,(80:Int)] 204).alloc _).sees (size:=2) (n:=1) rfl
         |exact(Qe.newAt (w4.alloc _) [.string ⟨(Qv Z).toArray⟩,(80:Int)] 204 (w4.heap.size+1)<|by simp).sees (size:=2) (n:=1) rfl) (by simp[Value.oneCell'])
        (by first|exact h8.o.hra.kept ((Qc [] w4).alloc _).drew (ZM _)|exact h8.o.hra.kept (((Qc [] w4).alloc _).alloc _).drew<|ZM _) M1 M2 ?_
       intro g6 h5 W6 y6 x0 i7;rw[HV.o]at y6;have p8:Qb (Qd va) w4 W6:=(by first|exact(((Qc (Qd va) w4).alloc _).drew).trans x0 (fun x hx=>.inl hx)|exact((((Qc (Qd va) w4).alloc _).alloc _).drew).trans x0 fun x hx=>.inl hx);have z46:=p8.size;have c6:W6.cell? ⟨ga,0,none⟩=some va:=p8.cZ c2 d3.o
       first
        |(have B6:=b8.o _ _ x0;have e6:=B6.cell (i:=0) (u:=.string ⟨#[]⟩) rfl;have d6:=B6.cell (i:=1) (u:=.int .i64 0) rfl;have p6:=B6.free 0;have q6:=B6.free 1;have x6:=B6.lt;clear x0)
        |(have B6:=b9.o _ _ x0;have e6:=B6.cell (i:=0) (u:=.string ⟨#[]⟩) rfl;have d6:=B6.cell (i:=1) (u:=.int .i64 0) rfl;have p6:=B6.free 0;have q6:=B6.free 1;have x6:=B6.lt;clear x0)
        |clear x0)
     |(go_at_call 121;refine(HJ.o _ _ _<|by first|exact y6|exact y6.kept ((Qc [] _).alloc _)<|ZM _).mono ?_
       rintro e w7⟨rfl,y0⟩;have p9:Qb [] W6 w7:=(by first|exact y0|exact((Qc [] W6).alloc _).trans y0<|by simp);have j2:=p9.size;have c7:w7.cell? ⟨ga,0,none⟩=some va:=p9.cZ c6 (by simp)
       first
        |(have B7:=B6.kept y0 (by simp);clear e6 d6 p6 q6 x6;have e7:=B7.cell (i:=0) (u:=.string ⟨#[]⟩) rfl;have d7:=B7.cell (i:=1) (u:=.int .i64 0) rfl;have p7:=B7.free 0;have q7:=B7.free 1;have x7:=B7.lt;clear y0)
        |(have B7:=(Qy W6 [.string ⟨#[]⟩,(0:Int)] 204).kept y0 (by simp);have e7:=B7.cell (i:=0) (u:=.string ⟨#[]⟩) rfl;have d7:=B7.cell (i:=1) (u:=.int .i64 0) rfl;have p7:=B7.free 0;have q7:=B7.free 1;have x7:=B7.lt;clear y0)
        |clear y0))
  all_goals
   go_wp2
   go_meet
   first
    |exact d1.o W6 w7 _ _ p8 p9 (Qc _ _) B7 (by omega)
    |exact d2.o W6 w7 p8 p9
 obtain⟨p,rfl,rfl,hB,h6,h7,hk,n6,n7,hd⟩:=hcut;have hne:=h8.o.hne;have b7:r6≠r7:=by have:=HE.o;omega
 have g0:r7≠r6:=fun e=>b7 e.symm
 have c0:=hB.cell (i:=0) (u:=.string TT) rfl;have c6:=h6.cell (i:=0) (u:=.string ⟨#[]⟩) rfl;have c7:=h7.cell (i:=0) (u:=.int .i64 0) rfl;have f6:=h6.free 0;have f7:=h7.free 0;have r5:=(h6.set 0<|.string TT).kept ((Qc [r7] _).setCell (p:=⟨r7,0,none⟩) (by simp) (0:Int)) (by simpa using b7);have r9:=(h7.kept ((Qc [r6] _).setCell (p:=⟨r6,0,none⟩) (by simp)<|.string TT)<|by simpa using g0).set 0 (0:Int);have a1:=(hk.setCell (p:=⟨r6,0,none⟩) (.inr (by have:=HE.o;show w.heap.size≤r6;omega))<|.string TT).setCell (p:=⟨r7,0,none⟩) (.inr (by have:=HE.o;show w.heap.size≤r7;omega)) (0:Int);have⟨c9,d0,d4,c8⟩:=qd r5 r9 a1 hd;clear r5 r9 a1 hB h6 h7 hk hd hne;go_wp2_with fail;have e8:((wc.setCell ⟨r6,0,none⟩<|.string TT).setCell ⟨r7,0,none⟩ (0:Int)).heap[D]?=some (.deferred<|some []):=by have zD:=HZ.o;have zE:=HE.o;exact((((Qc [r6,r7] wc).setCell (p:=⟨r6,0,none⟩) (by simp) _).setCell (p:=⟨r7,0,none⟩) (by simp) _).heap c8.o (by simp;omega))
 refine⟨by simp,.inl ⟨_,_,rfl,run_takeDeferred e8,?_⟩⟩;have zD:=HZ.o;have zE:=HE.o;have q8:Qb [D] ((wc.setCell ⟨r6,0,none⟩<|.string TT).setCell ⟨r7,0,none⟩ (0:Int)) (((wc.setCell ⟨r6,0,none⟩<|.string TT).setCell ⟨r7,0,none⟩ (0:Int)).putObj D<|.deferred none):=(Qc _ _).put (by simp) _;have q6:=(c9.o.kept q8 (by simp;omega)).cell (i:=0) (u:=.string TT) rfl;have q7:=(d0.o.kept q8 (by simp;omega)).cell (i:=0) (u:=.int .i64 0) rfl;have y4:=d5.o;have f1:(Y++[Z]).flatten=XB s.data.toList:=by
  rw[HY.o,←d8.o];unfold XB;rw[←HX.o,HQ.o,Zs]
  split<;>simp
 rw[f1]at y4;exact⟨.tuple #[TT,(0:Int)],by simp[results,results80,go_sem,q6,q7],by rw[y4],d4.o.trans q8 (by intro x hx;simp at hx;right;omega)⟩
end
def Oj(l)(a:l.length≤8192):32≤(XB l).length∧(XB l).length≤700200:=by
 have h0:0<l.length→(XE l).length≤700000:=fun b=>TJ l b a
 unfold XB;simp only[Qo,Yt,X0]
 by_cases hz:l.length=0
 ·rw[Qg hz,Yg];simp[Zh]
 rw[Qf hz];have:=h0 (by omega);simp[Zh];omega
section
structure Vst where
 dev:QI
 gen:Nat
 next:Nat
 mem:List RM
namespace K
abbrev QC:=LU × LU
def Xe(m:RM):QN:=(m.start,m.eZ)
noncomputable def X1(f:QC):LU:=JQ f.1 f.2.length++X9 (Qv (XB f.2))
noncomputable def ZV(f:QC):Nat:=(X1 f).length/512
noncomputable def Y7(f:QC):LY:=Ry (ZV f) (X1 f)
end K
namespace Vst
open K
def exts(s:Vst):List QN:=s.mem.map Xe
noncomputable def save(s:Vst):Vst:={s with dev:=(s.dev.wr ((s.gen+1)%2*5) (UT (s.gen+1) s.mem)).tick 1,gen:=s.gen+1,next:=0}
noncomputable def room(s:Vst)(n:Nat):Vst:=if n+s.next≤20 then s else s.save
noncomputable def commit(s:Vst)(ns:List Note):Vst:={s with dev:=(s.dev.wr (10+s.next) (RJ s.gen s.next ns)).tick 1,next:=s.next+ns.length+1,mem:=Zn s.mem ns}
noncomputable def write(s:Vst)(l:List (QC × QN)):Vst:={s with dev:=(l.foldl (fun b a=>b.wr a.2.1.toNat (Y7 a.1)) s.dev).tick 1}
noncomputable def alloc(cap:Int):List QN→List QC→Option (List (QC × QN))
 |_,[]=>some []
 |u,f::r=>(Y5 cap u (ZV f)).bind fun a=>(alloc cap (u++[(a,(ZV f:Int))]) r).map ((f,(a,(ZV f:Int))):: ·)
noncomputable def noteF(x:QC × QN):Note:=(true,⟨x.1.1,x.2.1,x.2.2,x.1.2.length,Yw x.1.2⟩)
def bad:List QC→Int
 | []=>0
 |f::r=>if Yp f.1=false then 140 else if 8192<f.2.length then 3 else bad r
noncomputable def put(s:Vst)(l:List QC):Int × Vst:=
 if bad l≠0 then(bad l,s)
 else if ¬(l.map (·.1)).Nodup then(2,s)
 else if 16<(Zn s.mem (l.map fun a=>noteF (a,(0,0)))).length then(241,s)
 else match alloc s.dev.cap s.exts l with
  |none=>(220,s)
  |some xs=>if l=[]then(0,s)else(0,((s.room (l.length+1)).write xs).commit (xs.map noteF))
def find(s:Vst)(p:LU):Int × RM:=
 if Yp p=false then(140,⟨[],0,0,0,0⟩)else match s.mem.find? (fun a=>a.path==p)with
  |none=>(240,⟨[],0,0,0,0⟩)
  |some a=>(0,a)
noncomputable def del(s:Vst)(p:LU):Int × Vst:=
 if(s.find p).1≠0 then((s.find p).1,s)else(0,(s.room 2).commit [(false,⟨p,0,0,0,0⟩)])
def sct(s:Vst)(m:RM):LY:=(s.dev.img.drop m.start.toNat).take m.eZ.toNat
noncomputable def move(s:Vst)(p:LU)(tg:Int):Int × Vst:=
 if(s.find p).1≠0 then((s.find p).1,s)
 else if ZX s.dev.cap (s.exts++[(tg,(s.find p).2.eZ)])=false then(2,s)
 else(0,Vst.commit {s.room 2 with dev:=((s.room 2).dev.wr tg.toNat (s.sct (s.find p).2)).tick ((s.find p).2.eZ.toNat+1)} [(true,{(s.find p).2 with start:=tg})])
def endX(l:List QN):Int:=l.foldl (fun b a=>max b (a.1+a.2)) 30
def trim(s:Vst):Int × Vst:=if(s.dev.img.length:Int)≤endX s.exts then(0,s)else(0,{s with dev:=(s.dev.cut (endX s.exts).toNat).tick 1})
noncomputable def pull:List RM→Int→Vst→Int × Vst
 | [],_,s=>s.trim
 |m::r,t,s=>
  let a:=if m.start-t<m.eZ∧m.start≠t then(match Y5 s.dev.cap s.exts m.eZ with|none=>(220,s)|some g=>s.move m.path g)else(0,s)
  if a.1≠0 then a else
  let b:=if m.start≠t then a.2.move m.path t else(0,a.2)
  if b.1≠0 then b else pull r (t+m.eZ) b.2
def bZ(l:List RM):List RM:=l.mergeSort fun a b=>decide (a.start≤b.start)
noncomputable def compact(s:Vst):Int × Vst:=pull (bZ s.mem) 30 s
end Vst
end
section
def Kv{α}{R:α→α→Prop}(e:∀{a b},R a b→R b a):∀{l:List α},l.Pairwise R→∀{a b},a∈l→b∈l→a≠b→R a b
 | [],_,a,_,h,_,_=>by simp at h
 |x::l,hp,a,b,ha,hb,hn=>by
  have hp:=Vm.1 hp;rcases QE.1 ha with c|c<;>rcases QE.1 hb with d|d
  ·exact absurd (c.trans d.symm) hn
  ·subst c;exact hp.1 b d
  ·subst d;exact e<|hp.1 a c
  exact Kv e hp.2 c d hn
namespace K
def Rg{f:QC}(hp:f.1.length≤120)(c:f.2.length≤8192):(X1 f).length=512*ZV f∧2≤ZV f∧ZV f≤200:=by
 have b:=Ng f.1 f.2.length hp;have a:=AM<|Qv<|XB f.2;have:=Oj f.2 c;rw[Ub]at a;have c:(X1 f).length=(JQ f.1 f.2.length).length+((XB f.2).length+7)/8/1*0+(X9<|Qv<|XB f.2).length:=by unfold X1;rw[Qo];omega
 unfold ZV;rw[c,a];rcases b with a|a<;>rw[a]<;>omega
def Ap(f:QC):(Y7 f).length=ZV f:=Wf _ _
def Gm{f:QC}(hp:f.1.length≤120)(a:f.2.length≤8192):∀x∈Y7 f,x.length=512:=Wg _ _ (Rg hp a).1
def Ov(kind gen i d)(a:d.length≤489):(Vv kind gen i d).length=512:=by simp only[Vv,Qo,Bu,VA,Q0,Yg];omega
def Qbm(m):(JS m).length=m.path.length+11:=by simp only[JS,Qo,Bu];omega
def Ow(gen):∀(ns:List Note)(i:Nat),(JX gen i ns).length=ns.length
 | [],_=>rfl
 |n::r,i=>by rw[JX,Q0,Ow gen r,Q0]
def Cx(gen i ns):(RJ gen i ns).length=ns.length+1:=by rw[RJ,Qo,Ow];rfl
def eU{n}(a:n.2.path.length≤120):(AW n).length≤131:=by
 unfold AW
 split
 ·rw[Qbm];omega
 omega
def gJ(gen):∀(ns:List Note)(i:Nat),(∀n∈ns,n.2.path.length≤120)→∀x∈JX gen i ns,x.length=512
 | [],_,_=>by simp[JX]
 |n::r,i,h=>by
  intro x a;rw[JX]at a;rcases QE.1 a with rfl|a
  ·exact Ov _ _ _ _ (by have:=eU (h n<|by simp);omega)
  exact gJ gen r (i+1) (fun c b=>h c<|by simp[b]) x a
def gH(gen i){ns}(b:∀n∈ns,n.2.path.length≤120):∀x∈RJ gen i ns,x.length=512:=by
 intro x a;rcases Q6.1 a with a|a
 ·exact gJ gen ns i b x a
 rw[Za.1 a];exact Ov _ _ _ _ (by simp)
def iT(gen):∀(n i:Nat)(l:LU),(Uw gen n i l).length=n
 |0,_,_=>rfl
 |n+1,i,l=>by rw[Uw,Q0,iT gen n]
def iV(gen):∀(n i:Nat)(l:LU),∀x∈Uw gen n i l,x.length=512
 |0,_,_=>by simp[Uw]
 |n+1,i,l=>by
  intro x a;rw[Uw]at a;rcases QE.1 a with rfl|a
  ·exact Ov _ _ _ _ (by rw[Zl];omega)
  exact iV gen n _ _ x a
def CB(gen l):(UT gen l).length=5:=iT _ _ _ _
def OQ(gen l):∀x∈UT gen l,x.length=512:=iV _ _ _ _
end K
open K
structure Bq(img:LY)(m:RM)(c:LU):Prop where
 ok:Yp m.path=true
 big:c.length≤8192
 size:m.size=c.length
 sum:m.sum=Yw c
 eZ:m.eZ=ZV (m.path,c)
 holds:UC img m.start.toNat (Y7 (m.path,c))
def Bq.img{img b m c}(a:Bq img m c)(d:UC img m.start.toNat (Y7 (m.path,c))→UC b m.start.toNat (Y7 (m.path,c))):Bq b m c:=
 ⟨a.ok,a.big,a.size,a.sum,a.eZ,d a.holds⟩
structure Vok(s:Vst)(c:LU→LU):Prop where
 dev:s.dev.Ok
 pZ:31≤s.dev.cap
 gen:s.gen≤s.dev.lZ
 next:s.next≤20
 rise:U5 s.mem
 few:s.mem.length≤16
 mems:∀m∈s.mem,Bq s.dev.img m (c m.path)
 ext:ZX s.dev.cap s.exts=true
namespace Vok
variable {s:Vst} {c:LU→LU}
def inX(a:Vok s c){m}(b:m∈s.mem):30≤m.start∧1≤m.eZ∧m.start+m.eZ≤s.dev.cap:=
 ((YD _ _).1 a.ext).1 (Xe m) (Ue b)
def apart(d:Vok s c){a b}(ha:a∈s.mem)(hb:b∈s.mem)(f:a.path≠b.path):Uj (Xe a) (Xe b):=by have e:=(V5.1 (((YD _ _).1 d.ext).2:(s.mem.map Xe).Pairwise Uj));exact Kv (R:=fun a b=>Uj (Xe a)<|Xe b) (fun d=>d.symm) e ha hb fun d=>f<|d▸rfl
def plen(a:Vok s c){m}(b:m∈s.mem):m.path.length≤120:=(YK (a.mems m b).ok).2.2
end Vok
def MX{cap l}(f:U5 l)(c:∀m∈l,inX cap<|Xe m)(d:∀a∈l,∀b∈l,a.path≠b.path→Uj (Xe a) (Xe b)):ZX cap (l.map Xe)=true:=by
 refine(YD _ _).2 ⟨fun e g=>?_,V5.2 ?_⟩
 ·obtain⟨m,e,rfl⟩:=QB.1 g;exact c m e
 exact f.imp_of_mem fun {a b} ha hb h=>d a ha b hb<|Ez h
def QI.Ok.wrL{s:QI}(a:s.Ok){i L}(hi:i+L.length≤s.cap)(c:∀x∈L,x.length=512)(n)(b:s.lZ+L.length+n≤1000000000):((s.wr i L).tick n).Ok:=
 ⟨a.c1,a.c2,by have:=a.len;show(K.wrL s.img i L).length≤s.cap;rw[KX];split<;>omega,lP a.sec c,b⟩
def Vok.save{s c}(a:Vok s c)(b:s.dev.lZ+6≤1000000000):Vok s.save c:=by
 have:=CB (s.gen+1) s.mem;have:=a.pZ;have:=a.gen;refine⟨a.dev.wrL (by omega) (OQ _ _) 1<|by omega,a.pZ,?_,ZF _,a.rise,a.few,fun d b=>(a.mems d b).img fun d=>d.wr _<|.inr ?_,a.ext⟩
 ·show s.gen+1≤s.dev.lZ+(UT (s.gen+1) s.mem).length+1;omega
 have:=(a.inX b).1;omega
def Vok.room{s c}(a:Vok s c)(n)(b:s.dev.lZ+6≤1000000000):Vok (s.room n) c:=by
 unfold Vst.room
 split
 ·exact a
 exact a.save b
def Vst.room_next{s:Vst}{n}(a:n≤20):n+(s.room n).next≤20:=by
 unfold Vst.room
 split
 ·assumption
 exact a
def Vst.room_calls(s:Vst)(n):s.dev.lZ≤(s.room n).dev.lZ∧(s.room n).dev.lZ≤s.dev.lZ+6:=by
 unfold Vst.room
 split
 ·omega
 show s.dev.lZ≤s.dev.lZ+(UT (s.gen+1) s.mem).length+1∧s.dev.lZ+(UT (s.gen+1) s.mem).length+1≤_;rw[CB];omega
def Vst.room_same(s:Vst)(n):(s.room n).mem=s.mem∧(s.room n).dev.cap=s.dev.cap∧s.dev.img.length≤(s.room n).dev.img.length∧∀k,10≤k→k<s.dev.img.length→(s.room n).dev.img[k]?=s.dev.img[k]?:=by
 unfold Vst.room
 split
 ·exact⟨rfl,rfl,Ql _,fun _ _ _=>rfl⟩
 refine⟨rfl,rfl,?_,fun k hk a=>?_⟩
 ·show _≤(wrL s.dev.img ((s.gen+1)%2*5)<|UT (s.gen+1) s.mem).length;rw[KX];split<;>omega
 exact CJ _ _ _ _ (.inr (by rw[CB];omega)) a
def Vok.commit{s c c'}(a:Vok s c){ns:List Note}(f:s.next+ns.length+1≤20)(hp:∀n∈ns,n.2.path.length≤120)(hf:(Zn s.mem ns).length≤16)(b:∀m∈Zn s.mem ns,Bq s.dev.img m<|c' m.path)(d:ZX s.dev.cap ((Zn s.mem ns).map Xe)=true)(e:s.dev.lZ+ns.length+2≤1000000000):Vok (s.commit ns) c':=by
 have:=Cx s.gen s.next ns;have:=a.pZ;have:=a.gen;have e:∀m∈Zn s.mem ns,30≤m.start:=fun m b=>(((YD _ _).1 d).1 (Xe m) (Ue b)).1
 refine⟨a.dev.wrL (by omega) (gH _ _ hp) 1<|by omega,a.pZ,?_,f,OB a.rise,hf,fun m a=>(b m a).img fun b=>b.wr _<|.inr ?_,d⟩
 ·show s.gen≤s.dev.lZ+(RJ s.gen s.next ns).length+1;omega
 have:=e m a;omega
end
def GC{α}[DecidableEq α](f:α→Nat):∀{l l':List α},l.Nodup→(∀x∈l,x∈l')→(l.map f).sum≤(l'.map f).sum
 | [],l',_,_=>by simp
 |x::l,l',h,hs=>by
  have h:=Rt.1 h;have h1:=GC f (l:=l) (l':=l'.erase x) h.2 (fun y o=>by have q:=hs y<|XW _ o;exact(List.mem_erase_of_ne (by intro e;subst e;exact h.1 o)).2 q);have h2:(l'.map f).sum=f x+((l'.erase x).map f).sum:=by have:=(GR<|hs x<|YH ..).map f;have:=this.sum_nat;simpa using this
  rw[QR,Z9];omega
namespace K
def Ns(p:LU):LY→LY
 | []=>[p]
 |x::r=>if Xd p x<0 then p::x::r else if Xd p x=0 then p::r else x::Ns p r
def Nt(m):∀l,(Vs m l).map (·.path)=Ns m.path (l.map (·.path))
 | []=>rfl
 |x::r=>by
  rw[Vs,XY,QR,Ns]
  split
  ·rfl
  split
  ·rfl
  rw[QR];exact Qu _<|Nt m r
def WC(p l):(Ci p l).map (·.path)=(l.map (·.path)).filter fun x=>!(x==p):=by unfold Ci UK;rw[List.filter_map];rfl
def Tz:∀{ns ns':List Note}{l l':List RM},l.map (·.path)=l'.map (·.path)→ns.map (fun n=>(n.1,n.2.path))=ns'.map (fun n=>(n.1,n.2.path))→(Zn l ns).map (·.path)=(Zn l' ns').map (·.path)
 | [],ns',l,l',h,hn=>by rw[YG]at hn;rwa[List.map_eq_nil_iff.1 hn.symm]
 |n::ns,[],l,l',h,hn=>by simp at hn
 |n::ns,n'::ns',l,l',h,hn=>by
  simp only[QR,List.cons.injEq,Prod.mk.injEq]at hn;unfold Zn;rw[BW,BW];refine Tz ?_ hn.2;unfold Bd;rw[hn.1.1]
  split
  ·rw[Nt,Nt,hn.1.2,h]
  rw[WC,WC,hn.1.2,h]
end K
namespace Vst
def mem_puts:∀{xs:List (QC × QN)}{l:List RM},U5 l→(xs.map (·.1.1)).Nodup→∀{m:RM},m∈Zn l (xs.map noteF)↔(∃x∈xs,m=(noteF x).2)∨(m∈l∧∀x∈xs,m.path≠x.1.1)
 | [],l,_,_,m=>by simp[Zn]
 |y::xs,l,hr,q,m=>by
  rw[QR]at q;have q:=Rt.1 q;have ih:=mem_puts (xs:=xs) (l:=Vs (noteF y).2 l) (Cz hr) q.2 (m:=m);have e:Zn l ((y::xs).map noteF)=Zn (Vs (noteF y).2 l) (xs.map noteF):=rfl;rw[e,ih,Dm hr];have hp:(noteF y).2.path=y.1.1:=rfl;rw[hp];constructor
  ·rintro(⟨x,o,h⟩|⟨h|⟨h,h1⟩,h2⟩)
   ·exact .inl ⟨x,XW _ o,h⟩
   ·exact .inl ⟨y,YH ..,h⟩
   refine .inr ⟨h,fun x o=>?_⟩;rcases QE.1 o with rfl|o
   ·exact h1
   exact h2 x o
  rintro(⟨x,o,h⟩|⟨h,h2⟩)
  ·rcases QE.1 o with rfl|o
   ·refine .inr ⟨.inl h,fun z hz e=>q.1 ?_⟩;rw[h]at e;exact QB.2 ⟨z,hz,e.symm⟩
   exact .inl ⟨x,o,h⟩
  exact .inr ⟨.inr ⟨h,h2 y<|YH ..⟩,fun x o=>h2 x<|XW _ o⟩
def okX_add{cap u g n}(hk:ZX cap u=true)(e:30≤g)(f:1≤n)(h:g+n≤cap)(hf:Uq u g n):ZX cap (u++[(g,n)])=true:=by
 obtain⟨c,d⟩:=(YD _ _).1 hk;refine(YD _ _).2 ⟨fun b a=>?_,DR.2 ⟨d,PZ _ _,fun b a d d=>?_⟩⟩
 ·rcases Q6.1 a with a|a
  ·exact c b a
  rw[Za.1 a];exact⟨e,f,h⟩
 rw[Za.1 d];have:=hf b a;unfold Uj;simp only[];omega
def alloc_spec{cap}(b:30≤cap):∀{l:List QC}{u:List QN}{xs:List (QC × QN)},ZX cap u=true→(∀f∈l,1≤ZV f)→alloc cap u l=some xs→
 xs.map (·.1)=l∧ZX cap (u++xs.map (·.2))=true∧∀x∈xs,x.2.2=ZV x.1
 | [],u,xs,hk,_,a=>by injection a with a;subst a;exact⟨rfl,by simpa using hk,by simp⟩
 |f::l,u,xs,hk,hs,a=>by
  rw[alloc]at a;obtain⟨c,e,a⟩:=Option.bind_eq_some_iff.1 a;obtain⟨c,i,rfl⟩:=Sm.1 a;have:=hs f<|YH ..;obtain⟨-,a,c,d,-⟩:=IP (by omega) b e;obtain⟨e,g,h⟩:=alloc_spec b (okX_add hk a (by omega) c d) (fun x a=>hs x<|XW _ a) i;refine⟨by rw[QR,e],by simpa using g,fun x a=>?_⟩;rcases QE.1 a with rfl|a
  ·rfl
  exact h x a
end Vst
noncomputable def Yr(d:QI)(xs:List (QC × QN)):QI:=xs.foldl (fun d a=>d.wr a.2.1.toNat (Y7 a.1)) d
def Pt{cap}:∀{xs:List (QC × QN)}{d:QI},d.Ok→d.cap=cap→ZX cap (xs.map (·.2))=true→(∀x∈xs,x.2.2=ZV x.1∧x.1.1.length≤120∧x.1.2.length≤8192)→
 d.lZ+200*xs.length≤1000000000→
 (Yr d xs).Ok∧(Yr d xs).cap=cap∧(Yr d xs).lZ=d.lZ+(xs.map fun x=>ZV x.1).sum∧
 (∀(b:QN)(M:LY),0≤b.1→(∀x∈xs,Uj b x.2)→(M.length:Int)≤b.2→UC d.img b.1.toNat M→UC (Yr d xs).img b.1.toNat M)∧
 (∀x∈xs,UC (Yr d xs).img x.2.1.toNat<|Y7 x.1)
 | [],d,hd,hc,_,_,_=>⟨hd,hc,by simp[Yr],fun _ _ _ _ _ h=>h,by simp⟩
 |y::xs,d,hd,hc,hk,hs,hl=>by
  obtain⟨ha,hp⟩:=(YD _ _).1 hk;rw[QR]at hp ha;obtain⟨h3,h4⟩:=Vm.1 hp;obtain⟨y1,y2,y3⟩:=ha y.2<|YH ..;obtain⟨s1,s2,s3⟩:=hs y<|YH ..;have hm:=Rg s2 s3;have q:=Ap y.1;simp only[Q0]at hl;have h2:(d.wr y.2.1.toNat<|Y7 y.1).Ok:=hd.wrL (i:=y.2.1.toNat) (L:=Y7 y.1) (by omega) (Gm s2 s3) 0 (by omega);have h1:(d.wr y.2.1.toNat<|Y7 y.1).lZ=d.lZ+ZV y.1:=by show d.lZ+(Y7 y.1).length=_;rw[q]
  obtain⟨i1,i2,i3,i4,i5⟩:=Pt (xs:=xs) (d:=d.wr y.2.1.toNat<|Y7 y.1) h2 hc ((YD _ _).2 ⟨fun x o=>ha x<|XW _ o,h4⟩) (fun x o=>hs x<|XW _ o) (by omega);have e:Yr d (y::xs)=Yr (d.wr y.2.1.toNat<|Y7 y.1) xs:=rfl;rw[e];refine⟨i1,i2,?_,fun b M hb o hM h=>?_,fun x o=>?_⟩
  ·rw[i3,h1,QR,Z9];omega
  ·refine i4 b M hb (fun x h5=>o x<|XW _ h5) hM ?_;have:=o y<|YH ..;unfold Uj at this;exact h.wr _ (by rw[q];omega)
  rcases QE.1 o with rfl|o
  ·exact i4 x.2 (Y7 x.1) (by omega) (fun z hz=>h3 z.2<|Ue hz) (by rw[q,s1];exact Av _)<|Pu _ _ _
  exact i5 x o
