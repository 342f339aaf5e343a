import Derived.Lib.SplitLaws
import Derived.Test.YtickjpnkoppmgaaGreatDoorBd
import Derived.Test.YtickjpnkoppmgaaGreatDoorAy
set_option linter.all false
set_option maxHeartbeats 1000000
set_option maxRecDepth 100000
namespace Go.Proofs.YtickjpnkoppmgaaGreatDoor
open Go.Proofs.Tryz Go.RowKit K
section
def xG(n:Nat)(cap W):(binOp BinOp.neq 246 (.func (.func n) #[] cap) .nilFunc).run prog W=.ok (.bool true) W:=by kernel_rfl
def xH(W):(binOp BinOp.neq 246 .nilFunc .nilFunc).run prog W=.ok (.bool false) W:=by kernel_rfl
section
variable {d:Nat} {nv pv:VL} {s:QI} {w:WD}
def tL(v xs w)(d:Jq w v xs)(f:∀u∈xs,u.oneCell'=true)(b:xs.length≤10000000):
 Calls prog 152 #[v] w fun e w'=>(∃a n c,e=.returned (.slice a n c))∧Qb [] w w':=by
 obtain⟨b,cap,rfl,hb,g,g⟩:=d.open;have⟨h,g⟩:=qb hb f;have:=fun i:WD=>EY (P:=prog) i 88 5 b xs.length cap 0 0 Xb
 go_enter func152,ntmps152;have j:Qp (w.alloc<|.cells #[] 5) 1 b xs.length xs:=by refine⟨by omega,fun f u f=>⟨b,0,rfl,?_⟩⟩;have:=(h.o.kept ((Qc [] w).alloc<|.cells #[] 5)<|by simp).cell f;rwa[ZE]
 go_wp2_with ((at_builtin;refine CI rfl _ _ 88 rfl 5 (.int .u8 0) 1 Xb YQ rfl (.slice w.heap.size 0 0) [] xs b xs.length cap rfl rfl g.o (Qh.empty w _) j (fun d=>by cases d) (by simp[maxLen];omega) (by simp;omega) ?_;intro a4 l k i f h));have f:Qb [] w k:=((Qc [] w).alloc _).new f (by intro b b;simp[Qd,qo]at b;omega);go_ret;exact⟨⟨_,_,_,rfl⟩,f⟩
def WH(h:Dk w d nv pv s)(hs:s.Ok)(n:Nat)(cap img)(y8:∀W,(callFunc n<|#[nv]++cap).run prog W=.ok (.enter n<|#[nv]++cap) W)(x2:∀w1,Qb (d::Qd pv) w w1→Calls prog n (#[nv]++cap) w1 (GD w1 nv img)):
 Calls prog 109 #[.pointer d,.func (.func n) #[] cap] w fun e w'=>e=.returned (0:Int)∧Q9 w d nv pv {s with img:=img,lZ:=s.lZ+1} w':=by
 obtain⟨⟨kv,h1⟩,h2,⟨fs,h3,h5⟩,h4⟩:=h;have y9:=hs.lZ;have hl:=h1.lt;have c3:=h1.cell (i:=3) (u:=pv) rfl;have c4:=h1.cell (i:=4) (u:=.int .i64 0) rfl;have c2:=h1.cell (i:=2) (u:=nv) rfl;have c7:=h1.cell (i:=7) (u:=.int .i64 s.lZ) rfl;have f3:=h1.free 3;have f2:=h1.free 2;have f7:=h1.free 7;have L1:fs.length+1≤maxLen:=by simp only[maxLen];omega
 have L2:(fs.length+1)*8≤140737488355328:=by omega
 have h9:d∉Qd pv:=fun hm=>by simp at h4;exact h4.1.2 hm
 have h8:d∉Qd nv:=fun hm=>by simp at h4;exact h4.1.1 hm
 have HD:=Qa<|show d∉Qd pv∧d∉Qd nv from⟨h9,h8⟩;have x8:=Qa h4;have H1:=Qa h1;have H2:=Qa h2;have H3:=Qa h3;have x7:=Qa x2;have hne:=xG n cap;go_enter func109,ntmps109;go_wp2_with (first
  |(at_builtin;refine ES w rfl _ _ 89 rfl 246 .nilFunc 8 underlying89 qA rfl pv (.func (.func n) #[] cap) fs rfl rfl rfl rfl H3.o L1 L2 ?_;intro g1 pZ w1 x5 x0 y1
    have A1:=H1.o.kept x0 HD.o.1;have e3:=A1.cell (i:=3) (u:=pv) rfl;have e4:=A1.cell (i:=4) (u:=.int .i64 0) rfl;have e2:=A1.cell (i:=2) (u:=nv) rfl;have e7:=A1.cell (i:=7) (u:=.int .i64 s.lZ) rfl;have q3:=A1.free 3;have q2:=A1.free 2;have q7:=A1.free 7)
  |(refine(x7.o _<|Qb.setCell (p:=⟨d,3,none⟩) (x0.mono fun x o=>XW _ o) (.inl<|by simp) _).mono ?_;rintro e w3⟨z8,rfl,x4,x1,y3⟩
    have A3:=(A1.set 3<|.slice g1 (fs.length+1) pZ).kept x1 HD.o.2;have y5:=A3.cell (i:=2) (u:=nv) rfl;have y6:=A3.cell (i:=7) (u:=.int .i64 s.lZ) rfl;have y2:=A3.free 2;have y7:=A3.free 7;have x9:=Qa x4;obtain⟨g3,y0,rfl,-,-,-⟩:=x4.open))
 go_ret;obtain⟨h9,h8⟩:=HD.o;have x3:=x8.o;rw[Rt,BX]at x3;have z6:=x0.size;have y4:=x1.size;have zs:(w1.setCell ⟨d,3,none⟩<|.slice g1 (fs.length+1) pZ).heap.size=w1.heap.size:=by simp
 rw[zs]at y4;have z1:g1<w1.heap.size:=x5.lt g1 (by simp[Qd,qo]);have G3:g3∈Qd nv∨w1.heap.size≤g3:=by have:=y3 g3 (by simp[Qd,qo]);rwa[zs]at this
 have G1:g1∈Qd pv∨w.heap.size≤g1:=y1;have ln:=H2.o.lt;have n1:g1≠d:=by rcases G1 with h|h;exact fun e=>h9<|e▸h;omega
 have n3:g3≠d:=by rcases G3 with h|h;exact fun e=>h8<|e▸h;omega
 have x6:g1∉Qd nv:=fun h=>by
  rcases G1 with h'|h'
  ·exact x3.2.2.2 _ h _ h' rfl
  have:=ln _ h;omega
 have z7:g3≠g1:=by
  rcases G3 with h|h
  ·intro e;subst e;exact x6 h
  omega
 have ks:Qb [d] w3 ((w3.setCell ⟨d,2,none⟩<|.slice g3 (Qm img.flatten).length y0).setCell ⟨d,7,none⟩<|.int .i64<|(s.lZ:Int)+1):=
  ((Qc [d] w3).setCell (p:=⟨d,2,none⟩) (by simp) _).setCell (p:=⟨d,7,none⟩) (by simp) _
 have kA:Qb (Q7 d nv pv) w (w1.setCell ⟨d,3,none⟩<|.slice g1 (fs.length+1) pZ):=(x0.mono fun x o=>by simp[o]).setCell (p:=⟨d,3,none⟩) (.inl<|by simp) _;refine⟨rfl,_,.slice g1 (fs.length+1) pZ,⟨⟨kv,(A3.set 2 _).set 7 _⟩,x9.o.kept ks (by intro y q;simp[Qd,qo]at q ⊢;omega),⟨fs++[.func (.func n) #[] cap],?_,by simp;omega⟩,?_⟩,(kA.trans (x1.mono fun x o=>by simp[o]) fun x o=>.inl o).trans (ks.mono (fun x o=>by simp at o;simp[o])) fun x o=>.inl o,?_⟩
 ·have r1:=x5.kept (((Qc [d] w1).setCell (p:=⟨d,3,none⟩) (by simp)<|.slice g1 (fs.length+1) pZ)) (by intro y q;simp[Qd,qo]at q ⊢;omega);exact(r1.kept x1 (by intro y q;simp[Qd,qo]at q;subst q;exact x6)).kept ks (by intro y q;simp[Qd,qo]at q ⊢;omega)
 ·simp[Qd,qo];omega
 intro y q;simp[Qd,qo]at q;rcases q with rfl|rfl|rfl
 ·exact .inl (by simp)
 ·rcases G3 with h|h
  ·exact .inl (by simp[h])
  right;omega
 rcases G1 with h|h
 ·exact .inl (by simp[h])
 exact .inr h
def vF(c:Dk w d nv pv s)(hs:s.Ok):
 Calls prog 109 #[.pointer d,.nilFunc] w fun e w'=>e=.returned (0:Int)∧Q9 w d nv pv {s with lZ:=s.lZ+1} w':=by
 obtain⟨⟨kv,a⟩,b,⟨f,j,f⟩,g⟩:=c;have hf:=hs.flat;have:=hs.len;have:=hs.c2;have f:(Qm s.img.flatten).length=512*s.img.length:=by rw[←hf];unfold Qm;rw[QH]
 have l:=Qa (tL nv (Qm s.img.flatten) w b (fun h f=>by obtain⟨k,-,rfl⟩:=QB.1 f;rfl)<|by omega);have:=hs.lZ;have:=a.lt;have:=a.cell (i:=4) (u:=.int .i64 0) rfl;have c2:=a.cell (i:=2) (u:=nv) rfl;have⟨k,m,n⟩:=qc a b g;have hne:=xH;go_enter func109,ntmps109
 go_wp2_with (refine l.o.mono ?_;rintro e j⟨⟨o,r,q,rfl⟩,g⟩
              have a:=k.o.kept g (by simp);have:=a.free 1;have:=a.free 3;have:=a.free 7;have:=a.cell (i:=7) (u:=.int .i64 s.lZ) rfl;have:=a.cell (i:=1) (u:=kv) rfl;have:=a.cell (i:=3) (u:=pv) rfl)
 go_ret;have f:=n.o;simp only[Rt,BX,Q6,JU]at f;have k:∀h l b:VL,Qb [d] j (((j.setCell ⟨d,1,none⟩ h).setCell ⟨d,3,none⟩ l).setCell ⟨d,7,none⟩ b):=fun h l b=>
  (((Qc [d] j).setCell (p:=⟨d,1,none⟩) (by simp) _).setCell (p:=⟨d,3,none⟩) (by simp) _).setCell (p:=⟨d,7,none⟩) (by simp) _
 refine⟨rfl,nv,.slice none 0 0,⟨⟨.slice o r q,((a.set 1 _).set 3 _).set 7 _⟩,(m.o.kept g<|by simp).kept (k _ _ _) fun a a e=>f.1.1 (by simp at e;exact e▸a),⟨[],Qh.nil _ _,by simp⟩,?_⟩,(g.mono fun b a=>by cases a).trans ((k _ _ _).mono (fun b a=>by simp at a;simp[a])) fun b a=>.inl a,fun b a=>.inl (by simp[Qd,qo]at a ⊢;rcases a with c|c;exact .inl c;exact .inr<|.inl c)⟩;show(d::(Qd nv++[])).Nodup;rw[XH];exact Rt.2 ⟨f.1.1,f.2.1⟩
def Dk.nodup(b:Dk w d nv pv s):d∉Qd nv∧d∉Qd pv∧∀x∈Qd nv,x∉Qd pv:=by have a:=b.2.2.2;simp only[Rt,BX,Q6,JU]at a;exact⟨a.1.1,a.1.2,fun x b c=>a.2.2.2 x b x c rfl⟩
def Q9.from{w1 w'}(c:Q9 w1 d nv pv s w')(k:Qb [] w w1):Q9 w d nv pv s w':=by obtain⟨b,g,a,e,f⟩:=c;have:=k.size;exact⟨b,g,a,(k.mono fun b a=>by cases a).trans e fun b a=>.inl a,fun b a=>(f b a).imp id fun c=>by omega⟩
def Qjb(b:Dk w d nv pv s)(hs:s.Ok)(i x)(hi:i<s.cap)(j:x.length=512):
 Calls prog 74 #[.pointer d,i,.string<|str x] w fun e w'=>e=.returned (0:Int)∧Q9 w d nv pv {s with img:=J2 s.img i x,lZ:=s.lZ+1} w':=by
 have:(str x).size=512:=j;have:=hs.len;have:=hs.c2;have⟨a,h⟩:=qx<|(w.alloc<|.cells #[(i:Int)] 3).alloc<|.cells #[.string<|str x] 9;have hk:Qb [] w a:=by rw[←h];exact((Qc [] w).alloc _).alloc _
 have l:Qe a w.heap.size 3 [i]:=by rw[←h];exact(Qy w [(i:Int)] 3).kept ((Qc [] _).alloc _) (by simp)
 have m:Qe a (w.heap.size+1) 9 [.string<|str x]:=by rw[←h];have:=Qy (w.alloc<|.cells #[(i:Int)] 3) [.string<|str x] 9;simpa using this
 have f:=b.kZ hk;have hlt:=b.lt;have q:=Qa (show ∀c,Calls prog 109 #[.pointer d,.func (.func 110) #[] #[.pointer w,.pointer (w.heap.size+1:Nat)]] (a.drewN c) fun e w'=>e=.returned (0:Int)∧Q9 w d nv pv {s with img:=J2 s.img i x,lZ:=s.lZ+1} w' from fun c=>by
  have g:Qb [] a (a.drewN c):=(Qc [] a).drewN c;obtain⟨r,a,t⟩:=b.nodup;have k:∀a,w.heap.size≤a→a∉Q7 d nv pv:=fun a c b=>by have:=hlt a b;omega
  have n:∀a,a∈d::Qd pv→a∈Q7 d nv pv:=fun a c=>by simp at c ⊢;rcases c with b|b;exact .inl b;exact .inr<|.inr b
  have o:∀a,a∈Qd nv→a∈Q7 d nv pv:=fun a c=>by simp[c]
  refine(WH (f.kZ g) hs _ _ _ (fun _=>by kernel_rfl) fun p k1=>?_).mono fun e w' b=>⟨b.1,b.2.from<|hk.trans g fun x j=>.inl j⟩
  refine Qja nv s.img _ _ i x p (((f.kZ g).2.1).kept k1 fun a c e=>?_) hs.sec (by omega) (by omega) j ((l.kept g<|by simp).kept k1 fun e=>?_) ((m.kept g<|by simp).kept k1 fun e=>?_) ⟨fun e=>?_,fun e=>?_⟩
  ·rcases QE.1 e with e|e
   ·exact r<|e▸c
   exact t a c e
  ·exact k _ (Ql _)<|n _ e
  ·exact k _ (DW _)<|n _ e
  ·exact k _ (Ql _)<|o _ e
  exact k _ (DW _) (o _ e))
 have c:=Qa<|Is f hs;have c0:=l.cell (i:=0) (u:=.int .i64 i) rfl;have c1:=m.cell (i:=0) (u:=.string<|str x) rfl;obtain⟨kv,a⟩:=f.1;have c2:=a.cell (i:=0) (u:=.int .i64 s.cap) rfl;have g1:decide ((i:Int)<0)=false:=by simp
 have:decide (s.cap≤i)=false:=by simp;omega
 have g3:¬s.cap≤i:=by omega
 have:∀(fn:Fn)(first cap:Array VL)(w:WD),(Instr.makeFunc fn first cap).run prog w=.ok (.func fn first cap) w:=fun _ _ _ _=>rfl
 go_enter func74,ntmps74;go_wp2_with (first|(go_at_call 91;refine c.o.mono ?_;rintro e p⟨rfl,rfl⟩));go_quiet (fail);go_wp2_with (first|(go_at_call 109;refine(q.o _).mono ?_;rintro e b⟨rfl,a⟩));go_ret;exact⟨rfl,a⟩
def uZ(a:Dk w d nv pv s)(hs:s.Ok)(n)(hi:n≤s.img.length):
 Calls prog 83 #[.pointer d,n] w fun e w'=>e=.returned (0:Int)∧Q9 w d nv pv (s.cut n) w':=by
 have:=hs.len;have:=hs.c2;have⟨b,j⟩:=qx<|w.alloc<|.cells #[(n:Int)] 3;have hk:Qb [] w b:=by rw[←j];exact(Qc [] w).alloc _
 have h:Qe b w.heap.size 3 [n]:=by rw[←j];exact Qy w [(n:Int)] 3
 have f:=a.kZ hk;have hlt:=a.lt;have m:=Qa (show ∀c,Calls prog 109 #[.pointer d,.func (.func 125) #[] #[.pointer w]] (b.drewN c) fun e w'=>e=.returned (0:Int)∧Q9 w d nv pv (s.cut n) w' from fun c=>by
  have g:Qb [] b (b.drewN c):=(Qc [] b).drewN c;obtain⟨o,k,p⟩:=a.nodup;refine(WH (f.kZ g) hs _ _ _ (fun _=>by kernel_rfl) fun l k1=>?_).mono fun e w' a=>⟨a.1,a.2.from<|hk.trans g fun k k=>.inl k⟩
  refine uY nv s.img _ n l (((f.kZ g).2.1).kept k1 fun q k e=>?_) hs.sec (by omega) hi<|(h.kept g<|by simp).kept k1 fun e=>?_
  ·rcases QE.1 e with e|e
   ·exact o<|e▸k
   exact p q k e
  have:=hlt w.heap.size (by simp at e ⊢;rcases e with a|a;exact .inl a;exact .inr<|.inr a);omega)
 have⟨g,k⟩:=qb (Is f hs) fun c=>Ey (f.kZ<|(Qc [] b).drewN c) hs;have c0:=h.cell (i:=0) (u:=.int .i64 n) rfl;have g1:decide ((n:Int)<0)=false:=by simp
 have:decide (s.img.length<n)=false:=by simp;omega
 have g3:¬s.img.length<n:=by omega
 have:∀(fn:Fn)(first cap:Array VL)(w:WD),(Instr.makeFunc fn first cap).run prog w=.ok (.func fn first cap) w:=fun _ _ _ _=>rfl
 go_enter func83,ntmps83;go_wp2_with (first|(go_at_call 91;refine g.o.mono ?_;rintro e l⟨rfl,rfl⟩));go_quiet ((go_at_call 24;refine Calls.quiet_of_same<|k.o _));go_wp2_with (first|(go_at_call 109;refine(m.o _).mono ?_;rintro e b⟨rfl,a⟩));go_ret;exact⟨rfl,a⟩
def kC(a:Dk w d nv pv s)(hs:s.Ok):
 Calls prog 75 #[.pointer d] w fun e w'=>e=.returned (0:Int)∧Q9 w d nv pv (s.tick 1) w':=by
 have⟨b,c⟩:=qb (Is a hs)<|vF a hs;go_enter func75,ntmps75;go_wp2_with (first|(go_at_call 91;refine b.o.mono ?_;rintro e f⟨rfl,rfl⟩)|(go_at_call 109;refine c.o.mono ?_;rintro e g⟨rfl,a⟩));go_ret;exact⟨rfl,a⟩
def bQ(a:Dk w d nv pv s)(hs:s.Ok):Calls prog 21 #[.pointer d] w fun e w'=>e=.returned (str s.img.flatten)∧w'=w:=by
 have g:=Qa<|Gd a hs;obtain⟨⟨kv,b⟩,c,j,k⟩:=a;have hf:=hs.flat;have f:(Qm s.img.flatten).length=512*s.img.length:=by rw[←hf];unfold Qm;rw[QH]
 obtain⟨h,cap,a,hb,-,-⟩:=c.open;rw[f]at a;have:=hb.textAt 0 (512*s.img.length) cap (l:=s.img.flatten) (by rw[VD,Q8<|by omega]) hf;subst a;have c0:=b.cell (i:=2) (u:=.slice h (512*s.img.length) cap) rfl;go_enter func21,ntmps21;go_wp2_with (go_at_call 41;refine g.o.mono ?_;rintro e a⟨rfl,rfl⟩);go_ret;exact⟨rfl,rfl⟩
end
def QK.bytes0{W g c}(a:W.heap[g]?=some (.cells (bytesRow ⟨#[]⟩ c) 5 ((bytesRow ⟨#[]⟩ c).size,(bytesRow ⟨#[]⟩ c).size+1))):QK W g (List.replicate c<|.int .u8 0):=by
 have b:bytesRow ⟨#[]⟩ c=Array.replicate c (.int .u8 0):=by have:(⟨#[]⟩:BA).size=0:=rfl;simp[bytesRow,this]
 have hs:(bytesRow ⟨#[]⟩ c).size=c:=by rw[b];simp
 rw[hs]at a;refine⟨_,_,_,a,by rw[hs];simp,fun a d hi=>?_,fun a hi=>?_⟩
 ·rwa[b,←Array.getElem?_toList,Array.toList_replicate]
 simp at hi ⊢;omega
def Sl(w:WD)(n:Nat)(e:Ending)(w':WD):Prop:=
 ∃a b,e=.returned (.tuple #[.pointer (some ⟨a,0,none⟩),(0:Int)])∧Dk w' a b (.slice none 0 0) ⟨n,[],0⟩∧Qb [] w w'∧∀c∈Q7 a b (.slice none 0 0),w.heap.size≤c
def Qav(n:Nat)(w)(a:1≤n)(a:n≤4096):Calls prog 63 #[n,.string ⟨#[]⟩] w (Sl w n):=by
 have a:=fun b:WD=>run_bytes_of_string (P:=prog) b 9 88 5 ⟨#[]⟩ Yj Xb AE
 have c:(⟨#[]⟩:BA).size=0:=rfl;rw[c]at a;obtain⟨g1,_,g3⟩: ¬(n:Int)<1∧¬(4096:Int)<n∧¬(n:Int)<0:=by omega
 go_enter func63,ntmps63
 go_wp2
 go_ret2;obtain⟨d,c⟩:∃b,(w.alloc<|Obj.cells (bytesRow ⟨#[]⟩<|grownCap w 0 0 5) 5 ((bytesRow ⟨#[]⟩<|grownCap w 0 0 5).size,(bytesRow ⟨#[]⟩<|grownCap w 0 0 5).size+1))=b:=⟨_,rfl⟩;rw[c];have⟨a,e⟩:=qx<|grownCap d.drew 0 0 5;have g:a≤maxLen:=e▸Nd _ _ _ _ (ZF _);rw[e];have f:d.heap.size=w.heap.size+1:=by rw[←c];simp
 have k1:Qb [] w d:=by rw[←c];exact(Qc _ _).alloc _
 obtain⟨c,e⟩:∃b,d.alloc (Obj.cells (bytesRow ⟨#[]⟩ a) 5 ((bytesRow ⟨#[]⟩ a).size,(bytesRow ⟨#[]⟩ a).size+1))=b:=⟨_,rfl⟩;rw[e];have z2:c.heap.size=w.heap.size+1+1:=by rw[←e,←f];simp
 have k2:Qb [] w c:=by rw[←e];exact k1.alloc _
 have d:QK c (w.heap.size+1) (List.replicate a<|.int .u8 0):=QK.bytes0 (by rw[←e,←f];exact Xf _ _);have b:=Qy c [(n:Int),.slice w.heap.size 0<|grownCap w 0 0 5,.slice (w.heap.size+1:Nat) 0 a,.slice none 0 0,(0:Int),.slice none 0 0,.bool false,(0:Int)] 91;rw[z2]at b;have k3:=(((Qc [] c).alloc<|Obj.cells [.int .i64 (n:Int),.slice w.heap.size 0<|grownCap w 0 0 5,.slice (w.heap.size+1:Nat) 0 a,.slice none 0 0,.int .i64 0,.slice none 0 0,.bool false,.int .i64 0].toArray 91).drew).drew;refine⟨_,.slice (w.heap.size+1:Nat) 0 a,rfl,⟨⟨_,b⟩,⟨_,a,List.replicate a<|.int .u8 0,rfl,?_,by simp[Qm],g⟩,⟨[],Qh.nil _ _,Ql _⟩,?_⟩,k2.trans k3 fun b a=>.inl a,?_⟩
 ·exact d.kept k3 (by simp)
 ·simp[Qd,qo]
 intro b a;simp[Qd,qo]at a;omega
def Qb5(n:Nat)(w)(b:1≤n)(c:n≤4096):Calls prog 31 #[n] w (Sl w n):=by have a:=Qa<|Qav n w b c;go_enter func31,ntmps31;go_wp2_with (go_at_call 63;refine a.o.mono ?_;rintro e f⟨b,d,rfl,c⟩);go_ret2;exact⟨b,d,rfl,c⟩
end
def YN(w:WD):Prop:=∃a:Int,w.cell? ⟨0,0,none⟩=some (.int .i64 a)
def YN.kept{S w w'}(a:YN w)(hk:Qb S w w')(h0:0∉S):YN w':=by obtain⟨c,b⟩:=a;exact⟨c,hk.cZ b h0⟩
def strs(l:LY):LV:=l.map fun a=>.string (str a)
def Vi(l):(strs l).length=l.length:=by simp[strs]
def Gt{l}{i:Nat}{x}(a:l[i]?=some x):(strs l)[i]?=some (.string<|str x):=by simp[strs,a]
def VY(b):str b.data.toList=b:=by obtain⟨a⟩:=b;rfl
def Qgq(s):((Lib.splitB ⟨#[47]⟩ 0 (Lib.countB s ⟨#[47]⟩) s).map Value.string)=strs (ZG s.data.toList)∧Lib.countB s ⟨#[47]⟩+1=(ZG s.data.toList).length:=by
 have a:(Lib.splitB ⟨#[47]⟩ 0 (Lib.countB s ⟨#[47]⟩) s).map (·.data.toList)=ZG s.data.toList:=by rw[Lib.splitB_data,←jD s.data.toList.length s.data.toList (Ql _)];rfl
 have b:=Lib.splitB_all ⟨#[47]⟩ (by decide) 0 (Lib.countB s ⟨#[47]⟩) s rfl;refine⟨?_,by rw[←a,QH,b]⟩;rw[←a,strs,XI];apply Yx;intro a _;simp only[Function.comp,VY]
def fL(s:BA)(w)(hs:s.size≤1000000)(a:YN w):
 Calls prog 105 #[s] w fun e w'=>e=.returned (.slice w.heap.size (ZG s).length (ZG s).length)∧w'=w.alloc (.cells (strs<|ZG s).toArray 9):=by
 obtain⟨b,c⟩:=a;have g:=Qa (Tryz.strSplit s ⟨#[47]⟩ b w (by omega) c<|by decide);obtain⟨a,b⟩:=Qgq s;have⟨d,f⟩:=qb a b;go_enter func105,ntmps105;go_wp2_with fail;refine g.o.mono ?_;rintro e a⟨rfl,rfl⟩;rw[d.o,f.o]
 go_wp2
 go_ret;exact⟨rfl,rfl⟩
def tM{A b:LY}{i a}(ha:A[i]?=some a)(hb:b[i]?=some a):XS (A.drop i) (b.drop i)=XS (A.drop<|i+1) (b.drop<|i+1):=by obtain⟨d,b⟩:=Qz.1 ha;obtain⟨e,c⟩:=Qz.1 hb;rw[Z8 d,Z8 e,b,c,XS,Qg rfl]
def tO{A c:LY}{i a b}(ha:A[i]?=some a)(hb:c[i]?=some b)(e:a≠b):XS (A.drop i) (c.drop i)=Lib.compareBytes a b:=by obtain⟨f,c⟩:=Qz.1 ha;obtain⟨g,d⟩:=Qz.1 hb;rw[Z8 f,Z8 g,c,d,XS,Qf e]
def tN(A a:LY)(i)(b:i=min A.length a.length):XS (A.drop i) (a.drop i)=if A.length<a.length then -1 else if a.length<A.length then 1 else 0:=by
 rcases BZ A.length a.length with b|b|b
 ·rw[Qg b,BV<|by omega,Z8 (i:=i) (l:=a)<|by omega,XS]
 ·rw[Qf<|by omega,Qf<|by omega,BV<|by omega,BV<|by omega,XS]
 rw[Qf<|by omega,Qg b,show a.drop i=[]from BV (by omega),Z8 (i:=i) (l:=A)<|by omega,XS]
section
open Go.Shelf
attribute [local go_sem] Oper.semAt_some
def Xn(l:LU)(f i:Nat)(a:LY):Prop:=
 if l.length<i then a=[]else f≤i∧a=ZG (l.drop f)∧47∉(l.drop f).take (i-f)
def Xn.start(l):Xn l 0 0 (ZG l):=by unfold Xn;rw[Qf<|by omega];exact⟨by omega,by simp,by simp⟩
def Xn.le{l f i r}(a:Xn l f i r)(hi:i≤l.length):f≤i:=by unfold Xn at a;rw[Qf<|by omega]at a;exact a.1
def Xn.last{l f r}(a:Xn l f l.length r):r=[(l.drop f).take<|l.length-f]:=by
 unfold Xn at a;rw[Qf<|by omega]at a;obtain⟨b,c,b⟩:=a;have a:(l.drop f).take (l.length-f)=l.drop f:=by rw[Q8<|by simp]
 rw[a]at b ⊢;rw[c,ML _ b]
def Xn.cut{l f i r}(a:Xn l f i r)(hi:i<l.length)(hb:l[i]'hi=47):∃b,r=(l.drop f).take (i-f)::b∧Xn l (i+1) (i+1) b:=by
 unfold Xn at a;rw[Qf<|by omega]at a;obtain⟨b,c,d⟩:=a;have b:l.drop f=(l.drop f).take (i-f)++47::l.drop (i+1):=by have a:l.drop f=(l.drop f).take (i-f)++(l.drop f).drop (i-f):=(V6 _ _).symm;rwa[GL,show f+(i-f)=i by omega,Z8 hi,hb]at a
 refine⟨ZG<|l.drop<|i+1,?_,?_⟩
 ·rw[c]
  conv=>lhs;rw[b]
  exact MK _ _ d
 unfold Xn;rw[Qf<|by omega];exact⟨by omega,rfl,by simp⟩
def Xn.more{l f i r}(a:Xn l f i r)(hi:i<l.length)(hb:l[i]'hi≠47):Xn l f (i+1) r:=by unfold Xn at a ⊢;rw[Qf<|by omega]at a ⊢;obtain⟨b,b,c⟩:=a;refine⟨by omega,b,?_⟩;rw[show i+1-f=(i-f)+1 by omega,Zt];simp only[Q6,JU];refine⟨c,?_⟩;rw[J4,show f+(i-f)=i by omega,Qj hi];simpa using fun a=>hb a.symm
def Xn.over{l f i}(a:l.length<i):Xn l f i []:=by unfold Xn;rw[Qg a]
def Uo(s:ByteArray)(f i)(a:i≤s.size):s.extract f i=str ((s.data.toList.drop f).take<|i-f):=by
 rw[←VY (s.extract f i)]
 congr 1
 simp[List.take_drop]
def mE(s:BA)(bs f:Nat)(e:LY→WD→Prop)(k:Nat)(g h:VL)(wr:WD):Prop:=
 ∃b a:Nat,∃c d,a≤s.size+1∧k=s.size+1-a∧g=.int .i64 (b:Nat)∧h=.int .i64 (a:Nat)∧Hid (ZG s=c++d∧Xn s b a d∧Qe wr bs 9 [s]∧e c wr∧f≤wr.heap.size)
def tF(s:BA)(bs w)(hs:s.size≤1000000)(b:Qe w bs 9 [s]):
 Lk prog 84 #[.pointer bs] (fun x:LU=>#[.string<|str x]) [bs] (fun pre x=>∃post,ZG s=pre++x::post) (fun xs=>xs=ZG s) (fun pre=>∃post,ZG s=pre++post) w:=by
 intro a j a m a d e f h0;have g:=Qa (b.kept a<|by simp);have:=Qa d;have:=Qa e;have k:=a.size;have⟨B,i⟩:=qb f h0;have h:=Zo s;have c:=Qa h;clear b d e f a h0 h;refine callsIn_of_wp func84 rfl trivial ?_ rfl;simp only[ntmps84,GT,Q0,Yg,Nat.reduceAdd,Nat.reduceSub,Lc,Ld,Lx,Lm,Yy,Yf]
 gi_wp2_with fail
 gi_loopg [3,4] (s.size+1) (fun a b d wr=>mE s bs w.heap.size j a b d wr)
 ·exact⟨0,0,[],ZG s,by omega,by omega,rfl,rfl,Qa ⟨rfl,Xn.start _,g.o,i.o,k⟩⟩
 obtain⟨d,b,pre,y,hi,hk,rfl,rfl,a⟩:=hrel;have c0:=a.o.2.2.1.cell (i:=0) (u:=.string s) rfl
 by_cases e:b≤s.size
 ·have F:(b:Int)≤s.size:=by omega
  by_cases e:b=s.size
  ·have g1:((b:Int)==(s.size:Int))=true:=(by simp;omega);subst e;have v:d≤s.size:=a.o.2.1.le (by rw[c.o];omega);have D:(d:Int)≤s.size:=(by omega);have e:=Xn.last (l:=s.data.toList) (f:=d) (r:=y) (by rw[c.o];exact a.o.2.1);rw[c.o]at e;have i:=Uo s d s.size<|Ql _;have f:=Qa e;obtain⟨fn,G,assign,body,q,o⟩:=B.o pre _ wr a.o.2.2.2.1 a.o.2.2.2.2 ⟨[],by rw[←f.o];exact a.o.1⟩;rw[←i]at q;clear e i
   gi_wp2_with fail
   refine o.mono ?_;rintro C z (⟨rfl,j,g,t⟩|⟨rfl,p⟩)
   ·have e:Qe z bs 9 [s]:=(g bs<|by simp).trans a.o.2.2.1;have c0:=e.cell (i:=0) (u:=.string s) rfl;have⟨l,k⟩:=qb j e;clear j g e
    gi_wp2_with fail
    go_roundg 0
    ·exact⟨s.size+1,s.size+1,_,[],by omega,by omega,by go_num,by go_num,Qa ⟨by rw[XH,←f.o];exact a.o.1,Xn.over (by rw[c.o];omega),k.o,l.o,t⟩⟩
    omega
   gi_wp2_with fail
   refine Q5 (Cy rfl _ _ _) rfl ?_;exact⟨⟨_,rfl⟩,.inr ⟨_,⟨[],by rw[XH,←f.o];exact a.o.1⟩,p⟩⟩
  have hlt:b<s.size:=by omega
  have g1:((b:Int)==(s.size:Int))=false:=Zb.2 (by omega);have i0:=Ux s b (b:Int) hlt rfl;have⟨f,hb⟩:=qx<|s[b]'hlt;have h:s.data.toList[b]'(by rw[c.o];exact hlt)=f:=hb;rw[hb]at i0;have A:=Qa h;clear hb h
  by_cases n:f=47
  ·subst n;have:∀m,(Instr.index 9 (.string s) (b:Int)).run prog m=.ok (.int .u8 47) m:=i0;clear i0;have v:d≤b:=a.o.2.1.le (by rw[c.o];omega);obtain⟨D,g3⟩:(d:Int)≤b∧(b:Int)≤s.size:=(by omega);obtain⟨v,m,E⟩:=a.o.2.1.cut (by rw[c.o];exact hlt) A.o;have h:=Qa<|show y=_∧_ from⟨m,E⟩;have i:=Uo s d b (by omega);obtain⟨fn,G,assign,body,q,o⟩:=B.o pre _ wr a.o.2.2.2.1 a.o.2.2.2.2 ⟨v,by rw[←m];exact a.o.1⟩;rw[←i]at q;clear m E i
   gi_wp2_with fail
   refine o.mono ?_;rintro C z (⟨rfl,j,g,t⟩|⟨rfl,p⟩)
   ·have e:Qe z bs 9 [s]:=(g bs<|by simp).trans a.o.2.2.1;have c0:=e.cell (i:=0) (u:=.string s) rfl;have⟨l,k⟩:=qb j e;clear j g e
    gi_wp2_with fail
    go_roundg (s.size-b)
    ·exact⟨b+1,b+1,_,v,by omega,by omega,by go_num,by go_num,Qa ⟨by rw[QQ,GS,←h.o.1];exact a.o.1,h.o.2,k.o,l.o,t⟩⟩
    omega
   gi_wp2_with fail
   refine Q5 (Cy rfl _ _ _) rfl ?_;exact⟨⟨_,rfl⟩,.inr ⟨_,⟨v,by rw[QQ,GS,←h.o.1];exact a.o.1⟩,p⟩⟩
  have D:((f.toNat:Int)==47)=false:=Zb.2 fun C=>n<|CZ.1 (by show f.toNat=47;omega)
  gi_wp2_with fail
  go_roundg (s.size-b)
  ·exact⟨d,b+1,pre,y,by omega,by omega,rfl,by go_num,Qa ⟨a.o.1,a.o.2.1.more (by rw[c.o];exact hlt)<|by rwa[A.o],a.o.2.2.1,a.o.2.2.2.1,a.o.2.2.2.2⟩⟩
  omega
 have F:¬(b:Int)≤s.size:=by omega
 gi_wp2_with fail
 go_end0
 refine⟨⟨_,rfl⟩,.inl ?_⟩;have b:=a.o.2.1;unfold Xn at b;rw[Qg (by rw[c.o];omega)]at b;rw[a.o.1,b,XH];exact a.o.2.2.2.1
end
section
attribute [local go_sem] Oper.semAt_some
def UB(w0:WD)(bs d c:Nat)(bad:Bool)(a:LY)(b:VL)(W:WD):Prop:=
 Qe W c 4 [.bool bad]∧Qe W d 60 [b]∧Qh W 9 b (strs a)∧(∀a∈Qd b,w0.heap.size≤a∧a≠bs∧a≠d∧a≠c)∧Qb [] w0 W
def UB.mild{w0 A d bs c b n bad e f}(a:UB w0 bs c b bad e f A)(k:U3 [bs] n A d)(i:w0.heap.size≤n)(h0:w0.heap.size≤bs)(g:c≠bs)(h:b≠bs):UB w0 bs c b bad e f d:=
 ⟨k.block _ _ a.1 (by simpa using h)<|.inr rfl,k.block _ _ a.2.1 (by simpa using g)<|.inr rfl,k.row a.2.2.1 (fun c b=>by have:=a.2.2.2.1 c b;simp;omega),a.2.2.2.1,k.kept a.2.2.2.2 (by simp;omega) i⟩
def UB.push{w0 A f bs a b g m cap d x e}(h:UB w0 bs a b false d e A)(k:Qb (Qd e) A f)(l:g∈Qd e∨A.heap.size≤g)(n:Qn f 9 1 (.slice g (m+1) cap) (m+1) (strs d++[.string<|str x]))(c:m=(strs d).length)(i:w0.heap.size≤a)(i:a≠b)(i:bs<A.heap.size):
 UB w0 bs a b false (d++[x]) (.slice g (m+1) cap) (f.setCell ⟨a,0,none⟩<|.slice g (m+1) cap):=by
 obtain⟨j,z2,z3,z4,z5⟩:=h;have:=j.lt;have:=z2.lt;have i:=(Qc [a] f).setCell (p:=a) (by simp)<|.slice g (m+1) cap;have f:b∉Qd e:=fun c=>(z4 b c).2.2.2 rfl
 have o:a∉Qd e:=fun c=>(z4 a c).2.2.1 rfl
 have e:w0.heap.size≤g∧g≠bs∧g≠a∧g≠b:=by
  rcases l with h|h
  ·exact z4 g h
  have:=z5.size;omega
 have hf:∀b∈Qd (.slice g (m+1) cap),b=g:=by intro b a;simpa[Qd,qo]using a
 refine⟨(j.kept k f).kept i (by simp;omega),(z2.kept k o).set 0 _,?_,fun b a=>by rwa[hf b a],(z5.trans k fun b a=>.inr (z4 b a).1).trans i (by intro b a;simp at a;right;omega)⟩;have hs:strs (d++[x])=strs d++[.string<|str x]:=by simp[strs]
 rw[hs];have e:=Qn.kept n i (by intro b a c;have:=hf b a;simp at c;omega);have a:(strs d++[Value.string<|str x]).length=m+1:=by rw[Qo,c];rfl
 unfold Qh;rwa[a]
def CX:(prog.info? 9).map (fun i=>(i.zero,i.size,i.bytes))=some (some<|.string ⟨#[]⟩,1,16):=by kernel_rfl
def Qgf(b a W)(f:Qh W 9 b (strs a))(hw:K.wt a≤2000000):
 Calls prog 85 #[b,.string ⟨#[47]⟩] W fun e w'=>e=.returned (str<|Z6 a)∧Qb [] W w':=by
 have:=bX a;have:a.length≤K.wt a:=by
  unfold K.wt;have:∀b:LY,b.length≤(b.map fun c=>c.length+1).sum:=by
   intro b
   induction b with
   |nil=>simp
   |cons c r ih=>rw[QR,Z9,Q0];omega
  exact this a
 rcases f.2 with⟨b,c⟩|⟨d,cap,g,b,g,g,k,g,-⟩
 ·rw[Vi]at c;have:a=[]:=J3 c;subst this;subst b;exact(Tryz.strJoin0 _ _ ⟨#[47]⟩ W).mono fun e w' ⟨b,c⟩=>⟨b,c▸Qc _ _⟩
 have hb:d<W.heap.size:=f.lt d (by rw[b];simp[Qd,qo]);obtain⟨g,off,ha,h⟩:∃g off,g=d∧off=0:=⟨d,0,rfl,rfl⟩;have g:(a.map str).map (·.data.toList)=a:=by rw[XI];exact(Yx fun i _=>rfl).trans<|DM _
 have h:=Tryz.strJoin d 0 cap (a.map str) ⟨#[47]⟩ W (fun l i d=>by
  rw[ZE];have j:(strs a)[l]?=some (.string i):=by unfold strs;rw[ZD]at d ⊢;obtain⟨i,i,rfl⟩:=Sm.1 d;rw[i];rfl
  rw[b]at f;exact f.aZ j) hb (by rw[QH];omega) (by rw[QH];simpa[Vi]using k) (by rw[g];show(Lib.join a [47]).length≤_;rw[Nw];omega)
 rw[g,QH]at h;rw[b,Vi];refine h.mono fun e w' ⟨b,c⟩=>⟨?_,Qb.of_below c⟩
 rw[b];show Ending.returned (.string ⟨(Lib.join a [47]).toArray⟩)=_;rw[Nw];rfl
def tG(s:BA)(w)(hs:s.size≤1000000):Calls prog 44 #[s] w fun e w'=>e=.returned (.tuple #[str (VP s).1,.int .i64 (VP s).2])∧Qb [] w w':=by
 have h8:=Qa<|Zo s;refine Eh.1<|callsIn_of_wp_marks (F:=Fence.wide) (n:=6) func44 rfl trivial ?_ rfl;refine wpIn_wide.2 ?_;simp only[ntmps44,GT,Q0,Yg,Nat.reduceAdd,Nat.reduceSub,Lc,Ld,Lx,Lm,Yy,Yf];have r0:∀(fn:Fn)(first cap:Array VL)(w:WD),(Instr.makeFunc fn first cap).run prog w=.ok (.func fn first cap) w:=fun _ _ _ _=>rfl
 obtain⟨iU,p1,-,r9,-⟩:=Vr CX;have q7:=TK (P:=prog) 60 9 iU CY p1;clear p1;go_wp2_with fail
 go_step3
 go_wp2_with fail;have⟨W1,x1⟩:=qx<|(((w.alloc<|.cells #[s] 9).alloc<|.cells #[] 9).alloc<|.cells #[.slice (w.heap.size+1:Nat) 0 0] 60);have p3:Qb [] w W1:=by rw[←x1];exact(((Qc [] w).alloc _).alloc _).alloc _
 have x0:Qb [] (w.alloc<|.cells #[s] 9) W1:=by rw[←x1];exact((Qc [] _).alloc _).alloc _
 have p2:Qb [] ((w.alloc<|.cells #[s] 9).alloc<|.cells #[] 9) W1:=by rw[←x1];exact(Qc [] _).alloc _
 have hA:Qe W1 w.heap.size 9 [s]:=(Qy w [s] 9).kept x0 (by simp);have hR:Qh W1 9 (.slice (w.heap.size+1:Nat) 0 0) []:=by have:=(Qh.mt (W:=w.alloc<|.cells #[s] 9) 9).kept p2 (by simp);simpa using this
 have hO:Qe W1 (w.heap.size+1+1) 60 [.slice (w.heap.size+1:Nat) 0 0]:=by have:=Qy ((w.alloc<|.cells #[s] 9).alloc<|.cells #[] 9) [.slice (w.heap.size+1:Nat) 0 0] 60;rw[←x1];simpa using this
 rw[x1];have⟨y5,HA,HR,HO⟩:=qd p3 hA hR hO;clear x1 p3 x0 p2 hA hR hO q7 r0;obtain⟨W0,q6⟩:∃W0:WD,W0=W1:=⟨_,rfl⟩;subst q6
 go_loopg [14] s.size (fun k r4 wr=>(∃i:Nat,i≤s.size∧k=s.size-i∧r4=.int .i64 (i:Nat)∧Hid ((s.data.toList.take i).all Ck=true))∧Hid (Qb [] W0 wr))
 ·exact⟨⟨0,by omega,by omega,rfl,Qa<|by simp⟩,Qa<|Qc _ _⟩
 obtain⟨⟨i,hi,hk,rfl,HG⟩,h9⟩:=hrel;have c0:=(HA.o.kept h9.o<|by simp).cell (i:=0) (u:=.string s) rfl
 by_cases hlt:i<s.size
 ·have g0:(i:Int)<s.size:=by omega
  have i0:=Ux s i (i:Int) hlt rfl;have⟨b,hb⟩:=qx<|s[i]'hlt;have z7:s.data.toList[i]'(by rw[h8.o];exact hlt)=b:=hb;rw[hb]at i0;have HB:=Qa z7;clear hb z7
  by_cases o:b.toNat<32
  ·have g1:decide ((b.toNat:Int)<32)=true:=(by simp;omega);go_wp2_with fail;rw[UX];refine⟨.tuple #[.string ⟨#[]⟩,(140:Int)],by simp[results,Fp,go_sem],?_,y5.o.trans h9.o fun x hx=>.inl hx⟩;rw[Wi (i:=i) (by rw[h8.o];exact hlt) (by rw[HB.o];simp[Ck];omega)];rfl
  have g1:decide ((b.toNat:Int)<32)=false:=by simp;omega
  by_cases h2:126<b.toNat
  ·have g2:decide (126<(b.toNat:Int))=true:=(by simp;omega);go_wp2_with fail;rw[UX];refine⟨.tuple #[.string ⟨#[]⟩,(140:Int)],by simp[results,Fp,go_sem],?_,y5.o.trans h9.o fun x hx=>.inl hx⟩;rw[Wi (i:=i) (by rw[h8.o];exact hlt) (by rw[HB.o];simp[Ck];omega)];rfl
  have g2:decide (126<(b.toNat:Int))=false:=by simp;omega
  go_wp2
  go_roundg (s.size-(i+1))
  ·refine⟨⟨i+1,by omega,rfl,by go_num,Qa ?_⟩,h9⟩;rw[Zt,List.all_append,HG.o,Qj (by rw[h8.o];exact hlt),HB.o];simp[Ck];omega
  omega
 have g0:¬(i:Int)<s.size:=by omega
 obtain rfl:i=s.size:=by omega
 go_wp2_with fail
 go_step3
 go_wp2_with fail;have x8:=(HA.o.kept h9.o<|by simp).kept ((Qc [] wr).alloc<|.cells #[.bool false] 4) (by simp);have y0:=(HO.o.kept h9.o<|by simp).kept ((Qc [] wr).alloc<|.cells #[.bool false] 4) (by simp);have y1:=(HR.o.kept h9.o fun x hx h=>by cases h).kept ((Qc [] wr).alloc<|.cells #[.bool false] 4) (fun x hx h=>by cases h);have y6:=Qy wr [.bool false] 4;have x9:=(y5.o.trans h9.o fun x hx=>.inl hx).alloc<|.cells #[.bool false] 4;have r3:=h9.o.size;have q9:=HO.o.lt;have y9:(wr.alloc<|.cells #[.bool false] 4).heap.size=wr.heap.size+1:=by simp
 have⟨W2,y2⟩:=qx<|wr.alloc<|.cells #[.bool false] 4;obtain⟨bb,y7⟩:∃g,wr.heap.size=g:=⟨_,rfl⟩;obtain⟨bo,y8⟩:∃g,w.heap.size+1+1=g:=⟨_,rfl⟩;obtain⟨bs,x2⟩:∃g,w.heap.size=g:=⟨_,rfl⟩;rw[show(Obj.cells #[Value.bool false] 4)=Obj.cells [Value.bool false].toArray 4 from rfl]at y2 x8 y0 y1 x9 y9;rw[y2]at x8 y0 y1 y6 x9 y9;have HE:=Qa (by omega:bo=bs+2∧w.heap.size=bs∧bs+2<bb∧W2.heap.size=bb+1);have HC:=Qa<|show UB w bs bo bb false [] (.slice (bs+1:Nat) 0 0) W2 from⟨by rwa[←y7],by rwa[←y8,←x2],by rwa[←x2],by simp[Qd,qo];omega,x9⟩;have p7:=Qa (by rwa[←x2]:Qe W2 bs 9 [s]);clear x8 y0 y1 y6 x9 r3 q9 y9;rw[y8,y7,x2];rw[show(Obj.cells #[Value.bool false] 4)=Obj.cells [Value.bool false].toArray 4 from rfl,y2];clear y2 y8 y7 x2;refine wpIn_wide.1 (fX (w:=W2) (gf:=84) (lb:=#[.pointer bs]) rfl (enters_of func84 (by kernel_rfl) rfl)
  (tF s bs W2 hs p7.o) (by have:=HE.o;simp;omega) (fun _=>rfl)
  (fun h4 W=>[46,46]∉h4∧∃va,UB w bs bo bb false (YC h4) va W)
  (fun c h4 W=>c=.exit 2∧∃p0,h4=p0++[[46,46]]∧[46,46]∉p0∧∃va,UB w bs bo bb true (YC p0) va W) ?hI ?hIx ⟨by simp,_,HC.o⟩ ?rd ?done ?stop)
 case hI=>exact fun p A B ⟨hp,va,h⟩ hz hm=>⟨hp,va,h.mild hm (by have:=HE.o;omega) (by have:=HE.o;omega) (by have:=HE.o;omega) (by have:=HE.o;omega)⟩
 case hIx=>exact fun c p A B ⟨hc,p0,hp,hn,va,h⟩ hz hm=>⟨hc,p0,hp,hn,va,h.mild hm (by have:=HE.o;omega) (by have:=HE.o;omega) (by have:=HE.o;omega) (by have:=HE.o;omega)⟩
 case rd=>
  rintro l h4 x W⟨hp,va,hC⟩ ⟨post,x5⟩ hW;have⟨h5,HP⟩:=qb hC hp;clear hC hp;apply Exists.intro;constructor
  ·intro W' K hK
   gi_wp2
   exact hK
  by_cases o:x=[]∨x=[46]
  ·have x4:YC (h4++[x])=YC h4:=(by unfold YC;rw[Aw,List.filter_cons_of_neg (by simp only[o];decide)];simp);have hne:[46,46]∉h4++[x]:=by simp only[Q6,Za,JU];refine⟨HP.o,fun e=>?_⟩;subst e;rcases o with h|h<;>cases h
   have HF:=Qa (show _∧∃va,UB w bs bo bb false (YC<|h4++[x]) va W from⟨hne,va,by rw[x4];exact h5.o⟩);clear x4 hne;rcases o with rfl|rfl
   ·have q1:(str []).toList.isEmpty=true:=by rw[X6];rfl
    gi_wp2_with fail
    exact⟨KeepsOthers.refl W,fun _ _=>rfl,HF.o⟩
   have q1:(str [46]).toList.isEmpty=false:=(by rw[X6];rfl);have q2:(str [46]).toList=[46]:=by rw[X6];rfl
   gi_wp2_with fail
   exact⟨KeepsOthers.refl W,fun _ _=>rfl,HF.o⟩
  by_cases h2:x=[46,46]
  ·subst h2;have HF:Hid (UB w bs bo bb true (YC h4) va<|W.setCell ⟨bb,0,none⟩<|.bool true):=(by obtain⟨z1,z2,z3,z4,z5⟩:=h5.o;have k:=(Qc [bb] W).setCell (p:=bb) (by simp)<|.bool true;have:=HE.o;exact Qa ⟨z1.set 0<|.bool true,z2.kept k (by simp;omega),z3.kept k (fun x hx=>by have:=z4 x hx;simp;omega),z4,z5.trans k (by intro x hx;simp at hx;right;omega)⟩);have q1:(str [46,46]).toList.isEmpty=false:=(by rw[X6];rfl);have q2:(str [46,46]).toList=[46,46]:=(by rw[X6];rfl);have c0:=h5.o.1.cell (i:=0) (u:=.bool false) rfl;have f0:=h5.o.1.free 0
   gi_wp2_with fail
   exact⟨keeps_of ((Qc [bb] W).setCell (p:=bb) (by simp)<|.bool true)<|by simpa using⟨_,h5.o.1,rfl⟩,rfl,_,rfl,HP.o,_,HF.o⟩
  have x4:YC (h4++[x])=YC h4++[x]:=by unfold YC;rw[Aw,List.filter_cons_of_pos (by simp only[o];decide)];rfl
  have a1:(YC h4).length≤s.size:=by have e1:=Qu List.length x5;have e2:=IE s;have e3:(YC h4).length≤h4.length:=DL _ _;rw[h8.o]at e2;simp at e1;omega
  have L1:(strs<|YC h4).length+1≤maxLen:=by rw[Vi];simp only[maxLen];omega
  have L2:((strs<|YC h4).length+1)*16≤140737488355328:=by rw[Vi];omega
  have q1:(str x).toList.isEmpty=false:=by
   rw[X6,Jz];cases x with
   |nil=>exact absurd (.inl rfl) o
   |cons b r=>rfl
  have q2:((str x).toList==[46])=false:=by rw[X6,Jz];exact Zb.2 fun e=>o<|.inr e
  have q3:((str x).toList==[46,46])=false:=by rw[X6,Jz];exact Zb.2 h2
  have c0:=h5.o.2.1.cell (i:=0) (u:=va) rfl;have p4:(strs<|YC h4).length=(YC h4).length:=Vi _;have⟨q4,r5,p6⟩:=qc x4 p4<|show ¬(x=[]∨x=[46])∧x≠[46,46]from⟨o,h2⟩;clear x4 p4 o h2;have q5:=Qa<|show bo∉Qd va from fun hm=>(h5.o.2.2.2.1 bo hm).2.2.1 rfl
  gi_wp2_with ((gi_at_builtin;refine lM W rfl _ _ 60 rfl 9 (.string ⟨#[]⟩) 1 16 CY CX rfl (by decide) va (strs<|YC h4).length (strs<|YC h4) [.string<|str x] rfl rfl rfl rfl (by simp[Value.oneCell']) h5.o.2.2.1 L1 L2 ?_;intro g5 r6 w5 r1 x3 q8;have z6:=h5.o.2.1.kept x3 q5.o;have c5:=z6.cell (i:=0) (u:=va) rfl;have f5:=z6.free 0))
  have z8:=UB.push h5.o x3 q8 r1 rfl (by have:=HE.o;omega) (by have:=HE.o;omega) (by have:=HE.o;omega);rw[←q4.o]at z8;refine⟨keeps_of (S:=bo::Qd va) ((x3.mono fun x hx=>XW _ hx).trans ((Qc [bo] w5).setCell (p:=bo) (by simp) _) (by intro y hy;simp at hy;left;simp[hy])) ?_,fun b hb=>?_,?_,_,z8⟩
  ·intro b hb;rcases QE.1 hb with rfl|hb
   ·exact⟨_,h5.o.2.1,rfl⟩
   rcases h5.o.2.2.1.2 with⟨h,-⟩|⟨g,cap,r7,h,-,hg,-⟩
   ·rw[h]at hb;simp[Qd,qo]at hb
   rw[h]at hb;have:b=g:=(by simpa[Qd,qo]using hb);subst this;exact⟨_,hg,rfl⟩
  ·obtain rfl:b=bs:=(by simpa using hb);have e0:=HE.o;have e1:b∉Qd va:=fun hm=>(h5.o.2.2.2.1 b hm).2.1 rfl
   have e2:=x3.size;exact((Qc [bo] w5).setCell (p:=bo) (by simp) _).block b (by omega) (by simp;omega)|>.trans (x3.block b (by omega) e1)
  simp only[Q6,Za,JU];exact⟨HP.o,fun e=>p6.o.2 e.symm⟩
 case' done=>
  rintro D xs W hD rfl⟨hp,va,hC⟩ hK;have HX:=Qa (show ∃bad q,UB w bs bo bb bad q va W∧K.wt q≤s.size+1∧VP s=(if bad=true∨Z6 q=[]∨120<(Z6 q).length then([],140)else(Z6 q,0))from by
   refine⟨false,_,hC,?_,?_⟩
   ·have o:=Nx<|ZG s;rwa[MM,h8.o]at o
   have o:=Oc (ZG s) [] hp;rw[XH]at o;have h2:=HG.o;rw[Q8 (by rw[h8.o];exact Ql _)]at h2;unfold VP;rw[Qg h2,o];simp[Rh])
  clear hp hC
 case' stop=>
  rintro D c h4 W hD⟨post,x5⟩ ⟨rfl,p0,rfl,hp,va,hC⟩ hK;have HX:=Qa (show ∃bad q,UB w bs bo bb bad q va W∧K.wt q≤s.size+1∧VP s=(if bad=true∨Z6 q=[]∨120<(Z6 q).length then([],140)else(Z6 q,0))from by
   refine⟨true,_,hC,?_,?_⟩
   ·have o:=Nx p0;have h2:=MM s;rw[x5,lS,lS,h8.o]at h2;omega
   have h2:=HG.o;rw[Q8 (by rw[h8.o];exact Ql _)]at h2;unfold VP;rw[Qg h2,x5,QQ,Oc p0 _ hp,GS];simp[Rh])
  clear hp hC x5
 all_goals
  obtain⟨bad,q,hC,r2,p5⟩:=HX.o;have⟨y4,x7⟩:=qb hC p5;have c0:=hC.2.1.cell (i:=0) (u:=va) rfl;clear hC p5
 case' stop=>apply wpIn_wide.2
 all_goals
  first|go_step3|skip
  go_wp2_with fail;refine(Qgf va q W y4.o.2.2.1<|by omega).mono ?_;rintro e W2⟨rfl,x0⟩;have p8:=Qa (y4.o.1.kept x0<|by simp);have b0:=p8.o.cell (i:=0) (u:=.bool bad) rfl;have q0:(str<|Z6 q).size=(Z6 q).length:=rfl;have y3:=x0.heap hK (by simp);have⟨x6,p9⟩:=qb ((y4.o.2.2.2.2.trans x0 fun x hx=>by cases hx).trans ((Qc [D] W2).put (l:=D) (by simp)<|.deferred none) (fun x hx=>by simp at hx;right;rw[hx];have:=HE.o;omega)) (by cases bad<;>by_cases o:Z6 q=[]<;>by_cases h2:120<(Z6 q).length<;>simp[o,h2]<;>omega:bad=true∨Z6 q=[]∨120<(Z6 q).length∨(bad=false∧Z6 q≠[]∧(Z6 q).length≤120));clear x0 r2;rcases p9.o with o|o|o|⟨o,h2,h3⟩
  ·subst o;go_wp2_with fail;rw[UX];refine⟨by simp,.inl ⟨_,_,rfl,run_takeDeferred y3,?_⟩⟩;refine⟨.tuple #[.string ⟨#[]⟩,(140:Int)],by simp[results,Fp,go_sem],?_,x6.o⟩;rw[x7.o,Qg<|by simp];rfl
  ·have q1:(str<|Z6 q).toList.isEmpty=true:=(by rw[o,X6];rfl);have H1:=Qa o;clear o;cases bad<;>
   ·go_wp2_with fail;rw[UX];refine⟨by simp,.inl ⟨_,_,rfl,run_takeDeferred y3,?_⟩⟩;refine⟨.tuple #[.string ⟨#[]⟩,(140:Int)],by simp[results,Fp,go_sem],?_,x6.o⟩;rw[x7.o,Qg<|.inr<|.inl H1.o];rfl
  ·have q1:(str<|Z6 q).toList.isEmpty=false:=by
    rw[X6,Jz];cases hh:Z6 q with
    |nil=>rw[hh]at o;simp at o
    |cons=>rfl
   have q2:(120:Int)<((Z6 q).length:Int):=(by omega);have q3:decide (120<(Z6 q).length)=true:=(by simpa using o);cases bad<;>
   ·go_wp2_with fail;rw[UX];refine⟨by simp,.inl ⟨_,_,rfl,run_takeDeferred y3,?_⟩⟩;refine⟨.tuple #[.string ⟨#[]⟩,(140:Int)],by simp[results,Fp,go_sem],?_,x6.o⟩;rw[x7.o,Qg<|.inr<|.inr o];rfl
  subst o;have q1:(str<|Z6 q).toList.isEmpty=false:=by
   rw[X6,Jz];cases hh:Z6 q with
   |nil=>exact absurd hh h2
   |cons=>rfl
  have q2:¬(120:Int)<((Z6 q).length:Int):=by omega
  have q3:decide (120<(Z6 q).length)=false:=by simpa using h3
  go_wp2_with fail;rw[UX];refine⟨by simp,.inl ⟨_,_,rfl,run_takeDeferred y3,?_⟩⟩;refine⟨.tuple #[.string<|str<|Z6 q,(0:Int)],by simp[results,Fp,go_sem],?_,x6.o⟩;rw[x7.o,Qf (by simp[h2];omega)]
end
def FE(p:BA)(w)(hs:p.size≤1000000):Calls prog 17 #[p] w fun e w'=>e=.returned (.int .i64<|Un p)∧Qb [] w w':=by
 have⟨g,h⟩:=qb (tG p w hs)<|show Yp p=true↔VP p=(p.data.toList,0)from eY;obtain⟨c,a,b⟩:∃c a,VP p=(c,a):=⟨_,_,rfl⟩;have d:a=0∨a=140:=by
  have:=b;unfold VP at this
  split at this
  ·split at this<;>injection this with a h2<;>simp[←h2]
  injection this with a h2;simp[←h2]
 have:(str c).toList=c:=by rw[X6,Jz]
 have a:p.toList=p.data.toList:=X6 _;rw[b]at g h;have i:=Qa a;clear b a;go_enter func17,ntmps17;rcases d with rfl|rfl
 ·by_cases a:c=p.data.toList
  ·have k:(c==p.toList)=true:=(by rw[i.o,a];exact beq_self_eq_true _);have b:Yp p=true:=h.o.2 (by rw[a]);have d:=Qa b;clear a b;go_wp2_with (go_at_call 44;refine g.o.mono ?_;rintro e j⟨rfl,f⟩);go_ret;exact⟨by unfold Un;rw[d.o];rfl,f⟩
  have k:(c==p.toList)=false:=by rw[i.o];exact Zb.2 a
  have q2:¬c=p.toList:=by rwa[i.o]
  have b:Yp p=false:=Bi.2 fun hh=>a (by have:=h.o.1 hh;injection this)
  have d:=Qa b;clear a b;go_wp2_with (go_at_call 44;refine g.o.mono ?_;rintro e j⟨rfl,f⟩);go_ret;exact⟨by unfold Un;rw[d.o];rfl,f⟩
 have b:Yp p=false:=Bi.2 fun hh=>by have:=h.o.1 hh;injection this with _ a;cases a
 have d:=Qa b;clear b;go_wp2_with (go_at_call 44;refine g.o.mono ?_;rintro e j⟨rfl,f⟩);go_ret;exact⟨by unfold Un;rw[d.o];rfl,f⟩
def CA(s)(i:Nat)(x)(a:i≤s.size)(b:x=(i:Int))(W):(Instr.slice 9 (.string s) none (some<|.int .i64 x) none).run prog W=.ok (.string<|s.extract 0 i) W:=by subst b;simp[Instr.slice,YX Yj,Instr.sliceBounds,Instr.sliceBound,asIntOf,a]
def Gp(s)(i:Nat)(x)(a:i≤s.size)(b:x=(i:Int))(W):(Instr.slice 9 (.string s) (some<|.int .i64 x) none none).run prog W=.ok (.string<|s.extract i s.size) W:=by subst b;simp[Instr.slice,YX Yj,Instr.sliceBounds,Instr.sliceBound,asIntOf,a]
def Gq(s)(i j:Nat)(x a)(b:i≤j)(c:j≤s.size)(d:x=(i:Int))(e:a=(j:Int))(W):(Instr.slice 9 (.string s) (some<|.int .i64 x) (some<|.int .i64 a) none).run prog W=.ok (.string<|s.extract i j) W:=by subst d e;simp[Instr.slice,YX Yj,Instr.sliceBounds,Instr.sliceBound,asIntOf,b,c]
def Rm(l:LU):VL:=match Uc l with
 |some (a,b)=>.tuple #[str a,str b,.bool true]
 |none=>.tuple #[.string ⟨#[]⟩,.string ⟨#[]⟩,.bool false]
def jE(p:ByteArray)(w)(hs:p.size≤1000000):Calls prog 111 #[p] w fun e w'=>e=.returned (Rm p.data.toList)∧Qb [] w w':=by
 have b:=Qa<|Zo p
 by_cases a:p.size≤100
 ·have c:=Qa (show Rm p.data.toList=.tuple #[.string ⟨#[]⟩,p,.bool true]from by unfold Rm Uc;rw[Qg<|by rwa[b.o]];show Value.tuple #[.string ⟨#[]⟩,str p.data.toList,.bool true]=_;rw[VY]);have d:(p.size:Int)≤100:=by omega
  go_enter func111,ntmps111
  go_wp2
  go_ret3
  exact⟨by rw[c.o];rfl,Qc _ _⟩
 have d:¬(p.size:Int)≤100:=by omega
 have c:=Qa (show Uc p.data.toList=CC p.data.toList p.size 1 from by unfold Uc;rw[Qf<|by rwa[b.o],b.o]);have:=Qa a;clear a;go_enter func111,ntmps111
 go_wp2
 go_loopg [5] 159 (fun f g wr=>(∃a d:Nat,1≤a∧a≤156∧f=160-a∧g=.int .i64 (a:Nat)∧Hid (p.size≤d+a-1∧Uc p.data.toList=CC p.data.toList d a))∧Hid (Qb [] w wr))
 ·exact⟨⟨1,p.size,by omega,by omega,rfl,rfl,Qa ⟨by omega,c.o⟩⟩,Qa<|Qc _ _⟩
 obtain⟨⟨a,d,c,c,hk,rfl,f⟩,g⟩:=hrel
 by_cases o:a+1<p.size∧a≤155
 ·obtain⟨c1,c2⟩:=o;obtain⟨h,rfl⟩:∃h,d=h+1:=⟨d-1,by have:=f.o.1;omega⟩;obtain⟨hlt,g1,q⟩:a<p.size∧(a:Int)<p.size-1∧(a:Int)≤155:=by omega
  have i0:=Ux p a (a:Int) hlt rfl;have⟨c,hb⟩:=qx<|p[a]'hlt;rw[hb]at i0;have i:p.data.toList.getD a 0=c:=by rw[RU,Qj (by rw[b.o];exact hlt)];exact hb
  have hf:=f.o.2;rw[CC,Qg ⟨by rwa[b.o],c2⟩,b.o,i]at hf;have m:=Qa hf;clear hf hb i
  by_cases c3:c=47
  ·subst c3
   by_cases n:p.size-a-1≤100
   ·have g3:(p.size:Int)-a-1≤100:=(by omega);have:=CA p a (a:Int) (by omega) rfl;have:=Gp p (a+1) ((a:Int)+1) (by omega) (by omega);have i:Rm p.data.toList=.tuple #[.string<|p.extract 0 a,.string<|p.extract (a+1) p.size,.bool true]:=(by unfold Rm;rw[m.o,Qg ⟨rfl,n⟩];show Value.tuple #[str<|p.data.toList.take a,str<|p.data.toList.drop<|a+1,.bool true]=_;rw[Uo p 0 a<|by omega,Uo p (a+1) p.size<|Ql _,VD,Br,Q8 (l:=p.data.toList.drop<|a+1) (by rw[Y0,b.o];omega)]);have j:=Qa i;clear i;go_wp2_with fail
    go_region
    all_goals
     go_wp2
     go_ret3
     exact⟨by rw[j.o];rfl,g.o.trans ((Qc [] wr).drewN _) fun k k=>.inl k⟩
   have g3:¬(p.size:Int)-a-1≤100:=by omega
   go_wp2
   go_roundg (159-a)
   ·refine⟨⟨a+1,h,by omega,by omega,by omega,by go_num,Qa ⟨by have:=f.o.1;omega,?_⟩⟩,g⟩;rw[m.o,Qf fun k=>n k.2]
   omega
  have g3:¬(c.toNat:Int)=47:=by intro k;exact c3<|CZ.1 (by show c.toNat=47;omega)
  have g4:((c.toNat:Int)==47)=false:=Zb.2 g3
  go_wp2
  go_roundg (159-a)
  ·refine⟨⟨a+1,h,by omega,by omega,by omega,by go_num,Qa ⟨by have:=f.o.1;omega,?_⟩⟩,g⟩;rw[m.o,Qf fun k=>c3 k.1]
  omega
 have i:Rm p.data.toList=.tuple #[.string ⟨#[]⟩,.string ⟨#[]⟩,.bool false]:=by
  unfold Rm;rw[f.o.2];cases d with
  |zero=>rfl
  |succ h=>rw[CC,Qf<|by rwa[b.o]]
 have j:=Qa i;clear i
 by_cases c1:a+1<p.size
 ·obtain⟨g1,q⟩:(a:Int)<p.size-1∧¬(a:Int)≤155:=by omega
  go_wp2
  go_ret3
  exact⟨by rw[j.o];rfl,g.o⟩
 have g1:¬(a:Int)<p.size-1:=by omega
 go_wp2
 go_ret3
 exact⟨by rw[j.o];rfl,g.o⟩
def rH(x:Nat)(a:x<2^62):bits .and .i64 (x:Int) 7=((x%8:Nat):Int):=by have:=bits_mask .i64 62 (by decide) wraps_i64' 3 (by decide) (x:Int) (by omega) (by exact_mod_cast a);rw[show(2:Int)^3-1=7 from rfl,show(2:Int)^3=8 from rfl]at this;rw[this];omega
def VH(n a:Nat)(t:Nat):LU:=Ze (a-1-t)++(Ve t n++[0])
def VH.next(n b t)(c:t<b-1):(Qm<|VH n b t).set (b-2-t) (.int .u8 ((48+n/8^t%8:Nat):Int))=Qm (VH n b<|t+1):=by
 have d:n/8^t%8<8:=JL _ (by decide);have e:Value.int .u8 ((48+n/8^t%8:Nat):Int)=(fun c:UInt8=>Value.int .u8 (c.toNat:Int)) (UInt8.ofNat<|48+n/8^t%8):=by show _=Value.int .u8 _;rw[U7,XP (a:=48+n/8^t%8) (b:=2^8)<|by omega]
 unfold Qm;rw[e,←Bp]
 congr 1
 unfold VH;obtain⟨c,d⟩:∃c,b-1-t=c+1:=⟨b-2-t,by omega⟩;rw[d,show b-2-t=c by omega,show b-1-(t+1)=c by omega,Ve,Lz _ _ (by rw[VA];omega)];have:(Ze<|c+1).set c (UInt8.ofNat<|48+n/8^t%8)=Ze c++[UInt8.ofNat<|48+n/8^t%8]:=by unfold Ze;rw[Fg,VF _ _<|by simp];simp
 rw[this];simp
def eX(n a:Nat)(w)(b:2≤a)(b:a≤20)(c:n<8^(a-1))(i:n<1000000000):
 Calls prog 196 #[n,a] w fun e w'=>e=.returned (.tuple #[str<|Zc n a,(0:Int)])∧Qb [] w w':=by
 have g1:¬(a:Int)<2:=by omega
 have:¬(20:Int)<a:=by omega
 have g3:¬(n:Int)<0:=by omega
 have g4:(n:Int)/2^(3*(a-1))=0:=by
  refine Int.ediv_eq_zero_of_lt (by omega) ?_;have:(2:Nat)^(3*(a-1))=8^(a-1):=by rw[Nat.pow_mul]
  have b:n<2^(3*(a-1)):=by rwa[this]
  exact_mod_cast b
 go_enter func196,ntmps196;go_wp2_with ((at_make;refine YZ rfl _ _ 88 rfl 5 (.int .u8 0) 1 Xb YQ rfl .i64 .i64 _ _ a a rfl rfl rfl rfl (Ql _) (by omega) (by simp only[maxLen];omega) ?_;intro f d b));have c:Qh f 5 (.slice w.heap.size a a) (Qm<|VH n a 0):=by
  have:Qm (VH n a 0)=List.replicate a (.int .u8 0):=by unfold VH Ve Qm Ze;rw[Yy,←Fg,show a-1-0+1=a by omega,GP];rfl
  rwa[this]
 have⟨g,f⟩:=qb c b
 go_loopg [0,7] (a-1) (fun c d h wr=>(∃b:Nat,b≤a-1∧c=a-1-b∧d=.int .i64 ((n/8^b:Nat):Int)∧h=.int .i64 ((a:Int)-2-b)∧Hid (Qh wr 5 (.slice w.heap.size a a)<|Qm<|VH n a b))∧Hid (Qb [] w wr))
 ·exact⟨⟨0,by omega,by omega,by simp,by simp,g⟩,f⟩
 obtain⟨⟨b,k,hk,rfl,rfl,f⟩,h⟩:=hrel
 by_cases hlt:b<a-1
 ·have⟨c,g⟩:=qx<|n/8^b;have:c<1000000000:=by rw[←g];exact GV (DV _ _) i
  obtain⟨d,hi⟩:∃d:Nat,a-2-b=d:=⟨_,rfl⟩;have i:(a:Int)-2-b=(d:Int):=by omega
  rw[g,i];have:c%8<8:=JL _ (by decide);have:=rH c (by omega);have:IntKind.u8.wrap (48+((c%8:Nat):Int))=48+((c%8:Nat):Int):=by rw[CN];omega
  have:(c:Int)/2^3=((c/8:Nat):Int):=by omega
  have:(0:Int)≤d:=by omega
  obtain⟨j,i⟩:∃j,(Qm<|VH n a b)[d]?=some j:=⟨_,Qj (by have:=f.o.len;omega)⟩;have:=f.o.aZ i;have hf:=f.o.free d;have j:=Qa<|VH.next n a b hlt
  go_wp2
  go_roundg (a-1-(b+1))
  ·have i:=j.o;rw[hi,g]at i;have hp:=f.o.put d<|.int .u8<|48+((c%8:Nat):Int);rw[show(48+((c%8:Nat):Int))=((48+c%8:Nat):Int)by push_cast;rfl,i]at hp;refine⟨⟨b+1,by omega,rfl,?_,?_,Qa ?_⟩,Qa<|h.o.setCell (p:=⟨w.heap.size,d,none⟩) (.inr<|Ql _) _⟩
   ·rw[J5,←Si,g];push_cast;rfl
   ·congr 1;omega
   exact hp
  omega
 obtain rfl:b=a-1:=by omega
 have:¬(0:Int)≤a-2-((a-1:Nat):Int):=by omega
 have k:=Qh.text f.o
 go_wp2
 go_ret2;refine⟨?_,h.o⟩;have:VH n a (a-1)=Zc n a:=by unfold VH Zc;rw[ZO];rfl
 rw[this];rfl
def xE(s:ByteArray)(a w)(hs:s.size≤a)(hw:a≤512)(h0:Lib.indexByte s.data.toList 0= -1):
 Calls prog 243 #[s,a] w fun e w'=>e=.returned (.tuple #[str<|Zp s.data.toList a,(0:Int)])∧Qb [] w w':=by
 have g1:¬(a:Int)<0:=by omega
 have:¬(512:Int)<a:=by omega
 have g3:¬(a:Int)<s.size:=by omega
 have c:=Qa<|Tryz.strByte s 0 w;obtain⟨b,d⟩:∃b:Nat,a=s.size+b:=⟨a-s.size,by omega⟩;have:(a:Int)-s.size=(b:Int):=by omega
 have f:=Qa d;clear d;rw[show((0:Int).toNat.toUInt8)=(0:UInt8)from rfl,h0]at c;have:¬9223372036854775807<s.size+(Ze b).length:=by rw[VA];omega
 go_enter func243,ntmps243;go_wp2_with (first
  |(go_at_call 192;refine c.o.mono ?_;rintro e i⟨rfl,rfl⟩)
  |(at_make;refine YZ rfl _ _ 88 rfl 5 (.int .u8 0) 1 Xb YQ rfl .i64 .i64 _ _ b b rfl rfl rfl rfl (Ql _) (by omega) (by simp only[maxLen];omega) ?_;intro j g d;have:=Qh.text (l:=Ze b) (by rw[show Qm (Ze b)=List.replicate b (.int .u8 0)by simp[Qm,Ze]];exact g)))
 go_ret2;refine⟨?_,d⟩;have:s++(⟨(Ze b).toArray⟩:ByteArray)=str (Zp s.data.toList a):=by
  rw[←VY (s++_),Zp,Zo,show a-s.size=b by have:=f.o;omega]
  congr 1
 rw[←this];rfl
def aK(s:BA)(w)(hs:s.size=512):Calls prog 177 #[s] w fun e w'=>e=.returned (.tuple #[.int .i64<|UU s 512,(0:Int)])∧Qb [] w w':=by
 have:=Qa<|Zo s;go_enter func177,ntmps177
 go_wp2
 go_loopg [4,5,11] 512 (fun b d a c wr=>(∃a:Nat,a≤512∧b=512-a∧d=.int .i64 (UU s a:Nat)∧c=.int .i64 (a:Nat))∧Hid (Qb [] w wr))
 ·exact⟨⟨0,by omega,rfl,rfl,rfl⟩,Qa<|Qc _ _⟩
 obtain⟨⟨a,hi,hk,rfl,rfl⟩,b⟩:=hrel;have d:=KP s a
 by_cases hlt:a<512
 ·have⟨g,c⟩:=qx<|UU s a;rw[c]at d ⊢;have m:(a:Int)<512:=by omega
  have d:UU s (a+1)=g+if 148≤a∧a<156 then 32 else(s.data.toList.getD a 0).toNat:=by rw[UU,c]
  have i:=Qa d
  by_cases d:148≤a∧a<156
  ·obtain⟨g1,n⟩:(148:Int)≤a∧(a:Int)<156:=(by omega);have h:=Qa d
   go_wp2
   go_roundg (512-(a+1))
   ·refine⟨⟨a+1,by omega,rfl,?_,by go_num⟩,b⟩;rw[i.o,Qg h.o];go_num
   omega
  have i0:=Ux s a (a:Int) (by omega) rfl;have hb:=Ce s a (by omega);have⟨c,f⟩:=qx<|s[a]'(by omega);rw[f]at i0 hb;have:c.toNat<256:=c.toNat_lt;have⟨l,h⟩:=qb hb d;have k:∀j,Qb [] w j→∃f:Nat,f≤512∧512-(a+1)=512-f∧(.int .i64 ((g:Int)+c.toNat):VL)=.int .i64 (UU s f:Nat)∧(.int .i64 ((a:Int)+1):VL)=.int .i64 (f:Nat):=fun j _=>
   ⟨a+1,by omega,rfl,by rw[i.o,Qf h.o,l.o];go_num,by go_num⟩
  have c:=Qa k
  by_cases f:148≤a
  ·obtain⟨g1,n⟩:(148:Int)≤a∧¬(a:Int)<156:=by omega
   go_wp2
   go_roundg (512-(a+1))
   ·exact⟨c.o _ b.o,b⟩
   omega
  have g1:¬(148:Int)≤a:=by omega
  go_wp2
  go_roundg (512-(a+1))
  ·exact⟨c.o _ b.o,b⟩
  omega
 obtain rfl:a=512:=by omega
 have m:¬((512:Nat):Int)<512:=by omega
 go_wp2
 go_ret2;exact⟨rfl,b.o⟩
