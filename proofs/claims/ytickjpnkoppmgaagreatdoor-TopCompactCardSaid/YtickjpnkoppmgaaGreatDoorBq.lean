import Derived.Test.YtickjpnkoppmgaaGreatDoorBp
set_option linter.all false
set_option maxHeartbeats 4000000
set_option maxRecDepth 100000
namespace Go.Proofs.YtickjpnkoppmgaaGreatDoor
open Go.Proofs.Tryz Go.RowKit K Go.Maps Go.Shelf Go.Sort
def Y4(f:QC):LV:=[str f.1,str f.2]
def V2(w:WD)(v:VL)(l:List QC):Prop:=∃a b,v=.slice a l.length b∧Qp w 2 a l.length (Qx Y4 l)
def V2.kZ{w w' v l}(c:V2 w v l)(hk:Qb [] w w'):V2 w' v l:=by obtain⟨a,b,d,e⟩:=c;exact⟨a,b,d,e.kZ hk⟩
def Cj{w a n l}(c:Qp w 2 a n (Qx Y4 l)){i}{x:QC}(b:l[i]?=some x):
 ∃g off,a=some ⟨g,off,none⟩∧w.cell? ⟨g,off+i*2,none⟩=some (.string<|str x.1)∧w.cell? ⟨g,off+i*2+1,none⟩=some (.string<|str x.2):=by
 have h0:=Va (enc:=Y4) (k:=2) (fun _=>rfl) l i 0 x b (by decide);have e:=Va (enc:=Y4) (k:=2) (fun _=>rfl) l i 1 x b (by decide);obtain⟨g,off,d,c1⟩:=c.2 _ (.string<|str x.1) (by rw[h0];rfl);obtain⟨b,b,b,c2⟩:=c.2 _ (.string<|str x.2) (by rw[e];rfl);subst d;injection b with b;injection b with b e3;subst b e3;exact⟨g,off,rfl,c1,c2⟩
def EG(v:VL):Option (DataW Unit × List MemPlace):=match v with
 | .bool x=>some (.lit (.bool x),[])
 |_=>none
def Hh(D:DataW Unit)(S:LY):Prop:=∀a,D.atKey (.string a) (.lit (.bool false))=.lit (.bool (decide (a∈S)))
def Qep{D:DataW Unit}{S}(c:Hh D S)(d:IsMap D)(p):Hh (D.put (.string p)<|.lit<|.bool true) (S++[p]):=fun b=>by
 by_cases a:b=p
 ·subst a;rw[atKey_put_same d<|show WideAt.IsKeyLit (.string b)from True.intro];simp
 rw[atKey_put_other<|FX a,c b]
 congr 2
 simp[a]
def Qax{w B n}{D:DataW Unit}{S}(h:w.ownsMap prog 9 EG B n D)(y:Hh D S)(p)(hp:p.length≤1000000):
 (Instr.lookup 145 (.map<|some B) (.string<|str p) false).run prog w=.ok (.bool<|decide<|p∈S) w:=by
 have h4:keyOf prog 9 (.string<|str p)=some (.string p):=Lj Yj (s:=str p) (by show p.length≤_;simp only[maxLen];omega);obtain⟨v,ps,q,o⟩:=h.lookup AT underlying145 (z:=.bool false) (by kernel_rfl) (zd:=.lit<|.bool false) (zp:=[]) rfl h4;rw[y p]at o;unfold EG at o
 split at o
 ·rename_i x;injection o with o;injection o with o h3;injection o with o;injection o with o;rw[q,o]
 cases o
def Vst.bad_drop{l:List QC}{i}{f:QC}(c:l[i]?=some f)(b:Yp f.1=true)(a:f.2.length≤8192):Vst.bad (l.drop i)=Vst.bad (l.drop<|i+1):=by have a:=(Qz.1 c);rw[Z8 a.1,a.2,Vst.bad,Qf (by rw[b];simp),Qf<|by omega]
def Vst.bad_at{l:List QC}{i}{f:QC}(b:l[i]?=some f):Vst.bad (l.drop i)=if Yp f.1=false then 140 else if 8192<f.2.length then 3 else Vst.bad (l.drop<|i+1):=by have a:=(Qz.1 b);rw[Z8 a.1,a.2,Vst.bad]
def Qn.notA{w v l}(c:Qn w 104 6 v l.length (Qx Xj l)):LK w v l:=by obtain⟨a,b,d,-,-,e,-⟩:=c.sees;exact⟨a,b,d,e⟩
structure Se(w0 wr:WD)(v8:VL)(s:Vst)(l:List QC)(n j:Nat)(dn:List (QC × QN))(v12 v13:VL):Prop where
 r8:Qn wr 104 6 v8 n (Qx Xj (dn.map Vst.noteF++(l.drop j).map fun f=>Vst.noteF (f,(0,0))))
 r12:Qn wr 109 2 v12 (s.mem.length+j) (Qx Q4 (s.exts++dn.map (·.2)))
 r13:Qh wr 9 v13 (strs (dn.map fun x=>X1 x.1))
 f12:∀x∈Qd v12,w0.heap.size≤x∧x∉Qd v8
 f13:∀x∈Qd v13,w0.heap.size≤x∧x∉Qd v8∧x∉Qd v12
 len:dn.length=j
 fst:dn.map (·.1)=l.take j
 ok:ZX s.dev.cap (s.exts++dn.map (·.2))=true
 al:Vst.alloc s.dev.cap s.exts l=(Vst.alloc s.dev.cap (s.exts++dn.map (·.2)) (l.drop j)).map (dn++ ·)
def qB:(prog.info? 104).map (fun i=>(i.zero,i.size,i.bytes))=some (some<|.agg #[(0:Int),.string ⟨#[]⟩,(0:Int),(0:Int),(0:Int),.int .u32 0],6,56):=by kernel_rfl
def Qch{A}{f:QC}{a j}(b:A.length=j)(x n:Int):((Qx Xj<|A++Vst.noteF (f,(0,0))::a).set (j*6+3) n).set (j*6+2) x=Qx Xj (A++Vst.noteF (f,(x,n))::a):=by
 have d:(Qx Xj A).length=j*6:=by rw[Iy (k:=6) fun _=>rfl,b]
 have c:∀b:Note,Qx Xj (A++b::a)=Qx Xj A++(Xj b++Qx Xj a):=fun b=>by simp[Qx]
 rw[c,c,VF _ _<|by omega,VF _ _<|by omega,d,show j*6+3-j*6=3 by omega,show j*6+2-j*6=2 by omega];rfl
def NS{A}{f:QC}{a j}(b:A.length=j){r}(c:r<6):(Qx Xj<|A++Vst.noteF (f,(0,0))::a)[j*6+r]?=(Xj<|Vst.noteF (f,(0,0)))[r]?:=
 Va (k:=6) (fun _=>rfl) _ _ _ _ (by rw[Zx<|by omega,b,ZO];rfl) c
def Po{a d nv pv mv s w c}(h:Zj w a d nv pv mv s)(hv:Vok s c)(v l)(hF:V2 w v l)(hl:l.length≤100)(hp:∀f∈l,f.1.length≤1000000∧f.2.length≤140737488351232)(hc:s.dev.lZ+10000≤1000000000):
 Calls prog 39 #[.pointer<|some ⟨a,0,none⟩,v] w fun e w'=>e=.returned (.int .i64 (s.put l).1)∧ZQ w a d nv pv mv (s.put l).2 w':=by
 obtain⟨al,cl,rfl,hs⟩:=hF;obtain⟨n,hn⟩:=qx l.length;rw[hn]at hs hl ⊢;obtain⟨aw,HS,HN,HH,HV,HP,g2⟩:=qg (Pn h.vt hv.dev) hs hn h hv hp hc;obtain⟨P,j6⟩:=qx<|s.put l;rw[j6];have z1:=Qa j6;clear h hv hs hn hp hc j6;go_enter func39,ntmps39;go_wp2_with (go_at_call 76;with_reducible refine aw.o.mono ?_;rintro e w⟨rfl,rfl⟩)
 go_loopg [7,32] n (fun k x7 dm wr=>(∃i:Nat,i≤n∧k=n-i∧dm=.int .i64 (i:Nat)∧Hid (Vst.bad l=Vst.bad (l.drop i)))∧Hid (Qb [] w wr))
 ·exact⟨⟨0,by omega,by omega,rfl,Qa rfl⟩,Qa<|Qc _ _⟩
 obtain⟨⟨i,hi,hk,rfl,HB⟩,d6⟩:=hrel
 by_cases hlt:i<n
 ·have q0:(i:Int)<n:=by omega
  obtain⟨f,hf⟩:=qy l i (by have:=HN.o;omega);obtain⟨g,off,rfl,c0,c1⟩:=Cj (HS.o.kZ d6.o) hf;have y6:=HP.o f<|QA hf;have p9:=Qa fun W=>FE (str f.1) W y6.1;rw[show(str f.1).data.toList=f.1 from rfl]at p9;have h9:=d6.o.alloc<|.cells #[.string<|str f.1,.string<|str f.2] 63;have i1:=Qa h9;have A:=Qy wr [.string<|str f.1,.string<|str f.2] 63;have b0:=A.cell (i:=0) rfl;obtain⟨HA,HX⟩:=qb A hf;have hz:(str f.2).size=f.2.length:=rfl;cases hok:Yp f.1 with
  |false=>
   have e1:Un f.1=140:=(by simp[Un,hok]);rw[e1]at p9;have HE:=Qa (show P=(140,s)by
    have hb:=HB.o;rw[Vst.bad_at HX.o,Qg hok]at hb;rw[←z1.o];unfold Vst.put;rw[Qg (by rw[hb];decide),hb])
   clear hf y6 h9 A hok e1 hz;go_wp2_with (go_at_call 17;with_reducible refine(p9.o _).mono ?_;rintro e w1⟨rfl,z8⟩);go_ret;rw[HE.o];exact⟨rfl,HH.o.refl.kept<|i1.o.trans z8<|by simp⟩
  |true=>
   have e1:Un f.1=0:=(by simp[Un,hok]);rw[e1]at p9
   by_cases co:8192<f.2.length
   ·have q1:(8192:Int)<f.2.length:=(by omega);have HE:=Qa (show P=(3,s)by
     have hb:=HB.o;rw[Vst.bad_at HX.o,Qf<|by simp[hok],Qg co]at hb;rw[←z1.o];unfold Vst.put;rw[Qg (by rw[hb];decide),hb])
    clear hf y6 h9 A hok e1;go_wp2_with (go_at_call 17;with_reducible refine(p9.o _).mono ?_;rintro e w1⟨rfl,z8⟩;have b1:=(HA.o.kept z8<|by simp).cell (i:=1) rfl);go_ret;rw[HE.o];exact⟨rfl,HH.o.refl.kept<|i1.o.trans z8<|by simp⟩
   have q1:¬(8192:Int)<f.2.length:=(by omega);have HE:=Qa (HB.o.trans<|Vst.bad_drop HX.o hok<|by omega);clear hf y6 h9 A hok e1;go_wp2_with (go_at_call 17;with_reducible refine(p9.o _).mono ?_;rintro e w1⟨rfl,z8⟩;have b1:=(HA.o.kept z8<|by simp).cell (i:=1) rfl)
   go_roundg (n-(i+1))
   ·exact⟨⟨i+1,by omega,rfl,by go_num,HE⟩,Qa<|i1.o.trans z8<|by simp⟩
   omega
 obtain rfl:n=i:=by omega
 have q0:¬(n:Int)<n:=by omega
 have p7:=Qa (by rw[HB.o,JI (by rw[HN.o];exact Ql _)];rfl:Vst.bad l=0);have cw:=@run_makeMap prog;clear HB;go_wp2_with fail;obtain⟨B,b3⟩:=qx wr.heap.size;have ay:=Qa b3;have m6:=World.ownsMap_made wr prog 9 EG;rw[b3]at m6;have o9:=Qa m6;rw[b3];obtain⟨o1,cb⟩:=qb (d6.o.alloc<|.map #[] 0) (by rw[←b3];exact d6.o.size:w.heap.size≤B);obtain⟨wm,aq⟩:=qx<|wr.alloc<|.map #[] 0;rw[aq]at o9 o1 ⊢;clear b3 m6 cw aq ay
 go_loopg [8,11,48] n (fun k x8 ep dp wq=>(∃(j:Nat)(v8:VL)(D:DataW Unit),j≤n∧k=n-j∧v8=x8∧dp=.int .i64 (j:Nat)∧
  Hid (wq.ownsMap prog 9 EG B j D∧Hh D ((l.take j).map (·.1))∧((l.take j).map (·.1)).Nodup)∧Hid (Qn wq 104 6 v8 j<|Qx Xj<|(l.take j).map fun f=>Vst.noteF (f,(0,0)))∧Hid (∀x∈Qd v8,w.heap.size≤x∧x≠B))∧Hid (Qb [] w wq))
 ·exact⟨⟨0,.slice none 0 0,_,by omega,by omega,rfl,rfl,Qa ⟨o9.o,fun p=>rfl,List.nodup_nil⟩,Qa<|Qn.nil _ _ _,Qa<|by simp[Qd,qo]⟩,o1⟩
 obtain⟨⟨j,v8,D,hj,ct,rfl,rfl,HM,q9,q7⟩,h8⟩:=hrel
 by_cases eg:j<n
 ·have q1:(j:Int)<n:=by omega
  obtain⟨f,hf⟩:=qy l j (by have:=HN.o;omega);obtain⟨g,off,rfl,c0,c1⟩:=Cj (HS.o.kZ h8.o) hf;have y6:=HP.o f<|QA hf;obtain⟨c6,m7,r6⟩:=HM.o;have h9:=(Qc [] wr).alloc<|.cells #[.string<|str f.1,.string<|str f.2] 63;have cs:keyOf prog 9 (.string<|str f.1)=some (.string f.1):=Lj Yj (s:=str f.1) (by have:=y6.1;show f.1.length≤_;simp only[maxLen];omega);have af:=Qax (c6.alloc<|.cells #[.string<|str f.1,.string<|str f.2] 63) m7 f.1 y6.1;obtain⟨bj,bq⟩:=qb (c6.alloc<|.cells #[.string<|str f.1,.string<|str f.2] 63)<|Qep m7 (c6.tidy AT).isMap f.1;have A:=Qy wr [.string<|str f.1,.string<|str f.2] 63;have b0:=A.cell (i:=0) rfl;obtain⟨HA,n2,f8,j0,HX,y8,g5⟩:=qg A c6.lt h9 (by rw[Zt,hf];rfl:l.take (j+1)=l.take j++[f]) hf r6 fun W=>Nq (str f.2) W (by have:=y6.2;exact this);rw[show(str f.2).data.toList=f.2 from rfl]at g5;have hz:(str f.2).size=f.2.length:=rfl;have cy:j<maxLen:=by simp only[maxLen];omega
  obtain⟨q,hq⟩:=qx<|decide<|f.1∈(l.take j).map (·.1);rw[hq]at af;have HQ:=Qa hq;obtain⟨y,hy⟩:=qx<|Yw f.2;rw[hy]at g5;have HY:=Qa hy;clear hf y6 c6 m7 r6 h9 A hq hy;cases q with
  |true=>
   have HE:=Qa (show P=(2,s)by
    rw[←z1.o];unfold Vst.put;rw[Qf (by rw[p7.o];simp),Qg ?_];intro hn;have h1:=Ct HQ.o;have hl:=Qz.1 HX.o;have e:l=l.take j++f::l.drop (j+1):=(by rw[←hl.2,List.getElem_cons_drop,V6]);rw[e,Xi,QR]at hn;exact(BX.1 hn).2.2 f.1 h1 f.1 (by simp) rfl)
   go_wp2
   go_ret;rw[HE.o];exact⟨rfl,HH.o.refl.kept<|h8.o.trans f8.o<|by simp⟩
  |false=>
   have de:EG (.bool true)=some (.lit<|.bool true,[]):=rfl;go_wp2_with (at_mapUpdate;refine lN _ rfl _ _ _ 145 rfl 9 4 AT underlying145 EG B j D rfl bj.o cy _ _ _ rfl rfl cs _ [] de ?_;intro w2 ai aa);have x4:Qb [B] (wr.alloc<|.cells #[.string<|str f.1,.string<|str f.2] 63) w2:=(Qc [B] _).grown aa (by intro k hk;injection hk with hk;subst hk;exact .inl<|by simp);have A2:=HA.o.kept x4 (fun hm=>by rw[Za]at hm;have:=n2.o;omega);have d0:=A2.cell (i:=0) rfl;have d1:=A2.cell (i:=1) rfl;have av:=Qa A2;have p0:=(q9.o.kept f8.o<|ZM _).kept x4 (fun x hx hm=>by rw[Za]at hm;exact(q7.o x hx).2 hm);obtain⟨bu,o2,bk⟩:=qc p0 x4 ai;obtain⟨E,hE⟩:=qx wr.heap.size;rw[hE]at d0 d1 av ⊢;have L1:j+1≤maxLen:=(by simp only[maxLen];omega);have L2:(j+1)*56≤140737488355328:=(by omega);have t6:E∉Qd v8:=fun hm=>absurd (q9.o.lt E hm) (by omega)
   have bb:=Qa hE;clear x4 A2 p0 ai aa af b0 hE
   go_region_held3 (fun w'=>w'.cell? E=some (.string<|str f.1)∧w'.cell? ⟨E,1,none⟩=some (.string<|str f.2)) (first|exact⟨d0,d1⟩|exact⟨e0,e1⟩|go_keep)
    (first
      |(go_at_call 61;refine(g5.o _).mono ?_;rintro e w3⟨rfl,x6⟩;replace x6:=(Qc [] w2).drew.trans x6 (by simp);have e0:=x6.cZ d0 (by simp);have e1:=x6.cZ d1<|by simp)
      |(refine Gs rfl _ _ 82 rfl 104 (.agg #[(0:Int),.string ⟨#[]⟩,(0:Int),(0:Int),(0:Int),.int .u32 0]) 6 56 underlying82 qB rfl (by decide) v8 j _ [(1:Int),.string<|str f.1,(0:Int),(0:Int),.int .i64 f.2.length,.int .u32 y] ⟨w3.heap.size,0,none⟩ rfl rfl
         ((Qy w3 [(1:Int),.string<|str f.1,(0:Int),(0:Int),.int .i64 f.2.length,.int .u32 y] 104).sees (size:=6) (n:=1) rfl) (by simp[Value.oneCell']) (World.ownsRow.alloc (bu.o.kept x6<|ZM _) _) L1 L2 ?_
        intro g4 dv w4 ak y5 ab;replace e0:=y5.cZ (((Qc [] w3).alloc _).cZ e0<|by simp) t6;replace e1:=y5.cZ (((Qc [] w3).alloc _).cZ e1<|by simp) t6)
      )
   have t7:Qb (Qd v8) w2 w4:=((x6.mono (T:=Qd v8)<|by simp).alloc _).trans y5 fun x hx=>.inl hx;obtain⟨o3,bv,be,bx⟩:=qd t7 ak ab x6.size;clear t7 ak ab y5 x6
   go_wp2
   go_roundg (n-(j+1))
   case measure=>omega
   have r9:=h8.o.size;have cm:=o2.o.size;simp only[Vo]at cm;have ec:=bx.o;have dz:=bb.o;refine⟨⟨j+1,_,_,by omega,rfl,rfl,by go_num,Qa ⟨bk.o.kept o3.o.by fun e=>?_,by rw[j0.o,Xi];exact bq.o,?_⟩,Qa ?_,Qa fun x hx=>?_⟩,Qa<|((h8.o.trans f8.o<|by simp).trans o2.o fun x hx=>.inr (by rw[Za]at hx;subst hx;exact cb.o)).trans o3.o fun x hx=>.inr (q7.o x hx).1⟩
   ·exact(q7.o B (by unfold Qd;rw[←e];simp)).2 rfl
   ·rw[j0.o,Xi];refine BX.2 ⟨y8.o,by simp,fun x hx y hy e=>?_⟩;simp at hy;subst hy e;exact absurd hx<|NW HQ.o
   ·rw[j0.o,Xi];have e:∀X:List Note,Qx Xj (X++[Vst.noteF (f,(0,0))])=Qx Xj X++[.int .i64 1,.string<|str f.1,.int .i64 0,.int .i64 0,.int .i64 f.2.length,.int .u32 y]:=fun X=>by rw[←HY.o];simp[Qx,Xj,Zi,kindI,Vst.noteF]
    rw[show List.map (fun f=>Vst.noteF (f,(0,0))) [f]=[Vst.noteF (f,(0,0))]from rfl,e];exact bv.o
   simp[Qd,qo]at hx;subst hx;rcases be.o with h|h
   ·exact q7.o _ h
   have:=n2.o;simp only[Vo]at h;omega
 obtain rfl:n=j:=by omega
 have q1:¬(n:Int)<n:=by omega
 have c9:l.take n=l:=Q8 (by rw[HN.o];exact Ql _);have r6:=HM.o.2.2;have x9:=q9.o;rw[c9]at r6 x9;have j9:=Vst.bad_zero p7.o;obtain⟨ns,c4⟩:=qx<|(l.map fun f=>Vst.noteF (f,(0,0)));rw[c4]at x9;have e7:ns.length=n:=by rw[←c4,QH,HN.o]
 have hv:=HV.o;have f9:=Qa fun W (hW:Qb [] w W) hNN=>lH mv v8 s.mem ns W ((HH.o.vt.kZ hW).mem.memA) hNN (HH.o.env.kZ hW).1 (by have:=hv.few;omega) (by omega) hv.rise (fun m hm=>(hv.rm m hm).ms) (fun x hx=>by rw[←c4]at hx;obtain⟨f,hf,rfl⟩:=QB.1 hx;exact⟨(YK (j9 f hf).1).2.2,Av 0,by show(0:Int)≤4096;decide⟩);obtain⟨X,hX⟩:=qx<|Zn s.mem ns;rw[hX]at f9;have b2:=Qa hX;have m5:=Qn.notA (l:=ns) (by rwa[e7]);obtain⟨a8,c8,dd⟩:∃a c,v8=.slice a n c:=(by obtain⟨a,c,h1,-⟩:=m5;exact⟨a,c,by rw[h1,e7]⟩);subst dd;obtain⟨o7,bd⟩:=qb m5 fun W (hW:Qb [] w W)=>MY (HH.o.vt.kZ hW) (by have:=hv.few;omega);have c3:=(HH.o.vt.kZ h8.o).arr.cell (i:=3) (u:=mv) rfl;obtain⟨q9,y8,q8,p8⟩:=qd x9 r6 (Qr c4 e7) j9;clear c9 r6 x9 j9 c4 e7 hX hv HM m5
 by_cases ag:16<X.length
 ·have q2:(16:Int)<X.length:=by omega
  have HE:=Qa (show P=(241,s)by
   rw[←z1.o];unfold Vst.put;rw[Qf (by rw[p7.o];simp),Qf<|by simpa using y8.o,q8.o.1,b2.o,Qg ag])
  go_wp2_with (go_at_call 36;refine(f9.o _ h8.o o7.o).mono ?_;rintro e w2⟨v2,rfl,p0,x4,r4⟩;obtain⟨a2,c2,rfl,-⟩:=p0.memA);go_ret;rw[HE.o];exact⟨rfl,HH.o.refl.kept<|h8.o.trans x4<|by simp⟩
 have q2:¬(16:Int)<X.length:=by omega
 go_wp2_with (first
  |(go_at_call 36;refine(f9.o _ h8.o o7.o).mono ?_;rintro e w2⟨v2,rfl,p0,x4,r4⟩;obtain⟨a2,c2,rfl,-⟩:=p0.memA)
  |(go_at_call 77;refine(bd.o _<|h8.o.trans x4<|by simp).mono ?_;rintro e w3⟨y0,rfl,aj,x6,l5⟩))
 have m0:=x4.trans x6 (by simp);have bi:=Qa (show Se w w3 (.slice a8 n c8) s l n 0 [] y0 (.slice none 0 0)from
  {r8:=by rw[VD,YG,Yy,q8.o.1];exact q9.o.kept m0 (ZM _)
   r12:=by have:=aj;unfold Vst.exts at this;rw[QH]at this;rw[YG,XH];exact this
   r13:=Qh.nil _ _
   f12:=fun x hx=>⟨by have:=l5 x hx;have:=h8.o.size;have:=x4.size;omega,fun hm=>by have:=q9.o.lt x hm;have:=l5 x hx;have:=x4.size;omega⟩
   f13:=by simp[Qd,qo]
   len:=rfl
   fst:=by simp
   ok:=by rw[YG,XH];exact HV.o.ext
   al:=by rw[YG,XH,VD];simp})
 obtain⟨bf,d7⟩:=qb (h8.o.trans m0<|by simp) ag;clear p0 aj x4 x6 m0 r4 l5 c3
 go_loopg [12,13,14,15,16,17,18,88] n (fun k dg dh er es et eu ev dq wq=>(∃(j:Nat)(dn:List (QC × QN))(y0 d4:VL),j≤n∧k=n-j∧y0=dg∧d4=dh∧dq=.int .i64 (j:Nat)∧Hid (Se w wq (.slice a8 n c8) s l n j dn y0 d4))∧Hid (Qb [] w wq))
 ·exact⟨⟨0,[],_,_,by omega,by omega,rfl,rfl,rfl,bi⟩,bf⟩
 obtain⟨⟨j,dn,y0,d4,hj,ct,rfl,rfl,rfl,i6⟩,h8⟩:=hrel
 by_cases eh:j<n
 ·have q3:(j:Int)<n:=by omega
  obtain⟨f,hf⟩:=qy l j (by have:=HN.o;omega);obtain⟨g,off,rfl,c0,c1⟩:=Cj (HS.o.kZ h8.o) hf;obtain⟨e4,l6⟩:=p8.o f<|QA hf;have l3:l.drop j=f::l.drop (j+1):=by have hl:=(Qz.1 hf);rw[Z8 hl.1,hl.2]
  obtain⟨r8,r12,r13,f12,f13,y9,b7,c5,h9⟩:=i6.o;obtain⟨g8,ci,e8⟩:=r8.block (by omega) (by decide);injection e8 with e8 e9 e10;subst e8;rw[l3,QR]at r8;have v7:(dn.map Vst.noteF).length=j:=by rw[QH,y9]
  have f2:=Rg (f:=f) (YK e4).2.2 l6;obtain⟨z,hz⟩:=qx<|ZV f;rw[hz]at f2;have w8:Vst.alloc s.dev.cap (s.exts++dn.map (·.2)) (l.drop j)=(Y5 s.dev.cap (s.exts++dn.map (·.2)) z).bind fun a=>(Vst.alloc s.dev.cap (s.exts++dn.map (·.2)++[(a,(z:Int))])<|l.drop<|j+1).map ((f,(a,(z:Int))):: ·):=by rw[l3,←hz];rfl
  obtain⟨M,hM⟩:=qx<|X1 f;have o6:=Qa fun W hE=>dH (str f.1) (str f.2) W hE e4 l6;rw[show X1 ((str f.1).data.toList,(str f.2).data.toList)=X1 f from rfl,hM]at o6;rw[hM]at f2;have u8:=(Qc [] wr).alloc<|.cells #[.string<|str f.1,.string<|str f.2] 63;have m1:=h8.o.alloc<|.cells #[.string<|str f.1,.string<|str f.2] 63;have bc:=Qa<|HH.o.env.kZ m1;have b0:=(Qy wr [.string<|str f.1,.string<|str f.2] 63).cell (i:=0) rfl;have b1:=(Qy wr [.string<|str f.1,.string<|str f.2] 63).cell (i:=1) rfl;obtain⟨HR,h5,n7,n1,bh,Hf,bz⟩:=qg (Qr r8<|Qr r12<|Qr r13<|Qr v7 f2) (Qr f12<|Qr f13<|Qr y9<|Qr b7<|Qr c5 h9) w8 u8 m1 (Qr hf<|Qr e4 hM) (by rw[Zt,hf];rfl:l.take (j+1)=l.take j++[f]);have cj:((str M).size:Int)/512=(z:Int):=by show((M.length:Nat):Int)/512=_;omega
  have dy:((str M).size:Int).tdiv 512=(z:Int):=by rwa[GG<|by omega]
  have wz:IntKind.i64.wrap (z:Int)=(z:Int):=by rw[Zz];omega
  clear hf e4 l6 l3 r8 r12 r13 f12 f13 y9 b7 c5 h9 v7 f2 hz w8 hM u8 m1 e9 e10;go_wp2_with (go_at_call 40;refine(o6.o _ bc.o).mono ?_;rintro e w4⟨rfl,y5⟩;have R4:=(HR.o.1.kept n1.o<|ZM _).kept y5<|ZM _;have y2:=R4.free<|j*6+2;have y3:=R4.free<|j*6+3;have x2:=R4.aZ (NS HR.o.2.2.2.1 (r:=2)<|by decide);have x3:=R4.aZ<|NS HR.o.2.2.2.1 (r:=3)<|by decide);have r5:=(q7.o g8<|by simp[Qd,qo]).1;have R5:=R4.put (j*6+3)<|.int .i64 z;have K5:=(bh.o.trans y5<|by simp).setCell (p:=⟨g8,j*6+3,none⟩) (.inr r5)<|.int .i64 z;have KQ:=(((n1.o.trans y5<|by simp).mono (T:=[g8])<|by simp)).setCell (p:=⟨g8,j*6+3,none⟩) (.inl<|by simp)<|.int .i64 z;obtain⟨W5,u7⟩:=qx<|w4.setCell ⟨g8,j*6+3,none⟩<|.int .i64 z;change Code.wp _ _ _ _ (w4.setCell ⟨g8,j*6+3,none⟩<|.int .i64 z);rw[u7]at R5 K5 KQ ⊢;have c0:=(HH.o.vt.kZ K5).arr.cell (i:=0) (u:=.pointer d) rfl;have x3:W5.cell? ⟨g8,j*6+3,none⟩=some (.int .i64 z):=R5.aZ (by rw[Fe];have h1:=R4.1;rw[h1];omega);have x2:W5.cell? ⟨g8,j*6+2,none⟩=some (.int .i64 0):=R5.aZ (by rw[Lr<|by omega];exact NS HR.o.2.2.2.1 (r:=2)<|by decide);have y2:=R5.free<|j*6+2;have y3:=R5.free<|j*6+3;have n4:=Qa fun W (hW:Qb [] W5 W)=>Cg (HH.o.vt.kZ<|K5.trans hW<|by simp).dk HV.o.dev;obtain⟨U,hU⟩:=qx<|s.exts++dn.map (·.2);have u6:U.length=s.mem.length+j:=by rw[←hU,Qo,QH,h5.o.2.2.1];unfold Vst.exts;rw[QH]
  have r12:=HR.o.2.1.kept KQ (fun x hx hm=>by rw[Za]at hm;subst hm;exact(h5.o.1 _ hx).2 (by simp[Qd,qo]));have r13:=HR.o.2.2.1.kept KQ (fun x hx hm=>by rw[Za]at hm;subst hm;exact(h5.o.2.1 _ hx).2.1 (by simp[Qd,qo]));rw[hU]at r12;have f4:=h5.o.2.2.2.2.1;rw[hU]at f4;obtain⟨a7,y1⟩:=qb (fun W (hW:Qb [] W5 W)=>aB y0 U s.dev.cap z W (Qn.exA (by rw[u6];exact r12.kept hW<|ZM _)) (by have:=HV.o.few;omega) (by have:=HV.o.pZ;omega) (by have:=HV.o.dev.c2;omega) (by have:=HR.o.2.2.2.2;omega) f4)<|Qr R5<|Qr K5<|Qr KQ<|Qr r12<|Qr r13 hU;obtain⟨o,ho⟩:=qx<|Y5 s.dev.cap U z;rw[ho]at a7;have HO:=Qa<|Qr ho f4;have j2:¬a=g8:=by have:=HH.o.vt.lt a (by simp);omega
  have dt:¬g8=a:=fun e=>j2 e.symm
  clear R4 R5 K5 KQ hU u6 r12 r13 f4 ho u7 b0 b1 y5;cases o with
  |none=>
   unfold Es at a7
   go_region_held3 (fun w'=>w'.cell? a=some (.pointer d)∧w'.cell? ⟨g8,j*6+3,none⟩=some (.int .i64 z)) (first|exact⟨c0,x3⟩|exact⟨d0,d3⟩|exact⟨f0 _,f3 _⟩|go_keep)
    (first
      |(go_at_call 14;refine(n4.o _ (Qc [] W5).drew).mono ?_;rintro e w6⟨rfl,rfl⟩)
      |(go_at_call 55;refine(a7.o _ (Qc [] W5).drew).mono ?_;rintro e w7⟨rfl,x0⟩;have d0:=x0.cZ c0 (by simp);have d3:=x0.cZ x3 (by simp);have d2:=x0.cZ x2 (by simp);have R7:=y1.o.1.kept ((Qc [] W5).drew.trans x0<|by simp)<|ZM _;have e2:=R7.free<|j*6+2;have f0:∀v,(w7.setCell ⟨g8,j*6+2,none⟩ v).cell? a=_:=(fun v=>((Qc [g8] w7).setCell (p:=⟨g8,j*6+2,none⟩) (.inl<|by simp) v).cZ d0<|by simpa using j2);have f3:∀v,(w7.setCell ⟨g8,j*6+2,none⟩ v).cell? ⟨g8,j*6+3,none⟩=some (.int .i64 z):=(fun v=>(R7.put (j*6+2) v).aZ (by rw[Lr<|by omega,Fe];have h1:=R7.1;rw[Jo]at h1;rw[h1];omega));have i7:=Qa R7;clear R7))
   have HE:=Qa (show P=(220,s)by
    have hA:Vst.alloc s.dev.cap s.exts l=none:=(by rw[h5.o.2.2.2.2.2,n7.o,y1.o.2.2.2.2.2,HO.o.1];rfl);rw[←z1.o];unfold Vst.put;rw[Qf (by rw[p7.o];simp),Qf<|by simpa using y8.o,q8.o.1,b2.o,Qf d7.o,hA])
   have bg:=Qa<|(y1.o.2.1.trans ((Qc [] W5).drew.trans x0<|by simp)<|by simp).setCell (p:=⟨g8,j*6+2,none⟩) (.inr r5) (0:Int);clear x0
   go_wp2
   go_ret;rw[HE.o];exact⟨rfl,HH.o.refl.kept bg.o⟩
  |some gx=>
   unfold Es at a7
   go_region_held3 (fun w'=>w'.cell? a=some (.pointer d)∧w'.cell? ⟨g8,j*6+3,none⟩=some (.int .i64 z)) (first|exact⟨c0,x3⟩|exact⟨d0,d3⟩|exact⟨f0 _,f3 _⟩|go_keep)
    (first
      |(go_at_call 14;refine(n4.o _ (Qc [] W5).drew).mono ?_;rintro e w6⟨rfl,rfl⟩)
      |(go_at_call 55;refine(a7.o _ (Qc [] W5).drew).mono ?_;rintro e w7⟨rfl,x0⟩;have d0:=x0.cZ c0 (by simp);have d3:=x0.cZ x3 (by simp);have d2:=x0.cZ x2 (by simp);have R7:=y1.o.1.kept ((Qc [] W5).drew.trans x0<|by simp)<|ZM _;have e2:=R7.free<|j*6+2;have f0:∀v,(w7.setCell ⟨g8,j*6+2,none⟩ v).cell? a=_:=(fun v=>((Qc [g8] w7).setCell (p:=⟨g8,j*6+2,none⟩) (.inl<|by simp) v).cZ d0<|by simpa using j2);have f3:∀v,(w7.setCell ⟨g8,j*6+2,none⟩ v).cell? ⟨g8,j*6+3,none⟩=some (.int .i64 z):=(fun v=>(R7.put (j*6+2) v).aZ (by rw[Lr<|by omega,Fe];have h1:=R7.1;rw[Jo]at h1;rw[h1];omega));have i7:=Qa R7;clear R7))
   have R8:=i7.o.put (j*6+2) gx;have b8:=(Qc [] W5).drew.trans x0 (by simp);have K8:=(y1.o.2.1.trans b8<|by simp).setCell (p:=⟨g8,j*6+2,none⟩) (.inr r5) gx;have KS:=(Qc [g8] w7).setCell (p:=⟨g8,j*6+2,none⟩) (.inl<|by simp) gx;have r12:=(y1.o.2.2.2.1.kept b8<|ZM _).kept KS (fun x hx hm=>by rw[Za]at hm;subst hm;exact(h5.o.1 _ hx).2 (by simp[Qd,qo]));have r13:=(y1.o.2.2.2.2.1.kept b8<|ZM _).kept KS (fun x hx hm=>by rw[Za]at hm;subst hm;exact(h5.o.2.1 _ hx).2.1 (by simp[Qd,qo]));obtain⟨W8,j7⟩:=qx<|w7.setCell ⟨g8,j*6+2,none⟩ gx;change Exit.then _ _ _ _ (w7.setCell ⟨g8,j*6+2,none⟩ gx)
   rw[j7]at R8 K8 KS r12 r13 ⊢;have x3:W8.cell? ⟨g8,j*6+3,none⟩=some (.int .i64 z):=(by rw[←j7];exact f3 _);have m4:=i7.o.1;rw[Jo]at m4;have x2:W8.cell? ⟨g8,j*6+2,none⟩=some (.int .i64 gx):=R8.aZ (by rw[Fe];rw[Jo,m4];omega);have l7:g8∉Qd y0:=fun hm=>(h5.o.1 _ hm).2 (by simp[Qd,qo])
   have r0:=Qa<|Qr R8<|Qr K8<|Qr r12 r13;have ap:=y1.o.2.2.1.size;have cd:=Qa<|show wr.heap.size≤W8.heap.size from QS ap (QS b8.size KS.size);have cv:=HV.o.few;have L1:s.mem.length+j+1≤maxLen:=(by simp only[maxLen];omega);have L2:(s.mem.length+j+1)*16≤140737488355328:=(by omega);clear R8 K8 KS r12 r13 j7 f0 f3 d0 d3 d2 e2 x0 b8 ap m4 cv y2 y3 c0;go_wp2_with fail
   go_region_held3 (fun w'=>w'.cell? ⟨g8,j*6+2,none⟩=some (.int .i64 gx)∧w'.cell? ⟨g8,j*6+3,none⟩=some (.int .i64 z)) (first|exact⟨x2,x3⟩|exact⟨d2,d3⟩|go_keep)
    ((refine Gs rfl _ _ 106 rfl 109 (.agg #[(0:Int),(0:Int)]) 2 16 R9 Bt rfl (by decide) y0 (s.mem.length+j) _ [gx,.int .i64 z] ⟨W8.heap.size,0,none⟩ rfl rfl
       ((Qy W8.drew [gx,.int .i64 z] 109).sees (size:=2) (n:=1) rfl) (by simp[Value.oneCell']) (World.ownsRow.alloc (r0.o.2.2.1.kept (Qc [] W8).drew<|ZM _) _) L1 L2 ?_;intro g9 dw w9 am e6 ad;have d2:=e6.cZ (((Qc [] W8).drew.alloc _).cZ x2<|by simp) l7;have d3:=e6.cZ (((Qc [] W8).drew.alloc _).cZ x3<|by simp) l7))
   have j1:Qb (Qd y0) W8 w9:=((Qc (Qd y0) W8).drew.alloc _).trans e6 fun x hx=>.inl hx;have c7:=r0.o.2.2.2.kept j1 fun x hx=>(h5.o.2.1 x hx).2.2;obtain⟨xs,f5⟩:=qx<|strs<|dn.map fun x=>X1 x.1;have ar:xs.length=j:=(by rw[←f5,Vi,QH];exact h5.o.2.2.1);rw[f5]at c7;have L3:xs.length+1≤maxLen:=(by simp only[maxLen];omega);have L4:(xs.length+1)*16≤140737488355328:=(by omega);obtain⟨g7,s0,g6,ce⟩:=qd j1 am ad<|Qr f5 ar;clear j1 am ad e6 f5 ar d2 d3 x2 x3;go_wp2_with (at_builtin;refine ES w9 rfl _ _ 60 rfl 9 (.string ⟨#[]⟩) 16 CY CX rfl d4 (.string<|str M) xs rfl rfl rfl rfl c7 L3 L4 ?_;intro dx du en db l9 cq);have u5:=r0.o.1;have ej:=u5.lt g8 (by simp[Qd,qo]);have hS:=cd.o;have s9:=HR.o.2.2.1.lt;have ek:=s0.o.lt g9 (by simp[Qd,qo]);obtain⟨p1,p2,p3,p4⟩:=HO.o.1|>IP (by have:=HR.o.2.2.2.2;omega) (by have:=HV.o.pZ;omega)|>.2
   go_roundg (n-(j+1))
   case measure=>omega
   refine⟨⟨j+1,dn++[(f,(gx,(z:Int)))],_,_,by omega,rfl,rfl,rfl,by go_num,Qa ?_⟩,Qa<|(r0.o.2.1.trans g7.o fun x hx=>.inr (h5.o.1 x hx).1).trans l9 fun x hx=>.inr (h5.o.2.1 x hx).1⟩;have hU:=y1.o.2.2.2.2.2;refine {r8:=?_,r12:=?_,r13:=?_,f12:=?_,f13:=?_,len:=by rw[Qo,h5.o.2.2.1];rfl,fst:=by rw[Xi,h5.o.2.2.2.1,bz.o];rfl,ok:=?_,al:=?_}
   ·have h1:=(u5.kept g7.o (fun x hx hm=>by simp[Qd,qo]at hx;subst hx;exact l7 hm)).kept l9 (fun x hx hm=>by simp[Qd,qo]at hx;subst hx;exact(h5.o.2.1 _ hm).2.1 (by simp[Qd,qo]));rw[Qch HR.o.2.2.2.1]at h1;rwa[Xi,QQ]
   ·have h1:=s0.o.kept l9 (fun x hx hm=>by
     simp[Qd,qo]at hx;subst hx;rcases g6.o with h|h
     ·exact(h5.o.2.1 _ hm).2.2 h
     have:=s9 _ hm;have h:W8.heap.size+1≤x:=(by have h0:(W8.alloc<|.cells #[gx,.int .i64 z] 109).heap.size≤x:=h;rwa[Vo]at h0);omega)
    rw[Xi,←QQ,hU];have e:Qx Q4 (U++[(gx,(z:Int))])=Qx Q4 U++[.int .i64 gx,.int .i64 z]:=(by simp[Qx,Q4]);rw[show List.map (fun x:QC × QN=>x.2) [(f,(gx,(z:Int)))]=[(gx,(z:Int))]from rfl,e];exact h1
   ·rw[Xi];have e:strs (List.map (fun x:QC × QN=>X1 x.1) dn++List.map (fun x:QC × QN=>X1 x.1) [(f,(gx,(z:Int)))])=xs++[.string<|str M]:=(by rw[←ce.o.1,←Hf.o.2.2];simp[strs]);rwa[e]
   ·intro x hx;simp[Qd,qo]at hx;subst hx;rcases g6.o with h|h
    ·exact h5.o.1 _ h
    have h:W8.heap.size+1≤x:=(by have h0:(W8.alloc<|.cells #[gx,.int .i64 z] 109).heap.size≤x:=h;rwa[Vo]at h0);exact⟨by have:=r0.o.2.1.size;omega,by simp[Qd,qo];omega⟩
   ·intro x hx;simp[Qd,qo]at hx;subst hx;rcases cq with h|h
    ·refine⟨(h5.o.2.1 _ h).1,(h5.o.2.1 _ h).2.1,fun hm=>?_⟩;simp[Qd,qo]at hm;subst hm;rcases g6.o with h2|h2
     ·exact(h5.o.2.1 _ h).2.2 h2
     have:=s9 _ h;have h2:W8.heap.size+1≤x:=(by have h0:(W8.alloc<|.cells #[gx,.int .i64 z] 109).heap.size≤x:=h2;rwa[Vo]at h0);omega
    have:=g7.o.size;refine⟨by have:=r0.o.2.1.size;omega,by simp[Qd,qo];omega,by simp[Qd,qo];omega⟩
   ·rw[Xi,←QQ,hU];exact Vst.okX_add HO.o.2 p1 (by have:=HR.o.2.2.2.2;omega) p2 p3
   rw[h5.o.2.2.2.2.2,n7.o,hU,HO.o.1,Xi,←QQ,hU];simp only[Option.bind_some,Option.map_map]
   congr 1
   funext y
   simp
 obtain rfl:n=j:=by omega
 have q3:¬(n:Int)<n:=by omega
 obtain⟨r8,r12,r13,f12,f13,y9,b7,c5,h9⟩:=i6.o;have l1:l.drop n=[]:=JI (by rw[HN.o];exact Ql _);rw[l1]at r8 h9;rw[YG,XH]at r8;have b6:Vst.alloc s.dev.cap s.exts l=some dn:=by rw[h9];simp[Vst.alloc]
 have HQ:∀(e0:l≠[]),P=(0,((s.room<|l.length+1).write dn).commit<|dn.map Vst.noteF):=fun e0=>by rw[←z1.o];unfold Vst.put;rw[Qf (by rw[p7.o];simp),Qf<|by simpa using y8.o,q8.o.1,b2.o,Qf d7.o,b6];simp only[Qf e0]
 by_cases h0:n=0
 ·have q4:((n:Int)==0)=true:=by rw[h0];rfl
  have HE:=Qa (show P=(0,s)by
   have e0:l=[]:=J3 (by rw[HN.o,h0]);rw[←z1.o];unfold Vst.put;rw[Qf (by rw[p7.o];simp),Qf<|by simpa using y8.o,q8.o.1,b2.o,Qf d7.o,b6];simp only[Qg e0])
  clear r8 r12 r13 f12 f13 y9 b7 c5 h9 l1 b6 HQ h0
  go_wp2
  go_ret;rw[HE.o];exact⟨rfl,HH.o.refl.kept h8.o⟩
 have q4:((n:Int)==0)=false:=Zb.2 (by omega);have hv:=HV.o;obtain⟨s1,s2,s3⟩:=Vst.alloc_spec (by have:=hv.pZ;omega) hv.ext (fun f hf=>by have:=(Rg (YK (p8.o f hf).1).2.2 (p8.o f hf).2).2.1;omega) b6;have u4:P=(0,((s.room<|n+1).write dn).commit<|dn.map Vst.noteF):=by have:=HQ fun e=>h0 (by rw[←HN.o,e];rfl);rwa[HN.o]at this
 have el:n≤16:=by
  have h1:=GC (fun _=>1) (l:=l.map (·.1)) (l':=X.map (·.path)) y8.o (fun p hp=>by obtain⟨f,hf,rfl⟩:=QB.1 hp;refine QB.2 ⟨(Vst.noteF (f,(0,0))).2,?_,rfl⟩;rw[←b2.o,←q8.o.1];have:=(Vst.mem_puts (xs:=l.map fun f=>(f,((0,0):QN))) hv.rise (by rw[XI];exact y8.o) (m:=(Vst.noteF (f,(0,0))).2)).2 (.inl ⟨_,Ue hf,rfl⟩);rwa[XI]at this);rw[Gu,Gu,QH,QH,HN.o]at h1;have:=d7.o;omega
 obtain⟨g8,ci,e8⟩:=r8.block (by omega) (by decide);injection e8 with e8 e9 e10;subst e8;have r5:=(q7.o g8<|by simp[Qd,qo]).1;have j4:=HH.o.vt.lt;have x9:∀W,Qb (QT a d nv pv mv) wr W→Qn W 104 6 (.slice g8 n c8) n (Qx Xj<|dn.map Vst.noteF):=fun W hW=>r8.kept hW (fun x hx hm=>by simp[Qd,qo]at hx;subst hx;have:=j4 _ hm;omega)
 have c7:∀W,Qb (QT a d nv pv mv) wr W→Qh W 9 d4 (strs<|dn.map fun x=>X1 x.1):=fun W hW=>r13.kept hW (fun x hx hm=>by have:=j4 _ hm;have:=(f13 x hx).1;omega)
 obtain⟨cf,cg,s8,-⟩:=r13.sees;rw[Vi,QH,y9]at s8;subst s8;have y7:=hv.room (n+1) (by have:=g2.o;omega);have hrs:=s.room_same<|n+1;have dc:=s.room_calls<|n+1;have f1:=Vst.room_next (s:=s) (n:=n+1) (by omega);have s4:=Qa<|OE (HH.o.kZ h8.o) hv (n+1) (by omega) (by have:=g2.o;omega);rw[show((n+1:Nat):Int)=n+1 by push_cast;rfl]at s4;obtain⟨D,hD⟩:=qx<|(s.room<|n+1).dev;have r1:D.Ok:=by rw[←hD];exact y7.dev
 have b4:D.cap=s.dev.cap:=by rw[←hD];exact hrs.2.1
 have d8:D.lZ+9000≤1000000000:=by rw[←hD];have:=g2.o;omega
 have y4:ZX D.cap (dn.map (·.2))=true:=by rw[b4];rw[YD]at s2 ⊢;exact⟨fun x hx=>s2.1 x<|PW _ hx,(DR.1 s2.2).2.1⟩
 have x5:∀x∈dn,x.2.2=ZV x.1∧x.1.1.length≤120∧x.1.2.length≤8192:=fun x hx=>by
  have hm:x.1∈l:=by rw[←s1];exact Ue hx
  exact⟨s3 x hx,(YK (p8.o _ hm).1).2.2,(p8.o _ hm).2⟩
 have r9:∀i,i≤n→(Yr D<|dn.take i).Ok∧(Yr D<|dn.take i).cap=D.cap∧(Yr D<|dn.take i).lZ≤D.lZ+3200:=fun i hi=>by
  have ht:∀x∈dn.take i,x∈dn:=fun x hx=>VE hx
  have h1:=Pt (cap:=D.cap) (xs:=dn.take i) r1 rfl (by rw[YD]at y4 ⊢;exact⟨fun x hx=>y4.1 x (by rw[DN]at hx;exact VE hx),by rw[DN];exact y4.2.sublist<|LA _ _⟩) (fun x hx=>x5 x<|ht x hx) (by rw[Zl];omega);refine⟨h1.1,h1.2.1,?_⟩;rw[h1.2.2.1];have h2:∀L:List (QC × QN),(∀x∈L,x∈dn)→(L.map fun x=>ZV x.1).sum≤200*L.length:=by
   intro L
   induction L with
   |nil=>simp
   |cons y L ih=>
    intro hL;have e1:=ih fun x hx=>hL x<|XW _ hx
    have e2:=(Rg (x5 y<|hL y<|by simp).2.1 (x5 y<|hL y<|by simp).2.2).2.2;rw[QR,Z9,Q0];omega
  have h3:=h2 _ ht;rw[Zl]at h3;omega
 obtain⟨HF,d5,bn⟩:=qc (Qr x9<|Qr c7<|Qr r9<|Qr x5<|Qr y4<|Qr b4 y9) (Qr y7<|Qr f1<|Qr hD<|Qr r1 d8) u4;have w1:IntKind.i64.wrap ((n:Int)+1)=(n:Int)+1:=by rw[Zz];omega
 obtain⟨o0,ax⟩:=qb r5 (show ∀x∈Qd (.slice cf n cg),x<wr.heap.size∧w.heap.size≤x from fun x hx=>⟨r13.lt x hx,(f13 x hx).1⟩);have ck:=r8.lt g8 (by simp[Qd,qo]);clear r8 r12 r13 f12 f13 y9 b7 c5 h9 l1 b6 HQ hv s1 s2 s3 u4 e9 e10 j4 x9 c7 y7 hrs dc f1 hD r1 b4 d8 y4 x5 r9 r5;go_wp2_with (go_at_call 50;refine s4.o.mono ?_;rintro e w5⟨rfl,cz⟩;obtain⟨p5,p6,df,b5,e5,l8⟩:=cz);have an:=(HF.o.2.1 _ e5).sZ;have bw:=Qa an;have x9:=HF.o.1 _ e5;obtain⟨i8,ca,n8,o4⟩:=qd x9 b5 l8 e5;have ah:∀x,x<wr.heap.size→w.heap.size≤x→x∉Q7 d p5 p6:=fun x h1 h2 hm=>by
  rcases l8 x (by simp only[QT,QE,Q6];exact .inr<|.inr<|by simpa[Q7]using hm)with h3|h3
  ·have:=HH.o.vt.lt x h3;omega
  omega
 have o8:=Qa ah;have v6:Q9 w5 d p5 p6 (Yr D<|dn.take 0) w5:=by have:=b5.vt.dk;rw[d5.o.2.2.1]at this;exact Q9.refl this
 obtain⟨az,g0,f7⟩:=qc v6 (b5.vt.arr.cell (i:=0) (u:=.pointer d) rfl) b5.vt.apart.1;clear an x9 b5 l8 e5 ah v6
 go_loopg [20,21,22,23,167,178] n (fun k ew ex dj dl di au wq=>∃i:Nat,i≤n∧k=n-i∧di=.int .i64 (i:Nat)∧Hid (Q9 w5 d p5 p6 (Yr D<|dn.take i) wq))
 ·exact⟨0,by omega,by omega,rfl,az⟩
 obtain⟨i,hi,ee,rfl,a1⟩:=hrel
 by_cases ei:i<n
 ·have q5:(i:Int)<n:=by omega
  obtain⟨⟨f,gx,z⟩,hx⟩:∃x,dn[i]?=some x:=⟨_,Qj (by have:=HF.o.2.2.2.2.2.2;omega)⟩;have x5:=HF.o.2.2.2.1 _<|QA hx;obtain⟨hz,l4,r4⟩:=x5;have hz:z=(ZV f:Int):=hz;subst hz;have cr:=((YD _ _).1 HF.o.2.2.2.2.1).1 (gx,(ZV f:Int)) (QB.2 ⟨_,QA hx,rfl⟩);obtain⟨p1,p2,p3⟩:=cr;have b9:=Rg l4 r4;have l0:=d5.o.2.2.2.1.c2;obtain⟨N2,e3⟩:=qx<|ZV f;rw[e3]at hx p1 p2 p3 b9;obtain⟨T,hT⟩:∃T:Nat,gx=(T:Int):=⟨gx.toNat,by have p1:30≤gx:=p1;omega⟩;subst hT;obtain⟨L,hL⟩:=qx<|Y7 f;have d9:L.length=N2:=by rw[←hL,Ap,e3]
  have t8:∀x∈L,x.length=512:=by rw[←hL];exact Gm l4 r4
  have j5:∀k,k<N2→L[k]?=some (((X1 f).drop<|512*k).take 512):=fun k hk=>by rw[←hL];unfold Y7;rw[e3];exact We _ _ _ hk
  obtain⟨x1,z7,r2⟩:=HF.o.2.2.1 i (by omega);have Xu:Yr D (dn.take<|i+1)=(Yr D<|dn.take i).wr T L:=by unfold Yr;rw[Zt,hx,Fk,DK,←hL];rfl
  obtain⟨Di,z6⟩:=qx<|Yr D<|dn.take i;rw[z6]at x1 z7 r2 Xu a1;obtain⟨M,hM⟩:=qx<|X1 f;rw[hM]at b9 j5;obtain⟨s7,em,ea,u9⟩:=bw.o.2 i (.string<|str M) (by unfold strs;rw[ZD,ZD,hx,←hM];rfl);subst ea;have j8:=ax.o s7 (by simp[Qd,qo]);have v1:=o8.o s7 j8.1 j8.2;have l2:=o8.o g8 ck o0.o;have m3:=i8.o.aZ (Va (enc:=Xj) (k:=6) (fun _=>rfl) (dn.map Vst.noteF) i 3 (Vst.noteF (f,((T:Int),(N2:Int)))) (by rw[ZD,hx];rfl)<|by decide);have m2:=i8.o.aZ (Va (enc:=Xj) (k:=6) (fun _=>rfl) (dn.map Vst.noteF) i 2 (Vst.noteF (f,((T:Int),(N2:Int)))) (by rw[ZD,hx];rfl)<|by decide);have m3:w5.cell? ⟨g8,i*6+3,none⟩=some (.int .i64 N2):=m3;have m2:w5.cell? ⟨g8,i*6+2,none⟩=some (.int .i64 T):=m2;obtain⟨dr,o5,n5⟩:=qc m3 m2 l2;have cS:=a1.o.cell u9 v1;have c3:=a1.o.cell m3 l2;have u0:(str M).size=512*N2:=b9.1;obtain⟨bp,s5⟩:=qb (fun k (hk:k<N2) W (h:Q9 w5 d p5 p6 (Di.wr T<|L.take k) W)=>by have:=II h x1 (j5 k hk) t8 (by rw[d9,z7];have p3:(T:Int)+N2≤D.cap:=p3;omega) (by rw[d9];have:=d5.o.2.2.2.2;omega);rw[show((T+k:Nat):Int)=T+(k:Int)by omega]at this;exact this)<|Qr Xu d9;have ed:30≤(T:Int)∧(T:Int)+N2≤4096:=⟨p1,by have p3:(T:Int)+N2≤D.cap:=p3;omega⟩;have eb:N2≤200:=b9.2.2;clear hx l4 r4 p1 p2 p3 b9 l0 e3 hL d9 t8 j5 x1 z7 r2 Xu z6 hM u9 j8 v1 l2 m3 m2
  go_wp2
  go_loopg [22,23,178] N2 (fun k dj dl au wz=>∃m:Nat,m≤N2∧k=N2-m∧au=.int .i64 (m:Nat)∧Hid (Q9 w5 d p5 p6 (Di.wr T<|L.take m) wz))
  ·exact⟨0,by omega,by omega,rfl,a1⟩
  obtain⟨m,hm,ef,rfl,a6⟩:=hrel
  by_cases cu:m<N2
  ·have q6:(m:Int)<N2:=(by omega);have e0:=a6.o.cell g0.o f7.o;have e2:=a6.o.cell o5.o n5.o;have br:=Qa<|bp.o m cu;have sl:=Gq (str M) (512*m) (512*(m+1)) ((m:Int)*512) (((m:Int)+1)*512) (by omega) (by rw[u0];omega) (by omega) (by omega);rw[Uo (str M) (512*m) (512*(m+1)) (by rw[u0];omega),show 512*(m+1)-512*m=512 by omega,show(str M).data.toList=M from rfl]at sl;have w2:IntKind.i64.wrap ((T:Int)+m)=(T:Int)+m:=(by rw[Zz];omega);have w3:IntKind.i64.wrap ((m:Int)*512)=(m:Int)*512:=(by rw[Zz];omega);have w4:IntKind.i64.wrap ((m:Int)+1)=(m:Int)+1:=(by rw[Zz];omega);have eo:IntKind.i64.wrap (((m:Int)+1)*512)=((m:Int)+1)*512:=(by rw[Zz];omega);go_wp2_with fail
   go_region_held3 (fun w'=>w'.cell? a=some (.pointer d)∧w'.cell? ⟨g8,i*6+2,none⟩=some (.int .i64 T)) (first|exact⟨e0,e2⟩|exact⟨d0,d2⟩|go_keep)
    ((go_at_call 74;refine(br.o _<|a6.o.kept (Qc [] wr).drew).mono ?_;rintro e w6⟨rfl,r7⟩;have d0:=r7.cell g0.o f7.o;have d2:=r7.cell o5.o n5.o))
   have bm:=Qa r7;clear r7
   go_wp2
   go_roundg (N2-(m+1))
   ·exact⟨m+1,by omega,rfl,by go_num,bm⟩
   omega
  obtain rfl:N2=m:=by omega
  have q6:¬(N2:Int)<N2:=by omega
  have ba:=Qa (show Q9 w5 d p5 p6 (Yr D<|dn.take<|i+1) wr by have:=a6.o;rw[s5.o.1];rwa[Q8 (by rw[s5.o.2];exact Ql _)]at this);clear a6
  go_wp2
  go_roundg (n-(i+1))
  ·exact⟨i+1,by omega,rfl,by go_num,ba⟩
  omega
 obtain rfl:n=i:=by omega
 have q5:¬(n:Int)<n:=by omega
 obtain⟨-,-,r9,x5,y4,b4,r3⟩:=HF.o;obtain⟨y7,f1,hD,r1,d8⟩:=d5.o;obtain⟨x1,z7,r2⟩:=r9 n<|Ql _;have c9:dn.take n=dn:=Q8 (by rw[r3];exact Ql _);have z6:=a1.o;rw[c9]at x1 z7 r2 z6;have s6:=Qa<|IJ z6 x1;have c0:=z6.cell g0.o f7.o;obtain⟨Dn,j3⟩:=qx<|Yr D dn;rw[j3]at x1 z7 r2 s6;have bo:=Qa (show P=(0,Vst.commit {s.room (n+1)with dev:=Dn.tick 1} (dn.map Vst.noteF))by
  rw[bn.o,←j3,←hD];rfl)
 have cp:=HV.o.pZ;have l0:=r1.c2;have n3:=Qa (fun W m9 n0 m8 (hV:Zj W a d m9 n0 m8 {s.room (n+1)with dev:=Dn.tick 1})(hS:Qn W 104 6 (.slice g8 n c8) n (Qx Xj<|dn.map Vst.noteF))(hg:g8∉QT a d m9 n0 m8)=>
  MJ (cc:=c8) (ns:=dn.map Vst.noteF) hV ⟨x1.c1,x1.c2,x1.len,x1.sec,by show Dn.lZ+1≤_;omega⟩ (by rw[QH,r3];exact(hS.sZ).1) hg (by have:=y7.gen;rw[hD]at this;show(s.room<|n+1).gen≤_;omega)
   (by
    intro y hy;obtain⟨x,hx,rfl⟩:=QB.1 hy;obtain⟨t1,t2,t3⟩:=x5 x hx;obtain⟨u1,u2,u3⟩:=((YD _ _).1 y4).1 x.2 (Ue hx);have hl:x.1∈l:=(by have h1:=i6.o.fst;rw[Q8 (by rw[HN.o];exact Ql _)]at h1;rw[←h1];exact Ue hx);have h4:=Np x.1.2;unfold Zf at h4;exact .inl ⟨rfl,{ok:=(p8.o _ hl).1,st:=⟨u1,u2,by show x.2.1+x.2.2≤4096;omega⟩,sz:=⟨by show(0:Int)≤x.1.2.length;omega,by show(x.1.2.length:Int)≤8192;omega⟩,sm:=⟨by show(0:Int)≤(Yw x.1.2:Int);omega,by show(Yw x.1.2:Int)<4294967296;omega⟩}⟩)
   (by intro y hy;obtain⟨x,hx,rfl⟩:=QB.1 hy;obtain⟨u1,u2,u3⟩:=((YD _ _).1 y4).1 x.2 (Ue hx);exact⟨(x5 x hx).2.1,by show(0:Int)≤x.2.1;omega,by show x.2.1≤4096;omega⟩)
   (by rw[QH,r3];omega) (by rw[QH,r3];show(s.room<|n+1).next+n+1≤20;omega) y7.rise y7.rm y7.few (by show 30≤Dn.cap;omega) (by show Dn.lZ+1+30≤_;omega))
 rw[QH,r3]at n3;clear r9 x5 y4 b4 r3 y7 f1 hD r1 d8 x1 z7 r2 c9 z6 j3 cp l0;have n6:=Qa (show g8∉QT a d p5 p6 df from fun hm=>(n8.o _ hm).elim (fun h=>by have:=HH.o.vt.lt _ h;have:=o0.o;omega) fun h=>by omega);go_wp2_with (first
  |(go_at_call 75;refine s6.o.mono ?_;rintro e w6⟨rfl,r7⟩;obtain⟨m9,n0,m8,cn,ae,ac⟩:=ca.o.dev r7)
  |(go_at_call 51;refine(n3.o _ _ _ _ cn (i8.o.kept ae (fun x hx hm=>by simp[Qd,qo]at hx;subst hx;exact n6.o hm)) fun hm=>(ac _ hm).elim n6.o (fun h=>by have:=o4.o.size;omega)).mono ?_;rintro e w7⟨rfl,da⟩))
 go_ret;rw[bo.o];exact⟨rfl,.from h8.o<|.next o4.o n8.o<|.next ae ac da⟩
