import Derived.Test.YtickjpnkoppmgaaGreatDoorBo
set_option linter.all false
set_option maxHeartbeats 4000000
set_option maxRecDepth 100000
namespace Go.Proofs.YtickjpnkoppmgaaGreatDoor
open Go.Proofs.Tryz Go.RowKit K Go.Maps Go.Shelf Go.Sort
def Jv(f:QC):LV:=[str f.1,str f.2]
def UZ(w:WD)(v:VL)(l:List QC):Prop:=∃a c,v=.slice a l.length c/\Qp w 2 a l.length (Qs Jv l)
def UZ.kZ{w w' v l}(h:UZ w v l)(hk:Qb [] w w'):UZ w' v l:=by obtain⟨a,c,d,e⟩:=h;exact⟨a,c,d,e.kZ hk⟩
def Cd{w a n l}(h:Qp w 2 a n (Qs Jv l)){i}{x:QC}(c:l[i]?=some x):
 ∃g off,a=some ⟨g,off,none⟩/\w.cell? ⟨g,off+i*2,none⟩=some (.string<|str x.1)/\w.cell? ⟨g,off+i*2+1,none⟩=some (.string<|str x.2):=by
 have h0:=Vy (enc:=Jv) (k:=2) (fun _=>rfl) l i 0 x c dx;have e:=Vy (enc:=Jv) (k:=2) (fun _=>rfl) l i 1 x c dx;obtain⟨g,off,d,c1⟩:=h.2 _ (.string<|str x.1) (by rw[h0];rfl);obtain⟨c,c,c,c2⟩:=h.2 _ (.string<|str x.2) (by rw[e];rfl);subst d;injection c with c;injection c with c e3;subst c e3;exact⟨g,off,rfl,c1,c2⟩
def Fu(v:VL):Option (DataW Unit × List MemPlace):=match v with
 | .bool x=>some (.lit (.bool x),[])
 |_=>none
def IF(D:DataW Unit)(S:LY):Prop:=∀c,D.atKey (.string c) (.lit (.bool false))=.lit (.bool (decide (c∈S)))
def Qg3{D:DataW Unit}{S}(h:IF D S)(e:IsMap D)(p):IF (D.put (.string p)<|.lit<|.bool true) (S++[p]):=fun d=>by
 by_cases c:d=p
 ·subst c;rw[atKey_put_same e<|show WideAt.IsKeyLit (.string d)from True.intro];simp
 rw[atKey_put_other<|GP c,h d]
 congr 2
 simp[c]
def Qdf{w B n}{D:DataW Unit}{S}(h:w.ownsMap prog 9 Fu B n D)(y:IF D S)(p)(hp:p.length<=1000000):
 (Instr.lookup 145 (.map<|some B) (.string<|str p) false).run prog w=.ok (.bool<|decide<|p∈S) w:=by
 have h4:keyOf prog 9 (.string<|str p)=some (.string p):=Ms Yw (s:=str p) (by show p.length<=_;simp only[maxLen];omega);obtain⟨v,ps,q,o⟩:=h.lookup Bx underlying145 (z:=.bool false) kx (zd:=.lit<|.bool false) (zp:=[]) rfl h4;rw[y p]at o;unfold Fu at o
 split at o
 ·rename_i x;injection o with o;injection o with o h3;injection o with o;injection o with o;rw[q,o]
 cases o
def Vst.bad_drop{l:List QC}{i}{f:QC}(e:l[i]?=some f)(d:Xr f.1=true)(c:f.2.length<=8192):Vst.bad (l.drop i)=Vst.bad (l.drop<|i+1):=by have c:=(Qy.1 e);rw[Xf c.1,c.2,Vst.bad,Qf (by rw[d];simp),Qf ox]
def Vst.bad_at{l:List QC}{i}{f:QC}(d:l[i]?=some f):Vst.bad (l.drop i)=if Xr f.1=false then 140 else if 8192<f.2.length then 3 else Vst.bad (l.drop<|i+1):=by have c:=(Qy.1 d);rw[Xf c.1,c.2,Vst.bad]
def Qm.notA{w v l}(h:Qm w 104 6 v l.length (Qs Zs l)):MR w v l:=by obtain⟨a,c,d,-,-,e,-⟩:=h.sees;exact⟨a,c,d,e⟩
structure Tq(w0 wr:WD)(v8:VL)(s:Vst)(l:List QC)(n j:Nat)(dn:List (QC × QP))(v12 v13:VL):Prop where
 r8:Qm wr 104 6 v8 n (Qs Zs (dn.map Vst.noteF++(l.drop j).map fun f=>Vst.noteF (f,(0,0))))
 r12:Qm wr 109 2 v12 (s.mem.length+j) (Qs Zc (s.exts++dn.map (·.2)))
 r13:Qh wr 9 v13 (strs (dn.map fun x=>Yh x.1))
 f12:∀x∈Qd v12,w0.heap.size<=x/\x∉Qd v8
 f13:∀x∈Qd v13,w0.heap.size<=x/\x∉Qd v8/\x∉Qd v12
 len:dn.length=j
 fst:dn.map (·.1)=l.take j
 ok:ZZ s.dev.cap (s.exts++dn.map (·.2))=true
 al:Vst.alloc s.dev.cap s.exts l=(Vst.alloc s.dev.cap (s.exts++dn.map (·.2)) (l.drop j)).map (dn++ ·)
def TL:(prog.info? 104).map (fun i=>(i.zero,i.size,i.bytes))=some (some<|.agg #[(0:Int),.string ⟨#[]⟩,(0:Int),(0:Int),(0:Int),.int .u32 0],6,56):=by kernel_rfl
def Qey{A}{f:QC}{c j}(d:A.length=j)(x n:Int):((Qs Zs<|A++Vst.noteF (f,(0,0))::c).set (j*6+3) n).set (j*6+2) x=Qs Zs (A++Vst.noteF (f,(x,n))::c):=by
 have g:(Qs Zs A).length=j*6:=by rw[Ks (k:=6) fun _=>rfl,d]
 have e:∀d:Note,Qs Zs (A++d::c)=Qs Zs A++(Zs d++Qs Zs c):=fun d=>by simp[Qs]
 rw[e,e,V2 _ _ ox,V2 _ _ ox,g,(ox:j*6+3-j*6=3),(ox:j*6+2-j*6=2)];rfl
def Ph{A}{f:QC}{c j}(d:A.length=j){r}(e:r<6):(Qs Zs<|A++Vst.noteF (f,(0,0))::c)[j*6+r]?=(Zs<|Vst.noteF (f,(0,0)))[r]?:=
 Vy (k:=6) (fun _=>rfl) _ _ _ _ (by rw[Zm ox,d,ZM];rfl) e
def SD{a d nv pv mv s w c}(h:Zn w a d nv pv mv s)(hv:Vok s c)(v l)(hF:UZ w v l)(hl:l.length<=100)(hp:∀f∈l,f.1.length<=1000000/\f.2.length<=140737488351232)(hc:s.dev.lZ+10000<=1000000000):
 Calls prog 39 #[.pointer<|some ⟨a,0,none⟩,v] w fun e w'=>e=.returned (.int .i64 (s.put l).1)/\ZU w a d nv pv mv (s.put l).2 w':=by
 obtain⟨al,cl,rfl,hs⟩:=hF;obtain⟨n,hn⟩:=qx l.length;rw[hn]at hs hl ⊢;obtain⟨bb,HS,HN,HH,HV,HP,g2⟩:=qg (SC h.vt hv.dev) hs hn h hv hp hc;obtain⟨P,j6⟩:=qx<|s.put l;rw[j6];have z1:=Qa j6;clear h hv hs hn hp hc j6;go_enter func39,ntmps39;go_wp2_with (go_at_call 76;with_reducible refine bb.o.mono ?_;rintro e w⟨rfl,rfl⟩)
 go_loopg [7,32] n (fun k x7 dw wr=>(∃i:Nat,i<=n/\k=n-i/\dw=.int .i64 (i:Nat)/\Hid (Vst.bad l=Vst.bad (l.drop i)))/\Hid (Qb [] w wr))
 ·exact⟨⟨0,ox,ox,rfl,Qa rfl⟩,Qa<|Qc _ _⟩
 obtain⟨⟨i,hi,hk,rfl,HB⟩,d6⟩:=hrel
 by_cases hlt:i<n
 ·have q0:(i:Int)<n:=ox
  obtain⟨f,hf⟩:=qy l i (yx HN.o);obtain⟨g,off,rfl,c0,c1⟩:=Cd (HS.o.kZ d6.o) hf;have y6:=HP.o f<|QB hf;have p9:=Qa fun W=>CP (str f.1) W y6.1;rw[show(str f.1).data.toList=f.1 from rfl]at p9;have h9:=d6.o.alloc<|.cells #[.string<|str f.1,.string<|str f.2] 63;have i1:=Qa h9;have A:=Qx wr [.string<|str f.1,.string<|str f.2] 63;have b0:=A.cell (i:=0) rfl;obtain⟨HA,HX⟩:=qb A hf;have hz:(str f.2).size=f.2.length:=rfl;cases hok:Xr f.1 with
  |false=>
   have e1:X1 f.1=140:=(by simp[X1,hok]);rw[e1]at p9;have HE:=Qa (show P=(140,s)by
    have hb:=HB.o;rw[Vst.bad_at HX.o,Qg hok]at hb;rw[<-z1.o];unfold Vst.put;rw[Qg (by rw[hb];decide),hb])
   clear hf y6 h9 A hok e1 hz;go_wp2_with (go_at_call 17;with_reducible refine(p9.o _).mono ?_;rintro e w1⟨rfl,z8⟩);go_ret;rw[HE.o];exact⟨rfl,HH.o.refl.kept<|i1.o.trans z8 sx⟩
  |true=>
   have e1:X1 f.1=0:=(by simp[X1,hok]);rw[e1]at p9
   by_cases cu:8192<f.2.length
   ·have q1:(8192:Int)<f.2.length:=ox;have HE:=Qa (show P=(3,s)by
     have hb:=HB.o;rw[Vst.bad_at HX.o,Qf<|by simp[hok],Qg cu]at hb;rw[<-z1.o];unfold Vst.put;rw[Qg (by rw[hb];decide),hb])
    clear hf y6 h9 A hok e1;go_wp2_with (go_at_call 17;with_reducible refine(p9.o _).mono ?_;rintro e w1⟨rfl,z8⟩;have b1:=(HA.o.kept z8 sx).cell (i:=1) rfl);go_ret;rw[HE.o];exact⟨rfl,HH.o.refl.kept<|i1.o.trans z8 sx⟩
   have q1:¬(8192:Int)<f.2.length:=ox;have HE:=Qa (HB.o.trans<|Vst.bad_drop HX.o hok ox);clear hf y6 h9 A hok e1;go_wp2_with (go_at_call 17;with_reducible refine(p9.o _).mono ?_;rintro e w1⟨rfl,z8⟩;have b1:=(HA.o.kept z8 sx).cell (i:=1) rfl)
   go_roundg (n-(i+1))
   ·exact⟨⟨i+1,ox,rfl,by go_num,HE⟩,Qa<|i1.o.trans z8 sx⟩
   omega
 obtain rfl:n=i:=ox
 have q0:¬(n:Int)<n:=ox
 have p7:=Qa (by rw[HB.o,Jq (by rw[HN.o];exact Qk _)];rfl:Vst.bad l=0);have dd:=@run_makeMap prog;clear HB;go_wp2_with fail;obtain⟨B,b3⟩:=qx wr.heap.size;have bd:=Qa b3;have m6:=World.ownsMap_made wr prog 9 Fu;rw[b3]at m6;have s4:=Qa m6;rw[b3];obtain⟨o2,ci⟩:=qb (d6.o.alloc<|.map #[] 0) (by rw[<-b3];exact d6.o.size:w<=B);obtain⟨wm,ax⟩:=qx<|wr.alloc<|.map #[] 0;rw[ax]at s4 o2 ⊢;clear b3 m6 dd ax bd
 go_loopg [8,11,48] n (fun k x8 ex dx wq=>(∃(j:Nat)(v8:VL)(D:DataW Unit),j<=n/\k=n-j/\v8=x8/\dx=.int .i64 (j:Nat)/\
  Hid (wq.ownsMap prog 9 Fu B j D/\IF D ((l.take j).map (·.1))/\((l.take j).map (·.1)).Nodup)/\Hid (Qm wq 104 6 v8 j<|Qs Zs<|(l.take j).map fun f=>Vst.noteF (f,(0,0)))/\Hid (∀x∈Qd v8,w.heap.size<=x/\x≠B))/\Hid (Qb [] w wq))
 ·exact⟨⟨0,(),_,ox,ox,rfl,rfl,Qa ⟨s4.o,fun p=>rfl,List.nodup_nil⟩,Qa<|Qm.nil _ _ _,Qa<|by simp[Qd,qo]⟩,o2⟩
 obtain⟨⟨j,v8,D,hj,da,rfl,rfl,HM,q9,q7⟩,h8⟩:=hrel
 by_cases en:j<n
 ·have q1:(j:Int)<n:=ox
  obtain⟨f,hf⟩:=qy l j (yx HN.o);obtain⟨g,off,rfl,c0,c1⟩:=Cd (HS.o.kZ h8.o) hf;have y6:=HP.o f<|QB hf;obtain⟨c6,m7,r6⟩:=HM.o;have h9:=(Qc [] wr).alloc<|.cells #[.string<|str f.1,.string<|str f.2] 63;have cz:keyOf prog 9 (.string<|str f.1)=some (.string f.1):=Ms Yw (s:=str f.1) (by have:=y6.1;show f.1.length<=_;simp only[maxLen];omega);have ah:=Qdf (c6.alloc<|.cells #[.string<|str f.1,.string<|str f.2] 63) m7 f.1 y6.1;obtain⟨bp,bx⟩:=qb (c6.alloc<|.cells #[.string<|str f.1,.string<|str f.2] 63)<|Qg3 m7 (c6.tidy Bx).isMap f.1;have A:=Qx wr [.string<|str f.1,.string<|str f.2] 63;have b0:=A.cell (i:=0) rfl;obtain⟨HA,n3,f8,j0,HX,y8,g5⟩:=qg A c6.lt h9 (by rw[Zh,hf];rfl:l.take (j+1)=l.take j++[f]) hf r6 fun W=>Oz (str f.2) W (by have:=y6.2;exact this);rw[show(str f.2).data.toList=f.2 from rfl]at g5;have hz:(str f.2).size=f.2.length:=rfl;have de:j<maxLen:=by simp only[maxLen];omega
  obtain⟨q,hq⟩:=qx<|decide<|f.1∈(l.take j).map (·.1);rw[hq]at ah;have HQ:=Qa hq;obtain⟨y,hy⟩:=qx<|YJ f.2;rw[hy]at g5;have HY:=Qa hy;clear hf y6 c6 m7 r6 h9 A hq hy;cases q with
  |true=>
   have HE:=Qa (show P=(2,s)by
    rw[<-z1.o];unfold Vst.put;rw[Qf (by rw[p7.o];simp),Qg ?_];intro hn;have h1:=Df HQ.o;have hl:=Qy.1 HX.o;have e:l=l.take j++f::l.drop (j+1):=(by rw[<-hl.2,List.getElem_cons_drop,V3]);rw[e,XC,QV]at hn;exact(CC.1 hn).2.2 f.1 h1 f.1 sx rfl)
   go_wp2
   go_ret;rw[HE.o];exact⟨rfl,HH.o.refl.kept<|h8.o.trans f8.o sx⟩
  |false=>
   have dm:Fu (.bool true)=some (.lit<|.bool true,[]):=rfl;go_wp2_with (at_mapUpdate;refine oW _ rfl _ _ _ 145 rfl 9 4 Bx underlying145 Fu B j D rfl bp.o de _ _ _ rfl rfl cz _ [] dm ?_;intro w2 ak ac);have x4:Qb [B] (wr.alloc<|.cells #[.string<|str f.1,.string<|str f.2] 63) w2:=(Qc [B] _).grown ac (by intro k hk;injection hk with hk;subst hk;exact .inl sx);have A2:=HA.o.kept x4 (fun hm=>by rw[Zb]at hm;have:=n3.o;omega);have d0:=A2.cell (i:=0) rfl;have d1:=A2.cell (i:=1) rfl;have ba:=Qa A2;have p0:=(q9.o.kept f8.o<|Zy _).kept x4 (fun x hx hm=>by rw[Zb]at hm;exact(q7.o x hx).2 hm);obtain⟨ca,o3,bq⟩:=qc p0 x4 ak;obtain⟨E,hE⟩:=qx wr.heap.size;rw[hE]at d0 d1 ba ⊢;have L1:j+1<=maxLen:=(by simp only[maxLen];omega);have L2:(j+1)*56<=140737488355328:=ox;have t8:E∉Qd v8:=fun hm=>absurd (q9.o.lt E hm) ox
   have bg:=Qa hE;clear x4 A2 p0 ak ac ah b0 hE
   go_region_held3 (fun w'=>w'.cell? E=some (.string<|str f.1)/\w'.cell? ⟨E,1,none⟩=some (.string<|str f.2)) (first|exact⟨d0,d1⟩|exact⟨e0,e1⟩|go_keep)
    (first
      |(go_fit(g5.o _);rintro e w3⟨rfl,x6⟩;replace x6:=(Qc [] w2).drew.trans x6 sx;have e0:=x6.cZ d0 sx;have e1:=x6.cZ d1 sx)
      |(refine Hl rfl _ _ 82 rfl 104 (.agg #[(0:Int),"",(0:Int),(0:Int),(0:Int),.int .u32 0]) 6 56 underlying82 TL rfl dx v8 j _ [(1:Int),.string<|str f.1,(0:Int),(0:Int),.int .i64 f.2.length,.int .u32 y] ⟨w3.heap.size,0,none⟩ rfl rfl
         ((Qx w3 [(1:Int),.string<|str f.1,(0:Int),(0:Int),.int .i64 f.2.length,.int .u32 y] 104).sees (size:=6) (n:=1) rfl) (by simp[Value.oneCell']) (World.ownsRow.alloc (ca.o.kept x6<|Zy _) _) L1 L2 ?_
        intro g4 ed w4 aq y5 ad;replace e0:=y5.cZ (((Qc [] w3).alloc _).cZ e0 sx) t8;replace e1:=y5.cZ (((Qc [] w3).alloc _).cZ e1 sx) t8)
      )
   have u0:Qb (Qd v8) w2 w4:=((x6.mono (T:=Qd v8) sx).alloc _).trans y5 fun x hx=>.inl hx;obtain⟨o4,cb,bj,ce⟩:=qd u0 aq ad x6.size;clear u0 aq ad y5 x6
   go_wp2
   go_roundg (n-(j+1))
   case measure=>omega
   have r9:=h8.o.size;have cs:=o3.o.size;simp only[Ux]at cs;have ej:=ce.o;have eh:=bg.o;refine⟨⟨j+1,_,_,ox,rfl,rfl,by go_num,Qa ⟨bq.o.kept o4.o.by fun e=>?_,by rw[j0.o,XC];exact bx.o,?_⟩,Qa ?_,Qa fun x hx=>?_⟩,Qa<|((h8.o.trans f8.o sx).trans o3.o fun x hx=>.inr (by rw[Zb]at hx;subst hx;exact ci.o)).trans o4.o fun x hx=>.inr (q7.o x hx).1⟩
   ·exact(q7.o B (by unfold Qd;rw[<-e];simp)).2 rfl
   ·rw[j0.o,XC];refine CC.2 ⟨y8.o,sx,fun x hx y hy e=>?_⟩;simp at hy;subst hy e;exact absurd hx<|Po HQ.o
   ·rw[j0.o,XC];have e:∀X:List Note,Qs Zs (X++[Vst.noteF (f,(0,0))])=Qs Zs X++[.int .i64 1,.string<|str f.1,.int .i64 0,.int .i64 0,.int .i64 f.2.length,.int .u32 y]:=fun X=>by rw[<-HY.o];simp[Qs,Zs,Q9,kindI,Vst.noteF]
    rw[show List.map (fun f=>Vst.noteF (f,(0,0))) [f]=[Vst.noteF (f,(0,0))]from rfl,e];exact cb.o
   simp[Qd,qo]at hx;subst hx;rcases bj.o with h|h
   ·exact q7.o _ h
   have:=n3.o;simp only[Ux]at h;omega
 obtain rfl:n=j:=ox
 have q1:¬(n:Int)<n:=ox
 have c9:l.take n=l:=Q5 (by rw[HN.o];exact Qk _);have r6:=HM.o.2.2;have x9:=q9.o;rw[c9]at r6 x9;have j9:=Vst.bad_zero p7.o;obtain⟨ns,c4⟩:=qx<|(l.map fun f=>Vst.noteF (f,(0,0)));rw[c4]at x9;have e7:ns=n:=by rw[<-c4,QH,HN.o]
 have hv:=HV.o;have f9:=Qa fun W (hW:Qb [] w W) hNN=>SF mv v8 s.mem ns W ((HH.o.vt.kZ hW).mem.memA) hNN (HH.o.env.kZ hW).1 (yx hv.few) ox hv.rise (fun m hm=>(hv.rm m hm).ms) (fun x hx=>by rw[<-c4]at hx;obtain⟨f,hf,rfl⟩:=QA.1 hx;exact⟨(XU (j9 f hf).1).2.2,AZ 0,by show(0:Int)<=4096;decide⟩);obtain⟨X,hX⟩:=qx<|Q8 s.mem ns;rw[hX]at f9;have b2:=Qa hX;have m5:=Qm.notA (l:=ns) (by rwa[e7]);obtain⟨a8,c8,dj⟩:∃a c,v8=.slice a n c:=(by obtain⟨a,c,h1,-⟩:=m5;exact⟨a,c,by rw[h1,e7]⟩);subst dj;obtain⟨o8,bi⟩:=qb m5 fun W (hW:Qb [] w W)=>Oc (HH.o.vt.kZ hW) (yx hv.few);have c3:=(HH.o.vt.kZ h8.o).arr.cell (i:=3) (u:=mv) rfl;obtain⟨q9,y8,q8,p8⟩:=qd x9 r6 (Qr c4 e7) j9;clear c9 r6 x9 j9 c4 e7 hX hv HM m5
 by_cases ai:16<X.length
 ·have q2:(16:Int)<X.length:=ox
  have HE:=Qa (show P=(241,s)by
   rw[<-z1.o];unfold Vst.put;rw[Qf (by rw[p7.o];simp),Qf<|by simpa using y8.o,q8.o.1,b2.o,Qg ai])
  go_wp2_with (go_fit(f9.o _ h8.o o8.o);rintro e w2⟨v2,rfl,p0,x4,r4⟩;obtain⟨a2,c2,rfl,-⟩:=p0.memA);go_ret;rw[HE.o];exact⟨rfl,HH.o.refl.kept<|h8.o.trans x4 sx⟩
 have q2:¬(16:Int)<X.length:=ox
 go_wp2_with (first
  |(go_fit(f9.o _ h8.o o8.o);rintro e w2⟨v2,rfl,p0,x4,r4⟩;obtain⟨a2,c2,rfl,-⟩:=p0.memA)
  |(go_fit(bi.o _<|h8.o.trans x4 sx);rintro e w3⟨y0,rfl,am,x6,l5⟩))
 have m0:=x4.trans x6 sx;have bo:=Qa (show Tq w w3 (.slice a8 n c8) s l n 0 [] y0 ()from
  {r8:=by rw[VJ,Y6,YU,q8.o.1];exact q9.o.kept m0 (Zy _)
   r12:=by have:=am;unfold Vst.exts at this;rw[QH]at this;rw[Y6,XX];exact this
   r13:=Qh.nil _ _
   f12:=fun x hx=>⟨by have:=l5 x hx;have:=h8.o.size;have:=x4.size;omega,fun hm=>by have:=q9.o.lt x hm;have:=l5 x hx;have:=x4.size;omega⟩
   f13:=by simp[Qd,qo]
   len:=rfl
   fst:=sx
   ok:=by rw[Y6,XX];exact HV.o.ext
   al:=by rw[Y6,XX,VJ];simp})
 obtain⟨bk,d7⟩:=qb (h8.o.trans m0 sx) ai;clear p0 am x4 x6 m0 r4 l5 c3
 go_loopg [12,13,14,15,16,17,18,88] n (fun k dq dr ey ez fa fb fc dy wq=>(∃(j:Nat)(dn:List (QC × QP))(y0 d4:VL),j<=n/\k=n-j/\y0=dq/\d4=dr/\dy=.int .i64 (j:Nat)/\Hid (Tq w wq (.slice a8 n c8) s l n j dn y0 d4))/\Hid (Qb [] w wq))
 ·exact⟨⟨0,[],_,_,ox,ox,rfl,rfl,rfl,bo⟩,bk⟩
 obtain⟨⟨j,dn,y0,d4,hj,da,rfl,rfl,rfl,i6⟩,h8⟩:=hrel
 by_cases eo:j<n
 ·have q3:(j:Int)<n:=ox
  obtain⟨f,hf⟩:=qy l j (yx HN.o);obtain⟨g,off,rfl,c0,c1⟩:=Cd (HS.o.kZ h8.o) hf;obtain⟨e4,l6⟩:=p8.o f<|QB hf;have l3:l.drop j=f::l.drop (j+1):=by have hl:=(Qy.1 hf);rw[Xf hl.1,hl.2]
  obtain⟨r8,r12,r13,f12,f13,y9,b7,c5,h9⟩:=i6.o;obtain⟨g8,co,e8⟩:=r8.block ox dx;injection e8 with e8 e9 e10;subst e8;rw[l3,QV]at r8;have aa:(dn.map Vst.noteF).length=j:=by rw[QH,y9]
  have f2:=Vz (f:=f) (XU e4).2.2 l6;obtain⟨z,hz⟩:=qx<|ZG f;rw[hz]at f2;have ab:Vst.alloc s.dev.cap (s.exts++dn.map (·.2)) (l.drop j)=(YR s.dev.cap (s.exts++dn.map (·.2)) z).bind fun a=>(Vst.alloc s.dev.cap (s.exts++dn.map (·.2)++[(a,(z:Int))])<|l.drop<|j+1).map ((f,(a,(z:Int))):: ·):=by rw[l3,<-hz];rfl
  obtain⟨M,hM⟩:=qx<|Yh f;have o7:=Qa fun W hE=>OT (str f.1) (str f.2) W hE e4 l6;rw[show Yh ((str f.1).data.toList,(str f.2).data.toList)=Yh f from rfl,hM]at o7;rw[hM]at f2;have v1:=(Qc [] wr).alloc<|.cells #[.string<|str f.1,.string<|str f.2] 63;have m1:=h8.o.alloc<|.cells #[.string<|str f.1,.string<|str f.2] 63;have bh:=Qa<|HH.o.env.kZ m1;have b0:=(Qx wr [.string<|str f.1,.string<|str f.2] 63).cell (i:=0) rfl;have b1:=(Qx wr [.string<|str f.1,.string<|str f.2] 63).cell (i:=1) rfl;obtain⟨HR,h5,n8,n1,bn,Hf,cf⟩:=qg (Qr r8<|Qr r12<|Qr r13<|Qr aa f2) (Qr f12<|Qr f13<|Qr y9<|Qr b7<|Qr c5 h9) ab v1 m1 (Qr hf<|Qr e4 hM) (by rw[Zh,hf];rfl:l.take (j+1)=l.take j++[f]);have cp:((str M).size:Int)/512=(z:Int):=by show((M:Nat):Int)/512=_;omega
  have eg:((str M).size:Int).tdiv 512=(z:Int):=by rwa[FN ox]
  have wz:IntKind.i64.wrap (z:Int)=(z:Int):=by rw[Zq];omega
  clear hf e4 l6 l3 r8 r12 r13 f12 f13 y9 b7 c5 h9 aa f2 hz ab hM v1 m1 e9 e10;go_wp2_with (go_fit(o7.o _ bh.o);rintro e w4⟨rfl,y5⟩;have R4:=(HR.o.1.kept n1.o<|Zy _).kept y5<|Zy _;have y2:=R4.free<|j*6+2;have y3:=R4.free<|j*6+3;have x2:=R4.aZ (Ph HR.o.2.2.2.1 (r:=2) dx);have x3:=R4.aZ<|Ph HR.o.2.2.2.1 (r:=3) dx);have r5:=(q7.o g8<|by simp[Qd,qo]).1;have R5:=R4.put (j*6+3)<|.int .i64 z;have K5:=(bn.o.trans y5 sx).setCell (p:=⟨g8,j*6+3,none⟩) (.inr r5)<|.int .i64 z;have KQ:=(((n1.o.trans y5 sx).mono (T:=[g8]) sx)).setCell (p:=⟨g8,j*6+3,none⟩) (.inl sx)<|.int .i64 z;obtain⟨W5,u9⟩:=qx<|w4.setCell ⟨g8,j*6+3,none⟩<|.int .i64 z;change Code.wp _ _ _ _ (w4.setCell ⟨g8,j*6+3,none⟩<|.int .i64 z);rw[u9]at R5 K5 KQ ⊢;have c0:=(HH.o.vt.kZ K5).arr.cell (i:=0) (u:=.pointer d) rfl;have x3:W5.cell? ⟨g8,j*6+3,none⟩=some (.int .i64 z):=R5.aZ (by rw[FU];have h1:=R4.1;rw[h1];omega);have x2:W5.cell? ⟨g8,j*6+2,none⟩=some (.int .i64 0):=R5.aZ (by rw[Il ox];exact Ph HR.o.2.2.2.1 (r:=2) dx);have y2:=R5.free<|j*6+2;have y3:=R5.free<|j*6+3;have n5:=Qa fun W (hW:Qb [] W5 W)=>Rg (HH.o.vt.kZ<|K5.trans hW sx).dk HV.o.dev;obtain⟨U,hU⟩:=qx<|s.exts++dn.map (·.2);have u8:U.length=s.mem.length+j:=by rw[<-hU,Qo,QH,h5.o.2.2.1];unfold Vst.exts;rw[QH]
  have r12:=HR.o.2.1.kept KQ (fun x hx hm=>by rw[Zb]at hm;subst hm;exact(h5.o.1 _ hx).2 (by simp[Qd,qo]));have r13:=HR.o.2.2.1.kept KQ (fun x hx hm=>by rw[Zb]at hm;subst hm;exact(h5.o.2.1 _ hx).2.1 (by simp[Qd,qo]));rw[hU]at r12;have f4:=h5.o.2.2.2.2.1;rw[hU]at f4;obtain⟨a7,y1⟩:=qb (fun W (hW:Qb [] W5 W)=>dH y0 U s.dev.cap z W (Qm.exA (by rw[u8];exact r12.kept hW<|Zy _)) (yx HV.o.few) (yx HV.o.pZ) (yx HV.o.dev.c2) (yx HR.o.2.2.2.2) f4)<|Qr R5<|Qr K5<|Qr KQ<|Qr r12<|Qr r13 hU;obtain⟨o,ho⟩:=qx<|YR s.dev.cap U z;rw[ho]at a7;have HO:=Qa<|Qr ho f4;have j2:¬a=g8:=yx (HH.o.vt.lt a sx)
  have eb:¬g8=a:=fun e=>j2 e.symm
  clear R4 R5 K5 KQ hU u8 r12 r13 f4 ho u9 b0 b1 y5;cases o with
  |none=>
   unfold Ff at a7
   go_region_held3 (fun w'=>w'.cell? a=some (.pointer d)/\w'.cell? ⟨g8,j*6+3,none⟩=some (.int .i64 z)) (first|exact⟨c0,x3⟩|exact⟨d0,d3⟩|exact⟨f0 _,f3 _⟩|go_keep)
    (first
      |(go_fit(n5.o _ (Qc [] W5).drew);rintro e w6⟨rfl,rfl⟩)
      |(go_fit(a7.o _ (Qc [] W5).drew);rintro e w7⟨rfl,x0⟩;have d0:=x0.cZ c0 sx;have d3:=x0.cZ x3 sx;have d2:=x0.cZ x2 sx;have R7:=y1.o.1.kept ((Qc [] W5).drew.trans x0 sx)<|Zy _;have e2:=R7.free<|j*6+2;have f0:∀v,(w7.setCell ⟨g8,j*6+2,none⟩ v).cell? a=_:=(fun v=>((Qc [g8] w7).setCell (p:=⟨g8,j*6+2,none⟩) (.inl sx) v).cZ d0<|by simpa using j2);have f3:∀v,(w7.setCell ⟨g8,j*6+2,none⟩ v).cell? ⟨g8,j*6+3,none⟩=some (.int .i64 z):=(fun v=>(R7.put (j*6+2) v).aZ (by rw[Il ox,FU];have h1:=R7.1;rw[JO]at h1;rw[h1];omega));have i7:=Qa R7;clear R7))
   have HE:=Qa (show P=(220,s)by
    have hA:Vst.alloc s.dev.cap s.exts l=none:=(by rw[h5.o.2.2.2.2.2,n8.o,y1.o.2.2.2.2.2,HO.o.1];rfl);rw[<-z1.o];unfold Vst.put;rw[Qf (by rw[p7.o];simp),Qf<|by simpa using y8.o,q8.o.1,b2.o,Qf d7.o,hA])
   have bm:=Qa<|(y1.o.2.1.trans ((Qc [] W5).drew.trans x0 sx) sx).setCell (p:=⟨g8,j*6+2,none⟩) (.inr r5) (0:Int);clear x0
   go_wp2
   go_ret;rw[HE.o];exact⟨rfl,HH.o.refl.kept bm.o⟩
  |some gx=>
   unfold Ff at a7
   go_region_held3 (fun w'=>w'.cell? a=some (.pointer d)/\w'.cell? ⟨g8,j*6+3,none⟩=some (.int .i64 z)) (first|exact⟨c0,x3⟩|exact⟨d0,d3⟩|exact⟨f0 _,f3 _⟩|go_keep)
    (first
      |(go_fit(n5.o _ (Qc [] W5).drew);rintro e w6⟨rfl,rfl⟩)
      |(go_fit(a7.o _ (Qc [] W5).drew);rintro e w7⟨rfl,x0⟩;have d0:=x0.cZ c0 sx;have d3:=x0.cZ x3 sx;have d2:=x0.cZ x2 sx;have R7:=y1.o.1.kept ((Qc [] W5).drew.trans x0 sx)<|Zy _;have e2:=R7.free<|j*6+2;have f0:∀v,(w7.setCell ⟨g8,j*6+2,none⟩ v).cell? a=_:=(fun v=>((Qc [g8] w7).setCell (p:=⟨g8,j*6+2,none⟩) (.inl sx) v).cZ d0<|by simpa using j2);have f3:∀v,(w7.setCell ⟨g8,j*6+2,none⟩ v).cell? ⟨g8,j*6+3,none⟩=some (.int .i64 z):=(fun v=>(R7.put (j*6+2) v).aZ (by rw[Il ox,FU];have h1:=R7.1;rw[JO]at h1;rw[h1];omega));have i7:=Qa R7;clear R7))
   have R8:=i7.o.put (j*6+2) gx;have b8:=(Qc [] W5).drew.trans x0 sx;have K8:=(y1.o.2.1.trans b8 sx).setCell (p:=⟨g8,j*6+2,none⟩) (.inr r5) gx;have KS:=(Qc [g8] w7).setCell (p:=⟨g8,j*6+2,none⟩) (.inl sx) gx;have r12:=(y1.o.2.2.2.1.kept b8<|Zy _).kept KS (fun x hx hm=>by rw[Zb]at hm;subst hm;exact(h5.o.1 _ hx).2 (by simp[Qd,qo]));have r13:=(y1.o.2.2.2.2.1.kept b8<|Zy _).kept KS (fun x hx hm=>by rw[Zb]at hm;subst hm;exact(h5.o.2.1 _ hx).2.1 (by simp[Qd,qo]));obtain⟨W8,j7⟩:=qx<|w7.setCell ⟨g8,j*6+2,none⟩ gx;change Exit.then _ _ _ _ (w7.setCell ⟨g8,j*6+2,none⟩ gx)
   rw[j7]at R8 K8 KS r12 r13 ⊢;have x3:W8.cell? ⟨g8,j*6+3,none⟩=some (.int .i64 z):=(by rw[<-j7];exact f3 _);have m4:=i7.o.1;rw[JO]at m4;have x2:W8.cell? ⟨g8,j*6+2,none⟩=some (.int .i64 gx):=R8.aZ (by rw[FU];rw[JO,m4];omega);have l7:g8∉Qd y0:=fun hm=>(h5.o.1 _ hm).2 (by simp[Qd,qo])
   have r0:=Qa<|Qr R8<|Qr K8<|Qr r12 r13;have aw:=y1.o.2.2.1.size;have cj:=Qa<|show wr.heap.size<=W8.heap.size from QS aw (QS b8.size KS.size);have dc:=HV.o.few;have L1:s.mem.length+j+1<=maxLen:=(by simp only[maxLen];omega);have L2:(s.mem.length+j+1)*16<=140737488355328:=ox;clear R8 K8 KS r12 r13 j7 f0 f3 d0 d3 d2 e2 x0 b8 aw m4 dc y2 y3 c0;go_wp2_with fail
   go_region_held3 (fun w'=>w'.cell? ⟨g8,j*6+2,none⟩=some (.int .i64 gx)/\w'.cell? ⟨g8,j*6+3,none⟩=some (.int .i64 z)) (first|exact⟨x2,x3⟩|exact⟨d2,d3⟩|go_keep)
    ((refine Hl rfl _ _ 106 rfl 109 (.agg #[(0:Int),(0:Int)]) 2 16 AC BW rfl dx y0 (s.mem.length+j) _ [gx,.int .i64 z] ⟨W8.heap.size,0,none⟩ rfl rfl
       ((Qx W8.drew [gx,.int .i64 z] 109).sees (size:=2) (n:=1) rfl) (by simp[Value.oneCell']) (World.ownsRow.alloc (r0.o.2.2.1.kept (Qc [] W8).drew<|Zy _) _) L1 L2 ?_;intro g9 ee w9 au e6 af;have d2:=e6.cZ (((Qc [] W8).drew.alloc _).cZ x2 sx) l7;have d3:=e6.cZ (((Qc [] W8).drew.alloc _).cZ x3 sx) l7))
   have j1:Qb (Qd y0) W8 w9:=((Qc (Qd y0) W8).drew.alloc _).trans e6 fun x hx=>.inl hx;have c7:=r0.o.2.2.2.kept j1 fun x hx=>(h5.o.2.1 x hx).2.2;obtain⟨xs,f5⟩:=qx<|strs<|dn.map fun x=>Yh x.1;have ay:xs=j:=(by rw[<-f5,UF,QH];exact h5.o.2.2.1);rw[f5]at c7;have L3:xs.length+1<=maxLen:=(by simp only[maxLen];omega);have L4:(xs.length+1)*16<=140737488355328:=ox;obtain⟨g7,s5,g6,ck⟩:=qd j1 au af<|Qr f5 ay;clear j1 au af e6 f5 ay d2 d3 x2 x3;go_wp2_with (at_builtin;refine Dt w9 rfl _ _ 60 rfl 9 ("") 16 CL CK rfl d4 (.string<|str M) xs rfl rfl rfl rfl c7 L3 L4 ?_;intro ef ec ev dh l9 cw);have u7:=r0.o.1;have er:=u7.lt g8 (by simp[Qd,qo]);have hS:=cj.o;have t7:=HR.o.2.2.1.lt;have es:=s5.o.lt g9 (by simp[Qd,qo]);obtain⟨p1,p2,p3,p4⟩:=HO.o.1|>GD (yx HR.o.2.2.2.2) (yx HV.o.pZ)|>.2
   go_roundg (n-(j+1))
   case measure=>omega
   refine⟨⟨j+1,dn++[(f,(gx,(z:Int)))],_,_,ox,rfl,rfl,rfl,by go_num,Qa ?_⟩,Qa<|(r0.o.2.1.trans g7.o fun x hx=>.inr (h5.o.1 x hx).1).trans l9 fun x hx=>.inr (h5.o.2.1 x hx).1⟩;have hU:=y1.o.2.2.2.2.2;refine {r8:=?_,r12:=?_,r13:=?_,f12:=?_,f13:=?_,len:=by rw[Qo,h5.o.2.2.1];rfl,fst:=by rw[XC,h5.o.2.2.2.1,cf.o];rfl,ok:=?_,al:=?_}
   ·have h1:=(u7.kept g7.o (fun x hx hm=>by simp[Qd,qo]at hx;subst hx;exact l7 hm)).kept l9 (fun x hx hm=>by simp[Qd,qo]at hx;subst hx;exact(h5.o.2.1 _ hm).2.1 (by simp[Qd,qo]));rw[Qey HR.o.2.2.2.1]at h1;rwa[XC,QR]
   ·have h1:=s5.o.kept l9 (fun x hx hm=>by
     simp[Qd,qo]at hx;subst hx;rcases g6.o with h|h
     ·exact(h5.o.2.1 _ hm).2.2 h
     have:=t7 _ hm;have h:W8.heap.size+1<=x:=(by have h0:(W8.alloc<|.cells #[gx,.int .i64 z] 109).heap.size<=x:=h;rwa[Ux]at h0);omega)
    rw[XC,<-QR,hU];have e:Qs Zc (U++[(gx,(z:Int))])=Qs Zc U++[.int .i64 gx,.int .i64 z]:=(by simp[Qs,Zc]);rw[show List.map (fun x:QC × QP=>x.2) [(f,(gx,(z:Int)))]=[(gx,(z:Int))]from rfl,e];exact h1
   ·rw[XC];have e:strs (List.map (fun x:QC × QP=>Yh x.1) dn++List.map (fun x:QC × QP=>Yh x.1) [(f,(gx,(z:Int)))])=xs++[.string<|str M]:=(by rw[<-ck.o.1,<-Hf.o.2.2];simp[strs]);rwa[e]
   ·intro x hx;simp[Qd,qo]at hx;subst hx;rcases g6.o with h|h
    ·exact h5.o.1 _ h
    have h:W8.heap.size+1<=x:=(by have h0:(W8.alloc<|.cells #[gx,.int .i64 z] 109).heap.size<=x:=h;rwa[Ux]at h0);exact⟨yx r0.o.2.1.size,by simp[Qd,qo];omega⟩
   ·intro x hx;simp[Qd,qo]at hx;subst hx;rcases cw with h|h
    ·refine⟨(h5.o.2.1 _ h).1,(h5.o.2.1 _ h).2.1,fun hm=>?_⟩;simp[Qd,qo]at hm;subst hm;rcases g6.o with h2|h2
     ·exact(h5.o.2.1 _ h).2.2 h2
     have:=t7 _ h;have h2:W8.heap.size+1<=x:=(by have h0:(W8.alloc<|.cells #[gx,.int .i64 z] 109).heap.size<=x:=h2;rwa[Ux]at h0);omega
    have:=g7.o.size;refine⟨yx r0.o.2.1.size,by simp[Qd,qo];omega,by simp[Qd,qo];omega⟩
   ·rw[XC,<-QR,hU];exact Vst.okX_add HO.o.2 p1 (yx HR.o.2.2.2.2) p2 p3
   rw[h5.o.2.2.2.2.2,n8.o,hU,HO.o.1,XC,<-QR,hU];simp only[Option.bind_some,Option.map_map]
   congr 1
   funext y
   simp
 obtain rfl:n=j:=ox
 have q3:¬(n:Int)<n:=ox
 obtain⟨r8,r12,r13,f12,f13,y9,b7,c5,h9⟩:=i6.o;have l1:l.drop n=[]:=Jq (by rw[HN.o];exact Qk _);rw[l1]at r8 h9;rw[Y6,XX]at r8;have b6:Vst.alloc s.dev.cap s.exts l=some dn:=by rw[h9];simp[Vst.alloc]
 have HQ:∀(e0:l≠[]),P=(0,((s.room<|l.length+1).write dn).commit<|dn.map Vst.noteF):=fun e0=>by rw[<-z1.o];unfold Vst.put;rw[Qf (by rw[p7.o];simp),Qf<|by simpa using y8.o,q8.o.1,b2.o,Qf d7.o,b6];simp only[Qf e0]
 by_cases h0:n=0
 ·have q4:((n:Int)==0)=true:=by rw[h0];rfl
  have HE:=Qa (show P=(0,s)by
   have e0:l=[]:=J4 (by rw[HN.o,h0]);rw[<-z1.o];unfold Vst.put;rw[Qf (by rw[p7.o];simp),Qf<|by simpa using y8.o,q8.o.1,b2.o,Qf d7.o,b6];simp only[Qg e0])
  clear r8 r12 r13 f12 f13 y9 b7 c5 h9 l1 b6 HQ h0
  go_wp2
  go_ret;rw[HE.o];exact⟨rfl,HH.o.refl.kept h8.o⟩
 have q4:((n:Int)==0)=false:=Ze.2 ox;have hv:=HV.o;obtain⟨s1,s2,s3⟩:=Vst.alloc_spec (yx hv.pZ) hv.ext (fun f hf=>by have:=(Vz (XU (p8.o f hf).1).2.2 (p8.o f hf).2).2.1;omega) b6;have u6:P=(0,((s.room<|n+1).write dn).commit<|dn.map Vst.noteF):=by have:=HQ fun e=>h0 (by rw[<-HN.o,e];rfl);rwa[HN.o]at this
 have et:n<=16:=by
  have h1:=FJ (fun _=>1) (l:=l.map (·.1)) (l':=X.map (·.path)) y8.o (fun p hp=>by obtain⟨f,hf,rfl⟩:=QA.1 hp;refine QA.2 ⟨(Vst.noteF (f,(0,0))).2,?_,rfl⟩;rw[<-b2.o,<-q8.o.1];have:=(Vst.mem_puts (xs:=l.map fun f=>(f,((0,0):QP))) hv.rise (by rw[Xv];exact y8.o) (m:=(Vst.noteF (f,(0,0))).2)).2 (.inl ⟨_,JA hf,rfl⟩);rwa[Xv]at this);rw[Ef,Ef,QH,QH,HN.o]at h1;have:=d7.o;omega
 obtain⟨g8,co,e8⟩:=r8.block ox dx;injection e8 with e8 e9 e10;subst e8;have r5:=(q7.o g8<|by simp[Qd,qo]).1;have j4:=HH.o.vt.lt;have x9:∀W,Qb (QN a d nv pv mv) wr W->Qm W 104 6 (.slice g8 n c8) n (Qs Zs<|dn.map Vst.noteF):=fun W hW=>r8.kept hW (fun x hx hm=>by simp[Qd,qo]at hx;subst hx;have:=j4 _ hm;omega)
 have c7:∀W,Qb (QN a d nv pv mv) wr W->Qh W 9 d4 (strs<|dn.map fun x=>Yh x.1):=fun W hW=>r13.kept hW (fun x hx hm=>by have:=j4 _ hm;have:=(f13 x hx).1;omega)
 obtain⟨cm,cn,t6,-⟩:=r13.sees;rw[UF,QH,y9]at t6;subst t6;have y7:=hv.room (n+1) (yx g2.o);have hrs:=s.room_same<|n+1;have di:=s.room_calls<|n+1;have f1:=Vst.room_next (s:=s) (n:=n+1) ox;have s6:=Qa<|PT (HH.o.kZ h8.o) hv (n+1) ox (yx g2.o);rw[show((n+1:Nat):Int)=n+1 by push_cast;rfl]at s6;obtain⟨D,hD⟩:=qx<|(s.room<|n+1).dev;have r1:D.Ok:=by rw[<-hD];exact y7.dev
 have b4:D.cap=s.dev.cap:=by rw[<-hD];exact hrs.2.1
 have d8:D.lZ+9000<=1000000000:=by rw[<-hD];have:=g2.o;omega
 have y4:ZZ D.cap (dn.map (·.2))=true:=by rw[b4];rw[YL]at s2 ⊢;exact⟨fun x hx=>s2.1 x<|MC _ hx,(ED.1 s2.2).2.1⟩
 have x5:∀x∈dn,x.2.2=ZG x.1/\x.1.1.length<=120/\x.1.2.length<=8192:=fun x hx=>by
  have hm:x.1∈l:=by rw[<-s1];exact JA hx
  exact⟨s3 x hx,(XU (p8.o _ hm).1).2.2,(p8.o _ hm).2⟩
 have r9:∀i,i<=n->(wrAll D<|dn.take i).Ok/\(wrAll D<|dn.take i).cap=D.cap/\(wrAll D<|dn.take i).lZ<=D.lZ+3200:=fun i hi=>by
  have ht:∀x∈dn.take i,x∈dn:=fun x hx=>Rv hx
  have h1:=SJ (cap:=D.cap) (xs:=dn.take i) r1 rfl (by rw[YL]at y4 ⊢;exact⟨fun x hx=>y4.1 x (by rw[Ey]at hx;exact Rv hx),by rw[Ey];exact y4.2.sublist<|MJ _ _⟩) (fun x hx=>x5 x<|ht x hx) (by rw[Zd];omega);refine⟨h1.1,h1.2.1,?_⟩;rw[h1.2.2.1];have h2:∀L:List (QC × QP),(∀x∈L,x∈dn)->(L.map fun x=>ZG x.1).sum<=200*L.length:=by
   intro L
   induction L with
   |nil=>simp
   |cons y L ih=>
    intro hL;have e1:=ih fun x hx=>hL x<|XO _ hx
    have e2:=(Vz (x5 y<|hL y sx).2.1 (x5 y<|hL y sx).2.2).2.2;rw[QV,Xm,QW];omega
  have h3:=h2 _ ht;rw[Zd]at h3;omega
 obtain⟨HF,d5,bu⟩:=qc (Qr x9<|Qr c7<|Qr r9<|Qr x5<|Qr y4<|Qr b4 y9) (Qr y7<|Qr f1<|Qr hD<|Qr r1 d8) u6;have w1:IntKind.i64.wrap ((n:Int)+1)=(n:Int)+1:=by rw[Zq];omega
 obtain⟨o1,bc⟩:=qb r5 (show ∀x∈Qd (.slice cm n cn),x<wr.heap.size/\w.heap.size<=x from fun x hx=>⟨r13.lt x hx,(f13 x hx).1⟩);have cr:=r8.lt g8 (by simp[Qd,qo]);clear r8 r12 r13 f12 f13 y9 b7 c5 h9 l1 b6 HQ hv s1 s2 s3 u6 e9 e10 j4 x9 c7 y7 hrs di f1 hD r1 b4 d8 y4 x5 r9 r5;go_wp2_with (go_fit s6.o;rintro e w5⟨rfl,df⟩;obtain⟨p5,p6,dp,b5,e5,l8⟩:=df);have av:=(HF.o.2.1 _ e5).sZ;have cd:=Qa av;have x9:=HF.o.1 _ e5;obtain⟨i8,cg,o0,o5⟩:=qd x9 b5 l8 e5;have aj:∀x,x<wr.heap.size->w.heap.size<=x->x∉Q2 d p5 p6:=fun x h1 h2 hm=>by
  rcases l8 x (by simp only[QN,QD,Q4];exact .inr<|.inr<|by simpa[Q2]using hm)with h3|h3
  ·have:=HH.o.vt.lt x h3;omega
  omega
 have o9:=Qa aj;have w8:Zf w5 d p5 p6 (wrAll D<|dn.take 0) w5:=by have:=b5.vt.dk;rw[d5.o.2.2.1]at this;exact Zf.refl this
 obtain⟨be,g0,f7⟩:=qc w8 (b5.vt.arr.cell (i:=0) (u:=.pointer d) rfl) b5.vt.apart.1;clear av x9 b5 l8 e5 aj w8
 go_loopg [20,21,22,23,167,178] n (fun k fd fe du dv dt az wq=>∃i:Nat,i<=n/\k=n-i/\dt=.int .i64 (i:Nat)/\Hid (Zf w5 d p5 p6 (wrAll D<|dn.take i) wq))
 ·exact⟨0,ox,ox,rfl,be⟩
 obtain⟨i,hi,el,rfl,a1⟩:=hrel
 by_cases ep:i<n
 ·have q5:(i:Int)<n:=ox
  obtain⟨⟨f,gx,z⟩,hx⟩:∃x,dn[i]?=some x:=⟨_,Qj (yx HF.o.2.2.2.2.2.2)⟩;have x5:=HF.o.2.2.2.1 _<|QB hx;obtain⟨hz,l4,r4⟩:=x5;have hz:z=(ZG f:Int):=hz;subst hz;have cy:=((YL _ _).1 HF.o.2.2.2.2.1).1 (gx,(ZG f:Int)) (QA.2 ⟨_,QB hx,rfl⟩);obtain⟨p1,p2,p3⟩:=cy;have b9:=Vz l4 r4;have l0:=d5.o.2.2.2.1.c2;obtain⟨N2,e3⟩:=qx<|ZG f;rw[e3]at hx p1 p2 p3 b9;obtain⟨T,hT⟩:∃T:Nat,gx=(T:Int):=⟨gx.toNat,by have p1:30<=gx:=p1;omega⟩;subst hT;obtain⟨L,hL⟩:=qx<|Ja f;have d9:L=N2:=by rw[<-hL,AU,e3]
  have u4:∀x∈L,x.length=512:=by rw[<-hL];exact Hh l4 r4
  have j5:∀k,k<N2->L[k]?=some (((Yh f).drop<|512*k).take 512):=fun k hk=>by rw[<-hL];unfold Ja;rw[e3];exact bD _ _ _ hk
  obtain⟨x1,z7,r2⟩:=HF.o.2.2.1 i ox;have XG:wrAll D (dn.take<|i+1)=(wrAll D<|dn.take i).wr T L:=by unfold wrAll;rw[Zh,hx,EL,BS,<-hL];rfl
  obtain⟨Di,z6⟩:=qx<|wrAll D<|dn.take i;rw[z6]at x1 z7 r2 XG a1;obtain⟨M,hM⟩:=qx<|Yh f;rw[hM]at b9 j5;obtain⟨s9,eu,ea,v6⟩:=cd.o.2 i (.string<|str M) (by unfold strs;rw[Zz,Zz,hx,<-hM];rfl);subst ea;have j8:=bc.o s9 (by simp[Qd,qo]);have v7:=o9.o s9 j8.1 j8.2;have l2:=o9.o g8 cr o1.o;have m3:=i8.o.aZ (Vy (enc:=Zs) (k:=6) (fun _=>rfl) (dn.map Vst.noteF) i 3 (Vst.noteF (f,((T:Int),(N2:Int)))) (by rw[Zz,hx];rfl) dx);have m2:=i8.o.aZ (Vy (enc:=Zs) (k:=6) (fun _=>rfl) (dn.map Vst.noteF) i 2 (Vst.noteF (f,((T:Int),(N2:Int)))) (by rw[Zz,hx];rfl) dx);have m3:w5.cell? ⟨g8,i*6+3,none⟩=some (.int .i64 N2):=m3;have m2:w5.cell? ⟨g8,i*6+2,none⟩=some (.int .i64 T):=m2;obtain⟨dz,o6,n6⟩:=qc m3 m2 l2;have cS:=a1.o.cell v6 v7;have c3:=a1.o.cell m3 l2;have u5:(str M).size=512*N2:=b9.1;obtain⟨bw,s7⟩:=qb (fun k (hk:k<N2) W (h:Zf w5 d p5 p6 (Di.wr T<|L.take k) W)=>by have:=KC h x1 (j5 k hk) u4 (by rw[d9,z7];have p3:(T:Int)+N2<=D.cap:=p3;omega) (by rw[d9];have:=d5.o.2.2.2.2;omega);rw[show((T+k:Nat):Int)=T+(k:Int)by omega]at this;exact this)<|Qr XG d9;have ek:30<=(T:Int)/\(T:Int)+N2<=4096:=⟨p1,by have p3:(T:Int)+N2<=D.cap:=p3;omega⟩;have ei:N2<=200:=b9.2.2;clear hx l4 r4 p1 p2 p3 b9 l0 e3 hL d9 u4 j5 x1 z7 r2 XG z6 hM v6 j8 v7 l2 m3 m2
  go_wp2
  go_loopg [22,23,178] N2 (fun k du dv az wz=>∃m:Nat,m<=N2/\k=N2-m/\az=.int .i64 (m:Nat)/\Hid (Zf w5 d p5 p6 (Di.wr T<|L.take m) wz))
  ·exact⟨0,ox,ox,rfl,a1⟩
  obtain⟨m,hm,em,rfl,a6⟩:=hrel
  by_cases db:m<N2
  ·have q6:(m:Int)<N2:=ox;have e0:=a6.o.cell g0.o f7.o;have e2:=a6.o.cell o6.o n6.o;have bz:=Qa<|bw.o m db;have sl:=Se (str M) (512*m) (512*(m+1)) ((m:Int)*512) (((m:Int)+1)*512) ox (by rw[u5];omega) ox ox;rw[JS (str M) (512*m) (512*(m+1)) (by rw[u5];omega),(ox:512*(m+1)-512*m=512),show(str M).data.toList=M from rfl]at sl;have w2:IntKind.i64.wrap ((T:Int)+m)=(T:Int)+m:=(by rw[Zq];omega);have w3:IntKind.i64.wrap ((m:Int)*512)=(m:Int)*512:=(by rw[Zq];omega);have w4:IntKind.i64.wrap ((m:Int)+1)=(m:Int)+1:=(by rw[Zq];omega);have ew:IntKind.i64.wrap (((m:Int)+1)*512)=((m:Int)+1)*512:=(by rw[Zq];omega);go_wp2_with fail
   go_region_held3 (fun w'=>w'.cell? a=some (.pointer d)/\w'.cell? ⟨g8,i*6+2,none⟩=some (.int .i64 T)) (first|exact⟨e0,e2⟩|exact⟨d0,d2⟩|go_keep)
    ((go_fit(bz.o _<|a6.o.kept (Qc [] wr).drew);rintro e w6⟨rfl,r7⟩;have d0:=r7.cell g0.o f7.o;have d2:=r7.cell o6.o n6.o))
   have br:=Qa r7;clear r7
   go_wp2
   go_roundg (N2-(m+1))
   ·exact⟨m+1,ox,rfl,by go_num,br⟩
   omega
  obtain rfl:N2=m:=ox
  have q6:¬(N2:Int)<N2:=ox
  have bf:=Qa (show Zf w5 d p5 p6 (wrAll D<|dn.take<|i+1) wr by have:=a6.o;rw[s7.o.1];rwa[Q5 (by rw[s7.o.2];exact Qk _)]at this);clear a6
  go_wp2
  go_roundg (n-(i+1))
  ·exact⟨i+1,ox,rfl,by go_num,bf⟩
  omega
 obtain rfl:n=i:=ox
 have q5:¬(n:Int)<n:=ox
 obtain⟨-,-,r9,x5,y4,b4,r3⟩:=HF.o;obtain⟨y7,f1,hD,r1,d8⟩:=d5.o;obtain⟨x1,z7,r2⟩:=r9 n<|Qk _;have c9:dn.take n=dn:=Q5 (by rw[r3];exact Qk _);have z6:=a1.o;rw[c9]at x1 z7 r2 z6;have s8:=Qa<|KE z6 x1;have c0:=z6.cell g0.o f7.o;obtain⟨Dn,j3⟩:=qx<|wrAll D dn;rw[j3]at x1 z7 r2 s8;have bv:=Qa (show P=(0,Vst.commit {s.room (n+1)with dev:=Dn.tick 1} (dn.map Vst.noteF))by
  rw[bu.o,<-j3,<-hD];rfl)
 have cv:=HV.o.pZ;have l0:=r1.c2;have n4:=Qa (fun W m9 n0 m8 (hV:Zn W a d m9 n0 m8 {s.room (n+1)with dev:=Dn.tick 1})(hS:Qm W 104 6 (.slice g8 n c8) n (Qs Zs<|dn.map Vst.noteF))(hg:g8∉QN a d m9 n0 m8)=>
  NQ (cc:=c8) (ns:=dn.map Vst.noteF) hV ⟨x1.c1,x1.c2,x1.len,x1.sec,by show Dn.lZ+1<=_;omega⟩ (by rw[QH,r3];exact(hS.sZ).1) hg (by have:=y7.gen;rw[hD]at this;show(s.room<|n+1).gen<=_;omega)
   (by
    intro y hy;obtain⟨x,hx,rfl⟩:=QA.1 hy;obtain⟨t1,t2,t3⟩:=x5 x hx;obtain⟨u1,u2,u3⟩:=((YL _ _).1 y4).1 x.2 (JA hx);have hl:x.1∈l:=(by have h1:=i6.o.fst;rw[Q5 (by rw[HN.o];exact Qk _)]at h1;rw[<-h1];exact JA hx);have h4:=Oy x.1.2;unfold Zi at h4;exact .inl ⟨rfl,{ok:=(p8.o _ hl).1,st:=⟨u1,u2,by show x.2.1+x.2.2<=4096;omega⟩,sz:=⟨by show(0:Int)<=x.1.2.length;omega,by show(x.1.2.length:Int)<=8192;omega⟩,sm:=⟨by show(0:Int)<=(YJ x.1.2:Int);omega,by show(YJ x.1.2:Int)<4294967296;omega⟩}⟩)
   (by intro y hy;obtain⟨x,hx,rfl⟩:=QA.1 hy;obtain⟨u1,u2,u3⟩:=((YL _ _).1 y4).1 x.2 (JA hx);exact⟨(x5 x hx).2.1,by show(0:Int)<=x.2.1;omega,by show x.2.1<=4096;omega⟩)
   (by rw[QH,r3];omega) (by rw[QH,r3];show(s.room<|n+1).next+n+1<=20;omega) y7.rise y7.rm y7.few (by show 30<=Dn.cap;omega) (by show Dn.lZ+1+30<=_;omega))
 rw[QH,r3]at n4;clear r9 x5 y4 b4 r3 y7 f1 hD r1 d8 x1 z7 r2 c9 z6 j3 cv l0;have n7:=Qa (show g8∉QN a d p5 p6 dp from fun hm=>(o0.o _ hm).elim (fun h=>by have:=HH.o.vt.lt _ h;have:=o1.o;omega) fun h=>ox);go_wp2_with (first
  |(go_fit s8.o;rintro e w6⟨rfl,r7⟩;obtain⟨m9,n0,m8,ct,ag,ae⟩:=cg.o.dev r7)
  |(go_fit(n4.o _ _ _ _ ct (i8.o.kept ag (fun x hx hm=>by simp[Qd,qo]at hx;subst hx;exact n7.o hm)) fun hm=>(ae _ hm).elim n7.o (fun h=>by have:=o5.o.size;omega));rintro e w7⟨rfl,dg⟩))
 go_ret;rw[bv.o];exact⟨rfl,.from h8.o<|.next o5.o o0.o<|.next ag ae dg⟩
