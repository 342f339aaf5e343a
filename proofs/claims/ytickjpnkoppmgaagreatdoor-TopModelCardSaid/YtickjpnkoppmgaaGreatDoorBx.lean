import Derived.Test.YtickjpnkoppmgaaGreatDoorBv
set_option linter.all false
namespace Go.Proofs.YtickjpnkoppmgaaGreatDoor
open Go.Proofs.Tryz Go.RowKit K Go.Shelf Go.Sort
def Ys.goes_same{a:Ys}(h0:a.kind≠0)(c:a.kind≠1)(d:a.kind≠5)(F:List QC):a.goes F=F:=by unfold Ys.goes;rw[Qf h0,Qf c,Qf d]
structure AA(w0 w4 w':WD)(d:Nat)(S:LN)(s:Vst)(c:LU->LU)(a:Ys)(e:Int)(a':Nat)(nv' pv' mv':VL)(s':Vst)(c':LU->LU):Prop where
 vt:Zn w' a' d nv' pv' mv' s'
 ok:Vok s' c'
 log:∃b r,Q6 s' b r
 lZ:s'.dev.lZ<=s.dev.lZ+60000
 files:ZX s' c'=if e=0 then a.goes (ZX s c)else ZX s c
 kept:Qb S w4 w'
 grew:QQ w4.heap.size S (QN a' d nv' pv' mv')
def AA.act{w0 j w':WD}{d a:Nat}{h i mv:VL}{s s':Vst}{c c':LU->LU}{x:Ys}{e:Int}(g:Er s s' x e c c')(m:Vok s c)(hf:x.files.length<=1000)(l:∃b r,Q6 s' b r)(hp:ZU j a d h i mv s' w'):
 ∃nv' pv' mv',AA w0 j w' d (QN a d h i mv) s c x e a nv' pv' mv' s' c':=by
 obtain⟨nv',pv',mv',h,i,j⟩:=hp;exact⟨nv',pv',mv',h,g.done.ok,l,g.done.few m hf,g.files,i,j⟩
def AA.open{w0 g w':WD}{d a:Nat}{h i mv:VL}{s:Vst}{c:LU->LU}{x:Ys}{e:Ending}(hk:x.kind≠0/\x.kind≠1/\x.kind≠5)(m:Vok s c)(j:s.dev.lZ+2000<=1000000000)(j:∃b r,Q6 s b r)(hp:IG g d h i s e w'):
 ∃a' nv' pv' mv' s',e=.returned (.tuple #[.pointer<|some ⟨a',0,none⟩,(0:Int)])/\AA w0 g w' d (QN a d h i mv) s c x 0 a' nv' pv' mv' s' c:=by
 obtain⟨k,a',nv',pv',mv',g,t,n,o,p⟩:=hp;obtain⟨b,r,q⟩:=j;have j:=m.more k ox;have hs:=j.save (by show s.dev.lZ+k+6<=_;omega);have l:∀g∈Q2 d h i,g∈QN a d h i mv:=fun g h=>by simp only[QN,QD,Q4];exact .inr (.inr<|by simpa[Q2]using h)
 refine⟨a',nv',pv',mv',(s.more k).save,t,n,hs,⟨_,_,(q.more k m.next).save j⟩,?_,?_,o.mono l,fun g h=>(p g h).imp (l g) id⟩
 ·show s.dev.lZ+k+(Yp _ _).length+1<=_;rw[Un];omega
 rw[Qg rfl,Ys.goes_same hk.1 hk.2.1 hk.2.2];rfl
set_option maxRecDepth 20000 in
set_option maxHeartbeats 4000000 in
def Qkh(n:Int)(v:VL)(l:List Rs)(w:WD)(hE:Y5 w)(r9:10<=w.heap.size)(f9: -9223372036854775808<=n)(g0:n<=9223372036854775807)(hA:Dv w v l):
 Calls prog 3 #[n,v] w (RK (.bool true) w):=by
 obtain⟨al,cl,rfl,hs⟩:=hA.see;have⟨m,hm⟩:=qx l.length;have d8:=Qa (zI _ l w hA 40000 dx);have q9:=Qa hA;rw[hm]at hs d8 ⊢;have HS:=Qa hs;have HM:=Qa hm;have d6:=Qa hE;have l6:=Qa r9;have l5:=Qa<|Qiu n w f9 g0;have d4:=Qa fun W (hW:Qb [] w W)=>uT W (hE.kZ hW)<|QS r9 hW.size;have l3:=Qa fun q (h1:31<=q)(h2:q<=231)=>jE q w h1 ox hE r9;clear hA hs hm hE r9 f9 g0;go_enter func3,ntmps3;go_wp2_with (first
  |(go_fit d8.o;rintro e w1⟨⟨b,rfl,hb⟩,e1⟩;replace e1:=e1.symm;subst e1;have HB:=Qa hb;clear hb)
  |(go_fit(d4.o _<|Qc _ _);rintro e w2⟨rfl,m3⟩)
  |(go_fit l5.o;rintro e w2⟨⟨q,rfl,d1,m5⟩,e2⟩;replace e2:=e2.symm;subst e2)
  |(go_fit(l3.o q d1 m5);rintro e w3⟨d,a,nv,pv,rfl,hV,a6,f0⟩))
 ·go_ret;exact⟨rfl,m3⟩
 have hb:b=true:=by simpa using ‹(!b)=false›
 obtain⟨m4,f3⟩:=HB.o hb;have HG:=Qa f3;rw[HM.o]at m4;clear f3 hb;have⟨B,hB⟩:=qx w3.heap.size;have⟨W,hW⟩:=qx<|w3.alloc<|.cells #[()] 32;have c9:Qb [] w3 W:=by rw[<-hW];exact(Qc [] w3).alloc _
 have e8:VN W B (QN a d nv pv<|.slice none 0 0) () (ZX (Vst.fresh q) fun _=>[]):=
  ⟨by rw[<-hW,<-hB];exact Qx _ _ _,Qm.nil _ _ _,by simp[Qd,qo],fun hm=>by have:=hV.vt.lt B hm;omega⟩
 have⟨l1,HV,j8,j3,d5⟩:=qe e8 (hV.kZ c9) (a6.trans c9 sx) f0 (by rw[<-hB];exact a6.size:w<=B);rw[hB,hW];clear hV a6 f0 c9 e8 hB hW
 go_loopg [6,8,9,10,11,12,13,14,15] m (fun k x6 x8 x9 o5 i8 n1 n3 o6 o7 wr=>∃(i a:Nat)(s:Vst)(c:LU->LU)(nv pv mv:VL)(av:OA)(mo cv:Nat),i<=m/\k=m-i/\x6=.pointer a/\x8=.int .i64 (i:Nat)/\Hid (Zn wr a d nv pv mv s/\Vok s c/\s.dev.lZ<=10+70000*i/\(∀x∈QN a d nv pv mv,w.heap.size<=x)/\∃b r,Q6 s b r)/\Hid (VN wr B (QN a d nv pv mv) (.slice av mo cv)<|ZX s c)/\Hid (Qb [] w wr))
 ·exact⟨0,a,_,fun _=>[],_,_,_,_,_,_,ox,ox,rfl,rfl,Qa ⟨HV.o,Vok.fresh q d1 ox _,by show 0+(Yp 0 []).length+1<=_;rw[Un];omega,j3.o,_,_,Q6.fresh q d1 ox⟩,l1,j8⟩
 obtain⟨i,a,s,c,q4,q5,r7,av,mo,cv,hi,hk,rfl,rfl,HI,b9,p7⟩:=hrel
 by_cases hlt:i<m
 ·have q0:(i:Int)<m:=ox
  have⟨x,hx⟩:=qy l i (yx HM.o);have h9:=QB hx;obtain⟨hV,hv,p2,y7,y8⟩:=HI.o;obtain⟨g,off,rfl,p1⟩:=cK HS.o hx;have p1:=fun r u (hr:r<7)(hu:(Uf x)[r]?=some u)=>p7.o.cZ (p1 r u hr hu) sx
  have y0:=p1 0 _ dx rfl;have y1:=p1 1 _ dx rfl;have y2:=p1 2 _ dx rfl;have y3:=p1 3 _ dx rfl;have y4:=p1 4 _ dx rfl;have y5:=p1 5 _ dx rfl;have y6:=p1 6 _ dx rfl;rw[Jt]at y0;have x5:=HG.o x h9;obtain⟨t1,t2,t3,t4⟩:=q9.o.strs x h9;obtain⟨af,cf,x0,-⟩:=q9.o.ents x h9;obtain⟨ak,nk,ck,x3⟩:=q9.o.keep x h9;have⟨F0,z8⟩:=qx x.act.files.length;rw[z8]at x0;have j9:=Qa fun W' (hW:Qb [] wr W')=>Fo (hV.kZ hW).vt (yx hv.few);have e7:=Qx wr (Uf x) 37;have⟨q8,HX,HT⟩:=qc (Qr e7<|(Qc [] wr).alloc<|.cells (Uf x).toArray 37) (Qr h9<|Qr x0<|Qr z8 x3)<|Qr x5<|Qr t2 t4;unfold Uf at q8;rw[x0,x3]at q8;rw[x0]at y4;rw[x3]at y6;clear p1 t1 t2 t3 t4 x5 hV hv y7 p2 y8 e7 hx h9 x0 z8 x3
  go_upto_block 2 with(go_fit(j9.o _ q8.o.2);rintro e w4⟨v4,rfl,m7,r3,f1⟩;have p3:=Qa (q8.o.2.trans r3 sx);have A4:=q8.o.1.kept r3 sx;have z0:=A4.cq 0;have z1:=A4.cq 1;have z2:=A4.cq 2;have z3:=A4.cq 3;have z4:=A4.cq 4;have z5:=A4.cq 5;have z6:=A4.cq 6)
  have p9:=Qa<|Qr m7<|Qr r3<|Qr f1 A4
  go_cut [6,11,12,13] (fun x6 i8 n1 n3 w'=>∃(e:Int)(a':Nat)(h5 h8 h4:VL)(s2:Vst)(c2:LU->LU),x6=.pointer a'/\i8=.int .i64 e/\Hid (AA w w4 w' d (QN a d q4 q5 r7) s c x.act e a' h5 h8 h4 s2 c2))
  ·obtain⟨hV,hv,p2,y7,y8⟩:=HI.o;obtain⟨h9,x0,z8,x3⟩:=HX.o;obtain⟨x5,t2,t4⟩:=HT.o;have V4:=hV.kZ p3.o
   by_cases b2:x.act.kind=6\/x.act.kind=7
   ·have e4:Hid (Calls prog 11 #[.pointer d] w4 (IG w4 d q4 q5 s)):=Qa (by obtain⟨b,r,hL⟩:=y8;exact Qhb V4.vt.dk hv hL V4.env (fun y hy=>V4.low y (by simp only[QN,QD,Q4];exact .inr<|.inr<|by simpa[Q2]using hy)) ox);have z7:=Qa fun e W (hp:IG w4 d q4 q5 s e W)=>AA.open (w0:=w) (a:=a) (mv:=r7) (c:=c) (x:=x.act) ox hv ox y8 hp;clear hV hv p2 y7 y8 h9 x0 z8 x3 x5 t2 t4 V4;rcases b2 with k6|k6
    ·have q1:(x.act.kind==6)=true:=(by rw[k6];rfl);clear k6;go_wp2_with (go_fit e4.o;rintro e w5 hp;obtain⟨a2,h5,h8,h4,s2,rfl,hS⟩:=z7.o e _ hp;have c4:=Qa hS;clear hS hp);go_meet
     case rel=>exact⟨0,a2,h5,h8,h4,s2,c,rfl,rfl,c4⟩
    have q1:(x.act.kind==6)=false:=(by rw[k6];rfl);have q2:(x.act.kind==7)=true:=(by rw[k6];rfl);clear k6;go_wp2_with (go_fit e4.o;rintro e w5 hp;obtain⟨a2,h5,h8,h4,s2,rfl,hS⟩:=z7.o e _ hp;have c4:=Qa hS;clear hS hp);go_meet
    case rel=>exact⟨0,a2,h5,h8,h4,s2,c,rfl,rfl,c4⟩
   have r6:=(q9.o.ents x h9).kZ (p7.o.trans p3.o sx);have y9:=acts_ok V4 hv x r6 x5 ⟨t2,fun f hf=>(t4 f hf).2⟩ ox;obtain⟨c',hd⟩:=hv.acts x.act ox;have r4:∃b r,Q6 (s.does x.act).2 b r:=(by obtain⟨b,r,hL⟩:=y8;exact hL.does hv x.act ox);have z7:=Qa fun W (hp:ZU w4 a d q4 q5 r7 (s.does x.act).2 W)=>AA.act (w0:=w) hd hv (yx x5.2.1) r4 hp;have q6:(x.act.kind==6)=false:=(by simpa using fun h=>b2<|.inl h);have q7:(x.act.kind==7)=false:=(by simpa using fun h=>b2<|.inr h);have⟨j4,j2,r0,l2,j5⟩:=qe (zS hv x.act.path) (yM s x.act.path) (show wr.heap.size∉QN a d q4 q5 r7 from fun hm=>CE _<|hV.vt.lt _ hm) (show ∀y∈Qd v4,y∉QN a d q4 q5 r7 from fun y hy hm=>by have h1:=hV.vt.lt y hm;have h2:wr.heap.size+1<=y:=(by have:=f1 y hy;simpa using this);omega) y7;clear b2
   by_cases k0:x.act.kind=0
   ·have e0:s.does x.act=s.put [(x.act.path,x.act.text)]:=(by unfold Vst.does;rw[Qg k0]);have m9:(x.act.kind==0)=true:=(by rw[k0];rfl);have b6:=Qa (Mf V4 hv x.act.path x.act.text (yx x5.1) t2 ox);rw[<-e0]at b6;have r1:=Qa fun v W (hM:UZ W (.slice av mo cv) (ZX s c))(hl:J6 W v s.mem)(hE:Y5 W)=>Qk9 hv (.slice av mo cv) v x W hM hl hE (yx x5.1) t2;rw[<-e0]at r1;unfold Uf at r1;rw[x0,x3]at r1;obtain⟨⟨r,s'⟩,hP⟩:∃P,s.does x.act=P:=⟨_,rfl⟩;rw[hP]at z7 b6 r1;have j1:=Qa (fun W nv pv mv (h:Zn W a d nv pv mv s')=>show Calls prog 14 #[.pointer d] W fun e w'=>e=.returned s.dev.cap/\w'=W by rw[hP]at hd;rw[<-hd.done.cap];exact Rg h.vt.dk hd.done.ok.dev);have o2:(r==r)=true:=sx;clear hV hv p2 y7 y8 r4 hd y9 h9 x0 z8 x3 x5 t2 t4 V4 r6 hP e0 k0
    go_upto_region 22 with(go_fit b6.o;rintro e w5⟨rfl,x1⟩;have p0:=Qa x1;clear x1)
    obtain⟨b4,b5,b3,q3,x2,p4⟩:=p0.o;have A5:=p9.o.2.2.2.kept x2 r0.o;have M5:=(b9.o.kZ p3.o).kept x2 p4;have R5:=(p9.o.1.kept x2 l2.o).memA;have E5:=d6.o.kZ<|(p7.o.trans p3.o sx).trans x2 fun y hy=>.inr<|j5.o y hy;have z0:=A5.cq 0;have z1:=A5.cq 1;have z2:=A5.cq 2;have z3:=A5.cq 3;have z4:=A5.cq 4;have z5:=A5.cq 5;have z6:=A5.cq 6;have c7:=M5.arr.cq 0 (u:=.slice av mo cv);have p6:=Qa<|Qr q3<|Qr M5<|Qr R5 E5;clear A5 M5 R5 E5 q3 x2 p4
    go_region_held3 (fun w'=>w'.cell? B=some (.slice av mo cv)/\w'.cell? wr=some (.int .i64 x.act.kind)/\w'.cell? ⟨wr.heap.size,1,none⟩=some (.string<|str x.act.path)/\w'.cell? ⟨wr.heap.size,2,none⟩=some (.string<|str x.act.text)/\w'.cell? ⟨wr.heap.size,3,none⟩=some (.int .i64 x.act.tg)/\w'.cell? ⟨wr.heap.size,4,none⟩=some (.slice af F0 cf)/\w'.cell? ⟨wr.heap.size,5,none⟩=some (.int .i64 x.fat)/\w'.cell? ⟨wr.heap.size,6,none⟩=some (.slice ak nk ck))
     (first|exact⟨c7,z0,z1,z2,z3,z4,z5,z6⟩|exact l7|go_keep)
     (first
       |(go_fit(j1.o _ _ _ _<|p6.o.1.kZ (Qc [] w5).drew);rintro e w6⟨rfl,e6⟩;replace e6:=e6.symm;subst e6)
       |(go_fit(r1.o v4 _ (p6.o.2.1.kZ (Qc [] w5).drew).row.ent (p6.o.2.2.1.kZ (Qc [] w5).drew)<|p6.o.2.2.2.kZ (Qc [] w5).drew);rintro e w7⟨rfl,k7⟩;have l7:=Qr (k7.cZ c7 sx)<|Qr (k7.cZ z0 sx)<|Qr (k7.cZ z1 sx)<|Qr (k7.cZ z2 sx)<|Qr (k7.cZ z3 sx)<|Qr (k7.cZ z4 sx)<|Qr (k7.cZ z5 sx)<|k7.cZ z6 sx))
    go_wp2
    go_meet
    case rel=>obtain⟨h5,h8,h4,hS⟩:=z7.o _ (p0.o.kept<|(Qc [] w5).drew.trans k7 sx);exact⟨r,a,h5,h8,h4,s',c',rfl,rfl,Qa hS⟩
   have m9:(x.act.kind==0)=false:=(by simpa using k0);unfold Uf at y9;rw[x0,x3]at y9;obtain⟨⟨r,s'⟩,hP⟩:∃P,s.does x.act=P:=⟨_,rfl⟩;rw[hP]at z7 y9;have y9:=Qa y9
   by_cases k1:x.act.kind=1
   ·have n0:(x.act.kind==1)=true:=(by rw[k1];rfl);have e1:r=(s.find x.act.path).1:=(by have h:=Qt Prod.fst hP;unfold Vst.does at h;rw[Qf k0,Qg k1,j2.o]at h;exact h.symm);have g5:(str x.act.path).size<=1000000:=(by have:=x5.1;show x.act.path.length<=_;omega);have b7:=Qa fun W=>CP (str x.act.path) W g5;rw[show X1 (str x.act.path).data.toList=X1 x.act.path from rfl]at b7;have hF:=j4.o;rw[<-e1]at hF;obtain⟨H,hH⟩:∃H:Bool,(H=true↔∃f∈ZX s c,f.1=x.act.path):=by
     by_cases h:∃f∈ZX s c,f.1=x.act.path
     ·exact⟨true,by simpa using h⟩
     exact⟨false,by simpa using h⟩
    have f7:(ZX s c).length<=1000:=(by have:=hv.few;unfold ZX;rw[QH];omega);have j6:=Qa fun W (hM:UZ W (.slice av mo cv) (ZX s c))=>(eG (.slice av mo cv) (ZX s c) x.act.path W hM f7).mono (R':=fun e w'=>(∃y,e=.returned (.tuple #[.string y,.bool H]))/\Qb [] W w') (fun e w' h=>by obtain⟨⟨y,b,h1,h2⟩,h3⟩:=h;exact⟨⟨y,by rw[h1,Cw.2<|h2.trans hH.symm]⟩,h3⟩);have m0:(H=true/\r=0/\X1 x.act.path=0)\/(H=false/\r=240/\X1 x.act.path=0)\/(H=false/\r=140/\X1 x.act.path=140):=by
     unfold X1;cases H with
     |true=>obtain⟨f,hf,he⟩:=hH.1 rfl;obtain⟨mm,r5,rfl⟩:=QA.1 hf;obtain⟨g1,g2⟩:=hF.1 ⟨mm,r5,he⟩;exact .inl ⟨rfl,g2,by rw[g1];rfl⟩
     |false=>
      have g1:=hF.2 (fun mm r5 he=>by have:=hH.2 ⟨(mm.path,c mm.path),JA r5,he⟩;cases this);cases hk:Xr x.act.path with
      |true=>rw[hk,Qg rfl]at g1;exact .inr<|.inl ⟨rfl,g1,rfl⟩
      |false=>rw[hk,Qf dx]at g1;exact .inr<|.inr ⟨rfl,g1,rfl⟩
    clear hV hv p2 y7 y8 r4 hd h9 x0 z8 x3 x5 t2 t4 V4 r6 hP k0 k1 e1 hF hH f7 g5;rcases m0 with⟨rfl,rfl,hc⟩|⟨rfl,rfl,hc⟩|⟨rfl,rfl,hc⟩
    all_goals
     rw[hc]at b7;go_wp2_with (first
      |(go_fit y9.o;rintro e w5⟨rfl,x1⟩;have p0:=Qa x1;obtain⟨b4,b5,b3,q3,x2,p4⟩:=x1;have A5:=p9.o.2.2.2.kept x2 r0.o;have M5:=(b9.o.kZ p3.o).kept x2 p4;have z1:=A5.cq 1;have c7:=M5.arr.cq 0 (u:=.slice av mo cv);have p6:=Qa<|Qr A5 M5;clear A5 M5 q3 x2 p4)
      |(go_fit(j6.o w5 p6.o.2.row.ent);rintro e w6⟨⟨y,rfl⟩,k6⟩;have y1:=(p6.o.1.kept k6 sx).cq 1)
      |(go_fit(b7.o _);rintro e w7⟨rfl,k7⟩))
     go_meet
     case rel=>obtain⟨h5,h8,h4,hS⟩:=z7.o _<|(p0.o.kept k6).kept k7;exact⟨_,a,h5,h8,h4,s',c',rfl,rfl,Qa hS⟩
   have n0:(x.act.kind==1)=false:=by simpa using k1
   by_cases b1:x.act.kind=3\/x.act.kind=4
   ·have hr:r=0\/(r=220/\x.act.kind=3):=by
     have h:=Qt Prod.fst hP;unfold Vst.does at h;rw[Qf k0,Qf k1,Qf ox]at h
     by_cases k3:x.act.kind=3
     ·rw[Qg k3]at h;rcases(hv.compact ox).1 with h1|h1
      ·exact .inl<|h.symm.trans h1
      exact .inr ⟨h.symm.trans h1,k3⟩
     rw[Qf k3,Qg ox]at h;refine .inl<|h.symm.trans ?_;unfold Vst.trim
     split<;>rfl
    have m6:(x.act.kind=3/\(r=0\/r=220))\/(x.act.kind=4/\r=0):=ox;clear hV hv p2 y7 y8 r4 hd h9 x0 z8 x3 x5 t2 t4 V4 r6 hP k0 k1 b1 hr;rcases m6 with⟨k3,rfl|rfl⟩|⟨k4,rfl⟩
    ·have d3:(x.act.kind==3)=true:=(by rw[k3];rfl);clear k3;go_wp2_with (go_fit y9.o;rintro e w5⟨rfl,x1⟩;have p0:=Qa x1;obtain⟨b4,b5,b3,q3,x2,p4⟩:=x1;have z0:=(p9.o.2.2.2.kept x2 r0.o).cq 0);go_meet
     case rel=>obtain⟨h5,h8,h4,hS⟩:=z7.o _ p0.o;exact⟨_,a,h5,h8,h4,s',c',rfl,rfl,Qa hS⟩
    ·have d3:(x.act.kind==3)=true:=(by rw[k3];rfl);have i7:(x.act.kind==4)=false:=(by rw[k3];rfl);clear k3;go_wp2_with (go_fit y9.o;rintro e w5⟨rfl,x1⟩;have p0:=Qa x1;obtain⟨b4,b5,b3,q3,x2,p4⟩:=x1;have z0:=(p9.o.2.2.2.kept x2 r0.o).cq 0);go_meet
     case rel=>obtain⟨h5,h8,h4,hS⟩:=z7.o _ p0.o;exact⟨_,a,h5,h8,h4,s',c',rfl,rfl,Qa hS⟩
    have d3:(x.act.kind==3)=false:=(by rw[k4];rfl);have i7:(x.act.kind==4)=true:=(by rw[k4];rfl);clear k4;go_wp2_with (go_fit y9.o;rintro e w5⟨rfl,x1⟩;have p0:=Qa x1;obtain⟨b4,b5,b3,q3,x2,p4⟩:=x1;have z0:=(p9.o.2.2.2.kept x2 r0.o).cq 0);go_meet
    case rel=>obtain⟨h5,h8,h4,hS⟩:=z7.o _ p0.o;exact⟨_,a,h5,h8,h4,s',c',rfl,rfl,Qa hS⟩
   have d3:(x.act.kind==3)=false:=(by simpa using fun h=>b1<|.inl h);have i7:(x.act.kind==4)=false:=(by simpa using fun h=>b1<|.inr h);clear hV hv p2 y7 y8 r4 hd h9 x0 z8 x3 x5 t2 t4 V4 r6 hP k0 k1 b1;go_wp2_with (go_fit y9.o;rintro e w5⟨rfl,x1⟩);go_meet
   case rel=>obtain⟨h5,h8,h4,hS⟩:=z7.o _ x1;exact⟨r,a,h5,h8,h4,s',c',rfl,rfl,Qa hS⟩
  obtain⟨e,a2,h5,h8,h4,s2,c2,rfl,rfl,x4⟩:=hcut;obtain⟨W6,l9⟩:∃W:WD,W=wc:=⟨_,rfl⟩;subst l9;obtain⟨hV,hv,p2,y7,y8⟩:=HI.o;obtain⟨h9,x0,z8,x3⟩:=HX.o;have A6:=p9.o.2.2.2.kept x4.o.kept fun hm=>CE _<|hV.vt.lt _ hm;have M6:=(b9.o.kZ p3.o).kept x4.o.kept x4.o.grew;have K6:Qb [] w W6:=(p7.o.trans p3.o sx).trans x4.o.kept fun y hy=>.inr<|y7 y hy;have f6:∀y∈QN a2 d h5 h8 h4,w.heap.size<=y:=fun y hy=>(x4.o.grew y hy).elim (y7 y) fun h=>QS p7.o.size<|QS p3.o.size h
  have a1:=Qbd (.slice av mo cv) (ZX s c) x W6 M6.row (LF hv.rise c) (by have:=hv.few;unfold ZX;rw[QH];omega) (fun f hf=>by obtain⟨mm,r5,rfl⟩:=QA.1 hf;have:=hv.plen r5;simp only[];omega) ((q9.o.ents x h9).kZ K6) (HG.o x h9) (d6.o.kZ K6).1;unfold Uf at a1;rw[x0,x3]at a1;have⟨d9,H6⟩:=qb a1<|Qr A6<|Qr M6<|Qr K6 f6;have n7:s2.dev.lZ<=60010+70000*i:=yx x4.o.lZ
  have⟨rb,m8⟩:=qx<|(e==0);have e3:=Qa m8;clear hV hv p2 y7 y8 h9 x0 z8 x3 A6 M6 K6 f6 a1
  go_upto_if 132 with(fail)
  go_cut []from 133 to 135 (fun w'=>∃(av:OA)(mo cv:Nat),Hid<|VN w' B (QN a2 d h5 h8 h4) (.slice av mo cv) (ZX s2 c2)/\Qb [B] W6 w')
  ·obtain⟨A6,M6,K6,f6⟩:=H6.o;cases rb with
   |true=>
    have hr:e=0:=(by simpa using e3.o);have z0:=A6.cq 0;have z1:=A6.cq 1;have z2:=A6.cq 2;have z3:=A6.cq 3;have z4:=A6.cq 4;have z5:=A6.cq 5;have z6:=A6.cq 6;have c7:=M6.arr.cq 0 (u:=.slice av mo cv);have b8:=Qa<|x4.o.files.trans<|Qg hr;clear A6 M6 K6 f6 hr;go_wp2_with (go_fit d9.o;rintro e w7⟨v7,rfl,g6,d0,m1⟩;obtain⟨a7,n6,rfl,-⟩:=Jr.ent g6;have A7:=H6.o.2.1.arr.kept d0 sx;have d7:=A7.cq 0;have x7:=A7.free 0);go_meet
    case rel=>exact⟨_,_,_,Qa ⟨by rw[b8.o];exact H6.o.2.1.set x4.o.vt.vt.lt d0 g6 m1,(d0.mono sx).setCell (.inl sx) _⟩⟩
   |false=>
    have hr:e≠0:=(by simpa using e3.o);have b8:=Qa<|x4.o.files.trans<|Qf hr;clear A6 M6 K6 f6 hr
    go_wp2
    go_meet
    case rel=>exact⟨_,_,_,Qa ⟨by rw[b8.o];exact H6.o.2.1,Qc _ _⟩⟩
  obtain⟨c5,d2,c6,p8⟩:=hcut;have V7:=x4.o.vt.keptS p8.o.2 (fun y hy=>by simp at hy;subst hy;exact p8.o.1.bs) (fun y hy=>by simp at hy;subst hy;have:=d5.o;have:=l6.o;omega);have K7:Qb [] w wc:=H6.o.2.2.1.trans p8.o.2 fun y hy=>.inr (by simp at hy;subst hy;exact d5.o);have p5:=x4.o.ok;have l0:=Qa fun W (hW:Qb [] wc W)=>Fo (V7.kZ hW).vt (yx p5.few);have j0:=Qa fun W (hW:Qb [] wc W)=>Rg (V7.kZ hW).vt.dk p5.dev;have l4:=Qa fun v W (h:J6 W v s2.mem)=>jJ p5 v W h;have j7:=Qa (fun W (hW:Qb [] wc W)=>Qb1 (V7.kZ hW) p5 (.slice c5 d2 c6) (p8.o.1.kZ hW).row (fun y hy=>(p8.o.1.off y hy).1) ox);have e5:=Qa<|Qr V7 K7;clear V7 K7 p5 d9;go_wp2_with (first
   |(go_fit(l0.o _<|Qc _ _);rintro e w8⟨v8,rfl,g7,f5,o0⟩;obtain⟨a8,c8,rfl,-⟩:=g7.memA)
   |(go_fit(j0.o _ f5);rintro e w9⟨rfl,e9⟩;replace e9:=e9.symm;subst e9)
   |(go_fit(l4.o _ _ g7.memA);rintro e o3⟨o,n4,n5,rfl,ho,o1,m2,n8⟩;have r2:=f5.trans m2 sx;have c7:=(p8.o.1.kZ r2).arr.cq 0 (u:=.slice c5 d2 c6))
   |(go_fit(j7.o _ r2);rintro e o4⟨rfl,k,a6,i1,i6,g9,l8,f4,f2⟩))
  go_roundg (m-(i+1))
  ·have p5:=x4.o.ok;have f8:∀y∈QN a2 d i1 i6 g9,w.heap.size<=y:=fun y hy=>(f2 y hy).elim (H6.o.2.2.2 y) (fun h=>QS e5.o.2.size<|QS r2.size h)
   refine⟨i+1,a2,s2.more k,c2,i1,i6,g9,c5,d2,c6,ox,rfl,rfl,by go_num,Qa ⟨l8,p5.more k ox,by show s2.dev.lZ+k<=_;omega,f8,?_⟩,Qa<|(p8.o.1.kZ r2).kept f4 f2,Qa<|(e5.o.2.trans r2 sx).trans f4 fun y hy=>.inr<|H6.o.2.2.2 y hy⟩;obtain⟨b,r,hL⟩:=x4.o.log;exact⟨b,r,hL.more k p5.next⟩
  omega
 obtain rfl:m=i:=ox
 have q0:¬(m:Int)<m:=ox
 go_wp2_with (go_fit(d4.o _ p7.o);rintro e w4⟨rfl,r3⟩);go_ret;exact⟨rfl,p7.o.trans r3 sx⟩
