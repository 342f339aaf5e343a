import Derived.Test.YtickjpnkoppmgaaGreatDoorAa
set_option linter.all false
namespace Go.Proofs.YtickjpnkoppmgaaGreatDoor
open Go.Proofs.Tryz Go.RowKit K
namespace K
def UM(W over:LN):Nat→Option Nat
 |0=>none
 |k+1=>match UM W over k with
  |none=>if over.getD k 0=0 then some k else none
  |some a=>if over.getD k 0=0∧W.getD k 0<W.getD a 0 then some k else some a
def GH(W over:LN)(k a:Nat):Prop:=a<k∧over.getD a 0=0∧∀b,b<k→over.getD b 0=0→W.getD a 0<W.getD b 0∨(W.getD a 0=W.getD b 0∧a≤b)
def GH.one{W over:LN}{k a b:Nat}(c:GH W over k a)(d:GH W over k b):a=b:=by have:=c.2.2 b d.1 d.2.1;have:=d.2.2 a c.1 c.2.1;omega
def FV(W over):∀k,(UM W over k=none∧∀j,j<k→over.getD j 0≠0)∨∃a,UM W over k=some a∧GH W over k a
 |0=>.inl ⟨rfl,fun j f=>by omega⟩
 |k+1=>by
  rcases FV W over k with⟨e,c⟩|⟨a,e,c⟩
  ·by_cases hk:over.getD k 0=0
   ·refine .inr ⟨k,by rw[UM,e];simp only[Qg hk],by omega,hk,fun j f d=>?_⟩;rcases Xq j k with b|b
    ·exact absurd d<|c j b
    have:j=k:=(by omega);subst this;exact .inr ⟨rfl,Ql _⟩
   refine .inl ⟨by rw[UM,e];simp only[Qf hk],fun j f=>?_⟩;rcases Xq j k with b|b
   ·exact c j b
   have:j=k:=(by omega);subst this;exact hk
  by_cases hk:over.getD k 0=0∧W.getD k 0<W.getD a 0
  ·refine .inr ⟨k,by rw[UM,e];simp only[Qg hk],by omega,hk.1,fun j f d=>?_⟩;rcases Xq j k with b|b
   ·have:=c.2.2 j b d;omega
   have:j=k:=(by omega);subst this;exact .inr ⟨rfl,Ql _⟩
  refine .inr ⟨a,by rw[UM,e];simp only[Qf hk],by have:=c.1;omega,c.2.1,fun j f d=>?_⟩;rcases Xq j k with b|b
  ·exact c.2.2 j b d
  have:j=k:=by omega
  subst this;have:=c.1;have:¬W.getD j 0<W.getD a 0:=fun b=>hk ⟨d,b⟩
  omega
inductive Up (over:LN):Nat→Nat→Nat→Prop
 |here (i:Nat):Up over i 0 i
 |step {i j d r:Nat} (h:over.getD i 0=j) (h0:j≠0) (u:Up over j d r):Up over i (d+1) r
def Up.snoc{over i d r j}(u:Up over i d r)(a:over.getD r 0=j)(h0:j≠0):Up over i (d+1) j:=by
 induction u with
 |here i=>exact .step a h0<|.here j
 |step h1 h2 u ih=>exact .step h1 h2<|ih a
def Up.congr{over a i d r}(u:Up over i d r)(b:∀j,over.getD j 0≠0→a.getD j 0=over.getD j 0):Up a i d r:=by
 induction u with
 |here i=>exact .here i
 |step h1 h2 u ih=>exact .step ((b _<|by rwa[h1]).trans h1) h2 ih
def Up.one{over i d r e a}(u:Up over i d r)(b:over.getD r 0=0)(v:Up over i e a)(c:over.getD a 0=0):d=e∧r=a:=by
 induction u generalizing e with
 |here i=>
  cases v with
  |here=>exact⟨rfl,rfl⟩
  |step h1 h2 _=>exact absurd (h1.symm.trans b) h2
 |step h1 h2 u ih=>
  cases v with
  |here=>exact absurd (h1.symm.trans c) h2
  |step h3 h4 v=>have a:=h1.symm.trans h3;subst a;obtain⟨a,c⟩:=ih b v;exact⟨by rw[a],c⟩
def Ah(l:LN)(a x j):(l.set a x).getD j 0=if j=a∧a<l.length then x else l.getD j 0:=by
 rw[List.getD,List.getD,YO]
 by_cases b:a=j
 ·subst b
  by_cases c:a<l.length
  ·simp[c]
  rw[Qg rfl,Qf c,Qf<|by omega,QX<|by omega]
 rw[Qf b,Qf<|by omega]
def IT(l j):(l++[0]).getD j 0=l.getD j 0:=by
 rw[List.getD,List.getD,List.getElem?_append]
 by_cases a:j<l.length
 ·rw[Qg a]
 rw[Qf a,QX (l:=l)<|by omega]
 match hk:j-l.length with
 |0=>rfl
 |k+1=>rfl
def Eu(l x j)(a:j<l.length):(l++[x]).getD j 0=l.getD j 0:=by rw[List.getD,List.getD,Xp a]
def Et(l x):(l++[x]).getD l.length 0=x:=by rw[List.getD,Zx<|Ql _,ZO];rfl
abbrev Tr:=Nat × List (Nat × Nat)
def VS(l:List (Nat × Nat)):List (Nat × Nat):=l.map fun a=>(a.1,a.2+1)
def Vz(w:LN)(l:List (Nat × Nat)):Nat:=(l.map fun a=>w.getD a.1 0).sum
def AR(L:Nat)(l:List (Nat × Nat)):Nat:=(l.map fun a=>2^(L-a.2)).sum
def Aa(w:LN)(l:List (Nat × Nat)):Nat:=(l.map fun a=>w.getD a.1 0*a.2).sum
def YA:Nat→Nat
 |0=>0
 |1=>1
 |k+2=>YA (k+1)+YA k
structure AD(w W over:LN)(t:Tr):Prop where
 root:t.1<W.length∧over.getD t.1 0=0
 up:∀p∈t.2,Up over p.1 p.2 t.1
 weight:W.getD t.1 0=Vz w t.2
 kraft:∀L,(∀p∈t.2,p.2≤L)→AR L t.2=2^L
 ne:t.2≠[]
def CM(W:LN)(t:Tr)(a g:Nat):Prop:=(∀b∈t.2,b.2≤a)∧YA (a+2)≤W.getD t.1 0∧(1≤a→YA (a+1)≤g)
structure VC(n:Nat)(w W over:LN)(F:List Tr):Prop where
 len:over.length=W.length
 big:n≤W.length
 ok:∀t∈F,AD w W over t
 roots:∀r,r<W.length→over.getD r 0=0→∃t∈F,t.1=r
 distinct:(F.map Prod.fst).Nodup
 leaves:((F.flatMap Prod.snd).map Prod.fst).Perm (List.range n)
def AD.turn{w W over b c}{t:Tr}(a:AD w W over t)(d:∀j,j<W.length→b.getD j 0=W.getD j 0)(e:W.length≤b.length)(f:∀j,over.getD j 0≠0→c.getD j 0=over.getD j 0)(g:c.getD t.1 0=0):AD w b c t:=
 ⟨⟨Az a.root.1 e,g⟩,fun b hp=>(a.up b hp).congr f,by rw[d _ a.root.1];exact a.weight,a.kraft,a.ne⟩
def Qit(w l):Vz w (VS l)=Vz w l:=by simp[Vz,VS,EV]
def Pp(w a b):Vz w (a++b)=Vz w a+Vz w b:=by simp[Vz]
def sU(w a b):Aa w (a++b)=Aa w a+Aa w b:=by simp[Aa]
def TR(w):∀l:List (Nat × Nat),Aa w (VS l)=Aa w l+Vz w l
 | []=>rfl
 |p::l=>by have:=TR w l;simp only[Aa,VS,Vz,QR,Z9]at this ⊢;rw[this,GY];omega
def Qac(L a b):AR L (a++b)=AR L a+AR L b:=by simp[AR]
def Qad(L l):AR (L+1) (VS l)=AR L l:=by
 simp only[AR,VS,XI]
 congr 1
 refine Yx fun a _=>?_
 simp only[Function.comp];rw[Nat.add_sub_add_right]
def join(m:Nat)(s t:Tr):Tr:=(m,VS (s.2++t.2))
def Qab{w W over}{s t:Tr}{m}(hs:AD w W over s)(g:AD w W over t)(k:W.length=m)(a:over.length=m)(l:m≠0)(o:s.1≠t.1):
 AD w (W++[W.getD s.1 0+W.getD t.1 0]) ((over.set s.1 m).set t.1 m++[0]) (join m s t):=by
 have b:=hs.root;have h:=g.root;have f:∀a,((over.set s.1 m).set t.1 m++[0]).getD a 0=if a=t.1 then m else if a=s.1 then m else over.getD a 0:=by
  intro a;rw[IT,Ah,Ah,Jo]
  by_cases c:a=t.1
  ·rw[Qg ⟨c,by omega⟩,Qg c]
  rw[Qf fun e=>c e.1,Qf c]
  by_cases d:a=s.1
  ·rw[Qg ⟨d,by omega⟩,Qg d]
  rw[Qf fun e=>d e.1,Qf d]
 have j:∀a,over.getD a 0≠0→((over.set s.1 m).set t.1 m++[0]).getD a 0=over.getD a 0:=by intro a a;rw[f,Qf (by rintro rfl;exact a h.2),Qf (by rintro rfl;exact a b.2)]
 refine⟨⟨?_,?_⟩,fun a hp=>?_,?_,fun h i=>?_,?_⟩
 ·show m<_;rw[Qo,k];simp
 ·show((over.set s.1 m).set t.1 m++[0]).getD m 0=0;rw[f,Qf<|by omega,Qf<|by omega,List.getD,QX<|by omega];rfl
 ·simp only[join,VS,QB,Q6]at hp;obtain⟨n,b,rfl⟩:=hp;rcases b with b|b
  ·refine((hs.up n b).congr j).snoc ?_ l;rw[f,Qf o,Qg rfl];rfl
  refine((g.up n b).congr j).snoc ?_ l;rw[f,Qg rfl];rfl
 ·show(W++[W.getD s.1 0+W.getD t.1 0]).getD m 0=_;rw[←k,Et,join,Qit,Pp,hs.weight,g.weight]
 ·have:1≤h:=by
   cases hl:s.2 with
   |nil=>exact absurd hl hs.ne
   |cons a r=>have:=i (a.1,a.2+1) (by simp only[join,VS,QB,Q6];exact⟨a,.inl (by rw[hl];simp),rfl⟩);simp only at this;omega
  obtain⟨b,rfl⟩:∃b,h=b+1:=⟨h-1,by omega⟩;have c:∀a∈s.2,a.2≤b:=fun a hp=>by have:=i (a.1,a.2+1) (by simp only[join,VS,QB,Q6];exact⟨a,.inl hp,rfl⟩);simp only at this;omega
  have d:∀a∈t.2,a.2≤b:=fun a hp=>by have:=i (a.1,a.2+1) (by simp only[join,VS,QB,Q6];exact⟨a,.inr hp,rfl⟩);simp only at this;omega
  rw[join,Qad,Qac,hs.kraft b c,g.kraft b d,J5];omega
 simp only[join,VS];intro e;have:s.2++t.2=[]:=by simpa using e
 exact hs.ne (List.append_eq_nil_iff.1 this).1
end K
namespace K
def VC.perm{n w W over F b}(a:VC n w W over F)(hp:F.Perm b):VC n w W over b:=
 ⟨a.len,a.big,fun c b=>a.ok c<|hp.mem_iff.2 b,fun g e f=>by obtain⟨c,b,d⟩:=a.roots g e f;exact⟨c,hp.mem_iff.1 b,d⟩,(hp.map _).nodup_iff.1 a.distinct,
  ((hp.flatMap_right _).map _).symm.trans a.leaves⟩
def VC.step{n w W over}{s t:Tr}{R}(a:VC n w W over (s::t::R))(m)(k:W.length=m)(g:m≠0):
 VC n w (W++[W.getD s.1 0+W.getD t.1 0]) ((over.set s.1 m).set t.1 m++[0]) (join m s t::R):=by
 have hs:=a.ok s (by simp);have o:=a.ok t (by simp);have i:=a.distinct;simp only[QR,Rt,QE,QB,JU,not_exists,not_and]at i;have r:s.1≠t.1:=i.1.1;have q:over.length=m:=by rw[a.len,k]
 have l:∀c,((over.set s.1 m).set t.1 m++[0]).getD c 0=if c=t.1 then m else if c=s.1 then m else over.getD c 0:=by
  intro c;have:=hs.root;have:=o.root;rw[IT,Ah,Ah,Jo]
  by_cases d:c=t.1
  ·rw[Qg ⟨d,by omega⟩,Qg d]
  rw[Qf fun a=>d a.1,Qf d]
  by_cases e:c=s.1
  ·rw[Qg ⟨e,by omega⟩,Qg e]
  rw[Qf fun a=>e a.1,Qf e]
 refine⟨?_,?_,fun f b=>?_,fun j p h=>?_,?_,?_⟩
 ·rw[Qo,Qo,Jo,Jo,a.len];rfl
 ·rw[Qo];have:=a.big;simp;omega
 ·rcases QE.1 b with rfl|b
  ·exact Qab hs o k q g r
  have q:=a.ok f (by simp[b]);refine q.turn (fun c g=>Eu _ _ _ g) (by rw[Qo];omega) (fun c g=>?_) ?_
  ·rw[l,Qf (by rintro rfl;exact g o.root.2),Qf (by rintro rfl;exact g hs.root.2)]
  rw[l,Qf<|i.2.1 f b,Qf<|i.1.2 f b];exact q.root.2
 ·rw[Qo,k]at p;simp only[Q0,Yg]at p
  by_cases c:j=m
  ·exact⟨join m s t,by simp,by rw[c];rfl⟩
  rw[l]at h
  by_cases d:j=t.1
  ·rw[Qg d]at h;omega
  rw[Qf d]at h
  by_cases e:j=s.1
  ·rw[Qg e]at h;omega
  rw[Qf e]at h;obtain⟨f,b,c⟩:=a.roots j (by omega) h;rcases QE.1 b with rfl|b
  ·exact absurd c.symm e
  rcases QE.1 b with rfl|b
  ·exact absurd c.symm d
  exact⟨f,by simp[b],c⟩
 ·rw[QR,Rt];refine⟨fun d=>?_,i.2.2⟩;obtain⟨f,b,c⟩:=QB.1 d;have:=(a.ok f<|by simp[b]).root.1;have:f.1=m:=c;omega
 have b:=a.leaves;simp only[Jn,Xi]at b ⊢;have g:((join m s t).2.map Prod.fst)=s.2.map Prod.fst++t.2.map Prod.fst:=by simp[join,VS,EV]
 rwa[g,QQ]
def Bk(W:LN)(F:List Tr):Prop:=∀b∈F,∃c a,CM W b c a∧∀c∈F,c.1≠b.1→a≤W.getD c.1 0
def Bk.perm{W:LN}{F a:List Tr}(c:Bk W F)(hp:F.Perm a):Bk W a:=fun g f=>by obtain⟨a,b,d,e⟩:=c g<|hp.mem_iff.2 f;exact⟨a,b,d,fun b a=>e b<|hp.mem_iff.2 a⟩
def yZ{W}{s t:Tr}{m ha ga hb gb}(h1:CM W s ha ga)(h2:CM W t hb gb)(hm:W.length=m)(h3:ga≤W.getD t.1 0)(h4:gb≤W.getD s.1 0):
 CM (W++[W.getD s.1 0+W.getD t.1 0]) (join m s t) (max ha hb+1) (max (W.getD s.1 0)<|W.getD t.1 0):=by
 have hl:(W++[W.getD s.1 0+W.getD t.1 0]).getD (join m s t).1 0=W.getD s.1 0+W.getD t.1 0:=by show(W++[W.getD s.1 0+W.getD t.1 0]).getD m 0=_;rw[←hm,Et]
 generalize hA:W.getD s.1 0=A at*
 generalize hB:W.getD t.1 0=B at*
 have a2:=h1.2.1;have y:=h2.2.1;rw[hA]at a2;rw[hB]at y;have a3:=h1.2.2;have b3:=h2.2.2;refine⟨fun p hp=>?_,?_,fun _=>?_⟩
 ·simp only[join,VS,QB,Q6]at hp;obtain⟨q,o,rfl⟩:=hp;rcases o with o|o
  ·have:=h1.1 q o;simp only;omega
  have:=h2.1 q o;simp only;omega
 ·rw[hl];rcases Nat.le_total hb ha with h|h
  ·rw[Nat.max_eq_left h];rcases V9 ha with h0|h0
   ·have:hb=0:=(by omega);subst h0 this;simp only[YA]at a2 y ⊢;omega
   have e:YA (ha+1+2)=YA (ha+2)+YA (ha+1):=rfl;have:=a3 h0;omega
  rw[Nat.max_eq_right h];rcases V9 hb with h0|h0
  ·have:ha=0:=(by omega);subst h0 this;simp only[YA]at a2 y ⊢;omega
  have e:YA (hb+1+2)=YA (hb+2)+YA (hb+1):=rfl;have:=b3 h0;omega
 rcases Nat.le_total hb ha with h|h
 ·rw[Nat.max_eq_left h,show ha+1+1=ha+2 by omega];omega
 rw[Nat.max_eq_right h,show hb+1+1=hb+2 by omega];omega
def CM.turn{W:LN}{t:Tr}{a g x:Nat}(hh:CM W t a g)(b:t.1<W.length):CM (W++[x]) t a g:=by refine⟨hh.1,?_,hh.2.2⟩;rw[Eu _ _ _ b];exact hh.2.1
def Bk.step{n:Nat}{w W over:LN}{s t:Tr}{R:List Tr}(a:VC n w W over (s::t::R))(f:Bk W (s::t::R))(m:Nat)(c:W.length=m)
 (hs:∀u∈R,W.getD s.1 0≤W.getD u.1 0)(h:∀u∈R,W.getD t.1 0≤W.getD u.1 0):Bk (W++[W.getD s.1 0+W.getD t.1 0]) (join m s t::R):=by
 have d:=a.distinct;simp only[QR,Rt,QE,QB,JU,not_exists,not_and]at d;have k:(W++[W.getD s.1 0+W.getD t.1 0]).getD m 0=W.getD s.1 0+W.getD t.1 0:=by rw[←c,Et]
 have hlt:∀u∈R,u.1<W.length:=fun u b=>(a.ok u<|by simp[b]).root.1
 intro u b;rcases QE.1 b with rfl|b
 ·obtain⟨ha,a,a,a2⟩:=f s (by simp);obtain⟨hb,e,e,g⟩:=f t (by simp);refine⟨_,_,yZ a e c (a2 t (by simp) fun e=>d.1.1 e.symm)<|g s (by simp) d.1.1,fun c a hne=>?_⟩;rcases QE.1 a with rfl|a
  ·exact absurd rfl hne
  rw[Eu _ _ _<|hlt c a];exact Nat.max_le.2 ⟨hs c a,h c a⟩
 obtain⟨i,g,j,h⟩:=f u (by simp[b]);refine⟨i,g,j.turn<|hlt u b,fun c a hne=>?_⟩;rcases QE.1 a with rfl|a
 ·show g≤(W++[W.getD s.1 0+W.getD t.1 0]).getD m 0;rw[k];have:=h s (by simp) fun e=>d.1.2 u b e.symm;omega
 rw[Eu _ _ _<|hlt c a];exact h c (by simp[a]) hne
def Bv(w:LN)(F:List Tr):Nat:=(F.map fun a=>Aa w a.2).sum
def sV{w F a}(hp:F.Perm a):Bv w F=Bv w a:=(hp.map _).sum_nat
def sW{w W over}{s t:Tr}{R m}(hs:AD w W over s)(a:AD w W over t):Bv w (join m s t::R)=Bv w (s::t::R)+(W.getD s.1 0+W.getD t.1 0):=by simp only[Bv,QR,Z9,join];rw[TR,sU,Pp,hs.weight,a.weight];omega
def Xu(s:LN × LN):LN × LN:=
 let a:=(UM s.1 s.2 s.1.length).getD 0
 let c:=s.2.set a s.1.length
 let b:=(UM s.1 c s.1.length).getD 0
 (s.1++[s.1.getD a 0+s.1.getD b 0],c.set b s.1.length++[0])
def kL{F:List Tr}{t:Tr}(a:t∈F):∃R,F.Perm (t::R):=⟨F.erase t,GR a⟩
def bK{n w W over F}(b:VC n w W over F)(a:2≤F.length)(r:W.length≠0):
 ∃s t R,F.Perm (s::t::R)∧UM W over W.length=some s.1∧UM W (over.set s.1 W.length) W.length=some t.1∧(∀u∈R,W.getD s.1 0≤W.getD u.1 0)∧(∀u∈R,W.getD t.1 0≤W.getD u.1 0)∧W.getD s.1 0≤W.getD t.1 0∧
  Xu (W,over)=(W++[W.getD s.1 0+W.getD t.1 0],(over.set s.1 W.length).set t.1 W.length++[0]):=by
 obtain⟨t0,c⟩:∃t,t∈F:=by
  cases F with
  |nil=>simp at a
  |cons t _=>exact⟨t,by simp⟩
 have a:=(b.ok t0 c).root;rcases FV W over W.length with⟨-,i⟩|⟨c,m,h⟩
 ·exact absurd a.2<|i t0.1 a.1
 obtain⟨s,hs,rfl⟩:=b.roots c h.1 h.2.1;obtain⟨f,j⟩:=kL hs;have a:=j.length_eq;have d:=b.perm j;have l:=d.distinct;simp only[QR,Rt,QB,not_exists,not_and]at l;obtain⟨k,q⟩:∃t,t∈f:=by
  cases f with
  |nil=>simp at a;omega
  |cons t _=>exact⟨t,by simp⟩
 have p:=(d.ok k<|by simp[q]).root;have g:=(d.ok s<|by simp).root;have e:∀a,(over.set s.1 W.length).getD a 0=if a=s.1 then W.length else over.getD a 0:=by
  intro a;rw[Ah]
  by_cases c:a=s.1
  ·rw[Qg ⟨c,by rw[b.len];exact g.1⟩,Qg c]
  rw[Qf fun b=>c b.1,Qf c]
 rcases FV W (over.set s.1 W.length) W.length with⟨-,i⟩|⟨g,o,c⟩
 ·exact absurd (by rw[e,Qf<|l.1 k q];exact p.2)<|i k.1 p.1
 have k:g≠s.1:=by rintro rfl;have:=c.2.1;rw[e,Qg rfl]at this;exact r this
 have i:over.getD g 0=0:=by have:=c.2.1;rwa[e,Qf k]at this
 obtain⟨t,l,rfl⟩:=d.roots g c.1 i;have g:t∈f:=by
  rcases QE.1 l with rfl|d
  ·exact absurd rfl k
  exact d
 obtain⟨R,f⟩:=kL g;have hp:F.Perm (s::t::R):=j.trans<|f.cons s;have f:=b.perm hp;have g:=f.distinct;simp only[QR,Rt,QE,QB,JU,not_exists,not_and]at g;have j:∀a,a<W.length→over.getD a 0=0→W.getD s.1 0≤W.getD a 0:=fun a d b=>by have:=h.2.2 a d b;omega
 refine⟨s,t,R,hp,m,o,fun u b=>?_,fun u b=>?_,?_,?_⟩
 ·have a:=(f.ok u<|by simp[b]).root;exact j _ a.1 a.2
 ·have a:=(f.ok u<|by simp[b]).root;have:=c.2.2 u.1 a.1 (by rw[e,Qf<|g.1.2 u b];exact a.2);omega
 ·exact j _ c.1 i
 unfold Xu;simp only[m,VI,o]
end K
namespace K
def kx(xs:List (Nat × Nat)):Nat:=(xs.map fun a=>2^(20-a.2)).sum
def cx(xs:List (Nat × Nat)):Nat:=(xs.map fun a=>a.1*a.2).sum
def nx(a:Nat)(xs:List (Nat × Nat)):Nat:=xs.countP fun b=>b.2==a
def AS(p xs):kx (p::xs)=2^(20-p.2)+kx xs:=by simp[kx]
def De(p xs):cx (p::xs)=p.1*p.2+cx xs:=by simp[cx]
def Gf(a p xs):nx a (p::xs)=nx a xs+if p.2=a then 1 else 0:=by unfold nx;rw[Ln];simp
def Ke{xs a}(b:xs.Perm a):kx xs=kx a:=(b.map _).sum_nat
def IF{xs a}(b:xs.Perm a):cx xs=cx a:=(b.map _).sum_nat
def Kr(a){xs b}(c:xs.Perm b):nx a xs=nx a b:=c.countP_eq _
def Qcl{a xs}(b:1≤nx a xs):∃z,(z,a)∈xs:=by
 unfold nx at b;obtain⟨c,hp,d⟩:=List.countP_pos_iff.1<|show 0<_ from b;have:c.2=a:=by simpa using d
 exact⟨c.1,by rwa[←this]⟩
def Pb{xs:List (Nat × Nat)}{p}(a:p∈xs):∃b,xs.Perm (p::b):=⟨xs.erase p,GR a⟩
def kM{xs:List (Nat × Nat)}{a d}(c:(xs.map Prod.fst).Perm (a::d)):∃e b,xs.Perm ((a,e)::b)∧(b.map Prod.fst).Perm d:=by have d:a∈xs.map Prod.fst:=c.mem_iff.2 (by simp);obtain⟨e,hp,rfl⟩:=QB.1 d;obtain⟨b,hz⟩:=Pb hp;refine⟨e.2,b,hz,?_⟩;have b:=(hz.map Prod.fst).symm.trans c;simp only[QR]at b;exact b.cons_inv
def Qhi(a z h M:Nat)(o:a≤z)(q:h≤M):a*M+z*h≤a*h+z*M:=by obtain⟨e,rfl⟩:∃e,M=h+e:=⟨M-h,by omega⟩;obtain⟨f,rfl⟩:∃f,z=a+f:=⟨z-a,by omega⟩;rw[DY,V8,V8 a f<|h+e,DY,DY];omega
def jX{a d b c}(f:d≤b)(hne:d≠b)(h:1≤nx b c)(ha:∀p∈c,a≤p.1)(g:∀p∈c,p.2≤b):
 ∃e,(e.map Prod.fst).Perm (c.map Prod.fst)∧kx ((a,b)::e)=kx ((a,d)::c)∧cx ((a,b)::e)≤cx ((a,d)::c)∧(∀p∈e,p.2≤b)∧nx b e+1=nx b c:=by
 obtain⟨e,hz⟩:=Qcl h;obtain⟨h,c⟩:=Pb hz;refine⟨(e,d)::h,?_,?_,?_,fun p hp=>?_,?_⟩
 ·exact(c.map Prod.fst).symm
 ·rw[AS,AS,AS,Ke c,AS];simp only;omega
 ·rw[De,De,De,IF c,De];have:=Qhi a e d b (ha _ hz) f;simp only;omega
 ·rcases QE.1 hp with rfl|hp
  ·exact f
  exact g p (c.mem_iff.2<|by simp[hp])
 rw[Kr b c,Gf,Gf];simp only[Qf hne];simp
def WJ{a}:∀b:List (Nat × Nat),(∀p∈b,p.2+1≤a)→a≤20→∃c,kx b=2^(21-a)*c
 | [],_,_=>⟨0,rfl⟩
 |p::b,h,hM=>by obtain⟨c,d⟩:=WJ b (fun e b=>h e<|by simp[b]) hM;have hp:=h p (by simp);refine⟨2^(20-p.2-(21-a))+c,?_⟩;rw[AS,d,DY,←DZ,show 21-a+(20-p.2-(21-a))=20-p.2 by omega]
def dO:∀xs:List (Nat × Nat),xs≠[]→∃p∈xs,∀b∈xs,b.2≤p.2
 | [],c=>absurd rfl c
 | [p],_=>⟨p,by simp,fun b a=>by simp at a;rw[a];exact Ql _⟩
 |p::r::xs,_=>by
  obtain⟨f,e,d⟩:=dO (r::xs) (by simp)
  by_cases c:p.2≤f.2
  ·exact⟨f,by simp only[QE]at e ⊢;exact .inr e,fun b a=>by
    rcases QE.1 a with rfl|a
    ·exact c
    exact d b a⟩
  exact⟨p,by simp,fun b a=>by
   rcases QE.1 a with rfl|a
   ·exact Ql _
   have:=d b a;omega⟩
def exch:∀K (xs:List (Nat × Nat))(a b:Nat)(ws:LN),(xs.map Prod.snd).sum≤K→(∀p∈xs,p.2≤20)→kx xs≤2^20→(xs.map Prod.fst).Perm (a::b::ws)→a≤b→(∀x∈ws,b≤x)→
 ∃ys,(ys.map Prod.fst).Perm ((a+b)::ws)∧(∀p∈ys,p.2≤20)∧kx ys≤2^20∧cx ys+(a+b)≤cx xs:=by
 intro K
 induction K using Nat.strongRecOn with
 |ind K ih=>
  intro xs a b ws hK x2 hk hp y0 x0;have x3:xs.length=ws.length+2:=by have:=hp.length_eq;simpa using this
  obtain⟨pm,x4,y8⟩:=dO xs (by intro h;rw[h]at x3;simp at x3);obtain⟨p,M⟩:=pm;obtain⟨x1,h3⟩:=Pb x4;have x9:M≤20:=x2 _ x4;have h5:∀q∈xs,q.2≤M:=y8;have h4:=Ke h3;rw[AS]at h4;simp only at h4;have z8:x1.length=ws.length+1:=by have:=h3.length_eq;simp at this;omega
  have p2:1≤M:=by
   rcases V9 M with h0|h0
   ·subst h0;cases x1 with
    |nil=>simp at z8
    |cons q r=>rw[AS]at h4;have y:=h5 q (h3.mem_iff.2<|by simp);rw[show q.2=0 by omega]at h4;have e:2^(20-0)=2^20:=rfl;have:0<2^20:=(by decide);omega
   exact h0
  by_cases y9:1≤nx M x1
  ·
   have p7:2≤nx M xs:=(by rw[Kr M h3,Gf];simp only[Co];omega);obtain⟨la,zs,hz,x8⟩:=kM hp;have p1:∀q∈zs,a≤q.1:=fun q y=>by
    have:=x8.mem_iff.1<|QB.2 ⟨q,y,rfl⟩;rcases QE.1 this with h|h
    ·omega
    have:=x0 _ h;omega
   have x7:∀q∈zs,q.2≤M:=fun q y=>h5 q (hz.mem_iff.2<|by simp[y])
   have y5:la≤M:=h5 (a,la) (hz.mem_iff.2<|by simp);have p6:=Ke hz;have p4:=IF hz;have h8:=Kr M hz;rw[Gf]at h8;simp only at h8;obtain⟨z1,q1,q2,q3,q4,q5⟩:∃z1,(z1.map Prod.fst).Perm (zs.map Prod.fst)∧kx ((a,M)::z1)=kx ((a,la)::zs)∧cx ((a,M)::z1)≤cx ((a,la)::zs)∧(∀p∈z1,p.2≤M)∧1≤nx M z1:=by
    by_cases hl:la=M
    ·subst hl;rw[Qg rfl]at h8;exact⟨zs,List.Perm.refl _,rfl,Ql _,x7,by omega⟩
    rw[Qf hl]at h8;obtain⟨z1,e1,e2,e3,e4,e5⟩:=jX y5 hl (by omega) p1 x7;exact⟨z1,e1,e2,e3,e4,by omega⟩
   obtain⟨lb,y1,hy,x6⟩:=kM<|q1.trans x8;have p0:∀q∈y1,b≤q.1:=fun q y=>x0 _<|x6.mem_iff.1<|QB.2 ⟨q,y,rfl⟩
   have x5:∀q∈y1,q.2≤M:=fun q y=>q4 q (hy.mem_iff.2<|by simp[y])
   have y6:lb≤M:=q4 (b,lb) (hy.mem_iff.2<|by simp);have p5:=Ke hy;have p3:=IF hy;have h9:=Kr M hy;rw[Gf]at h9;simp only at h9;obtain⟨z2,r1,r2,r3,r4⟩:∃z2,(z2.map Prod.fst).Perm (y1.map Prod.fst)∧kx ((b,M)::z2)=kx ((b,lb)::y1)∧cx ((b,M)::z2)≤cx ((b,lb)::y1)∧(∀p∈z2,p.2≤M):=by
    by_cases hl:lb=M
    ·subst hl;exact⟨y1,List.Perm.refl _,rfl,Ql _,x5⟩
    rw[Qf hl]at h9;obtain⟨z2,e1,e2,e3,e4,e5⟩:=jX y6 hl (by omega) p0 x5;exact⟨z2,e1,e2,e3,e4⟩
   rw[AS]at q2 r2;rw[De]at q3 r3;simp only at q2 q3 r2 r3;obtain⟨o,rfl⟩:∃o,M=o+1:=⟨M-1,by omega⟩;refine⟨(a+b,o)::z2,?_,fun q y=>?_,?_,?_⟩
   ·rw[QR];exact(r1.trans x6).cons _
   ·rcases QE.1 y with rfl|y
    ·simp only;omega
    have:=r4 q y;omega
   ·rw[AS];have e:2^(20-o)=2^(20-(o+1))+2^(20-(o+1)):=(by rw[show 20-o=20-(o+1)+1 by omega,J5];omega);simp only;omega
   rw[De];have e1:a*(o+1)=a*o+a:=GY _ _;have e2:b*(o+1)=b*o+b:=GY _ _;have e3:(a+b)*o=a*o+b*o:=V8 _ _ _;simp only;omega
  ·
   have z7:∀q∈x1,q.2+1≤M:=fun q y=>by
    have h1:=h5 q (h3.mem_iff.2<|by simp[y]);rcases Xq q.2 M with h2|h2
    ·exact h2
    exfalso;refine y9 ?_;unfold nx;exact List.countP_pos_iff.2 ⟨q,y,by simp;omega⟩
   obtain⟨q,y⟩:=WJ x1 z7 x9;obtain⟨o,rfl⟩:∃o,M=o+1:=⟨M-1,by omega⟩;have e1:2^(21-(o+1))=2^(20-(o+1))+2^(20-(o+1)):=(by rw[show 21-(o+1)=20-(o+1)+1 by omega,J5];omega);have e2:(2:Nat)^20=2^(21-(o+1))*2^o:=by rw[←DZ];congr 1;omega
   have p8:0<2^(20-(o+1)):=CU _;have hlt:q<2^o:=by
    rcases Xq q (2^o)with h|h
    ·exact h
    have:=Sj (2^(21-(o+1))) h;omega
   have y7:=Sj (2^(21-(o+1)))<|show q+1≤2^o from hlt;rw[DY,RY]at y7;have e3:2^(20-o)=2^(21-(o+1)):=(by rw[show 20-o=21-(o+1)by omega]);have z6:=(h3.map Prod.snd).sum_nat;simp only[QR,Z9]at z6;obtain⟨ys,y1,y2,y3,y4⟩:=ih (K-1) (by omega) ((p,o)::x1) a b ws (by simp only[QR,Z9];omega) (fun r hr=>by
    rcases QE.1 hr with rfl|hr
    ·simp only;omega
    ·exact x2 r (h3.mem_iff.2<|by simp[hr])) (by rw[AS];simp only;omega) (by
    have:=(h3.map Prod.fst).symm.trans hp;simpa using this) y0 x0
   refine⟨ys,y1,y2,y3,?_⟩;have hc:=IF h3;rw[De]at hc y4;have e4:p*(o+1)=p*o+p:=GY _ _;simp only at hc y4;omega
end K
namespace K
def QU(w:LN):Nat→LN × LN
 |0=>(w,List.replicate w.length 0)
 |k+1=>Xu (QU w k)
def zA(s):(Xu s).1.length=s.1.length+1:=by simp[Xu]
def Ev(w):∀k,(QU w k).1.length=w.length+k
 |0=>rfl
 |k+1=>by rw[QU,zA,Ev w k];omega
def Au(w W:LN)(F:List Tr)(C:Nat):Prop:=∃a:List (Nat × Nat),(a.map Prod.fst).Perm (F.map fun b=>W.getD b.1 0)∧(∀b∈a,b.2≤20)∧kx a≤2^20∧cx a+Bv w F≤C
def start(n:Nat):List Tr:=(List.range n).map fun a=>(a,[(a,0)])
def KA(n j):(List.replicate n 0).getD j 0=0:=by rw[List.getD,V4];split<;>rfl
def Qgy(w):VC w.length w w (List.replicate w.length 0) (start w.length):=by
 refine⟨by simp,Ql _,fun a a=>?_,fun b c _=>?_,?_,?_⟩
 ·simp only[start,QB,ZL]at a;obtain⟨d,hi,rfl⟩:=a;refine⟨⟨hi,KA _ _⟩,fun a hp=>?_,?_,fun a _=>?_,by simp⟩
  ·simp at hp;subst hp;exact .here d
  ·simp[Vz]
  simp[AR]
 ·exact⟨(b,[(b,0)]),by simp[start];exact c,rfl⟩
 ·simp only[start,XI,EV];simp[CO]
 simp only[start,List.flatMap_map,List.map_flatMap];simp
def Qgz(w)(hw:∀x∈w,1≤x):Bk w (start w.length):=by
 intro a a;simp only[start,QB,ZL]at a;obtain⟨b,hi,rfl⟩:=a;refine⟨0,0,⟨fun a hp=>by simp at hp;subst hp;exact Ql _,?_,fun a=>by omega⟩,fun a _ _=>ZF _⟩;have:w.getD b 0=w[b]:=by rw[List.getD,Qj hi];rfl
 simp only[this];exact hw _<|XV hi
def Qgx(w n):Bv w (start n)=0:=by
 have:∀a:LN,((a.map fun b=>((b,[(b,0)]):Tr)).map fun b=>Aa w b.2).sum=0:=by
  intro a
  induction a with
  |nil=>rfl
  |cons x a ih=>simp only[QR,Z9,ih];simp[Aa]
 exact this _
def Qgw(w l)(a:l.length=w.length)(a:∀x∈l,x≤20)(hk:(l.map fun x=>2^(20-x)).sum≤2^20):Au w w (start w.length) ((w.zip l).map fun p=>p.1*p.2).sum:=by
 refine⟨w.zip l,?_,fun p hp=>a _ (List.of_mem_zip hp).2,?_,?_⟩
 ·rw[List.map_fst_zip<|by omega,start,XI];have:(List.range w.length).map ((fun a:Tr=>w.getD a.1 0)∘fun a=>(a,[(a,0)]))=w:=by
   apply Xo;intro a
   by_cases b:a<w.length
   ·rw[ZD,Xa b,Qj b];simp[List.getD,Qj b]
   rw[QX (by simp;omega),QX<|by omega]
  rw[this]
 ·unfold kx;have:(w.zip l).map (fun p=>2^(20-p.2))=((w.zip l).map Prod.snd).map fun x=>2^(20-x):=by rw[XI];rfl
  rwa[this,List.map_snd_zip<|by omega]
 rw[Qgx];exact Ql _
def Au.perm{w W:LN}{F a:List Tr}{C:Nat}(b:Au w W F C)(hp:F.Perm a):Au w W a C:=by obtain⟨f,a,c,d,e⟩:=b;exact⟨f,a.trans<|hp.map _,c,d,by rwa[←sV hp]⟩
def Au.step{n:Nat}{w W over:LN}{s t:Tr}{R:List Tr}{C:Nat}(b:VC n w W over (s::t::R))(a:Au w W (s::t::R) C)(m:Nat)(f:W.length=m)
 (h:∀u∈R,W.getD t.1 0≤W.getD u.1 0)(g:W.getD s.1 0≤W.getD t.1 0):Au w (W++[W.getD s.1 0+W.getD t.1 0]) (join m s t::R) C:=by
 obtain⟨i,c,d,e,j⟩:=a;have hlt:∀u∈R,u.1<W.length:=fun u a=>(b.ok u<|by simp[a]).root.1
 simp only[QR]at c;obtain⟨o,j,k,l,p⟩:=exch _ i _ _ _ (Ql _) d e c g (fun c c=>by obtain⟨u,a,rfl⟩:=QB.1 c;exact h u a);refine⟨o,?_,k,l,?_⟩
 ·rw[QR];have c:(W++[W.getD s.1 0+W.getD t.1 0]).getD (join m s t).1 0=W.getD s.1 0+W.getD t.1 0:=by show(W++[W.getD s.1 0+W.getD t.1 0]).getD m 0=_;rw[←f,Et]
  have d:R.map (fun u=>(W++[W.getD s.1 0+W.getD t.1 0]).getD u.1 0)=R.map fun u=>W.getD u.1 0:=Yx fun u a=>Eu _ _ _<|hlt u a
  rwa[c,d]
 rw[sW (b.ok s<|by simp)<|b.ok t<|by simp];omega
def Nj(w)(hw:∀x∈w,1≤x)(h0:1≤w.length):∀k,k+1≤w.length→∃F,VC w.length w (QU w k).1 (QU w k).2 F∧Bk (QU w k).1 F∧F.length+k=w.length∧
 ∀C,Au w w (start w.length) C→Au w (QU w k).1 F C
 |0,_=>⟨start w.length,Qgy w,Qgz w hw,by simp[start],fun C a=>a⟩
 |k+1,hk=>by
  obtain⟨F,a,e,b,f⟩:=Nj w hw h0 k (by omega);have:=Ev w k;obtain⟨j,l,d,hp,-,-,hs,c,i,b⟩:=bK a (by omega) (by omega);have h:=hp.length_eq;have g1:=(a.perm hp).step _ rfl (by omega);have g:=Bk.step (a.perm hp) (e.perm hp) _ rfl hs c;refine⟨join (QU w k).1.length j l::d,?_,?_,?_,fun C d=>?_⟩
  ·rwa[QU,show QU w k=((QU w k).1,(QU w k).2)from rfl,b]
  ·rwa[QU,show QU w k=((QU w k).1,(QU w k).2)from rfl,b]
  ·simp only[Q0]at h ⊢;omega
  rw[QU,show QU w k=((QU w k).1,(QU w k).2)from rfl,b];exact Au.step (a.perm hp) ((f C d).perm hp) _ rfl c i
structure PO(w ls over:LN):Prop where
 len:ls.length=w.length
 up:∀i,i<w.length→∃r,Up over i (ls.getD i 0) r∧over.getD r 0=0
 kraft:∀L,(∀x∈ls,x≤L)→(ls.map fun x=>2^(L-x)).sum=2^L
 low:∃h,(∀x∈ls,x≤h)∧YA (h+2)≤w.sum
 best:∀l:LN,l.length=w.length→(∀x∈l,x≤20)→(l.map fun x=>2^(20-x)).sum≤2^20→((w.zip ls).map fun p=>p.1*p.2).sum≤((w.zip l).map fun p=>p.1*p.2).sum
def Qej(w ls:LN)(a:ls.length=w.length):((List.range w.length).map fun i=>w.getD i 0*ls.getD i 0)=(w.zip ls).map fun p=>p.1*p.2:=by
 apply Xo;intro i
 by_cases hi:i<w.length
 ·rw[ZD,Xa hi,ZD,Qj (by simp;omega)];simp[List.getD,Qj hi,Qj (by omega:i<ls.length)]
 rw[QX (by simp;omega),QX (by simp;omega)]
def Oq(ls):(List.range ls.length).map (fun i=>ls.getD i 0)=ls:=by
 apply Xo;intro i
 by_cases hi:i<ls.length
 ·rw[ZD,Xa hi];simp[List.getD,Qj hi]
 rw[QX (by simp;omega),QX<|by omega]
def Ni(w)(hw:∀x∈w,1≤x)(h0:1≤w.length):∃ls,PO w ls (QU w<|w.length-1).2:=by
 obtain⟨F,f1,f2,f3,f4⟩:=Nj w hw h0 (w.length-1) (by omega);have x3:F.length=1:=by omega
 obtain⟨t,rfl⟩:∃t,F=[t]:=by
  match F,x3 with
  | [t],_=>exact⟨t,rfl⟩
 generalize QU w (w.length-1)=s at*
 obtain⟨W,over⟩:=s;simp only at f1 f2 f4 ⊢;have o:=f1.ok t (by simp);have h5:(t.2.map Prod.fst).Perm (List.range w.length):=by have:=f1.leaves;simpa using this
 obtain⟨ls,x1⟩:∃ls:LN,ls=(List.range w.length).map fun i=>((t.2.find? fun p=>p.1==i).map Prod.snd).getD 0:=⟨_,rfl⟩
 have x0:ls.length=w.length:=by rw[x1];simp
 have h8:∀i,i<w.length→∃d,(i,d)∈t.2∧ls.getD i 0=d:=by
  intro i hi;have hm:i∈t.2.map Prod.fst:=h5.mem_iff.2<|ZL.2 hi;obtain⟨p,hp,rfl⟩:=QB.1 hm;cases hf:t.2.find? fun q=>q.1==p.1 with
  |none=>have:=GN.1 hf p hp;simp at this
  |some q=>have hq:=PY hf;have x5:q.1=p.1:=(by simpa using List.find?_some hf);refine⟨q.2,by rwa[←x5],?_⟩;rw[x1,List.getD,ZD,Xa hi];simp[hf]
 have x2:∀p∈t.2,p.2=ls.getD p.1 0:=by intro p hp;have hi:p.1<w.length:=ZL.1<|h5.mem_iff.1<|QB.2 ⟨p,hp,rfl⟩;obtain⟨d,hd,y⟩:=h8 p.1 hi;rw[y];exact((o.up p hp).one o.root.2 (show Up over p.1 d t.1 from o.up (p.1,d) hd) o.root.2).1
 have x4:t.2.Perm ((List.range w.length).map fun i=>(i,ls.getD i 0)):=by
  have e:t.2=(t.2.map Prod.fst).map fun i=>(i,ls.getD i 0):=by
   rw[XI]
   conv=>lhs;rw[←DM t.2]
   exact Yx fun p hp=>by simp only[id,Function.comp];rw[←x2 p hp]
  rw[e];exact h5.map _
 have h9:∀(g:Nat × Nat→Nat),(t.2.map g).sum=((List.range w.length).map fun i=>g (i,ls.getD i 0)).sum:=by intro g;have:=(x4.map g).sum_nat;rw[XI]at this;exact this
 refine⟨ls,x0,fun i hi=>?_,fun L hL=>?_,?_,fun l h1 h2 h3=>?_⟩
 ·obtain⟨d,hd,y⟩:=h8 i hi;exact⟨t.1,by rw[y];exact o.up _ hd,o.root.2⟩
 ·have hk:=o.kraft L (fun p hp=>by have hi:p.1<w.length:=ZL.1<|h5.mem_iff.1<|QB.2 ⟨p,hp,rfl⟩;rw[x2 p hp,List.getD,Qj<|by omega];exact hL _<|XV _);unfold AR at hk;rw[h9]at hk;have e:=Oq ls;rw[x0]at e;rw[←hk]
  conv=>lhs;rw[←e]
  rw[XI];rfl
 ·obtain⟨h,g,a,-⟩:=f2 t (by simp);refine⟨h,fun x hx=>?_,?_⟩
  ·obtain⟨i,hi,rfl⟩:=PX.1 hx;obtain⟨d,hd,y⟩:=h8 i (by omega);have:=a.1 _ hd;rw[List.getD,Qj hi]at y;simp only[VI]at y;rw[y];exact this
  have h4:=a.2.1;rw[o.weight]at h4;unfold Vz at h4;rw[h9]at h4;simp only at h4;rwa[Oq]at h4
 obtain⟨xs,-,-,-,hc⟩:=f4 _<|Qgw w l h1 h2 h3;have:Bv w [t]=((w.zip ls).map fun p=>p.1*p.2).sum:=by simp only[Bv,QR,YG,Z9,List.sum_nil,Jb];unfold Aa;rw[h9,←Qej w ls x0]
 omega
end K
namespace K
def wV{w W over F}(b:VC w.length w W over F):Vz w (F.flatMap Prod.snd)=w.sum:=by
 have a:Vz w (F.flatMap Prod.snd)=(((F.flatMap Prod.snd).map Prod.fst).map fun c=>w.getD c 0).sum:=by simp[Vz,EV]
 rw[a,(b.leaves.map _).sum_nat,Oq]
def Kc(w):∀k,(QU w k).2.length=w.length+k
 |0=>by simp[QU]
 |k+1=>by have:=Kc w k;rw[QU];simp only[Xu,Qo,Jo,Q0,Yg];omega
def bI(w)(hw:∀x∈w,1≤x)(k)(hk:k+2≤w.length):∃a b,a<w.length+k∧b<w.length+k∧
 UM (QU w k).1 (QU w k).2 (w.length+k)=some a∧UM (QU w k).1 ((QU w k).2.set a (w.length+k)) (w.length+k)=some b∧
 QU w (k+1)=((QU w k).1++[(QU w k).1.getD a 0+(QU w k).1.getD b 0],((QU w k).2.set a (w.length+k)).set b (w.length+k)++[0])∧
 (QU w k).1.getD a 0+(QU w k).1.getD b 0≤w.sum:=by
 obtain⟨c,c,d,d,d⟩:=Nj w hw (by omega) k (by omega);have d:=Ev w k;obtain⟨g,h,e,hp,ha,hb,hs,e,e,f⟩:=bK c (by omega) (by omega);have i:QU w (k+1)=Xu ((QU w k).1,(QU w k).2):=rfl;rw[d]at ha hb f;have j:=wV<|c.perm hp;have d:=(c.perm hp).ok g (by simp);have e:=(c.perm hp).ok h (by simp);refine⟨g.1,h.1,by have:=d.root.1;omega,by have:=e.root.1;omega,ha,hb,by rw[i,f],?_⟩;rw[d.weight,e.weight,←j];simp only[Jn,Pp];omega
end K
namespace K
def roots(W over:LN)(k:Nat):List (Nat × Nat):=((List.range k).filter fun a=>over.getD a 0==0).map fun a=>(W.getD a 0,a)
def OF{W over k t}:t∈roots W over k↔t.2<k∧over.getD t.2 0=0∧t.1=W.getD t.2 0:=by
 unfold roots;rw[QB];constructor
 ·rintro⟨a,hi,rfl⟩;rw[DO,ZL]at hi;exact⟨hi.1,by simpa using hi.2,rfl⟩
 rintro⟨a,b,c⟩;exact⟨t.2,by rw[DO,ZL];exact⟨a,by simpa using b⟩,by rw[←c]⟩
def dY{W over k a t}(d:UM W over k=some a)(f:t∈roots W over k)(e:∀u∈roots W over k,¬(u.1<t.1∨(u.1=t.1∧u.2<t.2))):t=(W.getD a 0,a):=by
 rcases FV W over k with⟨b,-⟩|⟨c,b,c⟩
 ·rw[d]at b;cases b
 rw[d]at b;cases b;have b:=OF.1 f;have ha:(W.getD a 0,a)∈roots W over k:=OF.2 ⟨c.1,c.2.1,rfl⟩;have d:=e _ ha;have:=c.2.2 t.2 b.1 b.2.1;have c:=b.2.2;simp only at d;have b:t.2=a:=by omega
 rw[Prod.ext_iff];refine⟨?_,b⟩;rw[c,b]
def cF{W over k a}(c:UM W over k=some a):a<k∧over.getD a 0=0:=by
 rcases FV W over k with⟨b,-⟩|⟨d,b,d⟩
 ·rw[c]at b;cases b
 rw[c]at b;cases b;exact⟨d.1,d.2.1⟩
def kK{W over k a next}(ha:a<k)(h0:over.getD a 0=0)(o:a<over.length)(y:next≠0):
 (roots W over k).Perm ((W.getD a 0,a)::roots W (over.set a next) k):=by
 have h1:((List.range k).filter fun i=>over.getD i 0==0).Nodup:=CO.filter _;have q:a∈(List.range k).filter fun i=>over.getD i 0==0:=by rw[DO,ZL];exact⟨ha,by simpa using h0⟩
 have hp:=GR q;have e:((List.range k).filter fun i=>over.getD i 0==0).erase a=(List.range k).filter fun i=>(over.set a next).getD i 0==0:=by
  rw[h1.erase_eq_filter,List.filter_filter];apply List.filter_congr;intro i hi;rw[Ah]
  by_cases h:i=a
  ·subst h;simp[o,y]
  simp[h]
 rw[e]at hp;exact hp.map _
def Qfc{W over k x}(c:W.length=k)(d:over.length=k):roots (W++[x]) (over++[0]) (k+1)=roots W over k++[(x,k)]:=by
 unfold roots;rw[JJ,Aw,Xi]
 congr 1
 ·have b:((List.range k).filter fun a=>(over++[0]).getD a 0==0)=(List.range k).filter fun a=>over.getD a 0==0:=List.filter_congr fun a hi=>by rw[IT]
  rw[b];apply Yx;intro a hi;rw[DO,ZL]at hi;rw[Eu _ _ _<|by omega]
 have a:(over++[0]).getD k 0=0:=by rw[←d];exact Et _ _
 simp only[Fb,List.filter_nil,a];simp only[beq_self_eq_true,Co,QR,YG];rw[show(W++[x]).getD k 0=x by rw[←c];exact Et _ _]
def Qfd(w):roots w (List.replicate w.length 0) w.length=(List.range w.length).map fun i=>(w.getD i 0,i):=by unfold roots;rw[List.filter_eq_self.2];intro i _;rw[KA];rfl
def YV(l:List (Nat × Nat))(i:Nat):List (Nat × Nat):=(l.set i (l.getD (l.length-1) (0,0))).dropLast
def Ob(l:List (Nat × Nat))(i t)(h:l[i]?=some t):l.Perm (t::YV l i):=by
 obtain⟨A,z,rfl⟩:∃A z,l=A++[z]:=by
  have:l≠[]:=by rintro rfl;simp at h
  exact⟨l.dropLast,l.getLast this,(GK this).symm⟩
 have hz:(A++[z]).getD ((A++[z]).length-1) (0,0)=z:=by simp[List.getD]
 unfold YV;rw[hz]
 by_cases hi:i<A.length
 ·rw[Lz _ _ hi,List.dropLast_concat];rw[Xp hi]at h;have e:=Qz.1 h;obtain⟨o,hv⟩:=e;have q:A=A.take i++t::A.drop (i+1):=by rw[←hv,←Z8 o,V6]
  have y:A.set i z=A.take i++z::A.drop (i+1):=by rw[List.set_eq_take_append_cons_drop,Qg o]
  rw[y]
  conv=>lhs;rw[q]
  have p1:(A.take i++t::A.drop (i+1)).Perm (t::(A.take i++A.drop (i+1))):=List.perm_middle;have p2:(A.take i++z::A.drop (i+1)).Perm (z::(A.take i++A.drop (i+1))):=List.perm_middle;refine(p1.append_right [z]).trans ?_;rw[Yf];exact List.Perm.cons _<|(List.perm_append_singleton _ _).trans p2.symm
 have o:=(Qz.1 h).1;have:i=A.length:=by simp at o;omega
 subst this;have ht:t=z:=by simpa using h.symm
 subst ht;have:(A++[t]).set A.length t=A++[t]:=by
  apply Xo;intro j;rw[YO]
  split
  ·rename_i hj;subst hj;simp
  rfl
 rw[this,List.dropLast_concat];exact List.perm_append_singleton _ _
def Oa(l i):(YV l i).length=l.length-1:=by simp[YV]
def bJ(w)(h0:1≤w.length):∀k,∀x∈(QU w k).2,x<w.length+k
 |0=>by intro x a;simp only[QU]at a;have:=Bl a;omega
 |k+1=>by
  intro x a;have b:=bJ w h0 k;have:=Ev w k;rw[QU]at a;simp only[Xu,Q6,Za]at a;rcases a with a|rfl
  ·rcases DP a with a|a
   ·rcases DP a with a|a
    ·have:=b x a;omega
    omega
   omega
  omega
def xQ{l:LN}{m}(a:∀x∈l,x<m)(b:0<m)(j):l.getD j 0<m:=by
 rw[List.getD];cases e:l[j]? with
 |none=>exact b
 |some x=>exact a x<|QA e
def Up.root{over i d r}(u:Up over i d r)(a:over.getD r 0=0)(hi:over.getD i 0=0):d=0:=(u.one a (.here i) hi).1
def Up.next{over i d r}(u:Up over i d r)(a:over.getD r 0=0)(hi:over.getD i 0≠0):∃e,d=e+1∧Up over (over.getD i 0) e r:=by
 cases u with
 |here _=>exact absurd a hi
 |step h h0 u=>subst h;exact⟨_,rfl,u⟩
def Am(ls:LN)(n i e:Nat):LN:=ls.take i++e::List.replicate (n-i-1) 0
def Qc2(ls n i)(a:i<n):ls.take i++List.replicate (n-i) 0=Am ls n i 0:=by unfold Am;rw[show n-i=(n-i-1)+1 by omega,Y8];simp
def Qc0(ls n i e)(a:i<n)(a:ls.length=n):(Am ls n i e)[i]?=some e:=by
 unfold Am;have a:(ls.take i).length=i:=by simp;omega
 rw[Zx<|by omega,a,ZO];rfl
def Qc1(ls n i e x)(a:i<n)(a:ls.length=n):(Am ls n i e).set i x=Am ls n i x:=by
 unfold Am;have a:(ls.take i).length=i:=by simp;omega
 rw[VF _ _<|by omega,a,ZO];rfl
def Qcz(ls n i)(a:i<n)(a:ls.length=n):Am ls n i (ls.getD i 0)=ls.take (i+1)++List.replicate (n-(i+1)) 0:=by
 unfold Am;have:ls.getD i 0=ls[i]:=by rw[List.getD,Qj<|by omega];rfl
 rw[this,Ay<|by omega,QQ];rfl
def Qib{W over m a b d i2 c e t2}(hp:c.Perm (roots W over m))(f:over.length=m)(g:m≠0)(ha:UM W over m=some a)(hb:UM W (over.set a m) m=some b)(j:c[d]?=some e)(o:∀u∈c,¬(u.1<e.1∨(u.1=e.1∧u.2<e.2)))(k:(YV c d)[i2]?=some t2)(p:∀u∈YV c d,¬(u.1<t2.1∨(u.1=t2.1∧u.2<t2.2))):
 e=(W.getD a 0,a)∧t2=(W.getD b 0,b)∧a≠b∧(YV (YV c d) i2).Perm (roots W ((over.set a m).set b m) m):=by
 obtain⟨l,a2⟩:=cF ha;obtain⟨n,f⟩:=cF hb;have i:=dY ha (hp.mem_iff.1<|QA j) fun u h=>o u<|hp.mem_iff.2 h
 have o:=kK (W:=W) l a2 (by omega) g;have l:=Ob c d e j;rw[i]at l;have e:(YV c d).Perm (roots W (over.set a m) m):=(l.symm.trans<|hp.trans o).cons_inv;have j:=dY hb (e.mem_iff.1<|QA k) fun u h=>p u<|e.mem_iff.2 h
 have h:=kK (W:=W) n f (by rw[Jo];omega) g;have q2:=Ob (YV c d) i2 t2 k;rw[j]at q2;refine⟨i,j,fun c=>?_,(q2.symm.trans<|e.trans h).cons_inv⟩;subst c;rw[Ah,Qg ⟨rfl,by omega⟩]at f;exact g f
def Qak{w:LN}{x}(a:x∈w):x≤w.sum:=by
 induction w with
 |nil=>cases a
 |cons y w ih=>
  rw[Z9];rcases QE.1 a with a|a
  ·omega
  have:=ih a;omega
def bH(w)(hw:∀x∈w,1≤x):∀k,k+1≤w.length→∀x∈(QU w k).1,x≤w.sum
 |0,_,x,hx=>Qak hx
 |k+1,hk,x,hx=>by
  obtain⟨a,a,-,-,-,-,a,hs⟩:=bI w hw k (by omega);rw[a]at hx;rcases Q6.1 hx with a|a
  ·exact bH w hw k (by omega) x a
  rw[Za]at a;omega
end K
namespace K
def Cd(w ls:LN):Prop:=PO w ls (QU w (w.length-1)).2
def kO{w a b}(d:Cd w a)(e:Cd w b):a=b:=by
 have:=d.len;have:=e.len;apply Xo;intro c
 by_cases hi:c<w.length
 ·obtain⟨f,g,f⟩:=d.up c hi;obtain⟨d,h,d⟩:=e.up c hi;have c:=(g.one f h d).1;rw[List.getD,Qj<|by omega,List.getD,Qj<|by omega]at c;rw[Qj<|by omega,Qj<|by omega];simpa using c
 rw[QX<|by omega,QX<|by omega]
def Ua(w:LN):LN:=w.map fun a=>a/2+1
def DS(a:Nat):Nat→LN→LN→Prop
 |0,w,ls=>Cd w ls∧∀b∈ls,b≤a
 |n+1,w,ls=>∃c,Cd w c∧(∃b∈c,a<b)∧DS a n (Ua w) ls
def IX(w):(Ua w).length=w.length:=by simp[Ua]
def yN(w:LN)(i x)(a:w[i]?=some x):(Ua (w.take i)++w.drop i).set i (x/2+1)=Ua (w.take<|i+1)++w.drop (i+1):=by
 obtain⟨hi,b⟩:=Qz.1 a;have a:(Ua<|w.take i).length=i:=by simp[Ua];omega
 rw[VF _ _<|by omega,a,ZO,Z8 hi,UY,Ay hi,b];simp[Ua]
def yL(w:LN)(i x)(a:w[i]?=some x):(Ua (w.take i)++w.drop i)[i]?=some x:=by
 obtain⟨hi,b⟩:=Qz.1 a;have b:(Ua<|w.take i).length=i:=by simp[Ua];omega
 rw[Zx<|by omega,b,ZO,J4];simpa using a
def yM{w}(a:∀x∈w,x≤1073741824):∀x∈Ua w,x≤1073741824:=by intro x b;obtain⟨d,c,rfl⟩:=QB.1 b;have:=a d c;omega
def bD(w):∀x∈Ua w,1≤x:=by intro x a;obtain⟨b,-,rfl⟩:=QB.1 a;omega
def WW:∀k,YA k≤YA (k+1)
 |0=>by decide
 |1=>by decide
 |k+2=>by show YA (k+2)≤YA (k+2)+YA (k+1);omega
def WV{a b}(c:a≤b):YA a≤YA b:=by
 induction b with
 |zero=>have:a=0:=by omega
        subst this;exact Ql _
 |succ b ih=>
  rcases Xq b a with c|c
  ·have:a=b+1:=(by omega);subst this;exact Ql _
  exact QS (ih c)<|WW b
def WY:∀k,2^k≤YA (2*k+1)
 |0=>by decide
 |k+1=>by have:=WY k;have:YA (2*k+1)≤YA (2*k+2):=WW<|2*k+1;show 2^(k+1)≤YA (2*k+2)+YA (2*k+1);rw[J5];omega
def Qf8{w ls}(a:Cd w ls)(hs:w.sum≤1000000000000)(i):ls.getD i 0≤78:=by
 obtain⟨b,c,d⟩:=a.low;rw[List.getD];cases a:ls[i]? with
 |none=>simp
 |some x=>
  have:=c x<|QA a;simp only[VI];rcases Xq b 79 with c|c
  ·omega
  have:=WV (by omega:2*40+1≤b+2);have:=WY 40;have a:(2:Nat)^40=1099511627776:=by decide
  omega
def Qa0{w ls}(b:Cd w ls)(hs:w.sum<610):∀x∈ls,x≤12:=by
 obtain⟨a,c,d⟩:=b.low;intro x b;have:=c x b;rcases Xq a 13 with b|b
 ·omega
 have:=WV (by omega:15≤a+2);have:YA 15=610:=by decide
 omega
def jT(w:LN)(b)(a:∀x∈w,x≤b):w.sum≤w.length*b:=by
 induction w with
 |nil=>simp
 |cons x w ih=>
  have:=a x (by simp);have:=ih fun d c=>a d (by simp[c])
  rw[Z9,Q0,V8];omega
def dB(c)(f:12≤c):∀(j:Nat)(w:LN),(∀x∈w,1≤x)→1≤w.length→w.length≤258→(∀x∈w,x≤2^j+1)→∃n ls,n≤j∧DS c n w ls
 |0,w,h1,h2,h3,h4=>by obtain⟨ls,b⟩:=Ni w h1 h2;refine⟨0,ls,Ql _,b,fun x a=>?_⟩;have:=jT w 2 (fun x a=>by have:=h4 x a;omega);have:=Qa0 b (by omega) x a;omega
 |j+1,w,h1,h2,h3,h4=>by
  obtain⟨ls,b⟩:=Ni w h1 h2
  by_cases d:∀x∈ls,x≤c
  ·exact⟨0,ls,by omega,b,d⟩
  obtain⟨n,g,e,e⟩:=dB c f j (Ua w) (bD w) (by rwa[IX]) (by rwa[IX]) (by intro x a;obtain⟨f,c,rfl⟩:=QB.1 a;have:=h4 f c;rw[J5]at this;omega);refine⟨n+1,g,by omega,ls,b,?_,e⟩;simp only[Classical.not_forall]at d;obtain⟨x,a,hlt⟩:=d;exact⟨x,a,by omega⟩
def dA{a}:∀{n:Nat}{w ls:LN},DS a n w ls→ls.length=w.length∧(∀x∈ls,x≤a)∧∀L,a≤L→(ls.map fun x=>2^(L-x)).sum=2^L
 |0,w,ls,h=>⟨h.1.len,h.2,fun L a=>h.1.kraft L fun x b=>QS (h.2 x b) a⟩
 |n+1,w,ls,h=>by obtain⟨a,-,-,d⟩:=h;obtain⟨a,b,c⟩:=dA d;exact⟨by rw[a,IX],b,c⟩
def dE{ls:LN}(a:2≤ls.length)(b:(ls.map fun x=>2^(20-x)).sum=2^20):∀x∈ls,1≤x:=by
 intro x a;rcases V9 x with h0|h0
 ·subst h0;have hp:=GR a;have a:=hp.length_eq;have hs:=(hp.map fun x=>2^(20-x)).sum_nat;rw[QR,Z9,b]at hs;simp only[Q0]at a;cases he:ls.erase 0 with
  |nil=>rw[he]at a;simp at a;omega
  |cons y r=>rw[he,QR,Z9]at hs;have:0<2^(20-y):=CU _;omega
 exact h0
end K
namespace K
def Uk(a:LN)(i j:Nat):Bool:=decide (a.getD i 0<a.getD j 0∨(a.getD j 0=a.getD i 0∧j<i))
def aH(a:LN)(i m:Nat):Nat:=(List.range m).countP (Uk a i)
def Vq(a:LN)(i:Nat):Nat:=aH a i a.length
def Rc(n p:Nat):Nat:=Nat.log2 n+if 2^(Nat.log2 n+1)-n≤p then 1 else 0
def YJ(a:LN):LN:=(List.range a.length).map fun b=>Rc a.length (Vq a b)
def FM(a):(YJ a).length=a.length:=by simp[YJ]
def Qaw{n k:Nat}(h0:n≠0)(a:2^k≤n)(b:n<2^(k+1)):Nat.log2 n=k:=(Nat.log2_eq_iff h0).2 ⟨a,b⟩
def cR{n:Nat}(h0:n≠0):2^Nat.log2 n≤n∧n<2^(Nat.log2 n+1):=(Nat.log2_eq_iff h0).1 rfl
def aI{c L:LN}(hp:L.Perm (List.range c.length))(hs:L.Pairwise fun a b=>Uk c a b=false)(p i)(d:L[p]?=some i):Vq c i=p:=by
 have e:L.Nodup:=hp.nodup_iff.2 CO;obtain⟨f,g⟩:=Qz.1 d;have d:L=L.take p++i::L.drop (p+1):=by rw[←g,←Z8 f,V6]
 unfold Vq aH;rw[←hp.countP_eq,d,List.countP_append,Ln];rw[d]at hs e;rw[DR]at hs;obtain⟨-,f,g⟩:=hs;rw[BX]at e;have j:Uk c i i=false:=by unfold Uk;simp
 have h:(L.take p).countP (Uk c i)=(L.take p).length:=by rw[PQ];intro a ha;have d:=g a ha i (by simp);have:a≠i:=e.2.2 a ha i (by simp);unfold Uk at d ⊢;rw[Bz]at d;rw[Zv];omega
 have e:(L.drop<|p+1).countP (Uk c i)=0:=by rw[List.countP_eq_zero];intro b hb;have d:=(Vm.1 f).1 b hb;rw[d];simp
 rw[h,e,j];simp;omega
def aJ(a):((List.range a.length).map<|Vq a).Perm (List.range a.length):=by
 let le:Nat→Nat→Bool:=fun b c=>!Uk a b c
 have hp:((List.range a.length).mergeSort le).Perm (List.range a.length):=Lv _ _;have hs:=Lw (le:=le) (by
  intro b c d d e;simp only[le,Uk,Bool.not_eq_true',Bz]at d e ⊢;omega) (by
  intro b c;simp only[le,Uk,ET,Bool.not_eq_true',Bz];omega) (List.range a.length)
 have d:((List.range a.length).mergeSort le).Pairwise fun b c=>Uk a b c=false:=by simpa[le]using hs
 generalize (List.range a.length).mergeSort le=L at hp d;have e:L.map (Vq a)=List.range a.length:=by
  apply Xo;intro c;have b:=hp.length_eq;rw[Vl]at b
  by_cases b:c<L.length
  ·rw[ZD,Qj b,Xa<|by omega];simp only[AC,Option.some.injEq];exact aI hp d c _<|Qj b
  rw[QX (by simp;omega),QX (by simp;omega)]
 exact((hp.symm.map<|Vq a).trans<|by rw[e])
def jU(g a b m):∀n,(∀p,p<m→g p=a)→(∀p,m≤p→g p=b)→((List.range n).map g).sum=(min m n)*a+(n-m)*b
 |0,_,_=>by simp
 |n+1,h1,h2=>by
  rw[JJ,Xi,List.sum_append_nat,jU g a b m n h1 h2];simp only[QR,YG,Z9,List.sum_nil,Jb];rcases Xq n m with c|c
  ·rw[h1 n c,show min m (n+1)=min m n+1 by omega,show n+1-m=0 by omega,show n-m=0 by omega,V8];omega
  rw[h2 n c,show min m (n+1)=min m n by omega,show n+1-m=(n-m)+1 by omega,V8];omega
def wS(a)(b:2≤a.length)(b:a.length≤258):((YJ a).map fun x=>2^(20-x)).sum=2^20:=by
 have:=cR (n:=a.length) (by omega);have:Nat.log2 a.length≤8:=by
  rcases Xq (Nat.log2 a.length) 9 with b|b
  ·omega
  have:=Jc (n:=2) (by omega) b;omega
 unfold YJ;rw[XI];have c:(List.range a.length).map ((fun x=>2^(20-x))∘fun b=>Rc a.length<|Vq a b)=((List.range a.length).map<|Vq a).map fun b=>2^(20-Rc a.length b):=by rw[XI];rfl
 rw[c,((aJ a).map _).sum_nat,jU (fun b=>2^(20-Rc a.length b)) (2^(20-Nat.log2 a.length)) (2^(19-Nat.log2 a.length))<|2^(Nat.log2 a.length+1)-a.length]
 ·generalize Nat.log2 a.length=k at*
  have c:2^(20-k)=2*2^(19-k):=by rw[show 20-k=(19-k)+1 by omega,J5];omega
  have d:2^(k+1)*2^(19-k)=2^20:=by rw[←DZ,show k+1+(19-k)=20 by omega]
  have:2^(k+1)=2*2^k:=by rw[J5];omega
  rw[c,←d];generalize 2^(19-k)=q at*
  generalize 2^(k+1)=r at*
  rw[show min (r-a.length) a.length=r-a.length by omega,show(r-a.length)*(2*q)=(2*(r-a.length))*q by rw[RX 2<|r-a.length,GX],←V8]
  congr 1
  omega
 ·intro b hp;unfold Rc;rw[Qf<|by omega];rfl
 intro b hp;unfold Rc;rw[Qg hp]
 congr 1
 omega
def wO{a x}(b:x∈YJ a):Nat.log2 a.length≤x∧x≤Nat.log2 a.length+1:=by
 unfold YJ at b;obtain⟨a,-,rfl⟩:=QB.1 b;unfold Rc
 split<;>omega
end K
