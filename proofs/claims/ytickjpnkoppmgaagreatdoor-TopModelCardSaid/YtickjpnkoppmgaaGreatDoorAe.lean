import Derived.Test.YtickjpnkoppmgaaGreatDoorAa
set_option linter.all false
namespace Go.Proofs.YtickjpnkoppmgaaGreatDoor
open Go.Proofs.Tryz Go.RowKit K
namespace K
def Vd(W over:LN):Nat->Option Nat
 |0=>none
 |k+1=>match Vd W over k with
  |none=>if over.getD k 0=0 then some k else none
  |some a=>if over.getD k 0=0/\W.getD k 0<W.getD a 0 then some k else some a
def If(W over:LN)(k a:Nat):Prop:=a<k/\over.getD a 0=0/\∀c,c<k->over.getD c 0=0->W.getD a 0<W.getD c 0\/(W.getD a 0=W.getD c 0/\a<=c)
def If.one{W over:LN}{k a b:Nat}(h:If W over k a)(c:If W over k b):a=b:=by have:=h.2.2 b c.1 c.2.1;have:=c.2.2 a h.1 h.2.1;omega
def GM(W over):∀k,(Vd W over k=none/\∀j,j<k->over.getD j 0≠0)\/∃a,Vd W over k=some a/\If W over k a
 |0=>.inl ⟨rfl,fun j h=>ox⟩
 |k+1=>by
  rcases GM W over k with⟨g,d⟩|⟨a,g,d⟩
  ·by_cases hk:over.getD k 0=0
   ·refine .inr ⟨k,by rw[Vd,g];simp only[Qg hk],ox,hk,fun j h e=>?_⟩;rcases Xw j k with c|c
    ·exact absurd e<|d j c
    have:j=k:=ox;subst this;exact .inr ⟨rfl,Qk _⟩
   refine .inl ⟨by rw[Vd,g];simp only[Qf hk],fun j h=>?_⟩;rcases Xw j k with c|c
   ·exact d j c
   have:j=k:=ox;subst this;exact hk
  by_cases hk:over.getD k 0=0/\W.getD k 0<W.getD a 0
  ·refine .inr ⟨k,by rw[Vd,g];simp only[Qg hk],ox,hk.1,fun j h e=>?_⟩;rcases Xw j k with c|c
   ·have:=d.2.2 j c e;omega
   have:j=k:=ox;subst this;exact .inr ⟨rfl,Qk _⟩
  refine .inr ⟨a,by rw[Vd,g];simp only[Qf hk],yx d.1,d.2.1,fun j h e=>?_⟩;rcases Xw j k with c|c
  ·exact d.2.2 j c e
  have:j=k:=ox
  subst this;have:=d.1;have:¬W.getD j 0<W.getD a 0:=fun c=>hk ⟨e,c⟩
  omega
inductive Up (over:LN):Nat->Nat->Nat->Prop
 |here (i:Nat):Up over i 0 i
 |step {i j d r:Nat} (h:over.getD i 0=j) (h0:j≠0) (u:Up over j d r):Up over i (d+1) r
def Up.snoc{over i d r j}(u:Up over i d r)(h:over.getD r 0=j)(h0:j≠0):Up over i (d+1) j:=by
 induction u with
 |here i=>exact .step h h0<|.here j
 |step h1 h2 u ih=>exact .step h1 h2<|ih h
def Up.congr{over c i d r}(u:Up over i d r)(h:∀j,over.getD j 0≠0->c.getD j 0=over.getD j 0):Up c i d r:=by
 induction u with
 |here i=>exact .here i
 |step h1 h2 u ih=>exact .step ((h _<|by rwa[h1]).trans h1) h2 ih
def Up.one{over i d r e c}(u:Up over i d r)(g:over.getD r 0=0)(v:Up over i e c)(h:over.getD c 0=0):d=e/\r=c:=by
 induction u generalizing e with
 |here i=>
  cases v with
  |here=>exact⟨rfl,rfl⟩
  |step h1 h2 _=>exact absurd (h1.symm.trans g) h2
 |step h1 h2 u ih=>
  cases v with
  |here=>exact absurd (h1.symm.trans h) h2
  |step h3 h4 v=>have c:=h1.symm.trans h3;subst c;obtain⟨c,h⟩:=ih g v;exact⟨by rw[c],h⟩
def AL(l:LN)(a x j):(l.set a x).getD j 0=if j=a/\a<l.length then x else l.getD j 0:=by
 rw[List.getD,List.getD,Je]
 by_cases c:a=j
 ·subst c
  by_cases d:a<l
  ·simp[d]
  rw[Qg rfl,Qf d,Qf ox,QU ox]
 rw[Qf c,Qf ox]
def KN(l j):(l++[0]).getD j 0=l.getD j 0:=by
 rw[List.getD,List.getD,List.getElem?_append]
 by_cases c:j<l
 ·rw[Qg c]
 rw[Qf c,QU (l:=l) ox]
 match hk:j-l.length with
 |0=>rfl
 |k+1=>rfl
def Fi(l x j)(h:j<l.length):(l++[x]).getD j 0=l.getD j 0:=by rw[List.getD,List.getD,Xc h]
def Fh(l x):(l++[x]).getD l.length 0=x:=by rw[List.getD,Zm<|Qk _,ZM];rfl
abbrev Tr:=Nat × List (Nat × Nat)
def Rk(l:List (Nat × Nat)):List (Nat × Nat):=l.map fun c=>(c.1,c.2+1)
def VX(w:LN)(l:List (Nat × Nat)):Nat:=(l.map fun c=>w.getD c.1 0).sum
def Bv(L:Nat)(l:List (Nat × Nat)):Nat:=(l.map fun c=>2^(L-c.2)).sum
def AD(w:LN)(l:List (Nat × Nat)):Nat:=(l.map fun c=>w.getD c.1 0*c.2).sum
def YY:Nat->Nat
 |0=>0
 |1=>1
 |k+2=>YY (k+1)+YY k
structure Bh(w W over:LN)(t:Tr):Prop where
 root:t.1<W.length/\over.getD t.1 0=0
 up:∀p∈t.2,Up over p.1 p.2 t.1
 weight:W.getD t.1 0=VX w t.2
 kraft:∀L,(∀p∈t.2,p.2<=L)->Bv L t.2=2^L
 ne:t.2≠[]
def High(W:LN)(t:Tr)(h g:Nat):Prop:=(∀c∈t.2,c.2<=h)/\YY (h+2)<=W.getD t.1 0/\(1<=h->YY (h+1)<=g)
structure V0(n:Nat)(w W over:LN)(F:List Tr):Prop where
 len:over.length=W.length
 big:n<=W.length
 ok:∀t∈F,Bh w W over t
 roots:∀r,r<W.length->over.getD r 0=0->∃t∈F,t.1=r
 distinct:(F.map Prod.fst).Nodup
 leaves:((F.flatMap Prod.snd).map Prod.fst).Perm (List.range n)
def Bh.turn{w W over c d}{t:Tr}(h:Bh w W over t)(e:∀j,j<W.length->c.getD j 0=W.getD j 0)(g:W.length<=c.length)(i:∀j,over.getD j 0≠0->d.getD j 0=over.getD j 0)(l:d.getD t.1 0=0):Bh w c d t:=
 ⟨⟨Av h.root.1 g,l⟩,fun c hp=>(h.up c hp).congr i,by rw[e _ h.root.1];exact h.weight,h.kraft,h.ne⟩
def Qk7(w l):VX w (Rk l)=VX w l:=by simp[VX,Rk,FL]
def SE(w a b):VX w (a++b)=VX w a+VX w b:=by simp[VX]
def wB(w a b):AD w (a++b)=AD w a+AD w b:=by simp[AD]
def aN(w):∀l:List (Nat × Nat),AD w (Rk l)=AD w l+VX w l
 | []=>rfl
 |p::l=>by have:=aN w l;simp only[AD,Rk,VX,QV,Xm]at this ⊢;rw[this,Iz];omega
def Qcu(L a b):Bv L (a++b)=Bv L a+Bv L b:=by simp[Bv]
def Qcv(L l):Bv (L+1) (Rk l)=Bv L l:=by
 simp only[Bv,Rk,Xv]
 congr 1
 refine YT fun c _=>?_
 simp only[Function.comp];rw[Nat.add_sub_add_right]
def join(m:Nat)(s t:Tr):Tr:=(m,Rk (s.2++t.2))
def Qct{w W over}{s t:Tr}{m}(hs:Bh w W over s)(j:Bh w W over t)(p:W.length=m)(c:over.length=m)(q:m≠0)(v:s.1≠t.1):
 Bh w (W++[W.getD s.1 0+W.getD t.1 0]) ((over.set s.1 m).set t.1 m++[0]) (join m s t):=by
 have d:=hs.root;have l:=j.root;have i:∀c,((over.set s.1 m).set t.1 m++[0]).getD c 0=if c=t.1 then m else if c=s.1 then m else over.getD c 0:=by
  intro c;rw[KN,AL,AL,JO]
  by_cases e:c=t.1
  ·rw[Qg ⟨e,ox⟩,Qg e]
  rw[Qf fun h=>e h.1,Qf e]
  by_cases g:c=s.1
  ·rw[Qg ⟨g,ox⟩,Qg g]
  rw[Qf fun h=>g h.1,Qf g]
 have o:∀c,over.getD c 0≠0->((over.set s.1 m).set t.1 m++[0]).getD c 0=over.getD c 0:=by intro c c;rw[i,Qf (by rintro rfl;exact c l.2),Qf (by rintro rfl;exact c d.2)]
 refine⟨⟨?_,?_⟩,fun c hp=>?_,?_,fun l n=>?_,?_⟩
 ·show m<_;rw[Qo,p];simp
 ·show((over.set s.1 m).set t.1 m++[0]).getD m 0=0;rw[i,Qf ox,Qf ox,List.getD,QU ox];rfl
 ·simp only[join,Rk,QA,Q4]at hp;obtain⟨u,d,rfl⟩:=hp;rcases d with d|d
  ·refine((hs.up u d).congr o).snoc ?_ q;rw[i,Qf v,Qg rfl];rfl
  refine((j.up u d).congr o).snoc ?_ q;rw[i,Qg rfl];rfl
 ·show(W++[W.getD s.1 0+W.getD t.1 0]).getD m 0=_;rw[<-p,Fh,join,Qk7,SE,hs.weight,j.weight]
 ·have:1<=l:=by
   cases hl:s.2 with
   |nil=>exact absurd hl hs.ne
   |cons c r=>have:=n (c.1,c.2+1) (by simp only[join,Rk,QA,Q4];exact⟨c,.inl (by rw[hl];simp),rfl⟩);simp only at this;omega
  obtain⟨d,rfl⟩:∃d,l=d+1:=⟨l-1,ox⟩;have e:∀c∈s.2,c.2<=d:=fun c hp=>by have:=n (c.1,c.2+1) (by simp only[join,Rk,QA,Q4];exact⟨c,.inl hp,rfl⟩);simp only at this;omega
  have g:∀c∈t.2,c.2<=d:=fun c hp=>by have:=n (c.1,c.2+1) (by simp only[join,Rk,QA,Q4];exact⟨c,.inr hp,rfl⟩);simp only at this;omega
  rw[join,Qcv,Qcu,hs.kraft d e,j.kraft d g,J9];omega
 simp only[join,Rk];intro h;have:s.2++t.2=[]:=by simpa using h
 exact hs.ne (List.append_eq_nil_iff.1 this).1
end K
namespace K
def V0.perm{n w W over F c}(h:V0 n w W over F)(hp:F.Perm c):V0 n w W over c:=
 ⟨h.len,h.big,fun d c=>h.ok d<|hp.mem_iff.2 c,fun r g i=>by obtain⟨d,c,e⟩:=h.roots r g i;exact⟨d,hp.mem_iff.1 c,e⟩,(hp.map _).nodup_iff.1 h.distinct,
  ((hp.flatMap_right _).map _).symm.trans h.leaves⟩
def V0.step{n w W over}{s t:Tr}{R}(h:V0 n w W over (s::t::R))(m)(p:W.length=m)(j:m≠0):
 V0 n w (W++[W.getD s.1 0+W.getD t.1 0]) ((over.set s.1 m).set t.1 m++[0]) (join m s t::R):=by
 have hs:=h.ok s sx;have u:=h.ok t sx;have o:=h.distinct;simp only[QV,RU,QD,QA,Uj,not_exists,not_and]at o;have y:s.1≠t.1:=o.1.1;have x:over=m:=by rw[h.len,p]
 have q:∀d,((over.set s.1 m).set t.1 m++[0]).getD d 0=if d=t.1 then m else if d=s.1 then m else over.getD d 0:=by
  intro d;have:=hs.root;have:=u.root;rw[KN,AL,AL,JO]
  by_cases e:d=t.1
  ·rw[Qg ⟨e,ox⟩,Qg e]
  rw[Qf fun h=>e h.1,Qf e]
  by_cases g:d=s.1
  ·rw[Qg ⟨g,ox⟩,Qg g]
  rw[Qf fun h=>g h.1,Qf g]
 refine⟨?_,?_,fun i c=>?_,fun r v l=>?_,?_,?_⟩
 ·rw[Qo,Qo,JO,JO,h.len];rfl
 ·rw[Qo];have:=h.big;simp;omega
 ·rcases QD.1 c with rfl|c
  ·exact Qct hs u p x j y
  have x:=h.ok i (by simp[c]);refine x.turn (fun d j=>Fi _ _ _ j) (by rw[Qo];omega) (fun d j=>?_) ?_
  ·rw[q,Qf (by rintro rfl;exact j u.root.2),Qf (by rintro rfl;exact j hs.root.2)]
  rw[q,Qf<|o.2.1 i c,Qf<|o.1.2 i c];exact x.root.2
 ·rw[Qo,p]at v;simp only[QW,YE]at v
  by_cases d:r=m
  ·exact⟨join m s t,sx,by rw[d];rfl⟩
  rw[q]at l
  by_cases e:r=t.1
  ·rw[Qg e]at l;omega
  rw[Qf e]at l
  by_cases g:r=s.1
  ·rw[Qg g]at l;omega
  rw[Qf g]at l;obtain⟨i,c,d⟩:=h.roots r ox l;rcases QD.1 c with rfl|c
  ·exact absurd d.symm g
  rcases QD.1 c with rfl|c
  ·exact absurd d.symm e
  exact⟨i,by simp[c],d⟩
 ·rw[QV,RU];refine⟨fun e=>?_,o.2.2⟩;obtain⟨i,c,d⟩:=QA.1 e;have:=(h.ok i<|by simp[c]).root.1;have:i.1=m:=d;omega
 have c:=h.leaves;simp only[Jd,XC]at c ⊢;have j:((join m s t).2.map Prod.fst)=s.2.map Prod.fst++t.2.map Prod.fst:=by simp[join,Rk,FL]
 rwa[j,QR]
def BP(W:LN)(F:List Tr):Prop:=∀d∈F,∃e c,High W d e c/\∀e∈F,e.1≠d.1->c<=W.getD e.1 0
def BP.perm{W:LN}{F c:List Tr}(h:BP W F)(hp:F.Perm c):BP W c:=fun i g=>by obtain⟨a,c,d,e⟩:=h i<|hp.mem_iff.2 g;exact⟨a,c,d,fun d c=>e d<|hp.mem_iff.2 c⟩
def Qb2{W}{s t:Tr}{m ha ga hb gb}(h1:High W s ha ga)(h2:High W t hb gb)(hm:W.length=m)(h3:ga<=W.getD t.1 0)(h4:gb<=W.getD s.1 0):
 High (W++[W.getD s.1 0+W.getD t.1 0]) (join m s t) (max ha hb+1) (max (W.getD s.1 0)<|W.getD t.1 0):=by
 have hl:(W++[W.getD s.1 0+W.getD t.1 0]).getD (join m s t).1 0=W.getD s.1 0+W.getD t.1 0:=by show(W++[W.getD s.1 0+W.getD t.1 0]).getD m 0=_;rw[<-hm,Fh]
 generalize hA:W.getD s.1 0=A at*
 generalize hB:W.getD t.1 0=B at*
 have a2:=h1.2.1;have b2:=h2.2.1;rw[hA]at a2;rw[hB]at b2;have a3:=h1.2.2;have b3:=h2.2.2;refine⟨fun p hp=>?_,?_,fun _=>?_⟩
 ·simp only[join,Rk,QA,Q4]at hp;obtain⟨q,y,rfl⟩:=hp;rcases y with y|y
  ·have:=h1.1 q y;simp only;omega
  have:=h2.1 q y;simp only;omega
 ·rw[hl];rcases Nat.le_total hb ha with o|o
  ·rw[Nat.max_eq_left o];rcases Rx ha with h0|h0
   ·have:hb=0:=ox;subst h0 this;simp only[YY]at a2 b2 ⊢;omega
   have e:YY (ha+1+2)=YY (ha+2)+YY (ha+1):=rfl;have:=a3 h0;omega
  rw[Nat.max_eq_right o];rcases Rx hb with h0|h0
  ·have:ha=0:=ox;subst h0 this;simp only[YY]at a2 b2 ⊢;omega
  have e:YY (hb+1+2)=YY (hb+2)+YY (hb+1):=rfl;have:=b3 h0;omega
 rcases Nat.le_total hb ha with o|o
 ·rw[Nat.max_eq_left o,(ox:ha+1+1=ha+2)];omega
 rw[Nat.max_eq_right o,(ox:hb+1+1=hb+2)];omega
def High.turn{W:LN}{t:Tr}{h g x:Nat}(hh:High W t h g)(c:t.1<W.length):High (W++[x]) t h g:=by refine⟨hh.1,?_,hh.2.2⟩;rw[Fi _ _ _ c];exact hh.2.1
def BP.step{n:Nat}{w W over:LN}{s t:Tr}{R:List Tr}(c:V0 n w W over (s::t::R))(h:BP W (s::t::R))(m:Nat)(e:W.length=m)
 (hs:∀u∈R,W.getD s.1 0<=W.getD u.1 0)(l:∀u∈R,W.getD t.1 0<=W.getD u.1 0):BP (W++[W.getD s.1 0+W.getD t.1 0]) (join m s t::R):=by
 have g:=c.distinct;simp only[QV,RU,QD,QA,Uj,not_exists,not_and]at g;have p:(W++[W.getD s.1 0+W.getD t.1 0]).getD m 0=W.getD s.1 0+W.getD t.1 0:=by rw[<-e,Fh]
 have hlt:∀u∈R,u.1<W.length:=fun u d=>(c.ok u<|by simp[d]).root.1
 intro u d;rcases QD.1 d with rfl|d
 ·obtain⟨ha,c,c,a2⟩:=h s sx;obtain⟨hb,gb,i,j⟩:=h t sx;refine⟨_,_,Qb2 c i e (a2 t sx fun i=>g.1.1 i.symm)<|j s sx g.1.1,fun e c hne=>?_⟩;rcases QD.1 c with rfl|c
  ·exact absurd rfl hne
  rw[Fi _ _ _<|hlt e c];exact Nat.max_le.2 ⟨hs e c,l e c⟩
 obtain⟨a,j,o,l⟩:=h u (by simp[d]);refine⟨a,j,o.turn<|hlt u d,fun e c hne=>?_⟩;rcases QD.1 c with rfl|c
 ·show j<=(W++[W.getD s.1 0+W.getD t.1 0]).getD m 0;rw[p];have:=l s sx fun i=>g.1.2 u d i.symm;omega
 rw[Fi _ _ _<|hlt e c];exact l e (by simp[c]) hne
def BX(w:LN)(F:List Tr):Nat:=(F.map fun c=>AD w c.2).sum
def wC{w F c}(hp:F.Perm c):BX w F=BX w c:=(hp.map _).sum_nat
def wD{w W over}{s t:Tr}{R m}(hs:Bh w W over s)(c:Bh w W over t):BX w (join m s t::R)=BX w (s::t::R)+(W.getD s.1 0+W.getD t.1 0):=by simp only[BX,QV,Xm,join];rw[aN,wB,SE,hs.weight,c.weight];omega
def XG(s:LN × LN):LN × LN:=
 let a:=(Vd s.1 s.2 s.1.length).getD 0
 let c:=s.2.set a s.1.length
 let b:=(Vd s.1 c s.1.length).getD 0
 (s.1++[s.1.getD a 0+s.1.getD b 0],c.set b s.1.length++[0])
def nQ{F:List Tr}{t:Tr}(h:t∈F):∃R,F.Perm (t::R):=⟨F.erase t,Ip h⟩
def eO{n w W over F}(h:V0 n w W over F)(c:2<=F.length)(z:W.length≠0):
 ∃s t R,F.Perm (s::t::R)/\Vd W over W.length=some s.1/\Vd W (over.set s.1 W.length) W.length=some t.1/\(∀u∈R,W.getD s.1 0<=W.getD u.1 0)/\(∀u∈R,W.getD t.1 0<=W.getD u.1 0)/\W.getD s.1 0<=W.getD t.1 0/\
  XG (W,over)=(W++[W.getD s.1 0+W.getD t.1 0],(over.set s.1 W.length).set t.1 W.length++[0]):=by
 obtain⟨t0,d⟩:∃t,t∈F:=by
  cases F with
  |nil=>simp at c
  |cons t _=>exact⟨t,sx⟩
 have c:=(h.ok t0 d).root;rcases GM W over W with⟨-,l⟩|⟨a,q,j⟩
 ·exact absurd c.2<|l t0.1 c.1
 obtain⟨s,hs,rfl⟩:=h.roots a j.1 j.2.1;obtain⟨i,m⟩:=nQ hs;have c:=m.length_eq;have e:=h.perm m;have p:=e.distinct;simp only[QV,RU,QA,not_exists,not_and]at p;obtain⟨o,y⟩:∃t,t∈i:=by
  cases i with
  |nil=>simp at c;omega
  |cons t _=>exact⟨t,sx⟩
 have x:=(e.ok o<|by simp[y]).root;have v:=(e.ok s sx).root;have g:∀c,(over.set s.1 W).getD c 0=if c=s.1 then W.length else over.getD c 0:=by
  intro c;rw[AL]
  by_cases d:c=s.1
  ·rw[Qg ⟨d,by rw[h.len];exact v.1⟩,Qg d]
  rw[Qf fun h=>d h.1,Qf d]
 rcases GM W (over.set s.1 W) W with⟨-,l⟩|⟨b,v,d⟩
 ·exact absurd (by rw[g,Qf<|p.1 o y];exact x.2)<|l o.1 x.1
 have o:b≠s.1:=by rintro rfl;have:=d.2.1;rw[g,Qg rfl]at this;exact z this
 have l:over.getD b 0=0:=by have:=d.2.1;rwa[g,Qf o]at this
 obtain⟨t,p,rfl⟩:=e.roots b d.1 l;have x:t∈i:=by
  rcases QD.1 p with rfl|e
  ·exact absurd rfl o
  exact e
 obtain⟨R,i⟩:=nQ x;have hp:F.Perm (s::t::R):=m.trans<|i.cons s;have i:=h.perm hp;have m:=i.distinct;simp only[QV,RU,QD,QA,Uj,not_exists,not_and]at m;have o:∀c,c<W.length->over.getD c 0=0->W.getD s.1 0<=W.getD c 0:=fun c e p=>by have:=j.2.2 c e p;omega
 refine⟨s,t,R,hp,q,v,fun u e=>?_,fun u e=>?_,?_,?_⟩
 ·have c:=(i.ok u<|by simp[e]).root;exact o _ c.1 c.2
 ·have c:=(i.ok u<|by simp[e]).root;have:=d.2.2 u.1 c.1 (by rw[g,Qf<|m.1.2 u e];exact c.2);omega
 ·exact o _ d.1 l
 unfold XG;simp only[q,V9,v]
end K
namespace K
def kx(xs:List (Nat × Nat)):Nat:=(xs.map fun c=>2^(20-c.2)).sum
def cx(xs:List (Nat × Nat)):Nat:=(xs.map fun c=>c.1*c.2).sum
def nx(c:Nat)(xs:List (Nat × Nat)):Nat:=xs.countP fun d=>d.2==c
def Bw(p xs):kx (p::xs)=2^(20-p.2)+kx xs:=by simp[kx]
def DO(p xs):cx (p::xs)=p.1*p.2+cx xs:=by simp[cx]
def GW(c p xs):nx c (p::xs)=nx c xs+if p.2=c then 1 else 0:=by unfold nx;rw[Mx];simp
def La{xs c}(h:xs.Perm c):kx xs=kx c:=(h.map _).sum_nat
def Kz{xs c}(h:xs.Perm c):cx xs=cx c:=(h.map _).sum_nat
def Lo(c){xs d}(h:xs.Perm d):nx c xs=nx c d:=h.countP_eq _
def Qe3{c xs}(h:1<=nx c xs):∃z,(z,c)∈xs:=by
 unfold nx at h;obtain⟨d,hp,e⟩:=List.countP_pos_iff.1<|show 0<_ from h;have:d.2=c:=by simpa using e
 exact⟨d.1,by rwa[<-this]⟩
def St{xs:List (Nat × Nat)}{p}(h:p∈xs):∃c,xs.Perm (p::c):=⟨xs.erase p,Ip h⟩
def nR{xs:List (Nat × Nat)}{a d}(h:(xs.map Prod.fst).Perm (a::d)):∃e c,xs.Perm ((a,e)::c)/\(c.map Prod.fst).Perm d:=by have d:a∈xs.map Prod.fst:=h.mem_iff.2 sx;obtain⟨e,hp,rfl⟩:=QA.1 d;obtain⟨c,hz⟩:=St hp;refine⟨e.2,c,hz,?_⟩;have c:=(hz.map Prod.fst).symm.trans h;simp only[QV]at c;exact c.cons_inv
def Qjw(a z o M:Nat)(q:a<=z)(y:o<=M):a*M+z*o<=a*o+z*M:=by obtain⟨e,rfl⟩:∃e,M=o+e:=⟨M-o,ox⟩;obtain⟨f,rfl⟩:∃f,z=a+f:=⟨z-a,ox⟩;rw[EJ,V5,V5 a f<|o+e,EJ,EJ];omega
def nC{a e c d}(h:e<=c)(hne:e≠c)(j:1<=nx c d)(ha:∀p∈d,a<=p.1)(i:∀p∈d,p.2<=c):
 ∃g,(g.map Prod.fst).Perm (d.map Prod.fst)/\kx ((a,c)::g)=kx ((a,e)::d)/\cx ((a,c)::g)<=cx ((a,e)::d)/\(∀p∈g,p.2<=c)/\nx c g+1=nx c d:=by
 obtain⟨g,hz⟩:=Qe3 j;obtain⟨j,d⟩:=St hz;refine⟨(g,e)::j,?_,?_,?_,fun p hp=>?_,?_⟩
 ·exact(d.map Prod.fst).symm
 ·rw[Bw,Bw,Bw,La d,Bw];simp only;omega
 ·rw[DO,DO,DO,Kz d,DO];have:=Qjw a g e c (ha _ hz) h;simp only;omega
 ·rcases QD.1 hp with rfl|hp
  ·exact h
  exact i p (d.mem_iff.2<|by simp[hp])
 rw[Lo c d,GW,GW];simp only[Qf hne];simp
def cI{c}:∀d:List (Nat × Nat),(∀p∈d,p.2+1<=c)->c<=20->∃e,kx d=2^(21-c)*e
 | [],_,_=>⟨0,rfl⟩
 |p::d,h,hM=>by obtain⟨e,g⟩:=cI d (fun r d=>h r<|by simp[d]) hM;have hp:=h p sx;refine⟨2^(20-p.2-(21-c))+e,?_⟩;rw[Bw,g,EJ,<-EK,(ox:21-c+(20-p.2-(21-c))=20-p.2)]
def gR:∀xs:List (Nat × Nat),xs≠[]->∃p∈xs,∀d∈xs,d.2<=p.2
 | [],e=>absurd rfl e
 | [p],_=>⟨p,sx,fun d c=>by simp at c;rw[c];exact Qk _⟩
 |p::r::xs,_=>by
  obtain⟨i,h,g⟩:=gR (r::xs) sx
  by_cases e:p.2<=i.2
  ·exact⟨i,by simp only[QD]at h ⊢;exact .inr h,fun d c=>by
    rcases QD.1 c with rfl|c
    ·exact e
    exact g d c⟩
  exact⟨p,sx,fun d c=>by
   rcases QD.1 c with rfl|c
   ·exact Qk _
   have:=g d c;omega⟩
def exch:∀K (xs:List (Nat × Nat))(a b:Nat)(ws:LN),(xs.map Prod.snd).sum<=K->(∀p∈xs,p.2<=20)->kx xs<=2^20->(xs.map Prod.fst).Perm (a::b::ws)->a<=b->(∀x∈ws,b<=x)->
 ∃ys,(ys.map Prod.fst).Perm ((a+b)::ws)/\(∀p∈ys,p.2<=20)/\kx ys<=2^20/\cx ys+(a+b)<=cx xs:=by
 intro K
 induction K using Nat.strongRecOn with
 |ind K ih=>
  intro xs a b ws hK x2 hk hp y0 x0;have x3:xs.length=ws.length+2:=by have:=hp.length_eq;simpa using this
  obtain⟨pm,x4,y8⟩:=gR xs (by intro h;rw[h]at x3;simp at x3);obtain⟨p,M⟩:=pm;obtain⟨x1,h3⟩:=St x4;have x9:M<=20:=x2 _ x4;have h5:∀q∈xs,q.2<=M:=y8;have h4:=La h3;rw[Bw]at h4;simp only at h4;have z8:x1.length=ws.length+1:=by have:=h3.length_eq;simp at this;omega
  have p2:1<=M:=by
   rcases Rx M with h0|h0
   ·subst h0;cases x1 with
    |nil=>simp at z8
    |cons q r=>rw[Bw]at h4;have y:=h5 q (h3.mem_iff.2 sx);rw[(ox:q.2=0)]at h4;have e:2^(20-0)=2^20:=rfl;have:0<2^20:=dx;omega
   exact h0
  by_cases y9:1<=nx M x1
  ·
   have p7:2<=nx M xs:=(by rw[Lo M h3,GW];simp only[Cg];omega);obtain⟨la,zs,hz,x8⟩:=nR hp;have p1:∀q∈zs,a<=q.1:=fun q y=>by
    have:=x8.mem_iff.1<|QA.2 ⟨q,y,rfl⟩;rcases QD.1 this with h|h
    ·omega
    have:=x0 _ h;omega
   have x7:∀q∈zs,q.2<=M:=fun q y=>h5 q (hz.mem_iff.2<|by simp[y])
   have y5:la<=M:=h5 (a,la) (hz.mem_iff.2 sx);have p6:=La hz;have p4:=Kz hz;have h8:=Lo M hz;rw[GW]at h8;simp only at h8;obtain⟨z1,q1,q2,q3,q4,q5⟩:∃z1,(z1.map Prod.fst).Perm (zs.map Prod.fst)/\kx ((a,M)::z1)=kx ((a,la)::zs)/\cx ((a,M)::z1)<=cx ((a,la)::zs)/\(∀p∈z1,p.2<=M)/\1<=nx M z1:=by
    by_cases hl:la=M
    ·subst hl;rw[Qg rfl]at h8;exact⟨zs,List.Perm.refl _,rfl,Qk _,x7,ox⟩
    rw[Qf hl]at h8;obtain⟨z1,e1,e2,e3,e4,e5⟩:=nC y5 hl ox p1 x7;exact⟨z1,e1,e2,e3,e4,ox⟩
   obtain⟨lb,y1,hy,x6⟩:=nR<|q1.trans x8;have p0:∀q∈y1,b<=q.1:=fun q y=>x0 _<|x6.mem_iff.1<|QA.2 ⟨q,y,rfl⟩
   have x5:∀q∈y1,q.2<=M:=fun q y=>q4 q (hy.mem_iff.2<|by simp[y])
   have y6:lb<=M:=q4 (b,lb) (hy.mem_iff.2 sx);have p5:=La hy;have p3:=Kz hy;have h9:=Lo M hy;rw[GW]at h9;simp only at h9;obtain⟨z2,r1,r2,r3,r4⟩:∃z2,(z2.map Prod.fst).Perm (y1.map Prod.fst)/\kx ((b,M)::z2)=kx ((b,lb)::y1)/\cx ((b,M)::z2)<=cx ((b,lb)::y1)/\(∀p∈z2,p.2<=M):=by
    by_cases hl:lb=M
    ·subst hl;exact⟨y1,List.Perm.refl _,rfl,Qk _,x5⟩
    rw[Qf hl]at h9;obtain⟨z2,e1,e2,e3,e4,e5⟩:=nC y6 hl ox p0 x5;exact⟨z2,e1,e2,e3,e4⟩
   rw[Bw]at q2 r2;rw[DO]at q3 r3;simp only at q2 q3 r2 r3;obtain⟨o,rfl⟩:∃o,M=o+1:=⟨M-1,ox⟩;refine⟨(a+b,o)::z2,?_,fun q y=>?_,?_,?_⟩
   ·rw[QV];exact(r1.trans x6).cons _
   ·rcases QD.1 y with rfl|y
    ·simp only;omega
    have:=r4 q y;omega
   ·rw[Bw];have e:2^(20-o)=2^(20-(o+1))+2^(20-(o+1)):=(by rw[(ox:20-o=20-(o+1)+1),J9];omega);simp only;omega
   rw[DO];have e1:a*(o+1)=a*o+a:=Iz _ _;have e2:b*(o+1)=b*o+b:=Iz _ _;have e3:(a+b)*o=a*o+b*o:=V5 _ _ _;simp only;omega
  ·
   have z7:∀q∈x1,q.2+1<=M:=fun q y=>by
    have h1:=h5 q (h3.mem_iff.2<|by simp[y]);rcases Xw q.2 M with h2|h2
    ·exact h2
    exfalso;refine y9 ?_;unfold nx;exact List.countP_pos_iff.2 ⟨q,y,zx⟩
   obtain⟨q,y⟩:=cI x1 z7 x9;obtain⟨o,rfl⟩:∃o,M=o+1:=⟨M-1,ox⟩;have e1:2^(21-(o+1))=2^(20-(o+1))+2^(20-(o+1)):=(by rw[(ox:21-(o+1)=20-(o+1)+1),J9];omega);have e2:(2:Nat)^20=2^(21-(o+1))*2^o:=by rw[<-EK];congr 1;omega
   have p8:0<2^(20-(o+1)):=DH _;have hlt:q<2^o:=by
    rcases Xw q (2^o)with h|h
    ·exact h
    have:=Tx (2^(21-(o+1))) h;omega
   have y7:=Tx (2^(21-(o+1)))<|show q+1<=2^o from hlt;rw[EJ,RW]at y7;have e3:2^(20-o)=2^(21-(o+1)):=(by rw[show 20-o=21-(o+1)by omega]);have z6:=(h3.map Prod.snd).sum_nat;simp only[QV,Xm]at z6;obtain⟨ys,y1,y2,y3,y4⟩:=ih (K-1) ox ((p,o)::x1) a b ws (by simp only[QV,Xm];omega) (fun r hr=>by
    rcases QD.1 hr with rfl|hr
    ·simp only;omega
    ·exact x2 r (h3.mem_iff.2<|by simp[hr])) (by rw[Bw];simp only;omega) (by
    have:=(h3.map Prod.fst).symm.trans hp;simpa using this) y0 x0
   refine⟨ys,y1,y2,y3,?_⟩;have hc:=Kz h3;rw[DO]at hc y4;have e4:p*(o+1)=p*o+p:=Iz _ _;simp only at hc y4;omega
end K
namespace K
def QX(w:LN):Nat->LN × LN
 |0=>(w,List.replicate w.length 0)
 |k+1=>XG (QX w k)
def Qb3(s):(XG s).1.length=s.1.length+1:=by simp[XG]
def Fj(w):∀k,(QX w k).1.length=w.length+k
 |0=>rfl
 |k+1=>by rw[QX,Qb3,Fj w k];omega
def AY(w W:LN)(F:List Tr)(C:Nat):Prop:=∃c:List (Nat × Nat),(c.map Prod.fst).Perm (F.map fun d=>W.getD d.1 0)/\(∀d∈c,d.2<=20)/\kx c<=2^20/\cx c+BX w F<=C
def start(n:Nat):List Tr:=(List.range n).map fun c=>(c,[(c,0)])
def LC(n j):(List.replicate n 0).getD j 0=0:=by rw[List.getD,V1];split<;>rfl
def Qje(w):V0 w.length w w (List.replicate w.length 0) (start w.length):=by
 refine⟨sx,Qk _,fun c c=>?_,fun r d _=>?_,?_,?_⟩
 ·simp only[start,QA,ZR]at c;obtain⟨e,hi,rfl⟩:=c;refine⟨⟨hi,LC _ _⟩,fun c hp=>?_,?_,fun c _=>?_,sx⟩
  ·simp at hp;subst hp;exact .here e
  ·simp[VX]
  simp[Bv]
 ·exact⟨(r,[(r,0)]),by simp[start];exact d,rfl⟩
 ·simp only[start,Xv,FL];simp[Dy]
 simp only[start,List.flatMap_map,List.map_flatMap];simp
def Qjf(w)(hw:∀x∈w,1<=x):BP w (start w.length):=by
 intro c c;simp only[start,QA,ZR]at c;obtain⟨d,hi,rfl⟩:=c;refine⟨0,0,⟨fun c hp=>by simp at hp;subst hp;exact Qk _,?_,fun c=>ox⟩,fun c _ _=>Zv _⟩;have:w.getD d 0=w[d]:=by rw[List.getD,Qj hi];rfl
 simp only[this];exact hw _<|Yc hi
def Qjd(w n):BX w (start n)=0:=by
 have:∀c:LN,((c.map fun d=>((d,[(d,0)]):Tr)).map fun d=>AD w d.2).sum=0:=by
  intro c
  induction c with
  |nil=>rfl
  |cons x c ih=>simp only[QV,Xm,ih];simp[AD]
 exact this _
def Qjc(w l)(c:l.length=w.length)(c:∀x∈l,x<=20)(hk:(l.map fun x=>2^(20-x)).sum<=2^20):AY w w (start w.length) ((w.zip l).map fun p=>p.1*p.2).sum:=by
 refine⟨w.zip l,?_,fun p hp=>c _ (List.of_mem_zip hp).2,?_,?_⟩
 ·rw[List.map_fst_zip ox,start,Xv];have:(List.range w).map ((fun c:Tr=>w.getD c.1 0)∘fun c=>(c,[(c,0)]))=w:=by
   apply XB;intro c
   by_cases d:c<w
   ·rw[Zz,Xl d,Qj d];simp[List.getD,Qj d]
   rw[QU zx,QU ox]
  rw[this]
 ·unfold kx;have:(w.zip l).map (fun p=>2^(20-p.2))=((w.zip l).map Prod.snd).map fun x=>2^(20-x):=by rw[Xv];rfl
  rwa[this,List.map_snd_zip ox]
 rw[Qjd];exact Qk _
def AY.perm{w W:LN}{F c:List Tr}{C:Nat}(h:AY w W F C)(hp:F.Perm c):AY w W c C:=by obtain⟨i,c,d,e,g⟩:=h;exact⟨i,c.trans<|hp.map _,d,e,by rwa[<-wC hp]⟩
def AY.step{n:Nat}{w W over:LN}{s t:Tr}{R:List Tr}{C:Nat}(d:V0 n w W over (s::t::R))(h:AY w W (s::t::R) C)(m:Nat)(j:W.length=m)
 (o:∀u∈R,W.getD t.1 0<=W.getD u.1 0)(l:W.getD s.1 0<=W.getD t.1 0):AY w (W++[W.getD s.1 0+W.getD t.1 0]) (join m s t::R) C:=by
 obtain⟨p,e,g,i,c⟩:=h;have hlt:∀u∈R,u.1<W.length:=fun u c=>(d.ok u<|by simp[c]).root.1
 simp only[QV]at e;obtain⟨y,q,v,x,z⟩:=exch _ p _ _ _ (Qk _) g i e l (fun e e=>by obtain⟨u,c,rfl⟩:=QA.1 e;exact o u c);refine⟨y,?_,v,x,?_⟩
 ·rw[QV];have e:(W++[W.getD s.1 0+W.getD t.1 0]).getD (join m s t).1 0=W.getD s.1 0+W.getD t.1 0:=by show(W++[W.getD s.1 0+W.getD t.1 0]).getD m 0=_;rw[<-j,Fh]
  have g:R.map (fun u=>(W++[W.getD s.1 0+W.getD t.1 0]).getD u.1 0)=R.map fun u=>W.getD u.1 0:=YT fun u c=>Fi _ _ _<|hlt u c
  rwa[e,g]
 rw[wD (d.ok s sx)<|d.ok t sx];omega
def Oq(w)(hw:∀x∈w,1<=x)(h0:1<=w.length):∀k,k+1<=w.length->∃F,V0 w.length w (QX w k).1 (QX w k).2 F/\BP (QX w k).1 F/\F.length+k=w.length/\
 ∀C,AY w w (start w.length) C->AY w (QX w k).1 F C
 |0,_=>⟨start w.length,Qje w,Qjf w hw,by simp[start],fun C c=>c⟩
 |k+1,hk=>by
  obtain⟨F,c,h,d,i⟩:=Oq w hw h0 k ox;have:=Fj w k;obtain⟨n,o,g,hp,-,-,hs,e,m,d⟩:=eO c ox ox;have l:=hp.length_eq;have g1:=(c.perm hp).step _ rfl ox;have j:=BP.step (c.perm hp) (h.perm hp) _ rfl hs e;refine⟨join (QX w k).1.length n o::g,?_,?_,?_,fun C g=>?_⟩
  ·rwa[QX,show QX w k=((QX w k).1,(QX w k).2)from rfl,d]
  ·rwa[QX,show QX w k=((QX w k).1,(QX w k).2)from rfl,d]
  ·simp only[QW]at l ⊢;omega
  rw[QX,show QX w k=((QX w k).1,(QX w k).2)from rfl,d];exact AY.step (c.perm hp) ((i C g).perm hp) _ rfl e m
structure Tb(w ls over:LN):Prop where
 len:ls.length=w.length
 up:∀i,i<w.length->∃r,Up over i (ls.getD i 0) r/\over.getD r 0=0
 kraft:∀L,(∀x∈ls,x<=L)->(ls.map fun x=>2^(L-x)).sum=2^L
 low:∃h,(∀x∈ls,x<=h)/\YY (h+2)<=w.sum
 best:∀l:LN,l.length=w.length->(∀x∈l,x<=20)->(l.map fun x=>2^(20-x)).sum<=2^20->((w.zip ls).map fun p=>p.1*p.2).sum<=((w.zip l).map fun p=>p.1*p.2).sum
def Qgv(w ls:LN)(h:ls.length=w.length):((List.range w.length).map fun i=>w.getD i 0*ls.getD i 0)=(w.zip ls).map fun p=>p.1*p.2:=by
 apply XB;intro i
 by_cases hi:i<w
 ·rw[Zz,Xl hi,Zz,Qj zx];simp[List.getD,Qj hi,Qj (ox:i<ls)]
 rw[QU zx,QU zx]
def PH(ls):(List.range ls.length).map (fun i=>ls.getD i 0)=ls:=by
 apply XB;intro i
 by_cases hi:i<ls
 ·rw[Zz,Xl hi];simp[List.getD,Qj hi]
 rw[QU zx,QU ox]
def Oo(w)(hw:∀x∈w,1<=x)(h0:1<=w.length):∃ls,Tb w ls (QX w<|w.length-1).2:=by
 obtain⟨F,f1,f2,f3,f4⟩:=Oq w hw h0 (w.length-1) ox;have x3:F.length=1:=ox
 obtain⟨t,rfl⟩:∃t,F=[t]:=by
  match F,x3 with
  | [t],_=>exact⟨t,rfl⟩
 generalize QX w (w.length-1)=s at*
 obtain⟨W,over⟩:=s;simp only at f1 f2 f4 ⊢;have o:=f1.ok t sx;have h5:(t.2.map Prod.fst).Perm (List.range w):=by have:=f1.leaves;simpa using this
 obtain⟨ls,x1⟩:∃ls:LN,ls=(List.range w).map fun i=>((t.2.find? fun p=>p.1==i).map Prod.snd).getD 0:=⟨_,rfl⟩
 have x0:ls.length=w.length:=by rw[x1];simp
 have h8:∀i,i<w.length->∃d,(i,d)∈t.2/\ls.getD i 0=d:=by
  intro i hi;have hm:i∈t.2.map Prod.fst:=h5.mem_iff.2<|ZR.2 hi;obtain⟨p,hp,rfl⟩:=QA.1 hm;cases hf:t.2.find? fun q=>q.1==p.1 with
  |none=>have:=Eu.1 hf p hp;simp at this
  |some q=>have hq:=Tm hf;have x5:q.1=p.1:=(by simpa using List.find?_some hf);refine⟨q.2,by rwa[<-x5],?_⟩;rw[x1,List.getD,Zz,Xl hi];simp[hf]
 have x2:∀p∈t.2,p.2=ls.getD p.1 0:=by intro p hp;have hi:p.1<w.length:=ZR.1<|h5.mem_iff.1<|QA.2 ⟨p,hp,rfl⟩;obtain⟨d,hd,y⟩:=h8 p.1 hi;rw[y];exact((o.up p hp).one o.root.2 (show Up over p.1 d t.1 from o.up (p.1,d) hd) o.root.2).1
 have x4:t.2.Perm ((List.range w).map fun i=>(i,ls.getD i 0)):=by
  have e:t.2=(t.2.map Prod.fst).map fun i=>(i,ls.getD i 0):=by
   rw[Xv]
   conv=>lhs;rw[<-Ex t.2]
   exact YT fun p hp=>by simp only[id,Function.comp];rw[<-x2 p hp]
  rw[e];exact h5.map _
 have h9:∀(g:Nat × Nat->Nat),(t.2.map g).sum=((List.range w).map fun i=>g (i,ls.getD i 0)).sum:=by intro g;have:=(x4.map g).sum_nat;rw[Xv]at this;exact this
 refine⟨ls,x0,fun i hi=>?_,fun L hL=>?_,?_,fun l h1 h2 h3=>?_⟩
 ·obtain⟨d,hd,y⟩:=h8 i hi;exact⟨t.1,by rw[y];exact o.up _ hd,o.root.2⟩
 ·have hk:=o.kraft L (fun p hp=>by have hi:p.1<w.length:=ZR.1<|h5.mem_iff.1<|QA.2 ⟨p,hp,rfl⟩;rw[x2 p hp,List.getD,Qj ox];exact hL _<|Yc _);unfold Bv at hk;rw[h9]at hk;have e:=PH ls;rw[x0]at e;rw[<-hk]
  conv=>lhs;rw[<-e]
  rw[Xv];rfl
 ·obtain⟨h,g,a,-⟩:=f2 t sx;refine⟨h,fun x hx=>?_,?_⟩
  ·obtain⟨i,hi,rfl⟩:=Tl.1 hx;obtain⟨d,hd,y⟩:=h8 i ox;have:=a.1 _ hd;rw[List.getD,Qj hi]at y;simp only[V9]at y;rw[y];exact this
  have h4:=a.2.1;rw[o.weight]at h4;unfold VX at h4;rw[h9]at h4;simp only at h4;rwa[PH]at h4
 obtain⟨xs,-,-,-,hc⟩:=f4 _<|Qjc w l h1 h2 h3;have:BX w [t]=((w.zip ls).map fun p=>p.1*p.2).sum:=by simp only[BX,QV,Y6,Xm,List.sum_nil,Jt];unfold AD;rw[h9,<-Qgv w ls x0]
 omega
end K
namespace K
def Qai{w W over F}(h:V0 w.length w W over F):VX w (F.flatMap Prod.snd)=w.sum:=by
 have c:VX w (F.flatMap Prod.snd)=(((F.flatMap Prod.snd).map Prod.fst).map fun d=>w.getD d 0).sum:=by simp[VX,FL]
 rw[c,(h.leaves.map _).sum_nat,PH]
def KY(w):∀k,(QX w k).2.length=w.length+k
 |0=>by simp[QX]
 |k+1=>by have:=KY w k;rw[QX];simp only[XG,Qo,JO,QW,YE];omega
def eM(w)(hw:∀x∈w,1<=x)(k)(hk:k+2<=w.length):∃a b,a<w.length+k/\b<w.length+k/\
 Vd (QX w k).1 (QX w k).2 (w.length+k)=some a/\Vd (QX w k).1 ((QX w k).2.set a (w.length+k)) (w.length+k)=some b/\
 QX w (k+1)=((QX w k).1++[(QX w k).1.getD a 0+(QX w k).1.getD b 0],((QX w k).2.set a (w.length+k)).set b (w.length+k)++[0])/\
 (QX w k).1.getD a 0+(QX w k).1.getD b 0<=w.sum:=by
 obtain⟨c,c,d,d,d⟩:=Oq w hw ox k ox;have d:=Fj w k;obtain⟨h,i,e,hp,ha,hb,hs,e,e,g⟩:=eO c ox ox;have j:QX w (k+1)=XG ((QX w k).1,(QX w k).2):=rfl;rw[d]at ha hb g;have l:=Qai<|c.perm hp;have d:=(c.perm hp).ok h sx;have e:=(c.perm hp).ok i sx;refine⟨h.1,i.1,yx d.root.1,yx e.root.1,ha,hb,by rw[j,g],?_⟩;rw[d.weight,e.weight,<-l];simp only[Jd,SE];omega
end K
namespace K
def roots(W over:LN)(k:Nat):List (Nat × Nat):=((List.range k).filter fun c=>over.getD c 0==0).map fun c=>(W.getD c 0,c)
def PU{W over k t}:t∈roots W over k↔t.2<k/\over.getD t.2 0=0/\t.1=W.getD t.2 0:=by
 unfold roots;rw[QA];constructor
 ·rintro⟨c,hi,rfl⟩;rw[Ez,ZR]at hi;exact⟨hi.1,by simpa using hi.2,rfl⟩
 rintro⟨c,d,e⟩;exact⟨t.2,by rw[Ez,ZR];exact⟨c,by simpa using d⟩,by rw[<-e]⟩
def iB{W over k a t}(h:Vd W over k=some a)(e:t∈roots W over k)(g:∀u∈roots W over k,¬(u.1<t.1\/(u.1=t.1/\u.2<t.2))):t=(W.getD a 0,a):=by
 rcases GM W over k with⟨c,-⟩|⟨b,c,d⟩
 ·rw[h]at c;cases c
 rw[h]at c;cases c;have c:=PU.1 e;have ha:(W.getD a 0,a)∈roots W over k:=PU.2 ⟨d.1,d.2.1,rfl⟩;have e:=g _ ha;have:=d.2.2 t.2 c.1 c.2.1;have d:=c.2.2;simp only at e;have c:t.2=a:=ox
 rw[Prod.ext_iff];refine⟨?_,c⟩;rw[d,c]
def fH{W over k a}(h:Vd W over k=some a):a<k/\over.getD a 0=0:=by
 rcases GM W over k with⟨c,-⟩|⟨b,c,d⟩
 ·rw[h]at c;cases c
 rw[h]at c;cases c;exact⟨d.1,d.2.1⟩
def nO{W over k a next}(ha:a<k)(h0:over.getD a 0=0)(q:a<over.length)(hn:next≠0):
 (roots W over k).Perm ((W.getD a 0,a)::roots W (over.set a next) k):=by
 have h1:((List.range k).filter fun i=>over.getD i 0==0).Nodup:=Dy.filter _;have y:a∈(List.range k).filter fun i=>over.getD i 0==0:=by rw[Ez,ZR];exact⟨ha,by simpa using h0⟩
 have hp:=Ip y;have e:((List.range k).filter fun i=>over.getD i 0==0).erase a=(List.range k).filter fun i=>(over.set a next).getD i 0==0:=by
  rw[h1.erase_eq_filter,List.filter_filter];apply List.filter_congr;intro i hi;rw[AL]
  by_cases o:i=a
  ·subst o;simp[q,hn]
  simp[o]
 rw[e]at hp;exact hp.map _
def Qhs{W over k x}(e:W.length=k)(g:over.length=k):roots (W++[x]) (over++[0]) (k+1)=roots W over k++[(x,k)]:=by
 unfold roots;rw[J5,Ba,XC]
 congr 1
 ·have d:((List.range k).filter fun c=>(over++[0]).getD c 0==0)=(List.range k).filter fun c=>over.getD c 0==0:=List.filter_congr fun c hi=>by rw[KN]
  rw[d];apply YT;intro c hi;rw[Ez,ZR]at hi;rw[Fi _ _ _ ox]
 have c:(over++[0]).getD k 0=0:=by rw[<-g];exact Fh _ _
 simp only[FR,List.filter_nil,c];simp only[beq_self_eq_true,Cg,QV,Y6];rw[show(W++[x]).getD k 0=x by rw[<-e];exact Fh _ _]
def Qht(w):roots w (List.replicate w.length 0) w.length=(List.range w.length).map fun i=>(w.getD i 0,i):=by unfold roots;rw[List.filter_eq_self.2];intro i _;rw[LC];rfl
def Jl(l:List (Nat × Nat))(i:Nat):List (Nat × Nat):=(l.set i (l.getD (l.length-1) (0,0))).dropLast
def Pu(l:List (Nat × Nat))(i t)(h:l[i]?=some t):l.Perm (t::Jl l i):=by
 obtain⟨A,z,rfl⟩:∃A z,l=A++[z]:=by
  have:l≠[]:=by rintro rfl;simp at h
  exact⟨l.dropLast,l.getLast this,(Ii this).symm⟩
 have hz:(A++[z]).getD ((A++[z]).length-1) (0,0)=z:=by simp[List.getD]
 unfold Jl;rw[hz]
 by_cases hi:i<A
 ·rw[MI _ _ hi,List.dropLast_concat];rw[Xc hi]at h;have e:=Qy.1 h;obtain⟨o,hv⟩:=e;have q:A=A.take i++t::A.drop (i+1):=by rw[<-hv,<-Xf o,V3]
  have y:A.set i z=A.take i++z::A.drop (i+1):=by rw[List.set_eq_take_append_cons_drop,Qg o]
  rw[y]
  conv=>lhs;rw[q]
  have p1:(A.take i++t::A.drop (i+1)).Perm (t::(A.take i++A.drop (i+1))):=List.perm_middle;have p2:(A.take i++z::A.drop (i+1)).Perm (z::(A.take i++A.drop (i+1))):=List.perm_middle;refine(p1.append_right [z]).trans ?_;rw[XY];exact List.Perm.cons _<|(List.perm_append_singleton _ _).trans p2.symm
 have o:=(Qy.1 h).1;have:i=A:=by simp at o;omega
 subst this;have ht:t=z:=by simpa using h.symm
 subst ht;have:(A++[t]).set A t=A++[t]:=by
  apply XB;intro j;rw[Je]
  split
  ·rename_i hj;subst hj;simp
  rfl
 rw[this,List.dropLast_concat];exact List.perm_append_singleton _ _
def Pt(l i):(Jl l i).length=l.length-1:=by simp[Jl]
def eN(w)(h0:1<=w.length):∀k,∀x∈(QX w k).2,x<w.length+k
 |0=>by intro x c;simp only[QX]at c;have:=BR c;omega
 |k+1=>by
  intro x c;have d:=eN w h0 k;have:=Fj w k;rw[QX]at c;simp only[XG,Q4,Zb]at c;rcases c with c|rfl
  ·rcases EA c with c|c
   ·rcases EA c with c|c
    ·have:=d x c;omega
    omega
   omega
  omega
def Qa2{l:LN}{m}(h:∀x∈l,x<m)(c:0<m)(j):l.getD j 0<m:=by
 rw[List.getD];cases e:l[j]? with
 |none=>exact c
 |some x=>exact h x<|QB e
def Up.root{over i d r}(u:Up over i d r)(c:over.getD r 0=0)(hi:over.getD i 0=0):d=0:=(u.one c (.here i) hi).1
def Up.next{over i d r}(u:Up over i d r)(c:over.getD r 0=0)(hi:over.getD i 0≠0):∃e,d=e+1/\Up over (over.getD i 0) e r:=by
 cases u with
 |here _=>exact absurd c hi
 |step h h0 u=>subst h;exact⟨_,rfl,u⟩
def AR(ls:LN)(n i e:Nat):LN:=ls.take i++e::List.replicate (n-i-1) 0
def Qfl(ls n i)(h:i<n):ls.take i++List.replicate (n-i) 0=AR ls n i 0:=by unfold AR;rw[(ox:n-i=(n-i-1)+1),JB];simp
def Qfj(ls n i e)(h:i<n)(c:ls.length=n):(AR ls n i e)[i]?=some e:=by
 unfold AR;have c:(ls.take i).length=i:=zx
 rw[Zm ox,c,ZM];rfl
def Qfk(ls n i e x)(h:i<n)(c:ls.length=n):(AR ls n i e).set i x=AR ls n i x:=by
 unfold AR;have c:(ls.take i).length=i:=zx
 rw[V2 _ _ ox,c,ZM];rfl
def Qfi(ls n i)(h:i<n)(c:ls.length=n):AR ls n i (ls.getD i 0)=ls.take (i+1)++List.replicate (n-(i+1)) 0:=by
 unfold AR;have:ls.getD i 0=ls[i]:=by rw[List.getD,Qj ox];rfl
 rw[this,Bd ox,QR];rfl
def Qkp{W over m a b d i2 c e t2}(hp:c.Perm (roots W over m))(g:over.length=m)(h:m≠0)(ha:Vd W over m=some a)(hb:Vd W (over.set a m) m=some b)(l:c[d]?=some e)(q:∀u∈c,¬(u.1<e.1\/(u.1=e.1/\u.2<e.2)))(n:(Jl c d)[i2]?=some t2)(s:∀u∈Jl c d,¬(u.1<t2.1\/(u.1=t2.1/\u.2<t2.2))):
 e=(W.getD a 0,a)/\t2=(W.getD b 0,b)/\a≠b/\(Jl (Jl c d) i2).Perm (roots W ((over.set a m).set b m) m):=by
 obtain⟨o,a2⟩:=fH ha;obtain⟨p,g⟩:=fH hb;have j:=iB ha (hp.mem_iff.1<|QB l) fun u i=>q u<|hp.mem_iff.2 i
 have q:=nO (W:=W) o a2 ox h;have o:=Pu c d e l;rw[j]at o;have e:(Jl c d).Perm (roots W (over.set a m) m):=(o.symm.trans<|hp.trans q).cons_inv;have l:=iB hb (e.mem_iff.1<|QB n) fun u i=>s u<|e.mem_iff.2 i
 have i:=nO (W:=W) p g (by rw[JO];omega) h;have q2:=Pu (Jl c d) i2 t2 n;rw[l]at q2;refine⟨j,l,fun c=>?_,(q2.symm.trans<|e.trans i).cons_inv⟩;subst c;rw[AL,Qg ⟨rfl,ox⟩]at g;exact h g
def Qc2{w:LN}{x}(h:x∈w):x<=w.sum:=by
 induction w with
 |nil=>cases h
 |cons y w ih=>
  rw[Xm];rcases QD.1 h with h|h
  ·omega
  have:=ih h;omega
def eL(w)(hw:∀x∈w,1<=x):∀k,k+1<=w.length->∀x∈(QX w k).1,x<=w.sum
 |0,_,x,hx=>Qc2 hx
 |k+1,hk,x,hx=>by
  obtain⟨a,b,-,-,-,-,c,hs⟩:=eM w hw k ox;rw[c]at hx;rcases Q4.1 hx with c|c
  ·exact eL w hw k ox x c
  rw[Zb]at c;omega
end K
namespace K
def CJ(w ls:LN):Prop:=Tb w ls (QX w (w.length-1)).2
def nU{w a b}(h:CJ w a)(d:CJ w b):a=b:=by
 have:=h.len;have:=d.len;apply XB;intro c
 by_cases hi:c<w
 ·obtain⟨r,i,g⟩:=h.up c hi;obtain⟨e,j,e⟩:=d.up c hi;have c:=(i.one g j e).1;rw[List.getD,Qj ox,List.getD,Qj ox]at c;rw[Qj ox,Qj ox];simpa using c
 rw[QU ox,QU ox]
def UB(w:LN):LN:=w.map fun c=>c/2+1
def EF(c:Nat):Nat->LN->LN->Prop
 |0,w,ls=>CJ w ls/\∀d∈ls,d<=c
 |n+1,w,ls=>∃e,CJ w e/\(∃d∈e,c<d)/\EF c n (UB w) ls
def KT(w):(UB w).length=w.length:=by simp[UB]
def Qbp(w:LN)(i x)(h:w[i]?=some x):(UB (w.take i)++w.drop i).set i (x/2+1)=UB (w.take<|i+1)++w.drop (i+1):=by
 obtain⟨hi,d⟩:=Qy.1 h;have c:(UB<|w.take i).length=i:=by simp[UB];omega
 rw[V2 _ _ ox,c,ZM,Xf hi,Vp,Bd hi,d];simp[UB]
def Qbn(w:LN)(i x)(h:w[i]?=some x):(UB (w.take i)++w.drop i)[i]?=some x:=by
 obtain⟨hi,c⟩:=Qy.1 h;have c:(UB<|w.take i).length=i:=by simp[UB];omega
 rw[Zm ox,c,ZM,Ut];simpa using h
def Qbo{w}(h:∀x∈w,x<=1073741824):∀x∈UB w,x<=1073741824:=by intro x c;obtain⟨e,d,rfl⟩:=QA.1 c;have:=h e d;omega
def eE(w):∀x∈UB w,1<=x:=by intro x c;obtain⟨d,-,rfl⟩:=QA.1 c;omega
def dC:∀k,YY k<=YY (k+1)
 |0=>by decide
 |1=>by decide
 |k+2=>by show YY (k+2)<=YY (k+2)+YY (k+1);omega
def dB{a b}(h:a<=b):YY a<=YY b:=by
 induction b with
 |zero=>have:a=0:=ox
        subst this;exact Qk _
 |succ b ih=>
  rcases Xw b a with c|c
  ·have:a=b+1:=ox;subst this;exact Qk _
  exact QS (ih c)<|dC b
def dD:∀k,2^k<=YY (2*k+1)
 |0=>by decide
 |k+1=>by have:=dD k;have:YY (2*k+1)<=YY (2*k+2):=dC<|2*k+1;show 2^(k+1)<=YY (2*k+2)+YY (2*k+1);rw[J9];omega
def Qio{w ls}(h:CJ w ls)(hs:w.sum<=1000000000000)(i):ls.getD i 0<=78:=by
 obtain⟨d,e,c⟩:=h.low;rw[List.getD];cases c:ls[i]? with
 |none=>simp
 |some x=>
  have:=e x<|QB c;simp only[V9];rcases Xw d 79 with e|e
  ·omega
  have:=dB (ox:2*40+1<=d+2);have:=dD 40;have c:(2:Nat)^40=1099511627776:=dx
  omega
def Qdi{w ls}(h:CJ w ls)(hs:w.sum<610):∀x∈ls,x<=12:=by
 obtain⟨c,d,e⟩:=h.low;intro x e;have:=d x e;rcases Xw c 13 with d|d
 ·omega
 have:=dB (ox:15<=c+2);have:YY 15=610:=dx
 omega
def mY(w:LN)(b)(h:∀x∈w,x<=b):w.sum<=w.length*b:=by
 induction w with
 |nil=>simp
 |cons x w ih=>
  have:=h x sx;have:=ih fun d c=>h d (by simp[c])
  rw[Xm,QW,V5];omega
def fY(e)(i:12<=e):∀(j:Nat)(w:LN),(∀x∈w,1<=x)->1<=w.length->w.length<=258->(∀x∈w,x<=2^j+1)->∃n ls,n<=j/\EF e n w ls
 |0,w,h1,h2,h3,h4=>by obtain⟨ls,d⟩:=Oo w h1 h2;refine⟨0,ls,Qk _,d,fun x c=>?_⟩;have:=mY w 2 (fun x c=>by have:=h4 x c;omega);have:=Qdi d ox x c;omega
 |j+1,w,h1,h2,h3,h4=>by
  obtain⟨ls,d⟩:=Oo w h1 h2
  by_cases g:∀x∈ls,x<=e
  ·exact⟨0,ls,ox,d,g⟩
  obtain⟨n,l,h,h⟩:=fY e i j (UB w) (eE w) (by rwa[KT]) (by rwa[KT]) (by intro x c;obtain⟨i,e,rfl⟩:=QA.1 c;have:=h4 i e;rw[J9]at this;omega);refine⟨n+1,l,ox,ls,d,?_,h⟩;simp only[Classical.not_forall]at g;obtain⟨x,c,hlt⟩:=g;exact⟨x,c,ox⟩
def fX{c}:∀{n:Nat}{w ls:LN},EF c n w ls->ls.length=w.length/\(∀x∈ls,x<=c)/\∀L,c<=L->(ls.map fun x=>2^(L-x)).sum=2^L
 |0,w,ls,h=>⟨h.1.len,h.2,fun L c=>h.1.kraft L fun x d=>QS (h.2 x d) c⟩
 |n+1,w,ls,h=>by obtain⟨c,-,-,d⟩:=h;obtain⟨a,b,c⟩:=fX d;exact⟨by rw[a,KT],b,c⟩
def gE{ls:LN}(c:2<=ls.length)(h:(ls.map fun x=>2^(20-x)).sum=2^20):∀x∈ls,1<=x:=by
 intro x c;rcases Rx x with h0|h0
 ·subst h0;have hp:=Ip c;have c:=hp.length_eq;have hs:=(hp.map fun x=>2^(20-x)).sum_nat;rw[QV,Xm,h]at hs;simp only[QW]at c;cases he:ls.erase 0 with
  |nil=>rw[he]at c;simp at c;omega
  |cons y r=>rw[he,QV,Xm]at hs;have:0<2^(20-y):=DH _;omega
 exact h0
end K
namespace K
def UK(c:LN)(i j:Nat):Bool:=decide (c.getD i 0<c.getD j 0\/(c.getD j 0=c.getD i 0/\j<i))
def dM(c:LN)(i m:Nat):Nat:=(List.range m).countP (UK c i)
def VQ(c:LN)(i:Nat):Nat:=dM c i c.length
def RB(n p:Nat):Nat:=Nat.log2 n+if 2^(Nat.log2 n+1)-n<=p then 1 else 0
def Y9(c:LN):LN:=(List.range c.length).map fun d=>RB c.length (VQ c d)
def GE(c):(Y9 c).length=c.length:=by simp[Y9]
def Qde{n k:Nat}(h0:n≠0)(c:2^k<=n)(d:n<2^(k+1)):Nat.log2 n=k:=(Nat.log2_eq_iff h0).2 ⟨c,d⟩
def fP{n:Nat}(h0:n≠0):2^Nat.log2 n<=n/\n<2^(Nat.log2 n+1):=(Nat.log2_eq_iff h0).1 rfl
def dN{c L:LN}(hp:L.Perm (List.range c.length))(hs:L.Pairwise fun a b=>UK c a b=false)(p i)(h:L[p]?=some i):VQ c i=p:=by
 have e:L.Nodup:=hp.nodup_iff.2 Dy;obtain⟨g,j⟩:=Qy.1 h;have d:L=L.take p++i::L.drop (p+1):=by rw[<-j,<-Xf g,V3]
 unfold VQ dM;rw[<-hp.countP_eq,d,List.countP_append,Mx];rw[d]at hs e;rw[ED]at hs;obtain⟨-,g,j⟩:=hs;rw[CC]at e;have m:UK c i i=false:=by unfold UK;simp
 have l:(L.take p).countP (UK c i)=(L.take p).length:=by rw[Td];intro a ha;have d:=j a ha i sx;have:a≠i:=e.2.2 a ha i sx;unfold UK at d ⊢;rw[Cb]at d;rw[ZE];omega
 have e:(L.drop<|p+1).countP (UK c i)=0:=by rw[List.countP_eq_zero];intro b hb;have d:=(Vo.1 g).1 b hb;rw[d];simp
 rw[l,e,m];simp;omega
def dO(c):((List.range c.length).map<|VQ c).Perm (List.range c.length):=by
 let le:Nat->Nat->Bool:=fun a b=>!UK c a b
 have hp:((List.range c).mergeSort le).Perm (List.range c):=ME _ _;have hs:=MF (le:=le) (by
  intro a b d d e;simp only[le,UK,Bool.not_eq_true',Cb]at d e ⊢;omega) (by
  intro a b;simp only[le,UK,FK,Bool.not_eq_true',Cb];omega) (List.range c)
 have e:((List.range c).mergeSort le).Pairwise fun a b=>UK c a b=false:=by simpa[le]using hs
 generalize (List.range c).mergeSort le=L at hp e;have h:L.map (VQ c)=List.range c.length:=by
  apply XB;intro g;have d:=hp.length_eq;rw[VK]at d
  by_cases d:g<L
  ·rw[Zz,Qj d,Xl ox];simp only[Bg,Option.some.injEq];exact dN hp e g _<|Qj d
  rw[QU zx,QU zx]
 exact((hp.symm.map<|VQ c).trans<|by rw[h])
def mZ(g a b m):∀n,(∀p,p<m->g p=a)->(∀p,m<=p->g p=b)->((List.range n).map g).sum=(min m n)*a+(n-m)*b
 |0,_,_=>by simp
 |n+1,h1,h2=>by
  rw[J5,XC,List.sum_append_nat,mZ g a b m n h1 h2];simp only[QV,Y6,Xm,List.sum_nil,Jt];rcases Xw n m with c|c
  ·rw[h1 n c,(ox:min m (n+1)=min m n+1),(ox:n+1-m=0),(ox:n-m=0),V5];omega
  rw[h2 n c,(ox:min m (n+1)=min m n),(ox:n+1-m=(n-m)+1),V5];omega
def Qaf(c)(d:2<=c.length)(d:c.length<=258):((Y9 c).map fun x=>2^(20-x)).sum=2^20:=by
 have:=fP (n:=c.length) ox;have:Nat.log2 c.length<=8:=by
  rcases Xw (Nat.log2 c) 9 with d|d
  ·omega
  have:=Ju (n:=2) ox d;omega
 unfold Y9;rw[Xv];have e:(List.range c).map ((fun x=>2^(20-x))∘fun d=>RB c.length<|VQ c d)=((List.range c).map<|VQ c).map fun d=>2^(20-RB c d):=by rw[Xv];rfl
 rw[e,((dO c).map _).sum_nat,mZ (fun d=>2^(20-RB c d)) (2^(20-Nat.log2 c)) (2^(19-Nat.log2 c))<|2^(Nat.log2 c.length+1)-c.length]
 ·generalize Nat.log2 c=k at*
  have e:2^(20-k)=2*2^(19-k):=by rw[(ox:20-k=(19-k)+1),J9];omega
  have g:2^(k+1)*2^(19-k)=2^20:=by rw[<-EK,(ox:k+1+(19-k)=20)]
  have:2^(k+1)=2*2^k:=by rw[J9];omega
  rw[e,<-g];generalize 2^(19-k)=q at*
  generalize 2^(k+1)=r at*
  rw[(ox:min (r-c.length) c.length=r-c.length),show(r-c.length)*(2*q)=(2*(r-c.length))*q by rw[V6 2<|r-c.length,FZ],<-V5]
  congr 1
  omega
 ·intro d hp;unfold RB;rw[Qf ox];rfl
 intro d hp;unfold RB;rw[Qg hp]
 congr 1
 omega
def Qab{c x}(h:x∈Y9 c):Nat.log2 c.length<=x/\x<=Nat.log2 c.length+1:=by
 unfold Y9 at h;obtain⟨c,-,rfl⟩:=QA.1 h;unfold RB
 split<;>omega
end K
