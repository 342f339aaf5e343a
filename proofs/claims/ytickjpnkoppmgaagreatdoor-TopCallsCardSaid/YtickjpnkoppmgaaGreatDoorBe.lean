import Derived.Test.YtickjpnkoppmgaaGreatDoorBd
set_option linter.all false
namespace Go.Proofs.YtickjpnkoppmgaaGreatDoor
open Go.Proofs.Tryz Go.RowKit K
def Vst.bad_zero:∀{l:List Q4},Vst.bad l=0→∀f∈l,Yn f.1=true∧f.2.length≤8192
 | [],_=>by simp
 |f::l,h=>by
  rw[Vst.bad]at h
  split at h
  ·cases h
  split at h
  ·cases h
  rename_i q y;intro g o;rcases QB.1 o with rfl|o
  ·exact⟨by simpa using q,by omega⟩
  exact Vst.bad_zero h g o
def Rc(c:List UInt8→List UInt8)(l:List Q4)(p:List UInt8):List UInt8:=match l.find? (fun a=>a.1==p)with
 |some a=>a.2
 |none=>c p
def GC{c}:∀{l:List Q4},(l.map (·.1)).Nodup→∀{f:Q4},f∈l→Rc c l f.1=f.2
 | [],_,f,h=>by simp at h
 |g::l,o,f,h=>by
  rw[QO]at o;have o:=Rh.1 o;unfold Rc
  by_cases e:g.1=f.1
  ·rw[GO<|by simpa using e];rcases QB.1 h with h|h
   ·rw[h]
   exact absurd (e▸J5 h) o.1
  rw[KX<|by simpa using e];rcases QB.1 h with h|h
  ·exact absurd (by rw[h]) e
  exact GC o.2 h
def OJ{c l p}(a:∀f∈l,f.1≠p):Rc c l p=c p:=by unfold Rc;rw[GP.2 fun f hf=>by simpa using a f hf]
def Zj(l:List RM):Nat:=(l.map fun a=>a.eZ.toNat).sum
def Rj(s s':Vst):Prop:=∀b∈s.mem,∀a,b.start.toNat≤a→a<b.start.toNat+b.eZ.toNat→s'.dev.img[a]?=s.dev.img[a]?
structure JG(s s':Vst)(c':List UInt8→List UInt8)(k:Nat):Prop where
 ok:Vok s' c'
 cap:s'.dev.cap=s.dev.cap
 c0:s.dev.lZ≤s'.dev.lZ
 c1:s'.dev.lZ≤s.dev.lZ+k
def JG.refl{s c}(a:Vok s c)(k):JG s s c k:=⟨a,rfl,Ql _,Nat.le_add_right _ _⟩
def Rj.refl(s):Rj s s:=fun _ _ _ _ _=>rfl
def Vok.lenM{s c}(a:Vok s c){m}(b:m∈s.mem):m.start.toNat+m.eZ.toNat≤s.dev.img.length:=by
 obtain⟨d,d,d⟩:=a.inX b;have e:=(a.mems m b).holds.lt (by
  intro d;have:=Ak (m.path,c m.path);rw[d]at this;have:=(a.mems m b).eZ;simp at*
  omega)
 rw[Ak]at e;have:=(a.mems m b).eZ;omega
def Qdt{s:Vst}{l}(a:(s.put l).1≠0):(s.put l).2=s:=by
 unfold Vst.put at a ⊢
 by_cases b:Vst.bad l≠0
 ·rw[Qg b]
 rw[Qe b]at a ⊢
 by_cases b:¬(l.map (·.1)).Nodup
 ·rw[Qg b]
 rw[Qe b]at a ⊢
 by_cases b:16<(Zo s.mem<|l.map fun c=>Vst.noteF (c,(0,0))).length
 ·rw[Qg b]
 rw[Qe b]at a ⊢;cases h4:Vst.alloc s.dev.cap s.exts l with
 |none=>rfl
 |some xs=>
  simp only[h4]at a ⊢
  by_cases b:l=[]
  ·rw[Qg b]
  rw[Qe b]at a;exact absurd rfl a
def eK{α a}{f:α→a}{l:List α}(a:(l.map f).Nodup):l.Nodup:=by unfold List.Nodup at a ⊢;exact(VO.1 a).imp fun a b=>a<|Qq f b
def Gw{α}:∀l:List α,(l.map fun _=>1).sum=l.length
 | []=>rfl
 |x::l=>by rw[QO,Z8,Gw l,QZ];omega
def FN(s:Vst)(c:List UInt8→List UInt8):List Q4:=s.mem.map fun a=>(a.path,c a.path)
def dN:∀{F:List Q4}{L:List Q4},VT (·.1) L→(F.map (·.1)).Nodup→∀{x:Q4},x∈F.foldl (fun L f=>J2 (·.1) f L) L↔x∈F∨(x∈L∧∀f∈F,x.1≠f.1)
 | [],L,_,_,x=>by simp
 |f::F,L,hr,q,x=>by
  rw[QO]at q;have q:=Rh.1 q;rw[BR,dN (DA hr) q.2,EG hr];constructor
  ·rintro(h|⟨h|⟨h,h1⟩,y⟩)
   ·exact .inl<|X6 _ h
   ·exact .inl<|h▸Y1 ..
   exact .inr ⟨h,fun g o=>by
    rcases QB.1 o with rfl|o
    ·exact h1
    exact y g o⟩
  rintro(h|⟨h,y⟩)
  ·rcases QB.1 h with h|h
   ·exact .inr ⟨.inl h,fun g o e=>q.1 (by rw[←h,e];exact J5 o)⟩
   exact .inl h
  exact .inr ⟨.inr ⟨h,y f<|Y1 ..⟩,fun g o=>y g<|X6 _ o⟩
def gE:∀(F:List Q4){L:List Q4},VT (·.1) L→VT (·.1) (F.foldl (fun L f=>J2 (·.1) f L) L)
 | [],_,h=>h
 |f::F,L,h=>gE F<|DA h
def NV{l}(a:UR l)(c:List UInt8→List UInt8):VT (·.1) (l.map fun m=>((m.path,c m.path):Q4)):=VO.2 a
def Vok.put{s c}(j:Vok s c)(l)(a:s.dev.lZ+10000≤1000000000)(h0:(s.put l).1=0):
 JG s (s.put l).2 (Rc c l) (Zj (s.put l).2.mem+l.length+9)∧Rj s (s.put l).2∧FN (s.put l).2 (Rc c l)=l.foldl (fun L f=>J2 (·.1) f L) (FN s c):=by
 unfold Vst.put at h0 ⊢
 by_cases hb:Vst.bad l≠0
 ·rw[Qg hb]at h0;exact absurd h0 hb
 rw[Qe hb]at h0 ⊢
 by_cases p:¬(l.map (·.1)).Nodup
 ·rw[Qg p]at h0;cases h0
 rw[Qe p]at h0 ⊢
 by_cases h:16<(Zo s.mem<|l.map fun f=>Vst.noteF (f,(0,0))).length
 ·rw[Qg h]at h0;cases h0
 rw[Qe h]at h0 ⊢;have p:(l.map (·.1)).Nodup:=Decidable.not_not.1 p;have w:=Vst.bad_zero<|Decidable.not_not.1 hb;have i:∀f∈l,2≤ZU f∧ZU f≤200:=fun f hf=>by have o:=w f hf;exact(RA (YI o.1).2.2 o.2).2
 cases ha:Vst.alloc s.dev.cap s.exts l with
 |none=>rw[ha]at h0;cases h0
 |some xs=>
  simp only[ha]at h0 ⊢
  by_cases a:l=[]
  ·subst a;exact⟨JG.refl j _,Rj.refl s,rfl⟩
  simp only[Qe a]at h0 ⊢;obtain⟨u,m,r⟩:=Vst.alloc_spec (by have:=j.pZ;omega) j.ext (fun f hf=>by have:=i f hf;omega) ha;have t:∀a∈xs,a.1∈l:=fun a e=>u▸J5 e
  have g:(xs.map (·.1.1)).Nodup:=by rwa[←u,XG]at p
  have q:=fun b:RM=>Vst.mem_puts (xs:=xs) (l:=s.mem) j.rise g (m:=b)
  have O:xs.length=l.length:=by rw[←u,QG]
  have M:(Zo s.mem<|xs.map Vst.noteF).length≤16:=by
   have:=Tp (l:=s.mem) (l':=s.mem) (ns:=xs.map Vst.noteF) (ns':=l.map fun f=>Vst.noteF (f,(0,0))) rfl (by rw[←u,XG,XG,XG];rfl);have:=Qq List.length this;rw[QG,QG]at this;omega
  have:l.length≤16:=by
   have o:=GE (fun _:RM=>1) (l:=xs.map fun a=>(Vst.noteF a).2) (l':=Zo s.mem<|xs.map Vst.noteF) (by
    have:(xs.map fun a=>(Vst.noteF a).2).map (·.path)=xs.map (·.1.1):=(by rw[XG];rfl);rw[←this]at g;exact eK g) (fun b h=>by obtain⟨a,e,rfl⟩:=Qy.1 h;exact(q _).2 (.inl ⟨a,e,rfl⟩))
   rw[Gw,Gw,QG]at o;omega
  have:(xs.map fun a=>ZU a.1).sum≤Zj (Zo s.mem<|xs.map Vst.noteF):=by
   have o:=GE (fun b:RM=>b.eZ.toNat) (l:=xs.map fun a=>(Vst.noteF a).2) (l':=Zo s.mem<|xs.map Vst.noteF) (by
    have:(xs.map fun a=>(Vst.noteF a).2).map (·.path)=xs.map (·.1.1):=(by rw[XG];rfl);rw[←this]at g;exact eK g) (fun b h=>by obtain⟨a,e,rfl⟩:=Qy.1 h;exact(q _).2 (.inl ⟨a,e,rfl⟩))
   rw[XG]at o;refine QU (Nat.le_of_eq ?_) o
   congr 1
   refine Yu fun a e=>?_
   show ZU a.1=a.2.2.toNat;rw[r a e];rfl
  have:(xs.map fun a=>ZU a.1).sum≤200*xs.length:=by
   have:∀g:List (Q4 × QL),(∀a∈g,ZU a.1≤200)→(g.map fun a=>ZU a.1).sum≤200*g.length:=by
    intro g
    induction g with
    |nil=>simp
    |cons k g ih=>intro j;have o:=j k<|Y1 ..;have g:=ih fun a e=>j a<|X6 _ e;rw[QO,Z8,QZ];omega
   exact this xs fun a e=>(i _<|t a e).2
  have i:=j.room (l.length+1) (by omega);obtain⟨v,A,x,I⟩:=Vst.room_same s<|l.length+1;have y:=Vst.room_calls s<|l.length+1;have z:=Vst.room_next (s:=s) (n:=l.length+1) (by omega);have⟨g,n⟩:=qx<|s.room<|l.length+1;rw[n]at i v A x I y z ⊢;obtain⟨E,n⟩:=(YA _ _).1 m;have D:=DU.1 n;have n:ZX g.dev.cap (xs.map (·.2))=true:=(YA _ _).2 ⟨fun a e=>A▸E a (Pv _ e),D.2.1⟩;obtain⟨m,B,Q,C,z⟩:=OS (d:=g.dev) (cap:=g.dev.cap) i.dev rfl n (fun a e=>⟨r a e,(YI (w _<|t a e).1).2.2,(w _<|t a e).2⟩) (by omega);have x:∀b∈s.mem,∀a∈xs,Uv (Xj b) a.2:=fun b h a e=>D.2.2 _ (J5 h) _<|J5 e
  have G:Vok (g.write xs) c:=by
   refine⟨⟨m.c1,m.c2,m.len,m.sec,?_⟩,?_,?_,i.next,i.rise,i.few,fun b h=>(i.mems b h).img fun n=>?_,?_⟩
   ·show(Yp g.dev xs).lZ+1≤_;omega
   ·show 31≤(Yp g.dev xs).cap;rw[B];exact i.pZ
   ·have:=i.gen;show g.gen≤(Yp g.dev xs).lZ+1;omega
   ·have m:b∈s.mem:=v▸h;have hi:=j.inX m;refine C (Xj b) _ (by show 0≤b.start;omega) (fun a e=>x b m a e) ?_ n;rw[Ak,←(i.mems b h).eZ];exact Bg _
   show ZX (Yp g.dev xs).cap g.exts=true;rw[B];exact i.ext
  have P:∀b∈Zo (g.write xs).mem (xs.map Vst.noteF),Bk (g.write xs).dev.img b (Rc c l b.path):=by
   intro b h;have i:b∈Zo s.mem (xs.map Vst.noteF):=v▸h;rcases(q b).1 i with⟨a,e,rfl⟩|⟨y,n⟩
   ·have i:=t a e;have m:Rc c l a.1.1=a.1.2:=GC p i;show Bk _ _ (Rc c l a.1.1);rw[m];exact⟨(w _ i).1,(w _ i).2,rfl,rfl,r a e,z a e⟩
   have m:Rc c l b.path=c b.path:=OJ (fun f hf m=>by rw[←u]at hf;obtain⟨a,e,rfl⟩:=Qy.1 hf;exact n a e m.symm);rw[m];exact G.mems b (by show b∈g.mem;rwa[v])
  have H:UR (Zo s.mem<|xs.map Vst.noteF):=NT j.rise;have J:ZX (g.write xs).dev.cap ((Zo (g.write xs).mem<|xs.map Vst.noteF).map Xj)=true:=by
   show ZX (Yp g.dev xs).cap ((Zo g.mem<|xs.map Vst.noteF).map Xj)=true;rw[B,v,A];refine Mx H (fun b h=>?_) fun i ha z hb n=>?_
   ·rcases(q b).1 h with⟨a,e,rfl⟩|⟨y,-⟩
    ·exact E a.2<|Pv _<|J5 e
    exact j.inX y
   rcases(q i).1 ha with⟨a,e,rfl⟩|⟨E,-⟩<;>rcases(q z).1 hb with⟨k,r,rfl⟩|⟨F,-⟩
   ·exact Kc (R:=fun i z:Q4 × QL=>Uv i.2 z.2) (fun j=>j.symm) (VO.1 D.2.1) e r (fun m=>n<|by rw[m])
   ·exact(x z F a e).symm
   ·exact x i E k r
   exact j.apart E F n
  have z:(xs.map Vst.noteF).length=l.length:=by rw[QG,O]
  have i:(g.write xs).dev.lZ=g.dev.lZ+(xs.map fun a=>ZU a.1).sum+1:=by show(Yp g.dev xs).lZ+1=_;rw[Q]
  have E:=G.commit (ns:=xs.map Vst.noteF) (c':=Rc c l) (by rw[z];show g.next+l.length+1≤20;omega) (fun D n=>by obtain⟨a,e,rfl⟩:=Qy.1 n;exact(YI (w _<|t a e).1).2.2) (by show(Zo g.mem _).length≤16;rw[v];exact M) P J (by rw[z,i];omega);have w:((g.write xs).commit<|xs.map Vst.noteF).dev.lZ=(g.write xs).dev.lZ+(l.length+1)+1:=by show _+(RE _ _ _).length+1=_;rw[Cx,z]
  have D:((g.write xs).commit<|xs.map Vst.noteF).mem=Zo s.mem (xs.map Vst.noteF):=by rw[←v];rfl
  refine⟨⟨E,by show(Yp g.dev xs).cap=_;rw[B,A],by rw[w,i];omega,by rw[w,i,D];omega⟩,fun b h i v v=>?_,?_⟩
  ·have:=j.lenM h;have:=j.inX h;have:30≤i:=(by omega);have o:((g.write xs).commit<|xs.map Vst.noteF).dev.img[i]?=(Yp g.dev xs).img[i]?:=by
    refine CI _ _ _ _ (.inr ?_) ?_
    ·rw[Cx,z];show 10+g.next+(l.length+1)≤i;omega
    show i<(Yp g.dev xs).img.length;have v:i<g.dev.img.length:=(by omega);have:=C (b.start,b.eZ) [g.dev.img[b.start.toNat]'(by omega)] (by omega) (fun a e=>x b h a e) (by simp;omega) (fun w a hk=>by
     cases w with
     |zero=>simp at hk;subst hk;simp
     |succ w=>simp at hk)
    have z:=C (b.start,b.eZ) (((g.dev.img.drop b.start.toNat).take b.eZ.toNat)) (by omega) (fun a e=>x b h a e) (by simp;omega) (fun w a hk=>by have:=(Qz.1 hk).1;simp at this;rwa[CO<|by omega,Uq]at hk);have:=z (i-b.start.toNat) (g.dev.img[i]'v) (by rw[CO<|by omega,Uq,show b.start.toNat+(i-b.start.toNat)=i by omega];exact Qj v);rw[show(b.start,b.eZ).1.toNat+(i-b.start.toNat)=i by simp;omega]at this;exact(Qz.1 this).1
   have v:i<g.dev.img.length:=(by omega);have z:=C (b.start,b.eZ) (((g.dev.img.drop b.start.toNat).take b.eZ.toNat)) (by omega) (fun a e=>x b h a e) (by simp;omega) (fun w a hk=>by have:=(Qz.1 hk).1;simp at this;rwa[CO<|by omega,Uq]at hk);have:=z (i-b.start.toNat) (g.dev.img[i]'v) (by rw[CO<|by omega,Uq,show b.start.toNat+(i-b.start.toNat)=i by omega];exact Qj v);rw[show(b.start,b.eZ).1.toNat+(i-b.start.toNat)=i by simp;omega]at this;rw[o,this,←I i (by omega) (by omega)];exact(Qj v).symm
  refine Kj (pt:=(·.1)) (NV (by rw[D];exact H) _) (gE l<|NV j.rise c) fun a=>?_
  unfold FN;rw[dN (NV j.rise c) p,D];constructor
  ·intro e;obtain⟨b,h,rfl⟩:=Qy.1 e;rcases(q b).1 h with⟨k,r,rfl⟩|⟨y,n⟩
   ·left;show(k.1.1,Rc c l k.1.1)∈l;rw[GC p<|t k r];exact t k r
   right;have g:∀f∈l,f.1≠b.path:=fun f hf m=>by rw[←u]at hf;obtain⟨a,e,rfl⟩:=Qy.1 hf;exact n a e m.symm
   refine⟨Qy.2 ⟨b,y,by rw[OJ g]⟩,fun f hf m=>g f hf m.symm⟩
  rintro(e|⟨e,n⟩)
  ·have a:=e;rw[←u]at a;obtain⟨k,r,rfl⟩:=Qy.1 a;refine Qy.2 ⟨(Vst.noteF k).2,(q _).2 (.inl ⟨k,r,rfl⟩),?_⟩;show(k.1.1,Rc c l k.1.1)=k.1;rw[GC p e]
  obtain⟨b,h,rfl⟩:=Qy.1 e;refine Qy.2 ⟨b,(q _).2 (.inr ⟨h,fun k r m=>n k.1 (t k r) m⟩),?_⟩;rw[OJ fun f hf m=>n f hf m.symm]
def Vst.find_zero{s:Vst}{p}(h:(s.find p).1=0):Yn p=true∧(s.find p).2∈s.mem∧(s.find p).2.path=p:=by
 unfold Vst.find at h ⊢
 split
 ·rename_i o;rw[Qg o]at h;cases h
 rename_i o;cases hf:s.mem.find? (fun m=>m.path==p)with
 |none=>rw[Qe o,hf]at h;cases h
 |some m=>exact⟨by simpa using o,Px hf,by simpa using List.find?_some hf⟩
def Vok.find{s c}(a:Vok s c){m}(d:m∈s.mem):s.find m.path=(0,m):=by
 unfold Vst.find;rw[Qe (by rw[(a.mems m d).ok];simp)];cases hf:s.mem.find? (fun b=>b.path==m.path)with
 |none=>exact absurd (GP.1 hf m d) (by simp)
 |some b=>
  have f:=Px hf;have g:b.path=m.path:=by simpa using List.find?_some hf
  have:b=m:=Classical.byContradiction fun h=>by have:=Kc (R:=fun b e:RM=>b.path≠e.path) (fun a=>a.symm) (a.rise.imp fun a=>EE a) f d h;exact this g
  rw[this]
def Vok.only{s c}(d:Vok s c){a b}(ha:a∈s.mem)(hb:b∈s.mem)(e:a.path=b.path):a=b:=by have f:=d.find ha;rw[e,d.find hb]at f;exact(Prod.mk.inj f).2.symm
def Vok.del{s c}(e:Vok s c)(p)(a:s.dev.lZ+10000≤1000000000)(h0:(s.del p).1=0):
 JG s (s.del p).2 c 9∧Rj s (s.del p).2∧(s.del p).2.mem=Dl p s.mem:=by
 unfold Vst.del at h0 ⊢
 by_cases hf:(s.find p).1≠0
 ·rw[Qg hf]at h0;exact absurd h0 hf
 rw[Qe hf];obtain⟨hp,-,-⟩:=Vst.find_zero<|Decidable.not_not.1 hf;have h:=e.room 2 (by omega);obtain⟨i,j,d,k⟩:=Vst.room_same s 2;have f:=Vst.room_calls s 2;have g:=Vst.room_next (s:=s) (n:=2) (by omega);have⟨a,b⟩:=qx<|s.room 2;rw[b]at h i j d k f g ⊢;have ha:Zo a.mem [(false,(⟨p,0,0,0,0⟩:RM))]=Dl p s.mem:=by rw[i];rfl
 have f:∀d∈Dl p s.mem,d∈s.mem:=fun d b=>(dM.1 b).1
 have l:=h.commit (ns:=[(false,⟨p,0,0,0,0⟩)]) (c':=c) (by show a.next+1+1≤20;omega) (fun g g=>by rw[Q8.1 g];exact(YI hp).2.2)
  (by rw[ha];exact QU (Fk _ _) e.few) (fun d b=>h.mems d (by rw[i];rw[ha]at b;exact f d b))
  (by rw[ha,j];exact Mx (NU e.rise) (fun d b=>e.inX<|f d b) fun h ha i hb g=>e.apart (f h ha) (f i hb) g) (by show a.dev.lZ+1+2≤_;omega)
 have f:(a.commit [(false,⟨p,0,0,0,0⟩)]).dev.lZ=a.dev.lZ+3:=by show a.dev.lZ+(RE _ _ _).length+1=_;rw[Cx];rfl
 refine⟨⟨l,j,by show _≤(a.commit _).dev.lZ;rw[f];omega,by show(a.commit _).dev.lZ≤_;rw[f];omega⟩,fun d b d f f=>?_,ha⟩;have hi:=e.inX b;have:=e.lenM b;show(wrL a.dev.img (10+a.next) _)[d]?=_;rw[CI _ _ _ _ (.inr (by rw[Cx];show 10+a.next+(1+1)≤d;omega))<|by omega,k d (by omega)<|by omega]
def Vok.sct{s c}(a:Vok s c){m}(b:m∈s.mem):s.sct m=YZ (m.path,c m.path):=by
 have d:=(a.mems m b).holds;have:=a.lenM b;have:m.eZ.toNat=(YZ (m.path,c m.path)).length:=by rw[Ak,(a.mems m b).eZ];rfl
 unfold Vst.sct;refine Xu fun a=>?_
 by_cases hk:a<m.eZ.toNat
 ·rw[CO hk,Uq,Qj (l:=YZ _)<|by omega];exact d a _ (Qj<|by omega)
 rw[QW (by simp;omega),QW<|by omega]
def Vok.move_to{s c}(b:Vok s c){m}(i:m∈s.mem){tg}(a:ZX s.dev.cap (s.exts++[(tg,m.eZ)])=true)(d:s.dev.lZ+10000≤1000000000):
 ∃s',s.move m.path tg=(0,s')∧JG s s' c (2*m.eZ.toNat+10)∧Rj s s'∧(∀x,x∈s'.mem↔x={m with start:=tg}∨(x∈s.mem∧x.path≠m.path))∧
  s'.mem.map (fun x=>(x.path,x.eZ))=s.mem.map (fun x=>(x.path,x.eZ)):=by
 have d:=b.find i;unfold Vst.move;simp only[d];rw[Qe<|by simp,Qe (by rw[a];simp)];refine⟨_,rfl,?_⟩;obtain⟨d,e⟩:=(YA _ _).1 a;have g:=DU.1 e;obtain⟨C,t2,t3⟩:=d (tg,m.eZ) (by simp);have o:∀x∈s.mem,Uv (Xj x) (tg,m.eZ):=fun x a=>g.2.2 _ (J5 a) _ (by simp)
 have q:=b.sct i;have g:=b.mems m i;have r:(s.sct m).length=m.eZ.toNat:=by rw[q,Ak,g.eZ];rfl
 have p:=b.plen i;have:=RA (f:=(m.path,c m.path)) p g.big;have:=g.eZ;have j:=b.room 2 (by omega);obtain⟨k,u,h,z⟩:=Vst.room_same s 2;have l:=Vst.room_calls s 2;have n:=Vst.room_next (s:=s) (n:=2) (by omega);have⟨e,d⟩:=qx<|s.room 2;rw[d]at j k u h z l n ⊢;obtain⟨d,h⟩:∃d:Vst,{e with dev:=(e.dev.wr tg.toNat<|s.sct m).tick (m.eZ.toNat+1)}=d:=⟨_,rfl⟩;rw[h];have l:d.mem=s.mem:=by rwa[←h]
 have q2:d.dev.cap=s.dev.cap:=by rwa[←h]
 have n:d.dev.img=wrL e.dev.img tg.toNat (s.sct m):=by rw[←h];rfl
 have y:d.dev.lZ=e.dev.lZ+2*m.eZ.toNat+1:=by rw[←h];show e.dev.lZ+(s.sct m).length+(m.eZ.toNat+1)=_;omega
 have t:d.next=e.next:=by rw[←h]
 have B:d.gen=e.gen:=by rw[←h]
 have w:d.dev.Ok:=by rw[←h];exact j.dev.wrL (by rw[r,u];omega) (by rw[q];exact Gs p g.big) _ (by omega)
 have v:∀x∈s.mem,Bk d.dev.img x (c x.path):=fun x a=>(j.mems x<|by rwa[k]).img fun h=>by rw[n];have k:=o x a;have hi:=b.inX a;unfold Uv Xj at k;refine h.wr _ ?_;rw[Ak,r];have:=(b.mems x a).eZ;simp only[]at k;omega
 have A:Vok d c:=⟨w,by rw[q2];exact b.pZ,by rw[B,y];have:=j.gen;omega,by rw[t];exact j.next,by rw[l];exact b.rise,by rw[l];exact b.few,fun x a=>v x<|l▸a,by unfold Vst.exts;rw[q2,l];exact b.ext⟩;have h:∀x,x∈Vd {m with start:=tg} s.mem↔x={m with start:=tg}∨(x∈s.mem∧x.path≠m.path):=fun x=>EG b.rise
 have ha:Zo d.mem [(true,{m with start:=tg})]=Vd {m with start:=tg} s.mem:=by rw[l];rfl
 have y:=DA (m:=({m with start:=tg}:RM)) b.rise;have w:(Vd {m with start:=tg} s.mem).map (fun x=>(x.path,x.eZ))=s.mem.map (fun x=>(x.path,x.eZ)):=by
  refine Kj (α:=List UInt8 × Int) (pt:=fun x=>x.1) (VO.2 y) (VO.2 b.rise) fun x=>?_
  constructor
  ·intro a;obtain⟨l,j,rfl⟩:=Qy.1 a;rcases(h l).1 j with rfl|⟨j,-⟩
   ·exact Qy.2 ⟨m,i,rfl⟩
   exact Qy.2 ⟨l,j,rfl⟩
  intro a;obtain⟨l,j,rfl⟩:=Qy.1 a
  by_cases u:l.path=m.path
  ·have:=b.only j i u;subst this;exact Qy.2 ⟨_,(h _).2 (.inl rfl),rfl⟩
  exact Qy.2 ⟨l,(h _).2 (.inr ⟨j,u⟩),rfl⟩
 have u:(Vd {m with start:=tg} s.mem).length=s.mem.length:=by have:=Qq List.length w;rwa[QG,QG]at this
 have B:ZX d.dev.cap ((Zo d.mem [(true,{m with start:=tg})]).map Xj)=true:=by
  rw[ha,q2];refine Mx y (fun x a=>?_) fun j ha l hb i=>?_
  ·rcases(h x).1 a with rfl|⟨a,-⟩
   ·exact⟨C,t2,t3⟩
   exact b.inX a
  rcases(h j).1 ha with rfl|⟨ha,y⟩<;>rcases(h l).1 hb with rfl|⟨hb,y⟩
  ·exact absurd rfl i
  ·exact(o l hb).symm
  ·exact o j ha
  exact b.apart ha hb i
 have j:=A.commit (ns:=[(true,{m with start:=tg})]) (c':=c) (by rw[t];show e.next+1+1≤20;omega) (fun l i=>by rwa[Q8.1 i]) (by rw[ha,u];exact b.few)
  (fun x a=>by
   rw[ha]at a;rcases(h x).1 a with rfl|⟨a,-⟩
   ·exact⟨g.ok,g.big,g.size,g.sum,g.eZ,by rw[n,q];exact OT _ _ _⟩
   exact v x a) B (by show d.dev.lZ+1+2≤_;omega)
 have g:(d.commit [(true,{m with start:=tg})]).dev.lZ=d.dev.lZ+3:=by show d.dev.lZ+(RE _ _ _).length+1=_;rw[Cx];rfl
 refine⟨⟨j,q2,by rw[g];omega,by rw[g];omega⟩,fun x a g i i=>?_,fun x=>by rw[←h,←ha];rfl,by rw[←w,←ha];rfl⟩;have hi:=b.inX a;have:=b.lenM a;have k:=o x a;unfold Uv Xj at k;simp only[]at k;show(wrL d.dev.img (10+d.next) _)[g]?=_;rw[CI _ _ _ _ (.inr (by rw[Cx,t];show 10+e.next+(1+1)≤g;omega)) (by rw[n,KC];split<;>omega),n,CI _ _ _ _ (by rw[r];omega)<|by omega,z g (by omega)<|by omega]
def WO{s s' c}(a:s'.mem.map (fun x=>(x.path,x.eZ))=s.mem.map (fun x=>(x.path,x.eZ))):FN s' c=FN s c∧Zj s'.mem=Zj s.mem:=by have b:=Qq (List.map fun x:List UInt8 × Int=>((x.1,c x.1):Q4)) a;have d:=Qq (List.map fun x:List UInt8 × Int=>x.2.toNat) a;rw[XG,XG]at b d;exact⟨b,Qq List.sum d⟩
def Vst.move_none{s:Vst}{p tg}(a:(s.move p tg).1≠0):(s.move p tg).2=s:=by
 unfold Vst.move at a ⊢
 by_cases b:(s.find p).1≠0
 ·rw[Qg b]
 rw[Qe b]at a ⊢
 by_cases b:ZX s.dev.cap (s.exts++[(tg,(s.find p).2.eZ)])=false
 ·rw[Qg b]
 rw[Qe b]at a;exact absurd rfl a
def Vok.move{s c}(i:Vok s c){p tg}(j:s.dev.lZ+10000≤1000000000)(h0:(s.move p tg).1=0):
 ∃m∈s.mem,JG s (s.move p tg).2 c (2*m.eZ.toNat+10)∧Rj s (s.move p tg).2∧(s.move p tg).2.mem.map (fun x=>(x.path,x.eZ))=s.mem.map (fun x=>(x.path,x.eZ)):=by
 by_cases a:(s.find p).1≠0
 ·unfold Vst.move at h0;rw[Qg a]at h0;exact absurd h0 a
 obtain⟨hp,d,e⟩:=Vst.find_zero<|Decidable.not_not.1 a
 by_cases b:ZX s.dev.cap (s.exts++[(tg,(s.find p).2.eZ)])=false
 ·unfold Vst.move at h0;rw[Qe a,Qg b]at h0;cases h0
 obtain⟨a,a,f,g,-,h⟩:=i.move_to d (by simpa using b) j;rw[e]at a;exact⟨_,d,by rw[a];exact⟨f,g,h⟩⟩
def Vst.endX_ge:∀(l:List QL)(a:Int),a≤l.foldl (fun e x=>max e<|x.1+x.2) a∧∀x∈l,x.1+x.2≤l.foldl (fun e x=>max e<|x.1+x.2) a
 | [],a=>⟨Bg _,by simp⟩
 |y::l,a=>by
  obtain⟨b,c⟩:=Vst.endX_ge l<|max a<|y.1+y.2;rw[BR];refine⟨by omega,fun x b=>?_⟩;rcases QB.1 b with rfl|b
  ·omega
  exact c x b
def Vst.endX_le{b}:∀(l:List QL)(a:Int),a≤b→(∀x∈l,x.1+x.2≤b)→l.foldl (fun e x=>max e<|x.1+x.2) a≤b
 | [],a,h,_=>h
 |y::l,a,h,hl=>by rw[BR];have:=hl y (by simp);exact Vst.endX_le l _ (by omega) fun x c=>hl x (by simp[c])
def Vok.trim{s c}(h:Vok s c)(hc:s.dev.lZ+10000≤1000000000):
 s.trim.1=0∧JG s s.trim.2 c 2∧Rj s s.trim.2∧s.trim.2.mem=s.mem∧(s.trim.2.dev.img.length:Int)≤Vst.endX s.exts:=by
 unfold Vst.trim
 split
 ·rename_i h1;exact⟨rfl,JG.refl h _,Rj.refl s,rfl,h1⟩
 rename_i h1;obtain⟨g1,g2⟩:=Vst.endX_ge s.exts 30;have h4:∀m∈s.mem,m.start.toNat+m.eZ.toNat≤(Vst.endX s.exts).toNat:=fun m o=>by have:=g2 (Xj m)<|J5 o;have hi:=h.inX o;unfold Vst.endX;simp only[Xj]at this;omega
 have g3:(30:Int)≤Vst.endX s.exts:=g1;have q:=h.dev;have hg:=h.gen;refine⟨rfl,⟨⟨⟨q.c1,q.c2,?_,?_,?_⟩,h.pZ,?_,h.next,h.rise,h.few,fun m o=>(h.mems m o).img fun h3=>?_,h.ext⟩,rfl,?_,?_⟩,fun m o i h2 h3=>?_,rfl,?_⟩
 ·have:=q.len;show(s.dev.img.take _).length≤_;rw[Zn];exact QU (Nat.min_le_right _ _) this
 ·exact fun y hy=>q.sec y<|VN hy
 ·show s.dev.lZ+1+1≤_;omega
 ·show s.gen≤s.dev.lZ+1+1;omega
 ·refine h3.take _ ?_;have:=h4 m o;have:=(h.mems m o).eZ;rw[Ak];omega
 ·show s.dev.lZ≤s.dev.lZ+1+1;omega
 ·show s.dev.lZ+1+1≤_;omega
 ·have:=h4 m o;show(s.dev.img.take _)[i]?=_;rw[CO<|by omega]
 show((s.dev.img.take _).length:Int)≤_;rw[Zn];omega
def Jk(w:World)(v:Value)(xs:List Value):Prop:=∃a cap b,v=.slice (some ⟨a,0,none⟩) xs.length cap∧QI w a (xs++b)∧cap=xs.length+b.length∧cap≤maxLen
def Jk.kept{S w w' v xs}(b:Jk w v xs)(hk:Qb S w w')(e:∀k∈Qd v,k∉S):Jk w' v xs:=by obtain⟨a,cap,f,rfl,hb,c,d⟩:=b;exact⟨a,cap,f,rfl,hb.kept hk<|e a<|by simp[Qd,qo],c,d⟩
def Jk.lt{w v xs}(b:Jk w v xs):∀k∈Qd v,k<w.heap.size:=by
 obtain⟨a,cap,c,rfl,hb,c,c⟩:=b;intro k hk;have:k=a:=by simpa[Qd,qo]using hk
 subst this;exact hb.lt
def Jk.open{w v xs}(a:Jk w v xs):∃g cap,v=.slice (some ⟨g,0,none⟩) xs.length cap∧QI w g xs∧xs.length≤cap∧cap≤maxLen:=by obtain⟨g,cap,b,rfl,hb,b,h⟩:=a;obtain⟨e,i,f,a,b,c,d⟩:=hb;refine⟨g,cap,rfl,⟨e,i,f,a,by simp at b;omega,fun a b hi=>c a b ?_,fun a hi=>d a (by simp;omega)⟩,by omega,h⟩;rwa[Xo (Qz.1 hi).1]
def Jk.cut{w}{g n cap:Nat}{xs}(a:Jk w (.slice g n cap) xs)(m)(b:m≤n):Jk w (.slice g m cap) (xs.take m):=by
 obtain⟨b,b,d,c,hb,b,b⟩:=a;injection c with a e2 e3;injection a with a;injection a with a;subst a e2 e3;have a:(xs.take m).length=m:=by simp;omega
 refine⟨g,cap,xs.drop m++d,by rw[a],?_,by simp;omega,b⟩;rwa[←QN,VP]
def Qe7{P}(w t u ty e z bytes)(ht:P.underlying t=some (.slice e))(o:P.underlying u=some (.int .i64))(T:(P.info? e).map (fun i=>(i.zero,i.size,i.bytes))=some (some z,1,bytes))(hz:z.cells=#[z])(h1:z.oneCell'=true)(v xs)(x6:Jk w v xs)(m)(hM:xs.length+m≤maxLen)(hb:(xs.length+m)*bytes≤140737488355328):
 ∃v' w',(Builtin.append_ #[t,u] ty #[v,(m:Int)]).run P w=.ok v' w'∧Jk w' v' (xs++List.replicate m z)∧Qb (Qd v) w w'∧QT w.heap.size (Qd v) (Qd v'):=by
 obtain⟨i,hi,h0,h3,x8⟩:=Vc T;subst x8;have y2:xs.length+m≤9223372036854775807:=by simp only[maxLen]at hM;omega
 have hw:IntKind.i64.wrap (m:Int)=(m:Int):=Q2 _ (by omega);have hn:¬((m:Int)<0):=by omega
 have y4:m*i.bytes≤140737488355328:=QU (As _<|by omega) hb;have x5:¬((2:Int)^48<(m:Int)*i.bytes):=by
  have:((m*i.bytes:Nat):Int)=m*(i.bytes:Int):=by push_cast;rfl
  rw[←this];omega
 have h5:¬(281474976710656<(m:Int)*i.bytes):=by simpa using x5
 have y0:=OX z m hz;have ha:∀(x:Int)(W:World),Sem.run P (asInt<|.int .i64 x) W=.ok x W:=fun _ _=>rfl
 have x9:IntKind.i64.wrap 0=0:=by decide
 obtain⟨g,cap,h,rfl,h4,hc,x2⟩:=x6
 by_cases h2:xs.length+m≤cap
 ·obtain⟨w',y,x0,hk⟩:=Ko (P:=P) g (xs.length*1) (List.replicate m z) 0 (xs++h) w h4 (by simp;omega) (fun u o=>by rwa[BQ o]);have x1:QI w' g ((xs++List.replicate m z)++h.drop m):=by
   have e:List.take (xs.length*1+0) (xs++h)++List.replicate m z++List.drop (xs.length*1+0+(List.replicate m z).length) (xs++h)=(xs++List.replicate m z)++h.drop m:=(by rw[RS,Y6,Ap,List.take_left' rfl,Ff];simp);rwa[e]at x0
  refine⟨.slice g (xs.length+m) cap,w',?_,⟨g,cap,h.drop m,by simp,x1,by simp;omega,x2⟩,hk.mono<|by simp[Qd,qo],fun x hx=>.inl<|by simpa[Qd,qo]using hx⟩
  by_cases q:m=0
  ·subst q;have x7:xs.length≤cap:=h2;simp[storeCells]at y;subst y;simp[Builtin.append_,YR ht,YR o,sizeOf,typeInfo,hi,h3,ha,x9,x7,storeCells]
  simp only[RS]at y;simp[Builtin.append_,YR ht,YR o,sizeOf,typeInfo,zeroValue,hi,h0,h3,ha,hw,hn,h5,q,h2,YK,y0];rw[y];rfl
 have holds:∀j u,xs[j]?=some u→w.cell? ((⟨g,0,none⟩:Addr).add j)=some u:=fun j u hj=>by rw[YK,Zz];exact h4.cell (by rwa[Xo (Qz.1 hj).1])
 have y3:=grownCap_ge w (xs.length+m) cap e;have x3:=MD w (xs.length+m) cap e hM;have x4:=run_firstCells_some (P:=P) w.drew 1 xs.length ⟨g,0,none⟩ xs.length cap xs (by simp) (by simpa using holds);have h9:¬(9223372036854775807<((xs.length:Int)+m)):=by omega
 have h8:¬(281474976710656<Builtin.nextslicecap (xs.length+m) cap*i.bytes):=by have:=IC (need:=xs.length+m) (old:=cap) (by omega) hb;omega
 have q:m≠0:=by omega
 refine⟨.slice w.heap.size (xs.length+m)<|grownCap w (xs.length+m) cap e,w.drew.alloc<|.cells ((xs++List.replicate m z)++List.replicate (grownCap w (xs.length+m) cap e-(xs.length+m)) z).toArray e,?_,
  ⟨w.heap.size,_,List.replicate (grownCap w (xs.length+m) cap e-(xs.length+m)) z,by simp,QI.new w.drew _ e,by simp;omega,x3⟩,((Qc _ w).drew).alloc _,fun x hx=>.inr (by simp[Qd,qo]at hx;omega)⟩
 have y1:∀k,Builtin.zeroCells z.cells k=(List.replicate k z).toArray:=fun k=>by rw[←OX z k hz]
 simp[Builtin.append_,YR ht,YR o,sizeOf,typeInfo,zeroValue,hi,h0,h3,ha,hw,hn,h5,q,h2,h9,h8,Question.forced,x4,newRow,grownCap,y1]
 congr 2
 exact Array.ext' (by simp)
def Qe9{P}(w e l m b g a d f)(s:ByteArray)(xs)(c:P.underlying e=some (.slice b))(hs:(P.info? b).map (·.size)=some 1)(h:QI w g xs)(k:s.size≤d)(j:a+s.size≤xs.length):
 ∃w',(Builtin.copy_ #[e,l] m #[.slice (some ⟨g,a,none⟩) d f,s]).run P w=.ok (goInt s.size) w'∧QI w' g (splice xs a<|Qm s.data.toList)∧Qb [g] w w':=by
 have d:(Qm s.data.toList).length=s.size:=by simp[Qm]
 obtain⟨w',e,hb,hk⟩:=Ko (P:=P) g a (Qm s.data.toList) 0 xs w h (by rwa[d]) (fun a c=>by obtain⟨a,-,rfl⟩:=Qy.1 c;rfl);refine⟨w',?_,by simpa[splice,d]using hb,hk⟩;cases hq:P.info? b with
 |none=>simp[hq]at hs
 |some i=>
  have hi:i.size=1:=by simpa[hq]using hs
  have:(s.extract 0 s.size)=s:=by simp
  have:(Array.map (fun a:UInt8=>Value.int .u8 (a.toNat:Int)) s.data).toList=Qm s.data.toList:=by simp[Qm]
  simp[Builtin.copy_,YR c,Builtin.lenOf,Builtin.firstCells,sizeOf,typeInfo,hq,hi,GY k];rw[show List.map (fun a:UInt8=>Value.int .u8 (a.toNat:Int)) s.data.toList=Qm s.data.toList from rfl,Zd<|by omega,e];rfl
section
def Dk(w:World)(d:Nat)(a b:Value)(s:QF):Prop:=
 (∃kv,Qf w d 91 [s.cap,kv,a,b,(0:Int),.slice none 0 0,.bool false,s.lZ])∧Jk w a (Qm s.img.flatten)∧(∃c,Qh w 246 b c∧c.length≤s.lZ)∧
 (d::(Qd a++Qd b)).Nodup
abbrev Q6(d:Nat)(nv pv:Value):List Nat:=d::(Qd nv++Qd pv)
def Dk.kept{S w w' d b c s}(a:Dk w d b c s)(hk:Qb S w w')(ha:Qr (Q6 d b c) S):Dk w' d b c s:=by obtain⟨⟨kv,b⟩,e,⟨c,f,h⟩,g⟩:=a;exact⟨⟨kv,b.kept hk<|ha d<|by simp⟩,e.kept hk fun b a=>ha b<|by simp[a],⟨c,f.kept hk fun b a=>ha b<|by simp[a],h⟩,g⟩
def Dk.kZ{w w' d a b s}(c:Dk w d a b s)(hk:Qb [] w w'):Dk w' d a b s:=c.kept hk<|Z9 _
def Dk.lt{w d a b s}(c:Dk w d a b s):∀x∈Q6 d a b,x<w.heap.size:=by
 obtain⟨⟨kv,b⟩,e,⟨a,f,-⟩,a⟩:=c;intro x a;simp at a;rcases a with rfl|a|a
 ·exact b.lt
 ·exact e.lt x a
 exact f.lt x a
def Qfs{P}(t e)(i:TypeInfo)(l:P.underlying t=some (.slice e))(hi:P.info? e=some i)(h:i.size=1)(b d n c lo a:Nat)(x f)(j:x=(lo:Int))(m:f=(a:Int))(g:lo≤a)(k:a≤c)(o:lo<c)(W):
 (Instr.slice t (.slice (some ⟨b,d,none⟩) n c) (some<|.int .i64 x) (some<|.int .i64 f) none).run P W=.ok (.slice (some ⟨b,d+lo,none⟩) (a-lo)<|c-lo) W:=by
 subst j m;obtain⟨d,f,j⟩: ¬c=lo∧(lo:Int)≤a∧(a:Int)≤c:=by omega
 simp[Instr.slice,YR l,sizeOf,typeInfo,hi,h,Instr.sliceBounds,Instr.sliceBound,asIntOf,f,j,g,k,d,YK]
def QI.textAt{w g L l}(b:QI w g (Qm L))(a n cap)(c:(L.drop a).take n=l)(e:l.length=n):(convert 88 9<|.slice (some ⟨g,a,none⟩) n cap).run prog w=.ok (.string<|str l) w:=by
 subst c;have b:=gU w _ _ _ ⟨g,a,none⟩ cap ((L.drop a).take n) ZW Uu Xc (fun f c=>by
  rw[YK];refine b.cell ?_;have d:a+f<L.length:=by simp at c;omega
  simp[Qm,Qj d])
 rwa[e]at b
def K.Qid{img:List (List UInt8)}{i:Nat}{x:List UInt8}(e:∀c∈img,c.length=512)(f:x.length=512):
 Qm (JV img i x).flatten=splice (Qm img.flatten++List.replicate (512*(i+1)-512*img.length) (.int .u8 0)) (512*i) (Qm x):=by
 have⟨b,d⟩:=qx<|img++List.replicate (i+1-img.length) (Zb 512);have hs:∀c∈b,c.length=512:=by
  intro c a;rw[←d]at a;rcases Q5.1 a with a|a
  ·exact e c a
  rw[BQ a,Vk]
 have hi:i<b.length:=by rw[←d];simp;omega
 have hf:Qm img.flatten++List.replicate (512*(i+1)-512*img.length) (.int .u8 0)=Qm b.flatten:=by
  rw[←d,List.flatten_append];have:∀b a,(List.replicate b<|Zb a).flatten=Zb (a*b):=fun b a=>by simp[Zb,RR]
  rw[this,show 512*(i+1)-512*img.length=512*(i+1-img.length)by omega];simp[Qm,Zb]
 have a:(Qm x).length=512:=by simp[Qm,f]
 rw[hf,JV,d,List.set_eq_take_append_cons_drop,Qg hi,splice,a,show 512*i+512=512*(i+1)by omega];unfold Qm;rw[←DQ,←List.map_drop,(Ey hs i).1,(Ey hs<|i+1).2];simp
def jB{P v b a w K l}{k:Prop}(p:b.guard=none)(d x:Operand)(f j)(r:b.op=.call {callee:=.builtin .copy,args:=#[d,x],argTypes:=#[f,j]})(h)(u:P.underlying f=some (.slice h))(t:(P.info? h).map (·.size)=some 1)(g c e i s xs)(n:a.eval d=.slice (some ⟨g,c,none⟩) e i)(hs:a.eval x=.string s)(hb:QI w g xs)(q:s.size≤e)(o:c+s.size≤xs.length)(m:∀w',QI w' g (splice xs c<|Qm s.data.toList)→Qb [g] w w'→K (a.put b.dst<|goInt s.size) w'):
 if Region.wanted b (yielded v a.tmps)=true then Oper.wp P b a w K l else k:=by
 rw[Qg<|by simp[Region.wanted,p]];obtain⟨w',QP,k,hk⟩:=Qe9 (P:=P) w f j b.type h g c e i s xs u t hb q o;unfold Oper.wp;simp[execOp,r,resolve,invoke,builtin,n,hs,QP,Result.andThen];exact m w' k hk
def OR{P w w' d e b a c v}(g:b.guard=none)(s x:Operand)(t u)(h:b.op=Op.call {callee:=Callee.builtin Builtin.append,args:=#[s,x],argTypes:=#[t,u]})(i:(Builtin.append_ #[t,u] b.type #[a.eval s,a.eval x]).run P w=.ok v w')(f:wpList P d c e (a.put b.dst v) w'):wpList P d c (b::e) a w:=by
 refine DH g fun b b=>?_
 unfold Oper.wp;simp only[execOp,h,resolve,invoke,builtin,Sem.run_bind,Sem.run_pure,Ut,Aq,QO,YD,i];exact b _ _ f
def GF(w:World)(b:Value)(img:List (List UInt8))(e:Ending)(w':World):Prop:=
 ∃a,e=.returned a∧Jk w' a (Qm img.flatten)∧Qb (Qd b) w w'∧QT w.heap.size (Qd b) (Qd a)
set_option maxRecDepth 20000 in
def Qig(nv img)(bi bs i:Nat)(x w)(hr:Jk w nv (Qm img.flatten))(hs:∀y∈img,y.length=512)(hl:img.length≤4096)(hi:i<4096)(hx:x.length=512)(x2:Qf w bi 3 [i])(x3:Qf w bs 9 [.string<|str x])(hn:bi∉Qd nv∧bs∉Qd nv):
 Calls prog 110 #[nv,.pointer bi,.pointer bs] w (GF w nv<|JV img i x):=by
 have hf:=K.flat_len hs;have hu:(Qm img.flatten).length=512*img.length:=by rw[←hf];unfold Qm;rw[QG]
 have⟨HW,x0,HN,HX⟩:=qd (Qid (i:=i) hs hx) (show(str x).size=512 from hx) hn hx;have y5:=x2.lt;have z1:=x3.lt;have c0:=x2.cell (i:=0) (u:=.int .i64 i) rfl;have c1:=x3.cell (i:=0) (u:=.string<|str x) rfl;obtain⟨g,cap,y4,-,y6,p1⟩:=hr.open;rw[hu]at y6 y4;subst y4;have HR:=Qa hr;obtain⟨iU,y2,-,y8,-⟩:=Vc YL;have x8:=Qa fun g n c k x hx h hc=>Ol (P:=prog) 88 5 iU ZW y2 y8 g 0 n c k x hx h hc;clear y2 hr hs hn hf hx x2 x3;obtain⟨n1,g1,pZ,o,L,q,hL,x9,h5,y0,y7,h8,x1,QP⟩:∃n1 g1 pZ o L q,L=Qm img.flatten++List.replicate (512*(i+1)-512*img.length) (.int .u8 0)∧L.length=n1∧QI q g1 (L++o)∧pZ=n1+o.length∧pZ≤maxLen∧
  Qb (Qd<|.slice (some ⟨g,0,none⟩) (512*img.length) cap) w q∧(g1=g∨w.heap.size≤g1)∧((img.length<i+1∧(Builtin.append_ #[88,3] 88 #[.slice (some ⟨g,0,none⟩) (512*img.length) cap,.int .i64<|((i:Int)+1)*512-512*(img.length:Int)]).run prog w=.ok (.slice (some ⟨g1,0,none⟩) n1 pZ) q)
   ∨(¬img.length<i+1∧q=w∧n1=512*img.length∧g1=g∧pZ=cap)):=by
  by_cases hlt:img.length<i+1
  ·obtain⟨v',q,QP,⟨g1,pZ,o,rfl,h5,h1,h2⟩,h8,x1⟩:=Qe7 (P:=prog) w 88 3 88 5 (.int .u8 0) 1 ZW YG YL rfl rfl _ _ HR.o (512*(i+1)-512*img.length) (by rw[hu];simp only[maxLen];omega) (by rw[hu];omega);refine⟨_,g1,pZ,o,_,q,rfl,rfl,h5,h1,h2,h8,by simpa[Qd,qo]using x1 g1<|by simp[Qd,qo],.inl ⟨hlt,?_⟩⟩;rw[←QP];congr 4;simp;omega
  obtain⟨g',p0,o,he,h5,h1,h2⟩:=HR.o;injection he with e1 e2 e3;injection e1 with e1;injection e1 with e1;subst e1 e3;have e0:512*(i+1)-512*img.length=0:=by omega
  refine⟨512*img.length,g,cap,o,_,w,rfl,by rw[e0];simpa using hu,by rw[e0];simpa using h5,by omega,h2,Qc _ _,.inl rfl,.inr ⟨hlt,rfl,rfl,rfl,rfl⟩⟩
 have x7:=Qa hL;have y3:n1=max (512*img.length) (512*(i+1)):=by rw[←x9,hL,Qo,hu];simp;omega
 have p2:=x8.o g1 n1 pZ (512*i) ((i:Int)*512) (by omega) (by omega) (by omega);have HB:=Qa h5;have HK:=Qa h8;have HG:=Qa x1;have d0:q.cell? ⟨bi,0,none⟩=some (.int .i64 i):=h8.cZ c0 HN.o.1;have d1:q.cell? ⟨bs,0,none⟩=some (.string<|str x):=h8.cZ c1 HN.o.2;have HE:=Qa (show ∀w2,QI w2 g1 (splice (L++o) (512*i)<|Qm (str x).data.toList)→Qb [g1] q w2→GF w (.slice (some ⟨g,0,none⟩) (512*img.length) cap) (JV img i x) (.returned<|.slice (some ⟨g1,0,none⟩) n1 pZ) w2 from by
  intro w2 h4 h3;have z7:(Qm x).length=512:=by simp[Qm,HX.o]
  have z6:splice (L++o) (512*i) (Qm x)=splice L (512*i) (Qm x)++o:=by unfold splice;rw[PE<|by omega,List.drop_append_of_le_length<|by omega];simp
  have x4:(splice L (512*i)<|Qm x).length=n1:=by unfold splice;simp[z7];omega
  have h4:QI w2 g1 (splice (L++o) (512*i)<|Qm x):=h4;rw[z6,x7.o,←HW.o]at h4;rw[x7.o,←HW.o]at x4;have y1:∀y,y∈Qd (.slice (some ⟨g,0,none⟩) (512*img.length) cap)↔y=g:=fun y=>by simp[Qd,qo]
  refine⟨_,rfl,⟨g1,pZ,o,by rw[x4],h4,by rwa[x4],y7⟩,HK.o.trans h3 fun y hy=>?_,fun y hy=>?_⟩
  ·obtain rfl:y=g1:=(by simpa using hy);rw[y1];exact HG.o
  obtain rfl:y=g1:=by simpa[Qd,qo]using hy
  rw[y1];exact HG.o)
 have y9:bi∉[g1]∧bs∉[g1]:=by have:=y5;have:=z1;have h1:=HN.o;simp[Qd,qo]at h1 ⊢;omega
 have⟨h9,z8,x6,x5⟩:=qd y9 y3 (by simp;omega:512*i+512≤(L++o).length) (by omega:512≤n1-512*i);have p3:IntKind.i64.wrap ((i:Int)*512)=(i:Int)*512:=Q2 _ (by omega);clear hL h5 h8 x1 x8 y3 y0 x9;rcases QP with⟨hlt,QP⟩|⟨hlt,rfl,rfl,rfl,rfl⟩
 ·have g0:512*(img.length:Int)<((i:Int)+1)*512:=by omega
  go_enter func110,ntmps110;go_wp2_with (at_builtin;refine OR rfl _ _ 88 3 rfl QP ?_)
  go_region_held3 (fun w'=>w'.cell? ⟨bi,0,none⟩=some (.int .i64 i)∧w'.cell? ⟨bs,0,none⟩=some (.string<|str x)) (first|exact⟨d0,d1⟩|exact⟨e0,e1⟩|go_keep)
   ((refine jB rfl _ _ 88 9 rfl 5 ZW Fx g1 (512*i) (n1-512*i) (pZ-512*i) (str x) (L++o) rfl rfl (HB.o.kept (Qc [] q).drew<|by simp) (by rw[x0.o];exact x5.o) (by rw[x0.o];exact x6.o) ?_;intro w2 h4 h3;have e0:=h3.cZ d0 h9.o.1;have e1:=h3.cZ d1 h9.o.2))
  all_goals
   go_wp2
   go_ret;exact HE.o w2 h4<|Qb.trans (Qc [g1] q).drew h3 fun x hx=>.inl hx
 have g0:¬512*(img.length:Int)<((i:Int)+1)*512:=by omega
 go_enter func110,ntmps110;go_wp2_with fail
 go_region_held3 (fun w'=>w'.cell? ⟨bi,0,none⟩=some (.int .i64 i)∧w'.cell? ⟨bs,0,none⟩=some (.string<|str x)) (first|exact⟨d0,d1⟩|exact⟨e0,e1⟩|go_keep)
  ((refine jB rfl _ _ 88 9 rfl 5 ZW Fx g1 (512*i) ((512*img.length)-512*i) (pZ-512*i) (str x) (L++o) rfl rfl (HB.o.kept (Qc [] q).drew<|by simp) (by rw[x0.o];exact x5.o) (by rw[x0.o];exact x6.o) ?_;intro w2 h4 h3;have e0:=h3.cZ d0 h9.o.1;have e1:=h3.cZ d1 h9.o.2))
 all_goals
  go_wp2
  go_ret;exact HE.o w2 h4<|Qb.trans (Qc [g1] q).drew h3 fun x hx=>.inl hx
def uL(a)(img:List (List UInt8))(c n w)(b:Jk w a (Qm img.flatten))(hs:∀d∈img,d.length=512)(d:img.length≤4096)(d:n≤img.length)(hb:Qf w c 3 [n]):Calls prog 125 #[a,.pointer c] w (GF w a<|img.take n):=by
 have hf:=K.flat_len hs;have c:(Qm img.flatten).length=512*img.length:=by rw[←hf];unfold Qm;rw[QG]
 have c0:=hb.cell (i:=0) (u:=.int .i64 n) rfl;obtain⟨a,cap,a,-,d,e⟩:=b.open;rw[c]at d a;subst a;have a:=b.cut (512*n) (by omega);rw[show(Qm img.flatten).take (512*n)=Qm (img.take n).flatten by unfold Qm;rw[←DQ,(Ey hs n).1]]at a;have d:=Qa a;clear a b hf c;go_enter func125,ntmps125;go_wp2_with fail
 all_goals
  go_ret
  first
   |rw[show((n:Int)*512).toNat=512*n by omega]
   |rw[show(512*(img.length:Int)).toNat=512*n by omega]
   |rw[show(min (512*(img.length:Int))<|(n:Int)*512).toNat=512*n by omega]
  exact⟨_,rfl,d.o,Qc _ _,fun a a=>.inl<|by simpa[Qd,qo]using a⟩
def pN:(prog.info? 246).map (fun i=>(i.zero,i.size,i.bytes))=some (some .nilFunc,1,8):=by kernel_rfl
def Q7(w:World)(d:Nat)(a c:Value)(s:QF)(w':World):Prop:=∃b e,Dk w' d b e s∧Qb (Q6 d a c) w w'∧QT w.heap.size (Q6 d a c) (Q6 d b e)
section
variable {d:Nat} {nv pv:Value} {s:QF} {w:World}
def Gi(a:Dk w d nv pv s)(hs:s.Ok):Calls prog 41 #[.pointer d] w fun e w'=>e=.returned (.bool false)∧w'=w:=by
 obtain⟨⟨kv,b⟩,c,c,c⟩:=a;have c0:=b.cell (i:=0) (u:=.int .i64 s.cap) rfl;have:((s.cap:Int)==0)=false:=Zh.2 (by have:=hs.c1;omega);go_enter func41,ntmps41
 go_wp2
 go_ret;exact⟨rfl,rfl⟩
def Dg(a:Dk w d nv pv s)(hs:s.Ok):Calls prog 14 #[.pointer d] w fun e w'=>e=.returned s.cap∧w'=w:=by have b:=Qa<|Gi a hs;obtain⟨⟨kv,c⟩,f,f,f⟩:=a;have c0:=c.cell (i:=0) (u:=.int .i64 s.cap) rfl;go_enter func14,ntmps14;go_wp2_with (go_at_call 41;refine b.o.mono ?_;rintro e a⟨rfl,rfl⟩);go_ret;exact⟨rfl,rfl⟩
def TK(a:Dk w d nv pv s)(hs:s.Ok):Calls prog 26 #[.pointer d] w fun e w'=>e=.returned s.lZ∧w'=w:=by have b:=Qa<|Gi a hs;obtain⟨⟨kv,c⟩,f,f,f⟩:=a;have c0:=c.cell (i:=7) (u:=.int .i64 s.lZ) rfl;go_enter func26,ntmps26;go_wp2_with (go_at_call 41;refine b.o.mono ?_;rintro e a⟨rfl,rfl⟩);go_ret;exact⟨rfl,rfl⟩
def FZ(a:Dk w d nv pv s)(hs:s.Ok):Calls prog 24 #[.pointer d] w fun e w'=>e=.returned s.img.length∧w'=w:=by
 have c:=Qa<|Gi a hs;obtain⟨⟨kv,b⟩,f,g,g⟩:=a;obtain⟨a,cap,rfl,-,-⟩:=f.open;have hf:=hs.flat;have:=hs.len;have:=hs.c2;have f:(Qm s.img.flatten).length=512*s.img.length:=by rw[←hf];unfold Qm;rw[QG]
 rw[f]at b;have c0:=b.cell (i:=2) (u:=.slice a (512*s.img.length) cap) rfl;have:((512*s.img.length:Nat):Int).tdiv 512=(s.img.length:Int):=by rw[GI<|by omega];omega
 have:IntKind.i64.wrap (s.img.length:Int)=(s.img.length:Int):=wraps_i64' _ (by omega) (by omega);go_enter func24,ntmps24;go_wp2_with (go_at_call 41;refine c.o.mono ?_;rintro e a⟨rfl,rfl⟩);go_ret;exact⟨rfl,rfl⟩
def Mr(a:Dk w d nv pv s)(hs:s.Ok):Calls prog 33 #[.pointer d] w fun e w'=>e=.returned (.bool false)∧w'=w:=by have b:=Qa<|Gi a hs;obtain⟨⟨kv,c⟩,f,f,f⟩:=a;have c0:=c.cell (i:=6) (u:=.bool false) rfl;go_enter func33,ntmps33;go_wp2_with (go_at_call 41;refine b.o.mono ?_;rintro e a⟨rfl,rfl⟩);go_ret;exact⟨rfl,rfl⟩
def Hz(a:Dk w d nv pv s)(hs:s.Ok):Calls prog 91 #[.pointer d] w fun e w'=>e=.returned (0:Int)∧w'=w:=by have b:=Qa<|Gi a hs;obtain⟨⟨kv,c⟩,f,f,f⟩:=a;have c0:=c.cell (i:=6) (u:=.bool false) rfl;go_enter func91,ntmps91;go_wp2_with (go_at_call 41;refine b.o.mono ?_;rintro e a⟨rfl,rfl⟩);go_ret;exact⟨rfl,rfl⟩
set_option maxRecDepth 20000 in
def fR(f:Dk w d nv pv s)(hs:s.Ok)(i:Nat)(x)(k:s.img[i]?=some x):
 Calls prog 57 #[.pointer d,i] w fun e w'=>e=.returned (.tuple #[str x,(0:Int)])∧Dk w' d nv pv {s with lZ:=s.lZ+1}∧Qb [d] w w':=by
 have⟨o,q⟩:=qb (Hz f hs)<|FZ f hs;have hlt:i<s.img.length:=(Qz.1 k).1;have:=hs.len;have:=hs.c2;have hf:=hs.flat;have:=hs.lZ;have n:(Qm s.img.flatten).length=512*s.img.length:=by rw[←hf];unfold Qm;rw[QG]
 obtain⟨⟨kv,g⟩,j,h,a⟩:=id f;obtain⟨c,cap,b,hb,m,-⟩:=j.open;rw[n]at m b;subst b;have m:c≠d:=by simp[Qd,qo]at a;omega
 have c2:=g.cell (i:=2) (u:=.slice c (512*s.img.length) cap) rfl;have:=g.cell (i:=7) (u:=.int .i64 s.lZ) rfl;have:=g.free 7;obtain⟨_,g1⟩:(i:Int)<s.img.length∧¬((s.img.length:Int)≤i):=by omega
 obtain⟨r,n,-,b,-⟩:=Vc YL;have:=Qfs (P:=prog) 88 5 r ZW n b c 0 (512*s.img.length) cap (512*i) (512*(i+1)) ((i:Int)*512) (((i:Int)+1)*512) (by omega) (by omega) (by omega) (by omega) (by omega);have b:=(Qc [d] w).setCell (p:=⟨d,7,none⟩) (by simp)<|.int .i64<|(s.lZ:Int)+1;have:x.length=512:=hs.sec x<|QC k;have:=(hb.kept b<|by simpa using m).textAt (512*i) (512*(i+1)-512*i) (cap-512*i) (l:=x) (by rw[(Ey hs.sec i).2,show 512*(i+1)-512*i=512*1 by omega,(Ey (fun t r=>hs.sec t<|Py r) 1).1,Xa hlt];simp[(Qz.1 k).2]) (by omega);have k:=Qa (show Dk (w.setCell ⟨d,7,none⟩<|.int .i64<|(s.lZ:Int)+1) d (.slice c (512*s.img.length) cap) pv {s with lZ:=s.lZ+1}from
  ⟨⟨kv,g.set 7 _⟩,j.kept b<|by simpa[Qd,qo]using m,by obtain⟨c,h,g⟩:=h;exact⟨c,h.kept b (fun c hk=>by simp at a ⊢;intro e;subst e;exact a.1.2 hk),Nat.le_succ_of_le g⟩,a⟩)
 have c:=Qa b;clear n f j h a b hb;go_enter func57,ntmps57;go_wp2_with (first|(go_at_call 91;refine o.o.mono ?_;rintro e a⟨rfl,rfl⟩)|(go_at_call 24;refine q.o.mono ?_;rintro e a⟨rfl,rfl⟩));go_ret2;exact⟨rfl,k.o,c.o⟩
end
end
