import Derived.Test.YtickjpnkoppmgaaGreatDoorBc
set_option linter.all false
namespace Go.Proofs.YtickjpnkoppmgaaGreatDoor
open Go.Proofs.Tryz Go.RowKit K
def Vst.bad_zero:∀{l:List QC},Vst.bad l=0→∀f∈l,Yp f.1=true∧f.2.length≤8192
 | [],_=>by simp
 |f::l,h=>by
  rw[Vst.bad]at h
  split at h
  ·cases h
  split at h
  ·cases h
  rename_i q y;intro g o;rcases QE.1 o with rfl|o
  ·exact⟨by simpa using q,by omega⟩
  exact Vst.bad_zero h g o
def Rp(c:LU→LU)(l:List QC)(p:LU):LU:=match l.find? (fun a=>a.1==p)with
 |some a=>a.2
 |none=>c p
def GA{c}:∀{l:List QC},(l.map (·.1)).Nodup→∀{f:QC},f∈l→Rp c l f.1=f.2
 | [],_,f,h=>by simp at h
 |g::l,o,f,h=>by
  rw[QR]at o;have o:=Rt.1 o;unfold Rp
  by_cases e:g.1=f.1
  ·rw[GM<|by simpa using e];rcases QE.1 h with h|h
   ·rw[h]
   exact absurd (e▸Ue h) o.1
  rw[Lp<|by simpa using e];rcases QE.1 h with h|h
  ·exact absurd (by rw[h]) e
  exact GA o.2 h
def Pj{c l p}(a:∀f∈l,f.1≠p):Rp c l p=c p:=by unfold Rp;rw[GN.2 fun f hf=>by simpa using a f hf]
def Zd(l:List RM):Nat:=(l.map fun a=>a.eZ.toNat).sum
def Uh(s s':Vst):Prop:=∀b∈s.mem,∀a,b.start.toNat≤a→a<b.start.toNat+b.eZ.toNat→s'.dev.img[a]?=s.dev.img[a]?
structure JM(s s':Vst)(c':LU→LU)(k:Nat):Prop where
 ok:Vok s' c'
 cap:s'.dev.cap=s.dev.cap
 c0:s.dev.lZ≤s'.dev.lZ
 c1:s'.dev.lZ≤s.dev.lZ+k
def JM.refl{s c}(a:Vok s c)(k):JM s s c k:=⟨a,rfl,Ql _,LJ _ _⟩
def Uh.refl(s):Uh s s:=fun _ _ _ _ _=>rfl
def Vok.lenM{s c}(a:Vok s c){m}(b:m∈s.mem):m.start.toNat+m.eZ.toNat≤s.dev.img.length:=by
 obtain⟨d,d,d⟩:=a.inX b;have e:=(a.mems m b).holds.lt (by
  intro d;have:=Ap (m.path,c m.path);rw[d]at this;have:=(a.mems m b).eZ;simp at*
  omega)
 rw[Ap]at e;have:=(a.mems m b).eZ;omega
def Qef{s:Vst}{l}(a:(s.put l).1≠0):(s.put l).2=s:=by
 unfold Vst.put at a ⊢
 by_cases b:Vst.bad l≠0
 ·rw[Qg b]
 rw[Qf b]at a ⊢
 by_cases b:¬(l.map (·.1)).Nodup
 ·rw[Qg b]
 rw[Qf b]at a ⊢
 by_cases b:16<(Zn s.mem<|l.map fun c=>Vst.noteF (c,(0,0))).length
 ·rw[Qg b]
 rw[Qf b]at a ⊢;cases h4:Vst.alloc s.dev.cap s.exts l with
 |none=>rfl
 |some xs=>
  simp only[h4]at a ⊢
  by_cases b:l=[]
  ·rw[Qg b]
  rw[Qf b]at a;exact absurd rfl a
def eS{α a}{f:α→a}{l:List α}(a:(l.map f).Nodup):l.Nodup:=by unfold List.Nodup at a ⊢;exact(V5.1 a).imp fun a b=>a<|Qu f b
def Gu{α}:∀l:List α,(l.map fun _=>1).sum=l.length
 | []=>rfl
 |x::l=>by rw[QR,Z9,Gu l,Q0];omega
def Yn(s:Vst)(c:LU→LU):List QC:=s.mem.map fun a=>(a.path,c a.path)
def dX:∀{F:List QC}{L:List QC},Ug (·.1) L→(F.map (·.1)).Nodup→∀{x:QC},x∈F.foldl (fun L f=>XY (·.1) f L) L↔x∈F∨(x∈L∧∀f∈F,x.1≠f.1)
 | [],L,_,_,x=>by simp
 |f::F,L,hr,q,x=>by
  rw[QR]at q;have q:=Rt.1 q;rw[BW,dX (Cz hr) q.2,Dm hr];constructor
  ·rintro(h|⟨h|⟨h,h1⟩,y⟩)
   ·exact .inl<|XW _ h
   ·exact .inl<|h▸YH ..
   exact .inr ⟨h,fun g o=>by
    rcases QE.1 o with rfl|o
    ·exact h1
    exact y g o⟩
  rintro(h|⟨h,y⟩)
  ·rcases QE.1 h with h|h
   ·exact .inr ⟨.inl h,fun g o e=>q.1 (by rw[←h,e];exact Ue o)⟩
   exact .inl h
  exact .inr ⟨.inr ⟨h,y f<|YH ..⟩,fun g o=>y g<|XW _ o⟩
def gR:∀(F:List QC){L:List QC},Ug (·.1) L→Ug (·.1) (F.foldl (fun L f=>XY (·.1) f L) L)
 | [],_,h=>h
 |f::F,L,h=>gR F<|Cz h
def KC{l}(a:U5 l)(c:LU→LU):Ug (·.1) (l.map fun m=>((m.path,c m.path):QC)):=V5.2 a
def Vok.put{s c}(j:Vok s c)(l)(a:s.dev.lZ+10000≤1000000000)(h0:(s.put l).1=0):
 JM s (s.put l).2 (Rp c l) (Zd (s.put l).2.mem+l.length+9)∧Uh s (s.put l).2∧Yn (s.put l).2 (Rp c l)=l.foldl (fun L f=>XY (·.1) f L) (Yn s c):=by
 unfold Vst.put at h0 ⊢
 by_cases hb:Vst.bad l≠0
 ·rw[Qg hb]at h0;exact absurd h0 hb
 rw[Qf hb]at h0 ⊢
 by_cases p:¬(l.map (·.1)).Nodup
 ·rw[Qg p]at h0;cases h0
 rw[Qf p]at h0 ⊢
 by_cases h:16<(Zn s.mem<|l.map fun f=>Vst.noteF (f,(0,0))).length
 ·rw[Qg h]at h0;cases h0
 rw[Qf h]at h0 ⊢;have p:(l.map (·.1)).Nodup:=Decidable.not_not.1 p;have w:=Vst.bad_zero<|Decidable.not_not.1 hb;have i:∀f∈l,2≤ZV f∧ZV f≤200:=fun f hf=>by have o:=w f hf;exact(Rg (YK o.1).2.2 o.2).2
 cases ha:Vst.alloc s.dev.cap s.exts l with
 |none=>rw[ha]at h0;cases h0
 |some xs=>
  simp only[ha]at h0 ⊢
  by_cases a:l=[]
  ·subst a;exact⟨JM.refl j _,Uh.refl s,rfl⟩
  simp only[Qf a]at h0 ⊢;obtain⟨u,m,r⟩:=Vst.alloc_spec (by have:=j.pZ;omega) j.ext (fun f hf=>by have:=i f hf;omega) ha;have t:∀a∈xs,a.1∈l:=fun a e=>u▸Ue e
  have g:(xs.map (·.1.1)).Nodup:=by rwa[←u,XI]at p
  have q:=fun b:RM=>Vst.mem_puts (xs:=xs) (l:=s.mem) j.rise g (m:=b)
  have O:xs.length=l.length:=by rw[←u,QH]
  have M:(Zn s.mem<|xs.map Vst.noteF).length≤16:=by
   have:=Tz (l:=s.mem) (l':=s.mem) (ns:=xs.map Vst.noteF) (ns':=l.map fun f=>Vst.noteF (f,(0,0))) rfl (by rw[←u,XI,XI,XI];rfl);have:=Qu List.length this;rw[QH,QH]at this;omega
  have:l.length≤16:=by
   have o:=GC (fun _:RM=>1) (l:=xs.map fun a=>(Vst.noteF a).2) (l':=Zn s.mem<|xs.map Vst.noteF) (by
    have:(xs.map fun a=>(Vst.noteF a).2).map (·.path)=xs.map (·.1.1):=(by rw[XI];rfl);rw[←this]at g;exact eS g) (fun b h=>by obtain⟨a,e,rfl⟩:=QB.1 h;exact(q _).2 (.inl ⟨a,e,rfl⟩))
   rw[Gu,Gu,QH]at o;omega
  have:(xs.map fun a=>ZV a.1).sum≤Zd (Zn s.mem<|xs.map Vst.noteF):=by
   have o:=GC (fun b:RM=>b.eZ.toNat) (l:=xs.map fun a=>(Vst.noteF a).2) (l':=Zn s.mem<|xs.map Vst.noteF) (by
    have:(xs.map fun a=>(Vst.noteF a).2).map (·.path)=xs.map (·.1.1):=(by rw[XI];rfl);rw[←this]at g;exact eS g) (fun b h=>by obtain⟨a,e,rfl⟩:=QB.1 h;exact(q _).2 (.inl ⟨a,e,rfl⟩))
   rw[XI]at o;refine QS (Nat.le_of_eq ?_) o
   congr 1
   refine Yx fun a e=>?_
   show ZV a.1=a.2.2.toNat;rw[r a e];rfl
  have:(xs.map fun a=>ZV a.1).sum≤200*xs.length:=by
   have:∀g:List (QC × QN),(∀a∈g,ZV a.1≤200)→(g.map fun a=>ZV a.1).sum≤200*g.length:=by
    intro g
    induction g with
    |nil=>simp
    |cons k g ih=>intro j;have o:=j k<|YH ..;have g:=ih fun a e=>j a<|XW _ e;rw[QR,Z9,Q0];omega
   exact this xs fun a e=>(i _<|t a e).2
  have i:=j.room (l.length+1) (by omega);obtain⟨v,A,x,I⟩:=Vst.room_same s<|l.length+1;have y:=Vst.room_calls s<|l.length+1;have z:=Vst.room_next (s:=s) (n:=l.length+1) (by omega);have⟨g,n⟩:=qx<|s.room<|l.length+1;rw[n]at i v A x I y z ⊢;obtain⟨E,n⟩:=(YD _ _).1 m;have D:=DR.1 n;have n:ZX g.dev.cap (xs.map (·.2))=true:=(YD _ _).2 ⟨fun a e=>A▸E a (PW _ e),D.2.1⟩;obtain⟨m,B,Q,C,z⟩:=Pt (d:=g.dev) (cap:=g.dev.cap) i.dev rfl n (fun a e=>⟨r a e,(YK (w _<|t a e).1).2.2,(w _<|t a e).2⟩) (by omega);have x:∀b∈s.mem,∀a∈xs,Uj (Xe b) a.2:=fun b h a e=>D.2.2 _ (Ue h) _<|Ue e
  have G:Vok (g.write xs) c:=by
   refine⟨⟨m.c1,m.c2,m.len,m.sec,?_⟩,?_,?_,i.next,i.rise,i.few,fun b h=>(i.mems b h).img fun n=>?_,?_⟩
   ·show(Yr g.dev xs).lZ+1≤_;omega
   ·show 31≤(Yr g.dev xs).cap;rw[B];exact i.pZ
   ·have:=i.gen;show g.gen≤(Yr g.dev xs).lZ+1;omega
   ·have m:b∈s.mem:=v▸h;have hi:=j.inX m;refine C (Xe b) _ (by show 0≤b.start;omega) (fun a e=>x b m a e) ?_ n;rw[Ap,←(i.mems b h).eZ];exact Av _
   show ZX (Yr g.dev xs).cap g.exts=true;rw[B];exact i.ext
  have P:∀b∈Zn (g.write xs).mem (xs.map Vst.noteF),Bq (g.write xs).dev.img b (Rp c l b.path):=by
   intro b h;have i:b∈Zn s.mem (xs.map Vst.noteF):=v▸h;rcases(q b).1 i with⟨a,e,rfl⟩|⟨y,n⟩
   ·have i:=t a e;have m:Rp c l a.1.1=a.1.2:=GA p i;show Bq _ _ (Rp c l a.1.1);rw[m];exact⟨(w _ i).1,(w _ i).2,rfl,rfl,r a e,z a e⟩
   have m:Rp c l b.path=c b.path:=Pj (fun f hf m=>by rw[←u]at hf;obtain⟨a,e,rfl⟩:=QB.1 hf;exact n a e m.symm);rw[m];exact G.mems b (by show b∈g.mem;rwa[v])
  have H:U5 (Zn s.mem<|xs.map Vst.noteF):=OB j.rise;have J:ZX (g.write xs).dev.cap ((Zn (g.write xs).mem<|xs.map Vst.noteF).map Xe)=true:=by
   show ZX (Yr g.dev xs).cap ((Zn g.mem<|xs.map Vst.noteF).map Xe)=true;rw[B,v,A];refine MX H (fun b h=>?_) fun i ha z hb n=>?_
   ·rcases(q b).1 h with⟨a,e,rfl⟩|⟨y,-⟩
    ·exact E a.2<|PW _<|Ue e
    exact j.inX y
   rcases(q i).1 ha with⟨a,e,rfl⟩|⟨E,-⟩<;>rcases(q z).1 hb with⟨k,r,rfl⟩|⟨F,-⟩
   ·exact Kv (R:=fun i z:QC × QN=>Uj i.2 z.2) (fun j=>j.symm) (V5.1 D.2.1) e r (fun m=>n<|by rw[m])
   ·exact(x z F a e).symm
   ·exact x i E k r
   exact j.apart E F n
  have z:(xs.map Vst.noteF).length=l.length:=by rw[QH,O]
  have i:(g.write xs).dev.lZ=g.dev.lZ+(xs.map fun a=>ZV a.1).sum+1:=by show(Yr g.dev xs).lZ+1=_;rw[Q]
  have E:=G.commit (ns:=xs.map Vst.noteF) (c':=Rp c l) (by rw[z];show g.next+l.length+1≤20;omega) (fun D n=>by obtain⟨a,e,rfl⟩:=QB.1 n;exact(YK (w _<|t a e).1).2.2) (by show(Zn g.mem _).length≤16;rw[v];exact M) P J (by rw[z,i];omega);have w:((g.write xs).commit<|xs.map Vst.noteF).dev.lZ=(g.write xs).dev.lZ+(l.length+1)+1:=by show _+(RJ _ _ _).length+1=_;rw[Cx,z]
  have D:((g.write xs).commit<|xs.map Vst.noteF).mem=Zn s.mem (xs.map Vst.noteF):=by rw[←v];rfl
  refine⟨⟨E,by show(Yr g.dev xs).cap=_;rw[B,A],by rw[w,i];omega,by rw[w,i,D];omega⟩,fun b h i v v=>?_,?_⟩
  ·have:=j.lenM h;have:=j.inX h;have:30≤i:=(by omega);have o:((g.write xs).commit<|xs.map Vst.noteF).dev.img[i]?=(Yr g.dev xs).img[i]?:=by
    refine CJ _ _ _ _ (.inr ?_) ?_
    ·rw[Cx,z];show 10+g.next+(l.length+1)≤i;omega
    show i<(Yr g.dev xs).img.length;have v:i<g.dev.img.length:=(by omega);have:=C (b.start,b.eZ) [g.dev.img[b.start.toNat]'(by omega)] (by omega) (fun a e=>x b h a e) (by simp;omega) (fun w a hk=>by
     cases w with
     |zero=>simp at hk;subst hk;simp
     |succ w=>simp at hk)
    have z:=C (b.start,b.eZ) (((g.dev.img.drop b.start.toNat).take b.eZ.toNat)) (by omega) (fun a e=>x b h a e) (by simp;omega) (fun w a hk=>by have:=(Qz.1 hk).1;simp at this;rwa[Bo<|by omega,J4]at hk);have:=z (i-b.start.toNat) (g.dev.img[i]'v) (by rw[Bo<|by omega,J4,show b.start.toNat+(i-b.start.toNat)=i by omega];exact Qj v);rw[show(b.start,b.eZ).1.toNat+(i-b.start.toNat)=i by simp;omega]at this;exact(Qz.1 this).1
   have v:i<g.dev.img.length:=(by omega);have z:=C (b.start,b.eZ) (((g.dev.img.drop b.start.toNat).take b.eZ.toNat)) (by omega) (fun a e=>x b h a e) (by simp;omega) (fun w a hk=>by have:=(Qz.1 hk).1;simp at this;rwa[Bo<|by omega,J4]at hk);have:=z (i-b.start.toNat) (g.dev.img[i]'v) (by rw[Bo<|by omega,J4,show b.start.toNat+(i-b.start.toNat)=i by omega];exact Qj v);rw[show(b.start,b.eZ).1.toNat+(i-b.start.toNat)=i by simp;omega]at this;rw[o,this,←I i (by omega) (by omega)];exact(Qj v).symm
  refine KB (pt:=(·.1)) (KC (by rw[D];exact H) _) (gR l<|KC j.rise c) fun a=>?_
  unfold Yn;rw[dX (KC j.rise c) p,D];constructor
  ·intro e;obtain⟨b,h,rfl⟩:=QB.1 e;rcases(q b).1 h with⟨k,r,rfl⟩|⟨y,n⟩
   ·left;show(k.1.1,Rp c l k.1.1)∈l;rw[GA p<|t k r];exact t k r
   right;have g:∀f∈l,f.1≠b.path:=fun f hf m=>by rw[←u]at hf;obtain⟨a,e,rfl⟩:=QB.1 hf;exact n a e m.symm
   refine⟨QB.2 ⟨b,y,by rw[Pj g]⟩,fun f hf m=>g f hf m.symm⟩
  rintro(e|⟨e,n⟩)
  ·have a:=e;rw[←u]at a;obtain⟨k,r,rfl⟩:=QB.1 a;refine QB.2 ⟨(Vst.noteF k).2,(q _).2 (.inl ⟨k,r,rfl⟩),?_⟩;show(k.1.1,Rp c l k.1.1)=k.1;rw[GA p e]
  obtain⟨b,h,rfl⟩:=QB.1 e;refine QB.2 ⟨b,(q _).2 (.inr ⟨h,fun k r m=>n k.1 (t k r) m⟩),?_⟩;rw[Pj fun f hf m=>n f hf m.symm]
def Vst.find_zero{s:Vst}{p}(h:(s.find p).1=0):Yp p=true∧(s.find p).2∈s.mem∧(s.find p).2.path=p:=by
 unfold Vst.find at h ⊢
 split
 ·rename_i o;rw[Qg o]at h;cases h
 rename_i o;cases hf:s.mem.find? (fun m=>m.path==p)with
 |none=>rw[Qf o,hf]at h;cases h
 |some m=>exact⟨by simpa using o,PY hf,by simpa using List.find?_some hf⟩
def Vok.find{s c}(a:Vok s c){m}(d:m∈s.mem):s.find m.path=(0,m):=by
 unfold Vst.find;rw[Qf (by rw[(a.mems m d).ok];simp)];cases hf:s.mem.find? (fun b=>b.path==m.path)with
 |none=>exact absurd (GN.1 hf m d) (by simp)
 |some b=>
  have f:=PY hf;have g:b.path=m.path:=by simpa using List.find?_some hf
  have:b=m:=Classical.byContradiction fun h=>by have:=Kv (R:=fun b e:RM=>b.path≠e.path) (fun a=>a.symm) (a.rise.imp fun a=>Ez a) f d h;exact this g
  rw[this]
def Vok.only{s c}(d:Vok s c){a b}(ha:a∈s.mem)(hb:b∈s.mem)(e:a.path=b.path):a=b:=by have f:=d.find ha;rw[e,d.find hb]at f;exact(Prod.mk.inj f).2.symm
def Vok.del{s c}(e:Vok s c)(p)(a:s.dev.lZ+10000≤1000000000)(h0:(s.del p).1=0):
 JM s (s.del p).2 c 9∧Uh s (s.del p).2∧(s.del p).2.mem=Ci p s.mem:=by
 unfold Vst.del at h0 ⊢
 by_cases hf:(s.find p).1≠0
 ·rw[Qg hf]at h0;exact absurd h0 hf
 rw[Qf hf];obtain⟨hp,-,-⟩:=Vst.find_zero<|Decidable.not_not.1 hf;have h:=e.room 2 (by omega);obtain⟨i,j,d,k⟩:=Vst.room_same s 2;have f:=Vst.room_calls s 2;have g:=Vst.room_next (s:=s) (n:=2) (by omega);have⟨a,b⟩:=qx<|s.room 2;rw[b]at h i j d k f g ⊢;have ha:Zn a.mem [(false,(⟨p,0,0,0,0⟩:RM))]=Ci p s.mem:=by rw[i];rfl
 have f:∀d∈Ci p s.mem,d∈s.mem:=fun d b=>(dW.1 b).1
 have l:=h.commit (ns:=[(false,⟨p,0,0,0,0⟩)]) (c':=c) (by show a.next+1+1≤20;omega) (fun g g=>by rw[Za.1 g];exact(YK hp).2.2)
  (by rw[ha];exact QS (DL _ _) e.few) (fun d b=>h.mems d (by rw[i];rw[ha]at b;exact f d b))
  (by rw[ha,j];exact MX (OC e.rise) (fun d b=>e.inX<|f d b) fun h ha i hb g=>e.apart (f h ha) (f i hb) g) (by show a.dev.lZ+1+2≤_;omega)
 have f:(a.commit [(false,⟨p,0,0,0,0⟩)]).dev.lZ=a.dev.lZ+3:=by show a.dev.lZ+(RJ _ _ _).length+1=_;rw[Cx];rfl
 refine⟨⟨l,j,by show _≤(a.commit _).dev.lZ;rw[f];omega,by show(a.commit _).dev.lZ≤_;rw[f];omega⟩,fun d b d f f=>?_,ha⟩;have hi:=e.inX b;have:=e.lenM b;show(wrL a.dev.img (10+a.next) _)[d]?=_;rw[CJ _ _ _ _ (.inr (by rw[Cx];show 10+a.next+(1+1)≤d;omega))<|by omega,k d (by omega)<|by omega]
def Vok.sct{s c}(a:Vok s c){m}(b:m∈s.mem):s.sct m=Y7 (m.path,c m.path):=by
 have d:=(a.mems m b).holds;have:=a.lenM b;have:m.eZ.toNat=(Y7 (m.path,c m.path)).length:=by rw[Ap,(a.mems m b).eZ];rfl
 unfold Vst.sct;refine Xo fun a=>?_
 by_cases hk:a<m.eZ.toNat
 ·rw[Bo hk,J4,Qj (l:=Y7 _)<|by omega];exact d a _ (Qj<|by omega)
 rw[QX (by simp;omega),QX<|by omega]
def Vok.move_to{s c}(b:Vok s c){m}(i:m∈s.mem){tg}(a:ZX s.dev.cap (s.exts++[(tg,m.eZ)])=true)(d:s.dev.lZ+10000≤1000000000):
 ∃s',s.move m.path tg=(0,s')∧JM s s' c (2*m.eZ.toNat+10)∧Uh s s'∧(∀x,x∈s'.mem↔x={m with start:=tg}∨(x∈s.mem∧x.path≠m.path))∧
  s'.mem.map (fun x=>(x.path,x.eZ))=s.mem.map (fun x=>(x.path,x.eZ)):=by
 have d:=b.find i;unfold Vst.move;simp only[d];rw[Qf<|by simp,Qf (by rw[a];simp)];refine⟨_,rfl,?_⟩;obtain⟨d,e⟩:=(YD _ _).1 a;have g:=DR.1 e;obtain⟨C,t2,t3⟩:=d (tg,m.eZ) (by simp);have o:∀x∈s.mem,Uj (Xe x) (tg,m.eZ):=fun x a=>g.2.2 _ (Ue a) _ (by simp)
 have q:=b.sct i;have g:=b.mems m i;have r:(s.sct m).length=m.eZ.toNat:=by rw[q,Ap,g.eZ];rfl
 have p:=b.plen i;have:=Rg (f:=(m.path,c m.path)) p g.big;have:=g.eZ;have j:=b.room 2 (by omega);obtain⟨k,u,h,z⟩:=Vst.room_same s 2;have l:=Vst.room_calls s 2;have n:=Vst.room_next (s:=s) (n:=2) (by omega);have⟨e,d⟩:=qx<|s.room 2;rw[d]at j k u h z l n ⊢;obtain⟨d,h⟩:∃d:Vst,{e with dev:=(e.dev.wr tg.toNat<|s.sct m).tick (m.eZ.toNat+1)}=d:=⟨_,rfl⟩;rw[h];have l:d.mem=s.mem:=by rwa[←h]
 have q2:d.dev.cap=s.dev.cap:=by rwa[←h]
 have n:d.dev.img=wrL e.dev.img tg.toNat (s.sct m):=by rw[←h];rfl
 have y:d.dev.lZ=e.dev.lZ+2*m.eZ.toNat+1:=by rw[←h];show e.dev.lZ+(s.sct m).length+(m.eZ.toNat+1)=_;omega
 have t:d.next=e.next:=by rw[←h]
 have B:d.gen=e.gen:=by rw[←h]
 have w:d.dev.Ok:=by rw[←h];exact j.dev.wrL (by rw[r,u];omega) (by rw[q];exact Gm p g.big) _ (by omega)
 have v:∀x∈s.mem,Bq d.dev.img x (c x.path):=fun x a=>(j.mems x<|by rwa[k]).img fun h=>by rw[n];have k:=o x a;have hi:=b.inX a;unfold Uj Xe at k;refine h.wr _ ?_;rw[Ap,r];have:=(b.mems x a).eZ;simp only[]at k;omega
 have A:Vok d c:=⟨w,by rw[q2];exact b.pZ,by rw[B,y];have:=j.gen;omega,by rw[t];exact j.next,by rw[l];exact b.rise,by rw[l];exact b.few,fun x a=>v x<|l▸a,by unfold Vst.exts;rw[q2,l];exact b.ext⟩;have h:∀x,x∈Vs {m with start:=tg} s.mem↔x={m with start:=tg}∨(x∈s.mem∧x.path≠m.path):=fun x=>Dm b.rise
 have ha:Zn d.mem [(true,{m with start:=tg})]=Vs {m with start:=tg} s.mem:=by rw[l];rfl
 have y:=Cz (m:=({m with start:=tg}:RM)) b.rise;have w:(Vs {m with start:=tg} s.mem).map (fun x=>(x.path,x.eZ))=s.mem.map (fun x=>(x.path,x.eZ)):=by
  refine KB (α:=LU × Int) (pt:=fun x=>x.1) (V5.2 y) (V5.2 b.rise) fun x=>?_
  constructor
  ·intro a;obtain⟨l,j,rfl⟩:=QB.1 a;rcases(h l).1 j with rfl|⟨j,-⟩
   ·exact QB.2 ⟨m,i,rfl⟩
   exact QB.2 ⟨l,j,rfl⟩
  intro a;obtain⟨l,j,rfl⟩:=QB.1 a
  by_cases u:l.path=m.path
  ·have:=b.only j i u;subst this;exact QB.2 ⟨_,(h _).2 (.inl rfl),rfl⟩
  exact QB.2 ⟨l,(h _).2 (.inr ⟨j,u⟩),rfl⟩
 have u:(Vs {m with start:=tg} s.mem).length=s.mem.length:=by have:=Qu List.length w;rwa[QH,QH]at this
 have B:ZX d.dev.cap ((Zn d.mem [(true,{m with start:=tg})]).map Xe)=true:=by
  rw[ha,q2];refine MX y (fun x a=>?_) fun j ha l hb i=>?_
  ·rcases(h x).1 a with rfl|⟨a,-⟩
   ·exact⟨C,t2,t3⟩
   exact b.inX a
  rcases(h j).1 ha with rfl|⟨ha,y⟩<;>rcases(h l).1 hb with rfl|⟨hb,y⟩
  ·exact absurd rfl i
  ·exact(o l hb).symm
  ·exact o j ha
  exact b.apart ha hb i
 have j:=A.commit (ns:=[(true,{m with start:=tg})]) (c':=c) (by rw[t];show e.next+1+1≤20;omega) (fun l i=>by rwa[Za.1 i]) (by rw[ha,u];exact b.few)
  (fun x a=>by
   rw[ha]at a;rcases(h x).1 a with rfl|⟨a,-⟩
   ·exact⟨g.ok,g.big,g.size,g.sum,g.eZ,by rw[n,q];exact Pu _ _ _⟩
   exact v x a) B (by show d.dev.lZ+1+2≤_;omega)
 have g:(d.commit [(true,{m with start:=tg})]).dev.lZ=d.dev.lZ+3:=by show d.dev.lZ+(RJ _ _ _).length+1=_;rw[Cx];rfl
 refine⟨⟨j,q2,by rw[g];omega,by rw[g];omega⟩,fun x a g i i=>?_,fun x=>by rw[←h,←ha];rfl,by rw[←w,←ha];rfl⟩;have hi:=b.inX a;have:=b.lenM a;have k:=o x a;unfold Uj Xe at k;simp only[]at k;show(wrL d.dev.img (10+d.next) _)[g]?=_;rw[CJ _ _ _ _ (.inr (by rw[Cx,t];show 10+e.next+(1+1)≤g;omega)) (by rw[n,KX];split<;>omega),n,CJ _ _ _ _ (by rw[r];omega)<|by omega,z g (by omega)<|by omega]
def IN{s s' c}(a:s'.mem.map (fun x=>(x.path,x.eZ))=s.mem.map (fun x=>(x.path,x.eZ))):Yn s' c=Yn s c∧Zd s'.mem=Zd s.mem:=by have b:=Qu (List.map fun x:LU × Int=>((x.1,c x.1):QC)) a;have d:=Qu (List.map fun x:LU × Int=>x.2.toNat) a;rw[XI,XI]at b d;exact⟨b,Qu List.sum d⟩
def Vst.move_none{s:Vst}{p tg}(a:(s.move p tg).1≠0):(s.move p tg).2=s:=by
 unfold Vst.move at a ⊢
 by_cases b:(s.find p).1≠0
 ·rw[Qg b]
 rw[Qf b]at a ⊢
 by_cases b:ZX s.dev.cap (s.exts++[(tg,(s.find p).2.eZ)])=false
 ·rw[Qg b]
 rw[Qf b]at a;exact absurd rfl a
def Vok.move{s c}(i:Vok s c){p tg}(j:s.dev.lZ+10000≤1000000000)(h0:(s.move p tg).1=0):
 ∃m∈s.mem,JM s (s.move p tg).2 c (2*m.eZ.toNat+10)∧Uh s (s.move p tg).2∧(s.move p tg).2.mem.map (fun x=>(x.path,x.eZ))=s.mem.map (fun x=>(x.path,x.eZ)):=by
 by_cases a:(s.find p).1≠0
 ·unfold Vst.move at h0;rw[Qg a]at h0;exact absurd h0 a
 obtain⟨hp,d,e⟩:=Vst.find_zero<|Decidable.not_not.1 a
 by_cases b:ZX s.dev.cap (s.exts++[(tg,(s.find p).2.eZ)])=false
 ·unfold Vst.move at h0;rw[Qf a,Qg b]at h0;cases h0
 obtain⟨a,a,f,g,-,h⟩:=i.move_to d (by simpa using b) j;rw[e]at a;exact⟨_,d,by rw[a];exact⟨f,g,h⟩⟩
def Vst.endX_ge:∀(l:List QN)(a:Int),a≤l.foldl (fun e x=>max e<|x.1+x.2) a∧∀x∈l,x.1+x.2≤l.foldl (fun e x=>max e<|x.1+x.2) a
 | [],a=>⟨Av _,by simp⟩
 |y::l,a=>by
  obtain⟨b,c⟩:=Vst.endX_ge l<|max a<|y.1+y.2;rw[BW];refine⟨by omega,fun x b=>?_⟩;rcases QE.1 b with rfl|b
  ·omega
  exact c x b
def Vst.endX_le{b}:∀(l:List QN)(a:Int),a≤b→(∀x∈l,x.1+x.2≤b)→l.foldl (fun e x=>max e<|x.1+x.2) a≤b
 | [],a,h,_=>h
 |y::l,a,h,hl=>by rw[BW];have:=hl y (by simp);exact Vst.endX_le l _ (by omega) fun x c=>hl x (by simp[c])
def Vok.trim{s c}(h:Vok s c)(hc:s.dev.lZ+10000≤1000000000):
 s.trim.1=0∧JM s s.trim.2 c 2∧Uh s s.trim.2∧s.trim.2.mem=s.mem∧(s.trim.2.dev.img.length:Int)≤Vst.endX s.exts:=by
 unfold Vst.trim
 split
 ·rename_i h1;exact⟨rfl,JM.refl h _,Uh.refl s,rfl,h1⟩
 rename_i h1;obtain⟨g1,g2⟩:=Vst.endX_ge s.exts 30;have h4:∀m∈s.mem,m.start.toNat+m.eZ.toNat≤(Vst.endX s.exts).toNat:=fun m o=>by have:=g2 (Xe m)<|Ue o;have hi:=h.inX o;unfold Vst.endX;simp only[Xe]at this;omega
 have g3:(30:Int)≤Vst.endX s.exts:=g1;have q:=h.dev;have hg:=h.gen;refine⟨rfl,⟨⟨⟨q.c1,q.c2,?_,?_,?_⟩,h.pZ,?_,h.next,h.rise,h.few,fun m o=>(h.mems m o).img fun h3=>?_,h.ext⟩,rfl,?_,?_⟩,fun m o i h2 h3=>?_,rfl,?_⟩
 ·have:=q.len;show(s.dev.img.take _).length≤_;rw[Zl];exact QS (Nat.min_le_right _ _) this
 ·exact fun y hy=>q.sec y<|VE hy
 ·show s.dev.lZ+1+1≤_;omega
 ·show s.gen≤s.dev.lZ+1+1;omega
 ·refine h3.take _ ?_;have:=h4 m o;have:=(h.mems m o).eZ;rw[Ap];omega
 ·show s.dev.lZ≤s.dev.lZ+1+1;omega
 ·show s.dev.lZ+1+1≤_;omega
 ·have:=h4 m o;show(s.dev.img.take _)[i]?=_;rw[Bo<|by omega]
 show((s.dev.img.take _).length:Int)≤_;rw[Zl];omega
def Jq(w:WD)(v:VL)(xs:LV):Prop:=∃a cap b,v=.slice (some ⟨a,0,none⟩) xs.length cap∧QK w a (xs++b)∧cap=xs.length+b.length∧cap≤maxLen
def Jq.kept{S w w' v xs}(b:Jq w v xs)(hk:Qb S w w')(e:∀k∈Qd v,k∉S):Jq w' v xs:=by obtain⟨a,cap,f,rfl,hb,c,d⟩:=b;exact⟨a,cap,f,rfl,hb.kept hk<|e a<|by simp[Qd,qo],c,d⟩
def Jq.lt{w v xs}(b:Jq w v xs):∀k∈Qd v,k<w.heap.size:=by
 obtain⟨a,cap,c,rfl,hb,c,c⟩:=b;intro k hk;have:k=a:=by simpa[Qd,qo]using hk
 subst this;exact hb.lt
def Jq.open{w v xs}(a:Jq w v xs):∃g cap,v=.slice (some ⟨g,0,none⟩) xs.length cap∧QK w g xs∧xs.length≤cap∧cap≤maxLen:=by obtain⟨g,cap,b,rfl,hb,b,h⟩:=a;obtain⟨e,i,f,a,b,c,d⟩:=hb;refine⟨g,cap,rfl,⟨e,i,f,a,by simp at b;omega,fun a b hi=>c a b ?_,fun a hi=>d a (by simp;omega)⟩,by omega,h⟩;rwa[Xp (Qz.1 hi).1]
def Jq.cut{w}{g n cap:Nat}{xs}(a:Jq w (.slice g n cap) xs)(m)(b:m≤n):Jq w (.slice g m cap) (xs.take m):=by
 obtain⟨b,b,d,c,hb,b,b⟩:=a;injection c with a e2 e3;injection a with a;injection a with a;subst a e2 e3;have a:(xs.take m).length=m:=by simp;omega
 refine⟨g,cap,xs.drop m++d,by rw[a],?_,by simp;omega,b⟩;rwa[←QQ,V6]
def Qfv{P}(w t u ty e z bytes)(ht:P.underlying t=some (.slice e))(o:P.underlying u=some (.int .i64))(T:(P.info? e).map (fun i=>(i.zero,i.size,i.bytes))=some (some z,1,bytes))(hz:z.cells=#[z])(h1:z.oneCell'=true)(v xs)(x6:Jq w v xs)(m)(hM:xs.length+m≤maxLen)(hb:(xs.length+m)*bytes≤140737488355328):
 ∃v' w',(Builtin.append_ #[t,u] ty #[v,(m:Int)]).run P w=.ok v' w'∧Jq w' v' (xs++List.replicate m z)∧Qb (Qd v) w w'∧QP w.heap.size (Qd v) (Qd v'):=by
 obtain⟨i,hi,h0,h3,x8⟩:=Vr T;subst x8;have y2:xs.length+m≤9223372036854775807:=by simp only[maxLen]at hM;omega
 have hw:IntKind.i64.wrap (m:Int)=(m:Int):=Q3 _ (by omega);have hn:¬((m:Int)<0):=by omega
 have y4:m*i.bytes≤140737488355328:=QS (AA _<|by omega) hb;have x5:¬((2:Int)^48<(m:Int)*i.bytes):=by
  have:((m*i.bytes:Nat):Int)=m*(i.bytes:Int):=by push_cast;rfl
  rw[←this];omega
 have h5:¬(281474976710656<(m:Int)*i.bytes):=by simpa using x5
 have y0:=Py z m hz;have ha:∀(x:Int)(W:WD),Sem.run P (asInt<|.int .i64 x) W=.ok x W:=fun _ _=>rfl
 have x9:IntKind.i64.wrap 0=0:=by decide
 obtain⟨g,cap,h,rfl,h4,hc,x2⟩:=x6
 by_cases h2:xs.length+m≤cap
 ·obtain⟨w',y,x0,hk⟩:=KH (P:=P) g (xs.length*1) (List.replicate m z) 0 (xs++h) w h4 (by simp;omega) (fun u o=>by rwa[Bl o]);have x1:QK w' g ((xs++List.replicate m z)++h.drop m):=by
   have e:List.take (xs.length*1+0) (xs++h)++List.replicate m z++List.drop (xs.length*1+0+(List.replicate m z).length) (xs++h)=(xs++List.replicate m z)++h.drop m:=(by rw[RY,Jb,RV,List.take_left' rfl,EZ];simp);rwa[e]at x0
  refine⟨.slice g (xs.length+m) cap,w',?_,⟨g,cap,h.drop m,by simp,x1,by simp;omega,x2⟩,hk.mono<|by simp[Qd,qo],fun x hx=>.inl<|by simpa[Qd,qo]using hx⟩
  by_cases q:m=0
  ·subst q;have x7:xs.length≤cap:=h2;simp[storeCells]at y;subst y;simp[Builtin.append_,YX ht,YX o,sizeOf,typeInfo,hi,h3,ha,x9,x7,storeCells]
  simp only[RY]at y;simp[Builtin.append_,YX ht,YX o,sizeOf,typeInfo,zeroValue,hi,h0,h3,ha,hw,hn,h5,q,h2,YM,y0];rw[y];rfl
 have holds:∀j u,xs[j]?=some u→w.cell? ((⟨g,0,none⟩:Addr).add j)=some u:=fun j u hj=>by rw[YM,ZE];exact h4.cell (by rwa[Xp (Qz.1 hj).1])
 have y3:=grownCap_ge w (xs.length+m) cap e;have x3:=Nd w (xs.length+m) cap e hM;have x4:=run_firstCells_some (P:=P) w.drew 1 xs.length ⟨g,0,none⟩ xs.length cap xs (by simp) (by simpa using holds);have h9:¬(9223372036854775807<((xs.length:Int)+m)):=by omega
 have h8:¬(281474976710656<Builtin.nextslicecap (xs.length+m) cap*i.bytes):=by have:=IW (need:=xs.length+m) (old:=cap) (by omega) hb;omega
 have q:m≠0:=by omega
 refine⟨.slice w.heap.size (xs.length+m)<|grownCap w (xs.length+m) cap e,w.drew.alloc<|.cells ((xs++List.replicate m z)++List.replicate (grownCap w (xs.length+m) cap e-(xs.length+m)) z).toArray e,?_,
  ⟨w.heap.size,_,List.replicate (grownCap w (xs.length+m) cap e-(xs.length+m)) z,by simp,QK.new w.drew _ e,by simp;omega,x3⟩,((Qc _ w).drew).alloc _,fun x hx=>.inr (by simp[Qd,qo]at hx;omega)⟩
 have y1:∀k,Builtin.zeroCells z.cells k=(List.replicate k z).toArray:=fun k=>by rw[←Py z k hz]
 simp[Builtin.append_,YX ht,YX o,sizeOf,typeInfo,zeroValue,hi,h0,h3,ha,hw,hn,h5,q,h2,h9,h8,Question.forced,x4,newRow,grownCap,y1]
 congr 2
 exact Array.ext' (by simp)
def Qfx{P}(w e l m b g a d f)(s:BA)(xs)(c:P.underlying e=some (.slice b))(hs:(P.info? b).map (·.size)=some 1)(h:QK w g xs)(k:s.size≤d)(j:a+s.size≤xs.length):
 ∃w',(Builtin.copy_ #[e,l] m #[.slice (some ⟨g,a,none⟩) d f,s]).run P w=.ok (goInt s.size) w'∧QK w' g (splice xs a<|Qm s)∧Qb [g] w w':=by
 have d:(Qm s).length=s.size:=by simp[Qm]
 obtain⟨w',e,hb,hk⟩:=KH (P:=P) g a (Qm s) 0 xs w h (by rwa[d]) (fun a c=>by obtain⟨a,-,rfl⟩:=QB.1 c;rfl);refine⟨w',?_,by simpa[splice,d]using hb,hk⟩;cases hq:P.info? b with
 |none=>simp[hq]at hs
 |some i=>
  have hi:i.size=1:=by simpa[hq]using hs
  have:(s.extract 0 s.size)=s:=by simp
  have:(Array.map (fun a:UInt8=>Value.int .u8 (a.toNat:Int)) s.data).toList=Qm s:=by simp[Qm]
  simp[Builtin.copy_,YX c,Builtin.lenOf,Builtin.firstCells,sizeOf,typeInfo,hq,hi,GW k];rw[show List.map (fun a:UInt8=>Value.int .u8 (a.toNat:Int)) s=Qm s from rfl,Q8<|by omega,e];rfl
section
def Dk(w:WD)(d:Nat)(a b:VL)(s:QI):Prop:=
 (∃kv,Qe w d 91 [s.cap,kv,a,b,(0:Int),.slice none 0 0,.bool false,s.lZ])∧Jq w a (Qm s.img.flatten)∧(∃c,Qh w 246 b c∧c.length≤s.lZ)∧
 (d::(Qd a++Qd b)).Nodup
abbrev Q7(d:Nat)(nv pv:VL):LN:=d::(Qd nv++Qd pv)
def Dk.kept{S w w' d b c s}(a:Dk w d b c s)(hk:Qb S w w')(ha:Qq (Q7 d b c) S):Dk w' d b c s:=by obtain⟨⟨kv,b⟩,e,⟨c,f,h⟩,g⟩:=a;exact⟨⟨kv,b.kept hk<|ha d<|by simp⟩,e.kept hk fun b a=>ha b<|by simp[a],⟨c,f.kept hk fun b a=>ha b<|by simp[a],h⟩,g⟩
def Dk.kZ{w w' d a b s}(c:Dk w d a b s)(hk:Qb [] w w'):Dk w' d a b s:=c.kept hk<|ZM _
def Dk.lt{w d a b s}(c:Dk w d a b s):∀x∈Q7 d a b,x<w.heap.size:=by
 obtain⟨⟨kv,b⟩,e,⟨a,f,-⟩,a⟩:=c;intro x a;simp at a;rcases a with rfl|a|a
 ·exact b.lt
 ·exact e.lt x a
 exact f.lt x a
def Qgg{P}(t e)(i:TypeInfo)(l:P.underlying t=some (.slice e))(hi:P.info? e=some i)(g:i.size=1)(b off n c lo a:Nat)(x d)(h:x=(lo:Int))(j:d=(a:Int))(f:lo≤a)(k:a≤c)(m:lo<c)(W):
 (Instr.slice t (.slice (some ⟨b,off,none⟩) n c) (some<|.int .i64 x) (some<|.int .i64 d) none).run P W=.ok (.slice (some ⟨b,off+lo,none⟩) (a-lo)<|c-lo) W:=by
 subst h j;obtain⟨d,h,j⟩: ¬c=lo∧(lo:Int)≤a∧(a:Int)≤c:=by omega
 simp[Instr.slice,YX l,sizeOf,typeInfo,hi,g,Instr.sliceBounds,Instr.sliceBound,asIntOf,h,j,f,k,d,YM]
def QK.textAt{w g L l}(b:QK w g (Qm L))(a n cap)(c:(L.drop a).take n=l)(e:l.length=n):(convert 88 9<|.slice (some ⟨g,a,none⟩) n cap).run prog w=.ok (.string<|str l) w:=by
 subst c;have b:=iE w _ _ _ ⟨g,a,none⟩ cap ((L.drop a).take n) Xb AE Yj (fun f c=>by
  rw[YM];refine b.cell ?_;have d:a+f<L.length:=by simp at c;omega
  simp[Qm,Qj d])
 rwa[e]at b
def K.Qi6{img:LY}{i:Nat}{x:LU}(e:∀c∈img,c.length=512)(f:x.length=512):
 Qm (J2 img i x).flatten=splice (Qm img.flatten++List.replicate (512*(i+1)-512*img.length) (.int .u8 0)) (512*i) (Qm x):=by
 have⟨b,d⟩:=qx<|img++List.replicate (i+1-img.length) (Ze 512);have hs:∀c∈b,c.length=512:=by
  intro c a;rw[←d]at a;rcases Q6.1 a with a|a
  ·exact e c a
  rw[Bl a,VA]
 have hi:i<b.length:=by rw[←d];simp;omega
 have hf:Qm img.flatten++List.replicate (512*(i+1)-512*img.length) (.int .u8 0)=Qm b.flatten:=by
  rw[←d,List.flatten_append];have:∀b a,(List.replicate b<|Ze a).flatten=Ze (a*b):=fun b a=>by simp[Ze,RX]
  rw[this,show 512*(i+1)-512*img.length=512*(i+1-img.length)by omega];simp[Qm,Ze]
 have a:(Qm x).length=512:=by simp[Qm,f]
 rw[hf,J2,d,List.set_eq_take_append_cons_drop,Qg hi,splice,a,show 512*i+512=512*(i+1)by omega];unfold Qm;rw[←DN,←List.map_drop,(AN hs i).1,(AN hs<|i+1).2];simp
def jK{P u b a w K k}{j:Prop}(o:b.guard=none)(d x:Operand)(e i)(q:b.op=.call {callee:=.builtin .copy,args:=#[d,x],argTypes:=#[e,i]})(f)(t:P.underlying e=some (.slice f))(r:(P.info? f).map (·.size)=some 1)(g off c h s xs)(m:a.eval d=.slice (some ⟨g,off,none⟩) c h)(hs:a.eval x=.string s)(hb:QK w g xs)(p:s.size≤c)(n:off+s.size≤xs.length)(l:∀w',QK w' g (splice xs off<|Qm s.data.toList)→Qb [g] w w'→K (a.put b.dst<|goInt s.size) w'):
 if Region.wanted b (yielded u a.tmps)=true then Oper.wp P b a w K k else j:=by
 rw[Qg<|by simp[Region.wanted,o]];obtain⟨w',QU,j,hk⟩:=Qfx (P:=P) w e i b.type f g off c h s xs t r hb p n;unfold Oper.wp;simp[execOp,q,resolve,invoke,builtin,m,hs,QU,Result.andThen];exact l w' j hk
def Ps{P w w' d e b a c v}(g:b.guard=none)(s x:Operand)(t u)(h:b.op=Op.call {callee:=Callee.builtin Builtin.append,args:=#[s,x],argTypes:=#[t,u]})(i:(Builtin.append_ #[t,u] b.type #[a.eval s,a.eval x]).run P w=.ok v w')(f:wpList P d c e (a.put b.dst v) w'):wpList P d c (b::e) a w:=by
 refine DC g fun b b=>?_
 unfold Oper.wp;simp only[execOp,h,resolve,invoke,builtin,Sem.run_bind,Sem.run_pure,UF,Ax,QR,YG,i];exact b _ _ f
def GD(w:WD)(b:VL)(img:LY)(e:Ending)(w':WD):Prop:=
 ∃a,e=.returned a∧Jq w' a (Qm img.flatten)∧Qb (Qd b) w w'∧QP w.heap.size (Qd b) (Qd a)
set_option maxRecDepth 20000 in
def Qja(nv img)(bi bs i:Nat)(x w)(hr:Jq w nv (Qm img.flatten))(hs:∀y∈img,y.length=512)(hl:img.length≤4096)(hi:i<4096)(hx:x.length=512)(x2:Qe w bi 3 [i])(x3:Qe w bs 9 [.string<|str x])(hn:bi∉Qd nv∧bs∉Qd nv):
 Calls prog 110 #[nv,.pointer bi,.pointer bs] w (GD w nv<|J2 img i x):=by
 have hf:=K.flat_len hs;have hu:(Qm img.flatten).length=512*img.length:=by rw[←hf];unfold Qm;rw[QH]
 have⟨HW,x0,HN,HX⟩:=qd (Qi6 (i:=i) hs hx) (show(str x).size=512 from hx) hn hx;have y5:=x2.lt;have z1:=x3.lt;have c0:=x2.cell (i:=0) (u:=.int .i64 i) rfl;have c1:=x3.cell (i:=0) (u:=.string<|str x) rfl;obtain⟨g,cap,y4,-,y6,p1⟩:=hr.open;rw[hu]at y6 y4;subst y4;have HR:=Qa hr;obtain⟨iU,y2,-,y8,-⟩:=Vr YQ;have x8:=Qa fun g n c k x hx h hc=>OP (P:=prog) 88 5 iU Xb y2 y8 g 0 n c k x hx h hc;clear y2 hr hs hn hf hx x2 x3;obtain⟨n1,g1,pZ,o,L,q,hL,x9,h5,y0,y7,h8,x1,QU⟩:∃n1 g1 pZ o L q,L=Qm img.flatten++List.replicate (512*(i+1)-512*img.length) (.int .u8 0)∧L.length=n1∧QK q g1 (L++o)∧pZ=n1+o.length∧pZ≤maxLen∧
  Qb (Qd<|.slice (some ⟨g,0,none⟩) (512*img.length) cap) w q∧(g1=g∨w.heap.size≤g1)∧((img.length<i+1∧(Builtin.append_ #[88,3] 88 #[.slice (some ⟨g,0,none⟩) (512*img.length) cap,.int .i64<|((i:Int)+1)*512-512*(img.length:Int)]).run prog w=.ok (.slice (some ⟨g1,0,none⟩) n1 pZ) q)
   ∨(¬img.length<i+1∧q=w∧n1=512*img.length∧g1=g∧pZ=cap)):=by
  by_cases hlt:img.length<i+1
  ·obtain⟨v',q,QU,⟨g1,pZ,o,rfl,h5,h1,h2⟩,h8,x1⟩:=Qfv (P:=prog) w 88 3 88 5 (.int .u8 0) 1 Xb U6 YQ rfl rfl _ _ HR.o (512*(i+1)-512*img.length) (by rw[hu];simp only[maxLen];omega) (by rw[hu];omega);refine⟨_,g1,pZ,o,_,q,rfl,rfl,h5,h1,h2,h8,by simpa[Qd,qo]using x1 g1<|by simp[Qd,qo],.inl ⟨hlt,?_⟩⟩;rw[←QU];congr 4;simp;omega
  obtain⟨g',p0,o,he,h5,h1,h2⟩:=HR.o;injection he with e1 e2 e3;injection e1 with e1;injection e1 with e1;subst e1 e3;have e0:512*(i+1)-512*img.length=0:=by omega
  refine⟨512*img.length,g,cap,o,_,w,rfl,by rw[e0];simpa using hu,by rw[e0];simpa using h5,by omega,h2,Qc _ _,.inl rfl,.inr ⟨hlt,rfl,rfl,rfl,rfl⟩⟩
 have x7:=Qa hL;have y3:n1=max (512*img.length) (512*(i+1)):=by rw[←x9,hL,Qo,hu];simp;omega
 have p2:=x8.o g1 n1 pZ (512*i) ((i:Int)*512) (by omega) (by omega) (by omega);have HB:=Qa h5;have HK:=Qa h8;have HG:=Qa x1;have d0:q.cell? bi=some (.int .i64 i):=h8.cZ c0 HN.o.1;have d1:q.cell? bs=some (.string<|str x):=h8.cZ c1 HN.o.2;have HE:=Qa (show ∀w2,QK w2 g1 (splice (L++o) (512*i)<|Qm (str x).data.toList)→Qb [g1] q w2→GD w (.slice (some ⟨g,0,none⟩) (512*img.length) cap) (J2 img i x) (.returned<|.slice (some ⟨g1,0,none⟩) n1 pZ) w2 from by
  intro w2 h4 h3;have z7:(Qm x).length=512:=by simp[Qm,HX.o]
  have z6:splice (L++o) (512*i) (Qm x)=splice L (512*i) (Qm x)++o:=by unfold splice;rw[Sc<|by omega,List.drop_append_of_le_length<|by omega];simp
  have x4:(splice L (512*i)<|Qm x).length=n1:=by unfold splice;simp[z7];omega
  have h4:QK w2 g1 (splice (L++o) (512*i)<|Qm x):=h4;rw[z6,x7.o,←HW.o]at h4;rw[x7.o,←HW.o]at x4;have y1:∀y,y∈Qd (.slice (some ⟨g,0,none⟩) (512*img.length) cap)↔y=g:=fun y=>by simp[Qd,qo]
  refine⟨_,rfl,⟨g1,pZ,o,by rw[x4],h4,by rwa[x4],y7⟩,HK.o.trans h3 fun y hy=>?_,fun y hy=>?_⟩
  ·obtain rfl:y=g1:=(by simpa using hy);rw[y1];exact HG.o
  obtain rfl:y=g1:=by simpa[Qd,qo]using hy
  rw[y1];exact HG.o)
 have y9:bi∉[g1]∧bs∉[g1]:=by have:=y5;have:=z1;have h1:=HN.o;simp[Qd,qo]at h1 ⊢;omega
 have⟨h9,z8,x6,x5⟩:=qd y9 y3 (by simp;omega:512*i+512≤(L++o).length) (by omega:512≤n1-512*i);have p3:IntKind.i64.wrap ((i:Int)*512)=(i:Int)*512:=Q3 _ (by omega);clear hL h5 h8 x1 x8 y3 y0 x9;rcases QU with⟨hlt,QU⟩|⟨hlt,rfl,rfl,rfl,rfl⟩
 ·have g0:512*(img.length:Int)<((i:Int)+1)*512:=by omega
  go_enter func110,ntmps110;go_wp2_with (at_builtin;refine Ps rfl _ _ 88 3 rfl QU ?_)
  go_region_held3 (fun w'=>w'.cell? bi=some (.int .i64 i)∧w'.cell? bs=some (.string<|str x)) (first|exact⟨d0,d1⟩|exact⟨e0,e1⟩|go_keep)
   ((refine jK rfl _ _ 88 9 rfl 5 Xb Fs g1 (512*i) (n1-512*i) (pZ-512*i) (str x) (L++o) rfl rfl (HB.o.kept (Qc [] q).drew<|by simp) (by rw[x0.o];exact x5.o) (by rw[x0.o];exact x6.o) ?_;intro w2 h4 h3;have e0:=h3.cZ d0 h9.o.1;have e1:=h3.cZ d1 h9.o.2))
  all_goals
   go_wp2
   go_ret;exact HE.o w2 h4<|Qb.trans (Qc [g1] q).drew h3 fun x hx=>.inl hx
 have g0:¬512*(img.length:Int)<((i:Int)+1)*512:=by omega
 go_enter func110,ntmps110;go_wp2_with fail
 go_region_held3 (fun w'=>w'.cell? bi=some (.int .i64 i)∧w'.cell? bs=some (.string<|str x)) (first|exact⟨d0,d1⟩|exact⟨e0,e1⟩|go_keep)
  ((refine jK rfl _ _ 88 9 rfl 5 Xb Fs g1 (512*i) ((512*img.length)-512*i) (pZ-512*i) (str x) (L++o) rfl rfl (HB.o.kept (Qc [] q).drew<|by simp) (by rw[x0.o];exact x5.o) (by rw[x0.o];exact x6.o) ?_;intro w2 h4 h3;have e0:=h3.cZ d0 h9.o.1;have e1:=h3.cZ d1 h9.o.2))
 all_goals
  go_wp2
  go_ret;exact HE.o w2 h4<|Qb.trans (Qc [g1] q).drew h3 fun x hx=>.inl hx
def uY(a)(img:LY)(c n w)(b:Jq w a (Qm img.flatten))(hs:∀d∈img,d.length=512)(d:img.length≤4096)(d:n≤img.length)(hb:Qe w c 3 [n]):Calls prog 125 #[a,.pointer c] w (GD w a<|img.take n):=by
 have hf:=K.flat_len hs;have c:(Qm img.flatten).length=512*img.length:=by rw[←hf];unfold Qm;rw[QH]
 have c0:=hb.cell (i:=0) (u:=.int .i64 n) rfl;obtain⟨a,cap,a,-,d,e⟩:=b.open;rw[c]at d a;subst a;have a:=b.cut (512*n) (by omega);rw[show(Qm img.flatten).take (512*n)=Qm (img.take n).flatten by unfold Qm;rw[←DN,(AN hs n).1]]at a;have d:=Qa a;clear a b hf c;go_enter func125,ntmps125;go_wp2_with fail
 all_goals
  go_ret
  first
   |rw[show((n:Int)*512).toNat=512*n by omega]
   |rw[show(512*(img.length:Int)).toNat=512*n by omega]
   |rw[show(min (512*(img.length:Int))<|(n:Int)*512).toNat=512*n by omega]
  exact⟨_,rfl,d.o,Qc _ _,fun a a=>.inl<|by simpa[Qd,qo]using a⟩
def qA:(prog.info? 246).map (fun i=>(i.zero,i.size,i.bytes))=some (some .nilFunc,1,8):=by kernel_rfl
def Q9(w:WD)(d:Nat)(a c:VL)(s:QI)(w':WD):Prop:=∃b e,Dk w' d b e s∧Qb (Q7 d a c) w w'∧QP w.heap.size (Q7 d a c) (Q7 d b e)
section
variable {d:Nat} {nv pv:VL} {s:QI} {w:WD}
def Gd(a:Dk w d nv pv s)(hs:s.Ok):Calls prog 41 #[.pointer d] w fun e w'=>e=.returned (.bool false)∧w'=w:=by
 obtain⟨⟨kv,b⟩,c,c,c⟩:=a;have c0:=b.cell (i:=0) (u:=.int .i64 s.cap) rfl;have:((s.cap:Int)==0)=false:=Zb.2 (by have:=hs.c1;omega);go_enter func41,ntmps41
 go_wp2
 go_ret;exact⟨rfl,rfl⟩
def Cg(a:Dk w d nv pv s)(hs:s.Ok):Calls prog 14 #[.pointer d] w fun e w'=>e=.returned s.cap∧w'=w:=by have b:=Qa<|Gd a hs;obtain⟨⟨kv,c⟩,f,f,f⟩:=a;have c0:=c.cell (i:=0) (u:=.int .i64 s.cap) rfl;go_enter func14,ntmps14;go_wp2_with (go_at_call 41;refine b.o.mono ?_;rintro e a⟨rfl,rfl⟩);go_ret;exact⟨rfl,rfl⟩
def Ey(a:Dk w d nv pv s)(hs:s.Ok):Calls prog 24 #[.pointer d] w fun e w'=>e=.returned s.img.length∧w'=w:=by
 have c:=Qa<|Gd a hs;obtain⟨⟨kv,b⟩,f,g,g⟩:=a;obtain⟨a,cap,rfl,-,-⟩:=f.open;have hf:=hs.flat;have:=hs.len;have:=hs.c2;have f:(Qm s.img.flatten).length=512*s.img.length:=by rw[←hf];unfold Qm;rw[QH]
 rw[f]at b;have c0:=b.cell (i:=2) (u:=.slice a (512*s.img.length) cap) rfl;have:((512*s.img.length:Nat):Int).tdiv 512=(s.img.length:Int):=by rw[GG<|by omega];omega
 have:IntKind.i64.wrap (s.img.length:Int)=(s.img.length:Int):=wraps_i64' _ (by omega) (by omega);go_enter func24,ntmps24;go_wp2_with (go_at_call 41;refine c.o.mono ?_;rintro e a⟨rfl,rfl⟩);go_ret;exact⟨rfl,rfl⟩
def MP(a:Dk w d nv pv s)(hs:s.Ok):Calls prog 33 #[.pointer d] w fun e w'=>e=.returned (.bool false)∧w'=w:=by have b:=Qa<|Gd a hs;obtain⟨⟨kv,c⟩,f,f,f⟩:=a;have c0:=c.cell (i:=6) (u:=.bool false) rfl;go_enter func33,ntmps33;go_wp2_with (go_at_call 41;refine b.o.mono ?_;rintro e a⟨rfl,rfl⟩);go_ret;exact⟨rfl,rfl⟩
def Is(a:Dk w d nv pv s)(hs:s.Ok):Calls prog 91 #[.pointer d] w fun e w'=>e=.returned (0:Int)∧w'=w:=by have b:=Qa<|Gd a hs;obtain⟨⟨kv,c⟩,f,f,f⟩:=a;have c0:=c.cell (i:=6) (u:=.bool false) rfl;go_enter func91,ntmps91;go_wp2_with (go_at_call 41;refine b.o.mono ?_;rintro e a⟨rfl,rfl⟩);go_ret;exact⟨rfl,rfl⟩
set_option maxRecDepth 20000 in
def gE(f:Dk w d nv pv s)(hs:s.Ok)(i:Nat)(x)(k:s.img[i]?=some x):
 Calls prog 57 #[.pointer d,i] w fun e w'=>e=.returned (.tuple #[str x,(0:Int)])∧Dk w' d nv pv {s with lZ:=s.lZ+1}∧Qb [d] w w':=by
 have⟨o,q⟩:=qb (Is f hs)<|Ey f hs;have hlt:i<s.img.length:=(Qz.1 k).1;have:=hs.len;have:=hs.c2;have hf:=hs.flat;have:=hs.lZ;have n:(Qm s.img.flatten).length=512*s.img.length:=by rw[←hf];unfold Qm;rw[QH]
 obtain⟨⟨kv,g⟩,j,h,a⟩:=id f;obtain⟨c,cap,b,hb,m,-⟩:=j.open;rw[n]at m b;subst b;have m:c≠d:=by simp[Qd,qo]at a;omega
 have c2:=g.cell (i:=2) (u:=.slice c (512*s.img.length) cap) rfl;have:=g.cell (i:=7) (u:=.int .i64 s.lZ) rfl;have:=g.free 7;obtain⟨_,g1⟩:(i:Int)<s.img.length∧¬((s.img.length:Int)≤i):=by omega
 obtain⟨r,n,-,b,-⟩:=Vr YQ;have:=Qgg (P:=prog) 88 5 r Xb n b c 0 (512*s.img.length) cap (512*i) (512*(i+1)) ((i:Int)*512) (((i:Int)+1)*512) (by omega) (by omega) (by omega) (by omega) (by omega);have b:=(Qc [d] w).setCell (p:=⟨d,7,none⟩) (by simp)<|.int .i64<|(s.lZ:Int)+1;have:x.length=512:=hs.sec x<|QA k;have:=(hb.kept b<|by simpa using m).textAt (512*i) (512*(i+1)-512*i) (cap-512*i) (l:=x) (by rw[(AN hs.sec i).2,show 512*(i+1)-512*i=512*1 by omega,(AN (fun t r=>hs.sec t<|GQ r) 1).1,Z8 hlt];simp[(Qz.1 k).2]) (by omega);have k:=Qa (show Dk (w.setCell ⟨d,7,none⟩<|.int .i64<|(s.lZ:Int)+1) d (.slice c (512*s.img.length) cap) pv {s with lZ:=s.lZ+1}from
  ⟨⟨kv,g.set 7 _⟩,j.kept b<|by simpa[Qd,qo]using m,by obtain⟨c,h,g⟩:=h;exact⟨c,h.kept b (fun c hk=>by simp at a ⊢;intro e;subst e;exact a.1.2 hk),Nat.le_succ_of_le g⟩,a⟩)
 have c:=Qa b;clear n f j h a b hb;go_enter func57,ntmps57;go_wp2_with (first|(go_at_call 91;refine o.o.mono ?_;rintro e a⟨rfl,rfl⟩)|(go_at_call 24;refine q.o.mono ?_;rintro e a⟨rfl,rfl⟩));go_ret2;exact⟨rfl,k.o,c.o⟩
end
end
