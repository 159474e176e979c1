import Derived.Test.YtfafpklefknomaaGreatDoorR28
open List(length_append length_cons)
open Nat(le_refl lt_succ_self)
namespace Go.Proofs.YtfafpklefknomaaGreatDoor
open _root_.Go.Proofs.Tryz
set_option linter.all false
set_option maxRecDepth 100000
set_option maxHeartbeats 32000000
def QaA(c:Qaf)(o:OpM):Int:=
 if o.code=0\/o.code=1\/o.code=3\/o.code=4\/o.code=5 then 0
 else if o.code=2\/o.code=17\/o.code=18\/o.code=20 then 1
 else if o.code=6\/o.code=7 then 1
 else if o.code=16\/o.code=21\/o.code=22 then 0
 else if o.code=19 then c.params.getD o.n.toNat 0
 else 2
def Qbl(o:OpM):Int:=
 if o.code=2\/o.code=17\/o.code=18\/o.code=20 then 0
 else if o.code=16\/o.code=21\/o.code=22 then 0
 else 1
def isJ(o:OpM):Prop:=o.code=16\/o.code=17\/o.code=18
structure EOk(c:Qaf)(dep:Nat->Int)(L:Int)(q a:Nat)(o:OpM):Prop where
 code:0<=o.code/\o.code<=19
 n0:o.code=0->0<=o.n/\o.n<=1125899906842624
 nv:o.code=1\/o.code=2->0<=o.n/\o.n<L
 nj:isJ o->(a:Int)<o.n/\o.n<=(q:Int)
 nc:o.code=19->0<=o.n/\o.n<(c.params.length:Int)
 nz:o.code≠0->o.code≠1->o.code≠2->¬isJ o->o.code≠19->o.n=0
 nm:o.code=3->(QaU o.name).isSome=true
 nn:o.code≠3->o.code≠4->o.code≠5->o.name=[]
 pops:QaA c o<=dep a
 jump:isJ o->dep o.n.toNat=dep a+Qbl o-QaA c o
 next:o.code≠16->dep (a+1)=dep a+Qbl o-QaA c o
def EOk.congr{c:Qaf}{dep dep':Nat->Int}{L:Int}{q q' a:Nat}{o:OpM}(h:EOk c dep L q a o)(haq:a<q)(hq:q<=q')(he:∀t,a<=t->t<=q->dep' t=dep t):EOk c dep' L q' a o:=
 ⟨h.code,h.n0,h.nv,λhj=>⟨(h.nj hj).1,by have:=(h.nj hj).2;omega⟩,h.nc,h.nz,h.nm,h.nn,by rw[he a zP zo];exact h.pops,
  λhj=>by rw[he _ (zu (h.nj hj)) (zu (h.nj hj)),he a zP zo];exact h.jump hj,
  λhn=>by rw[he _ zo zo,he a zP zo];exact h.next hn⟩
def Qgl(c:Qaf)(p q:Nat):Prop:=∀t,p<t->t<=q->∃(a:Nat) (o:OpM),p<=a/\a<t/\c.ops[a]?=some o/\((o.code≠16/\o.code≠20/\o.code≠22/\t=a+1)\/(isJ o/\o.n=(t:Int)))
def Seg(c:Qaf)(L:Int)(p q:Nat)(d d':Int):Prop:=p<=q/\Qgl c p q/\∃dep:Nat->Int,dep p=d/\dep q=d'/\∀a,p<=a->a<q->∃o,c.ops[a]?=some o/\EOk c dep L q a o
def Seg.nil(c:Qaf)(L:Int)(p:Nat)(d:Int):Seg c L p p d d:=⟨le_refl _,λt h1 h2=>by omega,λ_=>d,rfl,rfl,λa h1 h2=>by omega⟩
theorem Qkb{P:Prop}(h:P:=by
  obtain⟨h1,h2,dep1,h3,h4,h5⟩:=h;obtain⟨k1,k2,dep2,k3,k4,k5⟩:=k;refine⟨by omega,λt ht1 ht2=>?_,λt=>if t<q then dep1 t else dep2 t,?_,?_,λa ha1 ha2=>?_⟩
  ·by_cases htq:t<=q
   ·exact h2 t ht1 htq
   ·obtain⟨a,o,g1,g2,g3⟩:=k2 t (by omega) ht2;exact⟨a,o,by omega,g2,g3⟩
  ·by_cases e:p<q
   ·simp[e,h3]
   ·obtain rfl:p=q:=by omega
    simp[k3,<- h4,h3]
  ·by_cases e:r<q
   ·omega
   ·simp[e,k4]
  ·by_cases e:a<q
   ·obtain⟨o,g1,g2⟩:=h5 a ha1 e;refine⟨o,g1,g2.congr e k1 λt t1 t2=>?_⟩
    by_cases e2:t<q
    ·simp[e2]
    ·obtain rfl:t=q:=by omega
     simp[k3,h4]
   ·obtain⟨o,g1,g2⟩:=k5 a (by omega) ha2;refine⟨o,g1,g2.congr ha2 (Nat.le_refl _) λt t1 t2=>?_⟩
    rw[if_neg (by omega)]):P:=h
def Seg.trans{c:Qaf}{L:Int}{p q r:Nat}{d d1 d2:Int}(h:Seg c L p q d d1)(k:Seg c L q r d1 d2):Seg c L p r d d2:=by
 exact Qkb
def Seg.cast'{c:Qaf}{L:Int}{p q q':Nat}{d d':Int}(h:Seg c L p q d d')(e:q=q'):Seg c L p q' d d':=e ▸ h
def Seg.one{c:Qaf}{L:Int}{p:Nat}{d d':Int}{o:OpM}(ho:c.ops[p]?=some o)(hc:0<=o.code/\o.code<=19)(hj:¬isJ o)(h0:o.code=0->0<=o.n/\o.n<=1125899906842624)(hv:o.code=1\/o.code=2->0<=o.n/\o.n<L)
  (hcc:o.code=19->0<=o.n/\o.n<(c.params.length:Int)) (hz:o.code≠0->o.code≠1->o.code≠2->o.code≠19->o.n=0) (hm:o.code=3->(QaU o.name).isSome=true) (hn:o.code≠3->o.code≠4->o.code≠5->o.name=[])
  (hd:QaA c o<=d) (hd':d'=d+Qbl o-QaA c o):Seg c L p (p+1) d d':=by
 refine⟨by omega,λt h1 h2=>⟨p,o,le_refl _,h1,ho,.inl ⟨λe=>hj (.inl e),by omega,by omega,by omega⟩⟩,λt=>if t=p then d else d',by simp,by simp,λa h1 h2=>?_⟩;obtain rfl:a=p:=zo;exact⟨o,ho,hc,h0,hv,λe=>absurd e hj,hcc,λa b cc _ e=>hz a b cc e,hm,hn,by simpa using hd,λe=>absurd e hj,λ_=>by simp[hd']⟩
def Qgy(n:Nat):¬n+1<=n:=zo
def Qjc(n:Nat):¬n+2<=n:=zo
def Jfi{c:Qaf}{L:Int}{p a1 b1:Nat}{d J v:Int}(hJ:J=17\/J=18)(hA:Seg c L p a1 d (d+1))(h17:c.ops[a1]?=some ⟨J,((b1+1:Nat):Int),[]⟩)(hB:Seg c L (a1+1) b1 d (d+1))
  (hj:c.ops[b1]?=some ⟨16,((b1+2:Nat):Int),[]⟩) (hp:c.ops[b1+1]?=some ⟨0,v,[]⟩) (hv:0<=v/\v<=1125899906842624) (h0:0<=d):Seg c L p (b1+2) d (d+1):=by
 obtain⟨h1,h2,dep1,h3,h4,h5⟩:=hA;obtain⟨k1,k2,dep2,k3,k4,k5⟩:=hB;have yA:Qbl ⟨J,((b1+1:Nat):Int),[]⟩=0:=by unfold Qbl;rcases hJ with rfl|rfl<;>simp
 have xA:QaA c ⟨J,((b1+1:Nat):Int),[]⟩=1:=by unfold QaA;rcases hJ with rfl|rfl<;>simp
 refine⟨by omega,λt ht1 ht2=>?_,λt=>if t<=a1 then dep1 t else if t<=b1 then dep2 t else if t=b1+1 then d else d+1,?_,?_,λa ha1 ha2=>?_⟩
 ·by_cases e1:t<=a1
  ·exact h2 t ht1 e1
  by_cases e2:t=a1+1
  ·exact⟨a1,_,h1,by omega,h17,.inl ⟨by rcases hJ with rfl|rfl<;>simp,by rcases hJ with rfl|rfl<;>simp,by rcases hJ with rfl|rfl<;>simp,e2⟩⟩
  by_cases e3:t<=b1
  ·obtain⟨a,o,g1,g2,g3⟩:=k2 t zo e3;exact⟨a,o,by omega,g2,g3⟩
  by_cases e4:t=b1+1
  ·exact⟨a1,_,h1,by omega,h17,.inr ⟨by unfold isJ;rcases hJ with rfl|rfl<;>simp,by rw[e4]⟩⟩
  ·exact⟨b1+1,_,by omega,by omega,hp,.inl ⟨by simp,by simp,by simp,by omega⟩⟩
 ·simp[h1,h3]
 ·have e1:¬b1+2<=a1:=zo;have e2:¬b1+2<=b1:=zo;simp[e1,e2]
 ·by_cases e1:a<a1
  ·obtain⟨o,g1,g2⟩:=h5 a ha1 e1;refine⟨o,g1,g2.congr e1 zo λt t1 t2=>?_⟩;simp[t2]
  by_cases e2:a=a1
  ·subst e2;refine⟨_,h17,?_,?_,?_,?_,?_,?_,?_,?_,?_,?_,?_⟩
   ·simp only[];omega
   ·intro h;simp only[]at h;omega
   ·intro h;simp only[]at h;omega
   ·intro h;simp only[];omega
   ·intro h;simp only[]at h;omega
   ·intro h1 h2 h3 h4 h5;exact absurd (show isJ _ by unfold isJ;rcases hJ with rfl|rfl<;>simp) h4
   ·intro h;simp only[]at h;omega
   ·intro _ _ _;rfl
   ·rw[xA];simp only[le_refl,if_true,h4];omega
   ·intro _;rw[yA,xA];have e3:¬b1+1<=a:=zo;have e4:¬b1+1<=b1:=zo;simp[h4,e3,e4]
   ·intro _;rw[yA,xA];have e3:¬a+1<=a:=zo;simp[h4,e3,k1,k3]
  by_cases e3:a<b1
  ·obtain⟨o,g1,g2⟩:=k5 a zo e3;refine⟨o,g1,g2.congr e3 zo λt t1 t2=>?_⟩;have e4:¬t<=a1:=zo;simp[e4,t2]
  by_cases e4:a=b1
  ·subst e4;have e5:¬a<=a1:=zo;have e6:¬a+2<=a1:=zo;refine⟨_,hj,by simp,λh=>by simp at h,λh=>by simp at h,λ_=>by simp only[];omega,λh=>by simp at h,λ_ _ _ h=>absurd (.inl rfl) h,λh=>by simp at h,λ_ _ _=>rfl,?_,?_,λh=>absurd rfl h⟩
   ·simp[QaA,e5,k4];omega
   ·intro _;have e7:((a:Int)+2).toNat=a+2:=zo;simp[QaA,Qbl,e5,e6,k4,e7,Qjc]
  ·obtain rfl:a=b1+1:=zo;have e5:¬b1+1<=a1:=zo;have e6:¬b1+1+1<=a1:=zo;refine⟨_,hp,by simp,λ_=>hv,λh=>by simp at h,λh=>by simp[isJ]at h,λh=>by simp at h,λh=>absurd rfl h,λh=>by simp at h,λ_ _ _=>rfl,?_,λh=>by simp[isJ]at h,λ_=>?_⟩
   ·simp[QaA,e5,h0,Qgy]
   ·have e7:¬b1+1+1<=b1:=zo;simp[QaA,Qbl,e5,e6,e7,Qgy]
def JnI{c:Qaf}{L:Int}{p c1 a1 q:Nat}{d:Int}(hC:Seg c L p c1 d (d+1))(h17:c.ops[c1]?=some ⟨17,((a1+1:Nat):Int),[]⟩)(hA:Seg c L (c1+1) a1 d (d+1))
  (hj:c.ops[a1]?=some ⟨16,((q:Nat):Int),[]⟩) (hB:Seg c L (a1+1) q d (d+1)) (h0:0<=d):Seg c L p q d (d+1):=by
 obtain⟨h1,h2,dep1,h3,h4,h5⟩:=hC;obtain⟨k1,k2,dep2,k3,k4,k5⟩:=hA;obtain⟨l1,l2,xA,l3,l4,l5⟩:=hB;refine⟨by omega,λt ht1 ht2=>?_,λt=>if t<=c1 then dep1 t else if t<=a1 then dep2 t else xA t,?_,?_,λa ha1 ha2=>?_⟩
 ·by_cases e1:t<=c1
  ·exact h2 t ht1 e1
  by_cases e2:t=c1+1
  ·exact⟨c1,_,h1,by omega,h17,.inl ⟨by simp,by simp,by simp,e2⟩⟩
  by_cases e3:t<=a1
  ·obtain⟨a,o,g1,g2,g3⟩:=k2 t zo e3;exact⟨a,o,by omega,g2,g3⟩
  by_cases e4:t=a1+1
  ·exact⟨c1,_,h1,by omega,h17,.inr ⟨by simp[isJ],by rw[e4]⟩⟩
  ·obtain⟨a,o,g1,g2,g3⟩:=l2 t zo ht2;exact⟨a,o,by omega,g2,g3⟩
 ·simp[h1,h3]
 ·have e1:¬q<=c1:=zo;have e2:¬q<=a1:=zo;simp[e1,e2,l4]
 ·by_cases e1:a<c1
  ·obtain⟨o,g1,g2⟩:=h5 a ha1 e1;refine⟨o,g1,g2.congr e1 zo λt t1 t2=>?_⟩;simp[t2]
  by_cases e2:a=c1
  ·subst e2;have e3:¬a1+1<=a:=zo;have e4:¬a+1<=a:=zo;refine⟨_,h17,by simp,λh=>by simp at h,λh=>by simp at h,λ_=>by simp only[];omega,λh=>by simp at h,λ_ _ _ h=>absurd (.inr (.inl rfl)) h,λh=>by simp at h,λ_ _ _=>rfl,?_,?_,λ_=>?_⟩
   ·simp[QaA,h4];omega
   ·intro _;simp[QaA,Qbl,h4,e3,l3,Qgy]
   ·simp[QaA,Qbl,h4,e4,k1,k3]
  by_cases e3:a<a1
  ·obtain⟨o,g1,g2⟩:=k5 a zo e3;refine⟨o,g1,g2.congr e3 zo λt t1 t2=>?_⟩;have e4:¬t<=c1:=zo;simp[e4,t2]
  by_cases e4:a=a1
  ·subst e4;have e5:¬a<=c1:=zo;have e6:¬q<=c1:=zo;have e7:¬q<=a:=zo;refine⟨_,hj,by simp,λh=>by simp at h,λh=>by simp at h,λ_=>by simp only[];omega,λh=>by simp at h,λ_ _ _ h=>absurd (.inl rfl) h,λh=>by simp at h,λ_ _ _=>rfl,?_,?_,λh=>absurd rfl h⟩
   ·simp[QaA,e5,k4];omega
   ·intro _;simp[QaA,Qbl,e5,e6,e7,k4,l4]
  ·obtain⟨o,g1,g2⟩:=l5 a zo ha2;refine⟨o,g1,g2.congr ha2 zP λt t1 t2=>?_⟩;have e5:¬t<=c1:=zo;have e6:¬t<=a1:=zo;simp[e5,e6]
mutual
def Ze{c:Qaf}{pa:List Nat}(hpa:c.params=pa.map λn:Nat=>(n:Int)){L:Int}:∀(e:Exp) (vars Qag p:Nat) (d:Int),QaK pa vars Qag e=true->AtC c p (cE p e)->(vars:Int)<=L->QaD e<=L->0<=d->Seg c L p (p+(cE p e).length) d (d+1)
 |.mk k n nm l,vars,Qag,p,d,hf,ha,hvL,hlL,h0=>by
  obtain⟨_,hfi,har,hk⟩:=JI hf;have hkind:=Yy hfi;unfold Qam at hfi;simp only[Bool.and_eq_true,decide_eq_true_eq]at hfi;obtain⟨⟨⟨hn,hs'⟩,_⟩,_⟩:=hfi;have hlk:QbG l<=L:=by have:=Vd (k:=k) (n:=n) (s:=nm) (l:=l);omega
  have two:∀k',k'=k->6<=k'/\k'<=15->Seg c L p (p+(cL p l++[op0 k']).length) d (d+1):=by
   intro k' hk' hr;subst hk';rw[Qcr,if_neg (by omega),if_neg (by omega),if_neg (by omega),if_neg (by omega),if_neg (by omega),if_neg (by omega),if_neg (by omega),if_neg (by omega),if_neg (by omega),if_neg (by omega)]at ha;have hkc:QbT k'=k':=by unfold QbT;split<;>omega
   rw[hkc]at ha;have hs:=Jmq hpa l vars (Qag-1) p k' 0 d (by omega) hk ha.left hvL hlk h0;rw[length_append,List.length_singleton,<- Nat.add_assoc]
   have hop:QaA c (op0 k')=(l.length:Int)/\Qbl (op0 k')=1:=by
    rw[har];unfold QaA Qbl op0 QaM;simp only[];have q1:¬(k'=0\/k'=1\/k'=3\/k'=4\/k'=5):=by omega
    have q2:¬(k'=2\/k'=17\/k'=18\/k'=20):=by omega
    have q3:¬(k'=16\/k'=21\/k'=22):=by omega
    have q4:¬k'=19:=by omega
    have q5:¬(k'=0\/k'=1\/k'=2\/k'=3\/k'=4\/k'=5):=by omega
    have q6:¬k'=18:=by omega
    have q7:¬k'=20:=by omega
    rw[if_neg q1,if_neg q2,if_neg q2,if_neg q3,if_neg q3,if_neg q4,if_neg q5,if_neg q6,if_neg q7]
    by_cases e:k'=6\/k'=7
    ·rw[if_pos e,if_pos e];exact⟨rfl,rfl⟩
    ·rw[if_neg e,if_neg e];exact⟨rfl,rfl⟩
   refine hs.trans (Seg.one ha.right.head ⟨by unfold op0;simp only[];omega,by unfold op0;simp only[];omega⟩ (by unfold isJ op0;simp only[];omega) (λh=>by simp[op0]at h;omega) (λh=>by simp[op0]at h;omega) (λh=>by simp[op0]at h;omega) (λ_ _ _ _=>rfl) (λh=>by simp[op0]at h;omega) (λ_ _ _=>rfl) ?_ ?_)
   ·rw[hop.1];omega
   ·rw[hop.1,hop.2];omega
  rcases hkind with rfl|rfl|rfl|rfl|rfl|rfl|rfl|rfl|h8|rfl|rfl|rfl|rfl|rfl|rfl
  ·rw[Qcr]at ha |-;simp at ha hn |-;exact Seg.one ha.head (by simp) (by simp[isJ]) (λ_=>hn) (λh=>by simp at h) (λh=>by simp at h) (λh=>absurd rfl h) (λh=>by simp at h) (λ_ _ _=>rfl) (by simp[QaA];omega) (by simp[QaA,Qbl])
  ·rw[Qcr]at ha |-;simp at ha hn |-;exact Seg.one ha.head (by simp) (by simp[isJ]) (λ_=>by simp only[];omega) (λh=>by simp at h) (λh=>by simp at h) (λh=>absurd rfl h) (λh=>by simp at h) (λ_ _ _=>rfl) (by simp[QaA];omega) (by simp[QaA,Qbl])
  ·rw[Qcr]at ha |-;simp at ha hn |-;exact Seg.one ha.head (by simp) (by simp[isJ]) (λh=>by simp at h) (λ_=>by simp only[];omega) (λh=>by simp at h) (λ_ h=>absurd rfl h) (λh=>by simp at h) (λ_ _ _=>rfl) (by simp[QaA];omega) (by simp[QaA,Qbl])
  ·rw[Qcr]at ha |-;simp at ha hn hs' |-;exact Seg.one ha.head (by simp) (by simp[isJ]) (λh=>by simp at h) (λh=>by simp at h) (λh=>by simp at h) (λ_ _ _ _=>rfl) (λ_=>hs') (λh=>absurd rfl h) (by simp[QaA];omega) (by simp[QaA,Qbl])
  ·rw[Qcr]at ha |-;simp at ha hn hs' |-;exact Seg.one ha.head (by simp) (by simp[isJ]) (λh=>by simp at h) (λh=>by simp at h) (λh=>by simp at h) (λ_ _ _ _=>rfl) (λh=>by simp at h) (λ_ h=>absurd rfl h) (by simp[QaA];omega) (by simp[QaA,Qbl])
  ·rw[Qcr]at ha |-;simp at ha hn hs' |-;exact Seg.one ha.head (by simp) (by simp[isJ]) (λh=>by simp at h) (λh=>by simp at h) (λh=>by simp at h) (λ_ _ _ _=>rfl) (λh=>by simp at h) (λ_ _ h=>absurd rfl h) (by simp[QaA];omega) (by simp[QaA,Qbl])
  ·have:=two 6 rfl (by omega);rw[Qcr];exact this
  ·have:=two 7 rfl (by omega);rw[Qcr];exact this
  ·have:=two k rfl (by omega);have hkc:QbT k=k:=by unfold QbT;split<;>omega
   rw[Qcr,if_neg (by omega),if_neg (by omega),if_neg (by omega),if_neg (by omega),if_neg (by omega),if_neg (by omega),if_neg (by omega),if_neg (by omega),if_neg (by omega),if_neg (by omega),hkc];exact this
  ·have:=two 15 rfl (by omega);rw[Qcr];exact this
  ·have hl:l.length=2:=har;obtain⟨a,b,rfl⟩:=JT hl;obtain⟨fa,fb⟩:=Kb hk;simp at fb;have hLa:=JE (l:=[a,b]) (a:=a) (by simp);have hLb:=JE (l:=[a,b]) (a:=b) (by simp);rw[Qcr]at ha |-;simp only[show ¬((16:Int)=0\/(16:Int)=1) by decide,show ¬(16:Int)=2 by decide,show ¬(16:Int)=3 by decide,show ¬(16:Int)=4 by decide,show ¬(16:Int)=5 by decide,if_false,if_true]at ha |-;have h1:=ha.right;have h4:=h1.tail.right;have s1:=Ze hpa a vars _ p d fa ha.left hvL (by omega) h0;have s2:=Ze hpa b vars _ (p+(cE p a).length+1) d fb h1.tail.left hvL (by omega) h0;refine(Jfi (J:=17) (v:=0) (a1:=p+(cE p a).length) (b1:=p+(cE p a).length+1+(cE (p+(cE p a).length+1) b).length) (.inl rfl) s1 ?_ s2 ?_ h4.tail.head (by omega) h0).cast' ?_
   ·have:=h1.head;rw[this]
    congr 3
    omega
   ·have:=h4.head;rw[this]
    congr 3
    omega
   ·simp only[length_append,length_cons,List.length_nil];omega
  ·have hl:l.length=2:=har;obtain⟨a,b,rfl⟩:=JT hl;obtain⟨fa,fb⟩:=Kb hk;simp at fb;have hLa:=JE (l:=[a,b]) (a:=a) (by simp);have hLb:=JE (l:=[a,b]) (a:=b) (by simp);rw[Qcr]at ha |-;simp only[show ¬((17:Int)=0\/(17:Int)=1) by decide,show ¬(17:Int)=2 by decide,show ¬(17:Int)=3 by decide,show ¬(17:Int)=4 by decide,show ¬(17:Int)=5 by decide,show ¬(17:Int)=16 by decide,if_false,if_true]at ha |-;have h1:=ha.right;have h4:=h1.tail.right;have s1:=Ze hpa a vars _ p d fa ha.left hvL (by omega) h0;have s2:=Ze hpa b vars _ (p+(cE p a).length+1) d fb h1.tail.left hvL (by omega) h0;refine(Jfi (J:=18) (v:=1) (a1:=p+(cE p a).length) (b1:=p+(cE p a).length+1+(cE (p+(cE p a).length+1) b).length) (.inr rfl) s1 ?_ s2 ?_ h4.tail.head (by omega) h0).cast' ?_
   ·have:=h1.head;rw[this]
    congr 3
    omega
   ·have:=h4.head;rw[this]
    congr 3
    omega
   ·simp only[length_append,length_cons,List.length_nil];omega
  ·have hl:l.length=3:=har;obtain⟨x,a,b,rfl⟩:=Vb hl;obtain⟨fx,fa,fb⟩:=Yb (by decide) hk;have hLx:=JE (l:=[x,a,b]) (a:=x) (by simp);have hLa:=JE (l:=[x,a,b]) (a:=a) (by simp);have hLb:=JE (l:=[x,a,b]) (a:=b) (by simp);rw[Qcr]at ha |-;simp only[show ¬((18:Int)=0\/(18:Int)=1) by decide,show ¬(18:Int)=2 by decide,show ¬(18:Int)=3 by decide,show ¬(18:Int)=4 by decide,show ¬(18:Int)=5 by decide,show ¬(18:Int)=16 by decide,show ¬(18:Int)=17 by decide,if_false,if_true]at ha |-;have h1:=ha.right;have h4:=h1.tail.right;have s1:=Ze hpa x vars _ p d fx ha.left hvL (by omega) h0;have s2:=Ze hpa a vars _ (p+(cE p x).length+1) d fa h1.tail.left hvL (by omega) h0;have e5:p+(cE p x).length+1+(cE (p+(cE p x).length+1) a).length+1=p+(cE p x).length+(cE (p+(cE p x).length+1) a).length+2:=by omega
   have h6:=h4.tail.cast e5;have s3:=Ze hpa b vars _ _ d fb h6 hvL (by omega) h0;refine(JnI (c1:=p+(cE p x).length) (a1:=p+(cE p x).length+1+(cE (p+(cE p x).length+1) a).length) (q:=p+(cE p x).length+(cE (p+(cE p x).length+1) a).length+2+(cE (p+(cE p x).length+(cE (p+(cE p x).length+1) a).length+2) b).length) s1 ?_ s2 ?_ (by rw[e5];exact s3) h0).cast' ?_
   ·have:=h1.head;rw[this]
    congr 3
    omega
   ·exact h4.head
   ·simp only[length_append,length_cons,List.length_nil];omega
  ·have hl:l.length=2:=har;obtain⟨a,b,rfl⟩:=JT hl;obtain⟨fa,fb⟩:=Kb hk;simp at fb;have hLa:=JE (l:=[a,b]) (a:=a) (by simp);have hLb:=JE (l:=[a,b]) (a:=b) (by simp);have hnv:n=(vars:Int):=by simpa using hn
   have hln:n+1<=L:=by rw[QaD]at hlL;simp at hlL;omega
   rw[Qcr]at ha |-;simp only[show ¬((19:Int)=0\/(19:Int)=1) by decide,show ¬(19:Int)=2 by decide,show ¬(19:Int)=3 by decide,show ¬(19:Int)=4 by decide,show ¬(19:Int)=5 by decide,show ¬(19:Int)=16 by decide,show ¬(19:Int)=17 by decide,show ¬(19:Int)=18 by decide,if_false,if_true]at ha |-;have h1:=ha.right;have s1:=Ze hpa a vars _ p d fa ha.left hvL (by omega) h0;have hv1:((vars+1:Nat):Int)<=L:=by omega
   have s2:Seg c L (p+(cE p a).length+1) (p+(cE p a).length+1+(cE (p+(cE p a).length+1) b).length) d (d+1):=Ze hpa b (vars+1) (Qag-1) (p+(cE p a).length+1) d fb h1.tail hv1 (by omega) h0;have s3:Seg c L (p+(cE p a).length) (p+(cE p a).length+1) (d+1) d:=Seg.one h1.head (by simp) (by simp[isJ]) (λh=>by simp at h) (λ_=>by simp only[];omega) (λh=>by simp at h) (λ_ _ h=>absurd rfl h) (λh=>by simp at h) (λ_ _ _=>rfl) (by simp[QaA];omega) (by simp[QaA,Qbl]);refine((s1.trans s3).trans s2).cast' ?_;exact Qgs
  ·rw[Qcr]at ha |-;simp only[show ¬((20:Int)=0\/(20:Int)=1) by decide,show ¬(20:Int)=2 by decide,show ¬(20:Int)=3 by decide,show ¬(20:Int)=4 by decide,show ¬(20:Int)=5 by decide,show ¬(20:Int)=16 by decide,show ¬(20:Int)=17 by decide,show ¬(20:Int)=18 by decide,show ¬(20:Int)=19 by decide,if_false,if_true]at ha |-;simp at hn;have hs:=Jmq hpa l vars (Qag-1) p 20 0 d (by omega) hk ha.left hvL hlk h0;rw[length_append,List.length_singleton,<- Nat.add_assoc];have hpl:c.params.length=pa.length:=by rw[hpa,List.length_map]
   have hll:c.params.getD n.toNat 0=(l.length:Int):=by
    have h1:n.toNat<pa.length:=by omega
    rw[har,hpa];unfold QaM;simp[List.getD_eq_getElem?_getD,List.getElem?_map,h1]
   refine hs.trans (Seg.one ha.right.head (by simp) (by simp[isJ]) (λh=>by simp at h) (λh=>by simp at h) (λ_=>by simp only[];omega) (λ_ _ _ h=>absurd rfl h) (λh=>by simp at h) (λ_ _ _=>rfl) ?_ ?_)
   ·simp only[QaA];simp;rw[<- List.getD_eq_getElem?_getD,hll];omega
   ·simp only[QaA,Qbl];simp;rw[<- List.getD_eq_getElem?_getD,hll];omega
def Jmq{c:Qaf}{pa:List Nat}(hpa:c.params=pa.map λn:Nat=>(n:Int)){L:Int}:∀(l:List Exp) (vars Qag p:Nat) (k:Int) (i:Nat) (d:Int),k≠19->QaB pa vars Qag k i l=true->AtC c p (cL p l)->(vars:Int)<=L->QbG l<=L->0<=d->Seg c L p (p+(cL p l).length) d (d+l.length)
 |[],vars,Qag,p,k,i,d,hk,hf,ha,hvL,hlL,h0=>by
  have:(cL p []).length=0:=by rw[cL];rfl
  rw[this];simpa using Seg.nil c L p d
 |a::l,vars,Qag,p,k,i,d,hk,hf,ha,hvL,hlL,h0=>by
  rw[QaB,if_neg (by omega)]at hf;simp only[Bool.and_eq_true]at hf;rw[QbG]at hlL;rw[cL]at ha |-;have s1:=Ze hpa a vars Qag p d hf.1 ha.left hvL (by omega) h0;have s2:=Jmq hpa l vars Qag _ k (i+1) (d+1) hk hf.2 ha.right hvL (by omega) (by omega);have s3:=s1.trans s2;rw[length_append,<- Nat.add_assoc,length_cons];have e:d+1+(l.length:Int)=d+((l.length+1:Nat):Int):=by omega
  rw[<- e];exact s3
end
def InR(x:Int):Prop:=-1125899906842624<=x/\x<=1125899906842624
def VOk.inR{t v:Int}(h:VOk t v):InR v:=by
 unfold InR
 rcases h with⟨_,h1,h2⟩|⟨_,h|h⟩<;>omega
structure Qim(c:Qaf)(a:Nat)(o:OpM):Prop where
 push:o.code=0->InR o.n
 jump:isJ o->(a:Int)<o.n/\o.n<=(c.ops.length:Int)
structure QgM(c:Qaf):Prop where
 ops:∀a o,c.ops[a]?=some o->Qim c a o
 starts:∀x∈c.starts,0<=x/\x<=(c.ops.length:Int)
structure QgL(c:Qaf)(s:StM):Prop where
 pc:s.pc<=c.ops.length
 st:∀x∈s.st,InR x
 vars:∀x∈s.vars,InR x
 calls:∀f∈s.calls,f.1<=c.ops.length/\∀x∈f.2,InR x
 many:s.calls.length<=100
 used:s.used<=10000
def frW(N:Nat):List (Nat × List Int)->Nat
 |[]=>0
 |f::l=>(N-f.1)+frW N l
def phi(c:Qaf)(s:StM):Nat:=(10000-s.used)*(2*c.ops.length+2)+(c.ops.length-s.pc)+frW c.ops.length s.calls
def Jko{F:Qaj}(h:QaF F=true)(s:By):InR (QcM F s):=by
 have hb:∀b:Bool,InR (Qcs b):=λb=>(Ya b).inR
 have hn:∀n∈F.nums,InR n:=λn hn=>by
  have h1:F.nums.all QfR=true:=by unfold QaF at h;simp only[Bool.and_eq_true]at h;exact h.1.1
  exact(Jlg (List.all_eq_true.1 h1 n hn)).inR
 unfold QcM;unfold Qaj.nums at hn
 repeat' split
 all_goals first|exact hb _|exact hn _ zq
def Jlk(n:Int):InR (clI n):=(JhK n).inR
def Jef(b:Bool):InR (Qcs b):=(Ya b).inR
def Jkp(k a b:Int)(hk:k≠7):∀v u,Qax k a b 0=.val v u->InR v:=by
 intro v u h;unfold Qax at h;rw[if_neg hk]at h
 repeat' split at h
 all_goals first|(simp only[RN.val.injEq]at h;obtain⟨rfl,_⟩:=h;first|exact Jlk _|exact Jef _)|cases h
def Qfi(c:Qaf)(s s':StM):Prop:=QgL c s'/\s'.st.length<=s.st.length+1/\phi c s'<phi c s
def QgL.next{c:Qaf}{s:StM}(h:QgL c s)(hpc:s.pc<c.ops.length){s':StM}(h1:s.pc<s'.pc)(h2:s'.pc<=c.ops.length)(h3:∀x∈s'.st,InR x)(h4:∀x∈s'.vars,InR x)(h5:s'.calls=s.calls)(h6:s.used<=s'.used/\s'.used<=10000)(h7:s'.st.length<=s.st.length+1):Qfi c s s':=by
 refine⟨⟨h2,h3,h4,by rw[h5];exact h.calls,by rw[h5];exact h.many,h6.2⟩,h7,?_⟩;unfold phi;rw[h5];have:(10000-s'.used)*(2*c.ops.length+2)<=(10000-s.used)*(2*c.ops.length+2):=Nat.mul_le_mul_right _ zo;omega
def Jkq{c:Qaf}{F:Qaj}{s s':StM}(hc:QgM c)(hF:QaF F=true)(h:QgL c s)(hs:QbZ c F s=some s'):Qfi c s s':=by
 unfold QbZ at hs;split at hs
 ·cases hs
 split at hs
 ·cases hs
 rename_i o ho;have yA:=(List.getElem?_eq_some_iff.1 ho).1;have hg:=hc.ops _ _ ho;have xA:∀v,InR v->Qfi c s { s with pc:=s.pc+1,st:=v::s.st }:=λv hv=>h.next yA (lt_succ_self _) yA (λx hx=>(List.mem_cons.1 hx).elim (λe=>e ▸ hv) (h.st x)) h.vars rfl ⟨le_refl _,h.used⟩ zq
 have hL:=hg.jump
 have zA:∀(e:Int) (l:List Int) (u:Nat),(∀x∈l,x∈s.st)->l.length<=s.st.length->s.used<=u->u<=10000->Qfi c s (StM.fail { s with pc:=s.pc+1,st:=l,used:=u } e):=λe l u h1 h2 h3 h4=>
  h.next yA (lt_succ_self _) yA (λx hx=>h.st x (h1 x hx)) h.vars rfl ⟨h3,h4⟩ (by simp[StM.fail];omega)
 have uA:∀v l,s.st=v::l->(∀x∈l,x∈s.st)/\l.length+1=s.st.length/\InR v:=λv l e=>⟨λx hx=>by rw[e];simp[hx],by rw[e];rfl,h.st v (by rw[e];simp)⟩
 have vA:∀(l:List Int) (n:Int),(∀x∈l,x∈s.st)->l.length<=s.st.length->(s.pc:Int)<n->n<=(c.ops.length:Int)->Qfi c s (StM.go { s with pc:=s.pc+1,st:=l } n):=λl n h1 h2 h3 h4=>
  h.next yA (by simp[StM.go];omega) (by simp[StM.go];omega) (λx hx=>h.st x (h1 x hx)) h.vars rfl ⟨le_refl _,h.used⟩ (by simp[StM.go];omega)
 have hst:∀(l:List Int),(∀x∈l,InR x)->l.length<=s.st.length->Qfi c s { s with pc:=s.pc+1,st:=l }:=λl h1 h2=>
  h.next yA (lt_succ_self _) yA h1 h.vars rfl ⟨le_refl _,h.used⟩ (by simp only[];omega)
 unfold Qbg at hs
 by_cases e0:o.code=0
 ·rw[if_pos e0]at hs;obtain rfl:=Option.some.inj hs;exact xA _ (hg.push e0)
 rw[if_neg e0]at hs
 by_cases e1:o.code=1
 ·rw[if_pos e1]at hs;split at hs
  ·rename_i hb;obtain rfl:=Option.some.inj hs;refine xA _ ?_;simp only[]at hb |-;rw[List.getD_eq_getElem?_getD];have hlt:o.n.toNat<s.vars.length:=zo;rw[List.getElem?_eq_getElem hlt];exact h.vars _ (List.getElem_mem hlt)
  ·cases hs
 rw[if_neg e1]at hs
 by_cases e2:o.code=2
 ·rw[if_pos e2]at hs;simp only[]at hs;split at hs
  ·rename_i v l hsl;split at hs
   ·obtain rfl:=Option.some.inj hs;obtain⟨a1,a2,a3⟩:=uA v l hsl;refine h.next yA (lt_succ_self _) yA (λx hx=>h.st x (a1 x hx)) (λx hx=>?_) rfl ⟨le_refl _,h.used⟩ (by simp only[];omega)
    rcases List.mem_or_eq_of_mem_set hx with hx|rfl
    ·exact h.vars x hx
    ·exact a3
   ·cases hs
  ·cases hs
 rw[if_neg e2]at hs
 by_cases e3:o.code=3
 ·rw[if_pos e3]at hs;obtain rfl:=Option.some.inj hs;exact xA _ (Jko hF _)
 rw[if_neg e3]at hs
 by_cases e4:o.code=4
 ·rw[if_pos e4]at hs;obtain rfl:=Option.some.inj hs;refine xA _ ?_;unfold QaF at hF;simp only[Bool.and_eq_true]at hF;exact(JbF _ hF.1.2).inR
 rw[if_neg e4]at hs
 by_cases e5:o.code=5
 ·rw[if_pos e5]at hs;obtain rfl:=Option.some.inj hs;exact xA _ (Jef _)
 rw[if_neg e5]at hs
 by_cases e6:o.code=6\/o.code=7
 ·rw[if_pos e6]at hs;simp only[]at hs;split at hs
  ·rename_i v l hsl;obtain rfl:=Option.some.inj hs;obtain⟨a1,a2,a3⟩:=uA v l hsl;refine hst _ (λx hx=>?_) (by simp only[List.length_cons];omega)
   rcases List.mem_cons.1 hx with rfl|hx
   ·split
    ·exact Jlk _
    ·exact Jef _
   ·exact h.st x (a1 x hx)
  ·cases hs
 rw[if_neg e6]at hs
 by_cases e8:o.code<=15/\8<=o.code
 ·rw[if_pos e8]at hs;simp only[]at hs;split at hs
  ·rename_i b a l hsl;have hs':=Option.some.inj hs;clear hs;have a1:∀x∈l,x∈s.st:=λx hx=>by rw[hsl];simp[hx]
   have a2:l.length+2=s.st.length:=by rw[hsl];rfl
   split at hs'
   ·rename_i v u hv;subst hs';refine hst _ (λx hx=>?_) (by simp only[List.length_cons];omega)
    rcases List.mem_cons.1 hx with rfl|hx
    ·exact Jkp _ _ _ zo _ _ hv
    ·exact h.st x (a1 x hx)
   ·subst hs';exact zA _ l s.used a1 zo zP h.used
  ·cases hs
 rw[if_neg e8]at hs
 by_cases e16:o.code=16
 ·rw[if_pos e16]at hs;obtain rfl:=Option.some.inj hs;exact vA s.st o.n (λ_ h=>h) zP (hL (.inl e16)).1 (hL (.inl e16)).2
 rw[if_neg e16]at hs
 by_cases e17:o.code=17
 ·rw[if_pos e17]at hs;simp only[]at hs;split at hs
  ·rename_i v l hsl;have hs':=Option.some.inj hs;obtain⟨a1,a2,a3⟩:=uA v l hsl;split at hs'
   ·subst hs';exact vA l o.n a1 zo (hL (.inr (.inl e17))).1 (hL (.inr (.inl e17))).2
   ·subst hs';exact hst l (λx hx=>h.st x (a1 x hx)) zo
  ·cases hs
 rw[if_neg e17]at hs
 by_cases e18:o.code=18
 ·rw[if_pos e18]at hs;simp only[]at hs;split at hs
  ·rename_i v l hsl;have hs':=Option.some.inj hs;obtain⟨a1,a2,a3⟩:=uA v l hsl;split at hs'
   ·subst hs';exact vA l o.n a1 zo (hL (.inr (.inr e18))).1 (hL (.inr (.inr e18))).2
   ·subst hs';exact hst l (λx hx=>h.st x (a1 x hx)) zo
  ·cases hs
 rw[if_neg e18]at hs
 by_cases e19:o.code=19
 ·rw[if_pos e19]at hs;simp only[]at hs;split at hs
  ·obtain rfl:=Option.some.inj hs;exact zA 14 s.st s.used (λ_ h=>h) zP zP h.used
  split at hs
  ·obtain rfl:=Option.some.inj hs;have:=h.used;exact zA 7 s.st (s.used+1) (λ_ h=>h) zP zo zo
  split at hs
  ·rename_i hu hm hb;obtain rfl:=Option.some.inj hs;have cA:=h.many;have bA:=h.used
   have aA:(c.starts.getD o.n.toNat 0).toNat<=c.ops.length:=by
    have hlt:o.n.toNat<c.starts.length:=zo;rw[List.getD_eq_getElem?_getD,List.getElem?_eq_getElem hlt];have:=hc.starts _ (List.getElem_mem hlt);simp only[Option.getD_some];omega
   refine⟨⟨aA,λx hx=>h.st x (List.mem_of_mem_drop hx),λx hx=>?_,λf hf=>?_,?_,?_⟩,?_,?_⟩
   ·rcases List.mem_append.1 hx with hx|hx
    ·exact h.st x (List.mem_of_mem_take (List.mem_reverse.1 hx))
    ·rw[List.eq_of_mem_replicate hx];unfold InR;omega
   ·rcases List.mem_cons.1 hf with rfl|hf
    ·exact⟨yA,h.vars⟩
    ·exact h.calls f hf
   ·simp only[List.length_cons];omega
   ·simp only[];omega
   ·simp only[List.length_drop];omega
   ·unfold phi;simp only[frW]
    have e:(10000-s.used)*(2*c.ops.length+2)=(10000-(s.used+1))*(2*c.ops.length+2)+(2*c.ops.length+2):=by
     rw[<- Nat.succ_mul];congr 1;omega
    omega
  ·cases hs
 rw[if_neg e19]at hs
 by_cases e20:o.code=20
 ·rw[if_pos e20]at hs;simp only[]at hs;split at hs
  ·rename_i q vs l hcl;obtain rfl:=Option.some.inj hs;have hfr:=h.calls (q,vs) (by rw[hcl];simp);refine⟨⟨hfr.1,h.st,hfr.2,λf hf=>h.calls f (by rw[hcl];simp[hf]),?_,h.used⟩,by simp,?_⟩
   ·have:=h.many;rw[hcl]at this;simp at this |-;omega
   ·unfold phi;rw[hcl];simp only[frW];omega
  ·cases hs
 rw[if_neg e20]at hs
 by_cases e21:o.code=21
 ·rw[if_pos e21]at hs;have hs':=Option.some.inj hs;have bA:=h.used;split at hs'
  ·subst hs';exact zA 14 s.st s.used (λ_ h=>h) zP zP h.used
  ·subst hs';rename_i hu;simp only[]at hu;exact h.next yA (lt_succ_self _) yA h.st h.vars rfl ⟨by simp only[];omega,by simp only[];omega⟩ zq
 rw[if_neg e21]at hs
 by_cases e22:o.code=22
 ·rw[if_pos e22]at hs;obtain rfl:=Option.some.inj hs;exact h.next yA (lt_succ_self _) yA h.st h.vars rfl ⟨le_refl _,h.used⟩ zq
 rw[if_neg e22]at hs
 cases hs
def JcK{c:Qaf}{F:Qaj}(hc:QgM c)(hF:QaF F=true):∀(j:Nat) (s s':StM),QgL c s->Qaw c F j s=some s'->QgL c s'/\s'.st.length<=s.st.length+j/\phi c s'+j<=phi c s
 |0,s,s',h,hs=>by
  rw[Qaw]at hs;obtain rfl:=Option.some.inj hs;exact⟨h,by omega,by omega⟩
 |j+1,s,s',h,hs=>by
  rw[Qaw]at hs
  cases hx:QbZ c F s with
  |none=>rw[hx]at hs;cases hs
  |some s1=>
   rw[hx]at hs;obtain⟨h1,h2,h3⟩:=Jkq hc hF h hx;obtain⟨k1,k2,k3⟩:=JcK hc hF j s1 s' h1 hs;exact⟨k1,by omega,by omega⟩
structure MOk(c:Qaf)(dep:Nat->Int)(L:Int)(main:Bool)(q a:Nat)(o:OpM):Prop where
 code:0<=o.code/\o.code<=22
 n0:o.code=0->0<=o.n/\o.n<=1125899906842624
 nv:o.code=1\/o.code=2->0<=o.n/\o.n<L
 nj:isJ o->(a:Int)<o.n/\o.n<=(q:Int)
 nc:o.code=19->0<=o.n/\o.n<(c.params.length:Int)
 ne:o.code=22->0<=o.n/\o.n<=3
 nz:o.code≠0->o.code≠1->o.code≠2->¬isJ o->o.code≠19->o.code≠22->o.n=0
 nm:o.code=3->(QaU o.name).isSome=true
 nn:o.code≠3->o.code≠4->o.code≠5->o.code≠22->o.name=[]
 pl:(o.code=20->main=false)/\(o.code=21\/o.code=22->main=true)
 pops:QaA c o<=dep a
 ret:o.code=20->dep a=1
 cl:o.code=21\/o.code=22->dep a=0
 jump:isJ o->dep o.n.toNat=dep a+Qbl o-QaA c o
 next:o.code≠16->o.code≠20->o.code≠22->dep (a+1)=dep a+Qbl o-QaA c o
def MOk.congr{c:Qaf}{dep dep':Nat->Int}{L:Int}{main:Bool}{q q' a:Nat}{o:OpM}(h:MOk c dep L main q a o)(haq:a<q)(hq:q<=q')(he:∀t,a<=t->t<=q->dep' t=dep t):MOk c dep' L main q' a o:=by
 have ha:=he a (Nat.le_refl _) zo
 exact⟨h.code,h.n0,h.nv,λhj=>⟨(h.nj hj).1,by have:=(h.nj hj).2;omega⟩,h.nc,h.ne,h.nz,h.nm,h.nn,h.pl,by rw[ha];exact h.pops,by rw[ha];exact h.ret,by rw[ha];exact h.cl,
  λhj=>by rw[he _ (zu (h.nj hj)) (zu (h.nj hj)),ha];exact h.jump hj,
  λh1 h2 h3=>by rw[he _ zo zo,ha];exact h.next h1 h2 h3⟩
def EOk.m{c:Qaf}{dep:Nat->Int}{L:Int}{q a:Nat}{o:OpM}(h:EOk c dep L q a o)(main:Bool):MOk c dep L main q a o:=
 ⟨⟨h.code.1,by have:=h.code;omega⟩,h.n0,h.nv,h.nj,h.nc,λe=>by have:=h.code;omega,λa b c d e _=>h.nz a b c d e,h.nm,λa b c _=>h.nn a b c,⟨λe=>by have:=h.code;omega,λe=>by have:=h.code;omega⟩,h.pops,λe=>by have:=h.code;omega,λe=>by have:=h.code;omega,h.jump,λa _ _=>h.next a⟩
def Qgm(c:Qaf)(L:Int)(main:Bool)(p q:Nat)(d d':Int):Prop:=p<=q/\Qgl c p q/\∃dep:Nat->Int,dep p=d/\dep q=d'/\∀a,p<=a->a<q->∃o,c.ops[a]?=some o/\MOk c dep L main q a o
def Seg.m{c:Qaf}{L:Int}{p q:Nat}{d d':Int}(h:Seg c L p q d d')(main:Bool):Qgm c L main p q d d':=by
 obtain⟨h1,h2,dep,h3,h4,h5⟩:=h;exact⟨h1,h2,dep,h3,h4,λa a1 a2=>by obtain⟨o,g1,g2⟩:=h5 a a1 a2;exact⟨o,g1,g2.m main⟩⟩
def Qgm.trans{c:Qaf}{L:Int}{main:Bool}{p q r:Nat}{d d1 d2:Int}(h:Qgm c L main p q d d1)(k:Qgm c L main q r d1 d2):Qgm c L main p r d d2:=by
 exact Qkb
def Jge{c:Qaf}{L:Int}{p q act:Nat}{nm:By}(h21:c.ops[p]?=some (op0 21))(hE:Seg c L (p+1) q 0 1)(h17:c.ops[q]?=some ⟨17,((q+2:Nat):Int),[]⟩)(h22:c.ops[q+1]?=some ⟨22,(act:Int),nm⟩)(ha:act<=3):Qgm c L true p (q+2) 0 0:=by
 obtain⟨h1,h2,dep,h3,h4,h5⟩:=hE;refine⟨by omega,λt ht1 ht2=>?_,λt=>if t<=p then 0 else if t<=q then dep t else 0,by simp,?_,λa ha1 ha2=>?_⟩
 ·by_cases e1:t=p+1
  ·exact⟨p,_,Nat.le_refl _,ht1,h21,.inl ⟨by simp[op0],by simp[op0],by simp[op0],e1⟩⟩
  by_cases e2:t<=q
  ·obtain⟨a,o,g1,g2,g3⟩:=h2 t zo e2;exact⟨a,o,by omega,g2,g3⟩
  by_cases e3:t=q+1
  ·exact⟨q,_,by omega,by omega,h17,.inl ⟨by simp,by simp,by simp,e3⟩⟩
  ·exact⟨q,_,by omega,by omega,h17,.inr ⟨by simp[isJ],by simp only[];omega⟩⟩
 ·have e1:¬q+2<=p:=zo;simp[e1,Qjc]
 ·by_cases e1:a=p
  ·subst e1;refine⟨_,h21,by simp[op0],λh=>by simp[op0]at h,λh=>by simp[op0]at h,λh=>by simp[op0,isJ]at h,λh=>by simp[op0]at h,λh=>by simp[op0]at h,λ_ _ _ _ _ _=>rfl,λh=>by simp[op0]at h,λ_ _ _ _=>rfl,⟨λh=>by simp[op0]at h,λ_=>rfl⟩,by simp[op0,QaA],λh=>by simp[op0]at h,λ_=>by simp,λh=>by simp[op0,isJ]at h,λ_ _ _=>?_⟩;simp[op0,QaA,Qbl,Qgy,h1,h3]
  by_cases e2:a<q
  ·obtain⟨o,g1,g2⟩:=h5 a zo e2;refine⟨o,g1,(g2.m true).congr e2 zo λt t1 t2=>?_⟩;have e3:¬t<=p:=zo;simp[e3,t2]
  by_cases e3:a=q
  ·subst e3;have e4:¬a<=p:=zo;have e5:¬a+1<=p:=zo;have e6:((a:Int)+2).toNat=a+2:=zo;have e7:¬a+2<=p:=zo;refine⟨_,h17,by simp,λh=>by simp at h,λh=>by simp at h,λ_=>by simp only[];omega,λh=>by simp at h,λh=>by simp at h,λ_ _ _ h=>absurd (.inr (.inl rfl)) h,λh=>by simp at h,λ_ _ _ _=>rfl,⟨λh=>by simp at h,λ_=>rfl⟩,by simp[QaA,e4,h4],λh=>by simp at h,λh=>by simp at h,λ_=>?_,λ_ _ _=>?_⟩
   ·simp[QaA,Qbl,e4,h4,e6,e7,Qjc]
   ·simp[QaA,Qbl,e4,h4,e5,Qgy]
  ·obtain rfl:a=q+1:=zo;have e4:¬q+1<=p:=zo;refine⟨_,h22,by simp,λh=>by simp at h,λh=>by simp at h,λh=>by simp[isJ]at h,λh=>by simp at h,λ_=>by simp only[];omega,λ_ _ _ _ _ h=>absurd rfl h,λh=>by simp at h,λ_ _ _ h=>absurd rfl h,⟨λh=>by simp at h,λ_=>rfl⟩,by simp[QaA,e4,Qgy],λh=>by simp at h,λ_=>by simp[e4,Qgy],λh=>by simp[isJ]at h,λ_ _ h=>absurd rfl h⟩
def Jaf{c:Qaf}{pa:List Nat}(hpa:c.params=pa.map λn:Nat=>(n:Int)){L:Int}(hL0:0<=L):∀(l:List ClM) (p:Nat),AtC c p (cC p l)->(∀x∈l,QaK pa 0 40 x.cond=true/\QdR x.action=true)->Qbv l<=L->Qgm c L true p (p+(cC p l).length) 0 0
 |[],p,ha,hx,hl=>by
  have:(cC p []).length=0:=by rw[cC];rfl
  rw[this];exact(Seg.nil c L p 0).m true
 |x::l,p,ha,hx,hl=>by
  rw[cC]at ha |-;rw[Qbv]at hl;obtain⟨zA,xA⟩:=hx x zq;unfold QdR at xA;simp only[Bool.and_eq_true,decide_eq_true_eq]at xA;have h3:=ha.tail.right;have yA:x.action=((x.action.toNat:Nat):Int):=zo;have h22:=h3.tail.head;have s1:=Ze hpa x.cond 0 40 (p+1) 0 zA ha.tail.left zo zo (Int.le_refl _)
  have k1:=Jge (q:=p+1+(cE (p+1) x.cond).length) (act:=x.action.toNat) (nm:=x.reason) ha.head s1 (by
   have:=h3.head;rw[this]
   congr 3
   omega) (by rw[h22];congr 2) zo
  have e:p+1+(cE (p+1) x.cond).length+2=p+(cE (p+1) x.cond).length+3:=zo;rw[e]at k1;have k2:=Jaf hpa hL0 l (p+(cE (p+1) x.cond).length+3) (h3.tail.tail.cast zo) (λy hy=>hx y (by simp[hy])) zo;have k3:=k1.trans k2
  have e2:p+(cE (p+1) x.cond).length+3+(cC (p+(cE (p+1) x.cond).length+3) l).length=p+(op0 21::(cE (p+1) x.cond++⟨17,((p+(cE (p+1) x.cond).length+3:Nat):Int),[]⟩::⟨22,x.action,x.reason⟩::cC (p+(cE (p+1) x.cond).length+3) l)).length:=by
   simp only[length_append,length_cons];omega
  rw[e2]at k3;exact k3
def QeC(c:Qaf)(L:Int)(main:Bool)(fr tQ:Nat):Prop:=fr<tQ/\tQ<=c.ops.length/\(∀t,fr<t->t<tQ->∃(a:Nat) (o:OpM),fr<=a/\a<t/\c.ops[a]?=some o/\((o.code≠16/\o.code≠20/\o.code≠22/\t=a+1)\/(isJ o/\o.n=(t:Int))))/\
 ∃dep:Nat->Int,dep fr=0/\∀a,fr<=a->a<tQ->∃o,c.ops[a]?=some o/\MOk c dep L main (tQ-1) a o/\(o.code≠16->o.code≠20->o.code≠22->a+1<tQ)
def QeC.of{c:Qaf}{L d:Int}{main:Bool}{p q:Nat}{o:OpM}(h:Qgm c L main p q 0 d)(ho:c.ops[q]?=some o)(hl:(o.code=20/\main=false/\d=1/\o.n=0/\o.name=[])\/(o.code=22/\main=true/\d=0/\0<=o.n/\o.n<=3)):QeC c L main p (q+1):=by
 obtain⟨h1,h2,dep,h3,h4,h5⟩:=h;have hlt:=(List.getElem?_eq_some_iff.1 ho).1;refine⟨by omega,hlt,λt t1 t2=>h2 t t1 zo,dep,h3,λa a1 a2=>?_⟩
 by_cases e:a<q
 ·obtain⟨o',g1,g2⟩:=h5 a a1 e;exact⟨o',g1,g2,λ_ _ _=>by omega⟩
 ·obtain rfl:a=q:=zo;have hd:0<=d:=zo;refine⟨o,ho,?_,λ_ h20 h22=>by omega⟩
  have hp:QaA c o<=d:=by
   unfold QaA
   rcases hl with⟨e,_,e2,_⟩|⟨e,_,e2,_⟩<;>rw[e,e2]<;>simp
  refine⟨by omega,λh=>by omega,λh=>by omega,λh=>by unfold isJ at h;omega,λh=>by omega,λh=>by omega,λ_ _ _ _ _ _=>by omega,λh=>by omega,λ_ _ _ _=>?_,⟨λh=>?_,λh=>?_⟩,by rw[h4];exact hp,λh=>by omega,λh=>by omega,λh=>by unfold isJ at h;omega,λ_ _ _=>by omega⟩
  ·rcases hl with⟨_,_,_,_,h⟩|⟨h,_⟩
   ·exact h
   ·omega
  ·rcases hl with⟨_,h,_⟩|⟨h,_⟩
   ·exact h
   ·omega
  ·rcases hl with⟨h,_⟩|⟨_,h,_⟩
   ·omega
   ·exact h
def bnd(c:Qaf)(k:Nat):Nat:=if k<c.starts.length then (c.starts.getD k 0).toNat else c.ops.length
def QcG(c:Qaf)(k:Nat):Nat:=if k=0 then 0 else bnd c (k-1)
def QbK(c:Qaf)(k:Nat):Int:=if k=0 then c.slots.getLastD 0 else c.slots.getD (k-1) 0
def Jid{c:Qaf}:∀(l:List FnM) (p i:Nat) (f:FnM),l[i]?=some f->∃q:Nat,(QaC p l)[i]?=some (q:Int)/\p<=q/\(i=0->q=p)/\q+(cE q f.body).length+1<=p+(cF p l).length/\(AtC c p (cF p l)->AtC c q (cE q f.body++[op0 20]))/\
  ((i+1<l.length/\(QaC p l)[i+1]?=some ((q+(cE q f.body).length+1:Nat):Int))\/(i+1=l.length/\q+(cE q f.body).length+1=p+(cF p l).length))
 |[],p,i,f,h=>by simp at h
 |g::l,p,i,f,h=>by
  rw[QaC,cF]
  cases i with
  |zero=>
   simp at h;subst h;refine⟨p,rfl,Nat.le_refl _,λ_=>rfl,by simp only[length_append,length_cons];omega,λha=>ha.left.app (AtC.one ha.right.head),?_⟩
   cases l with
   |nil=>exact .inr ⟨rfl,by rw[cF];simp;omega⟩
   |cons b l=>exact .inl ⟨by simp,by rw[QaC];simp⟩
  |succ i=>
   simp at h;obtain⟨q,g1,g2,_,g3,g4,g5⟩:=Jid (c:=c) l (p+(cE p g.body).length+1) i f h;refine⟨q,by simpa using g1,by omega,by omega,?_,λha=>g4 (ha.right.tail.cast zo),?_⟩
   ·simp only[length_append,length_cons];omega
   ·rcases g5 with⟨g5,g6⟩|⟨g5,g6⟩
    ·exact .inl ⟨by simp;omega,by simpa using g6⟩
    ·refine .inr ⟨by simp;omega,?_⟩;simp only[length_append,length_cons];omega
def K8:∀(l:List FnM) (p:Nat),(QaC p l).length=l.length
 |[],p=>rfl
 |f::l,p=>by rw[QaC,length_cons,K8 l,length_cons]
def K7(r:Qah):(Qac r).params=r.pa.map (λn:Nat=>(n:Int)):=by
 unfold Qac Qah.pa;simp
def JL(r:Qah):(Qac r).starts.length=r.funcs.length/\(Qac r).params.length=r.funcs.length/\(Qac r).slots.length=r.funcs.length+1/\(Qac r).ops.length=(cC 0 r.clauses).length+1+(cF ((cC 0 r.clauses).length+1) r.funcs).length:=by
 unfold Qac;refine⟨K8 _ _,by simp,by simp,by simp;omega⟩
def Jeg(r:Qah){i:Nat}{f:FnM}(hf:r.funcs[i]?=some f):∃q:Nat,(Qac r).starts[i]?=some (q:Int)/\bnd (Qac r) i=q/\AtC (Qac r) q (cE q f.body++[op0 20])/\bnd (Qac r) (i+1)=q+(cE q f.body).length+1/\(cC 0 r.clauses).length+1<=q:=by
 obtain⟨q,g1,g2,_,g3,g4,g5⟩:=Jid (c:=Qac r) r.funcs ((cC 0 r.clauses).length+1) i f hf;obtain⟨l1,l2,l3,l4⟩:=JL r;have hi:=(List.getElem?_eq_some_iff.1 hf).1;have hs:(Qac r).starts=QaC ((cC 0 r.clauses).length+1) r.funcs:=rfl;have h0:AtC (Qac r) 0 (cC 0 r.clauses++⟨22,r.action,[]⟩::cF ((cC 0 r.clauses).length+1) r.funcs):=AtC.self (Qac r);have h2:=h0.right;refine⟨q,by rw[hs];exact g1,?_,g4 (h2.tail.cast zo),?_,g2⟩
 ·unfold bnd;rw[if_pos zo,hs,List.getD_eq_getElem?_getD,g1];rfl
 ·unfold bnd
  rcases g5 with⟨g5,g6⟩|⟨g5,g6⟩
  ·rw[if_pos zo,hs,List.getD_eq_getElem?_getD,g6];rfl
  ·rw[if_neg zo,l4];omega
def Jkr(r:Qah):bnd (Qac r) 0=(cC 0 r.clauses).length+1:=by
 obtain⟨l1,l2,l3,l4⟩:=JL r;unfold bnd
 cases hr:r.funcs with
 |nil=>
  rw[hr]at l1 l4;rw[if_neg (by rw[l1];simp),l4];simp[cF]
 |cons f l=>
  rw[hr]at l1;rw[if_pos (by rw[l1];simp)];have hs:(Qac r).starts=QaC ((cC 0 r.clauses).length+1) r.funcs:=rfl;rw[hs,hr,QaC];simp
def VX{r:Qah}(hr:Qat r=true):∀k,k<=r.funcs.length->QeC (Qac r) (QbK (Qac r) k) (decide (k=0)) (QcG (Qac r) k) (bnd (Qac r) k):=by
 obtain⟨ht,hy,hn,hcl,xA⟩:=KS hr;obtain⟨l1,l2,l3,l4⟩:=JL r;intro k hk;have yA:=VU r
 cases k with
 |zero=>
  have zA:=KE r.clauses;have h1:QbK (Qac r) 0=Qbv r.clauses:=by unfold QbK;rw[if_pos rfl,VW]
  have h0:=(VV r).cl
  have hs:=Jaf (c:=Qac r) (K7 r) (L:=Qbv r.clauses) zA r.clauses 0 h0.left (λx hx=>⟨by rw[<- yA];exact YY ht hx,by
   unfold QgH at hcl;have:=List.all_eq_true.1 hcl x hx;simp only[Bool.and_eq_true]at this
   exact this.1⟩) (Int.le_refl _)
  have hb:bnd (Qac r) 0=(cC 0 r.clauses).length+1:=Jkr r;rw[h1,hb,show QcG (Qac r) 0=0 from rfl];unfold QdR at xA;simp only[Bool.and_eq_true,decide_eq_true_eq]at xA;rw[Nat.zero_add]at hs;have h9:=h0.right.head;rw[Nat.zero_add]at h9;exact QeC.of hs h9 (.inr ⟨rfl,by simp,rfl,by simp only[];omega⟩)
 |succ i=>
  obtain⟨f,hf⟩:∃f,r.funcs[i]?=some f:=⟨_,List.getElem?_eq_getElem zo⟩
  obtain⟨q,g1,g2,g3,g4,g5⟩:=Jeg r hf;obtain⟨_,_,_,_,g7⟩:=(VV r).fn i f hf;have h1:QbK (Qac r) (i+1)=max (f.params.length:Int) (QaD f.body):=by unfold QbK;rw[if_neg zo,Nat.add_sub_cancel,List.getD_eq_getElem?_getD,g7];rfl
  have h2:QcG (Qac r) (i+1)=q:=by unfold QcG;rw[if_neg zo,Nat.add_sub_cancel];exact g2
  rw[h1,h2,g4];have hm:f∈r.funcs:=List.mem_of_getElem? hf;have hs:=Ze (c:=Qac r) (K7 r) (L:=max (f.params.length:Int) (QaD f.body)) f.body f.params.length 40 q 0 (by rw[<- yA];exact YX ht hm) g3.left zo zo (Int.le_refl _);exact QeC.of (hs.m false) g3.right.head (.inl ⟨rfl,rfl,by omega,rfl,rfl⟩)
end Go.Proofs.YtfafpklefknomaaGreatDoor
