import Derived.Test.YtfafpklefknomaaGreatDoorF02
namespace Go.Proofs.YtfafpklefknomaaGreatDoor
open _root_.Go.Proofs.Tryz
set_option linter.all false
set_option maxRecDepth 100000
set_option maxHeartbeats 40000000
def cnt(k:Int)(l:List OpM):Nat:=l.countP λo=>decide (o.code=k)
def cnt_append(k:Int)(x y:List OpM):cnt k (x++y)=cnt k x+cnt k y:=List.countP_append
def cnt_cons(k:Int)(o:OpM)(l:List OpM):cnt k (o::l)=cnt k l+(if o.code=k then 1 else 0):=by
 unfold cnt;rw[List.countP_cons];simp
def cnt_nil(k:Int):cnt k []=0:=rfl
def cnt_zero{k:Int}{l:List OpM}(h:∀o∈l,o.code≠k):cnt k l=0:=by
 unfold cnt;rw[List.countP_eq_zero];intro o ho;simpa using h o ho
def cE_low{pa:List Nat}{e:Exp}{vars Qag p:Nat}(hf:QaK pa vars Qag e=true):∀o∈cE p e,o.code<=19:=by
 intro o ho;obtain⟨j,hj⟩:=List.getElem?_of_mem ho
 have ha:AtC ⟨List.replicate p ⟨0,0,[]⟩++cE p e,[],pa.map (λn:Nat=>(n:Int)),[]⟩ p (cE p e):=λi o' hi=>by
  simp only[];rw[List.getElem?_append_right zq];simpa using hi
 obtain⟨_,_,dep,_,_,h5⟩:=Ze (c:=⟨List.replicate p ⟨0,0,[]⟩++cE p e,[],pa.map (λn:Nat=>(n:Int)),[]⟩) (pa:=pa) rfl (L:=max (vars:Int) (QaD e)) e vars Qag p 0 hf ha zo zo (Int.le_refl _);obtain⟨o',g1,g2⟩:=h5 (p+j) zo (by have:=(List.getElem?_eq_some_iff.1 hj).1;omega);rw[ha j o hj]at g1;obtain rfl:=Option.some.inj g1;exact g2.code.2
def cE_cnt{pa:List Nat}{e:Exp}{vars Qag p:Nat}(hf:QaK pa vars Qag e=true){k:Int}(hk:20<=k):cnt k (cE p e)=0:=cnt_zero λo ho=>by have:=cE_low hf o ho;omega
def cC_ends{pa:List Nat}:∀(l:List ClM)(p:Nat),(∀x∈l,QaK pa 0 40 x.cond=true)->cnt 21 (cC p l)=l.length/\cnt 22 (cC p l)=l.length/\cnt 20 (cC p l)=0/\
  ∀(j:Nat)(o:OpM),(cC p l)[j]?=some o->o.code=22->∃x,l[cnt 22 ((cC p l).take j)]?=some x/\o.n=x.action/\o.name=x.reason
 |[],p,h=>by
  rw[cC];exact⟨rfl,rfl,rfl,λj o h=>by simp at h⟩
 |x::l,p,h=>by
  rw[cC];obtain⟨i1,i2,i3,i4⟩:=cC_ends (pa:=pa) l (p+(cE (p+1) x.cond).length+3) (λy hy=>h y (by simp[hy]));have hx:=h x zq;have e20:=cE_cnt (p:=p+1) hx (k:=20) zo;have e21:=cE_cnt (p:=p+1) hx (k:=21) zo;have e22:=cE_cnt (p:=p+1) hx (k:=22) zo;refine⟨?_,?_,?_,λj o hj ho=>?_⟩
  ·simp only[cnt_cons,cnt_append,op0,e21,i1];simp
  ·simp only[cnt_cons,cnt_append,op0,e22,i2];simp
  ·simp only[cnt_cons,cnt_append,op0,e20,i3];simp
  ·generalize hE:cE (p+1) x.cond=E at*;generalize hC:cC (p+E.length+3) l=C at*
   cases j with
   |zero=>simp at hj;subst hj;simp[op0]at ho
   |succ j=>
    simp only[List.getElem?_cons_succ]at hj;rw[List.take_succ_cons,cnt_cons,if_neg (by simp[op0]),Nat.add_zero]
    by_cases h1:j<E.length
    ·rw[List.getElem?_append_left h1]at hj;have:=cE_low (p:=p+1) hx o (by rw[hE];exact List.mem_of_getElem? hj);omega
    rw[List.getElem?_append_right zo]at hj;rw[List.take_append,List.take_of_length_le zo,cnt_append,e22,Nat.zero_add];generalize hm:j-E.length=m at*
    match m,hj with
    |0,hj=>simp at hj;subst hj;simp at ho
    |1,hj=>
     simp at hj;subst hj;simp only[List.take_succ_cons,List.take_zero,cnt_cons,cnt_nil];exact⟨x,by simp,rfl,rfl⟩
    |m+2,hj=>
     simp only[List.getElem?_cons_succ]at hj;obtain⟨y,g1,g2,g3⟩:=i4 m o hj ho;refine⟨y,?_,g2,g3⟩;simp only[List.take_succ_cons,cnt_cons];simpa using g1
def cF_cnt{pa:List Nat}:∀(l:List FnM)(p:Nat),(∀f∈l,∃vars,QaK pa vars 40 f.body=true)->cnt 21 (cF p l)=0/\cnt 22 (cF p l)=0/\cnt 20 (cF p l)=l.length
 |[],p,h=>by rw[cF];exact⟨rfl,rfl,rfl⟩
 |f::l,p,h=>by
  rw[cF];obtain⟨i1,i2,i3⟩:=cF_cnt (pa:=pa) l (p+(cE p f.body).length+1) (λy hy=>h y (by simp[hy]));obtain⟨vars,hx⟩:=h f zq;have e20:=cE_cnt (p:=p) hx (k:=20) zo;have e21:=cE_cnt (p:=p) hx (k:=21) zo;have e22:=cE_cnt (p:=p) hx (k:=22) zo;refine⟨?_,?_,?_⟩
  ·simp only[cnt_cons,cnt_append,op0,e21,i1];simp
  ·simp only[cnt_cons,cnt_append,op0,e22,i2];simp
  ·simp only[cnt_cons,cnt_append,op0,e20,i3];simp
def codeM_cnt{r:Qah}(hr:Qat r=true):cnt 21 (Qac r).ops=r.clauses.length/\cnt 22 (Qac r).ops=r.clauses.length+1/\cnt 20 (Qac r).ops=r.funcs.length:=by
 obtain⟨ht,hy,hn,hcl,hact⟩:=KS hr;obtain⟨i1,i2,i3,_⟩:=cC_ends (pa:=QbP r.sigs) r.clauses 0 (λx hx=>YY ht hx);obtain⟨j1,j2,j3⟩:=cF_cnt (pa:=QbP r.sigs) r.funcs ((cC 0 r.clauses).length+1) (λf hf=>⟨_,YX ht hf⟩);unfold Qac;simp only[cnt_append,cnt_cons,i1,i2,i3,j1,j2,j3];simp
def ret_last{r:Qah}(hr:Qat r=true){k i:Nat}{o:OpM}(hk:k<=r.funcs.length)(h1:QcG (Qac r) k<=i)(h2:i<bnd (Qac r) k)(ho:(Qac r).ops[i]?=some o)(hc:o.code=20):i+1=bnd (Qac r) k:=by
 obtain⟨ht,hy,hn,hcl,hact⟩:=KS hr
 cases k with
 |zero=>
  obtain⟨_,_,_,dep,_,h5⟩:=VX hr 0 (Nat.zero_le _);obtain⟨o',g1,g2,_⟩:=h5 i h1 h2;rw[ho]at g1;obtain rfl:=Option.some.inj g1;have:=g2.pl.1 hc;simp at this
 |succ m=>
  obtain⟨f,hf⟩:∃f,r.funcs[m]?=some f:=⟨_,List.getElem?_eq_getElem zo⟩
  obtain⟨q,g1,g2,g3,g4,g5⟩:=Jeg r hf;have h3:QcG (Qac r) (m+1)=q:=by unfold QcG;rw[if_neg zo,Nat.add_sub_cancel];exact g2
  rw[h3]at h1;rw[g4]at h2 |-
  by_cases e:i-q<(cE q f.body).length
  ·have hj:(cE q f.body)[i-q]?=some ((cE q f.body)[i-q]):=List.getElem?_eq_getElem e;have h6:=g3.left (i-q) _ hj;rw[show q+(i-q)=i by omega,ho]at h6;have h7:=cE_low (p:=q) (YX ht (List.mem_of_getElem? hf)) _ (List.getElem_mem e);rw[<-Option.some.inj h6]at h7;omega
  ·omega
def end_at{r:Qah}(hr:Qat r=true){i:Nat}{o:OpM}(ho:(Qac r).ops[i]?=some o)(hc:o.code=22):(∃x,r.clauses[cnt 22 ((Qac r).ops.take i)]?=some x/\o.n=x.action/\o.name=x.reason)\/
  (cnt 22 ((Qac r).ops.take i)=r.clauses.length/\o.n=r.action/\o.name=[]/\i+1=bnd (Qac r) 0):=by
 obtain⟨ht,hy,hn,hcl,hact⟩:=KS hr;obtain⟨i1,i2,i3,i4⟩:=cC_ends (pa:=QbP r.sigs) r.clauses 0 (λx hx=>YY ht hx);obtain⟨j1,j2,j3⟩:=cF_cnt (pa:=QbP r.sigs) r.funcs ((cC 0 r.clauses).length+1) (λf hf=>⟨_,YX ht hf⟩);have hops:(Qac r).ops=cC 0 r.clauses++⟨22,r.action,[]⟩::cF ((cC 0 r.clauses).length+1) r.funcs:=rfl;rw[Jkr];rw[hops]at ho |-
 by_cases h1:i<(cC 0 r.clauses).length
 ·rw[List.getElem?_append_left h1]at ho;rw[List.take_append_of_le_length zo];exact .inl (i4 i o ho hc)
 rw[List.getElem?_append_right zo]at ho;rw[List.take_append,List.take_of_length_le zo,cnt_append,i2];generalize hm:i-(cC 0 r.clauses).length=m at*
 cases m with
 |zero=>
  simp at ho;subst ho;exact .inr ⟨by simp[cnt_nil],rfl,rfl,by omega⟩
 |succ m=>
  simp only[List.getElem?_cons_succ]at ho
  have:0<cnt 22 (cF ((cC 0 r.clauses).length+1) r.funcs):=by
   unfold cnt;exact List.countP_pos_iff.2 ⟨o,List.mem_of_getElem? ho,by simpa using hc⟩
  omega
end Go.Proofs.YtfafpklefknomaaGreatDoor


