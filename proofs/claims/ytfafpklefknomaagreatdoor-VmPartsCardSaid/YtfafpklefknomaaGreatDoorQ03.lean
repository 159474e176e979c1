import Derived.Test.YtfafpklefknomaaGreatDoorQ02
namespace Go.Proofs.YtfafpklefknomaaGreatDoor
open _root_.Go.Proofs.Tryz
set_option linter.all false
set_option maxRecDepth 100000
set_option maxHeartbeats 40000000
structure EndsOk(r:Qah)(u:Nat)(l:List ClM)(o:QeD):Prop where
 le:o.used<=10000
 bad:o.fault≠0->o.action=0/\o.reason=[]/\(o.fault=1\/o.fault=7\/o.fault=14/\o.used=10000)
 good:o.fault=0->(o.action=r.action/\o.reason=[])\/∃j c,l[j]?=some c/\c.action=o.action/\c.reason=o.reason/\u+j+1<=o.used
def runC_ends{r:Qah}{F:Qaj}(ht:Qbq r=true)(hy:Qbz r=true)(hF:QaF F=true):∀(l:List ClM)(u:Nat),(∀c∈l,c∈r.clauses)->u<=10000->EndsOk r u l (Qfc r F u l)
 |[],u,_,hu=>by
  unfold Qfc;exact⟨hu,λh=>absurd rfl h,λ_=>.inl ⟨rfl,rfl⟩⟩
 |c::l,u,hl,hu=>by
  unfold Qfc;split
  ·rename_i h;exact⟨hu,λ_=>⟨rfl,rfl,.inr (.inr ⟨rfl,h⟩)⟩,λh=>by change (14:Int)=0 at h;omega⟩
  ·rename_i hne;have hk:=Jmp ht hy hF (hl c zq) (u:=u+1) zo
   cases he:evN (Qcb r.funcs F 100) F [] (u+1) c.cond with
   |fault e u'=>
    rw[he]at hk;obtain⟨h1,h2,h3⟩:=hk;refine⟨h2,λ_=>⟨rfl,rfl,h3⟩,λh=>?_⟩;change e=0 at h;omega
   |val v u'=>
    rw[he]at hk;obtain⟨h1,h2,h3⟩:=hk;dsimp only;split
    ·have ih:=runC_ends ht hy hF l u' (λx hx=>hl x (List.mem_cons_of_mem _ hx)) h2;refine⟨ih.le,ih.bad,λh0=>?_⟩
     rcases ih.good h0 with h|⟨j,x,g1,g2,g3,g4⟩
     ·exact .inl h
     ·exact .inr ⟨j+1,x,by simpa using g1,g2,g3,by omega⟩
    ·exact⟨h2,λh=>absurd rfl h,λ_=>.inr ⟨0,c,rfl,rfl,rfl,by show u+0+1<=u';omega⟩⟩
def runM_ends(r:Qah)(F:Qaj)(hF:QaF F=true):EndsOk r 0 r.clauses (QdM r F):=by
 unfold QdM;split
 ·rename_i h;obtain⟨h1,h2,_⟩:=KS h.1;exact runC_ends h1 h2 h.2 r.clauses 0 (λ_ h=>h) zo
 ·exact⟨by simp,λ_=>⟨rfl,rfl,.inl rfl⟩,λh=>absurd h zp⟩
def shR{α:Type}(d:Nat):RN α->RN α
 |.val v u=>if u+d<=10000 then .val v (u+d) else .fault 14 10000
 |.fault e u=>if u+d<=10000 then .fault e (u+d) else .fault 14 10000
def Mono{α:Type}(u:Nat):RN α->Prop
 |.val _ u'=>u<=u'
 |.fault _ u'=>u<=u'
variable{u d:Nat}{α:Type}
def Mono.le{x:RN α}{v:Nat}(h:Mono v x)(hu:u<=v):Mono u x:=by
 cases x with
 |val a b=>exact Nat.le_trans hu h
 |fault a b=>exact Nat.le_trans hu h
def shR_big{x:RN α}(h:Mono u x)(hb:10000<u+d):shR d x=.fault 14 10000:=by
 cases x with
 |val a b=>exact if_neg (by have:u<=b:=h;omega)
 |fault a b=>exact if_neg (by have:u<=b:=h;omega)
def bind_mono{β:Type}{x:RN α}{f:α->Nat->RN β}(h:Mono u x)(hf:∀v u',Mono u' (f v u')):Mono u (x.bind f):=by
 cases x with
 |val a b=>exact(hf a b).le h
 |fault a b=>exact h
def bind_shift{β:Type}{x:RN α}{f:α->Nat->RN β}(hf:∀v u',Mono u' (f v u'))(hs:∀v u',u'+d<=10000->f v (u'+d)=shR d (f v u')):(shR d x).bind f=shR d (x.bind f):=by
 cases x with
 |val a b=>
  show (if b+d<=10000 then (RN.val a (b+d)) else .fault 14 10000).bind f=shR d (f a b)
  by_cases h:b+d<=10000
  ·rw[if_pos h];exact hs a b h
  ·rw[if_neg h,shR_big (hf a b) zo];rfl
 |fault a b=>
  show (if b+d<=10000 then (RN.fault a (b+d)) else .fault 14 10000).bind f=if b+d<=10000 then (RN.fault a (b+d)) else .fault 14 10000
  by_cases h:b+d<=10000
  ·rw[if_pos h,if_pos h];rfl
  ·rw[if_neg h,if_neg h];rfl
def shR_val(d:Nat)(v:α)(h:u+d<=10000):RN.val v (u+d)=shR d (.val v u):=(if_pos h).symm
def shR_fault(d:Nat)(e:Int)(h:u+d<=10000):(RN.fault e (u+d):RN α)=shR d (.fault e u):=(if_pos h).symm
def operI_mono(k a b:Int)(u:Nat):Mono u (Qax k a b u):=by
 unfold Qax
 repeat' split
 all_goals exact Nat.le_refl _
def operI_shift(k a b:Int)(d:Nat)(h:u+d<=10000):Qax k a b (u+d)=shR d (Qax k a b u):=by
 unfold Qax
 repeat' split
 all_goals first|exact shR_val d _ h|exact shR_fault d _ h
section
variable {call:Int->List Int->Nat->RN Int}(F:Qaj)
mutual
def evN_mono(hc:∀n a u,Mono u (call n a u)):∀(e:Exp)(vars:List Int)(u:Nat),Mono u (evN call F vars u e)
 |.mk k n s l,vars,u=>by
  rw[J5]
  repeat' split
  all_goals first
   |exact Nat.le_refl _
   |(rename_i a b;refine bind_mono (evN_mono hc a vars u) (λv u'=>?_);(try split)<;>first|exact Nat.le_refl _|exact evN_mono hc b _ u')
   |(rename_i c a b;refine bind_mono (evN_mono hc c vars u) (λv u'=>?_);split;exact evN_mono hc b _ u';exact evN_mono hc a _ u')
   |(refine bind_mono (evL_mono hc l vars u) (λv u'=>?_);exact hc _ _ _)
   |(refine bind_mono (evL_mono hc l vars u) (λv u'=>?_);exact operI_mono _ _ _ _)
def evL_mono(hc:∀n a u,Mono u (call n a u)):∀(l:List Exp)(vars:List Int)(u:Nat),Mono u (evL call F vars u l)
 |[],vars,u=>by unfold evL;exact Nat.le_refl _
 |e::l,vars,u=>by
  unfold evL;exact bind_mono (evN_mono hc e vars u) λv u'=>bind_mono (evL_mono hc l vars u') λ_ _=>Nat.le_refl _
end
mutual
def evN_shift(hc:∀n a u,Mono u (call n a u)){d:Nat}(hs:∀n a u,u+d<=10000->call n a (u+d)=shR d (call n a u)):∀(e:Exp)(vars:List Int)(u:Nat),u+d<=10000->evN call F vars (u+d) e=shR d (evN call F vars u e)
 |.mk k n s l,vars,u,hu=>by
  rw[J5,J5]
  by_cases h0:k=0\/k=1
  ·rw[if_pos h0,if_pos h0];exact shR_val d _ hu
  rw[if_neg h0,if_neg h0]
  by_cases h2:k=2
  ·rw[if_pos h2,if_pos h2];exact shR_val d _ hu
  rw[if_neg h2,if_neg h2]
  by_cases h3:k=3
  ·rw[if_pos h3,if_pos h3];exact shR_val d _ hu
  rw[if_neg h3,if_neg h3]
  by_cases h4:k=4
  ·rw[if_pos h4,if_pos h4];exact shR_val d _ hu
  rw[if_neg h4,if_neg h4]
  by_cases h5:k=5
  ·rw[if_pos h5,if_pos h5];exact shR_val d _ hu
  rw[if_neg h5,if_neg h5]
  by_cases h16:k=16
  ·rw[if_pos h16,if_pos h16]
   match l with
   |[a,b]=>
    dsimp only;rw[evN_shift hc hs a vars u hu];refine bind_shift (λv u'=>?_) (λv u' h=>?_)
    ·split
     ·exact Nat.le_refl _
     ·exact evN_mono F hc b _ _
    ·split
     ·exact shR_val d _ h
     ·exact evN_shift hc hs b _ _ h
   |[]=>exact shR_val d _ hu
   |[a]=>exact shR_val d _ hu
   |a::b::c::l=>exact shR_val d _ hu
  rw[if_neg h16,if_neg h16]
  by_cases h17:k=17
  ·rw[if_pos h17,if_pos h17]
   match l with
   |[a,b]=>
    dsimp only;rw[evN_shift hc hs a vars u hu];refine bind_shift (λv u'=>?_) (λv u' h=>?_)
    ·split
     ·exact evN_mono F hc b _ _
     ·exact Nat.le_refl _
    ·split
     ·exact evN_shift hc hs b _ _ h
     ·exact shR_val d _ h
   |[]=>exact shR_val d _ hu
   |[a]=>exact shR_val d _ hu
   |a::b::c::l=>exact shR_val d _ hu
  rw[if_neg h17,if_neg h17]
  by_cases h18:k=18
  ·rw[if_pos h18,if_pos h18]
   match l with
   |[c,a,b]=>
    dsimp only;rw[evN_shift hc hs c vars u hu];refine bind_shift (λv u'=>?_) (λv u' h=>?_)
    ·split
     ·exact evN_mono F hc b _ _
     ·exact evN_mono F hc a _ _
    ·split
     ·exact evN_shift hc hs b _ _ h
     ·exact evN_shift hc hs a _ _ h
   |[]=>exact shR_val d _ hu
   |[a]=>exact shR_val d _ hu
   |[a,b]=>exact shR_val d _ hu
   |a::b::c::e::l=>exact shR_val d _ hu
  rw[if_neg h18,if_neg h18]
  by_cases h19:k=19
  ·rw[if_pos h19,if_pos h19]
   match l with
   |[a,b]=>
    dsimp only;rw[evN_shift hc hs a vars u hu];exact bind_shift (λv u'=>evN_mono F hc b _ _) (λv u' h=>evN_shift hc hs b _ _ h)
   |[]=>exact shR_val d _ hu
   |[a]=>exact shR_val d _ hu
   |a::b::c::l=>exact shR_val d _ hu
  rw[if_neg h19,if_neg h19,evL_shift hc hs l vars u hu];refine bind_shift (λv u'=>?_) (λv u' h=>?_)
  ·split
   ·exact hc _ _ _
   ·exact operI_mono _ _ _ _
  ·split
   ·exact hs _ _ _ h
   ·exact operI_shift _ _ _ _ h
def evL_shift(hc:∀n a u,Mono u (call n a u)){d:Nat}(hs:∀n a u,u+d<=10000->call n a (u+d)=shR d (call n a u)):∀(l:List Exp)(vars:List Int)(u:Nat),u+d<=10000->evL call F vars (u+d) l=shR d (evL call F vars u l)
 |[],vars,u,hu=>by unfold evL;exact shR_val d _ hu
 |e::l,vars,u,hu=>by
  unfold evL;rw[evN_shift hc hs e vars u hu];refine bind_shift (λv u'=>bind_mono (evL_mono F hc l vars u') λ_ _=>Nat.le_refl _) (λv u' h=>?_);rw[evL_shift hc hs l vars u' h];exact bind_shift (λ_ _=>Nat.le_refl _) (λ_ _ h=>shR_val d _ h)
end
end
def callD_mono(fs:List FnM)(F:Qaj):∀(d:Nat)(n:Int)(a:List Int)(u:Nat),Mono u (Qcb fs F d n a u)
 |0,n,a,u=>by
  unfold Qcb;split
  ·exact Nat.le_refl _
  ·exact Nat.le_succ _
 |d+1,n,a,u=>by
  unfold Qcb;split
  ·exact Nat.le_refl _
  ·exact(evN_mono F (callD_mono fs F d) _ _ _).le (Nat.le_succ _)
def callD_shift(fs:List FnM)(F:Qaj)(q:Nat):∀(d:Nat)(n:Int)(a:List Int)(u:Nat),u+q<=10000->Qcb fs F d n a (u+q)=shR q (Qcb fs F d n a u)
 |0,n,a,u,hu=>by
  unfold Qcb
  by_cases h:u+q=10000
  ·rw[if_pos h]
   by_cases h0:u=10000
   ·rw[if_pos h0,<-shR_fault q 14 hu]
   ·rw[if_neg h0,shR_big (u:=u+1) zP zo,h]
  ·rw[if_neg h,if_neg zo,show u+q+1=u+1+q by omega];exact shR_fault q 7 zo
 |d+1,n,a,u,hu=>by
  unfold Qcb
  by_cases h:u+q=10000
  ·rw[if_pos h]
   by_cases h0:u=10000
   ·rw[if_pos h0,<-shR_fault q 14 hu]
   ·rw[if_neg h0,shR_big (evN_mono F (callD_mono fs F d) _ _ _) zo,h]
  ·rw[if_neg h,if_neg zo,show u+q+1=u+1+q by omega];exact evN_shift F (callD_mono fs F d) (callD_shift fs F q d) _ _ _ zo
def clOut(r:Qah)(F:Qaj)(c:ClM)(l:List ClM):RN Int->QeD
 |.fault e u'=>⟨0,[],u',e⟩
 |.val v u'=>if v=0 then Qfc r F u' l else⟨c.action,c.reason,u',0⟩
def runC_q(r:Qah)(F:Qaj)(c:ClM)(l:List ClM)(u:Nat):Qfc r F u (c::l)=if u=10000 then⟨0,[],u,14⟩ else clOut r F c l (evN (Qcb r.funcs F 100) F [] (u+1) c.cond):=by
 conv=>lhs;unfold Qfc
 rfl
def shO(d:Nat)(o:QeD):QeD:=if o.used+d<=10000 then {o with used:=o.used+d} else⟨0,[],10000,14⟩
def runC_used(r:Qah)(F:Qaj):∀(l:List ClM)(u:Nat),u<=(Qfc r F u l).used
 |[],u=>by unfold Qfc;exact Nat.le_refl _
 |c::l,u=>by
  rw[runC_q];split
  ·exact Nat.le_refl _
  ·have hm:=evN_mono F (callD_mono r.funcs F 100) c.cond [] (u+1)
   cases he:evN (Qcb r.funcs F 100) F [] (u+1) c.cond with
   |fault e u'=>
    rw[he]at hm;have:u+1<=u':=hm
    show u<=u'
    omega
   |val v u'=>
    rw[he]at hm;have:u+1<=u':=hm;unfold clOut;dsimp only;split
    ·exact Nat.le_trans zo (runC_used r F l u')
    ·show u<=u'
     omega
def clOut_used(r:Qah)(F:Qaj)(c:ClM)(l:List ClM){x:RN Int}(hm:Mono u x):u<=(clOut r F c l x).used:=by
 cases x with
 |fault e u'=>exact hm
 |val v u'=>
  unfold clOut;dsimp only;split
  ·exact Nat.le_trans hm (runC_used r F l u')
  ·exact hm
def shO_big{o:QeD}(h:u<=o.used)(hb:10000<u+d):shO d o=⟨0,[],10000,14⟩:=if_neg zo
def runC_shift(r:Qah)(F:Qaj)(d:Nat):∀(l:List ClM)(u:Nat),u+d<=10000->Qfc r F (u+d) l=shO d (Qfc r F u l)
 |[],u,hu=>by
  unfold Qfc shO;rw[if_pos hu]
 |c::l,u,hu=>by
  rw[runC_q,runC_q]
  by_cases h:u+d=10000
  ·rw[if_pos h]
   by_cases h0:u=10000
   ·rw[if_pos h0];unfold shO;rw[if_pos hu]
   ·rw[if_neg h0,shO_big (clOut_used r F c l (evN_mono F (callD_mono r.funcs F 100) c.cond [] (u+1))) zo,h]
  ·rw[if_neg h,if_neg zo,show u+d+1=u+1+d by omega,evN_shift F (callD_mono r.funcs F 100) (callD_shift r.funcs F d 100) _ _ _ zo]
   cases evN (Qcb r.funcs F 100) F [] (u+1) c.cond with
   |fault e u'=>
    unfold shR clOut shO;dsimp only
    by_cases hx:u'+d<=10000
    ·rw[if_pos hx,if_pos hx]
    ·rw[if_neg hx,if_neg hx]
   |val v u'=>
    unfold shR;dsimp only
    by_cases hx:u'+d<=10000
    ·rw[if_pos hx];unfold clOut;dsimp only
     by_cases hv:v=0
     ·rw[if_pos hv,if_pos hv];exact runC_shift r F d l u' hx
     ·rw[if_neg hv,if_neg hv];unfold shO;rw[if_pos hx]
    ·rw[if_neg hx];unfold clOut;dsimp only
     by_cases hv:v=0
     ·rw[if_pos hv,shO_big (runC_used r F l u') zo]
     ·rw[if_neg hv];exact(shO_big (u:=u') zP zo).symm
def runC_parts(r:Qah)(F:Qaj):∀(l:List ClM)(u:Nat),
  (∃u1,(∀x:Qah,x.funcs=r.funcs->Qfc x F u l=⟨x.action,[],u1,0⟩)/\∀l2,Qfc r F u (l++l2)=Qfc r F u1 l2)\/
  (∀x:Qah,x.funcs=r.funcs->Qfc x F u l=Qfc r F u l)/\∀l2,Qfc r F u (l++l2)=Qfc r F u l
 |[],u=>.inl ⟨u,λx _=>by unfold Qfc;rfl,λl2=>by rw[List.nil_append]⟩
 |c::l,u=>by
  by_cases h:u=10000
  ·refine .inr ⟨λx _=>?_,λl2=>?_⟩
   ·unfold Qfc;rw[if_pos h,if_pos h]
   ·rw[List.cons_append];unfold Qfc;rw[if_pos h,if_pos h]
  ·cases he:evN (Qcb r.funcs F 100) F [] (u+1) c.cond with
   |fault e u'=>
    refine .inr ⟨λx hx=>?_,λl2=>?_⟩
    ·unfold Qfc;rw[if_neg h,if_neg h,hx,he]
    ·rw[List.cons_append];unfold Qfc;rw[if_neg h,if_neg h,he]
   |val v u'=>
    by_cases hv:v=0
    ·rcases runC_parts r F l u' with⟨u1,g1,g2⟩|⟨g1,g2⟩
     ·refine .inl ⟨u1,λx hx=>?_,λl2=>?_⟩
      ·unfold Qfc;rw[if_neg h,hx,he];dsimp only;rw[if_pos hv];exact g1 x hx
      ·rw[List.cons_append,Qfc,if_neg h,he];dsimp only;rw[if_pos hv];exact g2 l2
     ·refine .inr ⟨λx hx=>?_,λl2=>?_⟩
      ·unfold Qfc;rw[if_neg h,if_neg h,hx,he];dsimp only;rw[if_pos hv,if_pos hv];exact g1 x hx
      ·rw[List.cons_append];unfold Qfc;rw[if_neg h,if_neg h,he];dsimp only;rw[if_pos hv,if_pos hv];exact g2 l2
    ·refine .inr ⟨λx hx=>?_,λl2=>?_⟩
     ·unfold Qfc;rw[if_neg h,if_neg h,hx,he];dsimp only;rw[if_neg hv,if_neg hv]
     ·rw[List.cons_append];unfold Qfc;rw[if_neg h,if_neg h,he];dsimp only;rw[if_neg hv,if_neg hv]
variable{r:Qah}
def right_some(h:Qat r=true){l:List ClM}{a:Int}(hl:∀c∈l,c∈r.clauses)(ha:QdR a=true):Qat ⟨r.funcs,l,a⟩=true:=by
 obtain⟨h1,h2,h3,h4,_⟩:=KS h;unfold Qbq at h1;unfold Qbz at h2;unfold QgH at h4;rw[Bool.and_eq_true]at h1 h2;unfold Qat Qbq Qbz QgH;simp only[Bool.and_eq_true];exact⟨⟨⟨⟨h3,List.all_eq_true.2 λc hc=>List.all_eq_true.1 h4 c (hl c hc)⟩,ha⟩,h1.1,List.all_eq_true.2 λc hc=>List.all_eq_true.1 h1.2 c (hl c hc)⟩,h2.1,List.all_eq_true.2 λc hc=>List.all_eq_true.1 h2.2 c (hl c hc)⟩
structure SplitsOk(whole a b one two:QeD):Prop where
 ends:(a.fault≠0\/one.action=two.action)->whole=a
 full:a.fault=0->one.action≠two.action->10000<a.used+b.used->whole=⟨0,[],10000,14⟩
 both:a.fault=0->one.action≠two.action->a.used+b.used<=10000->whole={b with used:=a.used+b.used}
def runM_splits{F:Qaj}(hr:Qat r=true)(hF:QaF F=true)(k:Nat):
  SplitsOk (QdM r F) (QdM ⟨r.funcs,r.clauses.take k,r.action⟩ F) (QdM ⟨r.funcs,r.clauses.drop k,r.action⟩ F) (QdM ⟨r.funcs,r.clauses.take k,0⟩ F) (QdM ⟨r.funcs,r.clauses.take k,3⟩ F):=by
 obtain⟨ht,hy,_,_,hact⟩:=KS hr;have htk:∀c∈r.clauses.take k,c∈r.clauses:=λc hc=>List.mem_of_mem_take hc
 have hdk:∀c∈r.clauses.drop k,c∈r.clauses:=λc hc=>List.mem_of_mem_drop hc
 have e0:QdM r F=Qfc r F 0 (r.clauses.take k++r.clauses.drop k):=by
  unfold QdM;rw[if_pos ⟨hr,hF⟩,List.take_append_drop]
 have e1:QdM ⟨r.funcs,r.clauses.take k,r.action⟩ F=Qfc r F 0 (r.clauses.take k):=by
  unfold QdM;rw[if_pos ⟨right_some hr htk hact,hF⟩]
  rcases runC_parts r F (r.clauses.take k) 0 with⟨u1,g1,_⟩|⟨g1,_⟩
  ·rw[g1 r rfl,g1 ⟨r.funcs,r.clauses.take k,r.action⟩ rfl]
  ·exact g1 _ rfl
 have e2:QdM ⟨r.funcs,r.clauses.drop k,r.action⟩ F=Qfc r F 0 (r.clauses.drop k):=by
  unfold QdM;rw[if_pos ⟨right_some hr hdk hact,hF⟩]
  rcases runC_parts r F (r.clauses.drop k) 0 with⟨u1,g1,_⟩|⟨g1,_⟩
  ·rw[g1 r rfl,g1 ⟨r.funcs,r.clauses.drop k,r.action⟩ rfl]
  ·exact g1 _ rfl
 have e3:∀act,QdR act=true->QdM ⟨r.funcs,r.clauses.take k,act⟩ F=Qfc ⟨r.funcs,r.clauses.take k,act⟩ F 0 (r.clauses.take k):=by
  intro act ha;unfold QdM;rw[if_pos ⟨right_some hr htk ha,hF⟩]
 rw[e0,e1,e2,e3 0 rfl,e3 3 rfl];have hend:=runC_ends ht hy hF (r.clauses.take k) 0 htk zo
 rcases runC_parts r F (r.clauses.take k) 0 with⟨u1,g1,g2⟩|⟨g1,g2⟩
 ·rw[g1 r rfl,g1 ⟨r.funcs,r.clauses.take k,0⟩ rfl,g1 ⟨r.funcs,r.clauses.take k,3⟩ rfl,g2];rw[g1 r rfl]at hend;have hu1:u1<=10000:=hend.le;have hsh:=runC_shift r F u1 (r.clauses.drop k) 0 zo;rw[Nat.zero_add]at hsh;rw[hsh];refine⟨λh=>?_,λ_ _ h=>?_,λ_ _ h=>?_⟩
  ·rcases h with h|h
   ·exact absurd rfl h
   ·have:(0:Int)=3:=h;omega
  ·unfold shO;exact if_neg (by show ¬(Qfc r F 0 (r.clauses.drop k)).used+u1<=10000;have:10000<u1+(Qfc r F 0 (r.clauses.drop k)).used:=h;omega)
  ·unfold shO;have:u1+(Qfc r F 0 (r.clauses.drop k)).used<=10000:=h;rw[if_pos zo,Nat.add_comm]
 ·rw[g1 ⟨r.funcs,r.clauses.take k,0⟩ rfl,g1 ⟨r.funcs,r.clauses.take k,3⟩ rfl,g2];exact⟨λ_=>rfl,λ_ h=>absurd rfl h,λ_ h=>absurd rfl h⟩
structure PartsOk(z u v y:QeD):Prop where
 ends:u.fault≠0\/u.action=v.action->z=u
 full:u.fault=0->u.action≠v.action->10000<u.used+y.used\/y.fault=14->z=⟨0,[],10000,14⟩
 both:u.fault=0->u.action≠v.action->u.used+y.used<=10000->y.fault≠14->z=⟨y.action,y.reason,u.used+y.used,y.fault⟩
 uu:u.used<=10000
 yu:y.used<=10000
def runM_parts{F:Qaj}(hr:Qat r=true)(hF:QaF F=true)(k:Nat):
  PartsOk (QdM r F) (QdM ⟨r.funcs,r.clauses.take k,0⟩ F) (QdM ⟨r.funcs,r.clauses.take k,3⟩ F) (QdM ⟨r.funcs,r.clauses.drop k,r.action⟩ F):=by
 have hs:=runM_splits hr hF k;have hy:=runM_ends ⟨r.funcs,r.clauses.drop k,r.action⟩ F hF;have hu:=runM_ends ⟨r.funcs,r.clauses.take k,0⟩ F hF;obtain⟨_,_,_,_,hact⟩:=KS hr;have htk:∀c∈r.clauses.take k,c∈r.clauses:=λc hc=>List.mem_of_mem_take hc
 have e3:∀act,QdR act=true->QdM ⟨r.funcs,r.clauses.take k,act⟩ F=Qfc ⟨r.funcs,r.clauses.take k,act⟩ F 0 (r.clauses.take k):=by
  intro act ha;unfold QdM;rw[if_pos ⟨right_some hr htk ha,hF⟩]
 generalize hY:QdM ⟨r.funcs,r.clauses.drop k,r.action⟩ F=y at*;generalize hZ:QdM r F=z at*
 rcases runC_parts r F (r.clauses.take k) 0 with⟨u1,g1,g2⟩|⟨g1,g2⟩
 ·have ea:QdM ⟨r.funcs,r.clauses.take k,r.action⟩ F=⟨r.action,[],u1,0⟩:=by rw[e3 _ hact];exact g1 _ rfl
  have e0:QdM ⟨r.funcs,r.clauses.take k,0⟩ F=⟨0,[],u1,0⟩:=by rw[e3 0 rfl];exact g1 _ rfl
  have e4:QdM ⟨r.funcs,r.clauses.take k,3⟩ F=⟨3,[],u1,0⟩:=by rw[e3 3 rfl];exact g1 _ rfl
  rw[ea,e0,e4]at hs;rw[e0]at hu;rw[e0,e4];have h03:(0:Int)≠3:=zp
  have h2:=hs.full rfl h03;have h3:=hs.both rfl h03;refine⟨λh=>?_,λ_ _ h=>?_,λ_ _ h _=>?_,hu.le,hy.le⟩
  ·rcases h with h|h
   ·exact absurd rfl h
   ·exact absurd h h03
  ·by_cases hb:10000<u1+y.used
   ·exact h2 hb
   ·rcases h with h|h
    ·exact absurd h hb
    ·obtain⟨b1,b2,b3⟩:=hy.bad zo
     rcases b3 with b3|b3|⟨b3,b4⟩
     ·omega
     ·omega
     ·rw[h3 (by show u1+y.used<=10000;omega)];obtain⟨ya,yr,yu,yf⟩:=y;dsimp only at b1 b2 b3 b4 hb |-;subst b1 b2 b3 b4;have:u1=0:=zo
      subst this;rfl
  ·rw[h3 h]
 ·have ea:QdM ⟨r.funcs,r.clauses.take k,r.action⟩ F=Qfc r F 0 (r.clauses.take k):=by rw[e3 _ hact];exact g1 _ rfl
  have e0:QdM ⟨r.funcs,r.clauses.take k,0⟩ F=Qfc r F 0 (r.clauses.take k):=by rw[e3 0 rfl];exact g1 _ rfl
  have e4:QdM ⟨r.funcs,r.clauses.take k,3⟩ F=Qfc r F 0 (r.clauses.take k):=by rw[e3 3 rfl];exact g1 _ rfl
  rw[ea,e0,e4]at hs;rw[e0]at hu;rw[e0,e4];exact⟨λ_=>hs.ends (.inr rfl),λ_ h=>absurd rfl h,λ_ h=>absurd rfl h,hu.le,hy.le⟩
end Go.Proofs.YtfafpklefknomaaGreatDoor

