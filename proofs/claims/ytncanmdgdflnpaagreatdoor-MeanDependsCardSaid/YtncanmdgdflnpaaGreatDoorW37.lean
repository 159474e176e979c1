
import Derived.Test.YtncanmdgdflnpaaGreatDoorW36
namespace Go.Proofs.YtncanmdgdflnpaaGreatDoor
open _root_.Go.Proofs.Tryz
set_option linter.all false
set_option maxRecDepth 100000
set_option maxHeartbeats 32000000
mutual
def occN (k:Int) (s:List UInt8):Exp→Bool
 | .mk k' _ s' l=>occL k s l||(decide (k'=k)&&decide (s'=s))
def occL (k:Int) (s:List UInt8):List Exp→Bool
 | []=>false
 | a::l=>occN k s a||occL k s l
end
def mentM (r:RuleM) (k:Int) (s:List UInt8):Bool:=r.funcs.any (fun f=>occN k s f.body)||r.clauses.any (fun c=>occN k s c.cond)
def chM {α:Type} (r:RuleM) (s:List UInt8) (a b:α):α:=if mentM r 3 s=true then a else b
section
variable {α:Type}
def posM (key:α→List UInt8) (x:α) (l:List α):Nat→Nat
 | 0=>0
 | n+1=>match l[n]? with
  | some y=>if ltB (key x) (key y)=true then posM key x l n else n+1
  | none=>n+1
def insM (key:α→List UInt8) (x:α) (l:List α):List α:=l.take (posM key x l l.length)++x::l.drop (posM key x l l.length)
def sortM (key:α→List UInt8):List α→List α→List α
 | out,[]=>out
 | out,x::l=>sortM key (insM key x out) l
theorem Y8 (key:α→List UInt8) (x:α) (l:List α):∀ n,n≤l.length→posM key x l n≤n∧(∀ i y,posM key x l n≤i→i<n→l[i]?=some y→ltB (key x) (key y)=true)∧(∀ p y,posM key x l n=p+1→l[p]?=some y→ltB (key x) (key y)=false)
 | 0,_=>⟨Nat.le_refl _,fun i y _ h=>absurd h (Nat.not_lt_zero _),fun p y h=>by simp[posM] at h⟩
 | n+1,hn=>by
  obtain ⟨h1,h2,h3⟩:=Y8 key x l n (by omega);have hg:l[n]?=some l[n]:=List.getElem?_eq_getElem (by omega);unfold posM;rw[hg];simp only
  by_cases h:ltB (key x) (key l[n])=true
  ·rw[if_pos h];refine ⟨by omega,fun i y hi hlt hy=>?_,h3⟩
   by_cases e:i=n
   ·subst e;rw[hg] at hy;obtain rfl:=Option.some.inj hy;exact h
   ·exact h2 i y hi (by omega) hy
  ·rw[if_neg h];refine ⟨Nat.le_refl _,fun i y hi hlt=>by omega,fun p y hp hy=>?_⟩;obtain rfl:p=n:=by omega
   rw[hg] at hy;obtain rfl:=Option.some.inj hy;simpa using h
theorem Jdo (key:α→List UInt8) (x:α) (l:List α) (z:α):z∈insM key x l↔z=x∨z∈l:=by
 unfold insM
 have h:z∈l↔z∈l.take (posM key x l l.length)∨z∈l.drop (posM key x l l.length):=by
  rw[← List.mem_append,List.take_append_drop]
 rw[List.mem_append,List.mem_cons,h]
 constructor
 ·rintro (h | h | h)
  ·exact .inr (.inl h)
  ·exact .inl h
  ·exact .inr (.inr h)
 ·rintro (h | h | h)
  ·exact .inr (.inl h)
  ·exact .inl h
  ·exact .inr (.inr h)
theorem Jcw (key:α→List UInt8) (x:α) (l:List α) (hl:l.Pairwise fun a b=>ltB (key a) (key b)=true) (hx:∀ y∈l,key y≠key x):(insM key x l).Pairwise fun a b=>ltB (key a) (key b)=true:=by
 obtain ⟨h1,h2,h3⟩:=Y8 key x l l.length zzl;unfold insM;generalize posM key x l l.length=p at *
 have hd:∀ y∈l.drop p,ltB (key x) (key y)=true:=fun y hy=>by
  obtain ⟨i,hi⟩:=List.mem_iff_getElem?.1 hy;rw[List.getElem?_drop] at hi;exact h2 _ y (by omega) (List.getElem?_eq_some_iff.1 hi).1 hi
 have ht:∀ y∈l.take p,ltB (key y) (key x)=true:=fun y hy=>by
  obtain ⟨i,hi⟩:=List.mem_iff_getElem?.1 hy
  have hip:i<p:=by
   have:=(List.getElem?_eq_some_iff.1 hi).1;simp at this;omega
  rw[List.getElem?_take_of_lt hip] at hi;obtain ⟨q,rfl⟩:∃ q,p=q+1:=⟨p-1,by omega⟩
  have hq:l[q]?=some l[q]:=List.getElem?_eq_getElem (by omega)
  have hlast:ltB (key l[q]) (key x)=true:=by
   have h4:=h3 q _ rfl hq
   rcases Jci (key l[q]) (key x) with h5 | h5 | h5
   ·exact h5
   ·exact absurd h5 (hx _ (List.getElem_mem _))
   ·rw[h4] at h5; cases h5
  by_cases e:i=q
  ·subst e;rw[hq] at hi;obtain rfl:=Option.some.inj hi;exact hlast
  ·obtain ⟨h6,h7⟩:=List.getElem?_eq_some_iff.1 hi;have h8:=(List.pairwise_iff_getElem.1 hl) i q h6 (by omega) (by omega);rw[h7] at h8;exact KI h8 hlast
 rw[← List.take_append_drop p l] at hl;obtain ⟨h4,h5,h6⟩:=List.pairwise_append.1 hl;refine List.pairwise_append.2 ⟨h4,List.pairwise_cons.2 ⟨hd,h5⟩,fun a ha b hb=>?_⟩
 rcases List.mem_cons.1 hb with rfl | hb
 ·exact ht a ha
 ·exact h6 a ha b hb
theorem ZK (key:α→List UInt8):∀ (rest out:List α),(out.Pairwise fun a b=>ltB (key a) (key b)=true)→(rest.Pairwise fun a b=>key a≠key b)→(∀ a∈out,∀ b∈rest,key a≠key b)→
  ((sortM key out rest).Pairwise fun a b=>ltB (key a) (key b)=true)∧∀ z,z∈sortM key out rest↔z∈out∨z∈rest
 | [],out,h1,h2,h3=>⟨h1,fun z=>by simp[sortM]⟩
 | x::l,out,h1,h2,h3=>by
  obtain ⟨h4,h5⟩:=List.pairwise_cons.1 h2
  obtain ⟨h6,h7⟩:=ZK key l (insM key x out) (Jcw key x out h1 fun y hy=>h3 y hy x (by simp)) h5 fun a ha b hb=>by
   rcases (Jdo key x out a).1 ha with rfl | ha
   ·exact h4 b hb
   ·exact h3 a ha b (by simp[hb])
  refine ⟨h6,fun z=>?_⟩;rw[sortM,h7,Jdo,List.mem_cons]
  constructor
  ·rintro ((h | h) | h)
   ·exact .inr (.inl h)
   ·exact .inl h
   ·exact .inr (.inr h)
  ·rintro (h | h | h)
   ·exact .inl (.inr h)
   ·exact .inl (.inl h)
   ·exact .inr h
end
def labelsM (r:RuleM) (F G:FactsM):List (List UInt8 × Int):=sortM (·.1) [] (F.labels.filter (fun c=>mentM r 4 c.1)++G.labels.filter (fun c=>!mentM r 4 c.1))
def wordsM (r:RuleM) (F G:FactsM):List (List UInt8):=sortM (fun s=>s) [] (F.words.filter (fun s=>mentM r 5 s)++G.words.filter (fun s=>!mentM r 5 s))
def mixM (r:RuleM) (F G:FactsM):FactsM:=⟨labelsM r F G,chM r fLikes F.likes G.likes,chM r fBoosts F.boosts G.boosts,chM r fReplies F.replies G.replies,chM r fReports F.reports G.reports,chM r fAge F.age G.age,chM r fHome F.home G.home,chM r fScope F.scope G.scope,chM r fLength F.length G.length,chM r fFollows F.follows G.follows,chM r fReply F.reply G.reply,wordsM r F G⟩
theorem Vr:∀ (l:List (List UInt8 × Int)) (p:Option (List UInt8)),labelsB p l=true↔(∀ c∈l,1≤c.2∧c.2≤1125899906842624)∧(∀ q,p=some q→∀ c∈l,ltB q c.1=true)∧l.Pairwise fun a b=>ltB a.1 b.1=true
 | [],p=>by simp[labelsB]
 | c::l,p=>by
  have ih:=Vr l (some c.1)
  show (decide (1≤c.2)&&decide (c.2≤1125899906842624)&&(match p with | none=>true | some q=>ltB q c.1)&&labelsB (some c.1) l)=true↔_
  rw[Bool.and_eq_true,Bool.and_eq_true,Bool.and_eq_true,decide_eq_true_eq,decide_eq_true_eq,ih]
  constructor
  ·rintro ⟨⟨⟨h1,h2⟩,h3⟩,h4,h5,h6⟩;refine ⟨fun d hd=>?_,fun q hq d hd=>?_,List.pairwise_cons.2 ⟨fun d hd=>h5 _ rfl d hd,h6⟩⟩
   ·rcases List.mem_cons.1 hd with rfl | hd
    ·exact ⟨h1,h2⟩
    ·exact h4 d hd
   ·subst hq
    rcases List.mem_cons.1 hd with rfl | hd
    ·exact h3
    ·exact KI h3 (h5 _ rfl d hd)
  ·rintro ⟨h1,h2,h3⟩;obtain ⟨h4,h5⟩:=List.pairwise_cons.1 h3;obtain ⟨h6,h7⟩:=h1 c (by simp);refine ⟨⟨⟨h6,h7⟩,?_⟩,fun d hd=>h1 d (by simp[hd]),fun q hq d hd=>?_,h5⟩
   ·cases p with
    | none=>rfl
    | some q=>exact h2 q rfl c (by simp)
   ·obtain rfl:=Option.some.inj hq;exact h4 d hd
theorem V6:∀ (l:List (List UInt8)) (p:Option (List UInt8)),wordsB p l=true↔(∀ q,p=some q→∀ c∈l,ltB q c=true)∧l.Pairwise fun a b=>ltB a b=true
 | [],p=>by simp[wordsB]
 | c::l,p=>by
  have ih:=V6 l (some c)
  show ((match p with | none=>true | some q=>ltB q c)&&wordsB (some c) l)=true↔_
  rw[Bool.and_eq_true,ih]
  constructor
  ·rintro ⟨h3,h5,h6⟩;refine ⟨fun q hq d hd=>?_,List.pairwise_cons.2 ⟨fun d hd=>h5 _ rfl d hd,h6⟩⟩;subst hq
   rcases List.mem_cons.1 hd with rfl | hd
   ·exact h3
   ·exact KI h3 (h5 _ rfl d hd)
  ·rintro ⟨h2,h3⟩;obtain ⟨h4,h5⟩:=List.pairwise_cons.1 h3;refine ⟨?_,fun q hq d hd=>?_,h5⟩
   ·cases p with
    | none=>rfl
    | some q=>exact h2 q rfl c (by simp)
   ·obtain rfl:=Option.some.inj hq;exact h4 d hd
theorem JjF {a b:List UInt8} (h:ltB a b=true):a≠b:=fun e=>by
 subst e;rw[Kq] at h
 cases h
theorem Jam:∀ (l:List (List UInt8 × Int)),(l.Pairwise fun a b=>ltB a.1 b.1=true)→∀ s n,(s,n)∈l→lookC l s=n
 | c::l,h,s,n,hm=>by
  obtain ⟨h1,h2⟩:=List.pairwise_cons.1 h;rw[lookC]
  rcases List.mem_cons.1 hm with e | hm
  ·subst e;exact if_pos rfl
  ·rw[if_neg (JjF (h1 _ hm))];exact Jam l h2 s n hm
theorem Jan:∀ (l:List (List UInt8 × Int)) s,(∀ n,(s,n)∉l)→lookC l s=0
 | [],s,_=>rfl
 | c::l,s,h=>by
  rw[lookC,if_neg (fun e=>h c.2 (by rw[← e]; simp))];exact Jan l s fun n hn=>h n (by simp[hn])
theorem Jgo {l m:List (List UInt8 × Int)} (hl:l.Pairwise fun a b=>ltB a.1 b.1=true) (hm:m.Pairwise fun a b=>ltB a.1 b.1=true) {s:List UInt8} (h:∀ n,(s,n)∈l↔(s,n)∈m):lookC l s=lookC m s:=by
 by_cases hs:∃ n,(s,n)∈l
 ·obtain ⟨n,hn⟩:=hs;rw[Jam l hl s n hn,Jam m hm s n ((h n).1 hn)]
 ·rw[Jan l s fun n hn=>hs ⟨n,hn⟩,Jan m s fun n hn=>hs ⟨n,(h n).2 hn⟩]
theorem picked {α:Type} (key:α→List UInt8) (p:List UInt8→Bool) {l m:List α} (hl:l.Pairwise fun a b=>ltB (key a) (key b)=true) (hm:m.Pairwise fun a b=>ltB (key a) (key b)=true) :
  ((sortM key [] (l.filter (fun c=>p (key c))++m.filter (fun c=>!p (key c)))).Pairwise fun a b=>ltB (key a) (key b)=true)∧∀ z,z∈sortM key [] (l.filter (fun c=>p (key c))++m.filter (fun c=>!p (key c)))↔(z∈l∧p (key z)=true)∨(z∈m∧p (key z)=false):=by
 obtain ⟨h1,h2⟩:=ZK key (l.filter (fun c=>p (key c))++m.filter (fun c=>!p (key c))) [] List.Pairwise.nil
  (List.pairwise_append.2 ⟨(hl.filter _).imp fun h=>JjF h,(hm.filter _).imp fun h=>JjF h,fun a ha b hb e=>by
   have h3:=(List.mem_filter.1 ha).2;have h4:=(List.mem_filter.1 hb).2;rw[e] at h3;rw[h3] at h4
   cases h4⟩) (fun a ha=>by cases ha)
 refine ⟨h1,fun z=>?_⟩;rw[h2,List.mem_append,List.mem_filter,List.mem_filter];simp
theorem JhW {r:RuleM} {F G:FactsM} {s:List UInt8} (hm:mentM r 3 s=true) (hs:(factI s).isSome=true):factV F s=factV (mixM r F G) s:=by
 unfold factV
 by_cases h0:s=fLikes
 ·rw[if_pos h0,if_pos h0];subst h0;exact (if_pos hm).symm
 rw[if_neg h0,if_neg h0]
 by_cases h1:s=fBoosts
 ·rw[if_pos h1,if_pos h1];subst h1;exact (if_pos hm).symm
 rw[if_neg h1,if_neg h1]
 by_cases h2:s=fReplies
 ·rw[if_pos h2,if_pos h2];subst h2;exact (if_pos hm).symm
 rw[if_neg h2,if_neg h2]
 by_cases h3:s=fReports
 ·rw[if_pos h3,if_pos h3];subst h3;exact (if_pos hm).symm
 rw[if_neg h3,if_neg h3]
 by_cases h4:s=fAge
 ·rw[if_pos h4,if_pos h4];subst h4;exact (if_pos hm).symm
 rw[if_neg h4,if_neg h4]
 by_cases h5:s=fHome
 ·rw[if_pos h5,if_pos h5];subst h5;exact (if_pos hm).symm
 rw[if_neg h5,if_neg h5]
 by_cases h6:s=fScope
 ·rw[if_pos h6,if_pos h6];subst h6;exact (if_pos hm).symm
 rw[if_neg h6,if_neg h6]
 by_cases h7:s=fLength
 ·rw[if_pos h7,if_pos h7];subst h7;exact (if_pos hm).symm
 rw[if_neg h7,if_neg h7]
 by_cases h8:s=fFollows
 ·rw[if_pos h8,if_pos h8];subst h8;exact congrArg bitI (if_pos hm).symm
 rw[if_neg h8,if_neg h8]
 have h9:s=fReply:=by
  unfold factI at hs
  by_cases g:s∈[fLikes,fBoosts,fReplies,fReports,fAge,fHome,fScope,fLength]
  ·simp[h0,h1,h2,h3,h4,h5,h6,h7] at g
  ·rw[if_neg g] at hs
   by_cases g2:s∈[fFollows,fReply]
   ·simp[h8] at g2;exact g2
   ·rw[if_neg g2] at hs
    cases hs
 subst h9;exact congrArg bitI (if_pos hm).symm
mutual
theorem Y9 {pa:List Nat} {s:List UInt8}:∀ (e:Exp) (vars nest:Nat),fitsN pa vars nest e=true→occN 3 s e=true→(factI s).isSome=true
 | .mk k n s' l,vars,nest,h,ho=>by
  unfold fitsN at h;simp only[Bool.and_eq_true] at h;unfold occN at ho;rw[Bool.or_eq_true,Bool.and_eq_true,decide_eq_true_eq,decide_eq_true_eq] at ho
  rcases ho with ho | ⟨rfl,rfl⟩
  ·exact ZL l _ _ _ _ h.2 ho
  ·have h1:=h.1.1.2;unfold fieldsB at h1;simp at h1;exact h1.2
theorem ZL {pa:List Nat} {s:List UInt8}:∀ (l:List Exp) (vars nest:Nat) (k:Int) (i:Nat),fitsL pa vars nest k i l=true→occL 3 s l=true→(factI s).isSome=true
 | [],_,_,_,_,_,ho=>by unfold occL at ho; cases ho
 | a::l,vars,nest,k,i,h,ho=>by
  unfold fitsL at h;rw[Bool.and_eq_true] at h;unfold occL at ho;rw[Bool.or_eq_true] at ho
  rcases ho with ho | ho
  ·exact Y9 a _ _ h.1 ho
  ·exact ZL l _ _ _ _ h.2 ho
end
structure Agree (F H:FactsM) (o:Int→List UInt8→Bool):Prop where
 f:∀ s,o 3 s=true→factV F s=factV H s
 l:∀ s,o 4 s=true→lookC F.labels s=lookC H.labels s
 w:∀ s,o 5 s=true→wordV F.words s=wordV H.words s
theorem Agree.mono {F H:FactsM} {o p:Int→List UInt8→Bool} (h:Agree F H o) (hp:∀ k s,p k s=true→o k s=true):Agree F H p:=⟨fun s hs=>h.f s (hp _ _ hs),fun s hs=>h.l s (hp _ _ hs),fun s hs=>h.w s (hp _ _ hs)⟩
mutual
theorem Jcx {c d:Int→List Int→Nat→RN Int} {F H:FactsM} (hc:∀ n vs u,c n vs u=d n vs u):∀ (e:Exp),Agree F H (fun k s=>occN k s e)→∀ vars u,evN c F vars u e=evN d H vars u e
 | .mk k n s l,h,vars,u=>by
  have hl:=Jgp hc l (h.mono fun k s hs=>by unfold occN; rw[hs]; rfl)
  have hL:∀ (l:List Exp),(∀ a∈l,∀ vars u,evN c F vars u a=evN d H vars u a)→∀ vars u,evL c F vars u l=evL d H vars u l:=by
   intro l
   induction l with
   | nil=>intro _ vars u; unfold evL; rfl
   | cons a l ih=>
    intro h vars u;unfold evL;simp only[h a (by simp),ih (fun b hb=>h b (by simp[hb]))]
  rw[Ku,Ku]
  by_cases k0:k=0∨k=1
  ·rw[if_pos k0,if_pos k0]
  rw[if_neg k0,if_neg k0]
  by_cases k2:k=2
  ·rw[if_pos k2,if_pos k2]
  rw[if_neg k2,if_neg k2]
  by_cases k3:k=3
  ·rw[if_pos k3,if_pos k3,h.f s (by subst k3; unfold occN; simp)]
  rw[if_neg k3,if_neg k3]
  by_cases k4:k=4
  ·rw[if_pos k4,if_pos k4,h.l s (by subst k4; unfold occN; simp)]
  rw[if_neg k4,if_neg k4]
  by_cases k5:k=5
  ·rw[if_pos k5,if_pos k5,h.w s (by subst k5; unfold occN; simp)]
  rw[if_neg k5,if_neg k5,hL l hl];simp only[hc]
  match l,hl with
  | [],_=>rfl
  | [a],_=>rfl
  | [a,b],hl=>simp only[hl a (by simp),hl b (by simp)]
  | [a,b,e],hl=>simp only[hl a (by simp),hl b (by simp),hl e (by simp)]
  | a::b::e::f::l,_=>rfl
theorem Jgp {c d:Int→List Int→Nat→RN Int} {F H:FactsM} (hc:∀ n vs u,c n vs u=d n vs u):∀ (l:List Exp),Agree F H (fun k s=>occL k s l)→∀ a∈l,∀ vars u,evN c F vars u a=evN d H vars u a
 | [],_,a,ha=>by cases ha
 | b::l,h,a,ha=>by
  rcases List.mem_cons.1 ha with e | ha
  ·rw[e];exact Jcx hc b (h.mono fun k s hs=>by unfold occL; rw[hs]; rfl)
  ·exact Jgp hc l (h.mono fun k s hs=>by unfold occL; rw[hs,Bool.or_true]) a ha
end
theorem Jdp {fs:List FnM} {F H:FactsM} (h:∀ f∈fs,Agree F H (fun k s=>occN k s f.body)):∀ d n vs u,callD fs F d n vs u=callD fs H d n vs u
 | 0,n,vs,u=>rfl
 | d+1,n,vs,u=>by
  unfold callD;rw[Jcx (Jdp h d) _ ?_]
  by_cases hn:n.toNat<fs.length
  ·have e:fs.getD n.toNat noFn=fs[n.toNat]:=by simp[hn]
   rw[e];exact h _ (List.getElem_mem _)
  ·have e:fs.getD n.toNat noFn=noFn:=by simp[List.getElem?_eq_none (by omega:fs.length≤n.toNat)]
   rw[e];refine ⟨fun s hs=>?_,fun s hs=>?_,fun s hs=>?_⟩ <;> simp[noFn,noExp,occN,occL] at hs
theorem Jdq {r:RuleM} {F H:FactsM} (hf:∀ f∈r.funcs,Agree F H (fun k s=>occN k s f.body)):∀ (l:List ClM),(∀ c∈l,Agree F H (fun k s=>occN k s c.cond))→∀ u,runC r F u l=runC r H u l
 | [],_,u=>rfl
 | c::l,h,u=>by
  unfold runC;rw[Jcx (Jdp hf 100) c.cond (h c (by simp))]
  by_cases hu:u=10000
  ·rw[if_pos hu,if_pos hu]
  ·rw[if_neg hu,if_neg hu]
   cases evN (callD r.funcs H 100) H [] (u+1) c.cond with
   | fault e u'=>rfl
   | val v u'=>simp only[Jdq hf l (fun c hc=>h c (by simp[hc]))]
theorem Jbx {r:RuleM} {F G:FactsM} (hF:factsM F=true) (hG:factsM G=true):factsM (mixM r F G)=true:=by
 unfold factsM at hF hG ⊢;rw[Bool.and_eq_true,Bool.and_eq_true,Vr,V6] at hF hG ⊢;obtain ⟨⟨h1,h2,_,h3⟩,_,h4⟩:=hF;obtain ⟨⟨g1,g2,_,g3⟩,_,g4⟩:=hG;obtain ⟨p1,p2⟩:=picked (α:=List UInt8 × Int) (·.1) (mentM r 4) h3 g3;obtain ⟨q1,_⟩:=picked (α:=List UInt8) (fun s=>s) (mentM r 5) h4 g4;refine ⟨⟨?_,fun c hc=>?_,fun q hq=>(by cases hq),p1⟩,fun q hq=>(by cases hq),q1⟩
 ·simp only[FactsM.nums,List.all_cons,List.all_nil,Bool.and_eq_true] at h1 g1 ⊢
  have hch:∀ s a b,numB a=true→numB b=true→numB (chM r s a b)=true:=fun s a b ha hb=>by
   unfold chM;split
   ·exact ha
   ·exact hb
  exact ⟨hch _ _ _ h1.1 g1.1,hch _ _ _ h1.2.1 g1.2.1,hch _ _ _ h1.2.2.1 g1.2.2.1,hch _ _ _ h1.2.2.2.1 g1.2.2.2.1,hch _ _ _ h1.2.2.2.2.1 g1.2.2.2.2.1,hch _ _ _ h1.2.2.2.2.2.1 g1.2.2.2.2.2.1,hch _ _ _ h1.2.2.2.2.2.2.1 g1.2.2.2.2.2.2.1,hch _ _ _ h1.2.2.2.2.2.2.2.1 g1.2.2.2.2.2.2.2.1,trivial⟩
 ·rcases (p2 c).1 hc with h | h
  ·exact h2 c h.1
  ·exact g2 c h.1
theorem JjG {r:RuleM} {F G:FactsM} (hF:factsM F=true) (hG:factsM G=true):runM r F=runM r (mixM r F G):=by
 unfold runM;rw[hF,Jbx hF hG]
 by_cases hr:rightM r=true
 ·rw[if_pos ⟨hr,rfl⟩,if_pos ⟨hr,rfl⟩]
  have ht:treesM r=true:=by
   unfold rightM at hr;simp only[Bool.and_eq_true] at hr;exact hr.1.2
  unfold treesM at ht;rw[Bool.and_eq_true,List.all_eq_true,List.all_eq_true] at ht;unfold factsM at hF hG;rw[Bool.and_eq_true,Bool.and_eq_true,Vr,V6] at hF hG;obtain ⟨p1,p2⟩:=picked (α:=List UInt8 × Int) (·.1) (mentM r 4) hF.1.2.2.2 hG.1.2.2.2;obtain ⟨q1,q2⟩:=picked (α:=List UInt8) (fun s=>s) (mentM r 5) hF.2.2 hG.2.2
  have ha:∀ (e:Exp),(∀ k s,occN k s e=true→mentM r k s=true)→(∀ s,occN 3 s e=true→(factI s).isSome=true)→Agree F (mixM r F G) (fun k s=>occN k s e):=fun e h1 h2=>by
   refine ⟨fun s hs=>JhW (h1 _ _ hs) (h2 s hs),fun s hs=>?_,fun s hs=>?_⟩
   ·refine Jgo hF.1.2.2.2 p1 fun n=>?_
    rw[p2];have:=h1 _ _ hs;simp[this]
   ·have h3:=h1 _ _ hs
    have h4:s∈F.words↔s∈(mixM r F G).words:=by
     show _↔s∈wordsM r F G
     unfold wordsM;rw[q2];simp[h3]
    unfold wordV;exact congrArg bitI (decide_eq_decide.2 h4)
  refine Jdq (fun f hf=>ha _ (fun k s hs=>?_) fun s hs=>Y9 f.body _ _ (ht.1 f hf) hs) _ (fun c hc=>ha _ (fun k s hs=>?_) fun s hs=>Y9 c.cond _ _ (ht.2 c hc) hs) 0
  ·unfold mentM;rw[Bool.or_eq_true,List.any_eq_true];exact .inl ⟨f,hf,hs⟩
  ·unfold mentM;rw[Bool.or_eq_true,List.any_eq_true,List.any_eq_true];exact .inr ⟨c,hc,hs⟩
 ·rw[if_neg (fun h=>hr h.1),if_neg (fun h=>hr h.1)]
end Go.Proofs.YtncanmdgdflnpaaGreatDoor
namespace Go.Proofs.YtncanmdgdflnpaaGreatDoor
open Go.ChangeShapes Go.WideShapes Go.ChangeAt Go.RowKit Go.Lib
open _root_.Go.Proofs.Tryz
set_option linter.all false
set_option maxRecDepth 100000
set_option maxHeartbeats 32000000
theorem Jby (k:Int) (s:List UInt8) (a:Exp):∀ l,occL k s (l++[a])=(occL k s l||occN k s a)
 | []=>by simp[occL]
 | b::l=>by rw[List.cons_append,occL,occL,Jby k s a l,Bool.or_assoc]
theorem Jgq {k:Int} {s:List UInt8}:∀ {l:List Exp} {a:Exp},a∈l→occN k s a=true→occL k s l=true
 | b::l,a,h,ha=>by
  rw[occL]
  rcases List.mem_cons.1 h with rfl | h
  ·rw[ha]; rfl
  ·rw[Jgq h ha,Bool.or_true]
theorem Jbz {a:Exp}:∀ {l:List Exp},a∈l→siz (utN a)≤sizL (utL l)
 | b::l,h=>by
  rw[utL,Ju]
  rcases List.mem_cons.1 h with e | h
  ·rw[e]; omega
  ·have:=Jbz h; omega
theorem JkI (a b:List UInt8):((bs a).toList==(bs b).toList)=decide (a=b):=by
 rw[Jk,Jk]
 by_cases h:a=b <;> simp[h]
theorem JjH {l:List Exp}:∀ {n:Nat},sizL (utL l)≤n→l.length≤n:=by
 induction l with
 | nil=>intro n h; simp
 | cons a l ih=>
  intro n h;rw[utL,Ju] at h;have:=Jdn a;have:=ih (n:=n-siz (utN a)) (by omega);simp;omega
theorem Jcy (ki:Int) (nm:List UInt8) (n:Nat) (IH:∀ (e:Exp) (c:Array Value) (W:World),siz (utN e)≤n→XAt W (In W) e c→Calls prog 46 #[.agg c,.int .i64 ki,.string (bs nm)] W (BelP W (.bool (occN ki nm e))))
  (k nn:Int) (s:List UInt8) (l:List Exp) (ad:Option Addr) (cc:Nat) (w:World) (hn:sizL (utL l)≤n) (hn2:n≤1000000) (hK:KidsX w ad l) :
  Calls prog 46 #[.agg #[.int .i64 k,.int .i64 nn,.string (bs s),.slice ad l.length cc],.int .i64 ki,.string (bs nm)] w (BelP w (.bool (occN ki nm (.mk k nn s l)))):=by
 have HN:=Zh (And.intro hn hn2);have hb1:Below w.heap.size w (w.alloc (.cells #[.int .i64 k,.int .i64 nn,.string (bs s),.slice ad l.length cc] 50)):=zzb.alloc zzl _;have HCP:=Zh (zzw w (.cells #[.int .i64 k,.int .i64 nn,.string (bs s),.slice ad l.length cc] 50));have HKX:Hid (∀ W,Below (w.alloc (.cells #[.int .i64 k,.int .i64 nn,.string (bs s),.slice ad l.length cc] 50)).heap.size (w.alloc (.cells #[.int .i64 k,.int .i64 nn,.string (bs s),.slice ad l.length cc] 50)) W→Bel w W):=fun W hW=>Je hb1 hW
 have HKD:=Zh hK;have HIH:=Zh IH;have hlen:l.length≤1000000:=Nat.le_trans (JjH hn) hn2;obtain ⟨q,hq⟩:∃ q,occN ki nm (.mk k nn s l)=q:=⟨_,rfl⟩
 rw[hq];have HQ:=Zh hq;clear hb1 hK IH hn hn2 hq;go_enter func46,ntmps46;go_upto_region 1 with fail;have HEB:Hid (w.heap.size<(w.alloc (.cells #[.int .i64 k,.int .i64 nn,.string (bs s),.slice ad l.length cc] 50)).heap.size):=Jb HCP.out;generalize World.alloc w _=w1 at *;generalize w.heap.size=eb at *
 have FF:Hid (∀ W,Below w1.heap.size w1 W→W.cell? ⟨eb,0,none⟩=some (.int .i64 k)∧W.cell? ⟨eb,2,none⟩=some (.string (bs s))∧W.cell? ⟨eb,3,none⟩=some (.slice ad l.length cc)):=by
  exact wx140
 have HW0:Hid (Below w1.heap.size w1 w1):=Below.refl _ _;go_wp2_with fail;go_loopg [7] l.length (fun g v7 wr=>∃ i:Nat,g+i=l.length∧v7=.int .i64 i∧Hid (Below w1.heap.size w1 wr)∧Hid (occL ki nm (l.take i)=false))
 case atStart=>exact ⟨0,rfl,rfl,HW0,(by rw[List.take_zero]; unfold occL; rfl:Hid (occL ki nm (l.take 0)=false))⟩
 case round=>
 clear HW0;obtain ⟨wl,rfl⟩:∃ wl:World,wl=wr:=⟨_,rfl⟩
 obtain ⟨i,hg,rfl,hbw,hoc⟩:=hrel;obtain ⟨b0,b2,b3⟩:=FF.out _ hbw.out;have HFIN:Hid (Bel w wl):=HKX.out _ hbw.out
 by_cases hi:i<l.length
 ·have hil:(i:Int)<(l.length:Int):=by omega
  have dil:decide ((i:Int)<(l.length:Int))=true:=decide_eq_true hil;have wk:IntKind.i64.wrap ((i:Int)+1)=(i:Int)+1:=IntWalk.i64_in _ (by omega);obtain ⟨y,hy⟩:∃ y,l[i]?=some y:=⟨l[i],List.getElem?_eq_getElem hi⟩
  have hmem:=List.mem_of_getElem? hy;have hsz:siz (utN y)≤n:=Nat.le_trans (Jbz hmem) HN.out.1;obtain ⟨b,o,da,dc,had,hxy,c0,c1,c2,c3⟩:=HKD.out.at' (HKX.out _ hbw.out) hy;have ci:=HIH.out y _ wl hsz hxy;obtain ⟨z,hz⟩:∃ z,occN ki nm y=z:=⟨_,rfl⟩
  rw[hz] at ci;have HBW:=Zh hbw.out;have HG:=Zh (And.intro hg hi)
  cases z
  ·have HOC:Hid (occL ki nm (l.take (i+1))=false):=by
    rw[JF hy,Jby,hoc.out,hz]; rfl
   subst had;clear hz hmem hsz hbw hoc hi hg hy hxy;go_wp2_with fail;refine ci.mono ?_;rintro e w7 ⟨rfl,hb7⟩;have HB7:=Zh (Je HBW.out hb7);clear ci hb7 b0 b2 b3 c0 c1 c2 c3;go_wp2;go_roundg (l.length-(i+1))
   case measure=>have:=HG.out; omega
   case rel=>exact ⟨i+1,by have:=HG.out; omega,by go_num,HB7,HOC⟩
  ·have hq1:q=true:=by
    rw[← HQ.out,occN,Jgq hmem hz]; rfl
   subst hq1;subst had;clear hz hmem hsz hbw hoc hi hg hy hxy;go_wp2_with fail;refine ci.mono ?_;rintro e w7 ⟨rfl,hb7⟩;have HB7:=Zh (Je HFIN.out hb7);clear ci hb7 b0 b2 b3 c0 c1 c2 c3;go_wp2;go_ret;exact ⟨rfl,HB7.out⟩
 ·have hil:¬ (i:Int)<(l.length:Int):=by omega
  have dil:decide ((i:Int)<(l.length:Int))=false:=decide_eq_false hil
  have hq1:q=(decide (k=ki)&&decide (s=nm)):=by
   have h:=hoc.out;rw[List.take_of_length_le (by omega)] at h;rw[← HQ.out,occN,h,Bool.false_or]
  have hes:=JkI s nm
  by_cases e1:k=ki
  ·have d1:(k==ki)=true:=beq_iff_eq.2 e1;rw[decide_eq_true e1,Bool.true_and] at hq1;rw[← hq1] at hes;clear hq1 e1 hoc hbw hi hg;go_wp2;go_ret;exact ⟨rfl,HFIN.out⟩
  ·have d1:(k==ki)=false:=zzq e1;rw[decide_eq_false e1,Bool.false_and] at hq1;subst hq1;clear e1 hoc hbw hi hg hes;go_wp2;go_ret;exact ⟨rfl,HFIN.out⟩
theorem V7 (ki:Int) (nm:List UInt8):∀ n:Nat,n≤1000000→∀ (e:Exp) (c:Array Value) (W:World),siz (utN e)≤n+1→XAt W (In W) e c→Calls prog 46 #[.agg c,.int .i64 ki,.string (bs nm)] W (BelP W (.bool (occN ki nm e)))
 | n,hn,.mk k nn s l,c,W,hs,hx=>by
  obtain ⟨ad,cc,rfl,_,hK⟩:=hx.kids;unfold utN at hs;rw[JA] at hs;refine Jcy ki nm n (fun e c W he hxe=>?_) k nn s l ad cc W (by omega) hn hK
  cases n with
  | zero=>have:=Jdn e; omega
  | succ n=>exact V7 ki nm n (by omega) e c W he hxe
theorem Jdr {α:Type} (p:α→Bool) {l:List α} {i:Nat} {a:α} (h:l[i]?=some a):(l.take (i+1)).any p=((l.take i).any p||p a):=by
 rw[JF h,List.any_append];simp
theorem wx78 {P:Prop}(h:P:=by
  subst hq1;clear hz hmem hbw hoc hi hg hf hfc;go_wp2_with fail;refine ci.mono ?_;rintro e w7 ⟨rfl,hb7⟩;have HB7:=Zh (Je HFIN.out hb7);clear ci hb7 b0 b1 c3 c4 c5 c6;go_wp2;go_ret
  exact ⟨rfl,HB7.out⟩):P:=h
theorem Km (r:RuleM) (c:Array Value) (ki:Int) (nm:List UInt8) (w:World) (hx:RuleX w (In w) r c) (hz:RSz r):Calls prog 20 #[.agg c,.int .i64 ki,.string (bs nm)] w (BelP w (.bool (mentM r ki nm))):=by
 obtain ⟨fa,fc,ca,cc,rfl,hF,hC⟩:=hx.parts;obtain ⟨q,hq⟩:∃ q,mentM r ki nm=q:=⟨_,rfl⟩
 rw[hq];have HQ:=Zh hq;have hbA:Bel w (w.alloc (.cells #[.slice fa r.funcs.length fc,.slice ca r.clauses.length cc,.int .i64 r.action] 30)):=zzb.alloc zzl _;have HKX:Hid (∀ W,Below (w.alloc (.cells #[.slice fa r.funcs.length fc,.slice ca r.clauses.length cc,.int .i64 r.action] 30)).heap.size (w.alloc (.cells #[.slice fa r.funcs.length fc,.slice ca r.clauses.length cc,.int .i64 r.action] 30)) W→Bel w W):=fun W hW=>Je hbA hW
 have HRB:=Zh (zzw w (.cells #[.slice fa r.funcs.length fc,.slice ca r.clauses.length cc,.int .i64 r.action] 30));have HFX:=Zh hF;have HCX:=Zh hC;have HZ:=Zh hz;have hnf:=hz.nf;have hnc:=hz.nc;clear hbA hx hF hC hz hq;go_enter func20,ntmps20;go_upto_region 1 with fail;have HNB:Hid (w.heap.size<(w.alloc (.cells #[.slice fa r.funcs.length fc,.slice ca r.clauses.length cc,.int .i64 r.action] 30)).heap.size):=Jb HRB.out;generalize World.alloc w _=w1 at *;generalize w.heap.size=eb at *
 have FF:Hid (∀ W,Below w1.heap.size w1 W→W.cell? ⟨eb,0,none⟩=some (.slice fa r.funcs.length fc)∧W.cell? ⟨eb,1,none⟩=some (.slice ca r.clauses.length cc)):=by
  intro W hW;have hr:=(hW.block _ HNB.out).trans HRB.out;refine ⟨?_,?_⟩ <;> (rw[Ja hr]; rfl)
 have HW0:Hid (Below w1.heap.size w1 w1):=Below.refl _ _;go_wp2_with fail;go_loopg [7] r.funcs.length (fun g v7 wr=>∃ i:Nat,g+i=r.funcs.length∧v7=.int .i64 i∧Hid (Below w1.heap.size w1 wr)∧Hid ((r.funcs.take i).any (fun f=>occN ki nm f.body)=false))
 case atStart=>exact ⟨0,rfl,rfl,HW0,(rfl:(r.funcs.take 0).any (fun f=>occN ki nm f.body)=false)⟩
 case round=>
 clear HW0;obtain ⟨wl,rfl⟩:∃ wl:World,wl=wr:=⟨_,rfl⟩
 obtain ⟨i,hg,rfl,hbw,hoc⟩:=hrel;have HFIN:Hid (Bel w wl):=HKX.out _ hbw.out
 by_cases hi:i<r.funcs.length
 ·have hil:(i:Int)<(r.funcs.length:Int):=by omega
  have dil:decide ((i:Int)<(r.funcs.length:Int))=true:=decide_eq_true hil;have wk:IntKind.i64.wrap ((i:Int)+1)=(i:Int)+1:=IntWalk.i64_in _ (by omega);obtain ⟨f,hf⟩:∃ f,r.funcs[i]?=some f:=⟨r.funcs[i],List.getElem?_eq_getElem hi⟩
  have hmem:=List.mem_of_getElem? hf;obtain ⟨b,o,pa,pc,da,dc,hfa,hfc⟩:=(HFX.out.up (HKX.out _ hbw.out)).get hf;have ci:=V7 ki nm 1000000 zzl f.body _ wl (by have:=(HZ.out.fn f hmem).2.2.2; omega) hfc.body;obtain ⟨z,hz⟩:∃ z,occN ki nm f.body=z:=⟨_,rfl⟩
  rw[hz] at ci;have HBW:=Zh hbw.out;have HG:=Zh (And.intro hg hi);obtain ⟨b0,b1⟩:=FF.out _ hbw.out;have c3:=hfc.c3;have c4:=hfc.c4;have c5:=hfc.c5;have c6:=hfc.c6;subst hfa
  cases z
  ·have HOC:Hid ((r.funcs.take (i+1)).any (fun f=>occN ki nm f.body)=false):=by
    rw[Jdr _ hf,hoc.out,hz]; rfl
   clear hz hmem hbw hoc hi hg hf hfc;go_wp2_with fail;refine ci.mono ?_;rintro e w7 ⟨rfl,hb7⟩;have HB7:=Zh (Je HBW.out hb7);clear ci hb7 b0 b1 c3 c4 c5 c6;go_wp2;go_roundg (r.funcs.length-(i+1))
   case measure=>have:=HG.out; omega
   case rel=>exact ⟨i+1,by have:=HG.out; omega,by go_num,HB7,HOC⟩
  ·have hq1:q=true:=by
    rw[← HQ.out,mentM,List.any_eq_true.2 ⟨f,hmem,hz⟩]; rfl
   exact wx78
 have hil:¬ (i:Int)<(r.funcs.length:Int):=by omega
 have dil:decide ((i:Int)<(r.funcs.length:Int))=false:=decide_eq_false hil
 have HOF:Hid (r.funcs.any (fun f=>occN ki nm f.body)=false):=by
  have h:=hoc.out;rw[List.take_of_length_le (by omega)] at h;exact h
 obtain ⟨b0,b1⟩:=FF.out _ hbw.out;have HW0:=Zh hbw.out;clear hoc hi hg hbw HFIN;go_wp2_with fail;clear b0 b1 dil hil;go_loopg [8] r.clauses.length (fun g v8 wr=>∃ i:Nat,g+i=r.clauses.length∧v8=.int .i64 i∧Hid (Below w1.heap.size w1 wr)∧Hid ((r.clauses.take i).any (fun f=>occN ki nm f.cond)=false))
 case atStart=>exact ⟨0,rfl,rfl,HW0,(rfl:(r.clauses.take 0).any (fun f=>occN ki nm f.cond)=false)⟩
 case round=>
 clear HW0;obtain ⟨wm,rfl⟩:∃ wm:World,wm=wr:=⟨_,rfl⟩
 obtain ⟨j,hg,rfl,hbw,hoc⟩:=hrel;have HFIN:Hid (Bel w wm):=HKX.out _ hbw.out
 by_cases hi:j<r.clauses.length
 ·have hil:(j:Int)<(r.clauses.length:Int):=by omega
  have dil:decide ((j:Int)<(r.clauses.length:Int))=true:=decide_eq_true hil;have wk:IntKind.i64.wrap ((j:Int)+1)=(j:Int)+1:=IntWalk.i64_in _ (by omega);obtain ⟨f,hf⟩:∃ f,r.clauses[j]?=some f:=⟨r.clauses[j],List.getElem?_eq_getElem hi⟩
  have hmem:=List.mem_of_getElem? hf;obtain ⟨b,o,da,dc,hfa,hfc⟩:=(HCX.out.up (HKX.out _ hbw.out)).get hf;have ci:=V7 ki nm 1000000 zzl f.cond _ wm (by have:=(HZ.out.cl f hmem).2.1; omega) hfc.cond;obtain ⟨z,hz⟩:∃ z,occN ki nm f.cond=z:=⟨_,rfl⟩
  rw[hz] at ci;have HBW:=Zh hbw.out;have HG:=Zh (And.intro hg hi);obtain ⟨b0,b1⟩:=FF.out _ hbw.out;have c3:=hfc.c0;have c4:=hfc.c1;have c5:=hfc.c2;have c6:=hfc.c3;subst hfa
  cases z
  ·have HOC:Hid ((r.clauses.take (j+1)).any (fun f=>occN ki nm f.cond)=false):=by
    rw[Jdr _ hf,hoc.out,hz]; rfl
   clear hz hmem hbw hoc hi hg hf hfc;go_wp2_with fail;refine ci.mono ?_;rintro e w7 ⟨rfl,hb7⟩;have HB7:=Zh (Je HBW.out hb7);clear ci hb7 b0 b1 c3 c4 c5 c6;go_wp2;go_roundg (r.clauses.length-(j+1))
   case measure=>have:=HG.out; omega
   case rel=>exact ⟨j+1,by have:=HG.out; omega,by go_num,HB7,HOC⟩
  ·have hq1:q=true:=by
    rw[← HQ.out,mentM,HOF.out,Bool.false_or,List.any_eq_true.2 ⟨f,hmem,hz⟩]
   exact wx78
 ·have hil:¬ (j:Int)<(r.clauses.length:Int):=by omega
  have dil:decide ((j:Int)<(r.clauses.length:Int))=false:=decide_eq_false hil
  have hq1:q=false:=by
   have h:=hoc.out;rw[List.take_of_length_le (by omega)] at h;rw[← HQ.out,mentM,HOF.out,h]; rfl
  subst hq1;obtain ⟨b0,b1⟩:=FF.out _ hbw.out;clear hoc hi hg hbw;go_wp2;go_ret;exact ⟨rfl,HFIN.out⟩
theorem Kh (r:RuleM) (c:Array Value) (nm:List UInt8) (a b:Int) (w:World) (hx:RuleX w (In w) r c) (hz:RSz r):Calls prog 19 #[.agg c,.string (bs nm),.int .i64 a,.int .i64 b] w (BelP w (.int .i64 (chM r nm a b))):=by
 obtain ⟨fa,fc,ca,cc,rfl⟩:=hx.form;have hb:Bel w (w.alloc (.cells #[.slice fa r.funcs.length fc,.slice ca r.clauses.length cc,.int .i64 r.action] 30)):=zzb.alloc zzl _;have hV:=RuleV.of (zzw w (.cells #[.slice fa r.funcs.length fc,.slice ca r.clauses.length cc,.int .i64 r.action] 30)) (hx.up hb);have HB:=Zh hb;have HV:=Zh hV;obtain ⟨q,hq⟩:∃ q,mentM r 3 nm=q:=⟨_,rfl⟩
 obtain ⟨v,hc⟩:∃ v,chM r nm a b=v:=⟨_,rfl⟩
 rw[hc];unfold chM at hc;rw[hq] at hc;have HC:=Zh hc;have HQ:=Zh hq;have HZ:=Zh hz;clear hb hV hx hq hc hz;go_enter func19,ntmps19;go_upto_region 1 with fail;generalize World.alloc w _=w1 at *;generalize w.heap.size=eb at *;obtain ⟨ra,rc,ka,kc,hr⟩:=HV.out;obtain ⟨⟨q0,q1,q2⟩,hrx⟩:=hr w1 zzb;have cl:=Km r _ 3 nm w1 hrx HZ.out;rw[HQ.out] at cl;clear hr hrx;go_wp2_with fail;refine cl.mono ?_;rintro e w7 ⟨rfl,hb7⟩;have HB7:=Zh (Je HB.out hb7);clear cl hb7 q0 q1 q2 HQ HV HB HZ
 cases q
 ·obtain rfl:b=v:=HC.out;clear HC;go_wp2;go_ret;exact ⟨rfl,HB7.out⟩
 ·obtain rfl:a=v:=HC.out;clear HC;go_wp2;go_ret;exact ⟨rfl,HB7.out⟩
end Go.Proofs.YtncanmdgdflnpaaGreatDoor
