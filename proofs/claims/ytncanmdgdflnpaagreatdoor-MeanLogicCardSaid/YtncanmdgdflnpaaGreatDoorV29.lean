
import Derived.Test.YtncanmdgdflnpaaGreatDoorV28
namespace Go.Proofs.YtncanmdgdflnpaaGreatDoor
open Go Go.ChangeShapes Go.WideShapes Go.ChangeAt Go.RowKit Go.Lib
open _root_.Go.Proofs.Tryz
set_option linter.all false
set_option maxRecDepth 100000
set_option maxHeartbeats 32000000
def fillT:List (Tmp × Value)→Array Value→Array Value
 | [],T=>T
 | (d,v)::r,T=>fillT r (T.setIfInBounds d v)
theorem Za:∀ (l:List (Tmp × Value)) (T:Array Value),(fillT l T).size=T.size
 | [],T=>rfl
 | (d,v)::r,T=>(Za r _).trans (by simp)
theorem YK:∀ (l:List (Tmp × Value)) (T:Array Value) (t:Nat),(∀ p∈l,p.1≠t)→(fillT l T).getD t undef=T.getD t undef
 | [],T,t,_=>rfl
 | (d,v)::r,T,t,h=>by
  have hd:d≠t:=h (d,v) (by simp);rw[fillT,YK r _ t (fun p hp=>h p (List.mem_cons_of_mem _ hp))];simp[Array.getElem?_setIfInBounds_ne hd]
theorem JaG:∀ (l:List (Tmp × Value)) (T:Array Value) (d:Tmp) (v:Value),(l.map (·.1)).Nodup→(d,v)∈l→d<T.size→(fillT l T).getD d undef=v
 | (d',v')::r,T,d,v,hn,hm,hs=>by
  rw[List.map_cons,List.nodup_cons] at hn
  rcases List.mem_cons.1 hm with h | h
  ·injection h with h1 h2;subst h1 h2;rw[fillT,YK r _ d (fun p hp e=>hn.1 (by have:=List.mem_map_of_mem (f:=fun x:Tmp × Value=>x.1) hp; rw[e] at this; exact this))];simp[hs]
  ·rw[fillT];exact JaG r _ d v hn.2 h (by simpa using hs)
def dstOf (ops:Array Oper) (i:Nat):Option Tmp:=(ops[i]?).bind (·.dst)
def blkOf:Value→Option Nat
 | .pointer (some ⟨b,0,none⟩)=>some b
 | _=>none
def remN (l:Array Bool):Nat→Nat
 | 0=>0
 | n+1=>remN l n+if l.getD n false=true then 0 else 1
theorem KI {l:Array Bool} {i:Nat} (h:i<l.size):(l.setIfInBounds i true).getD i false=true:=by simp[h]
theorem Jcs {l:Array Bool} {i:Nat} (hi:i<l.size) (h0:l.getD i false=false):∀ n,remN (l.setIfInBounds i true) n+(if i<n then 1 else 0)=remN l n
 | 0=>by simp[remN]
 | n+1=>by
  have ih:=Jcs hi h0 n;unfold remN
  by_cases e:i=n
  ·subst e;rw[KI hi,h0];simp at ih ⊢;exact ih
  ·rw[getD_set_ne false e];have e2:(i<n+1)=(i<n):=propext ⟨fun h=>by omega,fun h=>by omega⟩;simp only[e2];generalize (if i<n then 1 else 0)=x at *;generalize (if l.getD n false=true then 0 else 1)=y at *;omega
theorem V8 {l:Array Bool}:∀ n,remN l n=0→∀ i,i<n→l.getD i false=true
 | n+1,h,i,hi=>by
  unfold remN at h
  by_cases e:i=n
  ·subst e
   by_cases hl:l.getD i false=true
   ·exact hl
   ·rw[if_neg hl] at h; omega
  ·exact V8 n (by omega) i (by omega)
theorem JaH {l:Array Bool}:∀ n,remN l n≠0→∃ i,i<n∧l.getD i false=false∧∀ j,j<i→l.getD j false=true
 | 0,h=>absurd rfl h
 | n+1,h=>by
  by_cases e:remN l n=0
  ·refine ⟨n,Nat.lt_succ_self _,?_,V8 n e⟩;unfold remN at h
   cases hl:l.getD n false with
   | false=>rfl
   | true=>rw[e,if_pos hl] at h; exact absurd rfl h
  ·obtain ⟨i,h1,h2,h3⟩:=JaH n e;exact ⟨i,by omega,h2,h3⟩
structure Filled (ops:Array Oper) (N:Nat) (a0:Act) (l:Array Bool) (vs:Nat→Value) (a:Act):Prop where
 dfr:a.defers=a0.defers
 siz:a.tmps.size=a0.tmps.size
 val:∀ i d,i<N→dstOf ops i=some d→l.getD i false=true→a.tmps.getD d undef=vs i
 old:∀ t,(∀ i,i<N→l.getD i false=true→dstOf ops i≠some t)→a.tmps.getD t undef=a0.tmps.getD t undef
def PSet (J:List Nat) (l:Array Bool) (vs:Nat→Value) (w:World) (q:Nat):Prop:=q<w.heap.size∧∀ j∈J,l.getD j false=true→blkOf (vs j)≠some q
structure InvR (n0:Nat) (N:Nat) (J:List Nat) (rel:Nat→Value→(Nat→Prop)→World→Prop) (base:World→Prop) (l:Array Bool) (vs:Nat→Value) (w:World):Prop where
 bas:base w
 low:n0≤w.heap.size
 ptr:∀ j∈J,l.getD j false=true→∃ b,vs j=.pointer (some ⟨b,0,none⟩)∧n0≤b∧b<w.heap.size
 dis:∀ j∈J,∀ k∈J,l.getD j false=true→l.getD k false=true→j≠k→blkOf (vs j)≠blkOf (vs k)
 rls:∀ i,i<N→l.getD i false=true→rel i (vs i) (PSet J l vs w) w
def upd (vs:Nat→Value) (i:Nat) (v:Value):Nat→Value:=fun j=>if j=i then v else vs j
def pairsOf (ops:Array Oper) (N:Nat) (vs:Nat→Value):List (Tmp × Value):=(List.range N).filterMap fun i=>(dstOf ops i).map fun d=>(d,vs i)
def edge (md:Region.Mode) (ops:Array Oper) (z i:Nat):Bool:=match ops[z]? with | some o=>o.after.any fun e=>Region.binds md e&&e.on==i | none=>false
theorem JaI {md:Region.Mode} {ops:Array Oper} {z i:Nat} (h:edge md ops z i=true):∃ o,ops[z]?=some o∧∃ e∈o.after,Region.binds md e=true∧e.on=i:=by
 unfold edge at h
 cases ho:ops[z]? with
 | none=>rw[ho] at h; cases h
 | some o=>
  rw[ho] at h;obtain ⟨e,he,hb⟩:=Array.any_eq_true'.1 h;simp only[Bool.and_eq_true,beq_iff_eq] at hb;exact ⟨o,rfl,e,he,hb.1,hb.2⟩
def okR (md:Region.Mode) (ops:Array Oper) (N:Nat) (n:Nat):Bool:=
 decide (N≤ops.size)&&(List.range ops.size).all (fun z=>decide (z<N)||(List.range N).all fun i=>edge md ops z i||(List.range N).any fun k=>decide (i<k)&&edge md ops k i) &&
 (List.range N).all (fun i=>match ops[i]? with | some o=>o.after.all fun e=>!Region.binds md e||decide (e.on<i) | none=>false) &&
 decide (((List.range N).filterMap (dstOf ops)).Nodup)&&((List.range N).filterMap (dstOf ops)).all (fun d=>decide (d<n)) &&
 (List.range N).all fun i=>(List.range N).all fun j=>decide (i=j∨dstOf ops i=none∨dstOf ops i≠dstOf ops j)
def lastL (ops:Array Oper) (N:Nat):Array Bool:=Array.replicate N true++Array.replicate (ops.size-N) false
structure OkR (md:Region.Mode) (ops:Array Oper) (N:Nat) (n:Nat):Prop where
 le:N≤ops.size
 late:∀ z,N≤z→z<ops.size→∀ i,i<N→edge md ops z i=true∨∃ k,i<k∧k<N∧edge md ops k i=true
 down:∀ i,i<N→∃ o,ops[i]?=some o∧∀ e∈o.after,Region.binds md e=true→e.on<i
 nodup:((List.range N).filterMap (dstOf ops)).Nodup
 bnd:∀ i d,i<N→dstOf ops i=some d→d<n
 inj:∀ i j d,i<N→j<N→i≠j→dstOf ops i=some d→dstOf ops j≠some d
theorem Jct {md:Region.Mode} {ops:Array Oper} {N n:Nat} (h:okR md ops N n=true):OkR md ops N n:=by
 unfold okR at h;simp only[Bool.and_eq_true,decide_eq_true_eq,List.all_eq_true,List.mem_range,Bool.or_eq_true] at h;obtain ⟨⟨⟨⟨⟨h1,h2⟩,h3⟩,h4⟩,h5⟩,h6⟩:=h;refine ⟨h1,fun z hz hzs i hi=>?_,fun i hi=>?_,h4,fun i d hi hd=>?_,fun i j d hi hj hne hd he=>?_⟩
 ·rcases h2 z hzs with h | h
  ·omega
  ·rcases h i hi with h | h
   ·exact .inl h
   ·obtain ⟨k,hk,hk2⟩:=List.any_eq_true.1 h;rw[Bool.and_eq_true,decide_eq_true_eq] at hk2;exact .inr ⟨k,hk2.1,List.mem_range.1 hk,hk2.2⟩
 ·have:=h3 i hi
  cases ho:ops[i]? with
  | none=>rw[ho] at this; cases this
  | some o=>
   rw[ho] at this;refine ⟨o,rfl,fun e he hb=>?_⟩;have:=Array.all_eq_true'.1 this e he;simp only[Bool.or_eq_true,Bool.not_eq_true',decide_eq_true_eq] at this
   rcases this with h | h
   ·rw[hb] at h; cases h
   ·exact h
 ·exact h5 d (List.mem_filterMap.2 ⟨i,List.mem_range.2 hi,hd⟩)
 ·rcases h6 i hi j hj with h | h | h
  ·exact hne h
  ·rw[hd] at h; cases h
  ·exact h (hd.trans he.symm)
section
variable {P:Program} {ops:Array Oper} {Q:Exit→Act→World→Prop} {md:Region.Mode}
theorem InvR.step {n0 N:Nat} {J:List Nat} {rel:Nat→Value→(Nat→Prop)→World→Prop} {base:World→Prop} {l:Array Bool} {vs:Nat→Value} {w w':World} {i:Nat} {v:Value} (hbase:∀ w w',base w→Below w.heap.size w w'→base w')
  (hrel:∀ i v P P' w w',(∀ q,P q→q<w.heap.size)→rel i v P w→Below w.heap.size w w'→(∀ q,P q→P' q)→rel i v P' w')
  (h:InvR n0 N J rel base l vs w) (hi:i<l.size) (h0:l.getD i false=false) (hb:Below w.heap.size w w')
  (hv:∀ P',(∀ q,PSet J l vs w q→P' q)→(i∉J→∀ q,w.heap.size≤q→q<w'.heap.size→P' q)→rel i v P' w')
  (hj:i∈J→∃ b,v=.pointer (some ⟨b,0,none⟩)∧w.heap.size≤b∧b<w'.heap.size):InvR n0 N J rel base (l.setIfInBounds i true) (upd vs i v) w':=by
 have hl:∀ j,j≠i→(l.setIfInBounds i true).getD j false=l.getD j false:=fun j e=>getD_set_ne false (Ne.symm e)
 have hu:∀ j,j≠i→upd vs i v j=vs j:=fun j e=>if_neg e
 have hui:upd vs i v i=v:=if_pos rfl;have hsz:=hb.size
 have hP:∀ q,PSet J l vs w q→PSet J (l.setIfInBounds i true) (upd vs i v) w' q:=fun q hq=>by
  refine ⟨Nat.lt_of_lt_of_le hq.1 hsz,fun j hjj hl'=>?_⟩
  by_cases e:j=i
  ·subst e;obtain ⟨b,rfl,h1,_⟩:=hj hjj;rw[hui];intro h2;have h3:b=q:=by simpa[blkOf] using h2
   have:=hq.1;omega
  ·rw[hu j e];rw[hl j e] at hl';exact hq.2 j hjj hl'
 refine ⟨hbase _ _ h.bas hb,Nat.le_trans h.low hsz,fun j hjj hl'=>?_,fun j hjj k hkk hlj hlk hne=>?_,fun j hjN hl'=>?_⟩
 ·by_cases e:j=i
  ·subst e;obtain ⟨b,h1,_,h3⟩:=hj hjj;exact ⟨b,by rw[hui]; exact h1,by have:=h.low; omega,h3⟩
  ·rw[hl j e] at hl';obtain ⟨b,h1,h1',h2⟩:=h.ptr j hjj hl';exact ⟨b,by rw[hu j e]; exact h1,h1',Nat.lt_of_lt_of_le h2 hsz⟩
 ·by_cases e:j=i
  ·have ek:k≠i:=fun h=>hne (e.trans h.symm)
   subst e;obtain ⟨b,rfl,h1,_⟩:=hj hjj;rw[hl k ek] at hlk;obtain ⟨b',h3,_,h4⟩:=h.ptr k hkk hlk;rw[hui,hu k ek,h3];intro h5;have:b=b':=by simpa[blkOf] using h5
   omega
  ·by_cases ek:k=i
   ·subst ek;obtain ⟨b,rfl,h1,_⟩:=hj hkk;rw[hl j e] at hlj;obtain ⟨b',h3,_,h4⟩:=h.ptr j hjj hlj;rw[hui,hu j e,h3];intro h5;have:b'=b:=by simpa[blkOf] using h5
    omega
   ·rw[hl j e] at hlj;rw[hl k ek] at hlk;rw[hu j e,hu k ek];exact h.dis j hjj k hkk hlj hlk hne
 ·by_cases e:j=i
  ·subst e;rw[hui];refine hv _ hP (fun hnj q h1 h2=>⟨h2,fun k hkk hlk=>?_⟩);have ek:k≠j:=fun h=>hnj (h ▸ hkk)
   rw[hl k ek] at hlk;obtain ⟨b,h3,_,h4⟩:=h.ptr k hkk hlk;rw[hu k ek,h3];intro h5;have:b=q:=by simpa[blkOf] using h5
   omega
  ·rw[hl j e] at hl';rw[hu j e];exact hrel j _ _ _ _ _ (fun q hq=>hq.1) (h.rls j hjN hl') hb hP
theorem Filled.put {N:Nat} {a0 a:Act} {l:Array Bool} {vs:Nat→Value} {i:Nat} {v:Value} (hk:OkR md ops N a0.tmps.size) (h:Filled ops N a0 l vs a) (hi:i<N) (hl:i<l.size):Filled ops N a0 (l.setIfInBounds i true) (upd vs i v) (a.put (dstOf ops i) v):=by
 have hlj:∀ j,j≠i→(l.setIfInBounds i true).getD j false=l.getD j false:=fun j e=>getD_set_ne false (Ne.symm e)
 have hget:∀ t,dstOf ops i≠some t→(a.put (dstOf ops i) v).tmps.getD t undef=a.tmps.getD t undef:=fun t ht=>by
  cases hd:dstOf ops i with
  | none=>rfl
  | some d=>
   have:d≠t:=fun e=>ht (by rw[hd,e])
   simp[Act.put,Array.getElem?_setIfInBounds_ne this]
 refine ⟨?_,?_,fun j d hj hd hlt=>?_,fun t ht=>?_⟩
 ·cases hd:dstOf ops i <;> exact h.dfr
 ·cases hd:dstOf ops i with
  | none=>exact h.siz
  | some d=>simpa[Act.put] using h.siz
 ·by_cases e:j=i
  ·subst e;have hb:=hk.bnd j d hj hd;rw[← h.siz] at hb;rw[hd];simp[Act.put,upd,hb]
  ·rw[hlj j e] at hlt;rw[hget d (hk.inj j i d hj hi e hd),h.val j d hj hd hlt];simp[upd,e]
 ·have h1:dstOf ops i≠some t:=ht i hi (KI hl);rw[hget t h1]
  exact h.old t fun j hj hlt=>by
   by_cases e:j=i
   ·subst e; exact h1
   ·exact ht j hj (by rw[hlj j e]; exact hlt)
theorem Filled.full {N:Nat} {a0 a:Act} {l:Array Bool} {vs:Nat→Value} (hk:OkR md ops N a0.tmps.size) (h:Filled ops N a0 l vs a) (hl:∀ i,i<N→l.getD i false=true):a=⟨fillT (pairsOf ops N vs) a0.tmps,a0.defers⟩:=by
 have hkeys:(pairsOf ops N vs).map (·.1)=(List.range N).filterMap (dstOf ops):=by
  unfold pairsOf;rw[List.map_filterMap]
  congr 1
  funext i
  cases dstOf ops i <;> rfl
 have ht:a.tmps=fillT (pairsOf ops N vs) a0.tmps:=by
  refine Array.ext (by rw[Za,h.siz]) fun t h1 h2=>?_
  have e1:a.tmps[t]=a.tmps.getD t undef:=by simp[h1]
  have e2:(fillT (pairsOf ops N vs) a0.tmps)[t]=(fillT (pairsOf ops N vs) a0.tmps).getD t undef:=by simp[h2]
  rw[e1,e2]
  by_cases hd:∃ i,i<N∧dstOf ops i=some t
  ·obtain ⟨i,hi,hd⟩:=hd;rw[h.val i t hi hd (hl i hi)];exact (JaG (pairsOf ops N vs) _ t (vs i) (by rw[hkeys]; exact hk.nodup) (List.mem_filterMap.2 ⟨i,List.mem_range.2 hi,by rw[hd]; rfl⟩) (by rw[← h.siz]; exact h1)).symm
  ·rw[h.old t fun i hi _ e=>hd ⟨i,hi,e⟩];refine (YK _ _ t fun p hp e=>?_).symm;obtain ⟨i,hi,hp⟩:=List.mem_filterMap.1 hp
   cases hdi:dstOf ops i with
   | none=>rw[hdi] at hp; cases hp
   | some d=>
    rw[hdi] at hp;have:d=t:=by rw[← e]; exact congrArg (·.1) (Option.some.inj hp)
    exact hd ⟨i,List.mem_range.1 hi,by rw[hdi,this]⟩
 obtain ⟨t,d⟩:=a;simp only at ht;have hd:=h.dfr;simp only at hd;rw[ht,hd]
theorem JeR {l:Array Bool} {N:Nat} (hle:N≤ops.size) (hs:l.size=ops.size) (h1:∀ i,i<N→l.getD i false=true) (h2:∀ z,N≤z→l.getD z false=false):l=lastL ops N:=by
 unfold lastL;refine Array.ext (by simp; omega) fun t ht _=>?_
 have e:l[t]=l.getD t false:=by simp[ht]
 rw[e,Array.getElem_append]
 by_cases h:t<N
 ·rw[h1 t h]; simp[h]
 ·rw[h2 t (by omega)]; simp[h]
theorem vx121 {P:Prop}(h:P:=by
  refine hrel i _ _ _ w w (fun q hq=>hq.1) (hI.rls i hi (h0 i hi)) (Below.refl _ _) fun q hP=>⟨hP.1,fun j hj=>hP.2 j hj (h0 j (hJ j hj))⟩):P:=h
theorem JiR {n0 N:Nat} {J:List Nat} {rel:Nat→Value→(Nat→Prop)→World→Prop} {base:World→Prop} {a0:Act} (hk:OkR md ops N a0.tmps.size) (hJ:∀ j∈J,j<N) (hbase:∀ w w',base w→Below w.heap.size w w'→base w')
  (hrel:∀ i v P P' w w',(∀ q,P q→q<w.heap.size)→rel i v P w→Below w.heap.size w w'→(∀ q,P q→P' q)→rel i v P' w')
  (hop:∀ i,i<N→∀ (a:Act) (w:World) (Pr:Nat→Prop),base w→(∀ q,Pr q→q<w.heap.size)→(∀ q,q<n0→Pr q)→
   (∀ j,waits md ops i j=true→∃ v,rel j v Pr w∧∀ d,dstOf ops j=some d→a.tmps.getD d undef=v)→
   (∀ t,(∀ j,j<N→dstOf ops j≠some t)→a.tmps.getD t undef=a0.tmps.getD t undef)→
   wpOp P ops Q i (fun a' w'=>∃ v,a'=a.put (dstOf ops i) v∧Below w.heap.size w w'∧(∀ Pr',(∀ q,Pr q→Pr' q)→(i∉J→∀ q,w.heap.size≤q→q<w'.heap.size→Pr' q)→rel i v Pr' w')∧
    (i∈J→∃ b,v=.pointer (some ⟨b,0,none⟩)∧w.heap.size≤b∧b<w'.heap.size)) a w)
  (hend:∀ n vs w,ops.size-N≤n→base w→(∀ j∈J,∃ b,vs j=.pointer (some ⟨b,0,none⟩)∧n0≤b∧b<w.heap.size)→(∀ j∈J,∀ k∈J,j≠k→blkOf (vs j)≠blkOf (vs k))→
   (∀ i,i<N→rel i (vs i) (fun q=>q<w.heap.size∧∀ j∈J,blkOf (vs j)≠some q) w)→wpAny P md ops Q n (lastL ops N) ⟨fillT (pairsOf ops N vs) a0.tmps,a0.defers⟩ w) :
  ∀ n l vs a w,l.size=ops.size→remN l N+(ops.size-N)≤n→(∀ z,N≤z→l.getD z false=false)→Filled ops N a0 l vs a→InvR n0 N J rel base l vs w→(∀ k i,k<N→edge md ops k i=true→l.getD k false=true→l.getD i false=true)→wpAny P md ops Q n l a w:=by
 intro n
 induction n with
 | zero=>
  intro l vs a w hs hn hz hf hI hcl;have h0:=V8 N (show remN l N=0 by omega);rw[JeR hk.le hs h0 hz,hf.full hk h0]
  exact hend 0 vs w (by omega) hI.bas (fun j hj=>hI.ptr j hj (h0 j (hJ j hj))) (fun j hj k hkk=>hI.dis j hj k hkk (h0 j (hJ j hj)) (h0 k (hJ k hkk))) fun i hi=>by
   exact vx121
 | succ n ih=>
  intro l vs a w hs hn hz hf hI hcl
  by_cases hleft:remN l N=0
  ·have h0:=V8 N hleft;rw[JeR hk.le hs h0 hz,hf.full hk h0]
   exact hend (n+1) vs w (by omega) hI.bas (fun j hj=>hI.ptr j hj (h0 j (hJ j hj))) (fun j hj k hkk=>hI.dis j hj k hkk (h0 j (hJ j hj)) (h0 k (hJ k hkk))) fun i hi=>by
    exact vx121
  ·obtain ⟨m,hmN,hm0,hmin⟩:=JaH N hleft;have hin:∀ j,j<N→j<l.size:=fun j hj=>by have:=hk.le; omega
   have hmr:m∈Region.ready md ops l:=by
    obtain ⟨o,ho,hd⟩:=hk.down m hmN;refine mem_ready.2 ⟨?_,o,ho,fun e he hb=>hmin e.on (hd e he hb)⟩;have:=hin m hmN;simpa[this] using hm0
   refine ⟨fun h=>(by rw[h] at hmr; cases hmr),fun j hj=>?_⟩;obtain ⟨hj0,o,ho,hall⟩:=mem_ready.1 hj;have hjs:j<ops.size:=(Array.getElem?_eq_some_iff.1 ho).1
   have hjN:j<N:=by
    by_cases h:j<N
    ·exact h
    exfalso
    have hd:∀ n i,N-i≤n→i<N→l.getD i false=true:=by
     intro n
     induction n with
     | zero=>intro i h1 h2; omega
     | succ n ih2=>
      intro i h1 h2
      rcases hk.late j (by omega) hjs i h2 with he | ⟨k,h3,h4,he⟩
      ·obtain ⟨o',ho',e,he1,hb,hon⟩:=JaI he;rw[ho] at ho';obtain rfl:=Option.some.inj ho';have:=hall e he1 hb;rw[hon] at this;exact this
      ·exact hcl k i h4 he (ih2 k (by omega) h4)
    have:=hd N m (by omega) hmN;rw[hm0] at this
    cases this
   have hjl:=hin j hjN;have hj0':l.getD j false=false:=by simpa[hjl] using hj0
   refine wpOp_mono (fun a' w' h'=>?_) (hop j hjN a w (PSet J l vs w) hI.bas (fun q hq=>hq.1) (fun q hq=>⟨Nat.lt_of_lt_of_le hq hI.low,fun k hkk hlk h=>by
     obtain ⟨b,h3,h4,_⟩:=hI.ptr k hkk hlk;rw[h3] at h;have:b=q:=by simpa[blkOf] using h
     omega⟩) (fun k hw=>?_) (fun t ht=>hf.old t fun k hkN _=>ht k hkN))
   ·obtain ⟨v,rfl,hb,hv,hp⟩:=h';refine ih _ (upd vs j v) _ _ (by simpa using hs) ?_ (fun z hzN=>?_) (hf.put hk hjN hjl) (InvR.step hbase hrel hI hjl hj0' hb hv hp) (fun k i hkN he hl'=>?_)
    ·have:=Jcs hjl hj0' N;rw[if_pos hjN] at this;omega
    ·rw[getD_set_ne false (by omega:j≠z)];exact hz z hzN
    ·have hmono:∀ i,l.getD i false=true→(l.setIfInBounds j true).getD i false=true:=fun i h=>by
      by_cases e:j=i
      ·subst e; exact KI hjl
      ·rw[getD_set_ne false e]; exact h
     by_cases e:k=j
     ·subst e;obtain ⟨o',ho',e,he1,hb1,hon⟩:=JaI he;rw[ho] at ho';obtain rfl:=Option.some.inj ho';have:=hall e he1 hb1;rw[hon] at this;exact hmono _ this
     ·rw[getD_set_ne false (Ne.symm e)] at hl';exact hmono _ (hcl k i hkN he hl')
   ·unfold waits at hw;rw[ho] at hw;obtain ⟨e,he,hb⟩:=Array.any_eq_true'.1 hw;simp only[Bool.and_eq_true,beq_iff_eq] at hb;have hlk:=hall e he hb.1;rw[hb.2] at hlk
    have hkN:k<N:=by
     obtain ⟨o',ho',hd⟩:=hk.down j hjN;rw[ho] at ho';obtain rfl:=Option.some.inj ho';have:=hd e he hb.1;omega
    exact ⟨vs k,hI.rls k hkN hlk,fun d hd=>hf.val k d hkN hd hlk⟩
def OpOb (P:Program) (ops:Array Oper) (Q:Exit→Act→World→Prop) (n0 N:Nat) (J:List Nat) (rel:Nat→Value→(Nat→Prop)→World→Prop) (base:World→Prop) (a0:Act) (i:Nat):Prop:=
 ∀ (a:Act) (w:World) (Pr:Nat→Prop),base w→(∀ q,Pr q→q<w.heap.size)→(∀ q,q<n0→Pr q)→
  (∀ j,waits .any ops i j=true→∃ v,rel j v Pr w∧∀ d,dstOf ops j=some d→a.tmps.getD d undef=v)→
  (∀ t,(∀ j,j<N→dstOf ops j≠some t)→a.tmps.getD t undef=a0.tmps.getD t undef)→
  wpOp P ops Q i (fun a' w'=>∃ v,a'=a.put (dstOf ops i) v∧Below w.heap.size w w'∧(∀ Pr',(∀ q,Pr q→Pr' q)→(i∉J→∀ q,w.heap.size≤q→q<w'.heap.size→Pr' q)→rel i v Pr' w')∧
   (i∈J→∃ b,v=.pointer (some ⟨b,0,none⟩)∧w.heap.size≤b∧b<w'.heap.size)) a w
theorem OpOb.of {n0 N:Nat} {J:List Nat} {rel:Nat→Value→(Nat→Prop)→World→Prop} {base:World→Prop} {a0:Act} (i:Nat) {d:Option Tmp} {oo:Op} {t:TypeId} {p:String} {af:Array Edge} {g:Option (Nat × Bool)} (hi:ops[i]?=some ⟨d,oo,t,p,af,g⟩)
  (h:∀ (a:Act) (w:World) (Pr:Nat→Prop),base w→(∀ q,Pr q→q<w.heap.size)→(∀ q,q<n0→Pr q)→
   (∀ j t,waits .any ops i j=true→dstOf ops j=some t→∃ v,rel j v Pr w∧a.tmps[t]?.getD undef=v)→
   (∀ t,((List.range N).all fun j=>decide (dstOf ops j≠some t))=true→a.tmps[t]?.getD undef=a0.tmps.getD t undef)→
   ∀ K:Act→World→Prop,Shut (∀ v w',Below w.heap.size w w'→(∀ Pr',(∀ q,Pr q→Pr' q)→(i∉J→∀ q,w.heap.size≤q→q<w'.heap.size→Pr' q)→rel i v Pr' w')→
    (i∈J→∃ b,v=.pointer (some ⟨b,0,none⟩)∧w.heap.size≤b∧b<w'.heap.size)→K (a.put d v) w')→
   if Region.wanted ⟨d,oo,t,p,af,g⟩ (yielded ops a.tmps)=true then Oper.wp P ⟨d,oo,t,p,af,g⟩ a w K Q else K (a.put d undef) w):OpOb P ops Q n0 N J rel base a0 i:=by
 intro a w Pr hb hP hn hd ho;refine wpOp_step hi fun K' hK=>h a w Pr hb hP hn (fun j t hw ht=>?_) (fun t ht=>?_) K' fun v w' h1 h2 h3=>hK _ _ ⟨v,?_,h1,h2,h3⟩
 ·obtain ⟨v,h1,h2⟩:=hd j hw;exact ⟨v,h1,by simpa using h2 t ht⟩
 ·have:=ho t fun j hj e=>by
   have:=List.all_eq_true.1 ht j (List.mem_range.2 hj);simp[e] at this
  simpa using this
 ·unfold dstOf; rw[hi]; rfl
theorem Jcu (k:Nat):∀ n,remN (Array.replicate k false) n=n
 | 0=>rfl
 | n+1=>by
  unfold remN;rw[Jcu k n];have:(Array.replicate k false).getD n false=false:=by by_cases h:n<k <;> simp[h]
  rw[this];rfl
theorem Km (N:Nat) (J:List Nat) (rel:Nat→Value→(Nat→Prop)→World→Prop) (base:World→Prop) {id:Nat} {a0:Act} {w:World} (hb:base w.drew) (hJ:∀ j∈J,j<N) (hbase:∀ w w',base w→Below w.heap.size w w'→base w')
  (hrel:∀ i v P P' w w',(∀ q,P q→q<w.heap.size)→rel i v P w→Below w.heap.size w w'→(∀ q,P q→P' q)→rel i v P' w')
  (hop:∀ i,i<N→OpOb P ops Q w.heap.size N J rel base a0 i)
  (hend:∀ n vs w1,ops.size-N≤n→base w1→(∀ j∈J,∃ b,vs j=.pointer (some ⟨b,0,none⟩)∧w.heap.size≤b∧b<w1.heap.size)→(∀ j∈J,∀ k∈J,j≠k→blkOf (vs j)≠blkOf (vs k))→
   (∀ i,i<N→rel i (vs i) (fun q=>q<w1.heap.size∧∀ j∈J,blkOf (vs j)≠some q) w1)→wpAny P .any ops Q n (lastL ops N) ⟨fillT (pairsOf ops N vs) a0.tmps,a0.defers⟩ w1)
  (hk:okR .any ops N a0.tmps.size=true:=by kernel_rfl) (hm:P.follows .mixedOrders=true:=by kernel_rfl):(Code.region id ops true).wp P Q a0 w:=
 wp_region_any hm (JiR (Jct hk) hJ hbase hrel hop hend ops.size _ (fun _=>undef) a0 w.drew (by simp) (by
  have:=(Jct hk).le;rw[Jcu]
  omega) (fun z _=>by by_cases h:z<ops.size <;> simp[h]) ⟨rfl,rfl,fun i d _ _ h=>by by_cases h':i<ops.size <;> simp[h'] at h,fun _ _=>rfl⟩ ⟨hb,Nat.le_refl _,fun j _ h=>by by_cases h':j<ops.size <;> simp[h'] at h,fun j _ k _ h=>by by_cases h':j<ops.size <;> simp[h'] at h,fun j _ h=>by by_cases h':j<ops.size <;> simp[h'] at h⟩ (fun k i _ _ h=>by by_cases h':k<ops.size <;> simp[h'] at h))
theorem last0 {n:Nat} {l:Array Bool} {a:Act} {w:World} (h:Q .normal a w) (hr:Region.ready .any ops l=[]:=by kernel_rfl):wpAny P .any ops Q n l a w:=by
 cases n with
 | zero=>exact ⟨hr,h⟩
 | succ n=>exact ⟨fun _=>h,by rw[hr]; simp⟩
end
end Go.Proofs.YtncanmdgdflnpaaGreatDoor
namespace Go.Proofs.YtncanmdgdflnpaaGreatDoor
open Go.ChangeShapes Go.WideShapes Go.ChangeAt Go.RowKit Go.Lib
open _root_.Go.Proofs.Tryz
set_option linter.all false
set_option maxRecDepth 100000
set_option maxHeartbeats 32000000
theorem JeS {W:World} {P:Nat→Prop} {b:Nat} {k n:Int} {s:List UInt8} {l:List Exp} {cs:Array Value} (hr:RowX W P l cs.toList) (hb:W.heap[b]?=some (.cells cs 50 (0,0))) (hP:P b) :
  XAt W P (.mk k n s l) #[.int .i64 k,.int .i64 n,.string (bs s),.slice (some ⟨b,0,none⟩) l.length l.length]:=by
 unfold XAt;refine ⟨_,_,cs.toList,rfl,Nat.le_refl _,hr,.inr ⟨b,0,rfl,hP,fun j u hj=>?_⟩⟩;rw[Nat.zero_add];exact Kb hb hj
theorem ZN {W:World} {P:Nat→Prop} {x:Exp} {c:Array Value} (h:XAt W P x c):RowX W P [x] c.toList:=by
 unfold RowX;exact ⟨c,[],h,by simp,by unfold RowX; rfl⟩
theorem Ky {W:World} {P:Nat→Prop} {x:Exp} {c:Array Value} {l:List Exp} {xs:List Value} (h:XAt W P x c) (hr:RowX W P l xs):RowX W P (x::l) (c.toList++xs):=by
 unfold RowX;exact ⟨c,xs,h,rfl,hr⟩
theorem JiS (k:Int) (A:Option Addr) (n C:Nat) (w:World):Calls prog 21 #[.int .i64 k,.slice A n C] w (fun e w'=>e=.returned (.agg #[.int .i64 k,.int .i64 0,.string ⟨#[]⟩,.slice A n C])∧Bel w w'):=by
 have hb:Bel w (w.alloc (.cells #[.int .i64 k,.int .i64 0,.string ⟨#[]⟩,.slice A n C] 50)):=(Below.refl _ _).alloc (Nat.le_refl _) _;have hz:=heap_alloc_new w (.cells #[.int .i64 k,.int .i64 0,.string ⟨#[]⟩,.slice A n C] 50);have HB:=Zh hb;have HZ:=Zh hz;clear hb hz;go_enter func21,ntmps21;go_wp2;refine bodyPost_ret (v:=.agg #[.int .i64 k,.int .i64 0,.string ⟨#[]⟩,.slice A n C]) (results_cell_row rfl _ _ w.heap.size 50 _ (0,0) _ rfl HZ.out underlying50 rfl infoExpr) rfl ?_;exact ⟨rfl,HB.out⟩
inductive RK where
 | const (v:Value)
 | tree (x:Exp)
 | row (l:List Exp)
 | fresh (cs:Array Value) (t:TypeId)
 | rule (r:RuleM)
def RK.rel:RK→Value→(Nat→Prop)→World→Prop
 | .const c,v,_,_=>v=c
 | .tree x,v,P,w=>∃ c,v=.agg c∧XAt w P x c
 | .row l,v,P,w=>∃ b cs,v=.slice (some ⟨b,0,none⟩) l.length l.length∧P b∧w.heap[b]?=some (.cells cs 50 (0,0))∧RowX w P l cs.toList
 | .fresh cs t,v,_,w=>∃ b,v=.pointer (some ⟨b,0,none⟩)∧w.heap[b]?=some (.cells cs t (0,0))
 | .rule r,v,P,w=>∃ c,v=.agg c∧RuleX w P r c
theorem RK.keep (k:RK) (v:Value) (P P':Nat→Prop) (w w':World) (hP:∀ q,P q→q<w.heap.size) (h:k.rel v P w) (hb:Below w.heap.size w w') (hq:∀ q,P q→P' q):k.rel v P' w':=by
 have hk:∀ b,P b→w'.heap[b]?=w.heap[b]?:=fun b h=>hb.block b (hP b h)
 cases k with
 | const c=>exact h
 | tree x=>obtain ⟨c,h1,h2⟩:=h; exact ⟨c,h1,XAt.keep hk hq _ _ h2⟩
 | row l=>obtain ⟨b,cs,h1,h2,h3,h4⟩:=h; exact ⟨b,cs,h1,hq b h2,(hk b h2).trans h3,RowX.keep hk hq _ _ h4⟩
 | fresh cs t=>obtain ⟨b,h1,h2⟩:=h; exact ⟨b,h1,(hb.block b (Jb h2)).trans h2⟩
 | rule r=>obtain ⟨c,h1,h2⟩:=h; exact ⟨c,h1,RuleX.keep hk hq h2⟩
theorem Kg {W:World} {b t:Nat} {a0 a1 a2 a3:Value} {fr:Nat × Nat} (h:W.heap[b]?=some (.cells #[a0,a1,a2,a3] t fr)) :
  W.cell? ⟨b,0,none⟩=some a0∧W.cell? ⟨b,1,none⟩=some a1∧W.cell? ⟨b,2,none⟩=some a2∧W.cell? ⟨b,3,none⟩=some a3:=by
 refine ⟨?_,?_,?_,?_⟩ <;> (rw[Ja h]; rfl)
theorem KJ {W:World} {b t:Nat} {cs:Array Value} (h:W.heap[b]?=some (.cells cs t (0,0))) :
  W.frozen? ⟨b,0,none⟩=false∧W.frozen? ⟨b,1,none⟩=false∧W.frozen? ⟨b,2,none⟩=false∧W.frozen? ⟨b,3,none⟩=false:=⟨Jc h 0,Jc h 1,Jc h 2,Jc h 3⟩
def put4 (W:World) (b:Nat) (v0 v1 v2 v3:Value):World:=(((W.setCell ⟨b,0,none⟩ v0).setCell ⟨b,1,none⟩ v1).setCell ⟨b,2,none⟩ v2).setCell ⟨b,3,none⟩ v3
theorem Jgv {S:List Nat} {W:World} {b:Nat} (v0 v1 v2 v3:Value) (hb:b∈S):Chg S W (put4 W b v0 v1 v2 v3):=
 ((((Chg.refl S W).setCell (.inl hb) v0).setCell (.inl hb) v1).setCell (.inl hb) v2).setCell (.inl hb) v3
theorem V9 {w W:World} {b:Nat} (v0 v1 v2 v3:Value) (h:Bel w W) (hb:w.heap.size≤b):Bel w (put4 W b v0 v1 v2 v3):=
 (((h.setCell (p:=⟨b,0,none⟩) hb v0).setCell (p:=⟨b,1,none⟩) hb v1).setCell (p:=⟨b,2,none⟩) hb v2).setCell (p:=⟨b,3,none⟩) hb v3
theorem K6 {W:World} {b q:Nat} (v0 v1 v2 v3:Value) (hq:q≠b) (hs:q<W.heap.size):(put4 W b v0 v1 v2 v3).heap[q]?=W.heap[q]?:=(Jgv (S:=[b]) v0 v1 v2 v3 (by simp)).block q hs (by simpa using hq)
theorem Kc (W:World) (b:Nat) (v0 v1 v2 v3:Value):(put4 W b v0 v1 v2 v3).heap.size=W.heap.size:=by simp[put4,World.setCell]
def AllOb (p:Nat→Prop):Nat→Prop
 | 0=>True
 | n+1=>AllOb p n∧p n
theorem allOb {p:Nat→Prop}:∀ {n:Nat},AllOb p n→∀ i,i<n→p i
 | n+1,h,i,hi=>by
  by_cases e:i=n
  ·subst e; exact h.2
  ·exact allOb h.1 i (by omega)
theorem Jgw (fa ca ad:Option Addr) (fn fc cn cc ln lc:Nat) (act k n:Int) (s:List UInt8) (w:World):Calls prog 22 #[.agg #[.slice fa fn fc,.slice ca cn cc,.int .i64 act],.agg #[.int .i64 k,.int .i64 n,.string (bs s),.slice ad ln lc]] w
  (fun e w'=>∃ b,e=.returned (.agg #[.slice fa fn fc,.slice (some ⟨b,0,none⟩) 1 1,.int .i64 act])∧w.heap.size≤b∧w'.heap[b]?=some (.cells #[.int .i64 k,.int .i64 n,.string (bs s),.slice ad ln lc,.int .i64 3,.string (bs [120])] 62 (0,0))∧Bel w w'):=by
 have k1:Bel w ((((w.alloc (.cells #[.slice fa fn fc,.slice (some ⟨w.heap.size+1+1+1,0,none⟩) 1 1,.int .i64 act] 30)).alloc (.cells #[.int .i64 k,.int .i64 n,.string (bs s),.slice ad ln lc] 50)).alloc (.cells #[.slice fa fn fc,.slice (some ⟨w.heap.size+1+1+1,0,none⟩) 1 1,.int .i64 act] 30)).alloc (.cells #[.int .i64 k,.int .i64 n,.string (bs s),.slice ad ln lc,.int .i64 3,.string ⟨#[120]⟩] 62)):=(((((Below.refl _ _).alloc (Nat.le_refl _) _).alloc (by simp) _).alloc (by simp; omega) _).alloc (by simp; omega) _)
 have k2:((((w.alloc (.cells #[.slice fa fn fc,.slice (some ⟨w.heap.size+1+1+1,0,none⟩) 1 1,.int .i64 act] 30)).alloc (.cells #[.int .i64 k,.int .i64 n,.string (bs s),.slice ad ln lc] 50)).alloc (.cells #[.slice fa fn fc,.slice (some ⟨w.heap.size+1+1+1,0,none⟩) 1 1,.int .i64 act] 30)).alloc (.cells #[.int .i64 k,.int .i64 n,.string (bs s),.slice ad ln lc,.int .i64 3,.string ⟨#[120]⟩] 62)).heap[w.heap.size+1+1]?=some (.cells #[.slice fa fn fc,.slice (some ⟨w.heap.size+1+1+1,0,none⟩) 1 1,.int .i64 act] 30 (0,0)):=by
  have h:=Jf (X:=.cells #[.int .i64 k,.int .i64 n,.string (bs s),.slice ad ln lc,.int .i64 3,.string ⟨#[120]⟩] 62) (heap_alloc_new ((w.alloc (.cells #[.slice fa fn fc,.slice (some ⟨w.heap.size+1+1+1,0,none⟩) 1 1,.int .i64 act] 30)).alloc (.cells #[.int .i64 k,.int .i64 n,.string (bs s),.slice ad ln lc] 50)) (.cells #[.slice fa fn fc,.slice (some ⟨w.heap.size+1+1+1,0,none⟩) 1 1,.int .i64 act] 30));rw[World.size_alloc,World.size_alloc] at h;exact h
 have k3:((((w.alloc (.cells #[.slice fa fn fc,.slice (some ⟨w.heap.size+1+1+1,0,none⟩) 1 1,.int .i64 act] 30)).alloc (.cells #[.int .i64 k,.int .i64 n,.string (bs s),.slice ad ln lc] 50)).alloc (.cells #[.slice fa fn fc,.slice (some ⟨w.heap.size+1+1+1,0,none⟩) 1 1,.int .i64 act] 30)).alloc (.cells #[.int .i64 k,.int .i64 n,.string (bs s),.slice ad ln lc,.int .i64 3,.string ⟨#[120]⟩] 62)).heap[w.heap.size+1+1+1]?=some (.cells #[.int .i64 k,.int .i64 n,.string (bs s),.slice ad ln lc,.int .i64 3,.string ⟨#[120]⟩] 62 (0,0)):=by
  have h:=heap_alloc_new (((w.alloc (.cells #[.slice fa fn fc,.slice (some ⟨w.heap.size+1+1+1,0,none⟩) 1 1,.int .i64 act] 30)).alloc (.cells #[.int .i64 k,.int .i64 n,.string (bs s),.slice ad ln lc] 50)).alloc (.cells #[.slice fa fn fc,.slice (some ⟨w.heap.size+1+1+1,0,none⟩) 1 1,.int .i64 act] 30)) (.cells #[.int .i64 k,.int .i64 n,.string (bs s),.slice ad ln lc,.int .i64 3,.string ⟨#[120]⟩] 62);rw[World.size_alloc,World.size_alloc,World.size_alloc] at h;exact h
 have K1:=Zh k1;have K2:=Zh k2;have K3:=Zh k3;clear k1 k2 k3;go_enter func22,ntmps22;go_wp2;refine bodyPost_ret (v:=.agg #[.slice fa fn fc,.slice (some ⟨w.heap.size+1+1+1,0,none⟩) 1 1,.int .i64 act]) (results_cell_row rfl _ _ (w.heap.size+1+1) 30 _ (0,0) _ rfl K2.out underlying30 rfl infoRule) rfl ?_;exact ⟨_,rfl,by omega,K3.out,K1.out⟩
end Go.Proofs.YtncanmdgdflnpaaGreatDoor
