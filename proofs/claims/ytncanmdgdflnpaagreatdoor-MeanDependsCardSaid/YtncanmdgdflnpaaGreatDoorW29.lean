
import Derived.Test.YtncanmdgdflnpaaGreatDoorW28
namespace Go.Proofs.YtncanmdgdflnpaaGreatDoor
open Go Go.ChangeShapes Go.WideShapes Go.ChangeAt Go.RowKit Go.Lib
open _root_.Go.Proofs.Tryz
set_option linter.all false
set_option maxRecDepth 100000
set_option maxHeartbeats 32000000
def fillT:List (Tmp × Value)→Array Value→Array Value
 | [],T=>T
 | (d,v)::r,T=>fillT r (T.setIfInBounds d v)
theorem Zy:∀ (l:List (Tmp × Value)) (T:Array Value),(fillT l T).size=T.size
 | [],T=>rfl
 | (d,v)::r,T=>(Zy r _).trans (by simp)
theorem Y1:∀ (l:List (Tmp × Value)) (T:Array Value) (t:Nat),(∀ p∈l,p.1≠t)→(fillT l T).getD t undef=T.getD t undef
 | [],T,t,_=>rfl
 | (d,v)::r,T,t,h=>by
  have hd:d≠t:=h (d,v) (by simp);rw[fillT,Y1 r _ t (fun p hp=>h p (List.mem_cons_of_mem _ hp))];simp[Array.getElem?_setIfInBounds_ne hd]
theorem Jbf:∀ (l:List (Tmp × Value)) (T:Array Value) (d:Tmp) (v:Value),(l.map (·.1)).Nodup→(d,v)∈l→d<T.size→(fillT l T).getD d undef=v
 | (d',v')::r,T,d,v,hn,hm,hs=>by
  rw[List.map_cons,List.nodup_cons] at hn
  rcases List.mem_cons.1 hm with h | h
  ·injection h with h1 h2;subst h1 h2;rw[fillT,Y1 r _ d (fun p hp e=>hn.1 (by have:=List.mem_map_of_mem (f:=fun x:Tmp × Value=>x.1) hp; rw[e] at this; exact this))];simp[hs]
  ·rw[fillT];exact Jbf r _ d v hn.2 h (by simpa using hs)
def dstOf (ops:Array Oper) (i:Nat):Option Tmp:=(ops[i]?).bind (·.dst)
def blkOf:Value→Option Nat
 | .pointer (some ⟨b,0,none⟩)=>some b
 | _=>none
def remN (l:Array Bool):Nat→Nat
 | 0=>0
 | n+1=>remN l n+if l.getD n false=true then 0 else 1
theorem KR {l:Array Bool} {i:Nat} (h:i<l.size):(l.setIfInBounds i true).getD i false=true:=by simp[h]
theorem Jde {l:Array Bool} {i:Nat} (hi:i<l.size) (h0:l.getD i false=false):∀ n,remN (l.setIfInBounds i true) n+(if i<n then 1 else 0)=remN l n
 | 0=>by simp[remN]
 | n+1=>by
  have ih:=Jde hi h0 n;unfold remN
  by_cases e:i=n
  ·subst e;rw[KR hi,h0];simp at ih ⊢;exact ih
  ·rw[getD_set_ne false e];have e2:(i<n+1)=(i<n):=propext ⟨fun h=>by omega,fun h=>by omega⟩;simp only[e2];generalize (if i<n then 1 else 0)=x at *;generalize (if l.getD n false=true then 0 else 1)=y at *;omega
theorem Yr {l:Array Bool}:∀ n,remN l n=0→∀ i,i<n→l.getD i false=true
 | n+1,h,i,hi=>by
  unfold remN at h
  by_cases e:i=n
  ·subst e
   by_cases hl:l.getD i false=true
   ·exact hl
   ·rw[if_neg hl] at h; omega
  ·exact Yr n (by omega) i (by omega)
theorem Jbg {l:Array Bool}:∀ n,remN l n≠0→∃ i,i<n∧l.getD i false=false∧∀ j,j<i→l.getD j false=true
 | 0,h=>absurd rfl h
 | n+1,h=>by
  by_cases e:remN l n=0
  ·refine ⟨n,Nat.lt_succ_self _,?_,Yr n e⟩;unfold remN at h
   cases hl:l.getD n false with
   | false=>rfl
   | true=>rw[e,if_pos hl] at h; exact absurd rfl h
  ·obtain ⟨i,h1,h2,h3⟩:=Jbg n e;exact ⟨i,by omega,h2,h3⟩
structure Filled (ops:Array Oper) (N:Nat) (a0:Act) (l:Array Bool) (vs:Nat→Value) (a:Act):Prop where
 dfr:a.defers=a0.defers
 siz:a.tmps.size=a0.tmps.size
 val:∀ i d,i<N→dstOf ops i=some d→l.getD i false=true→a.tmps.getD d undef=vs i
 old:∀ t,(∀ i,i<N→l.getD i false=true→dstOf ops i≠some t)→a.tmps.getD t undef=a0.tmps.getD t undef
def PSet (J:List Nat) (l:Array Bool) (vs:Nat→Value) (w:World) (q:Nat):Prop:=q<w.heap.size∧∀ j∈J,l.getD j false=true→blkOf (vs j)≠some q
structure InvR (n0:Nat) (N:Nat) (J:List Nat) (rel:Nat→Value→(Nat→Prop)→World→Prop) (base:World→Prop) (l:Array Bool) (vs:Nat→Value) (w:World):Prop where
 bas:base w
 low:n0≤w.heap.size
 ptr:∀ j∈J,l.getD j false=true→∃ b,vs j=.pointer (some ⟨b,0,none⟩)∧n0≤b∧b<w.heap.size
 dis:∀ j∈J,∀ k∈J,l.getD j false=true→l.getD k false=true→j≠k→blkOf (vs j)≠blkOf (vs k)
 rls:∀ i,i<N→l.getD i false=true→rel i (vs i) (PSet J l vs w) w
def upd (vs:Nat→Value) (i:Nat) (v:Value):Nat→Value:=fun j=>if j=i then v else vs j
def pairsOf (ops:Array Oper) (N:Nat) (vs:Nat→Value):List (Tmp × Value):=(List.range N).filterMap fun i=>(dstOf ops i).map fun d=>(d,vs i)
def edge (md:Region.Mode) (ops:Array Oper) (z i:Nat):Bool:=match ops[z]? with | some o=>o.after.any fun e=>Region.binds md e&&e.on==i | none=>false
theorem Jbh {md:Region.Mode} {ops:Array Oper} {z i:Nat} (h:edge md ops z i=true):∃ o,ops[z]?=some o∧∃ e∈o.after,Region.binds md e=true∧e.on=i:=by
 unfold edge at h
 cases ho:ops[z]? with
 | none=>rw[ho] at h; cases h
 | some o=>
  rw[ho] at h;obtain ⟨e,he,hb⟩:=Array.any_eq_true'.1 h;simp only[Bool.and_eq_true,beq_iff_eq] at hb;exact ⟨o,rfl,e,he,hb.1,hb.2⟩
def okR (md:Region.Mode) (ops:Array Oper) (N:Nat) (n:Nat):Bool:=
 decide (N≤ops.size)&&(List.range ops.size).all (fun z=>decide (z<N)||(List.range N).all fun i=>edge md ops z i||(List.range N).any fun k=>decide (i<k)&&edge md ops k i) &&
 (List.range N).all (fun i=>match ops[i]? with | some o=>o.after.all fun e=>!Region.binds md e||decide (e.on<i) | none=>false) &&
 decide (((List.range N).filterMap (dstOf ops)).Nodup)&&((List.range N).filterMap (dstOf ops)).all (fun d=>decide (d<n)) &&
 (List.range N).all fun i=>(List.range N).all fun j=>decide (i=j∨dstOf ops i=none∨dstOf ops i≠dstOf ops j)
def lastL (ops:Array Oper) (N:Nat):Array Bool:=Array.replicate N true++Array.replicate (ops.size-N) false
structure OkR (md:Region.Mode) (ops:Array Oper) (N:Nat) (n:Nat):Prop where
 le:N≤ops.size
 late:∀ z,N≤z→z<ops.size→∀ i,i<N→edge md ops z i=true∨∃ k,i<k∧k<N∧edge md ops k i=true
 down:∀ i,i<N→∃ o,ops[i]?=some o∧∀ e∈o.after,Region.binds md e=true→e.on<i
 nodup:((List.range N).filterMap (dstOf ops)).Nodup
 bnd:∀ i d,i<N→dstOf ops i=some d→d<n
 inj:∀ i j d,i<N→j<N→i≠j→dstOf ops i=some d→dstOf ops j≠some d
theorem Jdf {md:Region.Mode} {ops:Array Oper} {N n:Nat} (h:okR md ops N n=true):OkR md ops N n:=by
 unfold okR at h;simp only[Bool.and_eq_true,decide_eq_true_eq,List.all_eq_true,List.mem_range,Bool.or_eq_true] at h;obtain ⟨⟨⟨⟨⟨h1,h2⟩,h3⟩,h4⟩,h5⟩,h6⟩:=h;refine ⟨h1,fun z hz hzs i hi=>?_,fun i hi=>?_,h4,fun i d hi hd=>?_,fun i j d hi hj hne hd he=>?_⟩
 ·rcases h2 z hzs with h | h
  ·omega
  ·rcases h i hi with h | h
   ·exact .inl h
   ·obtain ⟨k,hk,hk2⟩:=List.any_eq_true.1 h;rw[Bool.and_eq_true,decide_eq_true_eq] at hk2;exact .inr ⟨k,hk2.1,List.mem_range.1 hk,hk2.2⟩
 ·have:=h3 i hi
  cases ho:ops[i]? with
  | none=>rw[ho] at this; cases this
  | some o=>
   rw[ho] at this;refine ⟨o,rfl,fun e he hb=>?_⟩;have:=Array.all_eq_true'.1 this e he;simp only[Bool.or_eq_true,Bool.not_eq_true',decide_eq_true_eq] at this
   rcases this with h | h
   ·rw[hb] at h; cases h
   ·exact h
 ·exact h5 d (List.mem_filterMap.2 ⟨i,List.mem_range.2 hi,hd⟩)
 ·rcases h6 i hi j hj with h | h | h
  ·exact hne h
  ·rw[hd] at h; cases h
  ·exact h (hd.trans he.symm)
section
variable {P:Program} {ops:Array Oper} {Q:Exit→Act→World→Prop} {md:Region.Mode}
theorem InvR.step {n0 N:Nat} {J:List Nat} {rel:Nat→Value→(Nat→Prop)→World→Prop} {base:World→Prop} {l:Array Bool} {vs:Nat→Value} {w w':World} {i:Nat} {v:Value} (hbase:∀ w w',base w→Below w.heap.size w w'→base w')
  (hrel:∀ i v P P' w w',(∀ q,P q→q<w.heap.size)→rel i v P w→Below w.heap.size w w'→(∀ q,P q→P' q)→rel i v P' w')
  (h:InvR n0 N J rel base l vs w) (hi:i<l.size) (h0:l.getD i false=false) (hb:Below w.heap.size w w')
  (hv:∀ P',(∀ q,PSet J l vs w q→P' q)→(i∉J→∀ q,w.heap.size≤q→q<w'.heap.size→P' q)→rel i v P' w')
  (hj:i∈J→∃ b,v=.pointer (some ⟨b,0,none⟩)∧w.heap.size≤b∧b<w'.heap.size):InvR n0 N J rel base (l.setIfInBounds i true) (upd vs i v) w':=by
 have hl:∀ j,j≠i→(l.setIfInBounds i true).getD j false=l.getD j false:=fun j e=>getD_set_ne false (Ne.symm e)
 have hu:∀ j,j≠i→upd vs i v j=vs j:=fun j e=>if_neg e
 have hui:upd vs i v i=v:=if_pos rfl;have hsz:=hb.size
 have hP:∀ q,PSet J l vs w q→PSet J (l.setIfInBounds i true) (upd vs i v) w' q:=fun q hq=>by
  refine ⟨Nat.lt_of_lt_of_le hq.1 hsz,fun j hjj hl'=>?_⟩
  by_cases e:j=i
  ·subst e;obtain ⟨b,rfl,h1,_⟩:=hj hjj;rw[hui];intro h2;have h3:b=q:=by simpa[blkOf] using h2
   have:=hq.1;omega
  ·rw[hu j e];rw[hl j e] at hl';exact hq.2 j hjj hl'
 refine ⟨hbase _ _ h.bas hb,Nat.le_trans h.low hsz,fun j hjj hl'=>?_,fun j hjj k hkk hlj hlk hne=>?_,fun j hjN hl'=>?_⟩
 ·by_cases e:j=i
  ·subst e;obtain ⟨b,h1,_,h3⟩:=hj hjj;exact ⟨b,by rw[hui]; exact h1,by have:=h.low; omega,h3⟩
  ·rw[hl j e] at hl';obtain ⟨b,h1,h1',h2⟩:=h.ptr j hjj hl';exact ⟨b,by rw[hu j e]; exact h1,h1',Nat.lt_of_lt_of_le h2 hsz⟩
 ·by_cases e:j=i
  ·have ek:k≠i:=fun h=>hne (e.trans h.symm)
   subst e;obtain ⟨b,rfl,h1,_⟩:=hj hjj;rw[hl k ek] at hlk;obtain ⟨b',h3,_,h4⟩:=h.ptr k hkk hlk;rw[hui,hu k ek,h3];intro h5;have:b=b':=by simpa[blkOf] using h5
   omega
  ·by_cases ek:k=i
   ·subst ek;obtain ⟨b,rfl,h1,_⟩:=hj hkk;rw[hl j e] at hlj;obtain ⟨b',h3,_,h4⟩:=h.ptr j hjj hlj;rw[hui,hu j e,h3];intro h5;have:b'=b:=by simpa[blkOf] using h5
    omega
   ·rw[hl j e] at hlj;rw[hl k ek] at hlk;rw[hu j e,hu k ek];exact h.dis j hjj k hkk hlj hlk hne
 ·by_cases e:j=i
  ·subst e;rw[hui];refine hv _ hP (fun hnj q h1 h2=>⟨h2,fun k hkk hlk=>?_⟩);have ek:k≠j:=fun h=>hnj (h ▸ hkk)
   rw[hl k ek] at hlk;obtain ⟨b,h3,_,h4⟩:=h.ptr k hkk hlk;rw[hu k ek,h3];intro h5;have:b=q:=by simpa[blkOf] using h5
   omega
  ·rw[hl j e] at hl';rw[hu j e];exact hrel j _ _ _ _ _ (fun q hq=>hq.1) (h.rls j hjN hl') hb hP
theorem Filled.put {N:Nat} {a0 a:Act} {l:Array Bool} {vs:Nat→Value} {i:Nat} {v:Value} (hk:OkR md ops N a0.tmps.size) (h:Filled ops N a0 l vs a) (hi:i<N) (hl:i<l.size):Filled ops N a0 (l.setIfInBounds i true) (upd vs i v) (a.put (dstOf ops i) v):=by
 have hlj:∀ j,j≠i→(l.setIfInBounds i true).getD j false=l.getD j false:=fun j e=>getD_set_ne false (Ne.symm e)
 have hget:∀ t,dstOf ops i≠some t→(a.put (dstOf ops i) v).tmps.getD t undef=a.tmps.getD t undef:=fun t ht=>by
  cases hd:dstOf ops i with
  | none=>rfl
  | some d=>
   have:d≠t:=fun e=>ht (by rw[hd,e])
   simp[Act.put,Array.getElem?_setIfInBounds_ne this]
 refine ⟨?_,?_,fun j d hj hd hlt=>?_,fun t ht=>?_⟩
 ·cases hd:dstOf ops i <;> exact h.dfr
 ·cases hd:dstOf ops i with
  | none=>exact h.siz
  | some d=>simpa[Act.put] using h.siz
 ·by_cases e:j=i
  ·subst e;have hb:=hk.bnd j d hj hd;rw[← h.siz] at hb;rw[hd];simp[Act.put,upd,hb]
  ·rw[hlj j e] at hlt;rw[hget d (hk.inj j i d hj hi e hd),h.val j d hj hd hlt];simp[upd,e]
 ·have h1:dstOf ops i≠some t:=ht i hi (KR hl);rw[hget t h1]
  exact h.old t fun j hj hlt=>by
   by_cases e:j=i
   ·subst e; exact h1
   ·exact ht j hj (by rw[hlj j e]; exact hlt)
theorem Filled.full {N:Nat} {a0 a:Act} {l:Array Bool} {vs:Nat→Value} (hk:OkR md ops N a0.tmps.size) (h:Filled ops N a0 l vs a) (hl:∀ i,i<N→l.getD i false=true):a=⟨fillT (pairsOf ops N vs) a0.tmps,a0.defers⟩:=by
 have hkeys:(pairsOf ops N vs).map (·.1)=(List.range N).filterMap (dstOf ops):=by
  unfold pairsOf;rw[List.map_filterMap]
  congr 1
  funext i
  cases dstOf ops i <;> rfl
 have ht:a.tmps=fillT (pairsOf ops N vs) a0.tmps:=by
  refine Array.ext (by rw[Zy,h.siz]) fun t h1 h2=>?_
  have e1:a.tmps[t]=a.tmps.getD t undef:=by simp[h1]
  have e2:(fillT (pairsOf ops N vs) a0.tmps)[t]=(fillT (pairsOf ops N vs) a0.tmps).getD t undef:=by simp[h2]
  rw[e1,e2]
  by_cases hd:∃ i,i<N∧dstOf ops i=some t
  ·obtain ⟨i,hi,hd⟩:=hd;rw[h.val i t hi hd (hl i hi)];exact (Jbf (pairsOf ops N vs) _ t (vs i) (by rw[hkeys]; exact hk.nodup) (List.mem_filterMap.2 ⟨i,List.mem_range.2 hi,by rw[hd]; rfl⟩) (by rw[← h.siz]; exact h1)).symm
  ·rw[h.old t fun i hi _ e=>hd ⟨i,hi,e⟩];refine (Y1 _ _ t fun p hp e=>?_).symm;obtain ⟨i,hi,hp⟩:=List.mem_filterMap.1 hp
   cases hdi:dstOf ops i with
   | none=>rw[hdi] at hp; cases hp
   | some d=>
    rw[hdi] at hp;have:d=t:=by rw[← e]; exact congrArg (·.1) (Option.some.inj hp)
    exact hd ⟨i,List.mem_range.1 hi,by rw[hdi,this]⟩
 obtain ⟨t,d⟩:=a;simp only at ht;have hd:=h.dfr;simp only at hd;rw[ht,hd]
theorem JfF {l:Array Bool} {N:Nat} (hle:N≤ops.size) (hs:l.size=ops.size) (h1:∀ i,i<N→l.getD i false=true) (h2:∀ z,N≤z→l.getD z false=false):l=lastL ops N:=by
 unfold lastL;refine Array.ext (by simp; omega) fun t ht _=>?_
 have e:l[t]=l.getD t false:=by simp[ht]
 rw[e,Array.getElem_append]
 by_cases h:t<N
 ·rw[h1 t h]; simp[h]
 ·rw[h2 t (by omega)]; simp[h]
theorem wx116 {P:Prop}(h:P:=by
  refine hrel i _ _ _ w w (fun q hq=>hq.1) (hI.rls i hi (h0 i hi)) zzb fun q hP=>⟨hP.1,fun j hj=>hP.2 j hj (h0 j (hJ j hj))⟩):P:=h
theorem Jkd {n0 N:Nat} {J:List Nat} {rel:Nat→Value→(Nat→Prop)→World→Prop} {base:World→Prop} {a0:Act} (hk:OkR md ops N a0.tmps.size) (hJ:∀ j∈J,j<N) (hbase:∀ w w',base w→Below w.heap.size w w'→base w')
  (hrel:∀ i v P P' w w',(∀ q,P q→q<w.heap.size)→rel i v P w→Below w.heap.size w w'→(∀ q,P q→P' q)→rel i v P' w')
  (hop:∀ i,i<N→∀ (a:Act) (w:World) (Pr:Nat→Prop),base w→(∀ q,Pr q→q<w.heap.size)→(∀ q,q<n0→Pr q)→
   (∀ j,waits md ops i j=true→∃ v,rel j v Pr w∧∀ d,dstOf ops j=some d→a.tmps.getD d undef=v)→
   (∀ t,(∀ j,j<N→dstOf ops j≠some t)→a.tmps.getD t undef=a0.tmps.getD t undef)→
   wpOp P ops Q i (fun a' w'=>∃ v,a'=a.put (dstOf ops i) v∧Below w.heap.size w w'∧(∀ Pr',(∀ q,Pr q→Pr' q)→(i∉J→∀ q,w.heap.size≤q→q<w'.heap.size→Pr' q)→rel i v Pr' w')∧
    (i∈J→∃ b,v=.pointer (some ⟨b,0,none⟩)∧w.heap.size≤b∧b<w'.heap.size)) a w)
  (hend:∀ n vs w,ops.size-N≤n→base w→(∀ j∈J,∃ b,vs j=.pointer (some ⟨b,0,none⟩)∧n0≤b∧b<w.heap.size)→(∀ j∈J,∀ k∈J,j≠k→blkOf (vs j)≠blkOf (vs k))→
   (∀ i,i<N→rel i (vs i) (fun q=>q<w.heap.size∧∀ j∈J,blkOf (vs j)≠some q) w)→wpAny P md ops Q n (lastL ops N) ⟨fillT (pairsOf ops N vs) a0.tmps,a0.defers⟩ w) :
  ∀ n l vs a w,l.size=ops.size→remN l N+(ops.size-N)≤n→(∀ z,N≤z→l.getD z false=false)→Filled ops N a0 l vs a→InvR n0 N J rel base l vs w→(∀ k i,k<N→edge md ops k i=true→l.getD k false=true→l.getD i false=true)→wpAny P md ops Q n l a w:=by
 intro n
 induction n with
 | zero=>
  intro l vs a w hs hn hz hf hI hcl;have h0:=Yr N (show remN l N=0 by omega);rw[JfF hk.le hs h0 hz,hf.full hk h0]
  exact hend 0 vs w (by omega) hI.bas (fun j hj=>hI.ptr j hj (h0 j (hJ j hj))) (fun j hj k hkk=>hI.dis j hj k hkk (h0 j (hJ j hj)) (h0 k (hJ k hkk))) fun i hi=>by
   exact wx116
 | succ n ih=>
  intro l vs a w hs hn hz hf hI hcl
  by_cases hleft:remN l N=0
  ·have h0:=Yr N hleft;rw[JfF hk.le hs h0 hz,hf.full hk h0]
   exact hend (n+1) vs w (by omega) hI.bas (fun j hj=>hI.ptr j hj (h0 j (hJ j hj))) (fun j hj k hkk=>hI.dis j hj k hkk (h0 j (hJ j hj)) (h0 k (hJ k hkk))) fun i hi=>by
    exact wx116
  ·obtain ⟨m,hmN,hm0,hmin⟩:=Jbg N hleft;have hin:∀ j,j<N→j<l.size:=fun j hj=>by have:=hk.le; omega
   have hmr:m∈Region.ready md ops l:=by
    obtain ⟨o,ho,hd⟩:=hk.down m hmN;refine mem_ready.2 ⟨?_,o,ho,fun e he hb=>hmin e.on (hd e he hb)⟩;have:=hin m hmN;simpa[this] using hm0
   refine ⟨fun h=>(by rw[h] at hmr; cases hmr),fun j hj=>?_⟩;obtain ⟨hj0,o,ho,hall⟩:=mem_ready.1 hj;have hjs:j<ops.size:=(Array.getElem?_eq_some_iff.1 ho).1
   have hjN:j<N:=by
    by_cases h:j<N
    ·exact h
    exfalso
    have hd:∀ n i,N-i≤n→i<N→l.getD i false=true:=by
     intro n
     induction n with
     | zero=>intro i h1 h2; omega
     | succ n ih2=>
      intro i h1 h2
      rcases hk.late j (by omega) hjs i h2 with he | ⟨k,h3,h4,he⟩
      ·obtain ⟨o',ho',e,he1,hb,hon⟩:=Jbh he;rw[ho] at ho';obtain rfl:=Option.some.inj ho';have:=hall e he1 hb;rw[hon] at this;exact this
      ·exact hcl k i h4 he (ih2 k (by omega) h4)
    have:=hd N m (by omega) hmN;rw[hm0] at this
    cases this
   have hjl:=hin j hjN;have hj0':l.getD j false=false:=by simpa[hjl] using hj0
   refine wpOp_mono (fun a' w' h'=>?_) (hop j hjN a w (PSet J l vs w) hI.bas (fun q hq=>hq.1) (fun q hq=>⟨Nat.lt_of_lt_of_le hq hI.low,fun k hkk hlk h=>by
     obtain ⟨b,h3,h4,_⟩:=hI.ptr k hkk hlk;rw[h3] at h;have:b=q:=by simpa[blkOf] using h
     omega⟩) (fun k hw=>?_) (fun t ht=>hf.old t fun k hkN _=>ht k hkN))
   ·obtain ⟨v,rfl,hb,hv,hp⟩:=h';refine ih _ (upd vs j v) _ _ (by simpa using hs) ?_ (fun z hzN=>?_) (hf.put hk hjN hjl) (InvR.step hbase hrel hI hjl hj0' hb hv hp) (fun k i hkN he hl'=>?_)
    ·have:=Jde hjl hj0' N;rw[if_pos hjN] at this;omega
    ·rw[getD_set_ne false (by omega:j≠z)];exact hz z hzN
    ·have hmono:∀ i,l.getD i false=true→(l.setIfInBounds j true).getD i false=true:=fun i h=>by
      by_cases e:j=i
      ·subst e; exact KR hjl
      ·rw[getD_set_ne false e]; exact h
     by_cases e:k=j
     ·subst e;obtain ⟨o',ho',e,he1,hb1,hon⟩:=Jbh he;rw[ho] at ho';obtain rfl:=Option.some.inj ho';have:=hall e he1 hb1;rw[hon] at this;exact hmono _ this
     ·rw[getD_set_ne false (Ne.symm e)] at hl';exact hmono _ (hcl k i hkN he hl')
   ·unfold waits at hw;rw[ho] at hw;obtain ⟨e,he,hb⟩:=Array.any_eq_true'.1 hw;simp only[Bool.and_eq_true,beq_iff_eq] at hb;have hlk:=hall e he hb.1;rw[hb.2] at hlk
    have hkN:k<N:=by
     obtain ⟨o',ho',hd⟩:=hk.down j hjN;rw[ho] at ho';obtain rfl:=Option.some.inj ho';have:=hd e he hb.1;omega
    exact ⟨vs k,hI.rls k hkN hlk,fun d hd=>hf.val k d hkN hd hlk⟩
def OpOb (P:Program) (ops:Array Oper) (Q:Exit→Act→World→Prop) (n0 N:Nat) (J:List Nat) (rel:Nat→Value→(Nat→Prop)→World→Prop) (base:World→Prop) (a0:Act) (i:Nat):Prop:=
 ∀ (a:Act) (w:World) (Pr:Nat→Prop),base w→(∀ q,Pr q→q<w.heap.size)→(∀ q,q<n0→Pr q)→
  (∀ j,waits .any ops i j=true→∃ v,rel j v Pr w∧∀ d,dstOf ops j=some d→a.tmps.getD d undef=v)→
  (∀ t,(∀ j,j<N→dstOf ops j≠some t)→a.tmps.getD t undef=a0.tmps.getD t undef)→
  wpOp P ops Q i (fun a' w'=>∃ v,a'=a.put (dstOf ops i) v∧Below w.heap.size w w'∧(∀ Pr',(∀ q,Pr q→Pr' q)→(i∉J→∀ q,w.heap.size≤q→q<w'.heap.size→Pr' q)→rel i v Pr' w')∧
   (i∈J→∃ b,v=.pointer (some ⟨b,0,none⟩)∧w.heap.size≤b∧b<w'.heap.size)) a w
theorem OpOb.of {n0 N:Nat} {J:List Nat} {rel:Nat→Value→(Nat→Prop)→World→Prop} {base:World→Prop} {a0:Act} (i:Nat) {d:Option Tmp} {oo:Op} {t:TypeId} {p:String} {af:Array Edge} {g:Option (Nat × Bool)} (hi:ops[i]?=some ⟨d,oo,t,p,af,g⟩)
  (h:∀ (a:Act) (w:World) (Pr:Nat→Prop),base w→(∀ q,Pr q→q<w.heap.size)→(∀ q,q<n0→Pr q)→
   (∀ j t,waits .any ops i j=true→dstOf ops j=some t→∃ v,rel j v Pr w∧a.tmps[t]?.getD undef=v)→
   (∀ t,((List.range N).all fun j=>decide (dstOf ops j≠some t))=true→a.tmps[t]?.getD undef=a0.tmps.getD t undef)→
   ∀ K:Act→World→Prop,Shut (∀ v w',Below w.heap.size w w'→(∀ Pr',(∀ q,Pr q→Pr' q)→(i∉J→∀ q,w.heap.size≤q→q<w'.heap.size→Pr' q)→rel i v Pr' w')→
    (i∈J→∃ b,v=.pointer (some ⟨b,0,none⟩)∧w.heap.size≤b∧b<w'.heap.size)→K (a.put d v) w')→
   if Region.wanted ⟨d,oo,t,p,af,g⟩ (yielded ops a.tmps)=true then Oper.wp P ⟨d,oo,t,p,af,g⟩ a w K Q else K (a.put d undef) w):OpOb P ops Q n0 N J rel base a0 i:=by
 intro a w Pr hb hP hn hd ho;refine wpOp_step hi fun K' hK=>h a w Pr hb hP hn (fun j t hw ht=>?_) (fun t ht=>?_) K' fun v w' h1 h2 h3=>hK _ _ ⟨v,?_,h1,h2,h3⟩
 ·obtain ⟨v,h1,h2⟩:=hd j hw;exact ⟨v,h1,by simpa using h2 t ht⟩
 ·have:=ho t fun j hj e=>by
   have:=List.all_eq_true.1 ht j (List.mem_range.2 hj);simp[e] at this
  simpa using this
 ·unfold dstOf; rw[hi]; rfl
theorem Jdg (k:Nat):∀ n,remN (Array.replicate k false) n=n
 | 0=>rfl
 | n+1=>by
  unfold remN;rw[Jdg k n];have:(Array.replicate k false).getD n false=false:=by by_cases h:n<k <;> simp[h]
  rw[this];rfl
theorem JdU (N:Nat) (J:List Nat) (rel:Nat→Value→(Nat→Prop)→World→Prop) (base:World→Prop) {id:Nat} {a0:Act} {w:World} (hb:base w.drew) (hJ:∀ j∈J,j<N) (hbase:∀ w w',base w→Below w.heap.size w w'→base w')
  (hrel:∀ i v P P' w w',(∀ q,P q→q<w.heap.size)→rel i v P w→Below w.heap.size w w'→(∀ q,P q→P' q)→rel i v P' w')
  (hop:∀ i,i<N→OpOb P ops Q w.heap.size N J rel base a0 i)
  (hend:∀ n vs w1,ops.size-N≤n→base w1→(∀ j∈J,∃ b,vs j=.pointer (some ⟨b,0,none⟩)∧w.heap.size≤b∧b<w1.heap.size)→(∀ j∈J,∀ k∈J,j≠k→blkOf (vs j)≠blkOf (vs k))→
   (∀ i,i<N→rel i (vs i) (fun q=>q<w1.heap.size∧∀ j∈J,blkOf (vs j)≠some q) w1)→wpAny P .any ops Q n (lastL ops N) ⟨fillT (pairsOf ops N vs) a0.tmps,a0.defers⟩ w1)
  (hk:okR .any ops N a0.tmps.size=true:=by kernel_rfl) (hm:P.follows .mixedOrders=true:=by kernel_rfl):(Code.region id ops true).wp P Q a0 w:=
 wp_region_any hm (Jkd (Jdf hk) hJ hbase hrel hop hend ops.size _ (fun _=>undef) a0 w.drew (by simp) (by
  have:=(Jdf hk).le;rw[Jdg]
  omega) (fun z _=>by by_cases h:z<ops.size <;> simp[h]) ⟨rfl,rfl,fun i d _ _ h=>by by_cases h':i<ops.size <;> simp[h'] at h,fun _ _=>rfl⟩ ⟨hb,Nat.le_refl _,fun j _ h=>by by_cases h':j<ops.size <;> simp[h'] at h,fun j _ k _ h=>by by_cases h':j<ops.size <;> simp[h'] at h,fun j _ h=>by by_cases h':j<ops.size <;> simp[h'] at h⟩ (fun k i _ _ h=>by by_cases h':k<ops.size <;> simp[h'] at h))
end
end Go.Proofs.YtncanmdgdflnpaaGreatDoor
namespace Go.Proofs.YtncanmdgdflnpaaGreatDoor
open Go.ChangeShapes Go.WideShapes Go.ChangeAt Go.RowKit Go.Lib
open _root_.Go.Proofs.Tryz
set_option linter.all false
set_option maxRecDepth 100000
set_option maxHeartbeats 32000000
def AllOb (p:Nat→Prop):Nat→Prop
 | 0=>True
 | n+1=>AllOb p n∧p n
theorem allOb {p:Nat→Prop}:∀ {n:Nat},AllOb p n→∀ i,i<n→p i
 | n+1,h,i,hi=>by
  by_cases e:i=n
  ·subst e; exact h.2
  ·exact allOb h.1 i (by omega)
theorem IntsX.away {w W:World} {rb:Nat} {l:List Int} {v:Value} (h:NumsX w (In w) l v) (hb:Bel w W) (hr:w.heap.size≤rb):IntsAt W rb v l:=by
 obtain ⟨ad,cc,rfl,h2,h3⟩:=h
 rcases h3 with h5 | ⟨b,o,h4,h5,h6⟩
 ·subst h5;exact .inl ⟨rfl,ad,cc,rfl⟩
 ·subst h4;have hlt:b<w.heap.size:=h5;have hs:w.heap.size≤W.heap.size:=hb.size;exact .inr ⟨b,o,cc,rfl,h2,by omega,by omega,fun i n hi=>(hb.cell (p:=⟨b,o+i,none⟩) hlt).trans (h6 i n hi)⟩
def sigOf (f:FnM):SigM:=⟨f.params,f.result⟩
theorem Jcp {w W:World} {rb:Nat} {fs:List FnM} {v:Value} (h:FnxAt w v fs) (hb:Bel w W) (hr:w.heap.size≤rb):SigsAt W rb v (fs.map sigOf):=by
 obtain ⟨ad,cc,rfl,_⟩:=h.form;refine ⟨ad,cc,by rw[List.length_map],fun hne=>?_⟩
 have hpos:0<fs.length:=by
  cases fs with
  | nil=>exact absurd rfl hne
  | cons a l=>simp
 obtain ⟨g,o,pa,pc,da,dc,had,hc0⟩:=h.get (i:=0) (List.getElem?_eq_getElem hpos);refine ⟨g,o,had,by have:=hc0.blt; omega,fun i s hs=>?_⟩;rw[List.getElem?_map] at hs;obtain ⟨f,hf,rfl⟩:=Option.map_eq_some_iff.1 hs;obtain ⟨g',o',pa',pc',da',dc',had',hc⟩:=h.get hf;rw[had] at had';injection had' with had';injection had' with e1 e2 e3;subst e1 e2;refine ⟨bs f.name,.slice pa' f.params.length pc',f.body.kind,f.body.num,bs f.body.name,da',f.body.kids.length,dc',IntsX.away hc.nums hb hr,fun j u hj=>?_⟩;have hlt:=hc.blt;have hk:∀ j u,w.cell? ⟨g,o+i*7+j,none⟩=some u→W.cell? ⟨g,o+i*7+j,none⟩=some u:=fun j u hu=>(hb.cell (p:=⟨g,o+i*7+j,none⟩) hlt).trans hu
 match j,hj with
 | 0,hj=>obtain rfl:=Option.some.inj hj; exact hk 0 _ hc.c0
 | 1,hj=>obtain rfl:=Option.some.inj hj; exact hk 1 _ hc.c1
 | 2,hj=>obtain rfl:=Option.some.inj hj; exact hk 2 _ hc.c2
 | 3,hj=>obtain rfl:=Option.some.inj hj; exact hk 3 _ hc.c3
 | 4,hj=>obtain rfl:=Option.some.inj hj; exact hk 4 _ hc.c4
 | 5,hj=>obtain rfl:=Option.some.inj hj; exact hk 5 _ hc.c5
 | 6,hj=>obtain rfl:=Option.some.inj hj; exact hk 6 _ hc.c6
 | j+7,hj=>cases hj
def tyF (r:RuleM) (f:FnM):List Int:=needE r.sigs f.params f.result (utN f.body)
def tyC (r:RuleM) (c:ClM):List Int:=needE r.sigs [] 1 (utN c.cond)
def tyFs (r:RuleM) (i:Nat):List Int:=((r.funcs.take i).map (tyF r)).flatten
def tyCs (r:RuleM) (i:Nat):List Int:=((r.clauses.take i).map (tyC r)).flatten
theorem JfG {r:RuleM} {i:Nat} {f:FnM} (h:r.funcs[i]?=some f):tyFs r (i+1)=tyFs r i++tyF r f:=by unfold tyFs; rw[JF h]; simp
theorem JfH {r:RuleM} {i:Nat} {f:ClM} (h:r.clauses[i]?=some f):tyCs r (i+1)=tyCs r i++tyC r f:=by unfold tyCs; rw[JF h]; simp
theorem Jcq (x:Option Int) (l:List Int):(addL x l).isSome=(x.isSome||!l.isEmpty):=by
 induction l generalizing x with
 | nil=>simp[addL]
 | cons a l ih=>
  have:addL x (a::l)=addL (addF x a) l:=rfl;rw[this,ih];simp[addF]
theorem Jhz (r:RuleM):typedM r=!(addL none (tyFs r r.funcs.length++tyCs r r.clauses.length)).isSome:=by
 rw[Jcq];unfold tyFs tyCs typedM;rw[List.take_length,List.take_length];simp only[Option.isSome_none,Bool.false_or,Bool.not_not];have e1:∀ f,needN r.sigs f.params f.result (utN f.body)=tyF r f:=fun _=>rfl
 have e2:∀ c,needN r.sigs [] 1 (utN c.cond)=tyC r c:=fun _=>rfl
 simp only[e1,e2];rw[Bool.eq_iff_iff];simp[List.all_eq_true,List.flatten_eq_nil_iff]
theorem AtMv {w W W':World} {rb:Nat} (hb:Bel w W) (hr:w.heap.size≤rb) (hc:Chg [rb] W W'):Bel w W':=
 Kk hb hc.os hc.tape hc.output hc.size (fun k hk=>hc.block k (Nat.lt_of_lt_of_le hk hb.size) (by simp; omega))
theorem JfI (r:RuleM) (c:Array Value) (w:World) (hx:RuleX w (In w) r c) (hz:RSz r) (ht:treesM r=true):Calls prog 51 #[.agg c] w (BelP w (.bool (typedM r))):=by
 obtain ⟨fa,fc,ca,cc,rfl,hF,hC⟩:=hx.parts;have hq:typedM r=!(addL none (tyFs r r.funcs.length++tyCs r r.clauses.length)).isSome:=Jhz r;rw[hq]
 have htf:∀ f∈r.funcs,TyOk r.sigs.length f.params.length (utN f.body)∧WfN (utN f.body):=by
  intro f hf;unfold treesM at ht;simp only[Bool.and_eq_true,List.all_eq_true] at ht;have:=VJ f.body _ _ (ht.1 f hf);rw[show r.pa.length=r.sigs.length by simp[RuleM.pa,RuleM.sigs]] at this;exact this
 have htc:∀ c∈r.clauses,TyOk r.sigs.length 0 (utN c.cond)∧WfN (utN c.cond):=by
  intro c hc;unfold treesM at ht;simp only[Bool.and_eq_true,List.all_eq_true] at ht;have:=VJ c.cond _ _ (ht.2 c hc);rw[show r.pa.length=r.sigs.length by simp[RuleM.pa,RuleM.sigs]] at this;exact this
 have hps:∀ s∈r.sigs,s.params.length≤1000000000:=by
  intro s hs;unfold RuleM.sigs at hs;obtain ⟨f,hf,rfl⟩:=List.mem_map.1 hs;have:=(hz.fn f hf).2.1
  show f.params.length≤_
  omega
 have hbA:Below w.heap.size w (w.alloc (.cells #[.slice fa r.funcs.length fc,.slice ca r.clauses.length cc,.int .i64 r.action] 30)):=zzb.alloc zzl _;have hbB:Below w.heap.size w ((w.alloc (.cells #[.slice fa r.funcs.length fc,.slice ca r.clauses.length cc,.int .i64 r.action] 30)).alloc (.cells #[.bool false,.int .i64 0,.slice fa r.funcs.length fc] 147)):=hbA.alloc (by simp) _;have HCP:Hid (((w.alloc (.cells #[.slice fa r.funcs.length fc,.slice ca r.clauses.length cc,.int .i64 r.action] 30)).alloc (.cells #[.bool false,.int .i64 0,.slice fa r.funcs.length fc] 147)).heap[w.heap.size]?=some (.cells #[.slice fa r.funcs.length fc,.slice ca r.clauses.length cc,.int .i64 r.action] 30 (0,0))):=Jf (zzw w _)
 have hflt:FltAt ((w.alloc (.cells #[.slice fa r.funcs.length fc,.slice ca r.clauses.length cc,.int .i64 r.action] 30)).alloc (.cells #[.bool false,.int .i64 0,.slice fa r.funcs.length fc] 147)) (w.heap.size+1) 147 none (.slice fa r.funcs.length fc):=by
  have e1:=zzw (w.alloc (.cells #[.slice fa r.funcs.length fc,.slice ca r.clauses.length cc,.int .i64 r.action] 30)) (.cells #[.bool false,.int .i64 0,.slice fa r.funcs.length fc] 147);simp only[World.size_alloc] at e1;exact e1
 have HKX:Hid (∀ W,Chg [w.heap.size+1] ((w.alloc (.cells #[.slice fa r.funcs.length fc,.slice ca r.clauses.length cc,.int .i64 r.action] 30)).alloc (.cells #[.bool false,.int .i64 0,.slice fa r.funcs.length fc] 147)) W→Bel w W):=fun W hW=>AtMv (rb:=w.heap.size+1) hbB (by omega) hW
 have HSG:Hid (∀ W,Chg [w.heap.size+1] ((w.alloc (.cells #[.slice fa r.funcs.length fc,.slice ca r.clauses.length cc,.int .i64 r.action] 30)).alloc (.cells #[.bool false,.int .i64 0,.slice fa r.funcs.length fc] 147)) W→SigsAt W (w.heap.size+1) (.slice fa r.funcs.length fc) r.sigs):=fun W hW=>Jcp hF (AtMv (rb:=w.heap.size+1) hbB (by omega) hW) (by omega)
 have HIN:Hid (∀ W l v,Bel w W→NumsX w (In w) l v→IntsAt W (w.heap.size+1) v l):=fun W l v hb hn=>IntsX.away hn hb (by omega)
 have HFL:Hid (FltAt ((w.alloc (.cells #[.slice fa r.funcs.length fc,.slice ca r.clauses.length cc,.int .i64 r.action] 30)).alloc (.cells #[.bool false,.int .i64 0,.slice fa r.funcs.length fc] 147)) (w.heap.size+1) 147 (addL none (tyFs r 0)) (.slice fa r.funcs.length fc)):=hflt;have HFX:=Zh hF;have HCX:=Zh hC;have HZ:=Zh hz;have HTF:=Zh htf;have HTC:=Zh htc;have HPS:=Zh hps;have hnf:=hz.nf;have hnc:=hz.nc;have HER:Hid (w.heap.size≠w.heap.size+1∧w.heap.size+1<((w.alloc (.cells #[.slice fa r.funcs.length fc,.slice ca r.clauses.length cc,.int .i64 r.action] 30)).alloc (.cells #[.bool false,.int .i64 0,.slice fa r.funcs.length fc] 147)).heap.size):=⟨by omega,by simp⟩
 clear hbA hbB hx hF hC hz hq hflt ht htf htc hps;go_enter func51,ntmps51;go_upto_region 1 with fail;have b0:(w.alloc (.cells #[.slice fa r.funcs.length fc,.slice ca r.clauses.length cc,.int .i64 r.action] 30)).cell? ⟨w.heap.size,0,none⟩=some (.slice fa r.funcs.length fc):=by rw[Ja (zzw w (.cells #[.slice fa r.funcs.length fc,.slice ca r.clauses.length cc,.int .i64 r.action] 30))]; rfl
 go_upto_region 2 with fail;clear b0
 (try simp only[World.size_alloc])
 generalize World.alloc (World.alloc w _) _=w2 at *;generalize w.heap.size+1=rb at *;generalize w.heap.size=eb at *
 have FF:Hid (∀ W,Chg [rb] w2 W→W.cell? ⟨eb,0,none⟩=some (.slice fa r.funcs.length fc)∧W.cell? ⟨eb,1,none⟩=some (.slice ca r.clauses.length cc)∧W.cell? ⟨eb,2,none⟩=some (.int .i64 r.action)):=by
  intro W hW;have hh:=hW.heap_some (by simp; exact HER.out.1) HCP.out;refine ⟨?_,?_,?_⟩ <;> (rw[Ja hh]; rfl)
 obtain ⟨b0,b1,b2⟩:=FF.out _ (Chg.refl _ _);go_wp2_with fail;clear b0 b1 b2;go_loopg [15] r.funcs.length (fun g v15 wr=>∃ i:Nat,g+i=r.funcs.length∧v15=.int .i64 i∧Hid (Chg [rb] w2 wr)∧Hid (FltAt wr rb 147 (addL none (tyFs r i)) (.slice fa r.funcs.length fc)))
 case atStart=>exact ⟨0,rfl,rfl,Chg.refl _ _,HFL⟩
 case round=>
 clear HFL;obtain ⟨wl,rfl⟩:∃ wl:World,wl=wr:=⟨_,rfl⟩
 obtain ⟨i,hg,rfl,hbw,hft⟩:=hrel
 by_cases hi:i<r.funcs.length
 ·have hil:(i:Int)<(r.funcs.length:Int):=by omega
  obtain ⟨f,hf⟩:∃ f,r.funcs[i]?=some f:=⟨r.funcs[i],List.getElem?_eq_getElem hi⟩
  have hmem:=List.mem_of_getElem? hf;have hXf:=HFX.out.up (HKX.out _ hbw.out);obtain ⟨b,o,pa,pc,da,dc,hfa,hfc⟩:=hXf.get hf
  have hnums:NumsX w (In w) f.params (.slice pa f.params.length pc):=by
   obtain ⟨b9,o9,pa9,pc9,da9,dc9,hfa9,hfc9⟩:=HFX.out.get hf;rw[hfa] at hfa9;injection hfa9 with e9;injection e9 with e1 e2;subst e1 e2;have hlt:b<w.heap.size:=hfc9.blt;have h1:=hfc.c1;have h2:wl.cell? _=_:=((HKX.out _ hbw.out).cell (p:=⟨b,o+i*7+1,none⟩) hlt).trans hfc9.c1;rw[h1] at h2;injection h2 with h2;rw[h2];exact hfc9.nums
  obtain ⟨_,hple,hnm,hsz⟩:=HZ.out.fn f hmem;have c0:=hfc.c0;have c1:=hfc.c1;have c2:=hfc.c2;have c3:=hfc.c3;have c4:=hfc.c4;have c5:=hfc.c5;have c6:=hfc.c6;have wk:IntKind.i64.wrap ((i:Int)+1)=(i:Int)+1:=IntWalk.i64_in _ (by omega);have hb2:Below wl.heap.size wl (wl.alloc (.cells #[.string (bs f.name),.slice pa f.params.length pc,.int .i64 f.result,.int .i64 f.body.kind,.int .i64 f.body.num,.string (bs f.body.name),.slice da f.body.kids.length dc] 79)):=zzb.alloc zzl _;have hbx:Chg [rb] w2 (wl.alloc (.cells #[.string (bs f.name),.slice pa f.params.length pc,.int .i64 f.result,.int .i64 f.body.kind,.int .i64 f.body.num,.string (bs f.body.name),.slice da f.body.kids.length dc] 79)):=hbw.out.trans (Chg.of_below hb2 [rb]);have HNB:=Zh (zzw wl (.cells #[.string (bs f.name),.slice pa f.params.length pc,.int .i64 f.result,.int .i64 f.body.kind,.int .i64 f.body.num,.string (bs f.body.name),.slice da f.body.kids.length dc] 79));have HXB:Hid (∀ W,Bel (wl.alloc (.cells #[.string (bs f.name),.slice pa f.params.length pc,.int .i64 f.result,.int .i64 f.body.kind,.int .i64 f.body.num,.string (bs f.body.name),.slice da f.body.kids.length dc] 79)) W→XAt W (In W) f.body #[.int .i64 f.body.kind,.int .i64 f.body.num,.string (bs f.body.name),.slice da f.body.kids.length dc]):=fun W hW=>(hfc.body.up hb2).up hW
  have HFT:Hid (FltAt (wl.alloc (.cells #[.string (bs f.name),.slice pa f.params.length pc,.int .i64 f.result,.int .i64 f.body.kind,.int .i64 f.body.num,.string (bs f.body.name),.slice da f.body.kids.length dc] 79)) rb 147 (addL none (tyFs r i)) (.slice fa r.funcs.length fc)):=(hb2.block _ (Jb hft.out)).trans hft.out;obtain ⟨hty,hwf⟩:=HTF.out f hmem;have HTY:=Zh hty;have HWF:=Zh hwf;have HS:Hid (siz (utN f.body)≤1000000∧f.params.length≤1000000):=⟨hsz,hple⟩
  have HNU:=Zh hnums;have HY:=Zh (JfG hf);have HCB:=Zh hbx;have HG:=Zh hg;have HHI:=Zh hi;have HRB:Hid (rb<wl.heap.size):=Jb hft.out;have HEQ:=Zh hfa;subst hfa;clear hb2 hbx hmem hfc hbw hf hi hg hXf hnm hsz hple hft hty hwf hnums HEQ;go_upto_region 5 with fail;clear c0 c1 c2 c3 c4 c5 c6;generalize World.alloc wl _=w3 at *;generalize hcb:wl.heap.size=cb at *
  have F3:Hid (∀ W,Chg [rb] w3 W→W.cell? ⟨cb,1,none⟩=some (.slice pa f.params.length pc)∧W.cell? ⟨cb,2,none⟩=some (.int .i64 f.result)∧W.cell? ⟨cb,3,none⟩=some (.int .i64 f.body.kind)∧W.cell? ⟨cb,4,none⟩=some (.int .i64 f.body.num)∧W.cell? ⟨cb,5,none⟩=some (.string (bs f.body.name))∧W.cell? ⟨cb,6,none⟩=some (.slice da f.body.kids.length dc)):=by
   intro W hW;have hh:=hW.heap_some (by simp; have:=HRB.out; omega) HNB.out;refine ⟨?_,?_,?_,?_,?_,?_⟩ <;> (rw[Ja hh]; rfl)
  clear hcb;have hd3:Chg [rb] w3 w3.drew:=Chg.of_below (Below.refl w3.heap.size w3).drew [rb];refine wp_region_held_drew (S:=(fun W=>Chg [rb] w3 W∧W.cell? ⟨cb,1,none⟩=some (.slice pa f.params.length pc)∧W.cell? ⟨cb,2,none⟩=some (.int .i64 f.result)∧W.cell? ⟨cb,3,none⟩=some (.int .i64 f.body.kind)∧W.cell? ⟨cb,4,none⟩=some (.int .i64 f.body.num)∧W.cell? ⟨cb,5,none⟩=some (.string (bs f.body.name))∧W.cell? ⟨cb,6,none⟩=some (.slice da f.body.kids.length dc))) (by kernel_rfl) (⟨hd3,F3.out _ hd3⟩) (fun hH=>?_);refine ZT (i:=0) (v:=?vR0) rfl (Or.inl ⟨by rfl,?yR0⟩) ?_
  case yR0=>exact ZyQ
  try simp only[Act.put,ZA,ZB,ZC]
  refine ZT (i:=1) (v:=?vR1) rfl (Or.inl ⟨by rfl,?yR1⟩) ?_
  case yR1=>exact ZyQ
  try simp only[Act.put,ZA,ZB,ZC]
  refine ZT (i:=2) (v:=?vR2) rfl (Or.inl ⟨by rfl,?yR2⟩) ?_
  case yR2=>exact ZyQ
  try simp only[Act.put,ZA,ZB,ZC]
  refine ZT (i:=4) (v:=?vR4) rfl (Or.inl ⟨by rfl,?yR4⟩) ?_
  case yR4=>exact ZyQ
  try simp only[Act.put,ZA,ZB,ZC]
  refine ZT (i:=5) (v:=?vR5) rfl (Or.inl ⟨by rfl,?yR5⟩) ?_
  case yR5=>exact ZyQ
  try simp only[Act.put,ZA,ZB,ZC]
  refine ZT (i:=6) (v:=?vR6) rfl (Or.inl ⟨by rfl,?yR6⟩) ?_
  case yR6=>exact ZyQ
  try simp only[Act.put,ZA,ZB,ZC]
  refine ZT (i:=7) (v:=?vR7) rfl (Or.inl ⟨by rfl,?yR7⟩) ?_
  case yR7=>exact ZyQ
  try simp only[Act.put,ZA,ZB,ZC]
  refine ZS 3 rfl (fun K hK=>?_);have cu:=V0 (siz (utN f.body)) (by have:=HS.out.1; omega) f.body _ w3.drew zzl (HXB.out _ (Below.refl w3.heap.size w3).drew)
  (go_simp; go_at_call 96; refine cu.mono ?_; rintro e w6 ⟨yb,rfl,hn6,hat6,hft6,hb6⟩)
  clear cu;have hc6:Chg [rb] w3 w6:=hd3.trans (Chg.of_below hb6 [rb]);have hb36:Below w3.heap.size w3 w6:=Je (Below.refl w3.heap.size w3).drew hb6;have hfl6:FltAt w6 rb 147 (addL none (tyFs r i)) (.slice (some ⟨b,o,none⟩) r.funcs.length fc):=(hb36.block _ (Jb HFT.out)).trans HFT.out;have hrb3:=Jb HFT.out;have HC7:=Zh hc6;have cn:=JD r.sigs rb (.slice (some ⟨b,o,none⟩) r.funcs.length fc) yb f.params (.slice pa f.params.length pc) (addL none (tyFs r i)) f.result w6 ⟨hat6,fun hm=>by have:=(hft6 _ hm).1; have h9:w3.heap.size≤w3.drew.heap.size:=Nat.le_refl _; omega,hfl6,HSG.out _ (HCB.out.trans hc6),HIN.out _ _ _ (HKX.out _ (HCB.out.trans hc6)) HNU.out,by rw[hn6]; exact HTY.out,by rw[hn6]; exact HWF.out⟩ (fun W hp=>JaW _ rb _ HPS.out (siz yb.nd) yb f.params (.slice pa f.params.length pc) _ W zzl (by have:=HS.out; rw[hn6]; omega) hp);rw[hn6] at cn;have hEE:needE r.sigs f.params f.result (utN f.body)=tyF r f:=rfl;rw[hEE] at cn;obtain ⟨ya,yn,yc,hcy⟩:=Jg yb;rw[hcy] at cn ⊢;clear hn6 hat6 hft6 hb6 hb36 hfl6 hrb3 hcy;refine hK.out _ _ (⟨HC7.out,F3.out _ HC7.out⟩) (fun hH=>?_);clear hK K
  try simp only[Act.put,ZA,ZB,ZC]
  refine ZS 8 rfl (fun K hK=>?_)
  (go_simp; go_at_call 76; refine cn.mono ?_; rintro e w8 ⟨rfl,hf8,hc8⟩)
  clear cn;refine hK.out _ _ (⟨HC7.out.trans hc8,F3.out _ (HC7.out.trans hc8)⟩) (fun hH=>?_);clear hK K
  try simp only[Act.put,ZA,ZB,ZC]
  refine wpAnyH_done (by kernel_rfl) ?_ _;have HC8:Hid (Chg [rb] w2 w8):=HCB.out.trans (HC7.out.trans hc8);have HF8:Hid (FltAt w8 rb 147 (addL none (tyFs r (i+1))) (.slice (some ⟨b,o,none⟩) r.funcs.length fc)):=by rw[Hid,HY.out,Jt]; exact hf8
  clear hH hf8 hc8 HCB HFT;go_wp2;go_roundg (r.funcs.length-(i+1))
  case measure=>have:=HG.out; have:=HHI.out; omega
  case rel=>exact ⟨i+1,by have:=HHI.out; omega,by go_num,HC8,HF8⟩
 have hil:¬ (i:Int)<(r.funcs.length:Int):=by omega
 obtain rfl:i=r.funcs.length:=by omega
 obtain ⟨b0,b1,b2⟩:=FF.out _ hbw.out;have HBW:=Zh hbw.out;have HFT:Hid (FltAt wl rb 147 (addL none (tyFs r r.funcs.length++tyCs r 0)) (.slice fa r.funcs.length fc)):=by rw[Hid,show tyCs r 0=[] from rfl,List.append_nil]; exact hft.out
 clear hft hg hi hbw;go_wp2_with fail;clear b0 b1 b2 hil;go_loopg [32] r.clauses.length (fun g v32 wr=>∃ j:Nat,g+j=r.clauses.length∧v32=.int .i64 j∧Hid (Chg [rb] w2 wr)∧Hid (FltAt wr rb 147 (addL none (tyFs r r.funcs.length++tyCs r j)) (.slice fa r.funcs.length fc)))
 case atStart=>exact ⟨0,rfl,rfl,HBW,HFT⟩
 case round=>
 clear HBW HFT;obtain ⟨wm,rfl⟩:∃ wm:World,wm=wr:=⟨_,rfl⟩
 obtain ⟨j,hg,rfl,hbw,hft⟩:=hrel
 by_cases hj:j<r.clauses.length
 ·have hjl:(j:Int)<(r.clauses.length:Int):=by omega
  obtain ⟨m,hm⟩:∃ m,r.clauses[j]?=some m:=⟨r.clauses[j],List.getElem?_eq_getElem hj⟩
  have hmem:=List.mem_of_getElem? hm;have hXc:=HCX.out.up (HKX.out _ hbw.out);obtain ⟨b,o,da,dc,hca,hfc⟩:=hXc.get hm;obtain ⟨hnm,hsz,hrl⟩:=HZ.out.cl m hmem;have c0:=hfc.c0;have c1:=hfc.c1;have c2:=hfc.c2;have c3:=hfc.c3;have c4:=hfc.c4;have c5:=hfc.c5;have wk:IntKind.i64.wrap ((j:Int)+1)=(j:Int)+1:=IntWalk.i64_in _ (by omega);have hb2:Below wm.heap.size wm (wm.alloc (.cells #[.int .i64 m.cond.kind,.int .i64 m.cond.num,.string (bs m.cond.name),.slice da m.cond.kids.length dc,.int .i64 m.action,.string (bs m.reason)] 62)):=zzb.alloc zzl _;have hbx:Chg [rb] w2 (wm.alloc (.cells #[.int .i64 m.cond.kind,.int .i64 m.cond.num,.string (bs m.cond.name),.slice da m.cond.kids.length dc,.int .i64 m.action,.string (bs m.reason)] 62)):=hbw.out.trans (Chg.of_below hb2 [rb]);have cu:=V0 (siz (utN m.cond)) (by omega) m.cond _ (wm.alloc (.cells #[.int .i64 m.cond.kind,.int .i64 m.cond.num,.string (bs m.cond.name),.slice da m.cond.kids.length dc,.int .i64 m.action,.string (bs m.reason)] 62)) zzl (hfc.cond.up hb2);have HFT:Hid (FltAt (wm.alloc (.cells #[.int .i64 m.cond.kind,.int .i64 m.cond.num,.string (bs m.cond.name),.slice da m.cond.kids.length dc,.int .i64 m.action,.string (bs m.reason)] 62)) rb 147 (addL none (tyFs r r.funcs.length++tyCs r j)) (.slice fa r.funcs.length fc)):=(hb2.block _ (Jb hft.out)).trans hft.out;obtain ⟨hty,hwf⟩:=HTC.out m hmem;have HTY:=Zh hty;have HWF:=Zh hwf;have HS:=Zh hsz;have HY:=Zh (JfH hm);have HCB:=Zh hbx;have HG:=Zh hg;have HHI:=Zh hj;subst hca;clear hb2 hbx hmem hfc hbw hm hj hg hXc hnm hsz hrl hft hty hwf;go_wp2_with fail;clear c0 c1 c2 c3 c4 c5;generalize World.alloc wm _=w3 at *;refine cu.mono ?_;rintro e w6 ⟨yb,rfl,hn6,hat6,hft6,hb6⟩;clear cu;have HC6:Hid (Chg [rb] w2 w6):=HCB.out.trans (Chg.of_below hb6 [rb]);have hfl6:FltAt w6 rb 147 (addL none (tyFs r r.funcs.length++tyCs r j)) (.slice fa r.funcs.length fc):=(hb6.block _ (Jb HFT.out)).trans HFT.out;have hrb3:=Jb HFT.out;have cn:=JD r.sigs rb (.slice fa r.funcs.length fc) yb [] (.slice none 0 0) (addL none (tyFs r r.funcs.length++tyCs r j)) 1 w6 ⟨hat6,fun hm=>by have:=(hft6 _ hm).1; omega,hfl6,HSG.out _ HC6.out,.inl ⟨rfl,none,0,rfl⟩,by rw[hn6]; exact HTY.out,by rw[hn6]; exact HWF.out⟩ (fun W hp=>JaW _ rb _ HPS.out (siz yb.nd) yb [] (.slice none 0 0) _ W zzl (by have:=HS.out; have:([]:List Int).length=0:=rfl; rw[hn6]; omega) hp);rw[hn6] at cn;have hEE:needE r.sigs [] 1 (utN m.cond)=tyC r m:=rfl;rw[hEE] at cn;obtain ⟨ya,yn,yc,hcy⟩:=Jg yb;rw[hcy] at cn ⊢;clear hn6 hat6 hft6 hb6 hfl6 hrb3 HFT HCB hcy;go_wp2_with fail;refine cn.mono ?_;rintro e w8 ⟨rfl,hf8,hc8⟩;have HC8:Hid (Chg [rb] w2 w8):=HC6.out.trans hc8;have HF8:Hid (FltAt w8 rb 147 (addL none (tyFs r r.funcs.length++tyCs r (j+1))) (.slice fa r.funcs.length fc)):=by rw[Hid,HY.out,← List.append_assoc,Jt]; exact hf8
  clear cn hf8 hc8 HC6;go_wp2;go_roundg (r.clauses.length-(j+1))
  case measure=>have:=HG.out; have:=HHI.out; omega
  case rel=>exact ⟨j+1,by have:=HHI.out; omega,by go_num,HC8,HF8⟩
 have hjl:¬ (j:Int)<(r.clauses.length:Int):=by omega
 obtain rfl:j=r.clauses.length:=by omega
 have HBW:=Zh (HKX.out _ hbw.out);have hfl:=hft.out;unfold FltAt at hfl;generalize addL none (tyFs r r.funcs.length++tyCs r r.clauses.length)=x at *;have b0:=Ja hfl 0;simp only[ZD,ZE,ZF] at b0;clear hft hg hj hbw hfl
 cases x with
 | none=>
  go_wp2;go_ret;exact ⟨rfl,HBW.out⟩
 | some z=>
  go_wp2;go_ret;exact ⟨rfl,HBW.out⟩
end Go.Proofs.YtncanmdgdflnpaaGreatDoor
