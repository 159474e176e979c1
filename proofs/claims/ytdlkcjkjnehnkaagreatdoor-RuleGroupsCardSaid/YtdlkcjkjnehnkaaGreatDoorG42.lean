import Derived.Deep.Slices
import Derived.Deep.Fields
import Derived.SliceStrings
import Derived.ChangeSlices
import Derived.ChangeMaps5
import Derived.ChangeArms
import Derived.Test.YtdlkcjkjnehnkaaGreatDoorG41
namespace Go.Proofs.YtdlkcjkjnehnkaaGreatDoor
open Go.ChangeShapes Go.WideShapes Go.RowKit Go.Deep
open Go.Joins
open _root_.Go.Proofs.Tryz
set_option linter.all false
set_option maxRecDepth 100000
set_option maxHeartbeats 32000000
section
variable {H:Type} {enc:TypeId × Value→H} {P:Program} {w:World} {base:Nat} {spare:Nat→Bool} {held:Bool}
theorem JiT {r:Go.Reach} {b0:Nat} {t:TypeId} {fs:Array Field} {v:Value} {d:DataW H} {p:List MemPlace} (hs:P.underlying t=some (.struct fs)) (hone:oneCellFields P fs=true) (hC:P.cellsOf t=fs.size)
  (hv:Value.okWide P w r b0 t v) (h:DataW.Trod enc P w base spare held t v d p) :
  ∃ cs:List Value,v=.agg cs.toArray∧cs.length=fs.size∧∀ (j:Nat) (f:Field),fs[j]?=some f→∃ (v:Value) (y:DataW H × List MemPlace) (n:Nat),cs[j]?=some v∧DataW.trod enc P w base spare held n f.type [v]=some y:=by
 obtain ⟨cs,rfl,hsz⟩:=okWide_struct hs hv;obtain ⟨l⟩:=cs;obtain ⟨fuel,hf⟩:=h;obtain ⟨ys,n,_,hx,_,hlen,hg⟩:=DataW.trod_struct hs hf;have hll:l.length=fs.size:=hsz.trans hC;refine ⟨l,rfl,hll,fun j f hj=>?_⟩;obtain ⟨ho,hk⟩:=hone_of hone j f hj;have hjl:j<fs.size:=(Array.getElem?_eq_some_iff.1 hj).1;have h1:=hg j f hj;rw[ho,hk] at h1;have hcl:(Value.cells (.agg l.toArray)).toList=l:=rfl;rw[hcl] at h1
 have hone':(l.drop j).take 1=[l[j]'(by omega)]:=by
  rw[List.drop_eq_getElem_cons (by omega)];rfl
 rw[hone'] at h1;have hys:ys[j]?=some (ys[j]'(by omega)):=List.getElem?_eq_getElem (by omega);exact ⟨_,_,n,List.getElem?_eq_getElem (by omega),h1.trans hys⟩
end
theorem JbQ {α:Type} (z:α) {n:Nat} {P:Nat→α→Prop} (h:∀ i,i<n→∃ x,P i x):∃ f:Nat→α,∀ i,i<n→P i (f i):=
 ⟨fun i=>if hi:i<n then (h i hi).choose else z,fun i hi=>by
  have:=(h i hi).choose_spec
  simpa[hi] using this⟩
theorem JeO {α:Type} (z:α) {n:Nat} {P:Nat→α→Prop} (h:∀ i,i<n→∃ x,P i x):∃ l:List α,l.length=n∧(∀ i x,l[i]?=some x→P i x)∧∀ x,x∈l→∃ i,i<n∧P i x:=by
 obtain ⟨f,hf⟩:=JbQ z h;refine ⟨(List.range n).map f,by simp,fun i x hx=>?_,fun x hx=>?_⟩
 ·simp only[List.getElem?_map] at hx
  have hil:i<n:=by
   rcases Nat.lt_or_ge i n with h | h
   ·exact h
   ·rw[List.getElem?_eq_none (by simpa using h)] at hx; simp at hx
  rw[List.getElem?_range hil] at hx;simp only[Option.map_some,Option.some.injEq] at hx;subst hx;exact hf i hil
 ·obtain ⟨i,hi,rfl⟩:=List.mem_map.1 hx;exact ⟨i,by simpa using hi,hf i (by simpa using hi)⟩
theorem Jhl {w:World} {a:Addr} {v:Value} (h:w.cell? a=some v):a.spot=none:=by
 unfold World.cell? at h;split at h
 ·cases hs:a.spot with
  | none=>rfl
  | some x=>simp[hs] at h
 ·cases h
theorem JkT {w:World} {a:Addr} {v:Value} (h:w.cell? a=some v):a.block<w.heap.size:=by
 refine Nat.lt_of_not_le fun hn=>?_
 unfold World.cell? at h;rw[Array.getElem?_eq_none hn] at h;simp at h
theorem Jmi {a:Addr} (h:a.spot=none) (n:Nat):a.add n=⟨a.block,a.off+n,none⟩:=by
 unfold Addr.add;split
 ·next e=>subst e; cases a; simp_all
 ·rfl
theorem V3:maxLen=9223372036854775807:=rfl
theorem flatMap_get' {α:Type} (g:α→List Value) (m:Nat) (hm:0<m):∀ (l:List α),(∀ a∈l,(g a).length=m)→∀ (i:Nat) (u:Value),(l.flatMap g)[i]?=some u→∃ a,l[i / m]?=some a∧(g a)[i % m]?=some u
 | [],_,i,u,h=>by simp at h
 | a::l,hg,i,u,h=>by
  have ha:=hg a (by simp);rw[List.flatMap_cons] at h
  by_cases hi:i<m
  ·rw[List.getElem?_append_left (by rw[ha]; exact hi)] at h;exact ⟨a,by rw[Nat.div_eq_of_lt hi]; rfl,by rw[Nat.mod_eq_of_lt hi]; exact h⟩
  ·rw[List.getElem?_append_right (by rw[ha]; omega),ha] at h;obtain ⟨b,h1,h2⟩:=flatMap_get' g m hm l (fun b hb=>hg b (by simp[hb])) (i-m) u h;refine ⟨b,?_,?_⟩
   ·rw[Nat.div_eq_sub_div hm (by omega)];exact h1
   ·rw[Nat.mod_eq_sub_mod (by omega)];exact h2
theorem ZG {α:Type} {R:α→List Value→Prop}:∀ (l:List (α × List Value)),(∀ p∈l,R p.1 p.2)→RowOf R (l.map (·.1)) (l.flatMap (·.2))
 | [],_=>rfl
 | p::l,h=>⟨p.2,_,h p (by simp),by simp,ZG l fun q hq=>h q (by simp[hq])⟩
section
variable {H:Type} {enc:TypeId × Value→H} {P:Program} {w:World} {base:Nat} {spare:Nat→Bool} {held:Bool}
theorem V4 {t e:TypeId} {m fuel:Nat} {v:Value} {x:DataW H × List MemPlace} {α:Type} (z:α) (R:α→List Value→Prop) (hm:0<m) (ht:P.underlying t=some (.slice e)) (hC:P.cellsOf e=m)
  (hel:∀ n,n<fuel→∀ cs x,cs.length=m→DataW.trod enc P w base spare held n e cs=some x→∃ a,R a cs) (h:DataW.trod enc P w base spare held fuel t [v]=some x):∃ l:List α,SliceOf w (In w) R l v∧l.length≤9223372036854775807∧∀ y∈l,∃ cs,R y cs:=by
 rcases DataW.trod_slice ht h with ⟨hcs,_⟩ | ⟨a,len,cap,elems,rest,n,hf,hcs,_,_,hle,hcm,hlen,hel',_,_⟩
 ·simp at hcs;subst hcs;exact ⟨[],⟨none,0,[],rfl,Nat.le_refl _,rfl,.inl rfl⟩,by simp,fun y hy=>by cases hy⟩
 ·simp at hcs;subst hcs hf
  have key:∀ i,i<len→∃ p:α × List Value,p.2.length=m∧R p.1 p.2∧∀ j,j<m→w.cell? (a.add (i*m+j))=p.2[j]?:=by
   intro i hi;have h1:=hel' i hi;rw[hC,List.getElem?_eq_getElem (by omega)] at h1;obtain ⟨cs',hc,ht'⟩:=Option.bind_eq_some_iff.1 h1;obtain ⟨_,hcl,hat⟩:=World.cells?_some hc;obtain ⟨y,hy⟩:=hel n (Nat.lt_succ_self _) cs' _ hcl ht';exact ⟨(y,cs'),hcl,hy,fun j hj=>by rw[← Go.Deep.add_add]; exact hat j hj⟩
  obtain ⟨l,hll,hl1,hl2⟩:=JeO (z,([]:List Value)) key;rw[V3] at hcm
  refine ⟨l.map (·.1),⟨some a,cap,l.flatMap (·.2),by simp[hll],by simpa[hll] using hle,ZG l fun p hp=>?_,?_⟩,by rw[List.length_map]; omega,fun y hy=>by
   obtain ⟨p,hp,rfl⟩:=List.mem_map.1 hy;obtain ⟨i,_,_,h2,_⟩:=hl2 p hp
   exact ⟨_,h2⟩⟩
  ·obtain ⟨i,_,_,h2,_⟩:=hl2 p hp;exact h2
  ·cases l with
   | nil=>exact .inl rfl
   | cons p0 l0=>
    refine .inr ?_;obtain ⟨q1,_,q3⟩:=hl1 0 p0 rfl;have h0:=q3 0 hm;obtain ⟨u0,hu0⟩:∃ u,p0.2[0]?=some u:=⟨_,List.getElem?_eq_getElem (by omega)⟩
    rw[hu0] at h0;have h0':w.cell? a=some u0:=by simpa[Addr.add] using h0
    have hsp:=Jhl h0';refine ⟨a.block,a.off,by rw[← hsp],JkT h0',fun j u hj=>?_⟩;obtain ⟨p,hp,hu⟩:=flatMap_get' (fun p:α × List Value=>p.2) m hm _ (fun p hp=>by obtain ⟨_,_,h1,_⟩:=hl2 p hp; exact h1) _ _ hj;obtain ⟨h1,_,h3⟩:=hl1 _ p hp;have h4:=h3 (j % m) (Nat.mod_lt _ hm);rw[Jmi hsp,show j / m*m+j % m=j by rw[Nat.mul_comm]; exact Nat.div_add_mod j m] at h4;exact h4.trans hu
end
theorem Jhm {W:World} {P:Nat→Prop}:∀ {l:List Exp} {xs:List Value},RowOf (fun e c=>XAt W P e c.toArray∧NmN e) l xs→RowX W P l xs∧NmL l
 | [],xs,h=>⟨by unfold RowX; exact h,by unfold NmL; trivial⟩
 | e::l,xs,⟨c,r,h1,h2,h3⟩=>by
  obtain ⟨g1,g2⟩:=Jhm h3;exact ⟨by unfold RowX; exact ⟨c.toArray,r,h1.1,h2,g1⟩,by unfold NmL; exact ⟨h1.2,g2⟩⟩
section
variable {H:Type} {enc:TypeId × Value→H} {w:World} {base:Nat} {spare:Nat→Bool} {held:Bool}
theorem Ku {n:Nat} {t:TypeId} {l:List Value} {i:Nat} {o:Option (DataW H × List MemPlace)} {v:Value} (h:DataW.trod enc prog w base spare held n t ((l.drop i).take 1)=o) (ho:o.isSome=true) (hv:l[i]?=some v):∃ y,DataW.trod enc prog w base spare held n t [v]=some y:=by
 obtain ⟨y,hy⟩:=Option.isSome_iff_exists.1 ho;have hi:=(List.getElem?_eq_some_iff.1 hv).1
 have e:(l.drop i).take 1=[v]:=by
  rw[List.drop_eq_getElem_cons hi];have:=(List.getElem?_eq_some_iff.1 hv).2;rw[this];rfl
 exact ⟨y,by rw[← e,h,hy]⟩
theorem JdZ:∀ (fuel:Nat) (cs:List Value) (x:DataW H × List MemPlace),DataW.trod enc prog w base spare held fuel 30 cs=some x→∃ E:Exp,XAt w (In w) E cs.toArray∧NmN E:=by
 intro fuel
 induction fuel using Nat.strongRecOn with
 | _ fuel ih=>
  intro cs x h;obtain ⟨xs,n,hf,_,hl,hxl,hg⟩:=DataW.trod_struct underlying30 h;have hc4:prog.cellsOf 30=4:=by kernel_rfl
  rw[hc4] at hl
  match cs,hl with
  | [v0,v1,v2,v3],_=>
  have g0:=hg 0 _ rfl;have g1:=hg 1 _ rfl;have g2:=hg 2 _ rfl;have g3:=hg 3 _ rfl;have hsome:∀ i,i<4→(xs[i]?).isSome=true:=fun i hi=>by rw[List.getElem?_eq_getElem (by rw[hxl]; exact hi)]; rfl
  obtain ⟨y0,t0⟩:=Ku g0 (hsome 0 (by decide)) rfl;obtain ⟨y1,t1⟩:=Ku g1 (hsome 1 (by decide)) rfl;obtain ⟨y2,t2⟩:=Ku g2 (hsome 2 (by decide)) rfl;obtain ⟨y3,t3⟩:=Ku g3 (hsome 3 (by decide)) rfl;obtain ⟨k,e0,_,_⟩:=DataW.trod_int underlying3 t0;obtain ⟨nn,e1,_,_⟩:=DataW.trod_int underlying3 t1;obtain ⟨s0,e2,_,hs0⟩:=DataW.trod_string underlying9 t2;simp at e0 e1 e2;obtain ⟨s,rfl⟩:=JbU s0;subst e0 e1 e2;obtain ⟨l,⟨ad,cc,ys,rfl,h2,h3,h4⟩,_,_⟩:=V4 (m:=4) (.mk 0 0 [] []:Exp) (fun e c=>XAt w (In w) e c.toArray∧NmN e) (by decide) underlying28 hc4 (fun n' hn' cs' x' _ ht'=>ih n' (by omega) cs' x' ht') t3;obtain ⟨g1,g2⟩:=Jhm h3;rw[V3,JF] at hs0;refine ⟨.mk k nn s l,?_,?_⟩
  ·unfold XAt;exact ⟨ad,cc,ys,rfl,h2,g1,h4⟩
  ·unfold NmN;exact ⟨hs0,g2⟩
theorem ZH {n:Nat} {t:TypeId} {l:List Value} {i:Nat} {o:Option (DataW H × List MemPlace)} {v0 v1 v2 v3:Value} (h:DataW.trod enc prog w base spare held n t ((l.drop i).take 4)=o) (ho:o.isSome=true) (hv:(l.drop i).take 4=[v0,v1,v2,v3]):∃ y,DataW.trod enc prog w base spare held n t [v0,v1,v2,v3]=some y:=by
 obtain ⟨y,hy⟩:=Option.isSome_iff_exists.1 ho;exact ⟨y,by rw[← hv,h,hy]⟩
theorem Jhn {fuel:Nat} {v:Value} {x:DataW H × List MemPlace} (h:DataW.trod enc prog w base spare held fuel 42 [v]=some x):∃ l:List Int,NumsX w (In w) l v∧l.length≤9223372036854775807:=by
 obtain ⟨l,⟨ad,cc,ys,h1,h2,h3,h4⟩,hlen,_⟩:=V4 (m:=1) (0:Int) (fun n c=>c=[.int .i64 n]) (by decide) underlying42 (by kernel_rfl) (fun n' _ cs' x' hc ht'=>by
  match cs',hc with
  | [u],_=>
   obtain ⟨k,e,_,_⟩:=DataW.trod_int underlying3 ht'
   exact ⟨k,e⟩) h
 refine ⟨l,⟨ad,cc,h1,h2,h4.imp id ?_⟩,hlen⟩;rintro ⟨b,o,h5,h6,h7⟩;refine ⟨b,o,h5,h6,fun i n hi=>h7 i _ ?_⟩
 have hg:∀ (l:List Int) (ys:List Value) (i:Nat) (n:Int),RowOf (fun n c=>c=[Value.int .i64 n]) l ys→l[i]?=some n→ys[i]?=some (.int .i64 n):=by
  intro l
  induction l with
  | nil=>intro ys i n _ hi; simp at hi
  | cons a l ih=>
   rintro ys i n ⟨c,r,rfl,rfl,hr⟩ hi
   cases i with
   | zero=>simpa using hi
   | succ i=>simpa using ih r i n hr (by simpa using hi)
 exact hg l ys i n h3 hi
theorem JkU {fuel:Nat} {cs:List Value} {x:DataW H × List MemPlace} (hl:cs.length=7) (h:DataW.trod enc prog w base spare held fuel 44 cs=some x):∃ f:FnM,FnX w (In w) f cs∧f.name.length≤9223372036854775807∧f.params.length≤9223372036854775807∧NmN f.body:=by
 obtain ⟨xs,n,_,_,_,hxl,hg⟩:=DataW.trod_struct underlying44 h
 match cs,hl with
 | [v0,v1,v2,v3,v4,v5,v6],_=>
 have g0:=hg 0 _ rfl;have g1:=hg 1 _ rfl;have g2:=hg 2 _ rfl;have g3:=hg 3 _ rfl;have hsome:∀ i,i<4→(xs[i]?).isSome=true:=fun i hi=>by rw[List.getElem?_eq_getElem (by rw[hxl]; exact hi)]; rfl
 obtain ⟨y0,t0⟩:=Ku g0 (hsome 0 (by decide)) rfl;obtain ⟨y1,t1⟩:=Ku g1 (hsome 1 (by decide)) rfl;obtain ⟨y2,t2⟩:=Ku g2 (hsome 2 (by decide)) rfl;obtain ⟨y3,t3⟩:=ZH g3 (hsome 3 (by decide)) rfl;obtain ⟨s0,e0,_,hs0⟩:=DataW.trod_string underlying9 t0;obtain ⟨rt,e2,_,_⟩:=DataW.trod_int underlying3 t2;simp at e0 e2;obtain ⟨s,rfl⟩:=JbU s0;subst e0 e2;obtain ⟨ps,hps,hpl⟩:=Jhn t1;obtain ⟨E,hE,hn⟩:=JdZ n _ _ t3;rw[V3,JF] at hs0;exact ⟨⟨s,ps,rt,E⟩,⟨v1,_,hps,hE,rfl⟩,hs0,hpl,hn⟩
theorem JkV {fuel:Nat} {cs:List Value} {x:DataW H × List MemPlace} (hl:cs.length=6) (h:DataW.trod enc prog w base spare held fuel 32 cs=some x):∃ c:ClM,ClX w (In w) c cs∧NmN c.cond∧c.reason.length≤9223372036854775807:=by
 obtain ⟨xs,n,_,_,_,hxl,hg⟩:=DataW.trod_struct underlying32 h
 match cs,hl with
 | [v0,v1,v2,v3,v4,v5],_=>
 have g0:=hg 0 _ rfl;have g1:=hg 1 _ rfl;have g2:=hg 2 _ rfl;have hsome:∀ i,i<3→(xs[i]?).isSome=true:=fun i hi=>by rw[List.getElem?_eq_getElem (by rw[hxl]; exact hi)]; rfl
 obtain ⟨y0,t0⟩:=ZH g0 (hsome 0 (by decide)) rfl;obtain ⟨y1,t1⟩:=Ku g1 (hsome 1 (by decide)) rfl;obtain ⟨y2,t2⟩:=Ku g2 (hsome 2 (by decide)) rfl;obtain ⟨ac,e1,_,_⟩:=DataW.trod_int underlying3 t1;obtain ⟨s0,e2,_,hs0⟩:=DataW.trod_string underlying9 t2;simp at e1 e2;obtain ⟨s,rfl⟩:=JbU s0;subst e1 e2;obtain ⟨E,hE,hn⟩:=JdZ n _ _ t0;rw[V3,JF] at hs0;exact ⟨⟨E,ac,s⟩,⟨_,hE,rfl⟩,hn,hs0⟩
theorem JbR {r:Go.Reach} {b0:Nat} {v:Value} {d:DataW H} {p:List MemPlace} (hv:Value.okWide prog w r b0 25 v) (h:DataW.Trod enc prog w base spare held 25 v d p):∃ (q:RuleM) (c:Array Value),v=.agg c∧RuleX w (In w) q c∧RNm q:=by
 obtain ⟨cs,rfl,hlen,hg⟩:=JiT underlying25 (by kernel_rfl) (by kernel_rfl) hv h;obtain ⟨v0,y0,k0,c0,t0⟩:=hg 0 _ rfl;obtain ⟨v1,y1,k1,c1,t1⟩:=hg 1 _ rfl;obtain ⟨v2,y2,k2,c2,t2⟩:=hg 2 _ rfl;obtain ⟨ac,e2,_,_⟩:=DataW.trod_int underlying3 t2;simp at e2;subst e2;obtain ⟨fs,hfs,hfl,hfa⟩:=V4 (m:=7) (⟨[],[],0,.mk 0 0 [] []⟩:FnM) (fun f c=>FnX w (In w) f c∧f.name.length≤9223372036854775807∧f.params.length≤9223372036854775807∧NmN f.body) (by decide) underlying22 (by kernel_rfl) (fun n' _ cs' x' hc ht'=>JkU hc ht') t0;obtain ⟨ks,hks,hkl,hka⟩:=V4 (m:=6) (⟨.mk 0 0 [] [],0,[]⟩:ClM) (fun f c=>ClX w (In w) f c∧NmN f.cond∧f.reason.length≤9223372036854775807) (by decide) underlying23 (by kernel_rfl) (fun n' _ cs' x' hc ht'=>JkV hc ht') t1
 match cs,hlen with
 | [u0,u1,u2],_=>
 simp at c0 c1 c2;subst c0 c1 c2;exact ⟨⟨fs,ks,ac⟩,_,rfl,⟨_,_,rfl,hfs.keep (fun _ _=>rfl) (fun _ h=>h) (fun _ _ h=>h.1),hks.keep (fun _ _=>rfl) (fun _ h=>h) (fun _ _ h=>h.1)⟩,hfl,hkl,fun f hf=>by obtain ⟨_,h⟩:=hfa f hf; exact h.2,fun c hc=>by obtain ⟨_,h⟩:=hka c hc; exact h.2⟩
end
end Go.Proofs.YtdlkcjkjnehnkaaGreatDoor
