import Derived.Deep.Slices
import Derived.Deep.Fields
import Derived.SliceStrings
import Derived.ChangeSlices
import Derived.ChangeMaps5
import Derived.Test.YtncanmdgdflnpaaGreatDoorS33
namespace Go.Proofs.YtncanmdgdflnpaaGreatDoor
open Go.ChangeShapes Go.WideShapes Go.RowKit Go.Deep
open Go.Joins
open _root_.Go.Proofs.Tryz
set_option linter.all false
set_option maxRecDepth 100000
set_option maxHeartbeats 32000000
section
variable {H:Type} {enc:TypeId × Value→H} {P:Program} {w:World} {base:Nat} {spare:Nat→Bool} {held:Bool}
theorem VY {t e:TypeId} {fs:Array Field} {fuel:Nat} {cs:List Value} {x:DataW H × List MemPlace} (ht:P.underlying t=some (.slice e)) (he:P.underlying e=some (.struct fs))
  (hone:oneCellFields P fs=true) (hC:P.cellsOf e=fs.size) (h:DataW.trod enc P w base spare held fuel t cs=some x) :
  (cs=[.slice none 0 0]∧x=(.nil,[]))∨
  ∃ (a:Addr) (len cap m:Nat) (D:Nat→DataW H) (Pl:Nat→List MemPlace),cs=[.slice (some a) len cap]∧base≤a.block∧len≤cap∧cap≤maxLen∧m=(if spare a.block then cap else len)∧
   x=(.slice ((List.range len).map D) ((List.range (m-len)).map fun j=>D (len+j)),MemPlace.row a (m*fs.size)++(List.range m).flatMap Pl)∧
   ∀ i,i<m→∃ (ys:List (DataW H × List MemPlace)) (n:Nat),D i=.agg (ys.map (·.1))∧Pl i=ys.flatMap (·.2)∧ys.length=fs.size∧
    ∀ (j:Nat) (f:Field),fs[j]?=some f→∃ (v:Value) (y:DataW H × List MemPlace),w.cell? (a.add (i*fs.size+j))=some v∧ys[j]?=some y∧DataW.trod enc P w base spare held n f.type [v]=some y:=by
 rcases open_slice ht h with h0 | ⟨a,len,cap,m,n,D,Pl,hcs,hb,hl,hm,hmm,hx,hi⟩
 ·exact .inl h0
 ·refine .inr ⟨a,len,cap,m,D,Pl,hcs,hb,hl,hm,hmm,by rw[hC] at hx; exact hx,fun i him=>?_⟩;obtain ⟨cs',hc,ht'⟩:=hi i him;rw[hC] at hc;obtain ⟨ys,n',hn',hy,hlen,hyl,hf⟩:=DataW.trod_struct he ht';obtain ⟨_,hcl,hat⟩:=World.cells?_some hc;simp only[Prod.mk.injEq] at hy;refine ⟨ys,n',hy.1,hy.2,hyl,fun j f hj=>?_⟩;obtain ⟨ho,hk⟩:=hone_of hone j f hj;have hjl:j<fs.size:=(Array.getElem?_eq_some_iff.1 hj).1;have hcell:=hat j hjl;have hv:cs'[j]?=some (cs'[j]'(by omega)):=List.getElem?_eq_getElem (by omega);have h1:=hf j f hj;rw[ho,hk] at h1
  have hone':(cs'.drop j).take 1=[cs'[j]'(by omega)]:=by
   rw[List.drop_eq_getElem_cons (by omega)];rfl
  rw[hone'] at h1;have hys:ys[j]?=some (ys[j]'(by omega)):=List.getElem?_eq_getElem (by omega);refine ⟨_,_,?_,hys,h1.trans hys⟩;rw[← Go.Deep.add_add,hcell,hv]
theorem JgX {r:Go.Reach} {b0:Nat} {t:TypeId} {fs:Array Field} {v:Value} {d:DataW H} {p:List MemPlace} (hs:P.underlying t=some (.struct fs)) (hone:oneCellFields P fs=true) (hC:P.cellsOf t=fs.size)
  (hv:Value.okWide P w r b0 t v) (h:DataW.Trod enc P w base spare held t v d p) :
  ∃ cs:List Value,v=.agg cs.toArray∧cs.length=fs.size∧∀ (j:Nat) (f:Field),fs[j]?=some f→∃ (v:Value) (y:DataW H × List MemPlace) (n:Nat),cs[j]?=some v∧DataW.trod enc P w base spare held n f.type [v]=some y:=by
 obtain ⟨cs,rfl,hsz⟩:=okWide_struct hs hv;obtain ⟨l⟩:=cs;obtain ⟨fuel,hf⟩:=h;obtain ⟨ys,n,_,hx,_,hlen,hg⟩:=DataW.trod_struct hs hf;have hll:l.length=fs.size:=hsz.trans hC;refine ⟨l,rfl,hll,fun j f hj=>?_⟩;obtain ⟨ho,hk⟩:=hone_of hone j f hj;have hjl:j<fs.size:=(Array.getElem?_eq_some_iff.1 hj).1;have h1:=hg j f hj;rw[ho,hk] at h1;have hcl:(Value.cells (.agg l.toArray)).toList=l:=rfl;rw[hcl] at h1
 have hone':(l.drop j).take 1=[l[j]'(by omega)]:=by
  rw[List.drop_eq_getElem_cons (by omega)];rfl
 rw[hone'] at h1;have hys:ys[j]?=some (ys[j]'(by omega)):=List.getElem?_eq_getElem (by omega);exact ⟨_,_,n,List.getElem?_eq_getElem (by omega),h1.trans hys⟩
end
theorem Jbd {α:Type} (z:α) {n:Nat} {P:Nat→α→Prop} (h:∀ i,i<n→∃ x,P i x):∃ f:Nat→α,∀ i,i<n→P i (f i):=
 ⟨fun i=>if hi:i<n then (h i hi).choose else z,fun i hi=>by
  have:=(h i hi).choose_spec
  simpa[hi] using this⟩
theorem Jdz {α:Type} (z:α) {n:Nat} {P:Nat→α→Prop} (h:∀ i,i<n→∃ x,P i x):∃ l:List α,l.length=n∧(∀ i x,l[i]?=some x→P i x)∧∀ x,x∈l→∃ i,i<n∧P i x:=by
 obtain ⟨f,hf⟩:=Jbd z h;refine ⟨(List.range n).map f,by simp,fun i x hx=>?_,fun x hx=>?_⟩
 ·simp only[List.getElem?_map] at hx
  have hil:i<n:=by
   rcases Nat.lt_or_ge i n with h | h
   ·exact h
   ·rw[List.getElem?_eq_none (by simpa using h)] at hx; simp at hx
  rw[List.getElem?_range hil] at hx;simp only[Option.map_some,Option.some.injEq] at hx;subst hx;exact hf i hil
 ·obtain ⟨i,hi,rfl⟩:=List.mem_map.1 hx;exact ⟨i,by simpa using hi,hf i (by simpa using hi)⟩
theorem JfC {w:World} {a:Addr} {v:Value} (h:w.cell? a=some v):a.spot=none:=by
 unfold World.cell? at h;split at h
 ·cases hs:a.spot with
  | none=>rfl
  | some x=>simp[hs] at h
 ·cases h
theorem Jiy {w:World} {a:Addr} {v:Value} (h:w.cell? a=some v):a.block<w.heap.size:=by
 refine Nat.lt_of_not_le fun hn=>?_
 unfold World.cell? at h;rw[Array.getElem?_eq_none hn] at h;simp at h
theorem Jjh {a:Addr} (h:a.spot=none) (n:Nat):a.add n=⟨a.block,a.off+n,none⟩:=by
 unfold Addr.add;split
 ·next e=>subst e; cases a; simp_all
 ·rfl
theorem JcE {α:Type} (R:α→List Value→Prop) (g:α→List Value) (hg:∀ a,R a (g a)):∀ l:List α,RowOf R l (l.flatMap g)
 | []=>rfl
 | a::l=>⟨g a,_,hg a,by simp,JcE R g hg l⟩
theorem YY {α:Type} (g:α→List Value) (m:Nat) (hm:0<m) (hg:∀ a,(g a).length=m):∀ (l:List α) (i:Nat) (u:Value),(l.flatMap g)[i]?=some u→∃ a,l[i / m]?=some a∧(g a)[i % m]?=some u
 | [],i,u,h=>by simp at h
 | a::l,i,u,h=>by
  rw[List.flatMap_cons] at h
  by_cases hi:i<m
  ·rw[List.getElem?_append_left (by rw[hg]; exact hi)] at h;exact ⟨a,by rw[Nat.div_eq_of_lt hi]; rfl,by rw[Nat.mod_eq_of_lt hi]; exact h⟩
  ·rw[List.getElem?_append_right (by rw[hg]; omega),hg] at h;obtain ⟨b,h1,h2⟩:=YY g m hm hg l (i-m) u h;refine ⟨b,?_,?_⟩
   ·rw[Nat.div_eq_sub_div hm (by omega)];exact h1
   ·rw[Nat.mod_eq_sub_mod (by omega)];exact h2
theorem VL {α:Type} {W:World} {a:Addr} {cap:Nat} {R:α→List Value→Prop} (g:α→List Value) (m:Nat) (hm:0<m) (hgl:∀ a,(g a).length=m) (hg:∀ a,R a (g a)) {l:List α} (hc:l.length≤cap)
  (h:∀ i x,l[i]?=some x→∀ j u,(g x)[j]?=some u→W.cell? (a.add (i*m+j))=some u):SliceOf W (In W) R l (.slice (some a) l.length cap):=by
 refine ⟨some a,cap,l.flatMap g,rfl,hc,JcE R g hg l,?_⟩
 cases l with
 | nil=>exact .inl rfl
 | cons x0 l0=>
  refine .inr ?_;obtain ⟨u0,hu0⟩:∃ u,(g x0)[0]?=some u:=⟨_,List.getElem?_eq_getElem (by rw[hgl]; exact hm)⟩
  have h0:=h 0 x0 rfl 0 u0 hu0;have h0':W.cell? a=some u0:=by simpa[Addr.add] using h0
  have hsp:=JfC h0';refine ⟨a.block,a.off,by rw[← hsp],Jiy h0',fun j u hj=>?_⟩;obtain ⟨x,hx,hu⟩:=YY g m hm hgl _ _ _ hj;have h1:=h _ x hx _ u hu;rw[Jjh hsp,show j / m*m+j % m=j by rw[Nat.mul_comm]; exact Nat.div_add_mod j m] at h1;exact h1
theorem JfD {H:Type} {enc:TypeId × Value→H} {w:World} {base fuel:Nat} {spare:Nat→Bool} {held:Bool} {v:Value} {x:DataW H × List MemPlace}
  (hf:DataW.trod enc prog w base spare held fuel 22 [v]=some x) :
  ∃ (la:Option Addr) (lc:Nat) (l:List (List UInt8 × Int)),v=.slice la l.length lc∧LabsAt w (.slice la l.length lc) l:=by
 rcases VY underlying22 underlying91 (by kernel_rfl) (by kernel_rfl) hf with ⟨hcs,hx⟩ | ⟨a',len',cap',m,D,Pl,hcs,_,hl,hm,hmm,hx,hi⟩
 ·simp at hcs;subst hcs;exact ⟨none,0,[],rfl,none,0,[],rfl,Nat.le_refl _,rfl,.inl rfl⟩
 ·simp at hcs;subst hcs;have hlm:len'≤m:=by rw[hmm]; split <;> omega
  have key:∀ i,i<len'→∃ x:List UInt8 × Int,w.cell? (a'.add (i*2+0))=some (.string (bs x.1))∧w.cell? (a'.add (i*2+1))=some (.int .i64 x.2):=by
   intro i hil;obtain ⟨ys,n,_,_,hyl,hg⟩:=hi i (by omega);obtain ⟨v0,y0,c0,_,t0⟩:=hg 0 _ rfl;obtain ⟨v1,y1,c1,_,t1⟩:=hg 1 _ rfl;obtain ⟨s0,e0,_,w0⟩:=DataW.trod_string underlying9 t0;obtain ⟨n1,e1,_,w1⟩:=DataW.trod_int underlying3 t1;simp at e0 e1;obtain ⟨l0,rfl⟩:=JdC s0;subst e0 e1;exact ⟨(l0,n1),c0,c1⟩
  obtain ⟨l,hll,hl1,_⟩:=Jdz (([],0):List UInt8 × Int) key;subst hll;refine ⟨some a',cap',l,rfl,?_⟩;unfold LabsAt;refine VL (W:=w) (a:=a') (cap:=cap') (R:=fun (a:List UInt8 × Int) c=>c=[.string (bs a.1),.int .i64 a.2]) (fun x=>[.string (bs x.1),.int .i64 x.2]) 2 (by omega) (fun _=>rfl) (fun _=>rfl) hl fun i x hx j u hu=>?_
  obtain ⟨c0,c1⟩:=hl1 i x hx
  match j,hu with
  | 0,hu=>exact c0.trans hu
  | 1,hu=>exact c1.trans hu
theorem cellsStr:prog.cellsOf 9=1:=by kernel_rfl
theorem JdA {H:Type} {enc:TypeId × Value→H} {w:World} {base fuel:Nat} {spare:Nat→Bool} {held:Bool} {v:Value} {x:DataW H × List MemPlace}
  (hf:DataW.trod enc prog w base spare held fuel 23 [v]=some x) :
  ∃ (la:Option Addr) (lc:Nat) (l:List (List UInt8)),v=.slice la l.length lc∧WordsAt w (.slice la l.length lc) l:=by
 rcases Go.ChangeShapes.open_strings underlying23 underlying9 cellsStr hf with ⟨hcs,_⟩ | ⟨a,len,cap,zs,hcs,_,hl,hm,hz,_,hc,hwf⟩
 ·simp at hcs;subst hcs;exact ⟨none,0,[],rfl,none,0,[],rfl,Nat.le_refl _,rfl,.inl rfl⟩
 ·simp at hcs;subst hcs;have hzl:len≤zs.length:=by rw[hz]; split <;> omega
  have htl:((zs.take len).map fun s=>s.data.toList).length=len:=by simp; omega
  refine ⟨some a,cap,(zs.take len).map fun s=>s.data.toList,by rw[htl],?_⟩;unfold WordsAt;refine VL (W:=w) (a:=a) (cap:=cap) (R:=fun (a:List UInt8) c=>c=[.string (bs a)]) (fun x=>[.string (bs x)]) 1 (by omega) (fun _=>rfl) (fun _=>rfl) (by rw[htl]; exact hl) fun i x hx j u hu=>?_
  have hi:i<len:=by
   have:=(List.getElem?_eq_some_iff.1 hx).1;rw[htl] at this;exact this
  match j,hu with
  | 0,hu=>
   rw[Nat.mul_one,Nat.add_zero,hc i (by omega)];have hzi:zs[i]?=some zs[i]:=List.getElem?_eq_getElem (by omega);rw[List.getElem?_map,List.getElem?_take_of_lt hi,hzi] at hx;rw[List.getD_eq_getElem?_getD,hzi];obtain rfl:zs[i].data.toList=x:=by simpa using hx
   exact hu
theorem JdB {H:Type} {enc:TypeId × Value→H} {w:World} {base:Nat} {spare:Nat→Bool} {held:Bool} {r:Go.Reach} {b0:Nat} {v:Value} {d:DataW H} {p:List MemPlace}
  (hv:Value.okWide prog w r b0 25 v) (h:DataW.Trod enc prog w base spare held 25 v d p) :
  ∃ (F:FactsM) (la wa:Option Addr) (lc wc:Nat),v=.agg (factsC F (.slice la F.labels.length lc) (.slice wa F.words.length wc))∧LabsAt w (.slice la F.labels.length lc) F.labels∧WordsAt w (.slice wa F.words.length wc) F.words:=by
 obtain ⟨cs,rfl,hlen,hg⟩:=JgX underlying25 (by kernel_rfl) (by kernel_rfl) hv h;obtain ⟨v0,y0,k0,c0,t0⟩:=hg 0 _ rfl;obtain ⟨v1,y1,k1,c1,t1⟩:=hg 1 _ rfl;obtain ⟨v2,y2,k2,c2,t2⟩:=hg 2 _ rfl;obtain ⟨v3,y3,k3,c3,t3⟩:=hg 3 _ rfl;obtain ⟨v4,y4,k4,c4,t4⟩:=hg 4 _ rfl;obtain ⟨v5,y5,k5,c5,t5⟩:=hg 5 _ rfl;obtain ⟨v6,y6,k6,c6,t6⟩:=hg 6 _ rfl;obtain ⟨v7,y7,k7,c7,t7⟩:=hg 7 _ rfl;obtain ⟨v8,y8,k8,c8,t8⟩:=hg 8 _ rfl;obtain ⟨v9,y9,k9,c9,t9⟩:=hg 9 _ rfl;obtain ⟨v10,y10,k10,c10,t10⟩:=hg 10 _ rfl;obtain ⟨v11,y11,k11,c11,t11⟩:=hg 11 _ rfl;clear hg hv h;obtain ⟨la,lc,ll,rfl,hlab⟩:=JfD t0;obtain ⟨wa,wc,wl,rfl,hwd⟩:=JdA t11;obtain ⟨n1,e1,_,_⟩:=DataW.trod_int underlying3 t1;obtain ⟨n2,e2,_,_⟩:=DataW.trod_int underlying3 t2;obtain ⟨n3,e3,_,_⟩:=DataW.trod_int underlying3 t3;obtain ⟨n4,e4,_,_⟩:=DataW.trod_int underlying3 t4;obtain ⟨n5,e5,_,_⟩:=DataW.trod_int underlying3 t5;obtain ⟨n6,e6,_,_⟩:=DataW.trod_int underlying3 t6;obtain ⟨n7,e7,_,_⟩:=DataW.trod_int underlying3 t7;obtain ⟨n8,e8,_,_⟩:=DataW.trod_int underlying3 t8;obtain ⟨b9,e9,_⟩:=DataW.trod_bool underlying4 t9;obtain ⟨b10,e10,_⟩:=DataW.trod_bool underlying4 t10;simp only[List.cons.injEq,and_true] at e1 e2 e3 e4 e5 e6 e7 e8 e9 e10;subst e1 e2 e3 e4 e5 e6 e7 e8 e9 e10
 match cs,hlen with
 | [u0,u1,u2,u3,u4,u5,u6,u7,u8,u9,u10,u11],_=>
  simp only[List.getElem?_cons_zero,List.getElem?_cons_succ,Option.some.injEq] at c0 c1 c2 c3 c4 c5 c6 c7 c8 c9 c10 c11;subst c0 c1 c2 c3 c4 c5 c6 c7 c8 c9 c10 c11;exact ⟨⟨ll,n1,n2,n3,n4,n5,n6,n7,n8,b9,b10,wl⟩,la,wa,lc,wc,rfl,hlab,hwd⟩
end Go.Proofs.YtncanmdgdflnpaaGreatDoor
