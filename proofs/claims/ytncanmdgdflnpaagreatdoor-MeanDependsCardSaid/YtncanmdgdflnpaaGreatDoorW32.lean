import Derived.Deep.Slices
import Derived.Deep.Fields
import Derived.SliceStrings
import Derived.ChangeSlices
import Derived.ChangeMaps5
import Derived.Test.YtncanmdgdflnpaaGreatDoorW31
namespace Go.Proofs.YtncanmdgdflnpaaGreatDoor
open Go.ChangeShapes Go.WideShapes Go.RowKit Go.Deep
open Go.Joins
open _root_.Go.Proofs.Tryz
set_option linter.all false
set_option maxRecDepth 100000
set_option maxHeartbeats 32000000
section
variable {H:Type} {enc:TypeId × Value→H} {P:Program} {w:World} {base:Nat} {spare:Nat→Bool} {held:Bool}
theorem V2 {t e:TypeId} {fs:Array Field} {fuel:Nat} {cs:List Value} {x:DataW H × List MemPlace} (ht:P.underlying t=some (.slice e)) (he:P.underlying e=some (.struct fs))
  (hone:oneCellFields P fs=true) (hC:P.cellsOf e=fs.size) (h:DataW.trod enc P w base spare held fuel t cs=some x) :
  (cs=[.slice none 0 0]∧x=(.nil,[]))∨
  ∃ (a:Addr) (len cap m:Nat) (D:Nat→DataW H) (Pl:Nat→List MemPlace),cs=[.slice (some a) len cap]∧base≤a.block∧len≤cap∧cap≤maxLen∧m=(if spare a.block then cap else len)∧
   x=(.slice ((List.range len).map D) ((List.range (m-len)).map fun j=>D (len+j)),MemPlace.row a (m*fs.size)++(List.range m).flatMap Pl)∧
   ∀ i,i<m→∃ (ys:List (DataW H × List MemPlace)) (n:Nat),D i=.agg (ys.map (·.1))∧Pl i=ys.flatMap (·.2)∧ys.length=fs.size∧
    ∀ (j:Nat) (f:Field),fs[j]?=some f→∃ (v:Value) (y:DataW H × List MemPlace),w.cell? (a.add (i*fs.size+j))=some v∧ys[j]?=some y∧DataW.trod enc P w base spare held n f.type [v]=some y:=by
 rcases open_slice ht h with h0 | ⟨a,len,cap,m,n,D,Pl,hcs,hb,hl,hm,hmm,hx,hi⟩
 ·exact .inl h0
 ·refine .inr ⟨a,len,cap,m,D,Pl,hcs,hb,hl,hm,hmm,by rw[hC] at hx; exact hx,fun i him=>?_⟩;obtain ⟨cs',hc,ht'⟩:=hi i him;rw[hC] at hc;obtain ⟨ys,n',hn',hy,hlen,hyl,hf⟩:=DataW.trod_struct he ht';obtain ⟨_,hcl,hat⟩:=World.cells?_some hc;simp only[Prod.mk.injEq] at hy;refine ⟨ys,n',hy.1,hy.2,hyl,fun j f hj=>?_⟩;obtain ⟨ho,hk⟩:=hone_of hone j f hj;have hjl:j<fs.size:=(Array.getElem?_eq_some_iff.1 hj).1;have hcell:=hat j hjl;have hv:cs'[j]?=some (cs'[j]'(by omega)):=List.getElem?_eq_getElem (by omega);have h1:=hf j f hj;rw[ho,hk] at h1
  have hone':(cs'.drop j).take 1=[cs'[j]'(by omega)]:=by
   rw[List.drop_eq_getElem_cons (by omega)];rfl
  rw[hone'] at h1;have hys:ys[j]?=some (ys[j]'(by omega)):=List.getElem?_eq_getElem (by omega);refine ⟨_,_,?_,hys,h1.trans hys⟩;rw[← Go.Deep.add_add,hcell,hv]
theorem JhI {r:Go.Reach} {b0:Nat} {t:TypeId} {fs:Array Field} {v:Value} {d:DataW H} {p:List MemPlace} (hs:P.underlying t=some (.struct fs)) (hone:oneCellFields P fs=true) (hC:P.cellsOf t=fs.size)
  (hv:Value.okWide P w r b0 t v) (h:DataW.Trod enc P w base spare held t v d p) :
  ∃ cs:List Value,v=.agg cs.toArray∧cs.length=fs.size∧∀ (j:Nat) (f:Field),fs[j]?=some f→∃ (v:Value) (y:DataW H × List MemPlace) (n:Nat),cs[j]?=some v∧DataW.trod enc P w base spare held n f.type [v]=some y:=by
 obtain ⟨cs,rfl,hsz⟩:=okWide_struct hs hv;obtain ⟨l⟩:=cs;obtain ⟨fuel,hf⟩:=h;obtain ⟨ys,n,_,hx,_,hlen,hg⟩:=DataW.trod_struct hs hf;have hll:l.length=fs.size:=hsz.trans hC;refine ⟨l,rfl,hll,fun j f hj=>?_⟩;obtain ⟨ho,hk⟩:=hone_of hone j f hj;have hjl:j<fs.size:=(Array.getElem?_eq_some_iff.1 hj).1;have h1:=hg j f hj;rw[ho,hk] at h1;have hcl:(Value.cells (.agg l.toArray)).toList=l:=rfl;rw[hcl] at h1
 have hone':(l.drop j).take 1=[l[j]'(by omega)]:=by
  rw[List.drop_eq_getElem_cons (by omega)];rfl
 rw[hone'] at h1;have hys:ys[j]?=some (ys[j]'(by omega)):=List.getElem?_eq_getElem (by omega);exact ⟨_,_,n,List.getElem?_eq_getElem (by omega),h1.trans hys⟩
end
theorem Jbj {α:Type} (z:α) {n:Nat} {P:Nat→α→Prop} (h:∀ i,i<n→∃ x,P i x):∃ f:Nat→α,∀ i,i<n→P i (f i):=
 ⟨fun i=>if hi:i<n then (h i hi).choose else z,fun i hi=>by
  have:=(h i hi).choose_spec
  simpa[hi] using this⟩
theorem Jeb {α:Type} (z:α) {n:Nat} {P:Nat→α→Prop} (h:∀ i,i<n→∃ x,P i x):∃ l:List α,l.length=n∧(∀ i x,l[i]?=some x→P i x)∧∀ x,x∈l→∃ i,i<n∧P i x:=by
 obtain ⟨f,hf⟩:=Jbj z h;refine ⟨(List.range n).map f,by simp,fun i x hx=>?_,fun x hx=>?_⟩
 ·simp only[List.getElem?_map] at hx
  have hil:i<n:=by
   rcases Nat.lt_or_ge i n with h | h
   ·exact h
   ·rw[List.getElem?_eq_none (by simpa using h)] at hx; simp at hx
  rw[List.getElem?_range hil] at hx;simp only[Option.map_some,Option.some.injEq] at hx;subst hx;exact hf i hil
 ·obtain ⟨i,hi,rfl⟩:=List.mem_map.1 hx;exact ⟨i,by simpa using hi,hf i (by simpa using hi)⟩
theorem JfQ {w:World} {a:Addr} {v:Value} (h:w.cell? a=some v):a.spot=none:=by
 unfold World.cell? at h;split at h
 ·cases hs:a.spot with
  | none=>rfl
  | some x=>simp[hs] at h
 ·cases h
theorem Jjn {w:World} {a:Addr} {v:Value} (h:w.cell? a=some v):a.block<w.heap.size:=by
 refine Nat.lt_of_not_le fun hn=>?_
 unfold World.cell? at h;rw[Array.getElem?_eq_none hn] at h;simp at h
theorem Jkk {a:Addr} (h:a.spot=none) (n:Nat):a.add n=⟨a.block,a.off+n,none⟩:=by
 unfold Addr.add;split
 ·next e=>subst e; cases a; simp_all
 ·rfl
theorem Ys {α:Type} (R:α→List Value→Prop) (g:α→List Value) (hg:∀ a,R a (g a)):∀ l:List α,RowOf R l (l.flatMap g)
 | []=>rfl
 | a::l=>⟨g a,_,hg a,by simp,Ys R g hg l⟩
theorem Y3 {α:Type} (g:α→List Value) (m:Nat) (hm:0<m) (hg:∀ a,(g a).length=m):∀ (l:List α) (i:Nat) (u:Value),(l.flatMap g)[i]?=some u→∃ a,l[i / m]?=some a∧(g a)[i % m]?=some u
 | [],i,u,h=>by simp at h
 | a::l,i,u,h=>by
  rw[List.flatMap_cons] at h
  by_cases hi:i<m
  ·rw[List.getElem?_append_left (by rw[hg]; exact hi)] at h;exact ⟨a,by rw[Nat.div_eq_of_lt hi]; rfl,by rw[Nat.mod_eq_of_lt hi]; exact h⟩
  ·rw[List.getElem?_append_right (by rw[hg]; omega),hg] at h;obtain ⟨b,h1,h2⟩:=Y3 g m hm hg l (i-m) u h;refine ⟨b,?_,?_⟩
   ·rw[Nat.div_eq_sub_div hm (by omega)];exact h1
   ·rw[Nat.mod_eq_sub_mod (by omega)];exact h2
theorem VM {α:Type} {W:World} {a:Addr} {cap:Nat} {R:α→List Value→Prop} (g:α→List Value) (m:Nat) (hm:0<m) (hgl:∀ a,(g a).length=m) (hg:∀ a,R a (g a)) {l:List α} (hc:l.length≤cap)
  (h:∀ i x,l[i]?=some x→∀ j u,(g x)[j]?=some u→W.cell? (a.add (i*m+j))=some u):SliceOf W (In W) R l (.slice (some a) l.length cap):=by
 refine ⟨some a,cap,l.flatMap g,rfl,hc,Ys R g hg l,?_⟩
 cases l with
 | nil=>exact .inl rfl
 | cons x0 l0=>
  refine .inr ?_;obtain ⟨u0,hu0⟩:∃ u,(g x0)[0]?=some u:=⟨_,List.getElem?_eq_getElem (by rw[hgl]; exact hm)⟩
  have h0:=h 0 x0 rfl 0 u0 hu0;have h0':W.cell? a=some u0:=by simpa[Addr.add] using h0
  have hsp:=JfQ h0';refine ⟨a.block,a.off,by rw[← hsp],Jjn h0',fun j u hj=>?_⟩;obtain ⟨x,hx,hu⟩:=Y3 g m hm hgl _ _ _ hj;have h1:=h _ x hx _ u hu;rw[Jkk hsp,show j / m*m+j % m=j by rw[Nat.mul_comm]; exact Nat.div_add_mod j m] at h1;exact h1
theorem JfR {H:Type} {enc:TypeId × Value→H} {w:World} {base fuel:Nat} {spare:Nat→Bool} {held:Bool} {v:Value} {x:DataW H × List MemPlace}
  (hf:DataW.trod enc prog w base spare held fuel 22 [v]=some x) :
  ∃ (la:Option Addr) (lc:Nat) (l:List (List UInt8 × Int)),v=.slice la l.length lc∧LabsAt w (.slice la l.length lc) l:=by
 rcases V2 underlying22 underlying91 (by kernel_rfl) (by kernel_rfl) hf with ⟨hcs,hx⟩ | ⟨a',len',cap',m,D,Pl,hcs,_,hl,hm,hmm,hx,hi⟩
 ·simp at hcs;subst hcs;exact ⟨none,0,[],rfl,none,0,[],rfl,Nat.le_refl _,rfl,.inl rfl⟩
 ·simp at hcs;subst hcs;have hlm:len'≤m:=by rw[hmm]; split <;> omega
  have key:∀ i,i<len'→∃ x:List UInt8 × Int,w.cell? (a'.add (i*2+0))=some (.string (bs x.1))∧w.cell? (a'.add (i*2+1))=some (.int .i64 x.2):=by
   intro i hil;obtain ⟨ys,n,_,_,hyl,hg⟩:=hi i (by omega);obtain ⟨v0,y0,c0,_,t0⟩:=hg 0 _ rfl;obtain ⟨v1,y1,c1,_,t1⟩:=hg 1 _ rfl;obtain ⟨s0,e0,_,w0⟩:=DataW.trod_string underlying9 t0;obtain ⟨n1,e1,_,w1⟩:=DataW.trod_int underlying3 t1;simp at e0 e1;obtain ⟨l0,rfl⟩:=Jeq s0;subst e0 e1;exact ⟨(l0,n1),c0,c1⟩
  obtain ⟨l,hll,hl1,_⟩:=Jeb (([],0):List UInt8 × Int) key;subst hll;refine ⟨some a',cap',l,rfl,?_⟩;unfold LabsAt;refine VM (W:=w) (a:=a') (cap:=cap') (R:=fun (a:List UInt8 × Int) c=>c=[.string (bs a.1),.int .i64 a.2]) (fun x=>[.string (bs x.1),.int .i64 x.2]) 2 (by omega) (fun _=>rfl) (fun _=>rfl) hl fun i x hx j u hu=>?_
  obtain ⟨c0,c1⟩:=hl1 i x hx
  match j,hu with
  | 0,hu=>exact c0.trans hu
  | 1,hu=>exact c1.trans hu
theorem cellsStr:prog.cellsOf 9=1:=by kernel_rfl
theorem Jec {H:Type} {enc:TypeId × Value→H} {w:World} {base fuel:Nat} {spare:Nat→Bool} {held:Bool} {v:Value} {x:DataW H × List MemPlace}
  (hf:DataW.trod enc prog w base spare held fuel 23 [v]=some x) :
  ∃ (la:Option Addr) (lc:Nat) (l:List (List UInt8)),v=.slice la l.length lc∧WordsAt w (.slice la l.length lc) l:=by
 rcases Go.ChangeShapes.open_strings underlying23 underlying9 cellsStr hf with ⟨hcs,_⟩ | ⟨a,len,cap,zs,hcs,_,hl,hm,hz,_,hc,hwf⟩
 ·simp at hcs;subst hcs;exact ⟨none,0,[],rfl,none,0,[],rfl,Nat.le_refl _,rfl,.inl rfl⟩
 ·simp at hcs;subst hcs;have hzl:len≤zs.length:=by rw[hz]; split <;> omega
  have htl:((zs.take len).map fun s=>s.data.toList).length=len:=by simp; omega
  refine ⟨some a,cap,(zs.take len).map fun s=>s.data.toList,by rw[htl],?_⟩;unfold WordsAt;refine VM (W:=w) (a:=a) (cap:=cap) (R:=fun (a:List UInt8) c=>c=[.string (bs a)]) (fun x=>[.string (bs x)]) 1 (by omega) (fun _=>rfl) (fun _=>rfl) (by rw[htl]; exact hl) fun i x hx j u hu=>?_
  have hi:i<len:=by
   have:=(List.getElem?_eq_some_iff.1 hx).1;rw[htl] at this;exact this
  match j,hu with
  | 0,hu=>
   rw[Nat.mul_one,Nat.add_zero,hc i (by omega)];have hzi:zs[i]?=some zs[i]:=List.getElem?_eq_getElem (by omega);rw[List.getElem?_map,List.getElem?_take_of_lt hi,hzi] at hx;rw[List.getD_eq_getElem?_getD,hzi];obtain rfl:zs[i].data.toList=x:=by simpa using hx
   exact hu
theorem ZG {H:Type} {enc:TypeId × Value→H} {w:World} {base:Nat} {spare:Nat→Bool} {held:Bool} {r:Go.Reach} {b0:Nat} {v:Value} {d:DataW H} {p:List MemPlace}
  (hv:Value.okWide prog w r b0 25 v) (h:DataW.Trod enc prog w base spare held 25 v d p) :
  ∃ (F:FactsM) (la wa:Option Addr) (lc wc:Nat),v=.agg (factsC F (.slice la F.labels.length lc) (.slice wa F.words.length wc))∧LabsAt w (.slice la F.labels.length lc) F.labels∧WordsAt w (.slice wa F.words.length wc) F.words:=by
 obtain ⟨cs,rfl,hlen,hg⟩:=JhI underlying25 (by kernel_rfl) (by kernel_rfl) hv h;obtain ⟨v0,y0,k0,c0,t0⟩:=hg 0 _ rfl;obtain ⟨v1,y1,k1,c1,t1⟩:=hg 1 _ rfl;obtain ⟨v2,y2,k2,c2,t2⟩:=hg 2 _ rfl;obtain ⟨v3,y3,k3,c3,t3⟩:=hg 3 _ rfl;obtain ⟨v4,y4,k4,c4,t4⟩:=hg 4 _ rfl;obtain ⟨v5,y5,k5,c5,t5⟩:=hg 5 _ rfl;obtain ⟨v6,y6,k6,c6,t6⟩:=hg 6 _ rfl;obtain ⟨v7,y7,k7,c7,t7⟩:=hg 7 _ rfl;obtain ⟨v8,y8,k8,c8,t8⟩:=hg 8 _ rfl;obtain ⟨v9,y9,k9,c9,t9⟩:=hg 9 _ rfl;obtain ⟨v10,y10,k10,c10,t10⟩:=hg 10 _ rfl;obtain ⟨v11,y11,k11,c11,t11⟩:=hg 11 _ rfl;clear hg hv h;obtain ⟨la,lc,ll,rfl,hlab⟩:=JfR t0;obtain ⟨wa,wc,wl,rfl,hwd⟩:=Jec t11;obtain ⟨n1,e1,_,_⟩:=DataW.trod_int underlying3 t1;obtain ⟨n2,e2,_,_⟩:=DataW.trod_int underlying3 t2;obtain ⟨n3,e3,_,_⟩:=DataW.trod_int underlying3 t3;obtain ⟨n4,e4,_,_⟩:=DataW.trod_int underlying3 t4;obtain ⟨n5,e5,_,_⟩:=DataW.trod_int underlying3 t5;obtain ⟨n6,e6,_,_⟩:=DataW.trod_int underlying3 t6;obtain ⟨n7,e7,_,_⟩:=DataW.trod_int underlying3 t7;obtain ⟨n8,e8,_,_⟩:=DataW.trod_int underlying3 t8;obtain ⟨b9,e9,_⟩:=DataW.trod_bool underlying4 t9;obtain ⟨b10,e10,_⟩:=DataW.trod_bool underlying4 t10;simp only[List.cons.injEq,and_true] at e1 e2 e3 e4 e5 e6 e7 e8 e9 e10;subst e1 e2 e3 e4 e5 e6 e7 e8 e9 e10
 match cs,hlen with
 | [u0,u1,u2,u3,u4,u5,u6,u7,u8,u9,u10,u11],_=>
  simp only[List.getElem?_cons_zero,List.getElem?_cons_succ,Option.some.injEq] at c0 c1 c2 c3 c4 c5 c6 c7 c8 c9 c10 c11;subst c0 c1 c2 c3 c4 c5 c6 c7 c8 c9 c10 c11;exact ⟨⟨ll,n1,n2,n3,n4,n5,n6,n7,n8,b9,b10,wl⟩,la,wa,lc,wc,rfl,hlab,hwd⟩
end Go.Proofs.YtncanmdgdflnpaaGreatDoor
namespace Go.Proofs.YtncanmdgdflnpaaGreatDoor
open _root_.Go.Proofs.Tryz
set_option linter.all false
set_option maxRecDepth 100000
set_option maxHeartbeats 32000000
def TkB (t:Tok):Prop:=(0≤t.n∧t.n≤1125899906842624)∧(t.kind=2→textB t.text=true)
theorem Jbk:∀ (f:Nat) (l w:List UInt8),textF f l=some w→w.all (fun c=>decide (32≤c.toNat)&&decide (c.toNat≤126)&&c !=34&&c !=92)=true
 | 0,l,w,h=>by cases h
 | f+1,[],w,h=>by cases h
 | f+1,c::r,w,h=>by
  rw[textF] at h;split at h
  ·injection h with h;subst h;rfl
  ·rename_i hc;split at h
   ·cases h
   ·rename_i hd
    cases hr:textF f r with
    | none=>rw[hr] at h; cases h
    | some v=>
     rw[hr] at h;injection h with h;subst h;have ih:=Jbk f r v hr;simp only[not_or] at hd;rw[List.all_cons,ih];simp[hc,hd.2.2];omega
theorem JhJ {l:List UInt8} {t:Tok} {n:Nat} (h:tokF l=some (t,n)):TkB t:=by
 have hf:=Yw h;refine ⟨⟨hf.2.2.2.1,hf.2.2.2.2.1⟩,fun hk=>?_⟩
 cases l with
 | nil=>cases h
 | cons c r=>
  simp only[tokF] at h;split at h
  ·split at h
   ·injection h with h;injection h with h1 h2;subst h1;simp at hk
   ·cases h
  ·split at h
   ·cases hp:parseI (wordL (c::r)) 0 1125899906842624 with
    | none=>rw[hp] at h; cases h
    | some m=>
     rw[hp] at h;injection h with h;injection h with h1 h2;subst h1;simp at hk
   ·split at h
    ·cases hp:textF 25 r with
     | none=>rw[hp] at h; cases h
     | some w=>
      rw[hp] at h;injection h with h;injection h with h1 h2;subst h1;have h3:=Jbk _ _ _ hp;have h4:=(Vc _ _ _ hp).1;unfold textB;rw[h3];simp;omega
    ·split at h
     ·cases h
     ·injection h with h;injection h with h1 h2;subst h1;simp at hk
theorem Jkl:∀ (l:List UInt8) (k:Nat) (ts:List Tok),sc k l=.ok ts→∀ t∈ts,TkB t:=by
 refine ZX (P:=fun k l=>∀ ts,sc k l=.ok ts→∀ t∈ts,TkB t) ?_ ?_ ?_ ?_
 ·intro k ts h;rw[JcB] at h;injection h with h;subst h;intro t ht;obtain rfl:t=_:=by simpa using ht
  exact ⟨⟨by simp,by simp⟩,fun h=>by simp at h⟩
 ·intro k c r hs ih ts h;rw[JgB k r hs] at h;exact ih ts h
 ·intro k c r hs ht ts h;rw[ZV k r hs ht] at h
  cases h
 ·intro k c r t n hs ht h1 hn ih ts h;rw[ZW k r hs ht] at h;obtain ⟨rs,hr,rfl⟩:=JbI h;intro x hx
  rcases List.mem_cons.1 hx with rfl | hx
  ·have h4:TkB t:=JhJ ht;exact h4
  ·exact ih rs hr x hx
def Tk (r:List Tok):Prop:=∀ t∈r,TkB t
theorem Tk.tail {r:List Tok} (h:Tk r):Tk r.tail:=fun t ht=>h t (List.mem_of_mem_tail ht)
theorem Tk.hd {r:List Tok} (h:Tk r):TkB (hd r):=by
 cases r with
 | nil=>exact ⟨⟨by decide,by decide⟩,fun h=>absurd h (by decide)⟩
 | cons a l=>exact h a (by simp)
theorem Ka {k:Int} {s:List UInt8} {r r':List Tok} (hs:Tk r) (h:acc k s r=some r'):Tk r':=by
 unfold acc at h;split at h
 ·injection h with h;subst h;exact hs.tail
 ·cases h
theorem JM {k:Int} {s:List UInt8} {r r':List Tok} {u:Unit} (hs:Tk r) (h:accept k s r=.ok u r'):Tk r':=by
 unfold accept at h;split at h
 ·rename_i r1 h1;injection h with h0 h;subst h;exact Ka hs h1
 ·cases h
theorem VN {r r':List Tok} {nm:List UInt8 × Int} (hs:Tk r) (h:identP r=.ok nm r'):Tk r'∧identB nm.1=true:=by
 unfold identP at h;split at h
 ·rename_i hc;injection h with h0 h;subst h h0;exact ⟨hs.tail,hc.2⟩
 ·cases h
theorem Jdi {r r':List Tok} {s:List UInt8} (hs:Tk r) (h:textP r=.ok s r'):Tk r'∧textB s=true:=by
 unfold textP at h;split at h
 ·rename_i hc;injection h with h0 h;subst h h0;exact ⟨hs.tail,hs.hd.2 hc⟩
 ·cases h
theorem ZH {r r':List Tok} {s:List UInt8} (hs:Tk r) (h:quotedP r=.ok s r'):Tk r'∧textB s=true:=by
 unfold quotedP at h;obtain ⟨_,r1,h1,h⟩:=Jd h;obtain ⟨_,r2,h2,h⟩:=Jd h;obtain ⟨_,r3,h3,h⟩:=Jd h;injection h with h0 h;subst h h0;have s1:=JM hs h1;obtain ⟨s2,g2⟩:=Jdi s1 h2;exact ⟨JM s2 h3,g2⟩
theorem JfS {r r':List Tok} {t:Int} (hs:Tk r) (h:typP r=.ok t r'):Tk r'∧typeB t=true:=by
 unfold typP at h;split at h
 ·rename_i r1 h1;injection h with h0 h;subst h h0;exact ⟨Ka hs h1,rfl⟩
 ·split at h
  ·rename_i r1 h1;injection h with h0 h;subst h h0;exact ⟨Ka hs h1,rfl⟩
  ·cases h
theorem JfT {r r':List Tok} {t:Int} (hs:Tk r) (h:actP r=.ok t r'):Tk r'∧actB t=true:=by
 unfold actP at h
 repeat' split at h
 all_goals first
  | (rename_i r1 h1; injection h with h0 h; subst h h0; exact ⟨Ka hs h1,rfl⟩)
  | cases h
def ar0 (k:Int):Nat:=if k≤5 then 0 else if k=6∨k=7 then 1 else if k=18 then 3 else 2
def PrF (k n:Int) (s:List UInt8) (m:Nat):Prop:=0≤k∧k<21∧(k=0→0≤n∧n≤1125899906842624)∧(k=1→n=0∨n=1)∧(k≠0→k≠1→n=0)∧(k=3→(factI s).isSome=true)∧
 (k=4∨k=5→textB s=true)∧(k≠2→k≠3→k≠4→k≠5→k≠19→k≠20→s=[])∧(k≠20→m=ar0 k)
mutual
def PrN:Nd→Prop
 | .mk k n s o l=>PrF k n s l.length∧PrL l
def PrL:List Nd→Prop
 | []=>True
 | a::l=>PrN a∧PrL l
end
theorem KX {k n:Int} {s:List UInt8} {o:Int} {l:List Nd}:PrN (.mk k n s o l)↔PrF k n s l.length∧PrL l:=by rw[PrN]
theorem J1 {a:Nd} {l:List Nd}:PrL (a::l)↔PrN a∧PrL l:=by rw[PrL]
theorem Kn:PrL []:=by unfold PrL; trivial
theorem JfU {l:List Nd} {a:Nd} (h:PrL l) (ha:PrN a):PrL (l++[a]):=by
 induction l with
 | nil=>exact J1.2 ⟨ha,Kn⟩
 | cons x r ih=>
  have:=J1.1 h;exact J1.2 ⟨this.1,ih this.2⟩
theorem Jjo {a:Nd} (h:PrN a) (o:Int):PrN (.mk a.kind a.num a.name o a.kids):=by cases a; rw[KX] at *; exact h
theorem JfV {k:Int} (h:6≤k∧k≤18):PrF k 0 [] (ar0 k):=⟨by omega,by omega,fun h=>by omega,fun h=>by omega,fun _ _=>rfl,fun h=>by omega,fun h=>by omega,fun _ _ _ _ _ _=>rfl,fun _=>rfl⟩
theorem pr1 {k o:Int} {a:Nd} (hk:k=6∨k=7) (ha:PrN a):PrN (.mk k 0 [] o [a]):=by
 have h:=JfV (k:=k) (by omega);unfold ar0 at h;rw[if_neg (by omega),if_pos hk] at h;exact KX.2 ⟨h,J1.2 ⟨ha,Kn⟩⟩
theorem pr2 {k o:Int} {a b:Nd} (hk:8≤k∧k≤17) (ha:PrN a) (hb:PrN b):PrN (.mk k 0 [] o [a,b]):=by
 have h:=JfV (k:=k) (by omega);unfold ar0 at h;rw[if_neg (by omega),if_neg (by omega),if_neg (by omega)] at h;exact KX.2 ⟨h,J1.2 ⟨ha,J1.2 ⟨hb,Kn⟩⟩⟩
theorem pr3 {o:Int} {a b c:Nd} (ha:PrN a) (hb:PrN b) (hc:PrN c):PrN (.mk 18 0 [] o [a,b,c]):=
 KX.2 ⟨JfV (k:=18) (by decide),J1.2 ⟨ha,J1.2 ⟨hb,J1.2 ⟨hc,Kn⟩⟩⟩⟩
theorem prLet {o:Int} {s:List UInt8} {a b:Nd} (ha:PrN a) (hb:PrN b):PrN (.mk 19 0 s o [a,b]):=
 KX.2 ⟨⟨by decide,by decide,fun h=>absurd h (by decide),fun h=>absurd h (by decide),fun _ _=>rfl,fun h=>absurd h (by decide),fun h=>absurd h (by decide),fun _ _ _ _ h=>absurd rfl h,fun _=>rfl⟩,J1.2 ⟨ha,J1.2 ⟨hb,Kn⟩⟩⟩
theorem prCall {o:Int} {s:List UInt8} {l:List Nd} (hl:PrL l):PrN (.mk 20 0 s o l):=
 KX.2 ⟨⟨by decide,by decide,fun h=>absurd h (by decide),fun h=>absurd h (by decide),fun _ _=>rfl,fun h=>absurd h (by decide),fun h=>absurd h (by decide),fun _ _ _ _ _ h=>absurd rfl h,fun h=>absurd rfl h⟩,hl⟩
theorem prVar {o:Int} {s:List UInt8}:PrN (.mk 2 0 s o []):=
 KX.2 ⟨⟨by decide,by decide,fun h=>absurd h (by decide),fun h=>absurd h (by decide),fun _ _=>rfl,fun h=>absurd h (by decide),fun h=>absurd h (by decide),fun h=>absurd rfl h,fun _=>rfl⟩,Kn⟩
theorem prInt {o n:Int} (h:0≤n∧n≤1125899906842624):PrN (.mk 0 n [] o []):=
 KX.2 ⟨⟨by decide,by decide,fun _=>h,fun h=>absurd h (by decide),fun h=>absurd rfl h,fun h=>absurd h (by decide),fun h=>absurd h (by decide),fun _ _ _ _ _ _=>rfl,fun _=>rfl⟩,Kn⟩
theorem prBool {o n:Int} (h:n=0∨n=1):PrN (.mk 1 n [] o []):=
 KX.2 ⟨⟨by decide,by decide,fun h=>absurd h (by decide),fun _=>h,fun _ h=>absurd rfl h,fun h=>absurd h (by decide),fun h=>absurd h (by decide),fun _ _ _ _ _ _=>rfl,fun _=>rfl⟩,Kn⟩
theorem prFact {o:Int} {s:List UInt8} (h:(factI s).isSome=true):PrN (.mk 3 0 s o []):=
 KX.2 ⟨⟨by decide,by decide,fun h=>absurd h (by decide),fun h=>absurd h (by decide),fun _ _=>rfl,fun _=>h,fun h=>absurd h (by decide),fun _ h=>absurd rfl h,fun _=>rfl⟩,Kn⟩
theorem prText {k o:Int} {s:List UInt8} (hk:k=4∨k=5) (h:textB s=true):PrN (.mk k 0 s o []):=
 KX.2 ⟨⟨by omega,by omega,fun h=>by omega,fun h=>by omega,fun _ _=>rfl,fun h=>by omega,fun _=>h,fun _ _ h1 h2=>by omega,fun _=>by unfold ar0; rw[if_pos (by omega)]; rfl⟩,Kn⟩
theorem Jjp {lv:Nat} {t:Tok} {k:Int} (h:opK lv t=some k):8≤k∧k≤17:=by
 exact wx143
theorem JhK {t:Tok} {k:Int} (h:cmpK t=some k):8≤k∧k≤17:=by
 exact wx142
theorem Jjq {t:Tok} {k:Int} {a b:Nd} (hk:8≤k∧k≤17) (ha:PrN a) (hb:PrN b):PrN (cmpN t k a b):=by
 unfold cmpN;split
 ·exact pr2 hk hb ha
 ·split
  ·exact pr1 (.inr rfl) (pr2 hk ha hb)
  ·exact pr2 hk ha hb
def extP:Md→Prop
 | .loop _ _ a=>PrN a
 | .args _ _ l=>PrL l
 | _=>True
theorem Kv:∀ (f:Nat) (md:Md) (r r':List Tok) (a:Nd),Tk r→pM f md r=.ok a r'→extP md→PrN a∧Tk r'
 | 0,md,r,r',a,hs,h,he=>by unfold pM at h; cases h
 | f+1,.expr,r,r',a,hs,h,he=>by
  rw[pM] at h;split at h
  ·rename_i r1 h1;obtain ⟨_,r2,h2,h⟩:=Jd h;obtain ⟨_,r3,h3,h⟩:=Jd h;obtain ⟨_,r4,h4,h⟩:=Jd h;obtain ⟨_,r5,h5,h⟩:=Jd h;obtain ⟨_,r6,h6,h⟩:=Jd h;injection h with h0 h;subst h h0;have s1:=Ka hs h1;obtain ⟨s2,g2⟩:=VN s1 h2;have s3:=JM s2 h3;obtain ⟨g4,s4⟩:=Kv f _ _ _ _ s3 h4 trivial;have s5:=JM s4 h5;obtain ⟨g6,s6⟩:=Kv f _ _ _ _ s5 h6 trivial;exact ⟨prLet g4 g6,s6⟩
  ·split at h
   ·rename_i r1 h1;obtain ⟨_,r2,h2,h⟩:=Jd h;obtain ⟨_,r3,h3,h⟩:=Jd h;obtain ⟨_,r4,h4,h⟩:=Jd h;obtain ⟨_,r5,h5,h⟩:=Jd h;obtain ⟨_,r6,h6,h⟩:=Jd h;injection h with h0 h;subst h h0;have s1:=Ka hs h1;obtain ⟨g2,s2⟩:=Kv f _ _ _ _ s1 h2 trivial;have s3:=JM s2 h3;obtain ⟨g4,s4⟩:=Kv f _ _ _ _ s3 h4 trivial;have s5:=JM s4 h5;obtain ⟨g6,s6⟩:=Kv f _ _ _ _ s5 h6 trivial;exact ⟨pr3 g2 g4 g6,s6⟩
   ·exact Kv f _ _ _ _ hs h trivial
 | f+1,.level lv,r,r',a,hs,h,he=>by
  rw[pM] at h;split at h
  ·split at h
   ·rename_i r1 h1;obtain ⟨_,r2,h2,h⟩:=Jd h;injection h with h0 h;subst h h0;obtain ⟨g2,s2⟩:=Kv f _ _ _ _ (Ka hs h1) h2 trivial;exact ⟨pr1 (.inr rfl) g2,s2⟩
   ·exact Kv f _ _ _ _ hs h trivial
  ·split at h
   ·split at h
    ·rename_i r1 h1;obtain ⟨_,r2,h2,h⟩:=Jd h;injection h with h0 h;subst h h0;obtain ⟨g2,s2⟩:=Kv f _ _ _ _ (Ka hs h1) h2 trivial;exact ⟨pr1 (.inl rfl) g2,s2⟩
    ·exact Kv f _ _ _ _ hs h trivial
   ·obtain ⟨_,r1,h1,h⟩:=Jd h;obtain ⟨g1,s1⟩:=Kv f _ _ _ _ hs h1 trivial;exact Kv f _ _ _ _ s1 h g1
 | f+1,.loop lv o b,r,r',a,hs,h,he=>by
  rw[pM] at h;split at h
  ·injection h with h0 h;subst h h0;exact ⟨he,hs⟩
  ·rename_i k hk;obtain ⟨_,r1,h1,h⟩:=Jd h;obtain ⟨g1,s1⟩:=Kv f _ _ _ _ hs.tail h1 trivial;exact Kv f _ _ _ _ s1 h (show PrN _ from pr2 (Jjp hk) he g1)
 | f+1,.cmp,r,r',a,hs,h,he=>by
  rw[pM] at h;obtain ⟨x,r1,h1,h⟩:=Jd h;obtain ⟨g1,s1⟩:=Kv f _ _ _ _ hs h1 trivial;split at h
  ·injection h with h0 h;subst h h0;exact ⟨g1,s1⟩
  ·rename_i k hk;obtain ⟨y,r2,h2,h⟩:=Jd h;obtain ⟨g2,s2⟩:=Kv f _ _ _ _ s1.tail h2 trivial;injection h with h0 h;subst h h0;exact ⟨Jjq (JhK hk) g1 g2,s2⟩
 | f+1,.prim,r,r',a,hs,h,he=>by
  rw[pM] at h;split at h
  ·injection h with h0 h;subst h h0;exact ⟨prInt hs.hd.1,hs.tail⟩
  split at h
  ·rename_i r1 h1;obtain ⟨x,r2,h2,h⟩:=Jd h;obtain ⟨_,r3,h3,h⟩:=Jd h;injection h with h0 h;subst h h0;obtain ⟨g2,s2⟩:=Kv f _ _ _ _ (Ka hs h1) h2 trivial;exact ⟨Jjo g2 _,JM s2 h3⟩
  split at h
  ·rename_i r1 h1;injection h with h0 h;subst h h0;exact ⟨prBool (.inl rfl),Ka hs h1⟩
  split at h
  ·rename_i r1 h1;injection h with h0 h;subst h h0;exact ⟨prBool (.inr rfl),Ka hs h1⟩
  split at h
  ·rename_i r1 h1;obtain ⟨_,r2,h2,h⟩:=Jd h;injection h with h0 h;subst h h0;obtain ⟨s2,g2⟩:=ZH (Ka hs h1) h2;exact ⟨prText (.inl rfl) g2,s2⟩
  split at h
  ·rename_i r1 h1;obtain ⟨_,r2,h2,h⟩:=Jd h;injection h with h0 h;subst h h0;obtain ⟨s2,g2⟩:=ZH (Ka hs h1) h2;exact ⟨prText (.inr rfl) g2,s2⟩
  split at h
  ·rename_i hc;injection h with h0 h;subst h h0;exact ⟨prFact hc.1,hs.tail⟩
  ·exact Kv f _ _ _ _ hs h trivial
 | f+1,.named,r,r',a,hs,h,he=>by
  rw[pM] at h;obtain ⟨nm,r1,h1,h⟩:=Jd h;obtain ⟨s1,g1⟩:=VN hs h1;split at h
  ·injection h with h0 h;subst h h0;exact ⟨prVar,s1⟩
  ·rename_i r2 h2;split at h
   ·rename_i r3 h3;injection h with h0 h;subst h h0;exact ⟨prCall Kn,Ka (Ka s1 h2) h3⟩
   ·exact Kv f _ _ _ _ (Ka s1 h2) h (show PrL _ from Kn)
 | f+1,.args nm o l,r,r',a,hs,h,he=>by
  have he2:PrL l:=he;rw[pM] at h;obtain ⟨x,r1,h1,h⟩:=Jd h;obtain ⟨g1,s1⟩:=Kv f _ _ _ _ hs h1 trivial;split at h
  ·rename_i r2 h2;exact Kv f _ _ _ _ (Ka s1 h2) h (show PrL _ from JfU he2 g1)
  ·obtain ⟨_,r2,h2,h⟩:=Jd h;injection h with h0 h;subst h h0;exact ⟨prCall (JfU he2 g1),JM s1 h2⟩
structure FnPr (f:FnS):Prop where
 body:PrN f.body
 name:identB f.name.1=true
 types:f.types.all typeB=true
 result:typeB f.result=true
 len:f.params.length=f.types.length
structure ClPr (c:ClS):Prop where
 cond:PrN c.cond
 action:actB c.action=true
 reason:textB c.reason=true
theorem ZI:∀ (f:Nat) (ps:List (List UInt8 × Int)) (ts:List Int) (r r':List Tok) a,Tk r→ts.all typeB=true→ps.length=ts.length→paramsP f ps ts r=.ok a r'→Tk r'∧a.2.all typeB=true∧a.1.length=a.2.length
 | 0,_,_,_,_,_,_,_,_,h=>by cases h
 | f+1,ps,ts,r,r',a,hs,ht,hl,h=>by
  rw[paramsP] at h;obtain ⟨_,r1,h1,h⟩:=Jd h;obtain ⟨_,r2,h2,h⟩:=Jd h;obtain ⟨t,r3,h3,h⟩:=Jd h;obtain ⟨s3,g3⟩:=JfS (JM (VN hs h1).1 h2) h3;have ht2:(ts++[t]).all typeB=true:=by simp only[List.all_append,ht,List.all_cons,g3,List.all_nil,Bool.and_self]
  split at h
  ·rename_i r4 h4;exact ZI f _ _ _ _ _ (Ka s3 h4) ht2 (by simp[hl]) h
  ·obtain ⟨_,r4,h4,h⟩:=Jd h;injection h with h0 h;subst h h0;exact ⟨JM s3 h4,ht2,by simp[hl]⟩
theorem Jjr {f:Nat} {r r':List Tok} {x:FnS} (hs:Tk r) (h:funP f r=.ok x r'):FnPr x∧Tk r':=by
 unfold funP at h;obtain ⟨nm,r1,h1,h⟩:=Jd h;obtain ⟨_,r2,h2,h⟩:=Jd h;obtain ⟨pt,r3,h3,h⟩:=Jd h;obtain ⟨_,r4,h4,h⟩:=Jd h;obtain ⟨_,r5,h5,h⟩:=Jd h;obtain ⟨_,r6,h6,h⟩:=Jd h;obtain ⟨_,r7,h7,h⟩:=Jd h;injection h with h0 h;subst h h0;obtain ⟨s1,g1⟩:=VN hs h1;have s2:=JM s1 h2
 have s3:Tk r3∧pt.2.all typeB=true∧pt.1.length=pt.2.length:=by
  split at h3
  ·rename_i r9 h9;injection h3 with h0 h3;subst h3 h0;exact ⟨Ka s2 h9,rfl,rfl⟩
  ·exact ZI _ _ _ _ _ _ s2 rfl rfl h3
 obtain ⟨s5,g5⟩:=JfS (JM s3.1 h4) h5;obtain ⟨g7,s7⟩:=Kv _ _ _ _ _ (JM s5 h6) h7 trivial;exact ⟨⟨g7,g1,s3.2.1,g5,s3.2.2⟩,s7⟩
theorem Jdj (g:Nat):∀ (f:Nat) (l:List FnS) (r r':List Tok) a,Tk r→(∀ x∈l,FnPr x)→funsP g f l r=.ok a r'→(∀ x∈a,FnPr x)∧Tk r'
 | 0,_,_,_,_,_,_,h=>by cases h
 | f+1,l,r,r',a,hs,hl,h=>by
  rw[funsP] at h;split at h
  ·rename_i r1 h1;obtain ⟨x,r2,h2,h⟩:=Jd h;obtain ⟨g1,g2⟩:=Jjr (Ka hs h1) h2
   exact Jdj g f _ _ _ _ g2 (by
    intro y hy
    rcases List.mem_append.1 hy with hy | hy
    ·exact hl y hy
    ·obtain rfl:y=x:=by simpa using hy
     exact g1) h
  ·injection h with h0 h;subst h h0;exact ⟨hl,hs⟩
theorem Y4 (g:Nat):∀ (f:Nat) (l:List ClS) (r r':List Tok) a,Tk r→(∀ x∈l,ClPr x)→clausesP g f l r=.ok a r'→(∀ x∈a,ClPr x)∧Tk r'
 | 0,_,_,_,_,_,_,h=>by cases h
 | f+1,l,r,r',a,hs,hl,h=>by
  rw[clausesP] at h;split at h
  ·rename_i r1 h1;obtain ⟨x,r2,h2,h⟩:=Jd h;obtain ⟨_,r3,h3,h⟩:=Jd h;obtain ⟨ac,r4,h4,h⟩:=Jd h;obtain ⟨tx,r5,h5,h⟩:=Jd h;obtain ⟨g1,s2⟩:=Kv _ _ _ _ _ (Ka hs h1) h2 trivial;obtain ⟨s4,g4⟩:=JfT (JM s2 h3) h4;obtain ⟨s5,g5⟩:=Jdi s4 h5
   exact Y4 g f _ _ _ _ s5 (by
    intro y hy
    rcases List.mem_append.1 hy with hy | hy
    ·exact hl y hy
    ·obtain rfl:y=_:=by simpa using hy
     exact ⟨g1,g4,g5⟩) h
  ·injection h with h0 h;subst h h0;exact ⟨hl,hs⟩
theorem JfW {f:Nat} {r r':List Tok} {s:Src} (hs:Tk r) (h:srcP f r=.ok s r'):(∀ x∈s.funcs,FnPr x)∧(∀ x∈s.clauses,ClPr x)∧actB s.action=true:=by
 unfold srcP at h;obtain ⟨fs,r1,h1,h⟩:=Jd h;obtain ⟨cs,r2,h2,h⟩:=Jd h;obtain ⟨_,r3,h3,h⟩:=Jd h;obtain ⟨_,r4,h4,h⟩:=Jd h;obtain ⟨g1,s1⟩:=Jdj _ _ _ _ _ _ hs (by simp) h1;obtain ⟨g2,s2⟩:=Y4 _ _ _ _ _ _ s1 (by simp) h2;obtain ⟨s4,g4⟩:=JfT (JM s2 h3) h4;split at h
 ·injection h with h0 h;subst h0;exact ⟨g1,g2,g4⟩
 ·cases h
theorem Jaj (a:Exp):(utN a).off=0:=by cases a; rw[utN]; rfl
theorem needL_cons' (fs:List SigM) (vars:List Int) (t:Int) (a:Nd) (l:List Nd):needL fs vars t (a::l)=(ofN fs vars a).2++(if (ofN fs vars a).1≠t then [a.off] else [])++needL fs vars t l:=by rw[needL]
theorem Y5 (fs:List SigM) (vars:List Int) (b:Bool) (ps:List Int) (a:Nd) (l:List Nd):argL fs vars b ps (a::l)=(ofN fs vars a).2++(if b=true∧(ofN fs vars a).1≠ps.headD 0 then [a.off] else [])++argL fs vars b ps.tail l:=by rw[argL]
theorem K8 (l:List Nd):(treeL l).length=l.length:=by
 induction l with
 | nil=>rw[treeL]; rfl
 | cons a l ih=>rw[treeL,List.length_cons,ih,List.length_cons]
def z0 (l:List Int):List Int:=l.map fun _=>0
theorem ZJ (a b:List Int):z0 (a++b)=z0 a++z0 b:=by simp[z0]
theorem JfX (c:Prop) [Decidable c] (x:Int):z0 (if c then [x] else [])=if c then [0] else []:=by split <;> rfl
mutual
theorem Vl (fs:List SigM):∀ (vars:List Int) (a:Nd),ofN fs vars (utN (treeN a))=((ofN fs vars a).1,z0 (ofN fs vars a).2)
 | vars,.mk k n s o l=>by
  have hN:=fun t=>Jdk fs vars t l
  have hA:=fun b ps=>JfY fs vars b ps l
  have hlen:(utL (treeL l)).length=l.length:=by rw[JR,K8]
  rw[treeN,utN,YX,YX]
  by_cases h1:k=1∨k=5
  ·rw[if_pos h1,if_pos h1]; rfl
  rw[if_neg h1,if_neg h1]
  by_cases h2:k=2
  ·rw[if_pos h2,if_pos h2]; rfl
  rw[if_neg h2,if_neg h2]
  by_cases h3:k=3
  ·rw[if_pos h3,if_pos h3]; rfl
  rw[if_neg h3,if_neg h3]
  by_cases h4:k=6∨(8≤k∧k≤12)
  ·rw[if_pos h4,if_pos h4,hN]
  rw[if_neg h4,if_neg h4]
  by_cases h5:k=13∨k=14
  ·rw[if_pos h5,if_pos h5,hN]
  rw[if_neg h5,if_neg h5]
  by_cases h6:k=15
  ·rw[if_pos h6,if_pos h6]
   match l with
   | []=>rfl
   | [a]=>rfl
   | [a,b]=>
    have ea:=Vl fs vars a;have eb:=Vl fs vars b;simp only[treeL,utL,ea,eb,ZJ,JfX,Jaj]
   | a::b::c::r=>rfl
  rw[if_neg h6,if_neg h6]
  by_cases h7:k=7∨k=16∨k=17
  ·rw[if_pos h7,if_pos h7,hN]
  rw[if_neg h7,if_neg h7]
  by_cases h8:k=18
  ·rw[if_pos h8,if_pos h8]
   match l with
   | []=>rfl
   | [a]=>rfl
   | [a,b]=>rfl
   | [c,a,b]=>
    have ec:=Vl fs vars c;have ea:=Vl fs vars a;have eb:=Vl fs vars b;simp only[treeL,utL,ec,ea,eb,ZJ,JfX,Jaj]
   | a::b::c::d::r=>rfl
  rw[if_neg h8,if_neg h8]
  by_cases h9:k=19
  ·rw[if_pos h9,if_pos h9]
   match l with
   | []=>rfl
   | [a]=>rfl
   | [a,b]=>
    have ea:=Vl fs vars a;have eb:=fun v=>Vl fs v b
    simp only[treeL,utL,ea,eb,ZJ]
   | a::b::c::r=>rfl
  rw[if_neg h9,if_neg h9]
  by_cases h10:k=20
  ·rw[if_pos h10,if_pos h10];simp only[hlen,hA,ZJ,JfX]
  rw[if_neg h10,if_neg h10];rfl
theorem Jdk (fs:List SigM):∀ (vars:List Int) (t:Int) (l:List Nd),needL fs vars t (utL (treeL l))=z0 (needL fs vars t l)
 | vars,t,[]=>by rw[treeL,utL,needL]; rfl
 | vars,t,a::l=>by
  rw[treeL,utL,needL_cons',needL_cons',Vl fs vars a,Jdk fs vars t l,Jaj];simp only[ZJ,JfX]
theorem JfY (fs:List SigM):∀ (vars:List Int) (b:Bool) (ps:List Int) (l:List Nd),argL fs vars b ps (utL (treeL l))=z0 (argL fs vars b ps l)
 | vars,b,ps,[]=>by rw[treeL,utL,argL]; rfl
 | vars,b,ps,a::l=>by
  rw[treeL,utL,Y5,Y5,Vl fs vars a,JfY fs vars b ps.tail l,Jaj];simp only[ZJ,JfX]
end
theorem JfZ {fs:List SigM} {vars:List Int} {t:Int} {a:Nd} (h:needN fs vars t a=[]):needN fs vars t (utN (treeN a))=[]:=by
 have h1:=Vp h;unfold needN;rw[Vl,h1];simp[z0]
theorem Vh {fs:List SigM} {vars:List Int} {t:Int}:∀ {l:List Nd},needL fs vars t l=[]→∀ a∈l,(ofN fs vars a).2=[]
 | [],_,a,ha=>by cases ha
 | x::l,h,a,ha=>by
  rw[needL_cons'] at h;simp only[List.append_eq_nil_iff] at h
  rcases List.mem_cons.1 ha with rfl | ha
  ·exact h.1.1
  ·exact Vh h.2 a ha
theorem Jbl {fs:List SigM} {vars:List Int} {b:Bool}:∀ {l:List Nd} {ps:List Int},argL fs vars b ps l=[]→∀ a∈l,(ofN fs vars a).2=[]
 | [],_,_,a,ha=>by cases ha
 | x::l,ps,h,a,ha=>by
  rw[Y5] at h;simp only[List.append_eq_nil_iff] at h
  rcases List.mem_cons.1 ha with rfl | ha
  ·exact h.1.1
  ·exact Jbl h.2 a ha
theorem Jcr {fs:List SigM} {vars:List Int} {k n:Int} {s:List UInt8} {o:Int} {l:List Nd} (h:(ofN fs vars (.mk k n s o l)).2=[]) (h19:k≠19) (hk:0≤k∧k<21) (hl:k≠20→l.length=ar0 k):∀ a∈l,(ofN fs vars a).2=[]:=by
 by_cases h5:k≤5
 ·have:=hl (by omega);unfold ar0 at this;rw[if_pos h5] at this;obtain rfl:=List.eq_nil_of_length_eq_zero this;intro a ha
  cases ha
 rw[YX,if_neg (by omega),if_neg (by omega),if_neg (by omega)] at h
 by_cases h4:k=6∨(8≤k∧k≤12)
 ·rw[if_pos h4] at h;exact Vh h
 rw[if_neg h4] at h
 by_cases h6:k=13∨k=14
 ·rw[if_pos h6] at h;exact Vh h
 rw[if_neg h6] at h
 by_cases h7:k=15
 ·subst h7;rw[if_pos rfl] at h
  match l,hl (by decide),h with
  | [a,b],_,h=>
   simp only[List.append_eq_nil_iff] at h;intro x hx;simp at hx
   rcases hx with rfl | rfl
   ·exact h.1.1
   ·exact h.1.2
 rw[if_neg h7] at h
 by_cases h8:k=7∨k=16∨k=17
 ·rw[if_pos h8] at h;exact Vh h
 rw[if_neg h8] at h
 by_cases h9:k=18
 ·subst h9;rw[if_pos rfl] at h
  match l,hl (by decide),h with
  | [c,a,b],_,h=>
   simp only[List.append_eq_nil_iff] at h;intro x hx;simp at hx
   rcases hx with rfl | rfl | rfl
   ·exact h.1.1.1.1
   ·exact h.1.1.2
   ·exact h.1.2
 rw[if_neg h9,if_neg h19,if_pos (by omega)] at h;simp only[List.append_eq_nil_iff] at h;exact Jbl h.2
theorem Jjs (k n:Int) (s:List UInt8) (o:Int) (l:List Nd):nest (.mk k n s o l)=nestL l+1:=by rw[nest]
theorem V3 (a:Nd) (l:List Nd):nestL (a::l)=max (nest a) (nestL l):=by rw[nestL]
theorem Vq (fs vars:List (List UInt8)):∀ l,(resL fs vars l).1.length=l.length
 | []=>by rw[resL]
 | a::l=>by rw[resL]; simp only[List.length_cons,Vq fs vars l]
theorem Jkm {pa:List Nat} {k n:Int} (hk:0≤k∧k<21) (h:k≠20):arityM pa k n=ar0 k:=by
 unfold arityM ar0
 by_cases h5:k≤5
 ·rw[if_pos (by omega),if_pos h5]
 ·rw[if_neg (by omega),if_neg h5];split
  ·rfl
  ·split
   ·rfl
   ·rfl
theorem Jga {nf vars:Nat} {k n:Int} {s:List UInt8} {m:Nat} (h:PrF k n s m) (h2:k≠2) (h19:k≠19) (h20:k≠20):fieldsB nf vars k n s=true:=by
 obtain ⟨a1,a2,a3,a4,a5,a6,a7,a8,_⟩:=h;unfold fieldsB;simp only[Bool.and_eq_true];refine ⟨⟨⟨?_,?_⟩,by simpa using a1⟩,by simpa using a2⟩
 ·by_cases h0:k=0
  ·rw[if_pos h0]; have:=a3 h0; simp; omega
  rw[if_neg h0]
  by_cases h1:k=1
  ·rw[if_pos h1]; have:=a4 h1; simp; omega
  rw[if_neg h1,if_neg h2,if_neg h19,if_neg h20,a5 h0 h1];rfl
 ·by_cases h3:k=3
  ·rw[if_pos h3]; exact a6 h3
  rw[if_neg h3]
  by_cases h4:k=4∨k=5
  ·rw[if_pos h4]; exact a7 h4
  rw[if_neg h4,a8 h2 h3 (fun h=>h4 (.inl h)) (fun h=>h4 (.inr h)) h19 h20];rfl
mutual
theorem VO {fs:List (List UInt8)} {sg:List SigM} (hfs:fs.length=sg.length):∀ (a:Nd) (vars:List (List UInt8)) (ty:List Int) (m:Nat),PrN a→(resN fs vars a).2=[]→(ofN sg ty (resN fs vars a).1).2=[]→nest a≤m→fitsN (palen sg) vars.length m (treeN (resN fs vars a).1)=true
 | .mk k n s o l,vars,ty,m,hp,hr,ht,hn=>by
  rw[KX] at hp;obtain ⟨hf,hl⟩:=hp;obtain ⟨a1,a2,a3,a4,a5,a6,a7,a8,a9⟩:=hf;rw[Jjs] at hn;rw[K2] at hr ht ⊢
  by_cases h2:k=2
  ·subst h2;rw[if_pos rfl] at hr ht ⊢;obtain rfl:l=[]:=List.eq_nil_of_length_eq_zero (a9 (by decide));simp only[List.append_eq_nil_iff] at hr;have hx:=(VC s _ vars rfl).2;have hlt:¬ lastIx vars s<0:=fun hc=>by rw[if_pos hc] at hr; exact absurd hr.1 (by simp)
   rw[resL,treeN,treeL];unfold fitsN fieldsB arityM;simp[fitsL];omega
  rw[if_neg h2] at hr ht ⊢
  by_cases h20:k=20
  ·subst h20;rw[if_pos rfl] at hr ht ⊢;simp only[List.append_eq_nil_iff] at hr
   cases hx:firstIx fs s with
   | none=>rw[hx] at hr; simp at hr
   | some q=>
    have hlt:=Zr hx;rw[hx] at ht;have hk:=Jcr ht (by decide) (by decide) (fun h=>absurd rfl h);rw[YX,if_neg (by decide),if_neg (by decide),if_neg (by decide),if_neg (by decide),if_neg (by decide),if_neg (by decide),if_neg (by decide),if_neg (by decide),if_neg (by decide),if_pos rfl] at ht;simp only[List.append_eq_nil_iff] at ht
    have hlen:(resL fs vars l).1.length=(sg.getD q ⟨[],0⟩).params.length:=by
     have:=ht.1;split at this
     ·cases this
     ·rename_i hc;exact Classical.not_not.1 hc
    have hkids:=Y6 hfs l vars (m-1) 20 0 (by decide) hl hr.2 (fun a ha=>⟨ty,hk a ha⟩) (by omega)
    have hpa:(palen sg).getD q 0=(sg.getD q ⟨[],0⟩).params.length:=by
     unfold palen;simp only[List.getD_eq_getElem?_getD,List.getElem?_map]
     cases sg[q]? <;> rfl
    rw[treeN];rw[fitsN,hkids]
    have hfl:fieldsB (palen sg).length vars.length 20 ((Option.getD (some q) 0:Nat):Int) []=true:=by
     unfold fieldsB;rw[K6];simp;omega
    have har:arityM (palen sg) 20 ((Option.getD (some q) 0:Nat):Int)=(resL fs vars l).1.length:=by
     unfold arityM;simp only[Option.getD_some,Int.toNat_natCast];rw[if_neg (by decide),if_neg (by decide),if_neg (by decide),if_pos trivial,hpa,hlen]
    rw[hfl,har,K8];simp;omega
  rw[if_neg h20] at hr ht ⊢
  by_cases h19:k=19
  ·subst h19;rw[if_pos rfl] at hr ht ⊢
   match l,a9 (by decide),hl,hr,ht,hn with
   | [a,b],_,hl,hr,ht,hn=>
    rw[J1,J1] at hl;simp only[List.append_eq_nil_iff] at hr;rw[V3,V3] at hn;simp only at ht ⊢;rw[YX,if_neg (by decide),if_neg (by decide),if_neg (by decide),if_neg (by decide),if_neg (by decide),if_neg (by decide),if_neg (by decide),if_neg (by decide),if_pos rfl] at ht;simp only[List.append_eq_nil_iff] at ht;have fa:=VO hfs a vars ty (m-1) hl.1 hr.1 ht.1 (by omega);have fb:=VO hfs b (vars++[s]) _ (m-1) hl.2.1 hr.2 ht.2 (by omega);rw[List.length_append,List.length_singleton] at fb;rw[treeN,treeL,treeL,treeL,fitsN,fitsL,fitsL,fitsL]
    have hfl:fieldsB (palen sg).length vars.length 19 (vars.length:Int) []=true:=by
     unfold fieldsB;simp
    rw[hfl];simp[fa,fb,arityM];omega
  rw[if_neg h19] at hr ht ⊢;have hk:=Jcr ht h19 ⟨a1,a2⟩ (fun h=>by rw[Vq]; exact a9 h);have hkids:=Y6 hfs l vars (m-1) k 0 h19 hl hr (fun a ha=>⟨ty,hk a ha⟩) (by omega);rw[treeN,fitsN,hkids,Jga ⟨a1,a2,a3,a4,a5,a6,a7,a8,a9⟩ h2 h19 h20,Jkm ⟨a1,a2⟩ h20,K8,Vq,a9 h20];simp;omega
theorem Y6 {fs:List (List UInt8)} {sg:List SigM} (hfs:fs.length=sg.length):∀ (l:List Nd) (vars:List (List UInt8)) (m:Nat) (k:Int) (i:Nat),k≠19→PrL l→(resL fs vars l).2=[]→(∀ a∈(resL fs vars l).1,∃ ty,(ofN sg ty a).2=[])→nestL l≤m→fitsL (palen sg) vars.length m k i (treeL (resL fs vars l).1)=true
 | [],vars,m,k,i,hk,hp,hr,ht,hn=>by rw[resL,treeL,fitsL]
 | a::l,vars,m,k,i,hk,hp,hr,ht,hn=>by
  rw[J1] at hp;rw[resL] at hr ht ⊢;simp only[List.append_eq_nil_iff] at hr;rw[V3] at hn;obtain ⟨ty,h1⟩:=ht _ (List.mem_cons_self);have fa:=VO hfs a vars ty m hp.1 hr.1 h1 (by omega);have fl:=Y6 hfs l vars m k (i+1) hk hp.2 hr.2 (fun x hx=>ht x (List.mem_cons_of_mem _ hx)) (by omega);simp only;rw[treeL,fitsL,if_neg (fun h=>hk h.1),fa,fl];rfl
end
theorem Jed {l:List (List UInt8 × Int)} {seen:List (List UInt8)}:dupl l seen=[]→∀ {fs:List FnM},fs.map (·.name)=l.map (·.1)→(∀ f∈fs,identB f.name=true∧typeB f.result=true∧f.params.all typeB=true)→namesM seen fs=true:=by
 induction l generalizing seen with
 | nil=>
  intro _ fs hm _;obtain rfl:fs=[]:=by simpa using hm
  rfl
 | cons a l ih=>
  intro h fs hm hf;obtain ⟨s,o⟩:=a;rw[dupl] at h;simp only[List.append_eq_nil_iff] at h
  cases fs with
  | nil=>simp at hm
  | cons f fs=>
   simp only[List.map_cons,List.cons.injEq] at hm;obtain ⟨e1,e2⟩:=hm;obtain ⟨g1,g2,g3⟩:=hf f (by simp);have hns:s∉seen:=fun hc=>by rw[if_pos hc] at h; exact absurd h.1 (by simp)
   rw[namesM,g1,g2,g3,e1];rw[ih h.2 e2 (fun x hx=>hf x (List.mem_cons_of_mem _ hx))];simp[hns]
theorem Jee {s:Src} (h:limitM s=none):∀ a∈s.roots,nest a≤40:=by
 unfold limitM at h;simp only[Option.map_eq_none_iff,List.find?_eq_none,decide_eq_true_eq] at h;intro a ha;have:=h a ha;omega
theorem Jgb {s:Src} (h1:∀ x∈s.funcs,FnPr x) (h2:∀ x∈s.clauses,ClPr x) (h3:actB s.action=true) (hl:limitM s=none) (hr:(resolveM s).2=[]) (hc:checkM (resolveM s).1=[]):rightM (ruleOf (resolveM s).1)=true:=by
 have hnest:=Jee hl;unfold Src.roots at hnest;unfold resolveM at hr hc ⊢;simp only[List.append_eq_nil_iff,List.flatten_eq_nil_iff] at hr;obtain ⟨⟨e0,e1⟩,e2⟩:=hr;unfold checkM at hc;simp only[List.append_eq_nil_iff,List.flatten_eq_nil_iff,List.mem_map,List.map_map] at hc;obtain ⟨c1,c2⟩:=hc;obtain ⟨fs,hfs⟩:∃ fs,s.funcs.map (·.name.1)=fs:=⟨_,rfl⟩
 obtain ⟨sg,hsg⟩:∃ sg,(s.funcs.map fun f=>(⟨f.types,f.result⟩:SigM))=sg:=⟨_,rfl⟩
 have hsg2:(List.map ((fun f:FnS=>(⟨f.types,f.result⟩:SigM))∘(fun x=>x.1)∘resF fs) s.funcs)=sg:=by rw[← hsg]; rfl
 rw[hfs] at e1 e2 c1 c2 ⊢;have hlen:fs.length=sg.length:=by rw[← hfs,← hsg]; simp
 have hpa:palen sg=s.funcs.map fun f=>f.types.length:=by rw[← hsg]; unfold palen; rw[List.map_map]; rfl
 have F:∀ f∈s.funcs,fitsN (palen sg) f.types.length 40 (treeN (resF fs f).1.body)=true∧needN sg f.types f.result (utN (treeN (resF fs f).1.body))=[]:=by
  intro f hf;have hp:=h1 f hf;have r1:=e1 _ (List.mem_map.2 ⟨resF fs f,List.mem_map.2 ⟨f,hf,rfl⟩,rfl⟩);have t1:=c1 _ ⟨f,hf,rfl⟩;simp only[Function.comp,hsg2] at t1;unfold resF at r1 t1 ⊢;simp only[List.append_eq_nil_iff] at r1;simp only at t1 ⊢;have nf:=hnest f.body (List.mem_append_left _ (List.mem_map.2 ⟨f,hf,rfl⟩));have ty:=Vp t1;have:=VO hlen f.body (f.params.map (·.1)) f.types 40 hp.body r1.2 (by rw[ty]) nf;rw[List.length_map,hp.len] at this;exact ⟨this,JfZ t1⟩
 have C:∀ c∈s.clauses,fitsN (palen sg) 0 40 (treeN (resC fs c).1.cond)=true∧needN sg [] 1 (utN (treeN (resC fs c).1.cond))=[]:=by
  intro c hc;have hp:=h2 c hc;have r1:=e2 _ (List.mem_map.2 ⟨resC fs c,List.mem_map.2 ⟨c,hc,rfl⟩,rfl⟩);have t1:=c2 _ ⟨c,hc,rfl⟩;simp only[Function.comp,hsg2] at t1;unfold resC at r1 t1 ⊢;simp only at r1 t1 ⊢;have nf:=hnest c.cond (List.mem_append_right _ (List.mem_map.2 ⟨c,hc,rfl⟩));have ty:=Vp t1;exact ⟨VO hlen c.cond [] [] 40 hp.cond r1 (by rw[ty]) nf,JfZ t1⟩
 unfold rightM ruleOf treesM typedM RuleM.sigs RuleM.pa clsM;simp only[List.map_map,Bool.and_eq_true,List.all_map,List.all_eq_true,Function.comp,beq_iff_eq];have g1:(List.map ((fun x:FnM=>x.params.length)∘(fun f:FnS=>(⟨f.name.1,f.types,f.result,treeN f.body⟩:FnM))∘(fun x=>x.1)∘resF fs) s.funcs)=palen sg:=by rw[hpa]; rfl
 have g2:(List.map ((fun f:FnM=>(⟨f.params,f.result⟩:SigM))∘(fun f:FnS=>(⟨f.name.1,f.types,f.result,treeN f.body⟩:FnM))∘(fun x=>x.1)∘resF fs) s.funcs)=sg:=by rw[← hsg]; rfl
 refine ⟨⟨⟨⟨?_,fun c hc=>⟨(h2 c hc).action,(h2 c hc).reason⟩⟩,h3⟩,?_⟩,?_⟩
 ·refine Jed e0 ?_ ?_
  ·simp only[List.map_map]; rfl
  ·intro f hf;simp only[List.mem_map,Function.comp] at hf;obtain ⟨g,hg,rfl⟩:=hf;exact ⟨(h1 g hg).name,(h1 g hg).result,(h1 g hg).types⟩
 ·exact ⟨fun f hf=>by rw[g1]; exact (F f hf).1,fun c hc=>by rw[g1]; exact (C c hc).1⟩
 ·exact ⟨fun f hf=>by rw[g2]; exact (F f hf).2,fun c hc=>by rw[g2]; exact (C c hc).2⟩
theorem Jbm:rightM noRule=true:=by rfl
theorem Jbn {f:Nat} {T:List Tok} (hT:Tk T) {r:RuleM} {o:Int} (h:parseT f T=some (r,0,o)):rightM r=true:=by
 unfold parseT at h
 cases hs:srcP f T with
 | out=>rw[hs] at h; cases h
 | bad o=>rw[hs] at h; simp at h
 | ok s r'=>
  rw[hs] at h;simp only at h
  cases hl:limitM s with
  | some o=>rw[hl] at h; simp at h
  | none=>
   rw[hl] at h;simp only at h
   cases hr:least (resolveM s).2 with
   | some o=>rw[hr] at h; simp at h
   | none=>
    rw[hr] at h;simp only at h
    cases hc:least (checkM (resolveM s).1) with
    | some o=>rw[hc] at h; simp at h
    | none=>
     rw[hc] at h;simp only[Option.some.injEq,Prod.mk.injEq] at h;rw[← h.1];obtain ⟨g1,g2,g3⟩:=JfW hT hs;exact Jgb g1 g2 g3 hl (VZ hr) (VZ hc)
end Go.Proofs.YtncanmdgdflnpaaGreatDoor
