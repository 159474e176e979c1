
import Derived.Test.YtncanmdgdflnpaaGreatDoorZ18
namespace Go.Proofs.YtncanmdgdflnpaaGreatDoor
open Go.ChangeShapes Go.WideShapes Go.ChangeAt Go.RowKit Go.Lib
open _root_.Go.Proofs.Tryz
set_option linter.all false
set_option maxRecDepth 100000
set_option maxHeartbeats 32000000
theorem SrcOk.far {L:List Nat} {W W':World} {sb:Nat} {S:SrcA} (h:SrcOk W sb S) (hc:Chg L W W') (hL:∀ b∈L,sb<b∧S.fv.ownBlock≠some b∧S.cv.ownBlock≠some b∧∀ iv∈S.ivs,iv.2≤b):SrcOk W' sb S:=by
 have hk:∀ {e size n:Nat} {v:Value} {xs:List Value},(∀ b∈L,v.ownBlock≠some b)→W.ownsRow (sb+1) e size v n xs→W'.ownsRow (sb+1) e size v n xs:=fun hn h=>KG h fun g hg=>hc.block g (h.lt g hg).2 (fun hm=>hn g hm hg)
 exact ⟨hc.heap_some (fun hm=>by have:=(hL sb hm).1; omega) h.box,hk (fun b hb=>(hL b hb).2.1) h.fown,hk (fun b hb=>(hL b hb).2.2.1) h.cown,
  fun f hf=>⟨(h.fok f hf).1.chg hc (fun b hb=>.inr ((hL b hb).2.2.2 (f.lo,f.hi) (List.mem_append_left _ (List.mem_map.2 ⟨f,hf,rfl⟩)))),(h.fok f hf).2⟩,
  fun c hc'=>⟨(h.cok c hc').1.chg hc (fun b hb=>.inr ((hL b hb).2.2.2 (c.lo,c.hi) (List.mem_append_right _ (List.mem_map.2 ⟨c,hc',rfl⟩)))),(h.cok c hc').2⟩,h.pair,h.fout,h.cout⟩
structure Rz (w W:World) (sb:Nat) (S:SrcA) (mb rb mn:Nat) (f:List UInt8→Option Nat) (x:Option Int):Prop where
 ok:SrcOk W sb S
 flt:FltAt W rb 140 x (.map (some mb))
 map:SMapAt W mb mn f
 bel:Below sb w W
 sz:w.heap.size≤W.heap.size
 num:w.heap.size≤mb∧mb<rb∧sb<w.heap.size
 ivs:∀ iv∈S.ivs,iv.2≤w.heap.size
 rows:(∀ g,S.fv.ownBlock=some g→g<w.heap.size)∧(∀ g,S.cv.ownBlock=some g→g<w.heap.size)
section
variable {w W W':World} {sb:Nat} {S:SrcA} {mb rb mn:Nat} {f:List UInt8→Option Nat} {x:Option Int}
theorem Kf {B:Nat} (h:Below B w W) (ho:W'.os=W.os) (ht:W'.tape=W.tape) (hp:W'.output=W.output) (hs:W.heap.size≤W'.heap.size) (hb:∀ k,k<B→W'.heap[k]?=W.heap[k]?):Below B w W':=
 ⟨ho.trans h.os,ht.trans h.tape,hp.trans h.output,Nat.le_trans h.size hs,fun k hk=>(hb k hk).trans (h.block k hk)⟩
theorem Rz.up (h:Rz w W sb S mb rb mn f x) (hb:Below W.heap.size W W'):Rz w W' sb S mb rb mn f x:=
 ⟨h.ok.on (Chg.of_below hb []) (by simp),(hb.block _ (Jb h.flt)).trans h.flt,h.map.same (hb.block mb h.map.lt),Kf h.bel hb.os hb.tape hb.output hb.size (fun k hk=>hb.block k (by have:=h.num; have:=h.sz; omega)),Nat.le_trans h.sz hb.size,h.num,h.ivs,h.rows⟩
theorem Rz.far (h:Rz w W sb S mb rb mn f x):∀ b,w.heap.size≤b→sb<b∧S.fv.ownBlock≠some b∧S.cv.ownBlock≠some b∧∀ iv∈S.ivs,iv.2≤b:=fun b hb=>
 ⟨by have:=h.num; omega,fun e=>by have:=h.rows.1 b e; omega,fun e=>by have:=h.rows.2 b e; omega,fun iv hi=>by have:=h.ivs iv hi; omega⟩
theorem Rz.add {e:Ending} {y:Int} (h:Rz w W sb S mb rb mn f x) (ha:AddP W rb 140 (addF x y) (.map (some mb)) e W'):Rz w W' sb S mb rb mn f (addL x [y]):=by
 obtain ⟨_,hf,hc⟩:=ha;obtain ⟨n1,n2,n3⟩:=h.num;exact ⟨h.ok.far hc (fun b hb=>h.far b (by simp at hb; omega)),hf,h.map.keep hc (by simp; omega),Kf h.bel hc.os hc.tape hc.output hc.size (fun k hk=>hc.block k (by have:=h.sz; omega) (by simp; omega)),Nat.le_trans h.sz hc.size,h.num,h.ivs,h.rows⟩
theorem Rz.put {f':List UInt8→Option Nat} {mn':Nat} (h:Rz w W sb S mb rb mn f x) (hm:SMapAt W' mb mn' f') (hc:Chg [mb] W W'):Rz w W' sb S mb rb mn' f' x:=by
 obtain ⟨n1,n2,n3⟩:=h.num;exact ⟨h.ok.far hc (fun b hb=>h.far b (by simp at hb; omega)),hc.heap_some (by simp; omega) h.flt,hm,Kf h.bel hc.os hc.tape hc.output hc.size (fun k hk=>hc.block k (by have:=h.sz; omega) (by simp; omega)),Nat.le_trans h.sz hc.size,h.num,h.ivs,h.rows⟩
theorem zx90 {P:Prop}(h:P:=by
  unfold SrcA.ivs;dsimp only
  congr 1
  refine List.ext_getElem? fun k=>?_
  rw[List.getElem?_map,List.getElem?_map,List.getElem?_set]
  by_cases hk:i=k
  ·subst hk;rw[if_pos rfl,if_pos (List.getElem?_eq_some_iff.1 hf).1,hf];rfl
  ·rw[if_neg hk]):P:=h
theorem Jfw (S:SrcA) (i:Nat) (a:An):(S.setF i a).ivs=S.ivs:=by
 unfold SrcA.setF
 cases hf:S.funcs[i]? with
 | none=>rfl
 | some f=>
  exact zx90
theorem Jfx (S:SrcA) (i:Nat) (a:An):(S.setC i a).ivs=S.ivs:=by
 unfold SrcA.setC
 cases hf:S.clauses[i]? with
 | none=>rfl
 | some f=>
  exact zx90
theorem Rz.preF {fs:List (List UInt8)} {vv:Value} {vars:List (List UInt8)} {g i:Nat} {fn:FnA} (h:Rz w W sb S mb rb mn (fun s=>firstIx fs s) x) (hf:S.funcs[i]?=some fn) (hv:VarsAt W vv vars g) (hg:vars≠[]→rb<g) (hw:WfN fn.body.nd):ResPre fs rb 140 mb mn W (Value.blk S.fv) (i*10+5) x vv vars g fn.body:=by
 obtain ⟨n1,n2,n3⟩:=h.num;have hmem:=List.mem_of_getElem? hf;obtain ⟨fo,fs1,fs2⟩:=h.ok.fok fn hmem;have hfo:=Zy fo;have hiv:(fn.lo,fn.hi)∈S.ivs:=List.mem_of_getElem? (Vo S hf);have hih:=h.ivs _ hiv;have hob:=KU h.ok.fown (by have:=(List.getElem?_eq_some_iff.1 hf).1; omega:0<S.funcs.length);have hbw:=h.rows.1 _ hob;have hbo:=h.ok.fout _ hob _ hiv
 obtain ⟨cs,cap,cur,e1,e2,e3,e4⟩:∃ g cap cur,S.fv=.slice (some ⟨g,0,none⟩) S.funcs.length cap∧sb+1≤g∧W.heap[g]?=some (.cells cur 121 (0,0))∧True:=by
  rcases h.ok.fown.2 with ⟨e,_⟩ | ⟨g,cap,cur,e,e2,e3,_⟩
  ·rw[e] at hob; cases hob
  ·exact ⟨g,cap,cur,e,e2,e3,trivial⟩
 have hbb:Value.blk S.fv=cs:=by rw[e1]; rfl
 refine ⟨⟨fun j u hj=>?_,fun j=>by rw[hbb]; exact Jc e3 j,fo.bat⟩,?_,fun hm=>by have:=hfo _ hm; omega,⟨fun hm=>by have:=hfo _ hm; omega,by omega⟩,fun hv=>⟨fun hm=>by have:=hfo _ hm; have:=hg hv; omega,by have:=hg hv; omega,by have:=hg hv; omega⟩,⟨fun hm=>by have:=hfo _ hm; omega,by omega,by omega⟩,h.flt,h.map,hv,hw⟩
 ·have h1:fn.cells[5+j]?=some u:=by
   unfold FnA.cells;rw[List.getElem?_append_right (by simp)];simpa using hj
  have:=JQ h.ok.fown (J9 FnA.cells_length S.funcs i (5+j) fn u hf h1);rw[Nat.add_assoc];exact this
 ·obtain ⟨m,_,_,_,_,m5⟩:=fo.bmd;exact m5.1
theorem Rz.preC {fs:List (List UInt8)} {i:Nat} {c:ClA} (h:Rz w W sb S mb rb mn (fun s=>firstIx fs s) x) (hf:S.clauses[i]?=some c) (hw:WfN c.cond.nd):ResPre fs rb 140 mb mn W (Value.blk S.cv) (i*7) x (.slice none 0 0) [] 0 c.cond:=by
 obtain ⟨n1,n2,n3⟩:=h.num;have hmem:=List.mem_of_getElem? hf;obtain ⟨fo,fs1⟩:=h.ok.cok c hmem;have hfo:∀ b∈foot c.cond,c.lo≤b∧b<c.hi:=fo.made.2;have hiv:(c.lo,c.hi)∈S.ivs:=List.mem_of_getElem? (Vp S hf);have hih:=h.ivs _ hiv;have hob:=KU h.ok.cown (by have:=(List.getElem?_eq_some_iff.1 hf).1; omega:0<S.clauses.length);have hbw:=h.rows.2 _ hob;have hbo:=h.ok.cout _ hob _ hiv
 obtain ⟨cs,cap,cur,e1,e2,e3,e4⟩:∃ g cap cur,S.cv=.slice (some ⟨g,0,none⟩) S.clauses.length cap∧sb+1≤g∧W.heap[g]?=some (.cells cur 125 (0,0))∧True:=by
  rcases h.ok.cown.2 with ⟨e,_⟩ | ⟨g,cap,cur,e,e2,e3,_⟩
  ·rw[e] at hob; cases hob
  ·exact ⟨g,cap,cur,e,e2,e3,trivial⟩
 have hbb:Value.blk S.cv=cs:=by rw[e1]; rfl
 refine ⟨⟨fun j u hj=>?_,fun j=>by rw[hbb]; exact Jc e3 j,fo.at'⟩,fo.made.1,fun hm=>by have:=hfo _ hm; omega,⟨fun hm=>by have:=hfo _ hm; omega,by omega⟩,fun hv=>absurd rfl hv,⟨fun hm=>by have:=hfo _ hm; omega,by omega,by omega⟩,h.flt,h.map,⟨none,0,rfl,⟨Nat.le_refl _,fun _=>⟨rfl,rfl⟩⟩,fun hv=>absurd rfl hv⟩,hw⟩
 have h1:c.cells[j]?=some u:=by
  unfold ClA.cells;rw[List.getElem?_append_left (List.getElem?_eq_some_iff.1 hj).1];exact hj
 exact JQ h.ok.cown (J9 ClA.cells_length S.clauses i j c u hf h1)
theorem Rz.resF {fs:List (List UInt8)} {vars:List (List UInt8)} {i:Nat} {fn:FnA} {e:Ending} (h:Rz w W sb S mb rb mn (fun s=>firstIx fs s) x) (hf:S.funcs[i]?=some fn) (hr:ResP fs rb 140 mb W (Value.blk S.fv) (i*10+5) x vars fn.body e W'):Rz w W' sb (S.setF i (resA fs vars fn.body)) mb rb mn (fun s=>firstIx fs s) (addL x (resN fs vars fn.body.nd).2):=by
 obtain ⟨n1,n2,n3⟩:=h.num;have hfar:=h.far rb (by omega);have hok:=h.ok.resF hf hr ⟨hfar.1,hfar.2.2.2,hfar.2.1,hfar.2.2.1⟩;obtain ⟨_,hn,hfl,hc⟩:=hr;have hob:=KU h.ok.fown (by have:=(List.getElem?_eq_some_iff.1 hf).1; omega:0<S.funcs.length);have hfb:=(h.ok.fown.lt _ hob).1;have hbw:=h.rows.1 _ hob;obtain ⟨fo,fs1,fs2⟩:=h.ok.fok fn (List.mem_of_getElem? hf);have hih:=h.ivs _ (List.mem_of_getElem? (Vo S hf))
 have hP:∀ b j,ResC (Value.blk S.fv) (i*10+5) rb (foot fn.body) b j→b=Value.blk S.fv∨(fn.lo≤b∧b<fn.hi)∨b=rb:=fun b j hj=>by
  rcases hj with ⟨e,_⟩ | hj | e
  ·exact .inl e
  ·exact .inr (.inl (Zy fo b hj))
  ·exact .inr (.inr e)
 refine ⟨hok,hfl,h.map.same (hc.block mb h.map.lt fun j hj=>by rcases hP mb j hj with e | e | e <;> omega),Kf h.bel hc.os hc.tape hc.output hc.size (fun k hk=>hc.block k (by have:=h.sz; omega) fun j hj=>by rcases hP k j hj with e | e | e <;> omega),Nat.le_trans h.sz hc.size,h.num,by rw[Jfw]; exact h.ivs,h.rows⟩
theorem Rz.resC {fs:List (List UInt8)} {vars:List (List UInt8)} {i:Nat} {c:ClA} {e:Ending} (h:Rz w W sb S mb rb mn (fun s=>firstIx fs s) x) (hf:S.clauses[i]?=some c) (hr:ResP fs rb 140 mb W (Value.blk S.cv) (i*7) x vars c.cond e W'):Rz w W' sb (S.setC i (resA fs vars c.cond)) mb rb mn (fun s=>firstIx fs s) (addL x (resN fs vars c.cond.nd).2):=by
 obtain ⟨n1,n2,n3⟩:=h.num;have hfar:=h.far rb (by omega);have hok:=h.ok.resC hf hr ⟨hfar.1,hfar.2.2.2,hfar.2.1,hfar.2.2.1⟩;obtain ⟨_,hn,hfl,hc⟩:=hr;have hob:=KU h.ok.cown (by have:=(List.getElem?_eq_some_iff.1 hf).1; omega:0<S.clauses.length);have hfb:=(h.ok.cown.lt _ hob).1;have hbw:=h.rows.2 _ hob;obtain ⟨fo,fs1⟩:=h.ok.cok c (List.mem_of_getElem? hf);have hih:=h.ivs _ (List.mem_of_getElem? (Vp S hf))
 have hP:∀ b j,ResC (Value.blk S.cv) (i*7) rb (foot c.cond) b j→b=Value.blk S.cv∨(c.lo≤b∧b<c.hi)∨b=rb:=fun b j hj=>by
  rcases hj with ⟨e,_⟩ | hj | e
  ·exact .inl e
  ·exact .inr (.inl (fo.made.2 b hj))
  ·exact .inr (.inr e)
 refine ⟨hok,hfl,h.map.same (hc.block mb h.map.lt fun j hj=>by rcases hP mb j hj with e | e | e <;> omega),Kf h.bel hc.os hc.tape hc.output hc.size (fun k hk=>hc.block k (by have:=h.sz; omega) fun j hj=>by rcases hP k j hj with e | e | e <;> omega),Nat.le_trans h.sz hc.size,h.num,by rw[Jfx]; exact h.ivs,h.rows⟩
end
end Go.Proofs.YtncanmdgdflnpaaGreatDoor
