import Derived.Test.YtdlkcjkjnehnkaaGreatDoorH17
open List(getElem?_map getElem?_set length_set mem_of_getElem?)
open Nat(le_trans mul_le_mul_right)
namespace Go.Proofs.YtdlkcjkjnehnkaaGreatDoor
open Go.ChangeShapes Go.WideShapes Go.ChangeAt Go.RowKit Go.Lib
open _root_.Go.Proofs.Tryz
set_option linter.all false
set_option maxRecDepth 100000
set_option maxHeartbeats 32000000
theorem Ze(l:List (List UInt8))(v s:List UInt8):Qai (l++[v]) s=match Qai l s with|some k=>some k|none=>if v=s then some l.length else none:=by
 unfold Qai;rw[List.findIdx?_append]
 cases h:List.findIdx? (fun v=>decide (v=s)) l with
 |some k=>simp
 |none=>by_cases e:v=s<;>simp[e]
theorem Zf(l:List (List UInt8))(s:List UInt8):(Qai l s).isSome=decide (s∈l):=by
 unfold Qai;rw[List.findIdx?_isSome]
 induction l with
 |nil=>simp
 |cons a r ih=>
  simp only[List.any_cons,ih,List.mem_cons]
  by_cases e:a=s
  ·simp[e]
  ·have e':¬ s=a:=fun h=>e h.symm
   simp[e,e']
theorem VV:∀ (l:List (List UInt8 × Int)) (x:List UInt8 × Int) (seen:List (List UInt8)),Qcr (l++[x]) seen=Qcr l seen++if x.1∈seen++l.map (·.1) then [x.2] else []
 |[],(s,o),seen=>by simp[Qcr]
 |(s,o)::l,x,seen=>by
  simp only[List.cons_append,Qcr,VV l x,List.map_cons,List.append_assoc]
  congr 2
theorem K5{W W':World}{base e size n:Nat}{v:Value}{xs:List Value}(h:W.ownsRow base e size v n xs)(hb:∀ g,v.ownBlock=some g->W'.heap[g]?=W.heap[g]?):W'.ownsRow base e size v n xs:=by
 refine⟨h.1,h.2.imp id ?_⟩;rintro⟨g,cap,cur,rfl,h2,h3,h4⟩;exact⟨g,cap,cur,rfl,h2,(hb g rfl).trans h3,h4⟩
theorem JfP{P:Nat->Nat->Prop}{W W':World}{base e size n:Nat}{v:Value}{xs xs':List Value}(h:W.ownsRow base e size v n xs)(hl:xs'.length=xs.length)(hs:Qca P W W')(hc:∀ k u,xs'[k]?=some u->W'.cell? ⟨Value.blk v,k,none⟩=some u):W'.ownsRow base e size v n xs':=by
 refine⟨hl.trans h.1,?_⟩
 rcases h.2 with⟨rfl,rfl⟩|⟨g,cap,cur,rfl,h2,h3,h4,h5,h6,h7⟩
 ·exact .inl ⟨rfl,rfl⟩
 ·obtain⟨cs',c1,c2⟩:=hs.shape g cur e (0,0) h3;refine .inr ⟨g,cap,cs',rfl,h2,c1,h4,h5,c2.trans h6,List.ext_getElem? fun k=>?_⟩;rw[List.getElem?_take];have hx:xs'.length=n*size:=hl.trans h.1
  by_cases hk:k<n*size
  ·rw[if_pos hk];have hu:xs'[k]?=some (xs'[k]'(by omega)):=List.getElem?_eq_getElem (by omega);have:=hc k _ hu;rw[show Value.blk (.slice (some ⟨g,0,none⟩) n cap)=g from rfl,Ja c1]at this;rw[hu,<- this];simp
  ·rw[if_neg hk,List.getElem?_eq_none (by omega)]
theorem JaE{α:Type}{cells:α->List Value}{size:Nat}(hs:∀ x,(cells x).length=size):∀ (l:List α) (k:Nat) (u:Value),(l.flatMap cells)[k]?=some u->∃ m j x,k=m*size+j/\j<size/\l[m]?=some x/\(cells x)[j]?=some u
 |[],k,u,h=>by simp at h
 |a::l,k,u,h=>by
  rw[List.flatMap_cons]at h
  by_cases hk:k<size
  ·rw[List.getElem?_append_left (by rw[hs];exact hk)]at h;exact⟨0,k,a,by omega,hk,rfl,h⟩
  ·rw[List.getElem?_append_right (by rw[hs];omega),hs]at h;obtain⟨m,j,x,h1,h2,h3,h4⟩:=JaE hs l _ u h;exact⟨m+1,j,x,by rw[Nat.succ_mul];omega,h2,by simpa using h3,h4⟩
theorem YE{α:Type}{cells:α->List Value}{size:Nat}(hs:∀ x,(cells x).length=size)(l:List α):(l.flatMap cells).length=l.length*size:=by
 induction l with
 |nil=>simp
 |cons a l ih=>rw[List.flatMap_cons,List.length_append,hs,ih,List.length_cons,Nat.succ_mul];omega
theorem FnA.Ok.chgC{P:Nat->Nat->Prop}{W W':World}{f:FnA}(h:f.Ok W)(hc:Qca P W W')(hp:∀ b j,f.lo<=b->b<f.hi->¬ P b j):f.Ok W':=by
 obtain⟨m,m1,m2,m3,m4,m5⟩:=h.bmd;exact⟨K5 h.pown fun g hg=>hc.block g (h.pown.lt g hg).2 fun j=>hp g j (h.pown.lt g hg).1 (by have:=m3 g hg;omega),K5 h.town fun g hg=>hc.block g (h.town.lt g hg).2 fun j=>hp g j (h.town.lt g hg).1 (by have:=m4 g hg;omega),Yg hc _ h.bat fun b hb j=>hp b j (by have:=m5.2 b hb;omega) (m5.2 b hb).2,⟨m,m1,m2,m3,m4,m5⟩,le_trans h.hle hc.size⟩
theorem ClA.Ok.chgC{P:Nat->Nat->Prop}{W W':World}{c:ClA}(h:c.Ok W)(hc:Qca P W W')(hp:∀ b j,c.lo<=b->b<c.hi->¬ P b j):c.Ok W':=
 ⟨Yg hc _ h.at' fun b hb j=>hp b j (h.made.2 b hb).1 (h.made.2 b hb).2,h.made,h.hle.1,le_trans h.hle.2 hc.size⟩
theorem YF{l:List (Nat × Nat)}(h:l.Pairwise fun a b=>a.2<=b.1){i j:Nat}{a b:Nat × Nat}(hi:l[i]?=some a)(hj:l[j]?=some b)(hne:i≠j):a.2<=b.1\/b.2<=a.1:=by
 obtain⟨h1,e1⟩:=List.getElem?_eq_some_iff.1 hi;obtain⟨h2,e2⟩:=List.getElem?_eq_some_iff.1 hj;have hp:=List.pairwise_iff_getElem.1 h
 rcases Nat.lt_or_gt_of_ne hne with hl|hl
 ·have:=hp i j h1 h2 hl;rw[e1,e2]at this;exact .inl this
 ·have:=hp j i h2 h1 hl;rw[e1,e2]at this;exact .inr this
theorem VW(S:Qap){i:Nat}{f:FnA}(h:S.funcs[i]?=some f):S.ivs[i]?=some (f.lo,f.hi):=by
 unfold Qap.ivs;rw[List.getElem?_append_left (by rw[List.length_map];exact(List.getElem?_eq_some_iff.1 h).1),getElem?_map,h];rfl
theorem VX(S:Qap){i:Nat}{c:ClA}(h:S.clauses[i]?=some c):S.ivs[S.funcs.length+i]?=some (c.lo,c.hi):=by
 unfold Qap.ivs;rw[List.getElem?_append_right (by rw[List.length_map];omega),List.length_map,Nat.add_sub_cancel_left,getElem?_map,h];rfl
def Qap.setF(S:Qap)(i:Nat)(a:An):Qap:={ S with funcs:=match S.funcs[i]? with|none=>S.funcs|some f=>S.funcs.set i { f with body:=a } }
def Qap.setC(S:Qap)(i:Nat)(a:An):Qap:={ S with clauses:=match S.clauses[i]? with|none=>S.clauses|some c=>S.clauses.set i { c with cond:=a } }
theorem JaF{W:World}{f:FnA}(h:f.Ok W):∀ b∈foot f.body,f.lo<=b/\b<f.hi:=by
 obtain⟨m,m1,m2,m3,m4,m5⟩:=h.bmd;exact fun b hb=>⟨by have:=(m5.2 b hb).1;omega,(m5.2 b hb).2⟩
theorem Vh{W:World}{base e size n:Nat}{v:Value}{xs:List Value}(h:W.ownsRow base e size v n xs)(hn:0<n):v.ownBlock=some (Value.blk v):=by
 rcases h.2 with⟨rfl,rfl⟩|⟨g,cap,cur,rfl,_⟩
 ·omega
 ·rfl
theorem Qmn{P:Prop}(h:P:=by
  rw[hsf];unfold Qap.ivs;dsimp only
  congr 1
  refine List.ext_getElem? fun k=>?_
  rw[List.getElem?_map,List.getElem?_map,List.getElem?_set]
  by_cases hk:i=k
  ·subst hk;rw[if_pos rfl,if_pos hlt,hf];rfl
  ·rw[if_neg hk]):P:=h
theorem Qke{P:Prop}(h:P:=by
  refine(hc.block sb (Jb h.box) fun j hj=>?_).trans h.box
  rcases hP sb j hj with e|e|e<;>omega):P:=h
theorem Qka{P:Prop}(h:P:=by
  rcases hj with⟨e,_⟩|hj|e
  ·exact .inl e
  ·exact .inr (.inl (hfo b hj))
  ·exact .inr (.inr e)):P:=h
theorem QaL.resF{fs:List (List UInt8)}{rb:Nat}{t:TypeId}{mb:Nat}{W W':World}{sb:Nat}{S:Qap}{i:Nat}{f:FnA}{x:Option Int}{vars:List (List UInt8)}{e:Ending}(h:QaL W sb S)(hf:S.funcs[i]?=some f)(hr:Qdr fs rb t mb W (Value.blk S.fv) (i*10+5) x vars f.body e W')
  (hrb:sb<rb/\(∀ iv∈S.ivs,iv.2<=rb)/\S.fv.ownBlock≠some rb/\S.cv.ownBlock≠some rb):QaL W' sb (S.setF i (Qbu fs vars f.body)):=by
 obtain⟨_,hn,_,hc⟩:=hr;obtain⟨r1,r2,r3,r4⟩:=hrb;have hlt:=(List.getElem?_eq_some_iff.1 hf).1;have hmem:=mem_of_getElem? hf;obtain⟨fo,fs1,fs2⟩:=h.fok f hmem;have hfo:=JaF fo;have hivf:(f.lo,f.hi)∈S.ivs:=mem_of_getElem? (VW S hf);have hob:=Vh h.fown (by omega:0<S.funcs.length);have hfb:=(h.fown.lt _ hob).1;have hfi:=h.fout _ hob (f.lo,f.hi) hivf;have hne:Value.blk S.fv≠rb:=fun e=>r3 (by rw[hob,e])
 have hsf:S.setF i (Qbu fs vars f.body)={ S with funcs:=S.funcs.set i { f with body:=Qbu fs vars f.body } }:=by unfold Qap.setF;rw[hf]
 have hivs:(S.setF i (Qbu fs vars f.body)).ivs=S.ivs:=by
  exact Qmn
 have hP:∀ b j,Qez (Value.blk S.fv) (i*10+5) rb (foot f.body) b j->b=Value.blk S.fv\/(f.lo<=b/\b<f.hi)\/b=rb:=fun b j hj=>by
  exact Qka
 have hoth:∀ b j (iv:Nat × Nat),iv∈S.ivs->(f.hi<=iv.1\/iv.2<=f.lo)->iv.1<=b->b<iv.2->¬ Qez (Value.blk S.fv) (i*10+5) rb (foot f.body) b j:=fun b j iv hiv hd h1 h2 hj=>by
  have h3:=h.fout _ hob iv hiv;have h4:=r2 iv hiv
  rcases hP b j hj with e|e|e
  ·omega
  ·omega
  ·omega
 have hfn:(i*10+5)=i*10+5:=rfl;refine⟨?_,?_,?_,?_,?_,by rw[hivs];exact h.pair,by rw[hivs,hsf];exact h.fout,by rw[hivs,hsf];exact h.cout⟩
 ·rw[hsf];exact Qke
 ·rw[hsf];dsimp only;rw[length_set];refine JfP h.fown (by rw[YE FnA.cells_length,YE FnA.cells_length,length_set]) hc fun k u hk=>?_
  obtain⟨m,j,y,rfl,hj,hy,hu⟩:=JaE FnA.cells_length _ k u hk;rw[getElem?_set]at hy
  have hold:∀ y',S.funcs[m]?=some y'->y'.cells[j]?=some u->(m≠i\/j<5)->W'.cell? ⟨Value.blk S.fv,m*10+j,none⟩=some u:=fun y' hy' hu' hmj=>by
   have h1:=JZ h.fown (Kp FnA.cells_length S.funcs m j y' u hy' hu');refine(hc.cell _ _ (World.block_lt_of_cell? _ _ h1) fun hp=>?_).trans h1
   rcases hp with⟨_,h2,h3⟩|hp|hp
   ·rcases hmj with h4|h4
    ·rcases Nat.lt_or_gt_of_ne h4 with h5|h5
     ·have:(m+1)*10<=i*10:=mul_le_mul_right 10 h5;omega
     ·have:(i+1)*10<=m*10:=mul_le_mul_right 10 h5;omega
    ·by_cases h5:m=i
     ·subst h5;omega
     ·rcases Nat.lt_or_gt_of_ne h5 with h6|h6
      ·have:(m+1)*10<=i*10:=mul_le_mul_right 10 h6;omega
      ·have:(i+1)*10<=m*10:=mul_le_mul_right 10 h6;omega
   ·have:=hfo (Value.blk S.fv) hp;omega
   ·exact hne hp
  by_cases hmi:i=m
  ·subst hmi;rw[if_pos rfl,if_pos hlt]at hy;injection hy with hy;subst hy
   by_cases hj5:j<5
   ·refine hold f hf ?_ (.inr hj5);unfold FnA.cells at hu |-;rw[List.getElem?_append_left (by simpa using hj5)]at hu |-;exact hu
   ·unfold FnA.cells at hu;rw[List.getElem?_append_right (by simp;omega)]at hu;have:=hn.cells (j-5) u (by simpa using hu);rw[show i*10+j=i*10+5+(j-5) by omega];exact this
  ·rw[if_neg hmi]at hy;exact hold y hy hu (.inl fun e=>hmi e.symm)
 ·rw[hsf];refine K5 h.cown fun g hg=>hc.block g (h.cown.lt g hg).2 fun j hj=>?_
  have h1:=h.cout g hg (f.lo,f.hi) hivf
  rcases hP g j hj with e|e|e
  ·rcases Vq h.cown h.fown (by decide) with h2|h2
   ·rw[hg]at h2;cases h2
   ·exact h2 (by rw[hg,hob,e])
  ·omega
  ·exact r4 (by rw[hg,e])
 ·rw[hsf];intro y hy;dsimp only at hy;obtain⟨m,hm⟩:=List.getElem?_of_mem hy;rw[getElem?_set]at hm
  by_cases hmi:i=m
  ·subst hmi;rw[if_pos rfl,if_pos hlt]at hm;injection hm with hm;subst hm;obtain⟨m,m1,m2,m3,m4,m5⟩:=fo.bmd
   have hnot:∀ g,f.lo<=g->g<m->∀ j,¬ Qez (Value.blk S.fv) (i*10+5) rb (foot f.body) g j:=fun g h1 h2 j hj=>by
    have h3:=r2 _ hivf
    rcases hj with⟨e,_⟩|hj|e
    ·omega
    ·have:=(m5.2 g hj).1;omega
    ·omega
   refine⟨⟨K5 fo.pown fun g hg=>hc.block g (fo.pown.lt g hg).2 (hnot g (fo.pown.lt g hg).1 (m3 g hg)),K5 fo.town fun g hg=>hc.block g (fo.town.lt g hg).2 (hnot g (fo.town.lt g hg).1 (m4 g hg)),hn.at',⟨m,m1,m2,m3,m4,?_⟩,le_trans fo.hle hc.size⟩,fs1,fs2⟩;unfold QbY;rw[J8];exact m5
  ·rw[if_neg hmi]at hm;obtain⟨g1,g2,g3⟩:=h.fok y (mem_of_getElem? hm);refine⟨g1.chgC hc fun b j h1 h2=>hoth b j (y.lo,y.hi) (mem_of_getElem? (VW S hm)) (YF h.pair (VW S hf) (VW S hm) hmi) h1 h2,g2,g3⟩
 ·rw[hsf];intro c hcm;obtain⟨m,hm⟩:=List.getElem?_of_mem (show c∈S.clauses from hcm);obtain⟨g1,g2⟩:=h.cok c hcm;exact⟨g1.chgC hc fun b j h1 h2=>hoth b j (c.lo,c.hi) (mem_of_getElem? (VX S hm)) (YF h.pair (VW S hf) (VX S hm) (by omega)) h1 h2,g2⟩
theorem QaL.resC{fs:List (List UInt8)}{rb:Nat}{t:TypeId}{mb:Nat}{W W':World}{sb:Nat}{S:Qap}{i:Nat}{f:ClA}{x:Option Int}{vars:List (List UInt8)}{e:Ending}(h:QaL W sb S)(hf:S.clauses[i]?=some f)(hr:Qdr fs rb t mb W (Value.blk S.cv) (i*7) x vars f.cond e W')
  (hrb:sb<rb/\(∀ iv∈S.ivs,iv.2<=rb)/\S.fv.ownBlock≠some rb/\S.cv.ownBlock≠some rb):QaL W' sb (S.setC i (Qbu fs vars f.cond)):=by
 obtain⟨_,hn,_,hc⟩:=hr;obtain⟨r1,r2,r3,r4⟩:=hrb;have hlt:=(List.getElem?_eq_some_iff.1 hf).1;have hmem:=mem_of_getElem? hf;obtain⟨fo,fs1⟩:=h.cok f hmem;have hfo:∀ b∈foot f.cond,f.lo<=b/\b<f.hi:=fo.made.2;have hivf:(f.lo,f.hi)∈S.ivs:=mem_of_getElem? (VX S hf);have hob:=Vh h.cown (by omega:0<S.clauses.length);have hfb:=(h.cown.lt _ hob).1;have hfi:=h.cout _ hob (f.lo,f.hi) hivf;have hne:Value.blk S.cv≠rb:=fun e=>r4 (by rw[hob,e])
 have hsf:S.setC i (Qbu fs vars f.cond)={ S with clauses:=S.clauses.set i { f with cond:=Qbu fs vars f.cond } }:=by unfold Qap.setC;rw[hf]
 have hivs:(S.setC i (Qbu fs vars f.cond)).ivs=S.ivs:=by
  exact Qmn
 have hP:∀ b j,Qez (Value.blk S.cv) (i*7) rb (foot f.cond) b j->b=Value.blk S.cv\/(f.lo<=b/\b<f.hi)\/b=rb:=fun b j hj=>by
  exact Qka
 have hoth:∀ b j (iv:Nat × Nat),iv∈S.ivs->(f.hi<=iv.1\/iv.2<=f.lo)->iv.1<=b->b<iv.2->¬ Qez (Value.blk S.cv) (i*7) rb (foot f.cond) b j:=fun b j iv hiv hd h1 h2 hj=>by
  have h3:=h.cout _ hob iv hiv;have h4:=r2 iv hiv
  rcases hP b j hj with e|e|e
  ·omega
  ·omega
  ·omega
 refine⟨?_,?_,?_,?_,?_,by rw[hivs];exact h.pair,by rw[hivs,hsf];exact h.fout,by rw[hivs,hsf];exact h.cout⟩
 ·rw[hsf];exact Qke
 ·rw[hsf];refine K5 h.fown fun g hg=>hc.block g (h.fown.lt g hg).2 fun j hj=>?_
  have h1:=h.fout g hg (f.lo,f.hi) hivf
  rcases hP g j hj with e|e|e
  ·rcases Vq h.fown h.cown (by decide) with h2|h2
   ·rw[hg]at h2;cases h2
   ·exact h2 (by rw[hg,hob,e])
  ·omega
  ·exact r3 (by rw[hg,e])
 ·rw[hsf];dsimp only;rw[length_set];refine JfP h.cown (by rw[YE ClA.cells_length,YE ClA.cells_length,length_set]) hc fun k u hk=>?_
  obtain⟨m,j,y,rfl,hj,hy,hu⟩:=JaE ClA.cells_length _ k u hk;rw[getElem?_set]at hy
  have hold:∀ y',S.clauses[m]?=some y'->y'.cells[j]?=some u->(m≠i\/5<=j)->W'.cell? ⟨Value.blk S.cv,m*7+j,none⟩=some u:=fun y' hy' hu' hmj=>by
   have h1:=JZ h.cown (Kp ClA.cells_length S.clauses m j y' u hy' hu');refine(hc.cell _ _ (World.block_lt_of_cell? _ _ h1) fun hp=>?_).trans h1
   rcases hp with⟨_,h2,h3⟩|hp|hp
   ·by_cases h5:m=i
    ·subst h5
     rcases hmj with h4|h4
     ·exact h4 rfl
     ·omega
    ·rcases Nat.lt_or_gt_of_ne h5 with h6|h6
     ·have:(m+1)*7<=i*7:=mul_le_mul_right 7 h6;omega
     ·have:(i+1)*7<=m*7:=mul_le_mul_right 7 h6;omega
   ·have:=hfo (Value.blk S.cv) hp;omega
   ·exact hne hp
  by_cases hmi:i=m
  ·subst hmi;rw[if_pos rfl,if_pos hlt]at hy;injection hy with hy;subst hy
   by_cases hj5:j<5
   ·unfold ClA.cells at hu;rw[List.getElem?_append_left (by rw[Array.length_toList,J4];exact hj5)]at hu;exact hn.cells j u hu
   ·refine hold f hf ?_ (.inr (by omega));unfold ClA.cells at hu |-;rw[List.getElem?_append_right (by rw[Array.length_toList,J4];omega),Array.length_toList,J4]at hu |-;exact hu
  ·rw[if_neg hmi]at hy;exact hold y hy hu (.inl fun e=>hmi e.symm)
 ·rw[hsf];intro y hy;obtain⟨m,hm⟩:=List.getElem?_of_mem (show y∈S.funcs from hy);obtain⟨g1,g2⟩:=h.fok y hy;exact⟨g1.chgC hc fun b j h1 h2=>hoth b j (y.lo,y.hi) (mem_of_getElem? (VW S hm)) (YF h.pair (VX S hf) (VW S hm) (by have:=(List.getElem?_eq_some_iff.1 hm).1;omega)) h1 h2,g2⟩
 ·rw[hsf];intro y hy;dsimp only at hy;obtain⟨m,hm⟩:=List.getElem?_of_mem hy;rw[getElem?_set]at hm
  by_cases hmi:i=m
  ·subst hmi;rw[if_pos rfl,if_pos hlt]at hm;injection hm with hm;subst hm;refine⟨⟨hn.at',?_,fo.hle.1,le_trans fo.hle.2 hc.size⟩,fs1⟩;unfold QbY;rw[J8];exact fo.made
  ·rw[if_neg hmi]at hm;obtain⟨g1,g2⟩:=h.cok y (mem_of_getElem? hm);exact⟨g1.chgC hc fun b j h1 h2=>hoth b j (y.lo,y.hi) (mem_of_getElem? (VX S hm)) (YF h.pair (VX S hf) (VX S hm) (by omega)) h1 h2,g2⟩
theorem QaL.far{L:List Nat}{W W':World}{sb:Nat}{S:Qap}(h:QaL W sb S)(hc:Chg L W W')(hL:∀ b∈L,sb<b/\S.fv.ownBlock≠some b/\S.cv.ownBlock≠some b/\∀ iv∈S.ivs,iv.2<=b):QaL W' sb S:=by
 have hk:∀ {e size n:Nat} {v:Value} {xs:List Value},(∀ b∈L,v.ownBlock≠some b)->W.ownsRow (sb+1) e size v n xs->W'.ownsRow (sb+1) e size v n xs:=fun hn h=>K5 h fun g hg=>hc.block g (h.lt g hg).2 (fun hm=>hn g hm hg)
 exact⟨hc.heap_some (fun hm=>by have:=(hL sb hm).1;omega) h.box,hk (fun b hb=>(hL b hb).2.1) h.fown,hk (fun b hb=>(hL b hb).2.2.1) h.cown,
  fun f hf=>⟨(h.fok f hf).1.chg hc (fun b hb=>.inr ((hL b hb).2.2.2 (f.lo,f.hi) (List.mem_append_left _ (List.mem_map.2 ⟨f,hf,rfl⟩)))),(h.fok f hf).2⟩,
  fun c hc'=>⟨(h.cok c hc').1.chg hc (fun b hb=>.inr ((hL b hb).2.2.2 (c.lo,c.hi) (List.mem_append_right _ (List.mem_map.2 ⟨c,hc',rfl⟩)))),(h.cok c hc').2⟩,h.pair,h.fout,h.cout⟩
structure Rz(w W:World)(sb:Nat)(S:Qap)(mb rb mn:Nat)(f:List UInt8->Option Nat)(x:Option Int):Prop where
 ok:QaL W sb S
 flt:Qba W rb 142 x (.map (some mb))
 map:Qbg W mb mn f
 bel:Below sb w W
 sz:w.heap.size<=W.heap.size
 num:w.heap.size<=mb/\mb<rb/\sb<w.heap.size
 ivs:∀ iv∈S.ivs,iv.2<=w.heap.size
 rows:(∀ g,S.fv.ownBlock=some g->g<w.heap.size)/\(∀ g,S.cv.ownBlock=some g->g<w.heap.size)
section
variable {w W W':World} {sb:Nat} {S:Qap} {mb rb mn:Nat} {f:List UInt8->Option Nat} {x:Option Int}
theorem Kz{B:Nat}(h:Below B w W)(ho:W'.os=W.os)(ht:W'.tape=W.tape)(hp:W'.output=W.output)(hs:W.heap.size<=W'.heap.size)(hb:∀ k,k<B->W'.heap[k]?=W.heap[k]?):Below B w W':=
 ⟨ho.trans h.os,ht.trans h.tape,hp.trans h.output,le_trans h.size hs,fun k hk=>(hb k hk).trans (h.block k hk)⟩
theorem Rz.up(h:Rz w W sb S mb rb mn f x)(hb:Below W.heap.size W W'):Rz w W' sb S mb rb mn f x:=
 ⟨h.ok.on (Chg.of_below hb []) (by simp),(hb.block _ (Jb h.flt)).trans h.flt,h.map.same (hb.block mb h.map.lt),Kz h.bel hb.os hb.tape hb.output hb.size (fun k hk=>hb.block k (by have:=h.num;have:=h.sz;omega)),le_trans h.sz hb.size,h.num,h.ivs,h.rows⟩
theorem Rz.far(h:Rz w W sb S mb rb mn f x):∀ b,w.heap.size<=b->sb<b/\S.fv.ownBlock≠some b/\S.cv.ownBlock≠some b/\∀ iv∈S.ivs,iv.2<=b:=fun b hb=>
 ⟨by have:=h.num;omega,fun e=>by have:=h.rows.1 b e;omega,fun e=>by have:=h.rows.2 b e;omega,fun iv hi=>by have:=h.ivs iv hi;omega⟩
theorem Rz.add{e:Ending}{y:Int}(h:Rz w W sb S mb rb mn f x)(ha:QkI W rb 142 (addF x y) (.map (some mb)) e W'):Rz w W' sb S mb rb mn f (QaK x [y]):=by
 obtain⟨_,hf,hc⟩:=ha;obtain⟨n1,n2,n3⟩:=h.num;exact⟨h.ok.far hc (fun b hb=>h.far b (by simp at hb;omega)),hf,h.map.keep hc (by simp;omega),Kz h.bel hc.os hc.tape hc.output hc.size (fun k hk=>hc.block k (by have:=h.sz;omega) (by simp;omega)),le_trans h.sz hc.size,h.num,h.ivs,h.rows⟩
theorem Rz.put{f':List UInt8->Option Nat}{mn':Nat}(h:Rz w W sb S mb rb mn f x)(hm:Qbg W' mb mn' f')(hc:Chg [mb] W W'):Rz w W' sb S mb rb mn' f' x:=by
 obtain⟨n1,n2,n3⟩:=h.num;exact⟨h.ok.far hc (fun b hb=>h.far b (by simp at hb;omega)),hc.heap_some (by simp;omega) h.flt,hm,Kz h.bel hc.os hc.tape hc.output hc.size (fun k hk=>hc.block k (by have:=h.sz;omega) (by simp;omega)),le_trans h.sz hc.size,h.num,h.ivs,h.rows⟩
theorem Qmq{P:Prop}(h:P:=by
  unfold Qap.ivs;dsimp only
  congr 1
  refine List.ext_getElem? fun k=>?_
  rw[List.getElem?_map,List.getElem?_map,List.getElem?_set]
  by_cases hk:i=k
  ·subst hk;rw[if_pos rfl,if_pos (List.getElem?_eq_some_iff.1 hf).1,hf];rfl
  ·rw[if_neg hk]):P:=h
theorem Jib(S:Qap)(i:Nat)(a:An):(S.setF i a).ivs=S.ivs:=by
 unfold Qap.setF
 cases hf:S.funcs[i]? with
 |none=>rfl
 |some f=>
  exact Qmq
theorem Jic(S:Qap)(i:Nat)(a:An):(S.setC i a).ivs=S.ivs:=by
 unfold Qap.setC
 cases hf:S.clauses[i]? with
 |none=>rfl
 |some f=>
  exact Qmq
theorem Rz.preF{fs:List (List UInt8)}{vv:Value}{vars:List (List UInt8)}{g i:Nat}{fn:FnA}(h:Rz w W sb S mb rb mn (fun s=>Qai fs s) x)(hf:S.funcs[i]?=some fn)(hv:QcK W vv vars g)(hg:vars≠[]->rb<g)(hw:WfN fn.body.nd):QbS fs rb 142 mb mn W (Value.blk S.fv) (i*10+5) x vv vars g fn.body:=by
 obtain⟨n1,n2,n3⟩:=h.num;have hmem:=mem_of_getElem? hf;obtain⟨fo,fs1,fs2⟩:=h.ok.fok fn hmem;have hfo:=JaF fo;have hiv:(fn.lo,fn.hi)∈S.ivs:=mem_of_getElem? (VW S hf);have hih:=h.ivs _ hiv;have hob:=Vh h.ok.fown (by have:=(List.getElem?_eq_some_iff.1 hf).1;omega:0<S.funcs.length);have hbw:=h.rows.1 _ hob;have hbo:=h.ok.fout _ hob _ hiv
 obtain⟨cs,cap,cur,e1,e2,e3,e4⟩:∃ g cap cur,S.fv=.slice (some ⟨g,0,none⟩) S.funcs.length cap/\sb+1<=g/\W.heap[g]?=some (.cells cur 126 (0,0))/\True:=by
  rcases h.ok.fown.2 with⟨e,_⟩|⟨g,cap,cur,e,e2,e3,_⟩
  ·rw[e]at hob;cases hob
  ·exact⟨g,cap,cur,e,e2,e3,trivial⟩
 have hbb:Value.blk S.fv=cs:=by rw[e1];rfl
 refine⟨⟨fun j u hj=>?_,fun j=>by rw[hbb];exact Jc e3 j,fo.bat⟩,?_,fun hm=>by have:=hfo _ hm;omega,⟨fun hm=>by have:=hfo _ hm;omega,by omega⟩,fun hv=>⟨fun hm=>by have:=hfo _ hm;have:=hg hv;omega,by have:=hg hv;omega,by have:=hg hv;omega⟩,⟨fun hm=>by have:=hfo _ hm;omega,by omega,by omega⟩,h.flt,h.map,hv,hw⟩
 ·have h1:fn.cells[5+j]?=some u:=by
   unfold FnA.cells;rw[List.getElem?_append_right (by simp)];simpa using hj
  have:=JZ h.ok.fown (Kp FnA.cells_length S.funcs i (5+j) fn u hf h1);rw[Nat.add_assoc];exact this
 ·obtain⟨m,_,_,_,_,m5⟩:=fo.bmd;exact m5.1
theorem Rz.preC{fs:List (List UInt8)}{i:Nat}{c:ClA}(h:Rz w W sb S mb rb mn (fun s=>Qai fs s) x)(hf:S.clauses[i]?=some c)(hw:WfN c.cond.nd):QbS fs rb 142 mb mn W (Value.blk S.cv) (i*7) x (.slice none 0 0) [] 0 c.cond:=by
 obtain⟨n1,n2,n3⟩:=h.num;have hmem:=mem_of_getElem? hf;obtain⟨fo,fs1⟩:=h.ok.cok c hmem;have hfo:∀ b∈foot c.cond,c.lo<=b/\b<c.hi:=fo.made.2;have hiv:(c.lo,c.hi)∈S.ivs:=mem_of_getElem? (VX S hf);have hih:=h.ivs _ hiv;have hob:=Vh h.ok.cown (by have:=(List.getElem?_eq_some_iff.1 hf).1;omega:0<S.clauses.length);have hbw:=h.rows.2 _ hob;have hbo:=h.ok.cout _ hob _ hiv
 obtain⟨cs,cap,cur,e1,e2,e3,e4⟩:∃ g cap cur,S.cv=.slice (some ⟨g,0,none⟩) S.clauses.length cap/\sb+1<=g/\W.heap[g]?=some (.cells cur 130 (0,0))/\True:=by
  rcases h.ok.cown.2 with⟨e,_⟩|⟨g,cap,cur,e,e2,e3,_⟩
  ·rw[e]at hob;cases hob
  ·exact⟨g,cap,cur,e,e2,e3,trivial⟩
 have hbb:Value.blk S.cv=cs:=by rw[e1];rfl
 refine⟨⟨fun j u hj=>?_,fun j=>by rw[hbb];exact Jc e3 j,fo.at'⟩,fo.made.1,fun hm=>by have:=hfo _ hm;omega,⟨fun hm=>by have:=hfo _ hm;omega,by omega⟩,fun hv=>absurd rfl hv,⟨fun hm=>by have:=hfo _ hm;omega,by omega,by omega⟩,h.flt,h.map,⟨none,0,rfl,⟨Nat.le_refl _,fun _=>⟨rfl,rfl⟩⟩,fun hv=>absurd rfl hv⟩,hw⟩
 have h1:c.cells[j]?=some u:=by
  unfold ClA.cells;rw[List.getElem?_append_left (List.getElem?_eq_some_iff.1 hj).1];exact hj
 exact JZ h.ok.cown (Kp ClA.cells_length S.clauses i j c u hf h1)
theorem Rz.resF{fs:List (List UInt8)}{vars:List (List UInt8)}{i:Nat}{fn:FnA}{e:Ending}(h:Rz w W sb S mb rb mn (fun s=>Qai fs s) x)(hf:S.funcs[i]?=some fn)(hr:Qdr fs rb 142 mb W (Value.blk S.fv) (i*10+5) x vars fn.body e W'):Rz w W' sb (S.setF i (Qbu fs vars fn.body)) mb rb mn (fun s=>Qai fs s) (QaK x (Qcl fs vars fn.body.nd).2):=by
 obtain⟨n1,n2,n3⟩:=h.num;have hfar:=h.far rb (by omega);have hok:=h.ok.resF hf hr ⟨hfar.1,hfar.2.2.2,hfar.2.1,hfar.2.2.1⟩;obtain⟨_,hn,hfl,hc⟩:=hr;have hob:=Vh h.ok.fown (by have:=(List.getElem?_eq_some_iff.1 hf).1;omega:0<S.funcs.length);have hfb:=(h.ok.fown.lt _ hob).1;have hbw:=h.rows.1 _ hob;obtain⟨fo,fs1,fs2⟩:=h.ok.fok fn (mem_of_getElem? hf);have hih:=h.ivs _ (mem_of_getElem? (VW S hf))
 have hP:∀ b j,Qez (Value.blk S.fv) (i*10+5) rb (foot fn.body) b j->b=Value.blk S.fv\/(fn.lo<=b/\b<fn.hi)\/b=rb:=fun b j hj=>by
  rcases hj with⟨e,_⟩|hj|e
  ·exact .inl e
  ·exact .inr (.inl (JaF fo b hj))
  ·exact .inr (.inr e)
 refine⟨hok,hfl,h.map.same (hc.block mb h.map.lt fun j hj=>by rcases hP mb j hj with e|e|e<;>omega),Kz h.bel hc.os hc.tape hc.output hc.size (fun k hk=>hc.block k (by have:=h.sz;omega) fun j hj=>by rcases hP k j hj with e|e|e<;>omega),le_trans h.sz hc.size,h.num,by rw[Jib];exact h.ivs,h.rows⟩
theorem Rz.resC{fs:List (List UInt8)}{vars:List (List UInt8)}{i:Nat}{c:ClA}{e:Ending}(h:Rz w W sb S mb rb mn (fun s=>Qai fs s) x)(hf:S.clauses[i]?=some c)(hr:Qdr fs rb 142 mb W (Value.blk S.cv) (i*7) x vars c.cond e W'):Rz w W' sb (S.setC i (Qbu fs vars c.cond)) mb rb mn (fun s=>Qai fs s) (QaK x (Qcl fs vars c.cond.nd).2):=by
 obtain⟨n1,n2,n3⟩:=h.num;have hfar:=h.far rb (by omega);have hok:=h.ok.resC hf hr ⟨hfar.1,hfar.2.2.2,hfar.2.1,hfar.2.2.1⟩;obtain⟨_,hn,hfl,hc⟩:=hr;have hob:=Vh h.ok.cown (by have:=(List.getElem?_eq_some_iff.1 hf).1;omega:0<S.clauses.length);have hfb:=(h.ok.cown.lt _ hob).1;have hbw:=h.rows.2 _ hob;obtain⟨fo,fs1⟩:=h.ok.cok c (mem_of_getElem? hf);have hih:=h.ivs _ (mem_of_getElem? (VX S hf))
 have hP:∀ b j,Qez (Value.blk S.cv) (i*7) rb (foot c.cond) b j->b=Value.blk S.cv\/(c.lo<=b/\b<c.hi)\/b=rb:=fun b j hj=>by
  rcases hj with⟨e,_⟩|hj|e
  ·exact .inl e
  ·exact .inr (.inl (fo.made.2 b hj))
  ·exact .inr (.inr e)
 refine⟨hok,hfl,h.map.same (hc.block mb h.map.lt fun j hj=>by rcases hP mb j hj with e|e|e<;>omega),Kz h.bel hc.os hc.tape hc.output hc.size (fun k hk=>hc.block k (by have:=h.sz;omega) fun j hj=>by rcases hP k j hj with e|e|e<;>omega),le_trans h.sz hc.size,h.num,by rw[Jic];exact h.ivs,h.rows⟩
end
end Go.Proofs.YtdlkcjkjnehnkaaGreatDoor
