
import Derived.Test.YtncanmdgdflnpaaGreatDoorV29
import Derived.Test.YtncanmdgdflnpaaGreatDoorV36
namespace Go.Proofs.YtncanmdgdflnpaaGreatDoor
open Go.ChangeShapes Go.WideShapes Go.ChangeAt Go.RowKit Go.Lib
open _root_.Go.Proofs.Tryz
set_option linter.all false
set_option maxRecDepth 100000
set_option maxHeartbeats 32000000
def TreeV (w:World) (b:Nat) (E:Exp):Prop:=∃ ad cc,∀ W,Bel w W→(W.cell? ⟨b,0,none⟩=some (.int .i64 E.kind)∧W.cell? ⟨b,1,none⟩=some (.int .i64 E.num)∧W.cell? ⟨b,2,none⟩=some (.string (bs E.name))∧W.cell? ⟨b,3,none⟩=some (.slice ad E.kids.length cc))∧
 XAt W (fun q=>q<w.heap.size) E #[.int .i64 E.kind,.int .i64 E.num,.string (bs E.name),.slice ad E.kids.length cc]
theorem vx90 {P:Prop}(h:P:=by
  obtain ⟨ad,cc,h⟩:=h;refine ⟨ad,cc,fun W hW=>?_⟩;obtain ⟨h1,h2⟩:=h W (Je hb hW)
  exact ⟨h1,XAt.keep (fun _ _=>rfl) (fun q hq=>Nat.lt_of_lt_of_le hq hb.size) _ _ h2⟩):P:=h
theorem TreeV.up {w w1:World} {b:Nat} {E:Exp} (h:TreeV w b E) (hb:Bel w w1):TreeV w1 b E:=by
 exact vx90
theorem TreeV.of {w:World} {b t:Nat} {E:Exp} {c:Array Value} (hz:w.heap[b]?=some (.cells c t (0,0))) (hx:XAt w (In w) E c):TreeV w b E:=by
 obtain ⟨ad,cc,rfl,_⟩:=hx.form;exact ⟨ad,cc,fun W hW=>⟨Kg ((hW.block _ (Jb hz)).trans hz),XAt.keep (fun q hq=>hW.block q hq) (fun _ h=>h) _ _ hx⟩⟩
def RuleV (w:World) (b:Nat) (r:RuleM):Prop:=∃ fa fc ca cc,∀ W,Bel w W→(W.cell? ⟨b,0,none⟩=some (.slice fa r.funcs.length fc)∧W.cell? ⟨b,1,none⟩=some (.slice ca r.clauses.length cc)∧W.cell? ⟨b,2,none⟩=some (.int .i64 r.action))∧
 RuleX W (fun q=>q<w.heap.size) r #[.slice fa r.funcs.length fc,.slice ca r.clauses.length cc,.int .i64 r.action]
theorem RuleV.up {w w1:World} {b:Nat} {r:RuleM} (h:RuleV w b r) (hb:Bel w w1):RuleV w1 b r:=by
 obtain ⟨fa,fc,ca,cc,h⟩:=h;refine ⟨fa,fc,ca,cc,fun W hW=>?_⟩;obtain ⟨h1,h2⟩:=h W (Je hb hW);exact ⟨h1,RuleX.keep (fun _ _=>rfl) (fun q hq=>Nat.lt_of_lt_of_le hq hb.size) h2⟩
theorem KL {W:World} {b t:Nat} {a0 a1 a2:Value} {fr:Nat × Nat} (h:W.heap[b]?=some (.cells #[a0,a1,a2] t fr)) :
  W.cell? ⟨b,0,none⟩=some a0∧W.cell? ⟨b,1,none⟩=some a1∧W.cell? ⟨b,2,none⟩=some a2:=by
 refine ⟨?_,?_,?_⟩ <;> (rw[Ja h]; rfl)
theorem VS {W:World} {b t:Nat} {cs:Array Value} (h:W.heap[b]?=some (.cells cs t (0,0))) :
  W.frozen? ⟨b,0,none⟩=false∧W.frozen? ⟨b,1,none⟩=false∧W.frozen? ⟨b,2,none⟩=false:=⟨Jc h 0,Jc h 1,Jc h 2⟩
theorem RuleX.form {W:World} {P:Nat→Prop} {r:RuleM} {c:Array Value} (h:RuleX W P r c):∃ fa fc ca cc,c=#[.slice fa r.funcs.length fc,.slice ca r.clauses.length cc,.int .i64 r.action]:=by
 obtain ⟨fv,cv,rfl,⟨fa,fc,_,rfl,_⟩,⟨ca,cc,_,rfl,_⟩⟩:=h;exact ⟨_,_,_,_,rfl⟩
theorem RuleV.of {w:World} {b t:Nat} {r:RuleM} {c:Array Value} (hz:w.heap[b]?=some (.cells c t (0,0))) (hx:RuleX w (In w) r c):RuleV w b r:=by
 obtain ⟨fa,fc,ca,cc,rfl⟩:=hx.form;exact ⟨fa,fc,ca,cc,fun W hW=>⟨KL ((hW.block _ (Jb hz)).trans hz),RuleX.keep (fun q hq=>hW.block q hq) (fun _ h=>h) hx⟩⟩
def put3 (W:World) (b:Nat) (v0 v1 v2:Value):World:=((W.setCell ⟨b,0,none⟩ v0).setCell ⟨b,1,none⟩ v1).setCell ⟨b,2,none⟩ v2
theorem JcA {w W:World} {b:Nat} (v0 v1 v2:Value) (h:Bel w W) (hb:w.heap.size≤b):Bel w (put3 W b v0 v1 v2):=
 ((h.setCell (p:=⟨b,0,none⟩) hb v0).setCell (p:=⟨b,1,none⟩) hb v1).setCell (p:=⟨b,2,none⟩) hb v2
theorem JgR {S:List Nat} {W:World} {b:Nat} (v0 v1 v2:Value) (hb:b∈S):Chg S W (put3 W b v0 v1 v2):=
 (((Chg.refl S W).setCell (.inl hb) v0).setCell (.inl hb) v1).setCell (.inl hb) v2
theorem Jdy {W:World} {b q:Nat} (v0 v1 v2:Value) (hq:q≠b) (hs:q<W.heap.size):(put3 W b v0 v1 v2).heap[q]?=W.heap[q]?:=(JgR (S:=[b]) v0 v1 v2 (by simp)).block q hs (by simpa using hq)
theorem JaX (W:World) (b:Nat) (v0 v1 v2:Value):(put3 W b v0 v1 v2).heap.size=W.heap.size:=by simp[put3,World.setCell]
theorem RuleV.put {w9:World} {b t:Nat} {a0 a1 a2:Value} {r:RuleM} {fa ca:Option Addr} {fc cc:Nat} (hz:w9.heap[b]?=some (.cells #[a0,a1,a2] t (0,0))) (hx:RuleX w9 (fun q=>q<w9.heap.size∧q≠b) r #[.slice fa r.funcs.length fc,.slice ca r.clauses.length cc,.int .i64 r.action]) :
  RuleV (put3 w9 b (.slice fa r.funcs.length fc) (.slice ca r.clauses.length cc) (.int .i64 r.action)) b r:=by
 have h:=blk3Z (.slice fa r.funcs.length fc) (.slice ca r.clauses.length cc) (.int .i64 r.action) hz;exact ⟨fa,fc,ca,cc,fun W hW=>⟨KL ((hW.block _ (Jb h)).trans h),RuleX.keep (fun q hq=>(hW.block q (by rw[JaX]; exact hq.1)).trans (Jdy _ _ _ hq.2 hq.1)) (fun q hq=>by rw[JaX]; exact hq.1) hx⟩⟩
theorem whenXr {W:World} {P:Nat→Prop} {r:RuleM} {E:Exp} {fv cv:Value} {n:Int} {k m:Int} {s:List UInt8} {ad:Option Addr} {ln lc b:Nat} (hr:RuleX W P r #[fv,cv,.int .i64 n]) (hx:XAt W P E #[.int .i64 k,.int .i64 m,.string (bs s),.slice ad ln lc]) (hb:W.heap[b]?=some (.cells #[.int .i64 k,.int .i64 m,.string (bs s),.slice ad ln lc,.int .i64 3,.string (bs [120])] 62 (0,0))) (hP:P b) :
  RuleX W P (whenM r E) #[fv,.slice (some ⟨b,0,none⟩) 1 1,.int .i64 r.action]:=by
 obtain ⟨fv',cv',he,hf,_⟩:=hr;obtain rfl:fv=fv':=by injection he with he; injection he
 exact ⟨fv,.slice (some ⟨b,0,none⟩) 1 1,rfl,hf,some ⟨b,0,none⟩,1,[.int .i64 k,.int .i64 m,.string (bs s),.slice ad ln lc,.int .i64 3,.string (bs [120])],rfl,Nat.le_refl _,⟨_,[],⟨_,hx,rfl⟩,rfl,rfl⟩,.inr ⟨b,0,rfl,hP,fun j u hj=>by rw[Nat.zero_add]; exact Kb hb (by simpa using hj)⟩⟩
mutual
theorem YS:∀ (e:Exp) (d:Nat) (n:Int),0≤leftN d n e→(siz (utN e):Int)≤n-leftN d n e
 | .mk k m s l,d,n,h=>by
  rw[leftN] at h ⊢;have:=JaY l d (n-1) h;unfold utN;rw[Jz];omega
theorem JaY:∀ (l:List Exp) (d:Nat) (n:Int),0≤leftL d n l→(sizL (utL l):Int)≤n-leftL d n l
 | [],d,n,h=>by
  rw[YP] at h ⊢;unfold utL;rw[JB];split at h
  ·omega
  ·rw[if_neg (by omega)]; omega
 | a::l,d,n,h=>by
  rw[K8] at h ⊢;split at h
  ·omega
  ·rw[if_neg (by omega)]
   cases d with
   | zero=>exact absurd h (by simp[leftK])
   | succ d=>
    have h':0≤leftL (d+1) (leftN d n a) l:=h
    have h0:0≤leftN d n a:=by
     by_cases h0:0≤leftN d n a
     ·exact h0
     ·rw[KW (d+1) (by omega) l] at h'; omega
    have h1:=YS a d n h0;have h2:=JaY l (d+1) _ h'
    show _≤n-leftL (d+1) (leftN d n a) l
    rw[utL,Jy];omega
end
theorem JcB (e:Exp):1≤siz (utN e):=by cases e; unfold utN; rw[Jz]; omega
theorem JaZ:∀ (l:List FnM) (n:Int),0≤lightF n l→lightF n l≤n∧(l.length:Int)≤n∧∀ f∈l,(f.params.length:Int)≤n∧(siz (utN f.body):Int)≤n
 | [],n,h=>by rw[lightF] at h ⊢; exact ⟨by omega,by simpa using h,fun f hf=>by cases hf⟩
 | f::l,n,h=>by
  rw[lightF] at h ⊢;split at h
  ·omega
  ·rw[if_neg (by omega)];obtain ⟨h1,h2,h3⟩:=JaZ l _ h;have h4:=YS f.body 60 (n-f.params.length) (by omega);have h5:=JcB f.body;refine ⟨by omega,by simp; omega,fun g hg=>?_⟩
   rcases List.mem_cons.1 hg with rfl | hg
   ·exact ⟨by omega,by omega⟩
   ·obtain ⟨h6,h7⟩:=h3 g hg;exact ⟨by omega,by omega⟩
theorem Jba:∀ (l:List ClM) (n:Int),0≤lightC n l→lightC n l≤n∧(l.length:Int)≤n∧∀ f∈l,(siz (utN f.cond):Int)≤n
 | [],n,h=>by rw[lightC] at h ⊢; exact ⟨by omega,by simpa using h,fun f hf=>by cases hf⟩
 | f::l,n,h=>by
  rw[lightC] at h ⊢;split at h
  ·omega
  ·rw[if_neg (by omega)];obtain ⟨h1,h2,h3⟩:=Jba l _ h;have h4:=YS f.cond 60 n (by omega);have h5:=JcB f.cond;refine ⟨by omega,by simp; omega,fun g hg=>?_⟩
   rcases List.mem_cons.1 hg with rfl | hg
   ·omega
   ·have:=h3 g hg; omega
theorem Jbb {r:RuleM} {F:FactsM} (h:lightM r F=true) (hr:RNm r):RSz r:=by
 unfold lightM at h;simp only[Bool.and_eq_true,decide_eq_true_eq] at h;obtain ⟨⟨h1,_⟩,_⟩:=h;obtain ⟨h2,h3,h4⟩:=Jba _ _ h1;obtain ⟨h5,h6,h7⟩:=JaZ _ _ (by omega:0≤lightF 300 r.funcs);refine ⟨by omega,by omega,fun f hf=>?_,fun c hc=>?_⟩
 ·obtain ⟨g1,g2,g3⟩:=hr.fn f hf;obtain ⟨g4,g5⟩:=h7 f hf;exact ⟨g1,by omega,g3,by omega⟩
 ·obtain ⟨g1,g2⟩:=hr.cl c hc;have:=h4 c hc;exact ⟨g1,by omega,g2⟩
theorem RNm.len {r:RuleM} (h:RNm r):RLen r:=⟨h.nf,h.nc,fun f hf=>(h.fn f hf).2.1⟩
theorem RNm.when {r:RuleM} (h:RNm r) {E:Exp} (hE:NmN E):RNm (whenM r E):=⟨h.nf,by simp[whenM],h.fn,fun c hc=>by
 obtain rfl:c=⟨E,3,[120]⟩:=by simpa[whenM] using hc
 exact ⟨hE,by simp⟩⟩
theorem Jft {k:Int} {l:List Exp} (h:∀ e∈l,NmN e):NmN (opE k l):=by
 unfold opE NmN;refine ⟨by simp,?_⟩
 induction l with
 | nil=>unfold NmL; trivial
 | cons a l ih=>unfold NmL; exact ⟨h a (by simp),ih fun e he=>h e (by simp[he])⟩
def FactsV (w:World) (b:Nat) (F:FactsM) (la wa:Option Addr) (lc wc:Nat):Prop:=∀ W,Bel w W→(W.cell? ⟨b,0,none⟩=some (.slice la F.labels.length lc)∧W.cell? ⟨b,1,none⟩=some (.int .i64 F.likes)∧W.cell? ⟨b,2,none⟩=some (.int .i64 F.boosts)∧W.cell? ⟨b,3,none⟩=some (.int .i64 F.replies)∧W.cell? ⟨b,4,none⟩=some (.int .i64 F.reports)∧W.cell? ⟨b,5,none⟩=some (.int .i64 F.age)∧W.cell? ⟨b,6,none⟩=some (.int .i64 F.home)∧W.cell? ⟨b,7,none⟩=some (.int .i64 F.scope)∧W.cell? ⟨b,8,none⟩=some (.int .i64 F.length)∧W.cell? ⟨b,9,none⟩=some (.bool F.follows)∧W.cell? ⟨b,10,none⟩=some (.bool F.reply)∧W.cell? ⟨b,11,none⟩=some (.slice wa F.words.length wc))∧
 LabsAt W (.slice la F.labels.length lc) F.labels∧WordsAt W (.slice wa F.words.length wc) F.words
theorem FactsV.up {w w1:World} {b:Nat} {F:FactsM} {la wa:Option Addr} {lc wc:Nat} (h:FactsV w b F la wa lc wc) (hb:Bel w w1):FactsV w1 b F la wa lc wc:=fun W hW=>h W (Je hb hW)
theorem FactsV.of {w:World} {b t:Nat} {F:FactsM} {la wa:Option Addr} {lc wc:Nat} (hz:w.heap[b]?=some (.cells (factsC F (.slice la F.labels.length lc) (.slice wa F.words.length wc)) t (0,0))) (hl:LabsAt w (.slice la F.labels.length lc) F.labels) (hw:WordsAt w (.slice wa F.words.length wc) F.words):FactsV w b F la wa lc wc:=by
 intro W hW;have hf:=(hW.block _ (Jb hz)).trans hz;unfold factsC at hf;refine ⟨⟨?_,?_,?_,?_,?_,?_,?_,?_,?_,?_,?_,?_⟩,hl.up hW,hw.up hW⟩ <;> (rw[Ja hf]; rfl)
theorem boxes4 (w:World) (o0 o1 o2 o3:Obj):Bel w ((((w.alloc o0).alloc o1).alloc o2).alloc o3)∧((((w.alloc o0).alloc o1).alloc o2).alloc o3).heap[w.heap.size]?=some o0∧((((w.alloc o0).alloc o1).alloc o2).alloc o3).heap[w.heap.size+1]?=some o1∧
  ((((w.alloc o0).alloc o1).alloc o2).alloc o3).heap[w.heap.size+1+1]?=some o2∧((((w.alloc o0).alloc o1).alloc o2).alloc o3).heap[w.heap.size+1+1+1]?=some o3:=by
 have h0:=heap_alloc_new w o0;have h1:=heap_alloc_new (w.alloc o0) o1;have h2:=heap_alloc_new ((w.alloc o0).alloc o1) o2;have h3:=heap_alloc_new (((w.alloc o0).alloc o1).alloc o2) o3;simp only[World.size_alloc] at h1 h2 h3;exact ⟨((((Below.refl _ _).alloc (Nat.le_refl _) _).alloc (by simp) _).alloc (by simp; omega) _).alloc (by simp; omega) _,Jf (Jf (Jf h0)),Jf (Jf h1),Jf h2,h3⟩
theorem Jfu {w9:World} {x y t u:Nat} {a0 a1 a2 a3 b0 b1 b2 b3:Value} {E G:Exp} {ad ae:Option Addr} {cc ce:Nat} (hx:w9.heap[x]?=some (.cells #[a0,a1,a2,a3] t (0,0))) (hy:w9.heap[y]?=some (.cells #[b0,b1,b2,b3] u (0,0))) (hne:x≠y)
  (hX:XAt w9 (fun q=>q<w9.heap.size∧q≠x∧q≠y) E #[.int .i64 E.kind,.int .i64 E.num,.string (bs E.name),.slice ad E.kids.length cc]) (hY:XAt w9 (fun q=>q<w9.heap.size∧q≠x∧q≠y) G #[.int .i64 G.kind,.int .i64 G.num,.string (bs G.name),.slice ae G.kids.length ce]) :
  TreeV (put4 (put4 w9 x (.int .i64 E.kind) (.int .i64 E.num) (.string (bs E.name)) (.slice ad E.kids.length cc)) y (.int .i64 G.kind) (.int .i64 G.num) (.string (bs G.name)) (.slice ae G.kids.length ce)) x E∧
  TreeV (put4 (put4 w9 x (.int .i64 E.kind) (.int .i64 E.num) (.string (bs E.name)) (.slice ad E.kids.length cc)) y (.int .i64 G.kind) (.int .i64 G.num) (.string (bs G.name)) (.slice ae G.kids.length ce)) y G∧
  (put4 w9 x (.int .i64 E.kind) (.int .i64 E.num) (.string (bs E.name)) (.slice ad E.kids.length cc)).heap[y]?=some (.cells #[b0,b1,b2,b3] u (0,0)):=by
 have hx1:=blk4Z (.int .i64 E.kind) (.int .i64 E.num) (.string (bs E.name)) (.slice ad E.kids.length cc) hx;have hy1:=(K6 (W:=w9) (b:=x) (.int .i64 E.kind) (.int .i64 E.num) (.string (bs E.name)) (.slice ad E.kids.length cc) (Ne.symm hne) (Jb hy)).trans hy;have hx2:=(K6 (W:=put4 w9 x (.int .i64 E.kind) (.int .i64 E.num) (.string (bs E.name)) (.slice ad E.kids.length cc)) (b:=y) (.int .i64 G.kind) (.int .i64 G.num) (.string (bs G.name)) (.slice ae G.kids.length ce) hne (Jb hx1)).trans hx1;have hy2:=blk4Z (.int .i64 G.kind) (.int .i64 G.num) (.string (bs G.name)) (.slice ae G.kids.length ce) hy1
 have hk:∀ q,(q<w9.heap.size∧q≠x∧q≠y)→(put4 (put4 w9 x (.int .i64 E.kind) (.int .i64 E.num) (.string (bs E.name)) (.slice ad E.kids.length cc)) y (.int .i64 G.kind) (.int .i64 G.num) (.string (bs G.name)) (.slice ae G.kids.length ce)).heap[q]?=w9.heap[q]?:=fun q hq=>
  (K6 _ _ _ _ hq.2.2 (by rw[Kc]; exact hq.1)).trans (K6 _ _ _ _ hq.2.1 hq.1)
 refine ⟨⟨ad,cc,fun W hW=>⟨Kg ((hW.block _ (Jb hx2)).trans hx2),XAt.keep (fun q hq=>(hW.block q (by rw[Kc,Kc]; exact hq.1)).trans (hk q hq)) (fun q hq=>by rw[Kc,Kc]; exact hq.1) _ _ hX⟩⟩,
  ⟨ae,ce,fun W hW=>⟨Kg ((hW.block _ (Jb hy2)).trans hy2),XAt.keep (fun q hq=>(hW.block q (by rw[Kc,Kc]; exact hq.1)).trans (hk q hq)) (fun q hq=>by rw[Kc,Kc]; exact hq.1) _ _ hY⟩⟩,hy1⟩
theorem JgS {W:World} {b:Nat} {l:List Exp} {cs:Array Value} (hr:RowX W (In W) l cs.toList) (hb:W.heap[b]?=some (.cells cs 50 (0,0))):KidsX W (some ⟨b,0,none⟩) l:=by
 obtain ⟨ad,cc,he,_,hK⟩:=XAt.kids (JeS (k:=0) (n:=0) (s:=[]) hr hb (Jb hb));have h:=congrArg (fun c:Array Value=>c.getD 3 undef) he;simp at h;obtain ⟨h1,_⟩:=h;rw[← h1] at hK;exact hK
def TreeO (w:World) (b o:Nat) (E:Exp):Prop:=∃ ad cc,∀ W,Bel w W→(W.cell? ⟨b,o,none⟩=some (.int .i64 E.kind)∧W.cell? ⟨b,o+1,none⟩=some (.int .i64 E.num)∧W.cell? ⟨b,o+2,none⟩=some (.string (bs E.name))∧W.cell? ⟨b,o+3,none⟩=some (.slice ad E.kids.length cc))∧
 XAt W (fun q=>q<w.heap.size) E #[.int .i64 E.kind,.int .i64 E.num,.string (bs E.name),.slice ad E.kids.length cc]
theorem TreeO.up {w w1:World} {b o:Nat} {E:Exp} (h:TreeO w b o E) (hb:Bel w w1):TreeO w1 b o E:=by
 exact vx90
theorem KidsX.tree {w:World} {b:Nat} {l:List Exp} (h:KidsX w (some ⟨b,0,none⟩) l) {i:Nat} {y:Exp} (hi:l[i]?=some y):TreeO w b (i*4) y:=by
 obtain ⟨b',o,h1,h2,h3⟩:=h (List.ne_nil_of_mem (List.mem_of_getElem? hi));injection h1 with h1;injection h1 with e1 e2;subst e1 e2;obtain ⟨d,h4,h5⟩:=h3 i y hi;obtain ⟨da,dc,rfl,_⟩:=h4.form;refine ⟨da,dc,fun W hb=>?_⟩;have hc:∀ j u,_→W.cell? ⟨b,i*4+j,none⟩=some u:=fun j u hu=>(World.cell?_of_block (a:=⟨b,i*4+j,none⟩) (hb.block b h2)).trans (by have h6:=h5 j u hu; rw[Nat.zero_add] at h6; exact h6)
 exact ⟨⟨hc 0 _ rfl,hc 1 _ rfl,hc 2 _ rfl,hc 3 _ rfl⟩,XAt.keep (fun q hq=>hb.block q hq) (fun q hq=>hq) _ _ h4⟩
theorem Jit (X:OutM) (W:World):(binOp .neq 36 (.agg (outC X)) (.agg (outC X))).run prog W=.ok (.bool false) W:=by
 have h:=Jiq X X W;rw[run_eql_struct] at h;rw[run_neq_struct]
 cases hq:(Op.equalIn 10000 36 (.agg (outC X)) (.agg (outC X))).run prog W with
 | ok b w'=>
  rw[hq] at h;simp[Result.andThen] at h ⊢;exact h
 | _=>rw[hq] at h; simp[Result.andThen] at h
theorem Va {E:Exp} (h:NmN E):NmN (opE 7 [E]):=Jft (by simpa using h)
theorem ZW {k:Int} {E G:Exp} (h:NmN E) (g:NmN G):NmN (opE k [E,G]):=Jft (by simpa using ⟨h,g⟩)
theorem Jbc {k:Int} {E G H:Exp} (h:NmN E) (g:NmN G) (f:NmN H):NmN (opE k [E,G,H]):=Jft (by simpa using ⟨h,g,f⟩)
def pairsL (X Y:Exp):List Exp:=[opE 7 [opE 16 [X,Y]],opE 17 [opE 7 [X],opE 7 [Y]],opE 7 [opE 17 [X,Y]],opE 16 [opE 7 [X],opE 7 [Y]],opE 18 [X,Y,opE 7 [opE 7 [Y]]],opE 18 [opE 7 [opE 7 [X]],Y,Y]]
theorem JbO (r:RuleM) (F:FactsM) {X Y:Exp} (nX:NmN X) (nY:NmN Y):∀ i j,j=2*i→i<3→∃ U V,(pairsL X Y)[j]?=some U∧(pairsL X Y)[j+1]?=some V∧NmN U∧NmN V∧(rightM (whenM r U)=true→rightM (whenM r V)=true→runM (whenM r U) F=runM (whenM r V) F):=by
 intro i j hj hi;subst hj
 match i,hi with
 | 0,_=>exact ⟨_,_,rfl,rfl,Va (ZW nX nY),ZW (Va nX) (Va nY),fun h g=>JhV h g⟩
 | 1,_=>exact ⟨_,_,rfl,rfl,Va (ZW nX nY),ZW (Va nX) (Va nY),fun h g=>JiP h g⟩
 | 2,_=>exact ⟨_,_,rfl,rfl,Jbc nX nY (Va (Va nY)),Jbc (Va (Va nX)) nY nY,fun h g=>JiQ h g⟩
end Go.Proofs.YtncanmdgdflnpaaGreatDoor
