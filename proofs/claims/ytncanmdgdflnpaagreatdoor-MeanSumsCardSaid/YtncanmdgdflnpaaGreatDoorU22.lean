
import Derived.Test.YtncanmdgdflnpaaGreatDoorU18
namespace Go.Proofs.YtncanmdgdflnpaaGreatDoor
open Go.ChangeShapes Go.WideShapes Go.ChangeAt Go.RowKit Go.Lib
open _root_.Go.Proofs.Tryz
set_option linter.all false
set_option maxRecDepth 100000
set_option maxHeartbeats 32000000
mutual
def XAt (W:World) (P:Nat→Prop):Exp→Array Value→Prop
 | .mk k n s l,c=>∃ ad cc xs,c=#[.int .i64 k,.int .i64 n,.string (bs s),.slice ad l.length cc]∧l.length≤cc∧RowX W P l xs∧
   (l=[]∨∃ b o,ad=some ⟨b,o,none⟩∧P b∧∀ j u,xs[j]?=some u→W.cell? ⟨b,o+j,none⟩=some u)
def RowX (W:World) (P:Nat→Prop):List Exp→List Value→Prop
 | [],xs=>xs=[]
 | e::l,xs=>∃ c r,XAt W P e c∧xs=c.toList++r∧RowX W P l r
end
theorem ux109 {P:Prop}(h:P:=by
  rintro ⟨b,o,h5,h6,h7⟩
  exact ⟨b,o,h5,hq b h6,fun j u hj=>(World.cell?_of_block (a:=⟨b,o+j,none⟩) (hk b h6)).trans (h7 j u hj)⟩):P:=h
mutual
theorem XAt.keep {W W':World} {P Q:Nat→Prop} (hk:∀ b,P b→W'.heap[b]?=W.heap[b]?) (hq:∀ b,P b→Q b):∀ (e:Exp) (c:Array Value),XAt W P e c→XAt W' Q e c
 | .mk k n s l,c,h=>by
  unfold XAt at *;obtain ⟨ad,cc,xs,h1,h2,h3,h4⟩:=h;refine ⟨ad,cc,xs,h1,h2,RowX.keep hk hq l xs h3,h4.imp id ?_⟩;exact ux109
theorem RowX.keep {W W':World} {P Q:Nat→Prop} (hk:∀ b,P b→W'.heap[b]?=W.heap[b]?) (hq:∀ b,P b→Q b):∀ (l:List Exp) (xs:List Value),RowX W P l xs→RowX W' Q l xs
 | [],xs,h=>by unfold RowX at *; exact h
 | e::l,xs,h=>by
  unfold RowX at *;obtain ⟨c,r,h1,h2,h3⟩:=h;exact ⟨c,r,XAt.keep hk hq e c h1,h2,RowX.keep hk hq l r h3⟩
end
theorem XAt.form {W:World} {P:Nat→Prop} {e:Exp} {c:Array Value} (h:XAt W P e c):∃ ad cc,c=#[.int .i64 e.kind,.int .i64 e.num,.string (bs e.name),.slice ad e.kids.length cc]∧e.kids.length≤cc:=by
 cases e
 unfold XAt at h;obtain ⟨ad,cc,xs,h1,h2,_⟩:=h;exact ⟨ad,cc,h1,h2⟩
theorem XAt.size {W:World} {P:Nat→Prop} {e:Exp} {c:Array Value} (h:XAt W P e c):c.size=4:=by
 obtain ⟨ad,cc,rfl,_⟩:=h.form;rfl
theorem RowX.snoc {W:World} {P:Nat→Prop} {e:Exp} {c:Array Value} (he:XAt W P e c):∀ {l:List Exp} {xs:List Value},RowX W P l xs→RowX W P (l++[e]) (xs++c.toList)
 | [],xs,h=>by
  unfold RowX at h;subst h
  show RowX W P [e] _
  unfold RowX;exact ⟨c,[],he,by simp,by unfold RowX; rfl⟩
 | a::l,xs,h=>by
  unfold RowX at h;obtain ⟨c',r,h1,rfl,h3⟩:=h
  show RowX W P (a::(l++[e])) _
  unfold RowX;exact ⟨c',r++c.toList,h1,by simp,h3.snoc he⟩
theorem RowX.get {W:World} {P:Nat→Prop}:∀ {l:List Exp} {xs:List Value} {i:Nat} {e:Exp},RowX W P l xs→l[i]?=some e→∃ c,XAt W P e c∧∀ j u,c[j]?=some u→xs[i*4+j]?=some u
 | [],xs,i,e,h,hi=>by cases hi
 | a::l,xs,0,e,h,hi=>by
  unfold RowX at h;obtain ⟨c,r,h1,rfl,h3⟩:=h;obtain rfl:a=e:=by simpa using hi
  refine ⟨c,h1,fun j u hj=>?_⟩;have hl:j<c.toList.length:=by rw[Array.length_toList]; exact (Array.getElem?_eq_some_iff.1 hj).1
  rw[Nat.zero_mul,Nat.zero_add,List.getElem?_append_left hl,Array.getElem?_toList];exact hj
 | a::l,xs,i+1,e,h,hi=>by
  unfold RowX at h;obtain ⟨c,r,h1,rfl,h3⟩:=h;obtain ⟨c',g1,g2⟩:=h3.get (i:=i) (by simpa using hi);refine ⟨c',g1,fun j u hj=>?_⟩;have hl:c.toList.length=4:=by rw[Array.length_toList,h1.size]
  rw[List.getElem?_append_right (by omega),hl,show (i+1)*4+j-4=i*4+j by omega];exact g2 j u hj
theorem XAt.kid {W:World} {P:Nat→Prop} {k n:Int} {s:List UInt8} {l:List Exp} {c:Array Value} (h:XAt W P (.mk k n s l) c):∃ ad cc,c=#[.int .i64 k,.int .i64 n,.string (bs s),.slice ad l.length cc]∧l.length≤cc∧
  (l≠[]→∃ b o,ad=some ⟨b,o,none⟩∧P b∧∀ i e,l[i]?=some e→∃ d,XAt W P e d∧∀ j u,d[j]?=some u→W.cell? ⟨b,o+i*4+j,none⟩=some u):=by
 unfold XAt at h;obtain ⟨ad,cc,xs,h1,h2,h3,h4⟩:=h;refine ⟨ad,cc,h1,h2,fun hne=>?_⟩
 rcases h4 with h4 | ⟨b,o,h5,h6,h7⟩
 ·exact absurd h4 hne
 ·refine ⟨b,o,h5,h6,fun i e hi=>?_⟩;obtain ⟨d,g1,g2⟩:=h3.get hi;exact ⟨d,g1,fun j u hj=>by rw[Nat.add_assoc]; exact h7 _ u (g2 j u hj)⟩
def NumsX (W:World) (P:Nat→Prop) (l:List Int) (v:Value):Prop:=∃ ad cc,v=.slice ad l.length cc∧l.length≤cc∧((ad=none∧l=[]∧cc=0)∨∃ b o,ad=some ⟨b,o,none⟩∧P b∧∀ i n,l[i]?=some n→W.cell? ⟨b,o+i,none⟩=some (.int .i64 n))
theorem NumsX.keep {W W':World} {P Q:Nat→Prop} {l:List Int} {v:Value} (hk:∀ b,P b→W'.heap[b]?=W.heap[b]?) (hq:∀ b,P b→Q b) (h:NumsX W P l v):NumsX W' Q l v:=by
 obtain ⟨ad,cc,h1,h2,h3⟩:=h;refine ⟨ad,cc,h1,h2,h3.imp id ?_⟩;rintro ⟨b,o,h4,h5,h6⟩;exact ⟨b,o,h4,hq b h5,fun i n hi=>(World.cell?_of_block (a:=⟨b,o+i,none⟩) (hk b h5)).trans (h6 i n hi)⟩
def FnX (W:World) (P:Nat→Prop) (f:FnM) (c:List Value):Prop:=∃ v d,NumsX W P f.params v∧XAt W P f.body d∧c=[.string (bs f.name),v,.int .i64 f.result]++d.toList
def ClX (W:World) (P:Nat→Prop) (m:ClM) (c:List Value):Prop:=∃ d,XAt W P m.cond d∧c=d.toList++[.int .i64 m.action,.string (bs m.reason)]
def RowOf {α:Type} (R:α→List Value→Prop):List α→List Value→Prop
 | [],xs=>xs=[]
 | e::l,xs=>∃ c r,R e c∧xs=c++r∧RowOf R l r
theorem RowOf.imp {α:Type} {R R':α→List Value→Prop} (h:∀ a c,R a c→R' a c):∀ {l:List α} {xs:List Value},RowOf R l xs→RowOf R' l xs
 | [],xs,hh=>hh
 | e::l,xs,⟨c,r,h1,h2,h3⟩=>⟨c,r,h e c h1,h2,RowOf.imp h h3⟩
theorem RowOf.snoc {α:Type} {R:α→List Value→Prop} {e:α} {c:List Value} (he:R e c):∀ {l:List α} {xs:List Value},RowOf R l xs→RowOf R (l++[e]) (xs++c)
 | [],xs,h=>by
  obtain rfl:xs=[]:=h;exact ⟨c,[],he,by simp,rfl⟩
 | a::l,xs,⟨c',r,h1,h2,h3⟩=>⟨c',r++c,h1,by rw[h2,List.append_assoc],RowOf.snoc he h3⟩
theorem RowOf.get {α:Type} {R:α→List Value→Prop} {m:Nat} (hR:∀ a c,R a c→c.length=m):∀ {l:List α} {xs:List Value} {i:Nat} {e:α},RowOf R l xs→l[i]?=some e→∃ c,R e c∧∀ j u,c[j]?=some u→xs[i*m+j]?=some u
 | [],xs,i,e,h,hi=>by cases hi
 | a::l,xs,0,e,⟨c,r,h1,h2,h3⟩,hi=>by
  obtain rfl:a=e:=by simpa using hi
  refine ⟨c,h1,fun j u hj=>?_⟩;rw[h2,Nat.zero_mul,Nat.zero_add,List.getElem?_append_left (List.getElem?_eq_some_iff.1 hj).1];exact hj
 | a::l,xs,i+1,e,⟨c,r,h1,h2,h3⟩,hi=>by
  obtain ⟨c',g1,g2⟩:=RowOf.get hR h3 (i:=i) (by simpa using hi);refine ⟨c',g1,fun j u hj=>?_⟩;have hl:=hR _ _ h1;rw[h2,List.getElem?_append_right (by rw[hl,Nat.add_mul]; omega),hl,show (i+1)*m+j-m=i*m+j by rw[Nat.add_mul]; omega];exact g2 j u hj
theorem FnX.len {W:World} {P:Nat→Prop} (f:FnM) (c:List Value) (h:FnX W P f c):c.length=7:=by
 obtain ⟨v,d,_,h2,rfl⟩:=h;have:=h2.size;simp[this]
theorem ClX.len {W:World} {P:Nat→Prop} (f:ClM) (c:List Value) (h:ClX W P f c):c.length=6:=by
 obtain ⟨d,h2,rfl⟩:=h;have:=h2.size;simp[this]
theorem FnX.keep {W W':World} {P Q:Nat→Prop} (hk:∀ b,P b→W'.heap[b]?=W.heap[b]?) (hq:∀ b,P b→Q b) (f:FnM) (c:List Value) (h:FnX W P f c):FnX W' Q f c:=by
 obtain ⟨v,d,h1,h2,h3⟩:=h;exact ⟨v,d,h1.keep hk hq,h2.keep hk hq,h3⟩
theorem ClX.keep {W W':World} {P Q:Nat→Prop} (hk:∀ b,P b→W'.heap[b]?=W.heap[b]?) (hq:∀ b,P b→Q b) (f:ClM) (c:List Value) (h:ClX W P f c):ClX W' Q f c:=by
 obtain ⟨d,h2,h3⟩:=h;exact ⟨d,h2.keep hk hq,h3⟩
def SliceOf {α:Type} (W:World) (P:Nat→Prop) (R:α→List Value→Prop) (l:List α) (v:Value):Prop:=
 ∃ ad cc xs,v=.slice ad l.length cc∧l.length≤cc∧RowOf R l xs∧(l=[]∨∃ b o,ad=some ⟨b,o,none⟩∧P b∧∀ j u,xs[j]?=some u→W.cell? ⟨b,o+j,none⟩=some u)
theorem SliceOf.keep {α:Type} {W W':World} {P Q:Nat→Prop} {R R':α→List Value→Prop} {l:List α} {v:Value} (hk:∀ b,P b→W'.heap[b]?=W.heap[b]?) (hq:∀ b,P b→Q b) (hR:∀ a c,R a c→R' a c) (h:SliceOf W P R l v):SliceOf W' Q R' l v:=by
 obtain ⟨ad,cc,xs,h1,h2,h3,h4⟩:=h;refine ⟨ad,cc,xs,h1,h2,h3.imp hR,h4.imp id ?_⟩;exact ux109
theorem SliceOf.get {α:Type} {W:World} {P:Nat→Prop} {R:α→List Value→Prop} {m:Nat} (hR:∀ a c,R a c→c.length=m) {l:List α} {v:Value} (h:SliceOf W P R l v):∃ ad cc,v=.slice ad l.length cc∧l.length≤cc∧
  (l≠[]→∃ b o,ad=some ⟨b,o,none⟩∧P b∧∀ i e,l[i]?=some e→∃ c,R e c∧∀ j u,c[j]?=some u→W.cell? ⟨b,o+i*m+j,none⟩=some u):=by
 obtain ⟨ad,cc,xs,h1,h2,h3,h4⟩:=h;refine ⟨ad,cc,h1,h2,fun hne=>?_⟩
 rcases h4 with h4 | ⟨b,o,h5,h6,h7⟩
 ·exact absurd h4 hne
 ·refine ⟨b,o,h5,h6,fun i e hi=>?_⟩;obtain ⟨d,g1,g2⟩:=RowOf.get hR h3 hi;exact ⟨d,g1,fun j u hj=>by rw[Nat.add_assoc]; exact h7 _ u (g2 j u hj)⟩
def RuleX (W:World) (P:Nat→Prop) (r:RuleM) (c:Array Value):Prop:=∃ fv cv,c=#[fv,cv,.int .i64 r.action]∧SliceOf W P (FnX W P) r.funcs fv∧SliceOf W P (ClX W P) r.clauses cv
theorem RuleX.keep {W W':World} {P Q:Nat→Prop} {r:RuleM} {c:Array Value} (hk:∀ b,P b→W'.heap[b]?=W.heap[b]?) (hq:∀ b,P b→Q b) (h:RuleX W P r c):RuleX W' Q r c:=by
 obtain ⟨fv,cv,h1,h2,h3⟩:=h;exact ⟨fv,cv,h1,h2.keep hk hq (FnX.keep hk hq),h3.keep hk hq (ClX.keep hk hq)⟩
theorem ux42 {P:Prop}(h:P:=by
  rcases h.2 with ⟨rfl,h0⟩ | ⟨g,cap,cur,rfl,h1,h2,h3,h4,h5,h6⟩
  ·have:l=[]:=List.eq_nil_of_length_eq_zero h0;subst this;exact ⟨none,0,xs,rfl,Nat.le_refl _,hr,.inl rfl⟩
  ·refine ⟨_,cap,xs,rfl,h3,hr,.inr ⟨g,0,rfl,hP g rfl,fun j u hj=>?_⟩⟩;have:=h.cells (g:=g) rfl j u hj;have hadd:(⟨g,0,none⟩:Addr).add j=⟨g,j,none⟩:=by unfold Addr.add; split <;> simp_all
   rw[hadd] at this;rw[Nat.zero_add]
   exact this):P:=h
theorem SliceOf.own {α:Type} {W:World} {P:Nat→Prop} {R:α→List Value→Prop} {l:List α} {v:Value} {base e size:Nat} {xs:List Value} (h:W.ownsRow base e size v l.length xs) (hr:RowOf R l xs) (hP:∀ g,v.ownBlock=some g→P g):SliceOf W P R l v:=by
 exact ux42
theorem XAt.own {W:World} {P:Nat→Prop} {k n:Int} {s:List UInt8} {l:List Exp} {v:Value} {base e size:Nat} {xs:List Value} (h:W.ownsRow base e size v l.length xs) (hr:RowX W P l xs) (hP:∀ g,v.ownBlock=some g→P g):XAt W P (.mk k n s l) #[.int .i64 k,.int .i64 n,.string (bs s),v]:=by
 unfold XAt;exact ux42
theorem infoExprP:(prog.info? 50).map (fun i=>(i.zero,i.size,i.bytes))=some (some (.agg #[.int .i64 0,.int .i64 0,.string ⟨#[]⟩,.slice none 0 0]),4,56):=by kernel_rfl
theorem infoExpr:(prog.info? 50).map (·.size)=some 4:=by kernel_rfl
def Since (w W:World) (b:Nat):Prop:=w.heap.size≤b∧b<W.heap.size
structure TrI (w:World) (rs bx lo:Nat) (k n:Int) (s:List UInt8) (W:World) (l:List Exp) (V:Value) (xs:List Value):Prop where
 own:W.ownsRow lo 50 4 V l.length xs
 row:RowX W (fun b=>lo≤b∧b<W.heap.size∧V.ownBlock≠some b) l xs
 box:W.heap[bx]?=some (.cells #[.int .i64 k,.int .i64 n,.string (bs s),V] 50 (0,0))
 res:W.heap[rs]?=some (.cells #[.int .i64 0,.int .i64 0,.string ⟨#[]⟩,.slice none 0 0] 50 (0,0))
 bel:Below w.heap.size w W
 low:w.heap.size≤rs∧rs<bx∧bx<lo∧lo≤W.heap.size
section
variable {w:World} {rs bx lo:Nat} {k n:Int} {s:List UInt8} {W W':World} {l:List Exp} {V:Value} {xs:List Value}
theorem TrI.up (h:TrI w rs bx lo k n s W l V xs) (hb:Below W.heap.size W W'):TrI w rs bx lo k n s W' l V xs:=by
 obtain ⟨l1,l2,l3,l4⟩:=h.low;have hc:=Chg.of_below hb []
 exact ⟨Jv h.own hc (by simp),RowX.keep (fun b hP=>hb.block b hP.2.1) (fun b hP=>⟨hP.1,Nat.lt_of_lt_of_le hP.2.1 hb.size,hP.2.2⟩) _ _ h.row,(hb.block _ (Jb h.box)).trans h.box,(hb.block _ (Jb h.res)).trans h.res,
  ⟨hb.os.trans h.bel.os,hb.tape.trans h.bel.tape,hb.output.trans h.bel.output,Nat.le_trans h.bel.size hb.size,fun q hq=>(hb.block q (Nat.lt_of_lt_of_le hq h.bel.size)).trans (h.bel.block q hq)⟩,l1,l2,l3,Nat.le_trans l4 hb.size⟩
theorem ux63 {P:Prop}(h:P:=by
  exact ⟨hst.os.trans (hc7.os.trans h6.bel.os),hst.tape.trans (hc7.tape.trans h6.bel.tape),hst.output.trans (hc7.output.trans h6.bel.output),by omega,fun q hq=>(hkeep q (by omega) (fun e1=>by have h1:=(hrow _ e1).1; omega) (by omega)).trans (h6.bel.block q hq)⟩):P:=h
theorem TrI.step {w1 w6 w7:World} {e:Exp} {c:Array Value} {V':Value} {X:Obj} (h:TrI w rs bx lo k n s w1 l V xs) (hb:Below w1.heap.size w1 w6) (hx:XAt w6 (Since w1 w6) e c)
  (hown:w7.ownsRow lo 50 4 V' (l.length+1) (xs++c.toList)) (hgr:(w6.alloc X).grownBy w7 V.ownBlock) (hfr:V'.ownBlock=V.ownBlock∨V'.ownBlock=some (w6.alloc X).heap.size) :
  TrI w rs bx lo k n s (w7.setCell ⟨bx,3,none⟩ V') (l++[e]) V' (xs++c.toList)∧w7.heap[bx]?=some (.cells #[.int .i64 k,.int .i64 n,.string (bs s),V] 50 (0,0)):=by
 have h6:=h.up hb;obtain ⟨l1,l2,l3,l4⟩:=h6.low;have hrow:∀ g,V.ownBlock=some g→lo≤g∧g<w1.heap.size:=fun g hg=>h.own.lt g hg
 have hc7:=JH hgr;have hbx7:w7.heap[bx]?=some (.cells #[.int .i64 k,.int .i64 n,.string (bs s),V] 50 (0,0)):=hc7.heap_some (fun hm=>by have:=(hrow bx (by simpa using hm)).1; omega) h6.box;have hst:Chg [bx] w7 (w7.setCell ⟨bx,3,none⟩ V'):=(Chg.refl _ _).setCell (.inl (by simp:bx∈[bx])) (p:=⟨bx,3,none⟩) V';have hkeep:∀ q,q<w6.heap.size→V.ownBlock≠some q→q≠bx→(w7.setCell ⟨bx,3,none⟩ V').heap[q]?=w6.heap[q]?:=fun q hq hn hne=>(hst.block q (Nat.lt_of_lt_of_le hq hc7.size) (by simpa using hne)).trans (hc7.block q hq (by simpa using hn))
 have hsz:w6.heap.size≤(w7.setCell ⟨bx,3,none⟩ V').heap.size:=Nat.le_trans hc7.size hst.size
 have hV':∀ b,b<w6.heap.size→V.ownBlock≠some b→V'.ownBlock≠some b:=by
  intro b hb1 hb2 e1
  rcases hfr with e2 | e2
  ·exact hb2 (e2.symm.trans e1)
  ·rw[e2] at e1;simp at e1;omega
 have hb16:=hb.size;refine ⟨⟨?_,RowX.snoc ?_ ?_,?_,?_,?_,l1,l2,l3,Nat.le_trans l4 hsz⟩,hbx7⟩
 ·rw[List.length_append];exact Jv hown hst (by simp; omega)
 ·refine XAt.keep (P:=Since w1 w6) (fun b hP=>?_) (fun b hP=>?_) _ _ hx
  ·exact hkeep b hP.2 (fun e1=>by have h1:=(hrow b e1).2; have h2:=hP.1; omega) (by have h2:=hP.1; have:=h.low; omega)
  ·have h2:=hP.1;have h3:=hP.2;have:=h.low;exact ⟨by omega,by omega,hV' b h3 (fun e1=>by have h1:=(hrow b e1).2; omega)⟩
 ·exact RowX.keep (fun b hP=>hkeep b hP.2.1 hP.2.2 (by have:=hP.1; omega)) (fun b hP=>⟨hP.1,by have:=hP.2.1; omega,hV' b hP.2.1 hP.2.2⟩) _ _ h6.row
 ·exact Jz hbx7 3 V'
 ·exact (hkeep _ (Jb h6.res) (fun e1=>by have h1:=(hrow _ e1).1; omega) (by omega)).trans h6.res
 ·have hlw:w.heap.size≤w6.heap.size:=h6.bel.size;exact ux63
theorem TrI.fin (h:TrI w rs bx lo k n s W l V xs):let W':=(((W.setCell ⟨rs,0,none⟩ (.int .i64 k)).setCell ⟨rs,1,none⟩ (.int .i64 n)).setCell ⟨rs,2,none⟩ (.string (bs s))).setCell ⟨rs,3,none⟩ V
  XAt W' (Since w W') (.mk k n s l) #[.int .i64 k,.int .i64 n,.string (bs s),V]∧Below w.heap.size w W':=by
 intro W';obtain ⟨l1,l2,l3,l4⟩:=h.low;have hst:Chg [rs] W W':=((((Chg.refl _ _).setCell (.inl (by simp)) _).setCell (.inl (by simp)) _).setCell (.inl (by simp)) _).setCell (.inl (by simp)) _;have hsz:=hst.size;refine ⟨XAt.own (Jv h.own hst (by simp; omega)) (RowX.keep (fun b hP=>hst.block b hP.2.1 (by have:=hP.1; simp; omega)) (fun b hP=>⟨by have:=hP.1; omega,by have:=hP.2.1; omega⟩) _ _ h.row) (fun g hg=>?_),set4Z _ _ _ _ h.bel l1⟩;have:=h.own.lt g hg;exact ⟨by omega,by omega⟩
end
theorem JdI (l:List Nd) (a:Nd):treeL (l++[a])=treeL l++[treeN a]:=by
 induction l with
 | nil=>simp[treeL]
 | cons x r ih=>simp[treeL,ih]
def TrP (w:World) (x:Exp) (e:Ending) (w':World):Prop:=∃ c,e=.returned (.agg c)∧XAt w' (Since w w') x c∧Below w.heap.size w w'
theorem JdJ (n:Nat) (IH:∀ (a:An) (w:World),siz a.nd≤n→a.At w→Calls prog 77 #[.agg (cellsN a)] w (TrP w (treeN a.nd))) (k nn:Int) (s:List UInt8) (off:Int) (b c:Nat) (l:List An) (w:World) (hn:sizL (ndL l)≤n) (hb:n≤100000000) (hat:(An.mk k nn s off b c l).At w) :
  Calls prog 77 #[.agg (cellsN (.mk k nn s off b c l))] w (TrP w (.mk k nn s (treeL (ndL l)))):=by
 obtain ⟨R,hR⟩:∃ R,TrP w (.mk k nn s (treeL (ndL l)))=R:=⟨_,rfl⟩
 rw[hR];have HR:Hid (R=TrP w (.mk k nn s (treeL (ndL l)))):=hR.symm;obtain ⟨ad,cc,hkv,had⟩:=Jn b c l
 have hcs:cellsN (.mk k nn s off b c l)=#[.int .i64 k,.int .i64 nn,.string (bs s),.int .i64 off,.slice ad l.length cc]:=by
  show #[_,_,_,_,kidsV b c l]=_
  rw[hkv]
 have hbA:Below w.heap.size w (((w.alloc (.cells #[.int .i64 k,.int .i64 nn,.string (bs s),.int .i64 off,.slice ad l.length cc] 119)).alloc (.cells #[.int .i64 0,.int .i64 0,.string ⟨#[]⟩,.slice none 0 0] 50)).alloc (.cells #[.int .i64 k,.int .i64 nn,.string (bs s),.slice none 0 0] 50)):=(((Below.refl _ _).alloc (Nat.le_refl _) _).alloc (by simp) _).alloc (by simp; omega) _
 have HI0:Hid (TrI w (w.heap.size+1) (w.heap.size+1+1) (w.heap.size+1+1+1) k nn s (((w.alloc (.cells #[.int .i64 k,.int .i64 nn,.string (bs s),.int .i64 off,.slice ad l.length cc] 119)).alloc (.cells #[.int .i64 0,.int .i64 0,.string ⟨#[]⟩,.slice none 0 0] 50)).alloc (.cells #[.int .i64 k,.int .i64 nn,.string (bs s),.slice none 0 0] 50)) [] (.slice none 0 0) []):=by
  have e1:=heap_alloc_new (w.alloc (.cells #[.int .i64 k,.int .i64 nn,.string (bs s),.int .i64 off,.slice ad l.length cc] 119)) (.cells #[.int .i64 0,.int .i64 0,.string ⟨#[]⟩,.slice none 0 0] 50);have e2:=heap_alloc_new ((w.alloc (.cells #[.int .i64 k,.int .i64 nn,.string (bs s),.int .i64 off,.slice ad l.length cc] 119)).alloc (.cells #[.int .i64 0,.int .i64 0,.string ⟨#[]⟩,.slice none 0 0] 50)) (.cells #[.int .i64 k,.int .i64 nn,.string (bs s),.slice none 0 0] 50);simp only[World.size_alloc] at e1 e2;exact ⟨⟨rfl,.inl ⟨rfl,rfl⟩⟩,by unfold RowX; rfl,e2,Jg e1,hbA,by omega,by omega,by omega,by simp⟩
 have HNB:Hid ((((w.alloc (.cells #[.int .i64 k,.int .i64 nn,.string (bs s),.int .i64 off,.slice ad l.length cc] 119)).alloc (.cells #[.int .i64 0,.int .i64 0,.string ⟨#[]⟩,.slice none 0 0] 50)).alloc (.cells #[.int .i64 k,.int .i64 nn,.string (bs s),.slice none 0 0] 50)).heap[w.heap.size]?=some (.cells #[.int .i64 k,.int .i64 nn,.string (bs s),.int .i64 off,.slice ad l.length cc] 119 (0,0))):=Jg (Jg (heap_alloc_new _ _));have HAT:=Zh hat;have HAD:=Zh had;have HIH:=Zh IH;have hll:l.length≤100000000:=by have:=Ju l; omega
 have HSZ:=Zh hn;rw[hcs];clear hR hbA hkv had hcs IH hat hn;go_enter func77,ntmps77;go_wp2_with fail;generalize World.alloc (World.alloc (World.alloc w _) _) _=w1 at *;generalize w.heap.size+1+1+1=lo at *;generalize w.heap.size+1+1=bx at *;generalize w.heap.size+1=rs at *;have HLW:Hid (w.heap.size<w1.heap.size):=Jb HNB.out;have n4:=Ja HNB.out 4;simp only[ZD,ZE,ZF] at n4;go_wp2_with fail;clear n4;go_loopg [16] l.length (fun g v16 wr=>∃ i:Nat,g+i=l.length∧v16=.int .i64 i∧Hid (∃ V xs,TrI w rs bx lo k nn s wr (treeL (ndL (l.take i))) V xs)∧Hid (Below w.heap.size w wr))
 case atStart=>exact ⟨0,rfl,rfl,⟨_,_,HI0.out⟩,HI0.out.bel⟩
 case round=>
 clear HI0 HNB;obtain ⟨wl,rfl⟩:∃ wl:World,wl=wr:=⟨_,rfl⟩
 obtain ⟨i,hg,rfl,hti,hbw⟩:=hrel;obtain ⟨V,xs,hti⟩:=hti.out;obtain ⟨va,vn,vc,rfl⟩:=Jh hti.own
 by_cases hi:i<l.length
 ·have hil:(i:Int)<(l.length:Int):=by omega
  obtain ⟨y,hy⟩:∃ y,l[i]?=some y:=⟨l[i],List.getElem?_eq_getElem hi⟩
  have hmem:=List.mem_of_getElem? hy;have had':ad=some ⟨b,0,none⟩:=HAD.out (List.ne_nil_of_mem hmem);have hat:=HAT.out;have hat2:(An.mk k nn s off b c l).At wl:=JC _ hat fun q hq=>hbw.out.block q (ZW _ hat q hq)
  unfold An.At at hat2;obtain ⟨hcl,hya⟩:=JJ hat2.2 hy;rw[Nat.zero_add] at hcl;obtain ⟨yA,yn,yc,hcf⟩:=Jf y;rw[hcf] at hcl;have c0:=hcl 0 _ rfl;have c1:=hcl 1 _ rfl;have c2:=hcl 2 _ rfl;have c3:=hcl 3 _ rfl;have c4:=hcl 4 _ rfl;simp only[Nat.add_zero] at c0;have wk:IntKind.i64.wrap ((i:Int)+1)=(i:Int)+1:=IntWalk.i64_in _ (by omega);have hb2:Below wl.heap.size wl (wl.alloc (.cells #[.int .i64 y.kind,.int .i64 y.num,.string (bs y.name),.int .i64 y.off,.slice yA yn yc] 119)):=(Below.refl _ _).alloc (Nat.le_refl _) _;have HTI:=Zh (hti.up hb2);have HYA:=Zh (JC y hya fun q hq=>hb2.block q (ZW y hya q hq));have HCP:=Zh (heap_alloc_new wl (.cells #[.int .i64 y.kind,.int .i64 y.num,.string (bs y.name),.int .i64 y.off,.slice yA yn yc] 119));have HTS:Hid (treeL (ndL (l.take (i+1)))=treeL (ndL (l.take i))++[treeN y.nd]):=by rw[Hid,List.take_add_one,hy]; show treeL (ndL (_++[y]))=_; rw[Ky,JdI]
  have HLN:Hid ((treeL (ndL (l.take i))).length≤100000000):=by
   have e1:∀ q:List Nd,(treeL q).length=q.length:=fun q=>by induction q with
    | nil=>rfl
    | cons x r ih=>simp[treeL,ih]
   have e2:∀ q:List An,(ndL q).length=q.length:=fun q=>by rw[J2,List.length_map]
   rw[Hid,e1,e2,List.length_take];omega
  have HYS:Hid (siz y.nd≤n):=by have:=JE hmem; have:=HSZ.out; rw[Hid]; omega
  have HYF:=Zh hcf;have HG:=Zh hg;subst had';clear hat hat2 hcl hcf hb2 hti hy hmem HAD hg hya hbw;go_upto_region 5 with fail;clear c0 c1 c2 c3 c4;generalize World.alloc wl _=wk0 at *;generalize wl.heap.size=cb at *;have hD:Below wk0.heap.size wk0 wk0.drew:=(Below.refl wk0.heap.size wk0).drew;replace HTI:=Zh (HTI.out.up hD);replace HYA:=Zh (JC y HYA.out fun q hq=>hD.block q (ZW y HYA.out q hq));replace HCP:=Zh ((hD.block _ (Jb HCP.out)).trans HCP.out);clear hD;have b3:=Ja HTI.out.box 3;simp only[ZD,ZE,ZF] at b3;refine LB (fun W=>W.cell? ⟨bx,3,none⟩=some (.slice va vn vc)) 7 (b3) fun hH=>?_
  generalize wk0.drew=wk1 at *;refine LK 0 rfl ?_;refine LK 1 rfl ?_;refine LO 2 rfl fun K hK=>?_
  have hbx:=HCP.out;have p0:=Ja hbx 0;have p1:=Ja hbx 1;have p2:=Ja hbx 2;have p3:=Ja hbx 3;have p4:=Ja hbx 4;simp only[ZD,ZE,ZF] at p0 p1 p2 p3 p4;go_simp;clear p0 p1 p2 p3 p4 hbx;refine hK.out _ _ (b3) fun hH=>?_
  clear hK K;refine LO 3 rfl fun K hK=>?_
  have ci:=HIH.out y _ HYS.out HYA.out;rw[HYF.out] at ci
  (go_simp; go_at_call 77; refine ci.mono ?_; intro e w6 h6)
  clear ci;obtain ⟨cy,rfl,hx6,hb6⟩:=h6;obtain ⟨ca,cm,hcy,hcm⟩:=hx6.form;have HX6:=Zh hx6;have HB6:=Zh hb6;have HCY:=Zh hcy;replace HCP:=Zh ((hb6.block _ (Jb HCP.out)).trans HCP.out);have HT6:=Zh (HTI.out.up hb6);have HOW:Hid ((w6.alloc (.cells cy 50)).ownsRow lo 50 4 (.slice va vn vc) (treeL (ndL (l.take i))).length xs):=HT6.out.own.alloc _;have HRW:Hid ((w6.alloc (.cells cy 50)).heap[w6.heap.size]?=some (.cells cy.toList.toArray 50 (0,0))):=heap_alloc_new _ _;have hlo6:lo≤(w6.alloc (.cells cy 50)).heap.size:=by have:=HT6.out.low; rw[World.size_alloc]; omega
  replace b3:=Ja HT6.out.box 3;simp only[ZD,ZE,ZF] at b3;rw[hcy] at HOW HRW hlo6 ⊢;clear hx6 hb6 hcy hcm;refine hK.out _ _ (b3) fun hH=>?_
  clear hK K;refine LO 4 rfl fun K hK=>?_
  go_simp;refine hK.out _ _ (by simp[*,World.cell?_alloc_some]) fun hH=>?_
  clear hK K;refine LO 5 rfl fun K hK=>?_
  (refine Jr (w6.alloc (.cells #[.int .i64 (treeN y.nd).kind,.int .i64 (treeN y.nd).num,.string (bs (treeN y.nd).name),.slice ca (treeN y.nd).kids.length cm] 50)) (by rfl) (.tmp 21) (.tmp 24) 48 50 _ 4 56 (by rfl) underlying48 infoExprP rfl (by decide) lo (.slice va vn vc) (treeL (ndL (l.take i))).length xs [.int .i64 (treeN y.nd).kind,.int .i64 (treeN y.nd).num,.string (bs (treeN y.nd).name),.slice ca (treeN y.nd).kids.length cm] (by rfl) HOW.out w6.heap.size (by rfl) HRW.out rfl (by intro u hu; simp at hu; rcases hu with rfl | rfl | rfl | rfl <;> rfl) HLN.out (by decide) hlo6 ?_; intro v7 w7 hown7 hgr7 hfr7)
  obtain ⟨a7,m7,c7,rfl⟩:=Jh hown7;have hst:=TrI.step (V':=.slice a7 m7 c7) HTI.out HB6.out HX6.out (by rw[HCY.out]; exact hown7) hgr7 hfr7;replace b3:=Ja hst.2 3;simp only[ZD,ZE,ZF] at b3;have f3:=Jc hst.2 3;have hl7:=Jb hst.2;have HST:=Zh hst.1;clear hown7 hgr7 hfr7 hst HOW HRW hlo6;refine hK.out _ _ (b3) fun hH=>?_
  clear hK K;refine LK 6 rfl ?_;refine LZ 7 rfl fun K hK=>?_
  go_simp;clear b3 f3 hl7;refine hK.out _ _ ?_;clear hK K;have HB7:Hid (Below w.heap.size w (w7.setCell ⟨bx,3,none⟩ (.slice a7 m7 c7))):=HST.out.bel;go_wp2;go_roundg (l.length-(i+1))
  case measure=>have:=HG.out; omega
  case rel=>exact ⟨i+1,by omega,by go_num,⟨_,_,by rw[HTS.out]; exact HST.out⟩,HB7⟩
 ·have hil:¬ (i:Int)<(l.length:Int):=by omega
  obtain rfl:i=l.length:=by omega
  rw[List.take_length] at hti;have HTI:=Zh hti;have hbx:=hti.box;have hrs:=hti.res;have b0:=Ja hbx 0;have b1:=Ja hbx 1;have b2:=Ja hbx 2;have b3:=Ja hbx 3;have z0:=Ja hrs 0;have z1:=Ja hrs 1;have z2:=Ja hrs 2;have z3:=Ja hrs 3;simp only[ZD,ZE,ZF] at b0 b1 b2 b3 z0 z1 z2 z3;have y0:=Jc hrs 0;have y1:=Jc hrs 1;have y2:=Jc hrs 2;have y3:=Jc hrs 3;clear hi hg hti hbx hrs;go_wp2;refine bodyPost_ret (v:=.agg #[.int .i64 k,.int .i64 nn,.string (bs s),.slice va vn vc]) (results_cell_row rfl _ _ rs 50 _ (0,0) _ rfl (blk4Z _ _ _ _ HTI.out.res) underlying50 rfl infoExpr) rfl ?_;rw[HR.out];obtain ⟨e1,e2⟩:=HTI.out.fin;exact ⟨_,rfl,e1,e2⟩
theorem Vj:∀ n,n≤100000000→∀ (a:An) (w:World),siz a.nd≤n→a.At w→Calls prog 77 #[.agg (cellsN a)] w (TrP w (treeN a.nd))
 | 0,_,a,w,h,_=>by have:=KA a.nd; omega
 | n+1,hn,.mk k nn s off b c l,w,h,hat=>by
  rw[V9] at h;have e:treeN (An.mk k nn s off b c l).nd=.mk k nn s (treeL (ndL l)):=by unfold An.nd; rw[treeN]
  rw[e];exact JdJ n (fun a w h1 h2=>Vj n (by omega) a w h1 h2) k nn s off b c l w (by omega) (by omega) hat
end Go.Proofs.YtncanmdgdflnpaaGreatDoor
