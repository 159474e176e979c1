import Derived.Defers
import Derived.Maps.Keyed
import Derived.Maps.Own
import Derived.Maps.OwnSet
import Derived.Maps.Views
import Derived.Recover
import Derived.StringKeys
import Derived.Test.YtdlkcjkjnehnkaaGreatDoorH12
namespace Go.Proofs.YtdlkcjkjnehnkaaGreatDoor
open Go.ChangeShapes Go.WideShapes Go.ChangeAt Go.RowKit Go.Lib
open _root_.Go.Proofs.Tryz
set_option linter.all false
set_option maxRecDepth 100000
set_option maxHeartbeats 32000000
theorem JR{w6 w7:World}{v:Value}{X:Obj}(hgr:(w6.alloc X).grownBy w7 v.ownBlock):Chg (v.ownBlock.toList) w6 w7:=
 ⟨hgr.os,hgr.tape,hgr.output,by have:=hgr.size;simp at this;omega,fun q hq hn=>(hgr.block q (by simp;omega) (fun e=>hn (by rw[<- e];simp))).trans (heap_alloc_old _ _ hq)⟩
mutual
def siz:Nd->Nat
 |.mk _ _ _ _ l=>Qbq l+1
def Qbq:List Nd->Nat
 |[]=>0
 |a::l=>siz a+Qbq l
end
theorem JG(k n:Int)(s:List UInt8)(o:Int)(l:List Nd):siz (.mk k n s o l)=Qbq l+1:=by unfold siz;rfl
theorem Ju(a:Nd)(l:List Nd):Qbq (a::l)=siz a+Qbq l:=by rw[Qbq]
theorem VC(a:Nd):0<siz a:=by cases a;rw[JG];omega
theorem JdA{a:Nd}{l:List Nd}(h:a∈l):siz a<=Qbq l:=by
 induction l with
 |nil=>cases h
 |cons x r ih=>
  rw[Ju]
  rcases List.mem_cons.1 h with rfl|h
  ·omega
  ·have:=ih h;omega
theorem JdB(l:List Nd):l.length<=Qbq l:=by
 induction l with
 |nil=>simp
 |cons x r ih=>
  rw[Ju,List.length_cons];have:=VC x;omega
mutual
theorem Jbn{W:World}:∀ (a:An),a.At W->∀ q∈foot a,q<W.heap.size
 |.mk k n s o b c l,h,q,hq=>by
  unfold An.At at h;replace h:=h.2
  cases l with
  |nil=>simp[foot]at hq
  |cons x r=>
   unfold foot at hq
   rcases List.mem_cons.1 hq with rfl|hq
   ·unfold AtL at h;obtain⟨xA,xn,xc,hcf⟩:=Jf x;exact World.block_lt_of_cell? (a:=⟨q,0*5+0,none⟩) W (h.1 0 (.int .i64 x.kind) (by rw[hcf];rfl))
   ·exact JdD b (x::r) 0 h q (by rw[Qah];exact hq)
theorem JdD{W:World}(b:Nat):∀ (l:List An) (i:Nat),AtL W b i l->∀ q∈Qah l,q<W.heap.size
 |[],_,_,q,hq=>by simp[Qah]at hq
 |a::l,i,h,q,hq=>by
  unfold AtL at h;unfold Qah at hq
  rcases List.mem_append.1 hq with hq|hq
  ·exact Jbn a h.2.1 q hq
  ·exact JdD b l (i+1) h.2.2 q hq
end
theorem Jbo{W W':World}{a:An}(h:a.At W)(hb:Below W.heap.size W W'):a.At W':=JJ a h fun q hq=>hb.block q (Jbn a h q hq)
theorem Qlu{P:Prop}(h:P:=by
  intro a ha
  rcases List.mem_cons.1 ha with rfl|ha
  ·exact h.1
  ·exact ih h.2 a ha):P:=h
theorem KP(k n:Int)(s:List UInt8)(o:Int)(b c:Nat)(l:List An):foot (.mk k n s o b c l)=if l=[] then [] else b::Qah l:=by
 cases l with
 |nil=>simp[foot]
 |cons x r=>simp[foot,Qah]
def strs(l:List (List UInt8)):List Value:=l.map fun s=>.string (bs s)
theorem Yj(l:List Exp):(utL l).length=l.length:=by
 induction l with
 |nil=>rw[utL];rfl
 |cons a l ih=>rw[utL,List.length_cons,List.length_cons,ih]
def z0(l:List Int):List Int:=l.map fun _=>0
mutual
def XAt(W:World)(P:Nat->Prop):Exp->Array Value->Prop
 |.mk k n s l,c=>∃ ad cc xs,c=#[.int .i64 k,.int .i64 n,.string (bs s),.slice ad l.length cc]/\l.length<=cc/\Qcy W P l xs/\
   (l=[]\/∃ b o,ad=some ⟨b,o,none⟩/\P b/\∀ j u,xs[j]?=some u->W.cell? ⟨b,o+j,none⟩=some u)
def Qcy(W:World)(P:Nat->Prop):List Exp->List Value->Prop
 |[],xs=>xs=[]
 |e::l,xs=>∃ c r,XAt W P e c/\xs=c.toList++r/\Qcy W P l r
end
theorem Qku{P:Prop}(h:P:=by
  rintro⟨b,o,h5,h6,h7⟩
  exact⟨b,o,h5,hq b h6,fun j u hj=>(World.cell?_of_block (a:=⟨b,o+j,none⟩) (hk b h6)).trans (h7 j u hj)⟩):P:=h
mutual
theorem XAt.keep{W W':World}{P Q:Nat->Prop}(hk:∀ b,P b->W'.heap[b]?=W.heap[b]?)(hq:∀ b,P b->Q b):∀ (e:Exp) (c:Array Value),XAt W P e c->XAt W' Q e c
 |.mk k n s l,c,h=>by
  unfold XAt at *;obtain⟨ad,cc,xs,h1,h2,h3,h4⟩:=h;refine⟨ad,cc,xs,h1,h2,Qcy.keep hk hq l xs h3,h4.imp id ?_⟩;exact Qku
theorem Qcy.keep{W W':World}{P Q:Nat->Prop}(hk:∀ b,P b->W'.heap[b]?=W.heap[b]?)(hq:∀ b,P b->Q b):∀ (l:List Exp) (xs:List Value),Qcy W P l xs->Qcy W' Q l xs
 |[],xs,h=>by unfold Qcy at *;exact h
 |e::l,xs,h=>by
  unfold Qcy at *;obtain⟨c,r,h1,h2,h3⟩:=h;exact⟨c,r,XAt.keep hk hq e c h1,h2,Qcy.keep hk hq l r h3⟩
end
theorem XAt.form{W:World}{P:Nat->Prop}{e:Exp}{c:Array Value}(h:XAt W P e c):∃ ad cc,c=#[.int .i64 e.kind,.int .i64 e.num,.string (bs e.name),.slice ad e.kids.length cc]/\e.kids.length<=cc:=by
 cases e
 unfold XAt at h;obtain⟨ad,cc,xs,h1,h2,_⟩:=h;exact⟨ad,cc,h1,h2⟩
theorem XAt.size{W:World}{P:Nat->Prop}{e:Exp}{c:Array Value}(h:XAt W P e c):c.size=4:=by
 obtain⟨ad,cc,rfl,_⟩:=h.form;rfl
theorem Qcy.get{W:World}{P:Nat->Prop}:∀ {l:List Exp} {xs:List Value} {i:Nat} {e:Exp},Qcy W P l xs->l[i]?=some e->∃ c,XAt W P e c/\∀ j u,c[j]?=some u->xs[i*4+j]?=some u
 |[],xs,i,e,h,hi=>by cases hi
 |a::l,xs,0,e,h,hi=>by
  unfold Qcy at h;obtain⟨c,r,h1,rfl,h3⟩:=h;obtain rfl:a=e:=by simpa using hi
  refine⟨c,h1,fun j u hj=>?_⟩;have hl:j<c.toList.length:=by rw[Array.length_toList];exact(Array.getElem?_eq_some_iff.1 hj).1
  rw[Nat.zero_mul,Nat.zero_add,List.getElem?_append_left hl,Array.getElem?_toList];exact hj
 |a::l,xs,i+1,e,h,hi=>by
  unfold Qcy at h;obtain⟨c,r,h1,rfl,h3⟩:=h;obtain⟨c',g1,g2⟩:=h3.get (i:=i) (by simpa using hi);refine⟨c',g1,fun j u hj=>?_⟩;have hl:c.toList.length=4:=by rw[Array.length_toList,h1.size]
  rw[List.getElem?_append_right (by omega),hl,show (i+1)*4+j-4=i*4+j by omega];exact g2 j u hj
theorem XAt.kid{W:World}{P:Nat->Prop}{k n:Int}{s:List UInt8}{l:List Exp}{c:Array Value}(h:XAt W P (.mk k n s l) c):∃ ad cc,c=#[.int .i64 k,.int .i64 n,.string (bs s),.slice ad l.length cc]/\l.length<=cc/\
  (l≠[]->∃ b o,ad=some ⟨b,o,none⟩/\P b/\∀ i e,l[i]?=some e->∃ d,XAt W P e d/\∀ j u,d[j]?=some u->W.cell? ⟨b,o+i*4+j,none⟩=some u):=by
 unfold XAt at h;obtain⟨ad,cc,xs,h1,h2,h3,h4⟩:=h;refine⟨ad,cc,h1,h2,fun hne=>?_⟩
 rcases h4 with h4|⟨b,o,h5,h6,h7⟩
 ·exact absurd h4 hne
 ·refine⟨b,o,h5,h6,fun i e hi=>?_⟩;obtain⟨d,g1,g2⟩:=h3.get hi;exact⟨d,g1,fun j u hj=>by rw[Nat.add_assoc];exact h7 _ u (g2 j u hj)⟩
def QbF(W:World)(P:Nat->Prop)(l:List Int)(v:Value):Prop:=∃ ad cc,v=.slice ad l.length cc/\l.length<=cc/\(l=[]\/∃ b o,ad=some ⟨b,o,none⟩/\P b/\∀ i n,l[i]?=some n->W.cell? ⟨b,o+i,none⟩=some (.int .i64 n))
theorem QbF.keep{W W':World}{P Q:Nat->Prop}{l:List Int}{v:Value}(hk:∀ b,P b->W'.heap[b]?=W.heap[b]?)(hq:∀ b,P b->Q b)(h:QbF W P l v):QbF W' Q l v:=by
 obtain⟨ad,cc,h1,h2,h3⟩:=h;refine⟨ad,cc,h1,h2,h3.imp id ?_⟩;rintro⟨b,o,h4,h5,h6⟩;exact⟨b,o,h4,hq b h5,fun i n hi=>(World.cell?_of_block (a:=⟨b,o+i,none⟩) (hk b h5)).trans (h6 i n hi)⟩
def FnX(W:World)(P:Nat->Prop)(f:FnM)(c:List Value):Prop:=∃ v d,QbF W P f.params v/\XAt W P f.body d/\c=[.string (bs f.name),v,.int .i64 f.result]++d.toList
def ClX(W:World)(P:Nat->Prop)(m:ClM)(c:List Value):Prop:=∃ d,XAt W P m.cond d/\c=d.toList++[.int .i64 m.action,.string (bs m.reason)]
def QbR{α:Type}(R:α->List Value->Prop):List α->List Value->Prop
 |[],xs=>xs=[]
 |e::l,xs=>∃ c r,R e c/\xs=c++r/\QbR R l r
theorem QbR.imp{α:Type}{R R':α->List Value->Prop}(h:∀ a c,R a c->R' a c):∀ {l:List α} {xs:List Value},QbR R l xs->QbR R' l xs
 |[],xs,hh=>hh
 |e::l,xs,⟨c,r,h1,h2,h3⟩=>⟨c,r,h e c h1,h2,QbR.imp h h3⟩
theorem QbR.get{α:Type}{R:α->List Value->Prop}{m:Nat}(hR:∀ a c,R a c->c.length=m):∀ {l:List α} {xs:List Value} {i:Nat} {e:α},QbR R l xs->l[i]?=some e->∃ c,R e c/\∀ j u,c[j]?=some u->xs[i*m+j]?=some u
 |[],xs,i,e,h,hi=>by cases hi
 |a::l,xs,0,e,⟨c,r,h1,h2,h3⟩,hi=>by
  obtain rfl:a=e:=by simpa using hi
  refine⟨c,h1,fun j u hj=>?_⟩;rw[h2,Nat.zero_mul,Nat.zero_add,List.getElem?_append_left (List.getElem?_eq_some_iff.1 hj).1];exact hj
 |a::l,xs,i+1,e,⟨c,r,h1,h2,h3⟩,hi=>by
  obtain⟨c',g1,g2⟩:=QbR.get hR h3 (i:=i) (by simpa using hi);refine⟨c',g1,fun j u hj=>?_⟩;have hl:=hR _ _ h1;rw[h2,List.getElem?_append_right (by rw[hl,Nat.add_mul];omega),hl,show (i+1)*m+j-m=i*m+j by rw[Nat.add_mul];omega];exact g2 j u hj
theorem FnX.len{W:World}{P:Nat->Prop}(f:FnM)(c:List Value)(h:FnX W P f c):c.length=7:=by
 obtain⟨v,d,_,h2,rfl⟩:=h;have:=h2.size;simp[this]
theorem ClX.len{W:World}{P:Nat->Prop}(f:ClM)(c:List Value)(h:ClX W P f c):c.length=6:=by
 obtain⟨d,h2,rfl⟩:=h;have:=h2.size;simp[this]
theorem FnX.keep{W W':World}{P Q:Nat->Prop}(hk:∀ b,P b->W'.heap[b]?=W.heap[b]?)(hq:∀ b,P b->Q b)(f:FnM)(c:List Value)(h:FnX W P f c):FnX W' Q f c:=by
 obtain⟨v,d,h1,h2,h3⟩:=h;exact⟨v,d,h1.keep hk hq,h2.keep hk hq,h3⟩
theorem ClX.keep{W W':World}{P Q:Nat->Prop}(hk:∀ b,P b->W'.heap[b]?=W.heap[b]?)(hq:∀ b,P b->Q b)(f:ClM)(c:List Value)(h:ClX W P f c):ClX W' Q f c:=by
 obtain⟨d,h2,h3⟩:=h;exact⟨d,h2.keep hk hq,h3⟩
def QaI{α:Type}(W:World)(P:Nat->Prop)(R:α->List Value->Prop)(l:List α)(v:Value):Prop:=
 ∃ ad cc xs,v=.slice ad l.length cc/\l.length<=cc/\QbR R l xs/\(l=[]\/∃ b o,ad=some ⟨b,o,none⟩/\P b/\∀ j u,xs[j]?=some u->W.cell? ⟨b,o+j,none⟩=some u)
theorem QaI.keep{α:Type}{W W':World}{P Q:Nat->Prop}{R R':α->List Value->Prop}{l:List α}{v:Value}(hk:∀ b,P b->W'.heap[b]?=W.heap[b]?)(hq:∀ b,P b->Q b)(hR:∀ a c,R a c->R' a c)(h:QaI W P R l v):QaI W' Q R' l v:=by
 obtain⟨ad,cc,xs,h1,h2,h3,h4⟩:=h;refine⟨ad,cc,xs,h1,h2,h3.imp hR,h4.imp id ?_⟩;exact Qku
theorem QaI.get{α:Type}{W:World}{P:Nat->Prop}{R:α->List Value->Prop}{m:Nat}(hR:∀ a c,R a c->c.length=m){l:List α}{v:Value}(h:QaI W P R l v):∃ ad cc,v=.slice ad l.length cc/\l.length<=cc/\
  (l≠[]->∃ b o,ad=some ⟨b,o,none⟩/\P b/\∀ i e,l[i]?=some e->∃ c,R e c/\∀ j u,c[j]?=some u->W.cell? ⟨b,o+i*m+j,none⟩=some u):=by
 obtain⟨ad,cc,xs,h1,h2,h3,h4⟩:=h;refine⟨ad,cc,h1,h2,fun hne=>?_⟩
 rcases h4 with h4|⟨b,o,h5,h6,h7⟩
 ·exact absurd h4 hne
 ·refine⟨b,o,h5,h6,fun i e hi=>?_⟩;obtain⟨d,g1,g2⟩:=QbR.get hR h3 hi;exact⟨d,g1,fun j u hj=>by rw[Nat.add_assoc];exact h7 _ u (g2 j u hj)⟩
def QaZ(W:World)(P:Nat->Prop)(r:Qaq)(c:Array Value):Prop:=∃ fv cv,c=#[fv,cv,.int .i64 r.action]/\QaI W P (FnX W P) r.funcs fv/\QaI W P (ClX W P) r.clauses cv
theorem QaZ.keep{W W':World}{P Q:Nat->Prop}{r:Qaq}{c:Array Value}(hk:∀ b,P b->W'.heap[b]?=W.heap[b]?)(hq:∀ b,P b->Q b)(h:QaZ W P r c):QaZ W' Q r c:=by
 obtain⟨fv,cv,h1,h2,h3⟩:=h;exact⟨fv,cv,h1,h2.keep hk hq (FnX.keep hk hq),h3.keep hk hq (ClX.keep hk hq)⟩
theorem Qmx{P:Prop}(h:P:=by
  rcases h.2 with⟨rfl,h0⟩|⟨g,cap,cur,rfl,h1,h2,h3,h4,h5,h6⟩
  ·have:l=[]:=List.eq_nil_of_length_eq_zero h0;subst this;exact⟨none,0,xs,rfl,Nat.le_refl _,hr,.inl rfl⟩
  ·refine⟨_,cap,xs,rfl,h3,hr,.inr ⟨g,0,rfl,hP g rfl,fun j u hj=>?_⟩⟩;have:=h.cells (g:=g) rfl j u hj;have hadd:(⟨g,0,none⟩:Addr).add j=⟨g,j,none⟩:=by unfold Addr.add;split<;>simp_all
   rw[hadd]at this;rw[Nat.zero_add]
   exact this):P:=h
theorem QaI.own{α:Type}{W:World}{P:Nat->Prop}{R:α->List Value->Prop}{l:List α}{v:Value}{base e size:Nat}{xs:List Value}(h:W.ownsRow base e size v l.length xs)(hr:QbR R l xs)(hP:∀ g,v.ownBlock=some g->P g):QaI W P R l v:=by
 exact Qmx
theorem XAt.own{W:World}{P:Nat->Prop}{k n:Int}{s:List UInt8}{l:List Exp}{v:Value}{base e size:Nat}{xs:List Value}(h:W.ownsRow base e size v l.length xs)(hr:Qcy W P l xs)(hP:∀ g,v.ownBlock=some g->P g):XAt W P (.mk k n s l) #[.int .i64 k,.int .i64 n,.string (bs s),v]:=by
 unfold XAt;exact Qmx
theorem Qms{P:Prop}(h:P:=by
  exact⟨hst.os.trans (hc7.os.trans h6.bel.os),hst.tape.trans (hc7.tape.trans h6.bel.tape),hst.output.trans (hc7.output.trans h6.bel.output),by omega,fun q hq=>(hkeep q (by omega) (fun e1=>by have h1:=(hrow _ e1).1;omega) (by omega)).trans (h6.bel.block q hq)⟩):P:=h
theorem Jd{w W W':World}(h:Below w.heap.size w W)(hb:Below W.heap.size W W'):Below w.heap.size w W':=
 ⟨hb.os.trans h.os,hb.tape.trans h.tape,hb.output.trans h.output,Nat.le_trans h.size hb.size,fun q hq=>(hb.block q (Nat.lt_of_lt_of_le hq h.size)).trans (h.block q hq)⟩
end Go.Proofs.YtdlkcjkjnehnkaaGreatDoor
