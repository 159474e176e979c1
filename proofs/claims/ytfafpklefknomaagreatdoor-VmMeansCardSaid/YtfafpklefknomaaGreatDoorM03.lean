import Derived.Maps.Own
import Derived.Maps.OwnSet
import Derived.Maps.Views
import Derived.Maps.Keyed
import Derived.StringKeys
import Derived.Test.YtfafpklefknomaaGreatDoorM02
import Derived.Test.YtfafpklefknomaaGreatDoorM00
open List(cons_append getElem?_map map_nil mem_of_getElem? nil_append sum_nil)
open Nat(le_refl le_trans lt_of_lt_of_le)
namespace Go.Proofs.YtfafpklefknomaaGreatDoor
open Go.ChangeShapes Go.WideShapes Go.ChangeAt Go.RowKit Go.Lib
open _root_.Go.Proofs.Tryz
set_option linter.all false
set_option maxRecDepth 100000
set_option maxHeartbeats 32000000
def zx{P:Prop}(h:P:=by exact ⟨_,_,_,D2.o,by rw[List.map_append];exact M7.o,by have:=eA.o;rw[List.length_append,List.length_singleton];omega⟩):P:=h
abbrev U3(nm:By)(of:Int)(pa:Option Addr)(pn pc:Nat)(ta:Option Addr)(tn tc:Nat)(res:Int)(b:An)(yA:Option Addr)(yn yc:Nat):List Value:=[Sv nm,Iv of,.slice pa pn pc,.slice ta tn tc,Iv res,Iv b.kind,Iv b.num,Sv b.name,Iv b.off,.slice yA yn yc]
abbrev U4(a:An)(yA:Option Addr)(yn yc:Nat)(ac:Int)(rs:By):List Value:=[Iv a.kind,Iv a.num,Sv a.name,Iv a.off,.slice yA yn yc,Iv ac,Sv rs]
structure ClA where
 cond:An
 action:Int
 reason:By
 lo:Nat
 hi:Nat
def ClA.src(c:ClA):ClS:=⟨c.cond.nd,c.action,c.reason⟩
def ClA.cells(c:ClA):List Value:=(Qaa c.cond).toList++[Iv c.action,Sv c.reason]
structure ClA.Ok(W:World)(c:ClA):Prop where
 at':c.cond.At W
 made:Qce c.lo c.hi c.cond
 hle:c.lo<=c.hi/\c.hi<=W.heap.size
variable{W W' w6 w7 w w':World}
def ClA.Ok.chg{S:List Nat}{c:ClA}(h:c.Ok W)(hc:Chg S W W')(hs:∀b∈S,b<c.lo\/c.hi<=b):c.Ok W':=
 ⟨JK _ h.at' λb hb=>hc.block b (zv ((h.made.2 b hb).2) h.hle) λhm=>by have:=h.made.2 b hb;rcases hs b hm with h|h<;>omega,h.made,h.hle.1,Nat.le_trans h.hle.2 hc.size⟩
structure Qap where
 funcs:List FnA
 clauses:List ClA
 action:Int
 fv:Value
 cv:Value
def Qap.src(S:Qap):Src:=⟨S.funcs.map FnA.src,S.clauses.map ClA.src,S.action⟩
def Qap.ivs(S:Qap):List (Nat×Nat):=S.funcs.map (λf=>(f.lo,f.hi))++S.clauses.map λc=>(c.lo,c.hi)
structure QaH(W:World)(sb:Nat)(S:Qap):Prop where
 box:W.heap[sb]?=some (.cells #[S.fv,S.cv,Iv S.action] 141 (0,0))
 fown:W.ownsRow (sb+1) 147 10 S.fv S.funcs.length (S.funcs.flatMap FnA.cells)
 cown:W.ownsRow (sb+1) 151 7 S.cv S.clauses.length (S.clauses.flatMap ClA.cells)
 fok:∀f∈S.funcs,f.Ok W/\sb<f.lo/\f.lo<=f.hi
 cok:∀c∈S.clauses,c.Ok W/\sb<c.lo
 pair:S.ivs.Pairwise λa b=>a.2<=b.1
 fout:∀g,S.fv.ownBlock=some g->∀i∈S.ivs,g<i.1\/i.2<=g
 cout:∀g,S.cv.ownBlock=some g->∀i∈S.ivs,g<i.1\/i.2<=g
variable{S:Qap}{c sb f p C j n b base e size rb:Nat}
def QaH.ivs(h:QaH W sb S):∀i∈S.ivs,sb<i.1/\i.1<=i.2/\i.2<=W.heap.size:=by
 intro i hi
 rcases List.mem_append.1 hi with hi|hi
 ·obtain⟨f,hf,rfl⟩:=List.mem_map.1 hi;obtain⟨h1,h2,h3⟩:=h.fok f hf;exact⟨h2,h3,h1.hle⟩
 ·obtain⟨c,hc,rfl⟩:=List.mem_map.1 hi;obtain⟨h1,h2⟩:=h.cok c hc;exact⟨h2,h1.hle.1,h1.hle.2⟩
def QaH.on{Sx:List Nat}(h:QaH W sb S)(hc:Chg Sx W W')(hs:∀b∈Sx,b<sb):QaH W' sb S:=
 ⟨hc.heap_some (λhm=>by have:=hs _ hm;omega) h.box,JA h.fown hc λb hb=>by have:=hs b hb;omega,JA h.cown hc λb hb=>by have:=hs b hb;omega,
  λf hf=>⟨(h.fok f hf).1.chg hc λb hb=>.inl (zv (hs b hb) ((h.fok f hf).2.1)),(h.fok f hf).2⟩,
  λc hc'=>⟨(h.cok c hc').1.chg hc λb hb=>.inl (zv (hs b hb) ((h.cok c hc').2)),(h.cok c hc').2⟩,h.pair,h.fout,h.cout⟩
variable{X:Obj}{v fv cv v' u:Value}
def JP(hgr:(w6.alloc X).grownBy w7 v.ownBlock):Chg (v.ownBlock.toList) w6 w7:=
 ⟨hgr.os,hgr.tape,hgr.output,by have:=hgr.size;simp at this;omega,λq hq hn=>(hgr.block q zr λe=>hn (by rw[<-e];simp)).trans (heap_alloc_old _ _ hq)⟩
def Jco{l:List (Nat×Nat)}{x:Nat×Nat}(h:l.Pairwise λa b=>a.2<=b.1)(hx:∀i∈l,i.2<=x.1):(l++[x]).Pairwise λa b=>a.2<=b.1:=
 List.pairwise_append.2 ⟨h,by simp,λa ha b hb=>by obtain rfl:b=x:=(by simpa using hb);exact hx a ha⟩
def Qhr{P:Prop}(h:P:=by
  rcases List.mem_cons.1 hb with rfl|hb
  ·exact .inl (by omega)
  ·have:=(Q7 b (by simpa using hb)).2
   exact .inl (by omega)):P:=h
variable{act k off:Int}{fs:List FnA}
def QaH.addF{f:FnA}(h:QaH W sb ⟨fs,[],act,fv,cv⟩)(h6:QaH w6 sb ⟨fs,[],act,fv,cv⟩)(hss:W.heap.size<=w6.heap.size)(hf:f.Ok w6)(hlo:W.heap.size<=f.lo)(OG:f.lo<=f.hi)
  (hown:w7.ownsRow (sb+1) 147 10 v' (fs.length+1) (fs.flatMap FnA.cells++f.cells)) (hgr:(w6.alloc X).grownBy w7 fv.ownBlock) (O0:v'.ownBlock=fv.ownBlock\/v'.ownBlock=some (w6.alloc X).heap.size):
  QaH (w7.setCell ⟨sb,0,none⟩ v') sb ⟨fs++[f],[],act,v',cv⟩/\w7.heap[sb]?=some (.cells #[fv,cv,Iv act] 141 (0,0)):=by
 have I4:=JP hgr;have hst:Chg [sb] w7 (w7.setCell ⟨sb,0,none⟩ v'):=(Chg.refl _ _).setCell (.inl (by simp:sb∈[sb])) (p:=⟨sb,0,none⟩) v';have Q7:∀g,fv.ownBlock=some g->sb+1<=g/\g<W.heap.size:=λg hg=>h.fown.lt g hg
 have R0:w7.heap[sb]?=some (.cells #[fv,cv,Iv act] 141 (0,0)):=I4.heap_some (λhm=>by
  have:=(Q7 sb (by simpa using hm)).1
  omega) h6.box
 have zA:∀i∈(Qap.mk fs [] act fv cv).ivs,sb<i.1/\i.1<=i.2/\i.2<=W.heap.size:=h.ivs;have xA:(Qap.mk (fs++[f]) [] act v' cv).ivs=(Qap.mk fs [] act fv cv).ivs++[(f.lo,f.hi)]:=by simp[Qap.ivs]
 have vA:=hf.hle;have yA:Chg (sb::fv.ownBlock.toList) w6 (w7.setCell ⟨sb,0,none⟩ v'):=(I4.mono λk hk=>.inl (by simp;exact .inr (by simpa using hk))).trans (hst.mono λk hk=>.inl (by simp at hk;simp[hk]));refine⟨⟨Jm R0 0 v',?_,?_,?_,by simp,?_,?_,?_⟩,R0⟩
 ·have:=JA hown hst zq;simpa using this
 ·exact JA (Zk h6.cown hgr (VP h6.cown h6.fown zp)) hst zq
 ·intro x hx
  rcases List.mem_append.1 hx with hx|hx
  ·obtain⟨g1,g2,g3⟩:=h6.fok x hx;refine⟨g1.chg yA λb hb=>?_,g2,g3⟩
   rcases List.mem_cons.1 hb with rfl|hb
   ·exact .inl g2
   ·exact h.fout b (by simpa using hb) (x.lo,x.hi) (List.mem_append_left _ (List.mem_map.2 ⟨x,hx,rfl⟩))
  ·obtain rfl:x=f:=by simpa using hx
   have:=Jb h.box;refine⟨hf.chg yA λb hb=>?_,by show sb<x.lo;omega,OG⟩;exact Qhr
 ·rw[xA];exact Jco h.pair λi hi=>by have:=(zA i hi).2.2;show i.2<=f.lo;omega
 ·intro g hg i hi;rw[xA]at hi
  rcases O0 with e|e
  ·have uA:=e.symm.trans hg
   rcases List.mem_append.1 hi with hi|hi
   ·exact h.fout g uA i hi
   ·obtain rfl:i=(f.lo,f.hi):=by simpa using hi
    have:=(Q7 g uA).2;exact .inl (by show g<f.lo;omega)
  ·rw[hg]at e;simp at e
   rcases List.mem_append.1 hi with hi|hi
   ·have:=(zA i hi).2.2;exact .inr zo
   ·obtain rfl:i=(f.lo,f.hi):=by simpa using hi
    exact .inr (by show f.hi<=g;omega)
 ·intro g hg i hi;rw[xA]at hi
  rcases List.mem_append.1 hi with hi|hi
  ·exact h.cout g hg i hi
  ·obtain rfl:i=(f.lo,f.hi):=by simpa using hi
   have:=(h.cown.lt g hg).2;exact .inl (by show g<f.lo;omega)
variable{cs:List ClA}
def QaH.addC{c:ClA}(h:QaH W sb ⟨fs,cs,act,fv,cv⟩)(h6:QaH w6 sb ⟨fs,cs,act,fv,cv⟩)(hss:W.heap.size<=w6.heap.size)(hf:c.Ok w6)(hlo:W.heap.size<=c.lo)
  (hown:w7.ownsRow (sb+1) 151 7 v' (cs.length+1) (cs.flatMap ClA.cells++c.cells)) (hgr:(w6.alloc X).grownBy w7 cv.ownBlock) (O0:v'.ownBlock=cv.ownBlock\/v'.ownBlock=some (w6.alloc X).heap.size):
  QaH (w7.setCell ⟨sb,1,none⟩ v') sb ⟨fs,cs++[c],act,fv,v'⟩/\w7.heap[sb]?=some (.cells #[fv,cv,Iv act] 141 (0,0)):=by
 have I4:=JP hgr;have hst:Chg [sb] w7 (w7.setCell ⟨sb,1,none⟩ v'):=(Chg.refl _ _).setCell (.inl (by simp:sb∈[sb])) (p:=⟨sb,1,none⟩) v';have Q7:∀g,cv.ownBlock=some g->sb+1<=g/\g<W.heap.size:=λg hg=>h.cown.lt g hg
 have R0:w7.heap[sb]?=some (.cells #[fv,cv,Iv act] 141 (0,0)):=I4.heap_some (λhm=>by
  have:=(Q7 sb (by simpa using hm)).1
  omega) h6.box
 have zA:∀i∈(Qap.mk fs cs act fv cv).ivs,sb<i.1/\i.1<=i.2/\i.2<=W.heap.size:=h.ivs;have yA:(Qap.mk fs (cs++[c]) act fv v').ivs=(Qap.mk fs cs act fv cv).ivs++[(c.lo,c.hi)]:=by simp[Qap.ivs]
 have vA:=hf.hle;have xA:Chg (sb::cv.ownBlock.toList) w6 (w7.setCell ⟨sb,1,none⟩ v'):=(I4.mono λk hk=>.inl (by simp;exact .inr (by simpa using hk))).trans (hst.mono λk hk=>.inl (by simp at hk;simp[hk]));refine⟨⟨Jm R0 1 v',?_,?_,?_,?_,?_,?_,?_⟩,R0⟩
 ·exact JA (Zk h6.fown hgr (VP h6.fown h6.cown zp)) hst zq
 ·have:=JA hown hst zq;simpa using this
 ·intro x hx;obtain⟨g1,g2,g3⟩:=h6.fok x hx;refine⟨g1.chg xA λb hb=>?_,g2,g3⟩
  rcases List.mem_cons.1 hb with rfl|hb
  ·exact .inl g2
  ·exact h.cout b (by simpa using hb) (x.lo,x.hi) (List.mem_append_left _ (List.mem_map.2 ⟨x,hx,rfl⟩))
 ·intro x hx
  rcases List.mem_append.1 hx with hx|hx
  ·obtain⟨g1,g2⟩:=h6.cok x hx;refine⟨g1.chg xA λb hb=>?_,g2⟩
   rcases List.mem_cons.1 hb with rfl|hb
   ·exact .inl g2
   ·exact h.cout b (by simpa using hb) (x.lo,x.hi) (List.mem_append_right _ (List.mem_map.2 ⟨x,hx,rfl⟩))
  ·obtain rfl:x=c:=by simpa using hx
   have:=Jb h.box;refine⟨hf.chg xA λb hb=>?_,by show sb<x.lo;omega⟩;exact Qhr
 ·rw[yA];exact Jco h.pair λi hi=>by have:=(zA i hi).2.2;show i.2<=c.lo;omega
 ·intro g hg i hi;rw[yA]at hi
  rcases List.mem_append.1 hi with hi|hi
  ·exact h.fout g hg i hi
  ·obtain rfl:i=(c.lo,c.hi):=by simpa using hi
   have:=(h.fown.lt g hg).2;exact .inl (by show g<c.lo;omega)
 ·intro g hg i hi;rw[yA]at hi
  rcases O0 with e|e
  ·have uA:=e.symm.trans hg
   rcases List.mem_append.1 hi with hi|hi
   ·exact h.cout g uA i hi
   ·obtain rfl:i=(c.lo,c.hi):=by simpa using hi
    have:=(Q7 g uA).2;exact .inl (by show g<c.lo;omega)
  ·rw[hg]at e;simp at e
   rcases List.mem_append.1 hi with hi|hi
   ·have:=(zA i hi).2.2;exact .inr zo
   ·obtain rfl:i=(c.lo,c.hi):=by simpa using hi
    exact .inr (by show c.hi<=g;omega)
def QaH.setA(h:QaH W sb S)(a:Int):QaH (W.setCell ⟨sb,2,none⟩ (Iv a)) sb {S with action:=a}:=by
 have hst:Chg [sb] W (W.setCell ⟨sb,2,none⟩ (Iv a)):=(Chg.refl _ _).setCell (.inl (by simp:sb∈[sb])) (p:=⟨sb,2,none⟩) _;exact⟨Jm h.box 2 _,JA h.fown hst zq,JA h.cown hst zq,λf hf=>⟨(h.fok f hf).1.chg hst λb hb=>.inl (by have:=(h.fok f hf).2.1;simp at hb;omega),(h.fok f hf).2⟩,λc hc=>⟨(h.cok c hc).1.chg hst λb hb=>.inl (by have:=(h.cok c hc).2;simp at hb;omega),(h.cok c hc).2⟩,h.pair,h.fout,h.cout⟩
def QaH.up{L:List Nat}{W0:World}(h0:QaH W0 sb S)(h:QaH W sb S)(hc:Chg L W W')(hL:∀b∈L,W0.heap.size<=b):QaH W' sb S:=by
 have xA:=h0.ivs
 have hk:∀{e size n:Nat}{v:Value}{xs:List Value},W0.ownsRow (sb+1) e size v n xs->W.ownsRow (sb+1) e size v n xs->W'.ownsRow (sb+1) e size v n xs:=by
  intro e size n v xs h1 h2;refine⟨h2.1,h2.2.imp id ?_⟩;rintro⟨g,cap,cur,rfl,r2,r3,r4⟩;have:=(h1.lt g rfl).2;exact⟨g,cap,cur,rfl,r2,hc.heap_some (λhm=>by have:=hL g hm;omega) r3,r4⟩
 have hb:=Jb h0.box
 exact⟨hc.heap_some (λhm=>by have:=hL sb hm;omega) h.box,hk h0.fown h.fown,hk h0.cown h.cown,
  λf hf=>⟨(h.fok f hf).1.chg hc λb hb=>.inr (zv (hL b hb) ((h0.fok f hf).1.hle)),(h.fok f hf).2⟩,
  λc hc'=>⟨(h.cok c hc').1.chg hc λb hb=>.inr (zv (hL b hb) ((h0.cok c hc').1.hle.2)),(h.cok c hc').2⟩,h.pair,h.fout,h.cout⟩
variable{A:Option Addr}{T r r':List Tok}
def PAt.over{k:Nat}(h:PAt W p A C T k)(hT:∀b o,A=some ⟨b,o,none⟩->b<w.heap.size)(hp:p<w.heap.size)(hw:w.heap.size<=sb)(hk:∀q,q<sb->W'.heap[q]?=W.heap[q]?):PAt W' p A C T k:=by
 obtain⟨tb,ot,hA,xA,yA⟩:=h.toks;have zA:=hT _ _ hA;exact⟨(hk p zo).trans h.self,⟨tb,ot,hA,xA,λi t hi j u hu=>(World.cell?_of_block (hk tb zo)).trans (yA i t hi j u hu)⟩,h.lt,h.fin,h.room⟩
structure SrB(p:Nat)(A:Option Addr)(C:Nat)(T:List Tok)(w W:World)(k:Nat)(S:Qap):Prop where
 pat:PAt W p A C T k
 ok:QaH W w.heap.size S
 chg:Chg [p] w W
def SrB.on{k k':Nat}(h:SrB p A C T w W k S)(hp:p<w.heap.size)(hP:PAt W' p A C T k')(hc:Chg [p] W W'):SrB p A C T w W' k' S:=
 ⟨hP,h.ok.on hc (by simp;exact hp),h.chg.trans hc⟩
def SrB.over{k:Nat}{S':Qap}{L:List Nat}(h:SrB p A C T w W k S)(hp:p<w.heap.size)(hT:∀b o,A=some ⟨b,o,none⟩->b<w.heap.size)(ho:QaH W' w.heap.size S')(hc:Chg L W W')(hL:∀b∈L,w.heap.size<=b):SrB p A C T w W' k S':=
 ⟨h.pat.over hT hp zP λq hq=>hc.block q (zu (Jb h.ok.box)) λhm=>by have:=hL q hm;omega,ho,h.chg.step hc λb hb=>.inr (hL b hb)⟩
def Jcp(hgr:(w6.alloc X).grownBy w7 v.ownBlock):Chg (sb::v.ownBlock.toList) w6 (w7.setCell ⟨sb,j,none⟩ u):=
 ((JP hgr).mono λk hk=>.inl (List.mem_cons_of_mem _ hk)).trans (((Chg.refl [sb] w7).setCell (.inl zq) (p:=⟨sb,j,none⟩) u).mono λk hk=>.inl (by simp at hk;simp[hk]))
def SrB.addF{k k6:Nat}{f:FnA}(h:SrB p A C T w W k ⟨fs,[],act,fv,cv⟩)(hp:p<w.heap.size)(hT:∀b o,A=some ⟨b,o,none⟩->b<w.heap.size)(O1:Chg [p] W w6)(hP:PAt w6 p A C T k6)(hf:f.Ok w6)(hlo:W.heap.size<=f.lo)(OG:f.lo<=f.hi)
  (hown:w7.ownsRow (w.heap.size+1) 147 10 v' (fs.length+1) (fs.flatMap FnA.cells++f.cells)) (hgr:(w6.alloc X).grownBy w7 fv.ownBlock) (O0:v'.ownBlock=fv.ownBlock\/v'.ownBlock=some (w6.alloc X).heap.size):
  SrB p A C T w (w7.setCell ⟨w.heap.size,0,none⟩ v') k6 ⟨fs++[f],[],act,v',cv⟩/\w7.heap[w.heap.size]?=some (.cells #[fv,cv,Iv act] 141 (0,0)):=by
 have h6:=h.on hp hP O1;obtain⟨g1,g2⟩:=h.ok.addF h6.ok O1.size hf hlo OG hown hgr O0
 exact⟨h6.over hp hT g1 (Jcp hgr) (λb hb=>by
  rcases List.mem_cons.1 hb with rfl|hb
  ·exact le_refl _
  ·have:=(h.ok.fown.lt b (by simpa using hb)).1
   omega),g2⟩
structure ClR(p:Nat)(A:Option Addr)(C:Nat)(T:List Tok)(w W0 W:World)(k:Nat)(S:Qap)(cb lo hi:Nat)(a:An)(act:Int)(rs:By):Prop where
 srb:SrB p A C T w W k S
 ok0:QaH W0 w.heap.size S
 c0:W0.heap.size<=lo/\lo<=hi/\hi<=cb
 at':a.At W
 made:Qce lo hi a
 box:W.heap[cb]?=some (.cells (ClA.mk a act rs lo hi).cells.toArray 151 (0,0))
variable{fr:Nat×Nat}
section
variable {p:Nat}{A:Option Addr}{C:Nat}{T:List Tok}{w W0 W W':World}{k k':Nat}{S:Qap}{cb lo hi:Nat}{a:An}{act:Int}{rs:By}
def ClR.make{k6:Nat}(h:SrB p A C T w W0 k S)(hp:p<w.heap.size)(hat:a.At w6)(P7:Qce W0.heap.size w6.heap.size a)(hP:PAt w6 p A C T k6)(hc:Chg [p] W0 w6):ClR p A C T w W0 (w6.alloc (.cells (ClA.mk a 0 [] 0 0).cells.toArray 151)) k6 S w6.heap.size W0.heap.size w6.heap.size a 0 []:=by
 have hb:yr w6 (w6.alloc (.cells (ClA.mk a 0 [] 0 0).cells.toArray 151)):=zO.alloc zP _;exact⟨(h.on hp hP hc).on hp (hP.chg hb) (Chg.of_below hb [p]),h.ok,⟨le_refl _,hc.size,le_refl _⟩,K1 hat P7 hb zP,P7,zQ _ _⟩
def ClR.on(h:ClR p A C T w W0 W k S cb lo hi a act rs)(hp:p<w.heap.size)(hP:PAt W' p A C T k')(hc:Chg [p] W W'):ClR p A C T w W0 W' k' S cb lo hi a act rs:=by
 have hw:=Jb h.ok0.box;obtain⟨c1,c2,c3⟩:=h.c0;have hlt:=Jb h.box;exact⟨h.srb.on hp hP hc,h.ok0,h.c0,JK _ h.at' λb hb=>by have:=h.made.2 b hb;exact hc.block b zo zr,h.made,hc.heap_some zr h.box⟩
def ClR.set{act':Int}{rs':By}(h:ClR p A C T w W0 W k S cb lo hi a act rs)(hp:p<w.heap.size)(hT:∀b o,A=some ⟨b,o,none⟩->b<w.heap.size)
  (hb:(W.setCell ⟨cb,j,none⟩ u).heap[cb]?=some (.cells (ClA.mk a act' rs' lo hi).cells.toArray 151 (0,0))):ClR p A C T w W0 (W.setCell ⟨cb,j,none⟩ u) k S cb lo hi a act' rs':=by
 have hw:=Jb h.ok0.box;obtain⟨c1,c2,c3⟩:=h.c0;have hst:Chg [cb] W (W.setCell ⟨cb,j,none⟩ u):=(Chg.refl _ _).setCell (.inl (by simp:cb∈[cb])) (p:=⟨cb,j,none⟩) u;have hlt:=Jb h.box;exact⟨h.srb.over hp hT (h.ok0.up h.srb.ok hst λb hb=>by simp at hb;omega) hst λb hb=>by simp at hb;omega,h.ok0,h.c0,JK _ h.at' λb hb=>by have:=h.made.2 b hb;exact hst.block b zo zr,h.made,hb⟩
def ClR.setAct(h:ClR p A C T w W0 W k S cb lo hi a 0 [])(hp:p<w.heap.size)(hT:∀b o,A=some ⟨b,o,none⟩->b<w.heap.size)(n:Int):ClR p A C T w W0 (W.setCell ⟨cb,5,none⟩ (Iv n)) k S cb lo hi a n []:=
 h.set hp hT (by
  obtain⟨xA,xn,xc,T1⟩:=Jg a;have:=Jm h.box 5 (Iv n);simp only[ClA.cells,T1]at this |-
  exact this)
def ClR.setRs{n:Int}(h:ClR p A C T w W0 W k S cb lo hi a n [])(hp:p<w.heap.size)(hT:∀b o,A=some ⟨b,o,none⟩->b<w.heap.size)(rs:By):ClR p A C T w W0 (W.setCell ⟨cb,6,none⟩ (Sv rs)) k S cb lo hi a n rs:=
 h.set hp hT (by
  obtain⟨xA,xn,xc,T1⟩:=Jg a;have:=Jm h.box 6 (Sv rs);simp only[ClA.cells,T1]at this |-
  exact this)
def ClR.kept{sa:Int}(h:ClR p A C T w W0 W k ⟨fs,cs,sa,fv,cv⟩ cb lo hi a act rs)(hgr:(W.alloc X).grownBy w7 cv.ownBlock):w7.heap[cb]?=W.heap[cb]?:=by
 have hlt:=Jb h.box;obtain⟨c1,c2,c3⟩:=h.c0;exact(hgr.block cb zr λe=>by have:=(h.ok0.cown.lt cb e.symm).2;omega).trans (heap_alloc_old _ _ hlt)
def ZL{t:Nat}{a0 a1 a2 a3 a4 a5 a6:Value}(h:W.heap[b]?=some (.cells #[a0,a1,a2,a3,a4,a5,a6] t fr)):
  yW W b a0 a1 a2 a3 a4 a5 a6:=by
 refine⟨?_,?_,?_,?_,?_,?_,?_⟩<;>(rw[Ja h];rfl)
def ClR.addC{sa:Int}(h:ClR p A C T w W0 W k ⟨fs,cs,sa,fv,cv⟩ cb lo hi a act rs)(hp:p<w.heap.size)(hT:∀b o,A=some ⟨b,o,none⟩->b<w.heap.size)
  (hown:w7.ownsRow (w.heap.size+1) 151 7 v' (cs.length+1) (cs.flatMap ClA.cells++(ClA.mk a act rs lo hi).cells)) (hgr:(W.alloc X).grownBy w7 cv.ownBlock) (O0:v'.ownBlock=cv.ownBlock\/v'.ownBlock=some (W.alloc X).heap.size):
  SrB p A C T w (w7.setCell ⟨w.heap.size,1,none⟩ v') k ⟨fs,cs++[⟨a,act,rs,lo,hi⟩],sa,fv,v'⟩/\w7.heap[w.heap.size]?=some (.cells #[fv,cv,Iv sa] 141 (0,0)):=by
 have hw:=Jb h.ok0.box;obtain⟨c1,c2,c3⟩:=h.c0;have hlt:=Jb h.box;obtain⟨g1,g2⟩:=h.ok0.addC (c:=⟨a,act,rs,lo,hi⟩) h.srb.ok zo ⟨h.at',h.made,c2,by show hi<=_;omega⟩ c1 hown hgr O0
 exact⟨h.srb.over hp hT g1 (Jcp hgr) (λb hb=>by
  rcases List.mem_cons.1 hb with rfl|hb
  ·exact le_refl _
  ·have:=(h.ok0.cown.lt b (by simpa using hb)).1
   omega),g2⟩
end
def SrP(p:Nat)(A:Option Addr)(C:Nat)(T:List Tok)(w:World)(x:PR Src)(e:Ending)(w':World):Prop:=
 match x with
 |.out=>True
 |.bad o=>QgN p w o e w'
 |.ok s r=>∃S:Qap,S.src=s/\e=.returned (Pt w.heap.size)/\QaH w' w.heap.size S/\Chg [p] w w'
variable{α:Type}
def SrB.bad{k:Nat}{x:PR α}{g:α->List Tok->PR Src}{X:PR Src}{R:Ending->World->Prop}{q:Int}(h:SrB p A C T w W k S)(hR:R=SrP p A C T w X)(hX:x.bind g=X)(hx:x=.bad q)(hc:Chg [p] W W'):R (.panicked [{v:=Qeo q,recovered:=false}]) W':=by
 subst hx hX hR;exact⟨rfl,h.chg.trans hc⟩
def QgE:(prog.info? 147).map (λi=>(i.zero,i.size,i.bytes))=some (some (.agg #[Em,Iv 0,Nl,Nl,Iv 0,Iv 0,Iv 0,Em,Iv 0,Nl]),10,144):=zk
def QgF:(prog.info? 151).map (λi=>(i.zero,i.size,i.bytes))=some (some (.agg #[Iv 0,Iv 0,Em,Iv 0,Nl,Iv 0,Em]),7,88):=zk
def QiD(fs:List FnS)(cs:List ClS)(r2:List Tok):PR Src:=(Qar 0 Qdd r2).bind λ_ r3=>(Qdg r3).bind λa r4=>if (hd r4).kind=4 then .ok ⟨fs,cs,a⟩ r4 else .bad (hd r4).off
def QiE(f:Nat)(fs:List FnS)(r1:List Tok):PR Src:=(QaP f f [] r1).bind (QiD fs)
def JlT(f:Nat)(r:List Tok):QdU f r=(QcF f f [] r).bind (QiE f):=rfl
def JjC(g f:Nat)(l:List FnS)(r:List Tok):QcF g (f+1) l r=match acc 0 Qig r with|some r1=>(Qeg g r1).bind (λx r2=>QcF g f (l++[x]) r2)|none=>.ok l r:=by rw[QcF];rfl
def JdK(g f:Nat)(l:List ClS)(r:List Tok):QaP g (f+1) l r=match acc 0 Qfr r with|some r1=>(pM g .expr r1).bind λc r2=>(Qar 0 Qen r2).bind λ_ r3=>(Qdg r3).bind λa r4=>(Qct r4).bind λs r5=>QaP g f (l++[⟨c,a,s⟩]) r5|none=>.ok l r:=by rw[QaP];rfl
def JfS(r:List Tok):(∃t r',Qdg r=.ok t r')\/Qdg r=.bad (hd r).off:=by
 unfold Qdg;split
 ·exact .inl ⟨_,_,rfl⟩
 ·split
  ·exact .inl ⟨_,_,rfl⟩
  ·split
   ·exact .inl ⟨_,_,rfl⟩
   ·split
    ·exact .inl ⟨_,_,rfl⟩
    ·exact .inr rfl
def JgZ(r:List Tok):Qdg r≠.out:=by
 rcases JfS r with⟨_,_,h⟩|h<;>rw[h]<;>exact λh=>by cases h
def JjD(r:List Tok):Qct r≠.out:=by
 rcases ZI r with⟨_,_,h⟩|h<;>rw[h]<;>exact λh=>by cases h
def JjE(f p:Nat)(A:Option Addr)(C:Nat)(T:List Tok)(hf:f<=100000000)(hx:∀t∈T,t.text.length<=1000000)
  (k:Nat) (w:World) (h:PAt w p A C T k) (hne:QdU f (T.drop k)≠.out):
  Calls prog 34 #[Pt p] w (SrP p A C T w (QdU f (T.drop k))):=by
 have I1:=JjB p A C T hx f hf;have I2:=Jcn f p A C T hf hx I1;obtain⟨X,hX⟩:∃X,QdU f (T.drop k)=X:=⟨_,rfl⟩
 have kA:=hX;rw[JlT]at kA;rw[hX]at hne |-;obtain⟨R,hR⟩:∃R,SrP p A C T w X=R:=⟨_,rfl⟩
 rw[hR];have HR:Hi (R=SrP p A C T w X):=hR.symm;have N3:=Zh hne;have D3:=Zh h.chg1;have W6:=Zh h.tokLt;have qA:Below w.heap.size w (w.alloc (.cells #[Nl,Nl,Iv 0] 141)):=zO.alloc zP _
 have cA:Hi (∃k2 fv fs,SrB p A C T w (w.alloc (.cells #[Nl,Nl,Iv 0] 141)) k2 ⟨fs,[],0,fv,Nl⟩/\((QcF f f (fs.map FnA.src) (T.drop k2)).bind (QiE f))=X/\f+fs.length<=f):=
  ⟨k,_,[],⟨h.chg qA,⟨zQ _ _,World.ownsRow_nil _ _ _ _,World.ownsRow_nil _ _ _ _,by simp,by simp,by simp[Qap.ivs],by simp[Qap.ivs],by simp[Qap.ivs]⟩,Chg.of_below qA [p]⟩,kA,le_refl _⟩
 have I6:p≠w.heap.size:=by have:=D3.o;omega
 have aB:w.heap.size≠p:=by have:=D3.o;omega
 clear h hne hR qA kA hX;go_enter func34,ntmps34;go_wp2_with fail;generalize World.alloc w _=wa at*;go_loopg [] f λg wr=>Hi (∃k2 fv fs,SrB p A C T w wr k2 ⟨fs,[],0,fv,Nl⟩/\((QcF f g (fs.map FnA.src) (T.drop k2)).bind (QiE f))=X/\g+fs.length<=f)
 case atStart=>exact cA
 case round=>
 clear cA;obtain⟨wl,rfl⟩:=zJ wr;obtain⟨k2,fv,fs,hI,zA,gA⟩:=hrel.o
 cases gk with
 |zero=>exact absurd zA.symm N3.o
 |succ g2=>
 rw[JjC]at zA;have HI:=Zh hI;have B0:=Zh zA;have eA:Hi (g2+1+fs.length<=f):=gA;have dA:fs.length<=100000000:=zo;clear hI zA gA hrel;go_wp2_with fail;refine(Jt p A C T k2 0 Qig wl HI.o.pat zp).mono ?_;intro e w3 h3
 rcases h3 with⟨g1,g2',rfl,D9,B5⟩|⟨g1,rfl,AA⟩
 ·have xA:=B0.o;rw[JN g1 g2']at xA;dsimp only at xA;replace B0:=Zh (Vg xA);replace HI:=Zh (HI.o.on D3.o D9 B5);clear g1 g2' D9 B5 xA;obtain⟨va,vn,vc,zB⟩:=Jk HI.o.ok.fown;dsimp only at zB;subst zB;have S6:Qeg f (T.drop (k2+1))≠.out:=JO B0.o N3.o;have hD:Below w3.heap.size w3 w3.drew:=(Below.refl w3.heap.size w3).drew;replace HI:=Zh (HI.o.on D3.o (HI.o.pat.chg hD) (Chg.of_below hD [p]));clear hD;go_upto_region 3 with fail;have hcl:=Ja HI.o.ok.box 0;simp only[zW]at hcl;refine LB (λW=>W.cell? ⟨w.heap.size,0,none⟩=some (.slice va vn vc)) 11 (by simp[*,World.cell?_alloc_some]) λhH=>?_
  refine LK 0 rfl ?_;refine LK 1 rfl ?_;refine LK 2 rfl ?_;refine LK 3 rfl ?_;refine LK 4 rfl ?_;refine LK 5 rfl ?_;refine LO 6 rfl λK hK=>?_
  go_simp;go_at_call 87;refine(I2 (k2+1) _ HI.o.pat S6).mono ?_;intro e w6 h6
  cases XA:Qeg f (T.drop (k2+1)) with
  |out=>exact absurd XA S6
  |bad q=>
   rw[XA]at h6;obtain⟨rfl,O1⟩:=h6;exact⟨rfl,HI.o.bad HR.o B0.o XA O1⟩
  |ok fn r=>
  rw[XA]at h6;obtain⟨F,hF,rfl,hA,hlo,sA,⟨k4,hr,X8⟩,O1⟩:=h6;subst hF hr;obtain⟨nm,of,ps,ts,res,b,pv,tv,cB,bB⟩:=F;obtain⟨pa,pn,pc,uB⟩:=Jk hA.pown;obtain⟨ta,tn,tc,yB⟩:=Jk hA.town;dsimp only at uB yB hlo sA;subst uB yB;obtain⟨yA,yn,yc,Q4⟩:=Jg b;have bA:(FnA.mk nm of ps ts res b (.slice pa pn pc) (.slice ta tn tc) cB bB).cells=(U3 nm of pa pn pc ta tn tc res b yA yn yc):=by simp only[FnA.cells,Q4,cons_append,nil_append]
  have M7:=Zh (Jx B0.o XA);have iA:=Zh (HI.o.on D3.o X8 O1);have HAD:=Zh (show _/\_/\_/\_/\_ from⟨O1,X8,hA,hlo,sA⟩);have jA:=Zh bA;have HOW:=Zh (iA.o.ok.fown.alloc (.cells ((U3 nm of pa pn pc ta tn tc res b yA yn yc)).toArray 147));have R3:=Zh (zQ w6 (.cells ((U3 nm of pa pn pc ta tn tc res b yA yn yc)).toArray 147));have Q2:w.heap.size+1<=(w6.alloc (.cells ((U3 nm of pa pn pc ta tn tc res b yA yn yc)).toArray 147)).heap.size:=by have:=Jb iA.o.ok.box;rw[World.size_alloc];omega
  replace hcl:=Ja iA.o.ok.box 0;simp only[zW]at hcl;rw[bA];clear XA hA hlo sA X8 O1 Q4 bA iA S6;refine zU hK (hcl) λhH=>?_
  clear hK K;refine LO 7 rfl λK hK=>?_
  go_simp;refine zU hK (by simp[*,World.cell?_alloc_some]) λhH=>?_
  clear hK K;refine LO 8 rfl λK hK=>?_
  (refine Jq (w6.alloc (.cells ((U3 nm of pa pn pc ta tn tc res b yA yn yc)).toArray 147)) zt (.tmp 13) (.tmp 16) 138 147 _ 10 144 zt underlying138 QgE rfl zp (w.heap.size+1) (.slice va vn vc) fs.length (fs.flatMap FnA.cells) (U3 nm of pa pn pc ta tn tc res b yA yn yc) zt HOW.o w6.heap.size zt R3.o rfl (by intro u hu;simp at hu;rcases hu with rfl|rfl|rfl|rfl|rfl|rfl|rfl|rfl|rfl|rfl<;>rfl) dA zp Q2 ?_;intro v7 w7 N1 P3 O3)
  obtain⟨a7,m7,c7,rfl⟩:=Jk N1;rw[<-jA.o]at N1;obtain⟨hst,R0⟩:=HI.o.addF D3.o W6.o HAD.o.1 HAD.o.2.1 HAD.o.2.2.1 HAD.o.2.2.2.1 HAD.o.2.2.2.2 N1 P3 O3;have D2:=Zh hst;replace hcl:=Ja R0 0;simp only[zW]at hcl;have f4:=Jc R0 0;have T9:=Jb R0;clear N1 P3 O3 hst R0 HOW R3 Q2 HAD jA;refine zU hK (hcl) λhH=>?_
  clear hK K;refine LO 9 rfl λK hK=>?_
  go_simp;refine zU hK hH λhH=>?_
  clear hK K;refine LK 10 rfl ?_;refine LZ 11 rfl λK hK=>?_
  go_simp;clear hcl f4 T9;refine hK.out _ _ ?_;clear hK K;go_wp2;go_roundg g2
  case measure=>exact Nat.lt_succ_self _
  case rel=>exact zx
 ·have xA:=B0.o;rw[Kf g1]at xA;dsimp only at xA;rw[JgY]at xA;rw[QiE]at xA;replace HI:=Zh (HI.o.on D3.o (HI.o.pat.chg AA) (Chg.of_below AA [p]));have cA:Hi (∃k2 cv cs,SrB p A C T w w3 k2 ⟨fs,cs,0,fv,cv⟩/\((QaP f f (cs.map ClA.src) (T.drop k2)).bind (QiD (fs.map FnA.src)))=X/\f+cs.length<=f):=⟨k2,_,[],HI.o,xA,le_refl _⟩
  clear g1 AA xA B0 HI eA dA I2;go_wp2_with fail;go_loopg [] f λg wr=>Hi (∃k2 cv cs,SrB p A C T w wr k2 ⟨fs,cs,0,fv,cv⟩/\((QaP f g (cs.map ClA.src) (T.drop k2)).bind (QiD (fs.map FnA.src)))=X/\g+cs.length<=f)
  case atStart=>exact cA
  case round=>
  clear cA;obtain⟨wm,rfl⟩:=zJ wr;obtain⟨k5,cv,cs,hI,zA,gA⟩:=hrel.o
  cases gk with
  |zero=>exact absurd zA.symm N3.o
  |succ g3=>
  rw[JdK]at zA;have HI:=Zh hI;have B0:=Zh zA;have eA:Hi (g3+1+cs.length<=f):=gA;have dA:cs.length<=100000000:=zo;clear hI zA gA hrel;go_wp2_with fail;refine(Jt p A C T k5 0 Qfr wm HI.o.pat zp).mono ?_;intro e w4 h3
  rcases h3 with⟨g1,g2',rfl,D9,B5⟩|⟨g1,rfl,AA⟩
  ·have xA:=B0.o;rw[JN g1 g2']at xA;dsimp only at xA;replace B0:=Zh (Vg xA);replace HI:=Zh (HI.o.on D3.o D9 B5);clear g1 g2' D9 B5 xA;obtain⟨va,vn,vc,vB⟩:=Jk HI.o.ok.cown;dsimp only at vB;subst vB;have aA:pM f .expr (T.drop (k5+1))≠.out:=JO B0.o N3.o;go_wp2_with fail;refine NdP.call (I1 (k5+1) _ HI.o.pat aA) aA (λq _ hx hc=>by exact⟨rfl,HI.o.bad HR.o B0.o hx hc⟩) λa w6 k6 yA yn yc hx T1 B=>?_
   have pA:=ClR.make HI.o D3.o B.1 B.2.1 B.2.2.1 B.2.2.2;replace B0:=Zh (Vg (Jx B0.o hx));have xB:(ClA.mk a 0 [] 0 0).cells.toArray=#[Iv a.kind,Iv a.num,.string (bs a.name),Iv a.off,.slice yA yn yc,Iv 0,Em]:=by simp only[ClA.cells,T1,cons_append,nil_append];rfl
   rw[xB]at pA;have F5:=Zh pA;have R6:=Zh T1;clear hx T1 B xB pA HI aA;go_wp2_with fail;generalize World.alloc w6 _=w6' at*;generalize w6.heap.size=cb at*;have D6:Hi (w.heap.size<w4.heap.size):=Jb F5.o.ok0.box;generalize w4.heap.size=lo at*;have tA:cb≠w.heap.size:=by have:=F5.o.c0;have:=D6.o;omega
   have gB:w.heap.size≠cb:=Ne.symm tA;refine PRp.call (Qfn p A C T k6 Qen _ F5.o.srb.pat) (J6 _ _ _) (λq _ hx hc=>by exact⟨rfl,F5.o.srb.bad HR.o B0.o hx hc⟩) λ_ w7 k7 hx hp hc=>?_
   replace B0:=Zh (Vg (Jx B0.o hx));replace F5:=Zh (F5.o.on D3.o hp hc);clear hx hp hc;go_wp2_with fail;refine PRp.call (JeF p A C T k7 _ F5.o.srb.pat) (JgZ _) (λq _ hx hc=>by exact⟨rfl,F5.o.srb.bad HR.o B0.o hx hc⟩) λac w8 k8 hx hp hc=>?_
   replace B0:=Zh (Vg (Jx B0.o hx));replace F5:=Zh (F5.o.on D3.o hp hc);clear hx hp hc;have R0:=F5.o.box;simp only[ClA.cells,R6.o,cons_append,nil_append]at R0;have b5:=Ja R0 5;have f5:=Jc R0 5;have N7:=Jb R0;simp only[zW]at b5;replace F5:=Zh (F5.o.setAct D3.o W6.o ac);clear R0;go_wp2_with fail;clear b5 f5 N7;generalize World.setCell w8 _ _=w8' at*;refine PRp.call (Jcb p A C T k8 _ F5.o.srb.pat) (JjD _) (λq _ hx hc=>by exact⟨rfl,F5.o.srb.bad HR.o B0.o hx hc⟩) λrs w9 k9 hx hp hc=>?_
   replace B0:=Zh (Jx B0.o hx);replace F5:=Zh (F5.o.on D3.o hp hc);clear hx hp hc;have M7:=B0;clear B0;have R0:=F5.o.box;simp only[ClA.cells,R6.o,cons_append,nil_append]at R0;have b5:=Ja R0 6;have f5:=Jc R0 6;have N7:=Jb R0;simp only[zW]at b5;replace F5:=Zh (F5.o.setRs D3.o W6.o rs);clear R0;go_upto_region 9 with fail;clear b5 f5 N7;generalize World.setCell w9 _ _=w9' at*;have hD:Below w9'.heap.size w9' w9'.drew:=(Below.refl w9'.heap.size w9').drew;replace F5:=Zh (F5.o.on D3.o (F5.o.srb.pat.chg hD) (Chg.of_below hD [p]));clear hD;have C3:=F5.o.box;simp only[ClA.cells,R6.o,cons_append,nil_append]at C3;have Y6:=Zh C3;have bA:∀l h,(ClA.mk a ac rs l h).cells=(U4 a yA yn yc ac rs):=λl h=>by simp only[ClA.cells,R6.o,cons_append,nil_append]
   have jA:=Zh bA;have HOW:Hi ((w9'.drew.alloc (.cells ((U4 a yA yn yc ac rs)).toArray 151)).ownsRow (w.heap.size+1) 151 7 (.slice va vn vc) cs.length (cs.flatMap ClA.cells)):=F5.o.srb.ok.cown.alloc _;have R3:Hi ((w9'.drew.alloc (.cells ((U4 a yA yn yc ac rs)).toArray 151)).heap[w9'.heap.size]?=some (.cells ((U4 a yA yn yc ac rs)).toArray 151 (0,0))):=zQ w9'.drew _;have Q2:w.heap.size+1<=(w9'.drew.alloc (.cells ((U4 a yA yn yc ac rs)).toArray 151)).heap.size:=by have:=Jb F5.o.srb.ok.box;rw[World.size_alloc];omega
   clear C3 bA;have A2:w9'.heap.size=w9'.drew.heap.size:=rfl;rw[A2]at R3;clear A2;have hcl:=Ja F5.o.srb.ok.box 1;simp only[zW]at hcl;have I4:=ZL Y6.o;generalize rA:w9'.drew=nA at*;refine LB (λW=>W.cell? ⟨w.heap.size,1,none⟩=some (.slice va vn vc)/\W.cell? ⟨cb,0,none⟩=some (Iv a.kind)/\W.cell? ⟨cb,1,none⟩=some (Iv a.num)/\W.cell? ⟨cb,2,none⟩=some (.string (bs a.name))/\W.cell? ⟨cb,3,none⟩=some (Iv a.off)/\W.cell? ⟨cb,4,none⟩=some (.slice yA yn yc)/\W.cell? ⟨cb,5,none⟩=some (Iv ac)/\W.cell? ⟨cb,6,none⟩=some (Sv rs)) 10 (by rw[rA];exact⟨hcl,I4⟩) λhH=>?_
   refine LK 0 rfl ?_;refine LK 1 rfl ?_;refine LK 2 rfl ?_;refine LK 3 rfl ?_;refine LK 4 rfl ?_;refine LK 5 rfl ?_;refine LO 6 rfl λK hK=>?_
   go_simp;refine zU hK (by simp[*,World.cell?_alloc_some]) λhH=>?_
   clear hK K;refine LO 7 rfl λK hK=>?_
   (refine Jq (nA.alloc (.cells ((U4 a yA yn yc ac rs)).toArray 151)) zt (.tmp 37) (.tmp 39) 139 151 _ 7 88 zt underlying139 QgF rfl zp (w.heap.size+1) (.slice va vn vc) cs.length (cs.flatMap ClA.cells) (U4 a yA yn yc ac rs) zt HOW.o nA.heap.size zt R3.o rfl (by intro u hu;simp at hu;rcases hu with rfl|rfl|rfl|rfl|rfl|rfl|rfl<;>rfl) dA zp Q2 ?_;intro v7 w7 N1 P3 O3)
   obtain⟨a7,m7,c7,rfl⟩:=Jk N1;rw[<-jA.o lo cb]at N1;obtain⟨hst,R0⟩:=F5.o.addC D3.o W6.o N1 P3 O3;have D2:=Zh hst;have eB:=ZL ((F5.o.kept P3).trans Y6.o);replace hcl:=Ja R0 1;simp only[zW]at hcl;have f4:=Jc R0 1;have T9:=Jb R0;clear N1 P3 O3 hst R0 HOW R3 Q2;refine zU hK (⟨hcl,eB⟩) λhH=>?_
   clear hK K;refine LO 8 rfl λK hK=>?_
   go_simp;refine zU hK hH λhH=>?_
   clear hK K;refine LK 9 rfl ?_;refine LZ 10 rfl λK hK=>?_
   go_simp;clear hcl f4 T9;refine hK.out _ _ ?_;clear hK K;go_wp2;go_roundg g3
   case measure=>exact Nat.lt_succ_self _
   case rel=>exact zx
  ·have xA:=B0.o;rw[Kf g1]at xA;dsimp only at xA;rw[JgY,QiD]at xA;replace B0:=Zh xA;replace HI:=Zh (HI.o.on D3.o (HI.o.pat.chg AA) (Chg.of_below AA [p]));clear g1 AA xA eA dA I1;go_wp2_with fail;refine PRp.call (Qfn p A C T k5 Qdd _ HI.o.pat) (J6 _ _ _) (λq _ hx hc=>by exact⟨rfl,HI.o.bad HR.o B0.o hx hc⟩) λ_ w7 k7 hx hp hc=>?_
   replace B0:=Zh (Jx B0.o hx);replace HI:=Zh (HI.o.on D3.o hp hc);clear hx hp hc;go_wp2_with fail;refine PRp.call (JeF p A C T k7 _ HI.o.pat) (JgZ _) (λq _ hx hc=>by exact⟨rfl,HI.o.bad HR.o B0.o hx hc⟩) λac w8 k8 hx hp hc=>?_
   replace B0:=Zh (Jx B0.o hx);replace HI:=Zh (HI.o.on D3.o hp hc);clear hx hp hc;have R0:=HI.o.ok.box;have b2:=Ja R0 2;have f2:=Jc R0 2;have N7:=Jb R0;simp only[zW]at b2;have HS:=Zh (HI.o.ok.setA ac);have uA:Hi (SrB p A C T w (w8.setCell ⟨w.heap.size,2,none⟩ (Iv ac)) k8 ⟨fs,cs,ac,fv,cv⟩):=HI.o.over D3.o W6.o HS.o ((Chg.refl [w.heap.size] w8).setCell (.inl zq) (p:=⟨w.heap.size,2,none⟩) _) zq;clear R0 HI HS;go_wp2_with fail;clear b2 f2 N7;generalize World.setCell w8 _ _=w9 at*;have cp:=Kp p A C T k8 w9 uA.o.pat;have cw:=KO p A C T k8;unfold Qfh at cp;obtain⟨t,ht⟩:∃t,hd (T.drop k8)=t:=⟨_,rfl⟩
   have dB:=Zh ht;rw[ht]at cp cw;obtain⟨tk,tx,tn,tf⟩:=t;unfold Qda at cp;simp only at cp cw;clear ht;refine cp.mono ?_;rintro e nA ⟨rfl,vA⟩;replace uA:=Zh (uA.o.on D3.o (uA.o.pat.chg vA) (Chg.of_below vA [p]));have xA:=B0.o;rw[dB.o]at xA;clear cp vA B0;have hfl:∀(W:World),(Instr.field 134 (.agg #[Iv tk,Sv tx,Iv tn,Iv tf]) 0).run prog W=.ok (Iv tk) W:=λW=>by kernel_rfl
   by_cases UD:tk=4
   ·have d1:(tk !=4)=false:=by rw[UD];rfl
    rw[if_pos UD]at xA;have L3:=Zh xA;clear UD xA cw;go_wp2;rw[HR.o,<-L3.o];exact⟨⟨fs,cs,ac,fv,cv⟩,rfl,rfl,uA.o.ok,uA.o.chg⟩
   ·have d1:(tk !=4)=true:=bne_iff_ne.2 UD;rw[if_neg UD]at xA;have L3:=Zh xA;clear UD xA;go_wp2_with fail;refine(cw _ uA.o.pat).mono ?_;rintro e hB ⟨rfl,mA⟩;go_wp2;refine⟨rfl,?_⟩;rw[HR.o,<-L3.o];exact⟨rfl,uA.o.chg.trans (Chg.of_below mA [p])⟩
def Je{β:Type}{x:PR α}{f:α->List Tok->PR β}{b:β}(h:x.bind f=.ok b r):∃a r1,x=.ok a r1/\f a r1=.ok b r:=by
 cases x with
 |out=>cases h
 |bad o=>cases h
 |ok a r1=>exact⟨a,r1,rfl,h⟩
def Jn{β:Type}{x:PR α}{f:α->List Tok->PR β}(h:x.bind f=.out):x=.out\/∃a r1,x=.ok a r1/\f a r1=.out:=by
 cases x with
 |out=>exact .inl rfl
 |bad o=>cases h
 |ok a r1=>exact .inr ⟨a,r1,rfl,h⟩
variable{s:By}
def Jr(hk:k≠4)(h:acc k s r=some r'):r'.length+1=r.length:=by
 unfold acc at h;split at h
 ·rename_i h1;injection h with h;subst h
  cases r with
  |nil=>exact absurd h1.1.symm hk
  |cons a l=>rfl
 ·cases h
def Jo{u:Unit}(hk:k≠4)(h:Qar k s r=.ok u r'):r'.length+1=r.length:=by
 unfold Qar at h;split at h
 ·rename_i h1;injection h with _ h;subst h;exact Jr hk h1
 ·cases h
def JB:Qar k s r≠.out:=by
 unfold Qar;split<;>simp
def JY{nm:By×Int}(h:Qbb r=.ok nm r'):r'.length+1=r.length:=by
 unfold Qbb at h;split at h
 ·rename_i h1;injection h with _ h;subst h
  cases r with
  |nil=>exact absurd h1.1 zp
  |cons a l=>rfl
 ·cases h
def K2:Qbb r≠.out:=by
 unfold Qbb;split<;>simp
def ZM(h:Qct r=.ok s r'):r'.length+1=r.length:=by
 unfold Qct at h;split at h
 ·rename_i h1;injection h with _ h;subst h
  cases r with
  |nil=>exact absurd h1 zp
  |cons a l=>rfl
 ·cases h
def ZN:Qct r≠.out:=by
 unfold Qct;split<;>simp
def ZO(h:QaL r=.ok s r'):r'.length<=r.length:=by
 unfold QaL at h;obtain⟨_,r1,h1,h⟩:=Je h;obtain⟨_,r2,h2,h⟩:=Je h;obtain⟨_,r3,h3,h⟩:=Je h;injection h with _ h;subst h;have:=Jo zp h1;have:=ZM h2;have:=Jo zp h3;omega
def Yl:QaL r≠.out:=by
 intro h;unfold QaL at h
 rcases Jn h with h|⟨_,r1,h1,h⟩
 ·exact JB h
 rcases Jn h with h|⟨_,r2,h2,h⟩
 ·exact ZN h
 rcases Jn h with h|⟨_,r3,h3,h⟩
 ·exact JB h
 cases h
def zAf{P:Prop}(h:P:=by
  injection h with _ h;subst h;exact Jr zp h1):P:=h
def VQ{t:Int}(h:Qdu r=.ok t r'):r'.length+1=r.length:=by
 unfold Qdu at h;split at h
 ·rename_i h1;exact zAf
 ·split at h
  ·rename_i h1;exact zAf
  ·cases h
def JaF:Qdu r≠.out:=by
 unfold Qdu
 repeat' split
 all_goals simp
def JeG{t:Int}(h:Qdg r=.ok t r'):r'.length+1=r.length:=by
 unfold Qdg at h;split at h
 ·rename_i r1 h1;exact zAf
 split at h
 ·rename_i r1 h1;exact zAf
 split at h
 ·rename_i r1 h1;exact zAf
 split at h
 ·rename_i r1 h1;exact zAf
 ·cases h
def JaG:Qdg r≠.out:=by
 unfold Qdg
 repeat' split
 all_goals simp
def Zl(r:List Tok):r.tail.length<=r.length:=zq
def Qhs{P:Prop}(h:P:=by
  obtain⟨_,r2,h2,h⟩:=Je h;injection h with _ h;subst h;have:=Jr (by decide) h1;have:=J8 f _ _ _ _ h2
  omega):P:=h
def Qhm{P:Prop}(h:P:=by
  have:=Jo (by decide) h3;have:=J8 f _ _ _ _ h4;have:=Jo (by decide) h5;have:=J8 f _ _ _ _ h6
  omega):P:=h
def Qhl{P:Prop}(h:P:=by
  obtain⟨_,r2,h2,h⟩:=Je h;injection h with _ h;subst h;have:=Jr (by decide) h1;have:=ZO h2
  omega):P:=h
def zAg{P:Prop}(h:P:=by
  injection h with _ h;subst h;omega):P:=h
def J8:∀(f:Nat)(md:Md)(r r':List Tok)(a:Nd),pM f md r=.ok a r'->r'.length<=r.length
 |0,md,r,r',a,h=>by unfold pM at h;cases h
 |f+1,.expr,r,r',a,h=>by
  rw[pM]at h;split at h
  ·rename_i r1 h1;obtain⟨_,r2,h2,h⟩:=Je h;obtain⟨_,r3,h3,h⟩:=Je h;obtain⟨_,r4,h4,h⟩:=Je h;obtain⟨_,r5,h5,h⟩:=Je h;obtain⟨_,r6,h6,h⟩:=Je h;injection h with _ h;subst h;have:=Jr zp h1;have:=JY h2;exact Qhm
  ·split at h
   ·rename_i r1 h1;obtain⟨_,r2,h2,h⟩:=Je h;obtain⟨_,r3,h3,h⟩:=Je h;obtain⟨_,r4,h4,h⟩:=Je h;obtain⟨_,r5,h5,h⟩:=Je h;obtain⟨_,r6,h6,h⟩:=Je h;injection h with _ h;subst h;have:=Jr zp h1;have:=J8 f _ _ _ _ h2;exact Qhm
   ·exact J8 f _ _ _ _ h
 |f+1,.level lv,r,r',a,h=>by
  rw[pM]at h;split at h
  ·split at h
   ·rename_i r1 h1;exact Qhs
   ·exact J8 f _ _ _ _ h
  ·split at h
   ·split at h
    ·rename_i r1 h1;exact Qhs
    ·exact J8 f _ _ _ _ h
   ·obtain⟨_,r1,h1,h⟩:=Je h;have:=J8 f _ _ _ _ h1;have:=J8 f _ _ _ _ h;omega
 |f+1,.loop lv o b,r,r',a,h=>by
  rw[pM]at h;split at h
  ·injection h with _ h;subst h;exact Nat.le_refl _
  ·obtain⟨_,r1,h1,h⟩:=Je h;have:=J8 f _ _ _ _ h1;have:=J8 f _ _ _ _ h;have:=Zl r;omega
 |f+1,.cmp,r,r',a,h=>by
  rw[pM]at h;obtain⟨_,r1,h1,h⟩:=Je h;have:=J8 f _ _ _ _ h1;split at h
  ·injection h with _ h;subst h;exact this
  ·obtain⟨_,r2,h2,h⟩:=Je h;have:=J8 f _ _ _ _ h2;have:=Zl r1;exact zAg
 |f+1,.prim,r,r',a,h=>by
  rw[pM]at h;split at h
  ·injection h with _ h;subst h;exact Zl r
  split at h
  ·rename_i r1 h1;obtain⟨_,r2,h2,h⟩:=Je h;obtain⟨_,r3,h3,h⟩:=Je h;injection h with _ h;subst h;have:=Jr zp h1;have:=J8 f _ _ _ _ h2;have:=Jo zp h3;omega
  split at h
  ·rename_i r1 h1;injection h with _ h;subst h;have:=Jr zp h1;omega
  split at h
  ·rename_i r1 h1;injection h with _ h;subst h;have:=Jr zp h1;omega
  split at h
  ·rename_i r1 h1;exact Qhl
  split at h
  ·rename_i r1 h1;exact Qhl
  split at h
  ·injection h with _ h;subst h;exact Zl r
  ·exact J8 f _ _ _ _ h
 |f+1,.named,r,r',a,h=>by
  rw[pM]at h;obtain⟨nm,r1,h1,h⟩:=Je h;have:=JY h1;split at h
  ·exact zAg
  ·rename_i r2 h2;have:=Jr zp h2;split at h
   ·rename_i r3 h3;have:=Jr zp h3;exact zAg
   ·have:=J8 f _ _ _ _ h;omega
 |f+1,.args nm o l,r,r',a,h=>by
  rw[pM]at h;obtain⟨_,r1,h1,h⟩:=Je h;have:=J8 f _ _ _ _ h1;split at h
  ·rename_i r2 h2;have:=Jr zp h2;have:=J8 f _ _ _ _ h;omega
  ·obtain⟨_,r2,h2,h⟩:=Je h;have:=Jo zp h2;exact zAg
def Qbu:Md->Nat
 |.expr=>10
 |.level lv=>10-lv
 |.loop _ _ _=>1
 |.cmp=>6
 |.prim=>2
 |.named=>1
 |.args _ _ _=>11
def Qdx:Md->Prop
 |.level lv=>1<=lv/\lv<=7/\lv≠4
 |.loop lv _ _=>lv=1\/lv=2\/lv=5\/lv=6
 |_=>True
def Jha{lv:Nat}(h:opK lv (hd r)=some k):r.tail.length+1=r.length:=by
 cases r with
 |nil=>simp[opK,hd,Qfy]at h
 |cons a l=>rfl
def JeH(h:Qeh (hd r)=some k):r.tail.length+1=r.length:=by
 cases r with
 |nil=>simp[Qeh,hd,Qfy]at h
 |cons a l=>rfl
def QjQ{P:Prop}(h:P:=by
  rcases Jn h with h|⟨_,r3,h3,h⟩
  ·exact JB h
  have:=Jo (by decide) h3
  rcases Jn h with h|⟨_,r4,h4,h⟩
  ·exact J4 f .expr r3 trivial (by simp only[Qbu];omega) h
  have:=J8 f _ _ _ _ h4
  rcases Jn h with h|⟨_,r5,h5,h⟩
  ·exact JB h
  have:=Jo (by decide) h5
  rcases Jn h with h|⟨_,r6,h6,h⟩
  ·exact J4 f .expr r5 trivial (by simp only[Qbu];omega) h
  cases h):P:=h
def J4:∀(f:Nat)(md:Md)(r:List Tok),Qdx md->12*r.length+Qbu md<=f->pM f md r≠.out
 |0,md,r,hg,hf=>by
  exfalso
  cases md<;>simp[Qbu,Qdx]at hf hg
  omega
 |f+1,.expr,r,hg,hf=>by
  intro h;simp only[Qbu]at hf;rw[pM]at h;split at h
  ·rename_i r1 h1;have:=Jr zp h1
   rcases Jn h with h|⟨_,r2,h2,h⟩
   ·exact K2 h
   have:=JY h2;exact QjQ
  ·split at h
   ·rename_i r1 h1;have:=Jr zp h1
    rcases Jn h with h|⟨_,r2,h2,h⟩
    ·exact J4 f .expr r1 trivial (by simp only[Qbu];omega) h
    have:=J8 f _ _ _ _ h2;exact QjQ
   ·exact J4 f (.level 1) r (by simp only[Qdx];omega) (by simp only[Qbu];omega) h
 |f+1,.level lv,r,hg,hf=>by
  intro h;simp only[Qbu,Qdx]at hf hg;rw[pM]at h;split at h
  ·rename_i h3;subst h3;split at h
   ·rename_i r1 h1;have:=Jr zp h1
    rcases Jn h with h|⟨_,r2,h2,h⟩
    ·exact J4 f (.level 3) r1 (by simp only[Qdx];omega) (by simp only[Qbu];omega) h
    cases h
   ·exact J4 f .cmp r trivial (by simp only[Qbu];omega) h
  ·split at h
   ·rename_i h7;subst h7;split at h
    ·rename_i r1 h1;have:=Jr zp h1
     rcases Jn h with h|⟨_,r2,h2,h⟩
     ·exact J4 f (.level 7) r1 (by simp only[Qdx];omega) (by simp only[Qbu];omega) h
     cases h
    ·exact J4 f .prim r trivial (by simp only[Qbu];omega) h
   ·rcases Jn h with h|⟨_,r1,h1,h⟩
    ·exact J4 f (.level (lv+1)) r (by simp only[Qdx];omega) (by simp only[Qbu];omega) h
    have:=J8 f _ _ _ _ h1;exact J4 f (.loop lv _ _) r1 (by simp only[Qdx];omega) (by simp only[Qbu];omega) h
 |f+1,.loop lv o b,r,hg,hf=>by
  intro h;simp only[Qbu,Qdx]at hf hg;rw[pM]at h;split at h
  ·cases h
  ·rename_i k hk;have:=Jha hk
   rcases Jn h with h|⟨_,r1,h1,h⟩
   ·exact J4 f (.level (lv+1)) r.tail (by simp only[Qdx];omega) (by simp only[Qbu];omega) h
   have:=J8 f _ _ _ _ h1;exact J4 f (.loop lv _ _) r1 hg (by simp only[Qbu];omega) h
 |f+1,.cmp,r,hg,hf=>by
  intro h;simp only[Qbu]at hf;rw[pM]at h
  rcases Jn h with h|⟨_,r1,h1,h⟩
  ·exact J4 f (.level 5) r (by simp only[Qdx];omega) (by simp only[Qbu];omega) h
  have:=J8 f _ _ _ _ h1;split at h
  ·cases h
  ·rename_i k hk;have:=JeH hk
   rcases Jn h with h|⟨_,r2,h2,h⟩
   ·exact J4 f (.level 5) r1.tail (by simp only[Qdx];omega) (by simp only[Qbu];omega) h
   cases h
 |f+1,.prim,r,hg,hf=>by
  intro h;simp only[Qbu]at hf;rw[pM]at h;split at h
  ·cases h
  split at h
  ·rename_i r1 h1;have:=Jr zp h1
   rcases Jn h with h|⟨_,r2,h2,h⟩
   ·exact J4 f .expr r1 trivial (by simp only[Qbu];omega) h
   rcases Jn h with h|⟨_,r3,h3,h⟩
   ·exact JB h
   cases h
  split at h
  ·cases h
  split at h
  ·cases h
  split at h
  ·rcases Jn h with h|⟨_,r2,h2,h⟩
   ·exact Yl h
   cases h
  split at h
  ·rcases Jn h with h|⟨_,r2,h2,h⟩
   ·exact Yl h
   cases h
  split at h
  ·cases h
  ·exact J4 f .named r trivial (by simp only[Qbu];omega) h
 |f+1,.named,r,hg,hf=>by
  intro h;simp only[Qbu]at hf;rw[pM]at h
  rcases Jn h with h|⟨nm,r1,h1,h⟩
  ·exact K2 h
  have:=JY h1;split at h
  ·cases h
  ·rename_i r2 h2;have:=Jr zp h2;split at h
   ·cases h
   ·exact J4 f (.args _ _ _) r2 trivial (by simp only[Qbu];omega) h
 |f+1,.args nm o l,r,hg,hf=>by
  intro h;simp only[Qbu]at hf;rw[pM]at h
  rcases Jn h with h|⟨_,r1,h1,h⟩
  ·exact J4 f .expr r trivial (by simp only[Qbu];omega) h
  have:=J8 f _ _ _ _ h1;split at h
  ·rename_i r2 h2;have:=Jr zp h2;exact J4 f (.args _ _ _) r2 trivial (by simp only[Qbu];omega) h
  ·rcases Jn h with h|⟨_,r2,h2,h⟩
   ·exact JB h
   cases h
def ZP:∀(f:Nat)(ps:List (By×Int))(ts:List Int)(r r':List Tok) a,QaQ f ps ts r=.ok a r'->r'.length<=r.length
 |0,_,_,_,_,_,h=>by cases h
 |f+1,ps,ts,r,r',a,h=>by
  rw[QaQ]at h;obtain⟨_,r1,h1,h⟩:=Je h;obtain⟨_,r2,h2,h⟩:=Je h;obtain⟨_,r3,h3,h⟩:=Je h;have:=JY h1;have:=Jo zp h2;have:=VQ h3;split at h
  ·rename_i r4 h4;have:=Jr zp h4;have:=ZP f _ _ _ _ _ h;omega
  ·obtain⟨_,r4,h4,h⟩:=Je h;have:=Jo zp h4;exact zAg
def Y7:∀(f:Nat)(ps:List (By×Int))(ts:List Int)(r:List Tok),r.length+1<=f->QaQ f ps ts r≠.out
 |0,_,_,r,hf=>by omega
 |f+1,ps,ts,r,hf=>by
  intro h;rw[QaQ]at h
  rcases Jn h with h|⟨_,r1,h1,h⟩
  ·exact K2 h
  rcases Jn h with h|⟨_,r2,h2,h⟩
  ·exact JB h
  rcases Jn h with h|⟨_,r3,h3,h⟩
  ·exact JaF h
  have:=JY h1;have:=Jo zp h2;have:=VQ h3;split at h
  ·rename_i r4 h4;have:=Jr zp h4;exact Y7 f _ _ _ zo h
  ·rcases Jn h with h|⟨_,r4,h4,h⟩
   ·exact JB h
   cases h
def Qhy{P:Prop}(h:P:=by
  split at h3
  ·rename_i r9 h9;have:=Jr (by decide) h9;injection h3 with _ h3;subst h3;omega
  ·exact ZP _ _ _ _ _ _ h3):P:=h
def JeI{x:FnS}(h:Qeg f r=.ok x r'):r'.length+1<=r.length:=by
 unfold Qeg at h;obtain⟨_,r1,h1,h⟩:=Je h;obtain⟨_,r2,h2,h⟩:=Je h;obtain⟨_,r3,h3,h⟩:=Je h;obtain⟨_,r4,h4,h⟩:=Je h;obtain⟨_,r5,h5,h⟩:=Je h;obtain⟨_,r6,h6,h⟩:=Je h;obtain⟨_,r7,h7,h⟩:=Je h;injection h with _ h;subst h;have:=JY h1;have:=Jo zp h2
 have:r3.length<=r2.length:=by
  exact Qhy
 have:=Jo zp h4;have:=VQ h5;have:=Jo zp h6;have:=J8 _ _ _ _ _ h7;omega
def Jhb(hf:12*r.length+12<=f):Qeg f r≠.out:=by
 intro h;unfold Qeg at h
 rcases Jn h with h|⟨_,r1,h1,h⟩
 ·exact K2 h
 have:=JY h1
 rcases Jn h with h|⟨_,r2,h2,h⟩
 ·exact JB h
 have:=Jo zp h2
 rcases Jn h with h|⟨_,r3,h3,h⟩
 ·split at h
  ·cases h
  ·exact Y7 _ _ _ _ zo h
 have:r3.length<=r2.length:=by
  exact Qhy
 rcases Jn h with h|⟨_,r4,h4,h⟩
 ·exact JB h
 have:=Jo zp h4
 rcases Jn h with h|⟨_,r5,h5,h⟩
 ·exact JaF h
 have:=VQ h5
 rcases Jn h with h|⟨_,r6,h6,h⟩
 ·exact JB h
 have:=Jo zp h6
 rcases Jn h with h|⟨_,r7,h7,h⟩
 ·exact J4 _ .expr _ trivial (by simp only[Qbu];omega) h
 cases h
def Jcq(g:Nat):∀(f:Nat)(l:List FnS)(r r':List Tok) a,QcF g f l r=.ok a r'->r'.length<=r.length
 |0,_,_,_,_,h=>by cases h
 |f+1,l,r,r',a,h=>by
  rw[QcF]at h;split at h
  ·rename_i r1 h1;have:=Jr zp h1;obtain⟨_,r2,h2,h⟩:=Je h;have:=JeI h2;have:=Jcq g f _ _ _ _ h;omega
  ·injection h with _ h;subst h;exact Nat.le_refl _
def JaH(g:Nat):∀(f:Nat)(l:List FnS)(r:List Tok),12*r.length+12<=g->r.length+1<=f->QcF g f l r≠.out
 |0,_,_,_,hf=>by omega
 |f+1,l,r,hg,hf=>by
  intro h;rw[QcF]at h;split at h
  ·rename_i r1 h1;have:=Jr zp h1
   rcases Jn h with h|⟨_,r2,h2,h⟩
   ·exact Jhb zo h
   have:=JeI h2;exact JaH g f _ _ zo zo h
  ·cases h
def Ym(g:Nat):∀(f:Nat)(l:List ClS)(r:List Tok),12*r.length+12<=g->r.length+1<=f->QaP g f l r≠.out
 |0,_,_,_,hf=>by omega
 |f+1,l,r,hg,hf=>by
  intro h;rw[QaP]at h;split at h
  ·rename_i r1 h1;have:=Jr zp h1
   rcases Jn h with h|⟨_,r2,h2,h⟩
   ·exact J4 _ .expr _ trivial (by simp only[Qbu];omega) h
   have:=J8 _ _ _ _ _ h2
   rcases Jn h with h|⟨_,r3,h3,h⟩
   ·exact JB h
   have:=Jo zp h3
   rcases Jn h with h|⟨_,r4,h4,h⟩
   ·exact JaG h
   have:=JeG h4
   rcases Jn h with h|⟨_,r5,h5,h⟩
   ·exact ZN h
   have:=ZM h5;exact Ym g f _ _ zo zo h
  ·cases h
def Jhc(hf:12*r.length+12<=f):QdU f r≠.out:=by
 intro h;unfold QdU at h
 rcases Jn h with h|⟨_,r1,h1,h⟩
 ·exact JaH f f _ _ hf zo h
 have:=Jcq _ _ _ _ _ _ h1
 rcases Jn h with h|⟨_,r2,h2,h⟩
 ·exact Ym f f _ _ zo zo h
 rcases Jn h with h|⟨_,r3,h3,h⟩
 ·exact JB h
 rcases Jn h with h|⟨_,r4,h4,h⟩
 ·exact JaG h
 split at h<;>cases h
mutual
def siz:Nd->Nat
 |.mk _ _ _ _ l=>Qbd l+1
def Qbd:List Nd->Nat
 |[]=>0
 |a::l=>siz a+Qbd l
end
def JD(k n:Int)(s:By)(o:Int)(l:List Nd):siz (.mk k n s o l)=Qbd l+1:=by unfold siz;rfl
def Ju(a:Nd)(l:List Nd):Qbd (a::l)=siz a+Qbd l:=by rw[Qbd]
def JG:Qbd []=0:=by rw[Qbd]
def JeJ(l:List Nd)(a:Nd):Qbd (l++[a])=Qbd l+siz a:=by
 induction l with
 |nil=>simp[Qbd]
 |cons x r ih=>simp[Qbd,ih,Nat.add_assoc]
def Vh(a:Nd):0<siz a:=by cases a;rw[JD];omega
def JlU(a:Nd)(o:Int):siz (.mk a.kind a.num a.name o a.kids)=siz a:=by cases a;rw[JD,JD];rfl
def JeK{a:Nd}{l:List Nd}(h:a∈l):siz a<=Qbd l:=by
 induction l with
 |nil=>cases h
 |cons x r ih=>
  rw[Ju]
  rcases List.mem_cons.1 h with rfl|h
  ·omega
  ·have:=ih h;omega
def JeL(l:List Nd):l.length<=Qbd l:=by
 induction l with
 |nil=>simp
 |cons x r ih=>
  rw[Ju,List.length_cons];have:=Vh x;omega
mutual
def JeM:∀a:Nd,Qag a<=siz a
 |.mk k n s o l=>by
  rw[JD];unfold Qag;have:=ZQ l;omega
def ZQ:∀l:List Nd,QbL l<=Qbd l
 |[]=>by simp[QbL]
 |a::l=>by
  rw[Ju];unfold QbL;have:=JeM a;have:=ZQ l;omega
end
def QdB:Md->Nat
 |.loop _ _ a=>siz a
 |.args _ _ l=>Qbd l+1
 |_=>0
def JjF(t:Tok)(k:Int)(a b:Nd):siz (QdV t k a b)<=siz a+siz b+2:=by
 unfold QdV;split
 ·simp only[JD,Ju,JG];omega
 ·split
  ·simp only[JD,Ju,JG];omega
  ·simp only[JD,Ju,JG];omega
def QhZ{P:Prop}(h:P:=by
  obtain⟨_,r2,h2,h⟩:=Je h;injection h with h0 h;subst h h0;have:=Jr (by decide) h1;have:=Ku f _ _ _ _ h2;simp only[JD,Ju,JG,QdB]at *
  omega):P:=h
def QhU{P:Prop}(h:P:=by
  have:=Jo (by decide) h3;have:=Ku f _ _ _ _ h4;have:=Jo (by decide) h5;have:=Ku f _ _ _ _ h6;simp only[JD,Ju,JG,QdB]at *
  omega):P:=h
def QhF{P:Prop}(h:P:=by
  obtain⟨_,r2,h2,h⟩:=Je h;injection h with h0 h;subst h h0;have:=Jr (by decide) h1;have:=ZO h2;simp only[JD,JG]
  omega):P:=h
def Ku:∀(f:Nat)(md:Md)(r r':List Tok)(a:Nd),pM f md r=.ok a r'->siz a+2*r'.length<=2*r.length+QdB md
 |0,md,r,r',a,h=>by unfold pM at h;cases h
 |f+1,.expr,r,r',a,h=>by
  simp only[QdB];rw[pM]at h;split at h
  ·rename_i r1 h1;obtain⟨_,r2,h2,h⟩:=Je h;obtain⟨_,r3,h3,h⟩:=Je h;obtain⟨_,r4,h4,h⟩:=Je h;obtain⟨_,r5,h5,h⟩:=Je h;obtain⟨_,r6,h6,h⟩:=Je h;injection h with h0 h;subst h h0;have:=Jr zp h1;have:=JY h2;exact QhU
  ·split at h
   ·rename_i r1 h1;obtain⟨_,r2,h2,h⟩:=Je h;obtain⟨_,r3,h3,h⟩:=Je h;obtain⟨_,r4,h4,h⟩:=Je h;obtain⟨_,r5,h5,h⟩:=Je h;obtain⟨_,r6,h6,h⟩:=Je h;injection h with h0 h;subst h h0;have:=Jr zp h1;have:=Ku f _ _ _ _ h2;exact QhU
   ·have:=Ku f _ _ _ _ h;simpa[QdB] using this
 |f+1,.level lv,r,r',a,h=>by
  simp only[QdB];rw[pM]at h;split at h
  ·split at h
   ·rename_i r1 h1;exact QhZ
   ·have:=Ku f _ _ _ _ h;simpa[QdB] using this
  ·split at h
   ·split at h
    ·rename_i r1 h1;exact QhZ
    ·have:=Ku f _ _ _ _ h;simpa[QdB] using this
   ·obtain⟨_,r1,h1,h⟩:=Je h;have:=Ku f _ _ _ _ h1;have:=Ku f _ _ _ _ h;simp only[QdB]at *;omega
 |f+1,.loop lv o b,r,r',a,h=>by
  simp only[QdB];rw[pM]at h;split at h
  ·injection h with h0 h;subst h h0;omega
  ·rename_i k hk;have:=Jha hk;obtain⟨_,r1,h1,h⟩:=Je h;have:=Ku f _ _ _ _ h1;have:=Ku f _ _ _ _ h;simp only[JD,Ju,JG,QdB]at *;omega
 |f+1,.cmp,r,r',a,h=>by
  simp only[QdB];rw[pM]at h;obtain⟨x,r1,h1,h⟩:=Je h;have:=Ku f _ _ _ _ h1;split at h
  ·injection h with h0 h;subst h h0;simpa[QdB] using this
  ·rename_i k hk;have:=JeH hk;obtain⟨y,r2,h2,h⟩:=Je h;have:=Ku f _ _ _ _ h2;injection h with h0 h;subst h h0;have:=JjF (hd r1) k x y;simp only[QdB]at *;omega
 |f+1,.prim,r,r',a,h=>by
  simp only[QdB];rw[pM]at h;split at h
  ·rename_i hk;injection h with h0 h;subst h h0
   have:r.tail.length+1=r.length:=by
    cases r with
    |nil=>exact absurd hk zp
    |cons a l=>rfl
   simp only[JD,JG];omega
  split at h
  ·rename_i r1 h1;obtain⟨x,r2,h2,h⟩:=Je h;obtain⟨_,r3,h3,h⟩:=Je h;injection h with h0 h;subst h h0;have:=Jr zp h1;have:=Ku f _ _ _ _ h2;have:=Jo zp h3;rw[JlU];simp only[QdB]at *;omega
  split at h
  ·rename_i r1 h1;injection h with h0 h;subst h h0;have:=Jr zp h1;simp only[JD,JG];omega
  split at h
  ·rename_i r1 h1;injection h with h0 h;subst h h0;have:=Jr zp h1;simp only[JD,JG];omega
  split at h
  ·rename_i r1 h1;exact QhF
  split at h
  ·rename_i r1 h1;exact QhF
  split at h
  ·rename_i hk;injection h with h0 h;subst h h0
   have:r.tail.length+1=r.length:=by
    cases r with
    |nil=>exact absurd hk.1 zp
    |cons a l=>rfl
   simp only[JD,JG];omega
  ·have:=Ku f _ _ _ _ h;simpa[QdB] using this
 |f+1,.named,r,r',a,h=>by
  simp only[QdB];rw[pM]at h;obtain⟨nm,r1,h1,h⟩:=Je h;have:=JY h1;split at h
  ·injection h with h0 h;subst h h0;simp only[JD,JG];omega
  ·rename_i r2 h2;have:=Jr zp h2;split at h
   ·rename_i r3 h3;have:=Jr zp h3;injection h with h0 h;subst h h0;simp only[JD,JG];omega
   ·have:=Ku f _ _ _ _ h;simp only[QdB,JG]at *;omega
 |f+1,.args nm o l,r,r',a,h=>by
  simp only[QdB];rw[pM]at h;obtain⟨x,r1,h1,h⟩:=Je h;have:=Ku f _ _ _ _ h1;split at h
  ·rename_i r2 h2;have:=Jr zp h2;have:=Ku f _ _ _ _ h;simp only[QdB,JeJ]at *;omega
  ·obtain⟨_,r2,h2,h⟩:=Je h;have:=Jo zp h2;injection h with h0 h;subst h h0;simp only[JD,JeJ,QdB]at *;omega
def FnS.siz(f:FnS):Nat:=Go.Proofs.YtfafpklefknomaaGreatDoor.siz f.body+f.params.length+f.types.length+1
def ClS.siz(c:ClS):Nat:=Go.Proofs.YtfafpklefknomaaGreatDoor.siz c.cond+1
def Qcn(l:List FnS):Nat:=(l.map FnS.siz).sum
def Qcp(l:List ClS):Nat:=(l.map ClS.siz).sum
def ZU:∀(f:Nat)(ps:List (By×Int))(ts:List Int)(r r':List Tok) a,QaQ f ps ts r=.ok a r'->a.1.length+a.2.length+2*r'.length<=2*r.length+ps.length+ts.length
 |0,_,_,_,_,_,h=>by cases h
 |f+1,ps,ts,r,r',a,h=>by
  rw[QaQ]at h;obtain⟨_,r1,h1,h⟩:=Je h;obtain⟨_,r2,h2,h⟩:=Je h;obtain⟨_,r3,h3,h⟩:=Je h;have:=JY h1;have:=Jo zp h2;have:=VQ h3;split at h
  ·rename_i r4 h4;have:=Jr zp h4;have:=ZU f _ _ _ _ _ h;simp only[List.length_append,List.length_singleton]at this;omega
  ·obtain⟨_,r4,h4,h⟩:=Je h;have:=Jo zp h4;injection h with h0 h;subst h h0;simp only[List.length_append,List.length_singleton];omega
def Yn:∀(f:Nat)(ps:List (By×Int))(ts:List Int)(r r':List Tok) a,ps.length=ts.length->QaQ f ps ts r=.ok a r'->a.1.length=a.2.length
 |0,_,_,_,_,_,_,h=>by cases h
 |f+1,ps,ts,r,r',a,he,h=>by
  rw[QaQ]at h;obtain⟨_,r1,h1,h⟩:=Je h;obtain⟨_,r2,h2,h⟩:=Je h;obtain⟨_,r3,h3,h⟩:=Je h;split at h
  ·exact Yn f _ _ _ _ _ (by simp[he]) h
  ·obtain⟨_,r4,h4,h⟩:=Je h;injection h with h0 h;subst h h0;simp[he]
def JjG{x:FnS}(h:Qeg f r=.ok x r'):x.siz+2*r'.length<=2*r.length/\x.params.length=x.types.length:=by
 unfold Qeg at h;obtain⟨nm,r1,h1,h⟩:=Je h;obtain⟨_,r2,h2,h⟩:=Je h;obtain⟨pt,r3,h3,h⟩:=Je h;obtain⟨_,r4,h4,h⟩:=Je h;obtain⟨_,r5,h5,h⟩:=Je h;obtain⟨_,r6,h6,h⟩:=Je h;obtain⟨_,r7,h7,h⟩:=Je h;injection h with h0 h;subst h h0;have:=JY h1;have:=Jo zp h2
 have hp:pt.1.length+pt.2.length+2*r3.length<=2*r2.length/\pt.1.length=pt.2.length:=by
  split at h3
  ·rename_i r9 h9;have:=Jr zp h9;injection h3 with h0 h3;subst h3 h0;simp;omega
  ·have:=ZU _ _ _ _ _ _ h3;exact⟨by simpa using this,Yn _ _ _ _ _ _ rfl h3⟩
 have:=Jo zp h4;have:=VQ h5;have:=Jo zp h6;have:=Ku _ _ _ _ _ h7;simp only[FnS.siz,QdB]at *;exact⟨by omega,hp.2⟩
def Jcr(g:Nat):∀(f:Nat)(l:List FnS)(r r':List Tok) a,(∀x∈l,x.params.length=x.types.length)->QcF g f l r=.ok a r'->Qcn a+2*r'.length<=2*r.length+Qcn l/\∀x∈a,x.params.length=x.types.length
 |0,_,_,_,_,_,h=>by cases h
 |f+1,l,r,r',a,hl,h=>by
  rw[QcF]at h;split at h
  ·rename_i r1 h1;have:=Jr zp h1;obtain⟨x,r2,h2,h⟩:=Je h;obtain⟨g1,g2⟩:=JjG h2
   obtain⟨e1,e2⟩:=Jcr g f _ _ _ _ (by
    intro y hy
    rcases List.mem_append.1 hy with hy|hy
    ·exact hl y hy
    ·obtain rfl:y=x:=by simpa using hy
     exact g2) h
   refine⟨?_,e2⟩;simp only[Qcn,List.map_append,List.sum_append,List.map_cons,map_nil,List.sum_cons,sum_nil]at *;omega
  ·injection h with h0 h;subst h h0;exact⟨by omega,hl⟩
def Y8(g:Nat):∀(f:Nat)(l:List ClS)(r r':List Tok) a,QaP g f l r=.ok a r'->Qcp a+2*r'.length<=2*r.length+Qcp l
 |0,_,_,_,_,h=>by cases h
 |f+1,l,r,r',a,h=>by
  rw[QaP]at h;split at h
  ·rename_i r1 h1;have:=Jr zp h1;obtain⟨x,r2,h2,h⟩:=Je h;obtain⟨_,r3,h3,h⟩:=Je h;obtain⟨_,r4,h4,h⟩:=Je h;obtain⟨_,r5,h5,h⟩:=Je h;have:=Ku _ _ _ _ _ h2;have:=Jo zp h3;have:=JeG h4;have:=ZM h5;have:=Y8 g f _ _ _ _ h;simp only[Qcp,ClS.siz,QdB,List.map_append,List.sum_append,List.map_cons,map_nil,List.sum_cons,sum_nil]at *;omega
  ·injection h with h0 h;subst h h0;omega
def JeN{s:Src}(h:QdU f r=.ok s r'):Qcn s.funcs+Qcp s.clauses<=2*r.length/\∀x∈s.funcs,x.params.length=x.types.length:=by
 unfold QdU at h;obtain⟨fs,r1,h1,h⟩:=Je h;obtain⟨cs,r2,h2,h⟩:=Je h;obtain⟨_,r3,h3,h⟩:=Je h;obtain⟨_,r4,h4,h⟩:=Je h;obtain⟨e1,e2⟩:=Jcr _ _ _ _ _ _ zq h1;have e3:=Y8 _ _ _ _ _ _ h2;simp only[Qcn,Qcp,map_nil,sum_nil]at e1 e3;split at h
 ·injection h with h0 h;subst h0;exact⟨by simp only[Qcn,Qcp];omega,e2⟩
 ·cases h
def Jp(b c:Nat)(l:List An):∃ad cc,Qaz b c l=.slice ad l.length cc/\(l≠[]->ad=some ⟨b,0,none⟩):=by
 unfold Qaz;split
 ·rename_i h;subst h;exact⟨none,0,rfl,λh=>absurd rfl h⟩
 ·exact⟨_,c,rfl,λ_=>rfl⟩
def JW{W:World}{b:Nat}:∀{l:List An}{m i:Nat}{x:An},AtL W b m l->l[i]?=some x->(∀j u,(Qaa x).toList[j]?=some u->W.cell? ⟨b,(m+i)*5+j,none⟩=some u)/\x.At W
 |[],m,i,x,h,hx=>by cases hx
 |a::l,m,0,x,h,hx=>by
  unfold AtL at h;obtain rfl:a=x:=by simpa using hx
  exact⟨h.1,h.2.1⟩
 |a::l,m,i+1,x,h,hx=>by
  unfold AtL at h;have:=JW (i:=i) h.2.2 (by simpa using hx);rw[show m+1+i=m+(i+1) by omega]at this;exact this
def Jhd(l:List Nd)(a:Nd):QbL (l++[a])=max (QbL l) (Qag a):=by
 induction l with
 |nil=>simp[QbL]
 |cons x r ih=>simp[QbL,ih,Nat.max_assoc]
def Kk(l:List An):ndL l=l.map An.nd:=by
 induction l with
 |nil=>simp[ndL]
 |cons x r ih=>simp[ndL,ih]
variable{l:List An}
def JfT{i:Nat}{x:An}(hx:l[i]?=some x):QbL (ndL (l.take (i+1)))=max (QbL (ndL (l.take i))) (Qag x.nd):=by
 rw[List.take_add_one,hx];simp only[Option.toList_some];rw[Vf,Jhd]
def JjH(i:Nat):QbL (ndL (l.take i))<=QbL (ndL l):=by
 induction l generalizing i with
 |nil=>simp
 |cons a r ih=>
  cases i with
  |zero=>simp[ndL,QbL]
  |succ i=>
   simp only[List.take_succ_cons,ndL,QbL];have:=ih i;omega
mutual
def Jcs{W:World}:∀(a:An),a.At W->∀q∈foot a,q<W.heap.size
 |.mk k n s o b c l,h,q,hq=>by
  unfold An.At at h;replace h:=h.2
  cases l with
  |nil=>simp[foot]at hq
  |cons x r=>
   unfold foot at hq
   rcases List.mem_cons.1 hq with rfl|hq
   ·unfold AtL at h;obtain⟨xA,xn,xc,T1⟩:=Jg x;exact World.block_lt_of_cell? (a:=⟨q,0*5+0,none⟩) W (h.1 0 (Iv x.kind) (by rw[T1];rfl))
   ·exact JeO b (x::r) 0 h q (by rw[Qak];exact hq)
def JeO{W:World}(b:Nat):∀(l:List An)(i:Nat),AtL W b i l->∀q∈Qak l,q<W.heap.size
 |[],_,_,q,hq=>by simp[Qak]at hq
 |a::l,i,h,q,hq=>by
  unfold AtL at h;unfold Qak at hq
  rcases List.mem_append.1 hq with hq|hq
  ·exact Jcs a h.2.1 q hq
  ·exact JeO b l (i+1) h.2.2 q hq
end
def Jct{a:An}(h:a.At W)(hb:yr W W'):a.At W':=JK a h λq hq=>hb.block q (Jcs a h q hq)
def ZV(k n:Int)(s:By)(o:Int)(b c:Nat)(l:List An):siz (An.mk k n s o b c l).nd=Qbd (ndL l)+1:=by unfold An.nd;rw[JD]
def JM{x:An}(hx:x∈l):siz x.nd<=Qbd (ndL l):=JeK (by rw[Kk];exact List.mem_map.2 ⟨x,hx,rfl⟩)
def Jy(l:List An):l.length<=Qbd (ndL l):=by have:=JeL (ndL l);rw[Kk,List.length_map]at this;rw[Kk];exact this
def ZW:∀(n:Nat)(a:An)(w:World),siz a.nd<=n->n<=1000000000->a.At w->Calls prog 95 #[.agg (Qaa a)] w (Qcx w (Qag a.nd))
 |0,a,w,hn,_,_=>by
  have:=Vh a.nd;omega
 |n+1,a,w,hn,hb,hat=>by
  have IH:=λ(x:An) (W:World) h1 h2=>ZW n x W h1 zo h2
  obtain⟨k,nn,s,o,b,c,l⟩:=a;have hN:Qag (An.mk k nn s o b c l).nd=QbL (ndL l)+1:=by unfold An.nd Qag;rfl
  rw[ZV]at hn;rw[hN];unfold An.At at hat;replace hat:=hat.2;obtain⟨ad,cc,S3,yA⟩:=Jp b c l
  have aA:Qaa (An.mk k nn s o b c l)=(za k nn s o ad l.length cc):=by
   show #[_,_,_,_,Qaz b c l]=_
   rw[S3]
  rw[aA];have eA:=Zh hat;have HAD:=Zh yA;obtain⟨M,hM⟩:=yt (QbL (ndL l))
  have HM:=Zh hM;have kA:M<=n:=by have:=ZQ (ndL l);omega
  rw[hM];have gA:l.length<=n:=by have:=Jy l;omega
  have Q6:Hi (Qbd (ndL l)<=n):=by rw[Hi];omega
  clear hat yA S3 aA hN hM hn;go_enter func95,ntmps95;go_wp2_with fail;have bA:Hi (yr w (w.alloc (.cells (za k nn s o ad l.length cc) 127))):=zO.alloc (Nat.le_refl _) _;go_loopg [3,9] l.length λg v3 v9 wr=>∃i m:Nat,g+i=l.length/\v3=Iv m/\v9=Iv i/\Hi (m=QbL (ndL (l.take i)))/\Hi (yr w wr)
  case atStart=>exact⟨0,0,rfl,rfl,rfl,by simp[Hi,ndL,QbL],bA⟩
  case round=>
  clear bA;obtain⟨wl,rfl⟩:=zJ wr;obtain⟨i,m,hg,rfl,rfl,hm,hw⟩:=hrel
  by_cases hi:i<l.length
  ·have hil:(i:Int)<(l.length:Int):=zo;obtain⟨x,hx⟩:∃x,l[i]?=some x:=⟨l[i],List.getElem?_eq_getElem hi⟩
   have hmem:x∈l:=List.mem_of_getElem? hx;have yA:ad=some ⟨b,0,none⟩:=HAD.o (List.ne_nil_of_mem hmem);obtain⟨hc,uA⟩:=JW eA.o hx;rw[Nat.zero_add]at hc;obtain⟨xA,xn,xc,T1⟩:=Jg x;rw[T1]at hc;have hcl:∀j u,((za x.kind x.num x.name x.off xA xn xc):Array Value).toList[j]?=some u->wl.cell? ⟨b,i*5+j,none⟩=some u:=λj u hj=>(hw.o.cell (World.block_lt_of_cell? _ _ (hc j u hj))).trans (hc j u hj)
   have c0:=hcl 0 _ rfl;have c1:=hcl 1 _ rfl;have c2:=hcl 2 _ rfl;have c3:=hcl 3 _ rfl;have c4:=hcl 4 _ rfl;simp only[Nat.add_zero]at c0;have vA:x.At wl:=JK x uA λq hq=>hw.o.block q (Jcs x uA q hq)
   have iA:siz x.nd<=n:=Nat.le_trans (JM hmem) Q6.o;have hA:Hi (max m (Qag x.nd)=QbL (ndL (l.take (i+1)))):=by rw[Hi,JfT hx,hm.o]
   have jA:m<=n:=by rw[hm.o];have:=JjH (l:=l) i;have:=HM.o;omega
   have wk:=zI i;have cA:=Zh vA;have HW:=Zh hw;have R6:=Zh T1;have HG:=Zh hg;subst yA;clear hc hcl hx hmem T1 uA vA hm hw hi HAD hg;have zA:yr wl (wl.alloc (.cells (za x.kind x.num x.name x.off xA xn xc) 127)):=zO.alloc (Nat.le_refl _) _;have cx:=IH x _ iA (Jct cA.o zA);rw[R6.o]at cx;have M9:=Zh (HW.o.trans (zA.mono HW.o.size));clear zA;go_wp2_with fail;refine cx.mono ?_;rintro e w2 ⟨rfl,I0⟩;have R7:=Zh (M9.o.trans (I0.mono M9.o.size));clear I0 cx;go_wp2;go_roundg (l.length-(i+1))
   case measure=>have:=HG.o;omega
   case rel=>exact⟨i+1,max m (Qag x.nd),by omega,by go_num,by go_num,hA,R7⟩
  ·have hil:¬(i:Int)<(l.length:Int):=zo;obtain rfl:i=l.length:=zo;have dA:m=M:=by rw[hm.o,List.take_length];exact HM.o
   subst dA;have wk:=zI m;have dil:((l.length:Int)<(l.length:Int))=False:=zq;clear hil hm;go_wp2;go_ret;exact⟨by go_num,hw.o⟩
variable{xs:List Value}
def Jhe(h:w.ownsRow base e size v n xs)(hb:yr w w'):w'.ownsRow base e size v n xs:=JA h (Chg.of_below hb []) zq
def JeP(h:w.ownsRow base e size v n xs):∀k,v.ownBlock=some k->base<=k:=λk hk=>(h.lt k hk).1
def Value.blk(v:Value):Nat:=v.ownBlock.getD 0
def Vr(h:w.ownsRow base e size v n xs):∃ad cc,v=.slice ad n cc/\(0<n->ad=some ⟨Value.blk v,0,none⟩):=by
 rcases h.2 with⟨rfl,rfl⟩|⟨g,cap,cur,rfl,_⟩
 ·exact⟨none,0,rfl,λh=>absurd h zo⟩
 ·exact⟨_,cap,rfl,λ_=>rfl⟩
def K3(w:World)(cs:Array Value)(e:TypeId)(j:Nat):(w.alloc (.cells cs e)).cell? ((⟨w.heap.size,0,none⟩:Addr).add j)=cs[j]?:=by
 exact Qib
def Qem(g size off n:Nat):List Value:=(List.range n).map λi=>.pointer (some ⟨g,i*size+off,none⟩)
def Jcu(g size off n:Nat):Qem g size off (n+1)=Qem g size off n++[.pointer (some ⟨g,n*size+off,none⟩)]:=by simp[Qem,List.range_succ]
def QgD:(prog.info? 158).map (λi=>(i.zero,i.size,i.bytes))=some (some (.pointer none),1,8):=zk
def QeW(w:World)(S:Qap)(e:Ending)(w':World):Prop:=
 ∃v,e=.returned v/\w'.ownsRow w.heap.size 158 1 v (S.funcs.length+S.clauses.length) (Qem (Value.blk S.fv) 10 5 S.funcs.length++Qem (Value.blk S.cv) 7 0 S.clauses.length)/\yr w w'
def Jhf(w:World)(sb:Nat)(S:Qap)(h:QaH w sb S)(h1:S.funcs.length<=100000000)(h2:S.clauses.length<=100000000):Calls prog 94 #[Pt sb] w (QeW w S):=by
 obtain⟨R,hR⟩:=yt (QeW w S)
 rw[hR];have HR:Hi (R=QeW w S):=hR.symm;have HB:=Zh h.box;obtain⟨fa,fc,yA,bA⟩:=Vr h.fown;obtain⟨ca,cc,vA,dA⟩:=Vr h.cown;have xA:=Zh bA;have uA:=Zh dA;obtain⟨fs,cs,act,fv,cv⟩:=S;dsimp only at yA vA h1 h2 HB xA uA;generalize cA:Value.blk fv=fb at*;generalize C3:Value.blk cv=cb at*;have A1:=Zh cA;have Y6:=Zh C3;rw[yA,vA]at HB;generalize gA:fs.length=nf at*;generalize jA:cs.length=nc at*;have mA:=Zh gA;have kA:=Zh jA;clear h hR bA dA cA C3 yA vA gA jA;obtain⟨i0,hi,eA,hA,iA⟩:=info_parts QgD;have HI:=Zh hi;clear hi;have b0:=Ja HB.o 0;have b1:=Ja HB.o 1;simp only[zW]at b0 b1;go_enter func94,ntmps94;go_wp2_with fail;go_loopg [3,11] nf λg v3 v11 wr=>∃i:Nat,g+i=nf/\v11=Iv i/\Hi (wr.ownsRow w.heap.size 158 1 v3 i (Qem fb 10 5 i))/\Hi (yr w wr)
 case atStart=>exact⟨0,rfl,rfl,World.ownsRow_nil _ _ _ _,zO⟩
 case round=>
 clear b0 b1;obtain⟨wl,rfl⟩:=zJ wr;obtain⟨i,hg,rfl,ho,hw⟩:=hrel;have R0:=(hw.o.block _ (Jb HB.o)).trans HB.o;have b0:=Ja R0 0;have b1:=Ja R0 1;simp only[zW]at b0 b1
 by_cases hil:i<nf
 ·have hl:(i:Int)<(nf:Int):=zo;have aA:fa=some ⟨fb,0,none⟩:=xA.o zo;obtain⟨va,vn,vc,zA⟩:=Jk ho.o;subst zA;have wk:=zI i;have HG:=Zh hg;subst aA;clear xA hg R0;go_wp2_with (at_builtin;refine wpList_append_own _ rfl _ _ 156 rfl w.heap.size 158 i0 (.pointer none) 1 8 underlying156 HI.o eA hA iA rfl zp _ _ _ rfl (ho.o.alloc _) ⟨wl.heap.size,0,none⟩ 1 1 [.pointer (some ⟨fb,i*10+5,none⟩)] rfl rfl ?c1 ?c2 ?c3 ?c4 ?c5 ?_)
  case c1=>
   intro j u hj;rw[K3];simpa using hj
  case c2=>intro u hu;simp at hu;subst hu;rfl
  case c3=>unfold maxLen;omega
  case c4=>omega
  case c5=>simp;exact le_trans hw.o.size zo
  intro v' w' Q0 hgrow _;have L1:=(hw.o.alloc hw.o.size (.cells #[.pointer (some ⟨fb,i*10+5,none⟩)] 158))
  have HW:=Zh (L1.grown hgrow (by simp;exact le_trans hw.o.size zo) (JeP ho.o));rw[<-Jcu]at Q0;have HO:=Zh Q0;clear Q0 hgrow L1 ho hw;go_wp2;go_roundg (nf-(i+1))
  case measure=>have:=HG.o;omega
  case rel=>exact⟨i+1,by omega,by go_num,HO,HW⟩
 ·have hl:¬(i:Int)<(nf:Int):=zo;obtain rfl:i=nf:=zo;have HO:=Zh ho.o;have HW:=Zh hw.o;have nA:True:=trivial;clear hil R0 hg ho hw b0 xA;go_wp2_with fail;go_loopg [3,30] nc λg v3 v30 wr=>∃j:Nat,g+j=nc/\v30=Iv j/\Hi (wr.ownsRow w.heap.size 158 1 v3 (i+j) (Qem fb 10 5 i++Qem cb 7 0 j))/\Hi (yr w wr)
  case atStart=>exact⟨0,rfl,rfl,by simpa[Qem,Hi] using HO.o,HW⟩
  case round=>
  clear b1 HO HW;obtain⟨wm,rfl⟩:=zJ wr;obtain⟨j,hg,rfl,ho,hw⟩:=hrel;have R0:=(hw.o.block _ (Jb HB.o)).trans HB.o;have b1:=Ja R0 1;simp only[zW]at b1
  by_cases fB:j<nc
  ·have hl:(j:Int)<(nc:Int):=zo;have aA:ca=some ⟨cb,0,none⟩:=uA.o zo;obtain⟨va,vn,vc,zA⟩:=Jk ho.o;subst zA;have wk:=zI j;have HG:=Zh hg;subst aA;clear uA hg R0;go_wp2_with (at_builtin;refine wpList_append_own _ rfl _ _ 156 rfl w.heap.size 158 i0 (.pointer none) 1 8 underlying156 HI.o eA hA iA rfl zp _ _ _ rfl (ho.o.alloc _) ⟨wm.heap.size,0,none⟩ 1 1 [.pointer (some ⟨cb,j*7,none⟩)] rfl rfl ?c1 ?c2 ?c3 ?c4 ?c5 ?_)
   case c1=>
    intro j u hj;rw[K3];simpa using hj
   case c2=>intro u hu;simp at hu;subst hu;rfl
   case c3=>unfold maxLen;omega
   case c4=>omega
   case c5=>simp;exact le_trans hw.o.size zo
   intro v' w' Q0 hgrow _;have L1:=(hw.o.alloc hw.o.size (.cells #[.pointer (some ⟨cb,j*7,none⟩)] 158))
   have HW:=Zh (L1.grown hgrow (by simp;exact le_trans hw.o.size zo) (JeP ho.o));rw[show Qem cb 7 0 j++[Value.pointer (some ⟨cb,j*7,none⟩)]=Qem cb 7 0 (j+1) by rw[Jcu,Nat.add_zero]]at Q0;have HO:=Zh Q0;clear Q0 hgrow L1 ho hw;go_wp2;go_roundg (nc-(j+1))
   case measure=>have:=HG.o;omega
   case rel=>exact⟨j+1,by omega,by go_num,HO,HW⟩
  ·have hl:¬(j:Int)<(nc:Int):=zo;obtain rfl:j=nc:=zo;clear b1 R0 hg fB;go_wp2;rw[HR.o];refine⟨_,rfl,?_,hw.o⟩;simp only[mA.o,kA.o,A1.o,Y6.o];exact ho.o
def QcI(g:Nat):Nat->List FnA->List (Addr×An)
 |_,[]=>[]
 |i,f::l=>(⟨g,i*10+5,none⟩,f.body)::QcI g (i+1) l
def QcJ(g:Nat):Nat->List ClA->List (Addr×An)
 |_,[]=>[]
 |i,c::l=>(⟨g,i*7,none⟩,c.cond)::QcJ g (i+1) l
def Qap.rootsA(S:Qap):List (Addr×An):=QcI (Value.blk S.fv) 0 S.funcs++QcJ (Value.blk S.cv) 0 S.clauses
def YO(g:Nat):∀(l:List FnA)(i j:Nat),(QcI g i l)[j]?=l[j]?.map λf=>(⟨g,(i+j)*10+5,none⟩,f.body)
 |[],i,j=>by simp[QcI]
 |f::l,i,0=>by simp[QcI]
 |f::l,i,j+1=>by
  simp only[QcI,List.getElem?_cons_succ];rw[YO g l (i+1) j,show i+1+j=i+(j+1) by omega]
def YP(g:Nat):∀(l:List ClA)(i j:Nat),(QcJ g i l)[j]?=l[j]?.map λc=>(⟨g,(i+j)*7,none⟩,c.cond)
 |[],i,j=>by simp[QcJ]
 |f::l,i,0=>by simp[QcJ]
 |f::l,i,j+1=>by
  simp only[QcJ,List.getElem?_cons_succ];rw[YP g l (i+1) j,show i+1+j=i+(j+1) by omega]
def Yo(g:Nat):∀(l:List FnA)(i:Nat),(QcI g i l).length=l.length
 |[],i=>rfl
 |f::l,i=>by simp[QcI,Yo g l]
def Yp(g:Nat):∀(l:List ClA)(i:Nat),(QcJ g i l).length=l.length
 |[],i=>rfl
 |f::l,i=>by simp[QcJ,Yp g l]
def JeQ(g size off n j:Nat):(Qem g size off n)[j]?=if j<n then some (.pointer (some ⟨g,j*size+off,none⟩)) else none:=by
 unfold Qem;rw[getElem?_map]
 by_cases h:j<n
 ·rw[if_pos h,List.getElem?_range h];rfl
 ·rw[if_neg h,List.getElem?_eq_none zr];rfl
def Qho{P:Prop}(h:P:=by
  by_cases h:j<l.length
  ·rw[if_pos h,List.getElem?_eq_getElem h];simp
  ·rw[if_neg h,List.getElem?_eq_none (by omega)];rfl):P:=h
def JdL(g:Nat)(l:List FnA):(QcI g 0 l).map (λr=>Value.pointer (some r.1))=Qem g 10 5 l.length:=by
 refine List.ext_getElem? λj=>?_
 rw[getElem?_map,YO,JeQ];exact Qho
def JdM(g:Nat)(l:List ClA):(QcJ g 0 l).map (λr=>Value.pointer (some r.1))=Qem g 7 0 l.length:=by
 refine List.ext_getElem? λj=>?_
 rw[getElem?_map,YP,JeQ];exact Qho
def JfU(S:Qap):S.rootsA.map (λr=>Value.pointer (some r.1))=Qem (Value.blk S.fv) 10 5 S.funcs.length++Qem (Value.blk S.cv) 7 0 S.clauses.length:=by
 unfold Qap.rootsA;rw[List.map_append,JdL,JdM]
def Jcv(g:Nat):∀(l:List FnA)(i:Nat),(QcI g i l).map (λr=>r.2.nd)=(l.map FnA.src).map (·.body)
 |[],i=>rfl
 |f::l,i=>by simp[QcI,Jcv g l,FnA.src]
def Jcw(g:Nat):∀(l:List ClA)(i:Nat),(QcJ g i l).map (λr=>r.2.nd)=(l.map ClA.src).map (·.cond)
 |[],i=>rfl
 |f::l,i=>by simp[QcJ,Jcw g l,ClA.src]
def JeR(S:Qap):S.rootsA.map (λr=>r.2.nd)=S.src.roots:=by
 unfold Qap.rootsA Src.roots Qap.src;rw[List.map_append,Jcv,Jcw]
def Kq{α:Type}{cells:α->List Value}{size:Nat}(hs:∀x,(cells x).length=size):∀(l:List α)(i j:Nat)(x:α)(u:Value),l[i]?=some x->(cells x)[j]?=some u->(l.flatMap cells)[i*size+j]?=some u
 |[],i,j,x,u,h,hj=>by cases h
 |a::l,0,j,x,u,h,hj=>by
  obtain rfl:a=x:=by simpa using h
  have hlt:=(List.getElem?_eq_some_iff.1 hj).1;rw[List.flatMap_cons,Nat.zero_mul,Nat.zero_add,List.getElem?_append_left hlt];exact hj
 |a::l,i+1,j,x,u,h,hj=>by
  rw[List.flatMap_cons,List.getElem?_append_right (by rw[hs,Nat.succ_mul];omega),hs,show (i+1)*size+j-size=i*size+j by rw[Nat.succ_mul];omega];exact Kq hs l i j x u (by simpa using h) hj
def J0(h:W.ownsRow base e size v n xs)(hj:xs[j]?=some u):W.cell? ⟨Value.blk v,j,none⟩=some u:=by
 rcases h.2 with⟨rfl,rfl⟩|⟨g,cap,cur,rfl,_⟩
 ·have:=h.1;rw[Nat.zero_mul]at this;rw[List.eq_nil_of_length_eq_zero this]at hj
  cases hj
 ·have:=h.cells (g:=g) rfl j u hj;rw[show (⟨g,0,none⟩:Addr).add j=⟨g,j,none⟩ by unfold Addr.add;split<;>simp_all]at this;exact this
def FnA.cells_length(f:FnA):f.cells.length=10:=by simp[FnA.cells,J3]
def ClA.cells_length(c:ClA):c.cells.length=7:=by simp[ClA.cells,J3]
def QeX(W:World)(r:Addr×An):Prop:=r.1.spot=none/\(∀j u,(Qaa r.2).toList[j]?=some u->W.cell? ⟨r.1.block,r.1.off+j,none⟩=some u)/\r.2.At W
def QeX.below{r:Addr×An}(h:QeX W r)(hb:yr W W'):QeX W' r:=
 ⟨h.1,λj u hj=>(hb.cell (World.block_lt_of_cell? _ _ (h.2.1 j u hj))).trans (h.2.1 j u hj),Jct h.2.2 hb⟩
def JjI(h:QaH W sb S):∀r∈S.rootsA,QeX W r:=by
 intro r hr
 rcases List.mem_append.1 hr with hr|hr
 ·obtain⟨i,hi⟩:=List.getElem?_of_mem hr;rw[YO]at hi;obtain⟨f,hf,rfl⟩:=Option.map_eq_some_iff.1 hi;refine⟨rfl,λj u hj=>?_,(h.fok f (List.mem_of_getElem? hf)).1.bat⟩
  have h1:f.cells[5+j]?=some u:=by
   unfold FnA.cells;rw[List.getElem?_append_right zq];simpa using hj
  have:=J0 h.fown (Kq FnA.cells_length S.funcs i (5+j) f u hf h1);rw[<-Nat.add_assoc]at this;simpa using this
 ·obtain⟨i,hi⟩:=List.getElem?_of_mem hr;rw[YP]at hi;obtain⟨c,hf,rfl⟩:=Option.map_eq_some_iff.1 hi;refine⟨rfl,λj u hj=>?_,(h.cok c (List.mem_of_getElem? hf)).1.at'⟩
  have h1:c.cells[j]?=some u:=by
   unfold ClA.cells;rw[List.getElem?_append_left (List.getElem?_eq_some_iff.1 hj).1];exact hj
  have:=J0 h.cown (Kq ClA.cells_length S.clauses i j c u hf h1);simpa using this
def Qff(er o:Int):Value:=.iface 88 (.agg (yq er o))
def Qgn(w:World)(er:Int)(x:Option Int)(e:Ending)(w':World):Prop:=
 match x with
 |none=>e=.returned (.tuple #[])/\yr w w'
 |some o=>e=.panicked [{v:=Qff er o,recovered:=false}]/\yr w w'
def JfV{l:List (Addr×An)}{i:Nat}{r:Addr×An}(h:l[i]?=some r):(((l.drop i).map λr=>r.2.nd).find? λn=>decide (40<Qag n))=if 40<Qag r.2.nd then some r.2.nd else ((l.drop (i+1)).map λr=>r.2.nd).find? (λn=>decide (40<Qag n)):=by
 rw[List.drop_eq_getElem_cons (List.getElem?_eq_some_iff.1 h).1,(List.getElem?_eq_some_iff.1 h).2,List.map_cons,List.find?_cons]
 by_cases hn:40<Qag r.2.nd
 ·rw[if_pos hn];simp[hn]
 ·rw[if_neg hn];simp[hn]
def Jhg(w:World)(sb:Nat)(S:Qap)(h:QaH w sb S)(h1:S.funcs.length<=100000000)(h2:S.clauses.length<=100000000)(h3:∀r∈S.rootsA,siz r.2.nd<=1000000000):Calls prog 35 #[Pt sb] w (Qgn w 7 (QbN S.src)):=by
 have cr:=Jhf w sb S h h1 h2;obtain⟨X,hX⟩:=yt (QbN S.src)
 rw[hX];obtain⟨R,hR⟩:=yt (Qgn w 7 X)
 rw[hR];have HR:Hi (R=Qgn w 7 X):=hR.symm;have gA:=JjI h;unfold QeW at cr;rw[<-JfU]at cr;have uA:S.funcs.length+S.clauses.length=S.rootsA.length:=by unfold Qap.rootsA;rw[List.length_append,Yo,Yp]
 have pA:S.rootsA.length<=200000000:=zo;rw[uA]at cr;unfold QbN at hX;rw[<-JeR]at hX;generalize S.rootsA=L at*;have HX:=Zh hX;have mA:=Zh gA;have Q6:=Zh h3;clear h hR hX gA h1 h2 h3 uA;go_enter func35,ntmps35;go_wp2_with fail;refine cr.mono ?_;rintro e w1 ⟨v,rfl,zA,L1⟩;obtain⟨ad,cc,hv,vA⟩:=Vr zA;have HOW:=Zh zA;have HAD:=Zh vA;have kA:Hi (∃b,b=Value.blk v):=⟨_,rfl⟩
 generalize eA:Value.blk v=vb at*;have jA:=Zh eA;subst hv;have hA:=Zh L1;clear cr zA vA eA L1 kA;go_wp2_with fail;go_loopg [7] L.length λg v7 wr=>∃i:Nat,g+i=L.length/\v7=Iv i/\Hi ((((L.drop i).map λr=>r.2.nd).find? λn=>decide (40<Qag n)).map Nd.off=X)/\Hi (yr w wr)/\Hi (yr w1 wr)
 case atStart=>exact⟨0,rfl,rfl,HX.o,hA,zO⟩
 case round=>
 clear HX hA;obtain⟨wl,rfl⟩:=zJ wr;obtain⟨i,hg,rfl,hx,hw,aA⟩:=hrel
 by_cases hil:i<L.length
 ·have hl:(i:Int)<(L.length:Int):=zo;obtain⟨r,hr⟩:∃r,L[i]?=some r:=⟨L[i],List.getElem?_eq_getElem hil⟩
  have vA:ad=some ⟨vb,0,none⟩:=HAD.o zo;have hc:=J0 HOW.o (j:=i) (u:=.pointer (some r.1)) (by rw[getElem?_map,hr];rfl);rw[jA.o]at hc;have c0:=(aA.o.cell (World.block_lt_of_cell? _ _ hc)).trans hc;have nA:=(mA.o r (List.mem_of_getElem? hr)).below hw.o;have hsz:=Q6.o r (List.mem_of_getElem? hr);have hst:=JfV hr;have wk:=zI i;obtain⟨⟨rb,ro,rp⟩,x⟩:=r;obtain⟨dA,yA,bA⟩:=nA;dsimp only at dA yA bA hsz hst c0;subst dA;obtain⟨xA,xn,xc,T1⟩:=Jg x;rw[T1]at yA;have d0:=yA 0 _ rfl;have d1:=yA 1 _ rfl;have d2:=yA 2 _ rfl;have d3:=yA 3 _ rfl;have d4:=yA 4 _ rfl;simp only[Nat.add_zero]at d0;have cx:=ZW 1000000000 x wl hsz (Nat.le_refl _) bA;rw[T1]at cx;have HG:=Zh hg;have HX:=Zh hx.o;rw[hst]at HX;have HW:=Zh hw.o;have cA:=Zh aA.o;have qA:Qag x.nd<=1000000000:=le_trans (JeM _) hsz;subst vA;clear hc hr hst hsz T1 yA bA hg hx hw aA HAD;go_wp2_with fail;refine cx.mono ?_;rintro e w2 ⟨rfl,I0⟩;have iA:=(I0.cell (World.block_lt_of_cell? _ _ d3)).trans d3;have R7:=Zh (HW.o.trans (I0.mono HW.o.size));have E9:=Zh (cA.o.trans (I0.mono cA.o.size));clear cx I0 d0 d1 d2 d3 d4 HW cA c0
  by_cases hn:40<Qag x.nd
  ·have dn:(40:Int)<(Qag x.nd:Int):=zo;rw[if_pos hn]at HX;clear hn;go_wp2;refine⟨rfl,?_⟩;rw[HR.o,<-HX.o];exact⟨by rw[ZK];rfl,R7.o⟩
  ·have dn:¬(40:Int)<(Qag x.nd:Int):=zo;rw[if_neg hn]at HX;clear hn iA;go_wp2;go_roundg (L.length-(i+1))
   case measure=>have:=HG.o;omega
   case rel=>exact⟨i+1,by omega,by go_num,HX,R7,E9⟩
 ·have hl:¬(i:Int)<(L.length:Int):=zo;obtain rfl:i=L.length:=zo;have HX:=Zh hx.o;rw[List.drop_length]at HX;clear hil hg hx HAD;go_wp2;go_end0;rw[HR.o,<-HX.o];exact⟨rfl,hw.o⟩
def Qcu:Go.Maps.Keyed prog 9:=Go.Maps.string_keyed underlying9
def Zm(hs:s.length<=1000000):keyOf prog 9 (Sv s)=some (.string s):=by
 rw[Go.WideMaps.keyOf_string_mk underlying9 (by rw[JJ];unfold maxLen;omega),V5]
def JjJ{a:Int}(h:0<=a/\a<=1000000000):(Lit.int .i64 a).wf=true:=by
 simp[Lit.wf,IntKind.min,IntKind.max,IntKind.signed,IntKind.bits];omega
def Qbh(w:World)(b n:Nat)(f:By->Option Nat):Prop:=
 ∃D:DataW Unit,w.ownsMap prog 9 (plainElem prog 3) b n D/\Go.Maps.IsMap D/\
  ∀s:By,s.length<=1000000->Go.Maps.has D (.string s)=(f s).isSome/\D.atKey (.string s) (.lit (.int .i64 0))=.lit (.int .i64 ((f s).getD 0:Nat))
def Qgo(w:World):(zeroValue 3).run prog w=.ok (Iv 0) w:=zk
def Qbh.look{f:By->Option Nat}(h:Qbh w b n f)(hs:s.length<=1000000):
  (Instr.lookup 161 (.map (some b)) (Sv s) true).run prog w=.ok (.tuple #[Iv ((f s).getD 0:Nat),.bool (f s).isSome]) w:=by
 obtain⟨D,ho,hm,hf⟩:=h;obtain⟨h1,h2⟩:=hf s hs;obtain⟨v,ps,hrun,hv⟩:=ho.look_ok Qcu underlying161 (Qgo w) (plainElem_int underlying3 zp) (Zm hs);rw[hrun];rw[h2]at hv;obtain⟨c,rfl,hc,hw⟩:=plainElem_int_inv underlying3 hv;simp only[Prod.mk.injEq,DataW.lit.injEq,Lit.int.injEq]at hc;rw[h1,<-hc.1.2]
def Qbh.upd{f:By->Option Nat}(h:Qbh w b n f)(hn:n<maxLen)(hs:s.length<=1000000){v:Nat}(hv:v<=1000000000):
  ∃w',(Instr.mapUpdate 161 (.map (some b)) (Sv s) (Iv v)).run prog w=.ok () w'/\Qbh w' b (n+1) (λx=>if x=s then some v else f x)/\Chg [b] w w':=by
 obtain⟨D,ho,hm,hf⟩:=h;have hk:=Zm hs;obtain⟨w',hrun,yA,hg⟩:=ho.update Qcu underlying161 hn hk (plainElem_int underlying3 (JjJ (a:=(v:Nat)) zo));refine⟨w',hrun,⟨_,yA,hm.put _ _,λx hx=>?_⟩,Chg.of_grownBy hg⟩;dsimp only
 by_cases e:x=s
 ·subst e;rw[if_pos rfl,Go.Maps.has_put_same hm (Qcu.key hk),Go.Maps.atKey_put_same hm (Qcu.key hk)];exact⟨rfl,rfl⟩
 ·rw[if_neg e];have xA:(Lit.string x)≠Lit.string s:=λh=>e (by injection h)
  rw[Go.Maps.has_put_other xA,Go.Maps.atKey_put_other xA];exact hf x hx
def Qbh.new(w:World):Qbh (w.alloc (.map #[] 0)) w.heap.size 0 (λ_=>none):=
 ⟨.map [],World.ownsMap_made w _ _ _,Go.Maps.isMap_empty,λ_ _=>⟨rfl,rfl⟩⟩
def Qbh.lt{f:By->Option Nat}(h:Qbh w b n f):b<w.heap.size:=h.choose_spec.1.lt
def Qbh.same{f:By->Option Nat}(h:Qbh w b n f)(hc:w'.heap[b]?=w.heap[b]?):Qbh w' b n f:=by
 obtain⟨D,⟨es,xA,hb,r⟩,q⟩:=h;exact⟨D,⟨es,xA,hc.trans hb,r⟩,q⟩
def Qbh.keep{S:List Nat}{f:By->Option Nat}(h:Qbh w b n f)(hc:Chg S w w')(hn:b∉S):Qbh w' b n f:=h.same (hc.block b h.lt hn)
def addF(x:Option Int)(o:Int):Option Int:=some (match x with|none=>o|some b=>if o<b then o else b)
def QaG(x:Option Int)(l:List Int):Option Int:=l.foldl addF x
def Jw(x:Option Int)(a b:List Int):QaG x (a++b)=QaG (QaG x a) b:=List.foldl_append
def JeS(x:Option Int):QaG x []=x:=rfl
def Jhh(o:Int):addF none o=some o:=rfl
def ZX(b o:Int):addF (some b) o=some (if o<b then o else b):=rfl
def JaI(a:Int)(l:List Int):QaZ (a::l)=some (match QaZ l with|none=>a|some b=>min a b):=rfl
def Qie{P:Prop}(h:P:=by
  cases QaZ l with
  |none=>
   dsimp only
   congr 1
   simp only[Int.min_def]
   repeat' split
   all_goals omega
  |some c=>
   dsimp only
   congr 1
   simp only[Int.min_def]
   repeat' split
   all_goals omega):P:=h
def Jcx(b:Int):∀l:List Int,QaG (some b) l=some (match QaZ l with|none=>b|some c=>min b c)
 |[]=>rfl
 |a::l=>by
  show QaG (addF (some b) a) l=_
  rw[ZX,Jcx _ l,JaI]
  by_cases h:a<b
  ·rw[if_pos h];exact Qie
  ·rw[if_neg h];exact Qie
def JaJ(l:List Int):QaG none l=QaZ l:=by
 cases l with
 |nil=>rfl
 |cons a l=>
  show QaG (addF none a) l=_
  rw[Jhh,Jcx,JaI]
def QaW(W:World)(rb:Nat)(t:TypeId)(x:Option Int)(M:Value):Prop:=W.heap[rb]?=some (.cells #[.bool x.isSome,Iv (x.getD 0),M] t (0,0))
def Qir(w:World)(rb:Nat)(t:TypeId)(x:Option Int)(M:Value)(e:Ending)(w':World):Prop:=e=.returned (.tuple #[])/\QaW w' rb t x M/\Chg [rb] w w'
def V7(w:World)(rb:Nat)(t:TypeId)(x:Option Int)(M:Value)(o:Int)(h:QaW w rb t x M):Calls prog 96 #[Pt rb,Iv o] w (Qir w rb t (addF x o) M):=by
 unfold QaW at h;obtain⟨R,hR⟩:=yt (Qir w rb t (addF x o) M)
 rw[hR];have HR:Hi (R=Qir w rb t (addF x o) M):=hR.symm;have b0:=Ja h 0;have b1:=Ja h 1;simp only[zW]at b0 b1;have f0:=Jc h 0;have f1:=Jc h 1;have hl:=Jb h;have H:=Zh h;clear hR h
 have HP:Hi (QaW ((w.setCell ⟨rb,0,none⟩ (.bool true)).setCell ⟨rb,1,none⟩ (Iv o)) rb t (some o) M/\Chg [rb] w ((w.setCell ⟨rb,0,none⟩ (.bool true)).setCell ⟨rb,1,none⟩ (Iv o))):=by
  have h0:=Jm H.o 0 (.bool true);have h1:=Jm h0 1 (Iv o);exact⟨h1,((Chg.refl [rb] w).setCell (.inl zq) (p:=⟨rb,0,none⟩) _).setCell (.inl zq) (p:=⟨rb,1,none⟩) _⟩
 cases x with
 |none=>
  simp only[Option.isSome,Option.getD]at b0 b1;clear H;go_enter func96,ntmps96;go_wp2;go_end0;rw[HR.o];exact⟨rfl,HP.o⟩
 |some b=>
  simp only[Option.isSome,Option.getD]at b0 b1
  by_cases hlt:o<b
  ·have e:addF (some b) o=some o:=by rw[ZX,if_pos hlt]
   have HE:=Zh e;clear H e;go_enter func96,ntmps96;go_wp2;go_end0;rw[HR.o,HE.o];exact⟨rfl,HP.o⟩
  ·have e:addF (some b) o=some b:=by rw[ZX,if_neg hlt]
   have HE:=Zh e;clear HP e;go_enter func96,ntmps96;go_wp2;go_end0;rw[HR.o,HE.o];exact⟨rfl,H.o,Chg.refl _ _⟩
structure Qcj(P:Nat->Nat->Prop)(W W':World):Prop where
 os:W'.os=W.os
 tape:W'.tape=W.tape
 output:W'.output=W.output
 size:W.heap.size<=W'.heap.size
 block:∀b,b<W.heap.size->(∀j,¬P b j)->W'.heap[b]?=W.heap[b]?
 cell:∀b j,b<W.heap.size->¬P b j->W'.cell? ⟨b,j,none⟩=W.cell? ⟨b,j,none⟩
 frz:∀b j,b<W.heap.size->W'.frozen? ⟨b,j,none⟩=W.frozen? ⟨b,j,none⟩
 shape:∀(b:Nat)(cs:Array Value)(t:TypeId)(fr:Nat×Nat),W.heap[b]?=some (.cells cs t fr)->∃cs':Array Value,W'.heap[b]?=some (.cells cs' t fr)/\cs'.size=cs.size
def Qcj.refl(P:Nat->Nat->Prop)(W:World):Qcj P W W:=⟨rfl,rfl,rfl,Nat.le_refl _,λ_ _ _=>rfl,λ_ _ _ _=>rfl,λ_ _ _=>rfl,λb cs t fr h=>⟨cs,h,rfl⟩⟩
variable{P:Nat->Nat->Prop}
def Qcj.trans{W1 W2:World}(h:Qcj P W W1)(k:Qcj P W1 W2):Qcj P W W2:=
 ⟨k.os.trans h.os,k.tape.trans h.tape,k.output.trans h.output,Nat.le_trans h.size k.size,λb hb hp=>(k.block b (lt_of_lt_of_le hb h.size) hp).trans (h.block b hb hp),λb j hb hp=>(k.cell b j (lt_of_lt_of_le hb h.size) hp).trans (h.cell b j hb hp),λb j hb=>(k.frz b j (lt_of_lt_of_le hb h.size)).trans (h.frz b j hb),λb cs t fr hb=>by
  obtain⟨c1,h1,e1⟩:=h.shape b cs t fr hb;obtain⟨c2,h2,e2⟩:=k.shape b c1 t fr h1
  exact⟨c2,h2,e2.trans e1⟩⟩
def Qcj.mono{Q:Nat->Nat->Prop}(h:Qcj P W W')(LH:∀b j,b<W.heap.size->P b j->Q b j):Qcj Q W W':=
 ⟨h.os,h.tape,h.output,h.size,λb hb hq=>h.block b hb λj hp=>hq j (LH b j hb hp),λb j hb hq=>h.cell b j hb λhp=>hq (LH b j hb hp),h.frz,h.shape⟩
def Qcj.of_below(h:yr W W'):Qcj P W W':=
 ⟨h.os,h.tape,h.output,h.size,λb hb _=>h.block b hb,λb j hb _=>World.cell?_of_block (a:=⟨b,j,none⟩) (h.block b hb),λb j hb=>World.frozen?_of_block (a:=⟨b,j,none⟩) (h.block b hb),λb cs t fr hb=>⟨cs,(h.block b (Jb hb)).trans hb,rfl⟩⟩
def Qcj.step{Q:Nat->Nat->Prop}{W1 W2:World}(h:Qcj P W W1)(k:Qcj Q W1 W2)(hq:∀b j,Q b j->P b j\/W.heap.size<=b):Qcj P W W2:=
 ⟨k.os.trans h.os,k.tape.trans h.tape,k.output.trans h.output,Nat.le_trans h.size k.size,λb hb hp=>(k.block b (lt_of_lt_of_le hb h.size) λj hj=>by rcases hq b j hj with h1|h1;exact hp j h1;omega).trans (h.block b hb hp),λb j hb hp=>(k.cell b j (lt_of_lt_of_le hb h.size) λhj=>by rcases hq b j hj with h1|h1;exact hp h1;omega).trans (h.cell b j hb hp),λb j hb=>(k.frz b j (lt_of_lt_of_le hb h.size)).trans (h.frz b j hb),λb cs t fr hb=>by
  obtain⟨c1,h1,e1⟩:=h.shape b cs t fr hb;obtain⟨c2,h2,e2⟩:=k.shape b c1 t fr h1
  exact⟨c2,h2,e2.trans e1⟩⟩
variable{t:TypeId}
def Jbw(W:World)(q j:Nat)(u:Value){cs:Array Value}(h:W.heap[b]?=some (.cells cs t fr)):∃cs':Array Value,(W.setCell ⟨q,j,none⟩ u).heap[b]?=some (.cells cs' t fr)/\cs'.size=cs.size:=by
 by_cases e:b=q
 ·subst e;exact⟨cs.setIfInBounds j u,Jm h j u,by simp⟩
 ·exact⟨cs,(Below.heap_setCell _ _ _ _ e).trans h,rfl⟩
def Qcj.set{cs:Array Value}(hb:W.heap[b]?=some (.cells cs t fr))(hp:P b j)(u:Value):Qcj P W (W.setCell ⟨b,j,none⟩ u):=by
 refine⟨rfl,rfl,rfl,by simp[World.setCell],λq _ hq=>Below.heap_setCell _ _ _ _ λe=>?_,λq i _ hq=>World.cell?_setCell_other _ _ _ _ λe=>?_,λq i _=>?_,λq cs t fr hq=>Jbw W _ _ u hq⟩
 ·subst e;exact hq j hp
 ·injection e with e1 e2;subst e1 e2;exact hq hp
 ·by_cases e:q=b
  ·subst e;have h1:=Jm hb j u;simp[World.frozen?,h1,hb]
  ·exact World.frozen?_of_block (a:=⟨q,i,none⟩) (Below.heap_setCell _ _ _ _ e)
variable{x:Option Int}
def QaW.chgC{M:Value}(h:QaW W rb t x M)(hc:Qcj P W W')(hp:∀j,¬P rb j):QaW W' rb t x M:=(hc.block rb (Jb h) hp).trans h
def JdN{x':Option Int}{M:Value}(h:QaW W rb t x M)(h':QaW W' rb t x' M)(hc:Chg [rb] W W'):Qcj (λb j=>b=rb/\j<2) W W':=by
 refine⟨hc.os,hc.tape,hc.output,hc.size,λb hb hp=>hc.block b hb λhm=>?_,λb j hb hp=>?_,λb j hb=>?_,λb cs t' fr hb=>?_⟩
 ·obtain rfl:b=rb:=by simpa using hm
  exact hp 0 ⟨rfl,by omega⟩
 ·by_cases e:b=rb
  ·subst e;rw[Ja h,Ja h'];have hj:¬j<2:=λhj=>hp ⟨rfl,hj⟩
   obtain⟨j,rfl⟩:∃i,j=i+2:=⟨j-2,by omega⟩
   simp
  ·exact World.cell?_of_block (a:=⟨b,j,none⟩) (hc.block b hb (by simpa using e))
 ·by_cases e:b=rb
  ·subst e;rw[Jc h,Jc h']
  ·exact World.frozen?_of_block (a:=⟨b,j,none⟩) (hc.block b hb (by simpa using e))
 ·by_cases e:b=rb
  ·subst e;rw[show W.heap[b]?=_ from h]at hb;injection hb with hb;injection hb with e1 e2 e3;subst e1 e2 e3;exact⟨_,h',rfl⟩
  ·exact⟨cs,(hc.block b (Jb hb) (by simpa using e)).trans hb,rfl⟩
structure Qcd(W:World)(q o:Nat)(a:An):Prop where
 cells:∀j u,(Qaa a).toList[j]?=some u->W.cell? ⟨q,o+j,none⟩=some u
 frz:∀j,W.frozen? ⟨q,j,none⟩=false
 at':a.At W
def Yq{q:Nat}(h:W.cell? ⟨q,j,none⟩=some u)(hf:True):∃(cs:Array Value) (t:TypeId) (fr:Nat×Nat),W.heap[q]?=some (.cells cs t fr):=by
 unfold World.cell? at h;split at h
 ·rename_i cs t fr he;exact⟨_,_,_,he⟩
 ·cases h
mutual
def YQ{P:Nat->Nat->Prop}{W W':World}(hc:Qcj P W W'):∀(a:An),a.At W->(∀b∈foot a,∀j,¬P b j)->a.At W'
 |a,h,hp=>JK a h λb hb=>hc.block b (Jcs a h b hb) (hp b hb)
end
mutual
def QbA(fs:List By):List By->An->An
 |M0,.mk k n s o b c l=>
  if k=2 then .mk k (QaY M0 s) [] o b c (QaX fs M0 l)
  else if k=20 then .mk k ((Qal fs s).getD 0:Nat) [] o b c (QaX fs M0 l)
  else if k=19 then
   match l with
   |[x,y]=>.mk k M0.length [] o b c [QbA fs M0 x,QbA fs (M0++[s]) y]
   |l=>.mk k n s o b c l
  else .mk k n s o b c (QaX fs M0 l)
def QaX(fs:List By):List By->List An->List An
 |_,[]=>[]
 |M0,a::l=>QbA fs M0 a::QaX fs M0 l
end
def Jcy(fs M0:List By)(l:List An):QaX fs M0 l=l.map (QbA fs M0):=by
 induction l with
 |nil=>simp[QaX]
 |cons a l ih=>simp[QaX,ih]
def Vx(fs M0:List By)(k n:Int)(s:By)(o:Int)(l:List Nd):QcQ fs M0 (.mk k n s o l) =
  if k=2 then (.mk k (QaY M0 s) [] o (QbS fs M0 l).1,(if QaY M0 s<0 then [o] else [])++(QbS fs M0 l).2)
  else if k=20 then (.mk k ((Qal fs s).getD 0:Nat) [] o (QbS fs M0 l).1,(if (Qal fs s).isNone then [o] else [])++(QbS fs M0 l).2)
  else if k=19 then
   match l with
   |[a,b]=>(.mk k M0.length [] o [(QcQ fs M0 a).1,(QcQ fs (M0++[s]) b).1],(QcQ fs M0 a).2++(QcQ fs (M0++[s]) b).2)
   |l=>(.mk k n s o l,[])
  else (.mk k n s o (QbS fs M0 l).1,(QbS fs M0 l).2):=by
 conv=>lhs;unfold QcQ
 rfl
mutual
def ZY(fs:List By):∀(M0:List By)(a:An),(QbA fs M0 a).nd=(QcQ fs M0 a.nd).1
 |M0,.mk k n s o b c l=>by
  rw[An.nd,Vx];unfold QbA;split
  ·rw[An.nd,Zn]
  ·split
   ·rw[An.nd,Zn]
   ·split
    ·match l with
     |[]=>simp[An.nd,ndL]
     |[x]=>simp[An.nd,ndL]
     |[x,y]=>simp only[An.nd,ndL,ZY fs M0 x,ZY fs (M0++[s]) y]
     |x::y::z::r=>simp[An.nd,ndL]
    ·rw[An.nd,Zn]
def Zn(fs:List By):∀(M0:List By)(l:List An),ndL (QaX fs M0 l)=(QbS fs M0 (ndL l)).1
 |M0,[]=>by simp[QaX,ndL,QbS]
 |M0,a::l=>by simp only[QaX,ndL,QbS,ZY fs M0 a,Zn fs M0 l]
end
mutual
def J7(fs:List By):∀(M0:List By)(a:An),foot (QbA fs M0 a)=foot a
 |M0,.mk k n s o b c l=>by
  unfold QbA;split
  ·cases l with
   |nil=>simp[QaX,foot]
   |cons x r=>simp only[QaX,foot,J7 fs M0 x,VS fs M0 r]
  ·split
   ·cases l with
    |nil=>simp[QaX,foot]
    |cons x r=>simp only[QaX,foot,J7 fs M0 x,VS fs M0 r]
   ·split
    ·match l with
     |[]=>rfl
     |[x]=>rfl
     |[x,y]=>simp only[foot,Qak,J7 fs M0 x,J7 fs (M0++[s]) y]
     |x::y::z::r=>rfl
    ·cases l with
     |nil=>simp[QaX,foot]
     |cons x r=>simp only[QaX,foot,J7 fs M0 x,VS fs M0 r]
def VS(fs:List By):∀(M0:List By)(l:List An),Qak (QaX fs M0 l)=Qak l
 |M0,[]=>by simp[QaX,Qak]
 |M0,a::l=>by simp only[QaX,Qak,J7 fs M0 a,VS fs M0 l]
end
def JeT(fs M0:List By):∀(l:List Nd)(a:Nd),(QbS fs M0 (l++[a])).2=(QbS fs M0 l).2++(QcQ fs M0 a).2
 |[],a=>by simp[QbS]
 |x::l,a=>by simp only[List.cons_append,QbS,JeT fs M0 l a,List.append_assoc]
def QcO(W:World)(vv:Value)(M0:List By)(g:Nat):Prop:=
 ∃ad cc,vv=.slice ad M0.length cc/\(M0.length<=cc/\(M0=[]->ad=none/\cc=0))/\(M0≠[]->ad=some ⟨g,0,none⟩/\∀i s,M0[i]?=some s->W.cell? ⟨g,i,none⟩=some (Sv s))
variable{M0:List By}
def QcO.chgC{vv:Value}{g:Nat}(h:QcO W vv M0 g)(hc:Qcj P W W')(hp:M0≠[]->∀j,¬P g j):QcO W' vv M0 g:=by
 obtain⟨ad,cc,h1,h2,h3⟩:=h;refine⟨ad,cc,h1,h2,λhne=>⟨(h3 hne).1,λi s hs=>?_⟩⟩;have:=(h3 hne).2 i s hs;exact(hc.cell g i (World.block_lt_of_cell? W ⟨g,i,none⟩ this) (hp hne i)).trans this
def JaK(s:By):∀(l:List By)(p:Int×Int),(l.foldl (λ(p:Int×Int) v=>(p.1+1,if v=s then p.1 else p.2)) p).1=p.1+l.length
 |[],p=>by simp
 |v::l,p=>by
  rw[List.foldl_cons,JaK s l];simp;omega
def ZZ(l:List By)(v s:By):QaY (l++[v]) s=if v=s then (l.length:Int) else QaY l s:=by
 unfold QaY;rw[List.foldl_append];simp only[List.foldl_cons,List.foldl_nil];rw[JaK];simp
def JaL(s:By):QaY [] s = -1:=rfl
def JdO{m:Nat}{v:By}(s:By)(h:M0[m]?=some v):QaY (M0.take (m+1)) s=if v=s then (m:Int) else QaY (M0.take m) s:=by
 have hlt:=(List.getElem?_eq_some_iff.1 h).1;rw[List.take_add_one,h];simp only[Option.toList_some];rw[ZZ,List.length_take,Nat.min_eq_left zo]
def Yr(s:By):∀(n:Nat)(l:List By),l.length=n->-1<=QaY l s/\QaY l s<n
 |0,l,h=>by
  obtain rfl:=List.eq_nil_of_length_eq_zero h;exact⟨by rw[JaL];omega,by rw[JaL];omega⟩
 |n+1,l,h=>by
  rcases List.eq_nil_or_concat l with rfl|⟨l',v,rfl⟩
  ·simp at h
  ·have hl:l'.length=n:=by simpa using h
   have:=Yr s n l' hl;rw[List.concat_eq_append,ZZ];split<;>omega
mutual
def WfN:Nd->Prop
 |.mk k n s o l=>(k=19->l.length=2)/\(k=15->l.length=2)/\(k=18->l.length=3)/\s.length<=1000000/\WfL l
def WfL:List Nd->Prop
 |[]=>True
 |a::l=>WfN a/\WfL l
end
def Qgt{P:Prop}(h:P:=by
  intro a ha
  rcases List.mem_cons.1 ha with rfl|ha
  ·exact h.1
  ·exact ih h.2 a ha):P:=h
def Jbx{l:List Nd}(h:WfL l):∀a∈l,WfN a:=by
 induction l with
 |nil=>intro a ha;cases ha
 |cons x r ih=>
  unfold WfL at h;exact Qgt
def Jcz{W:World}{b:Nat}:∀(l:List An)(i:Nat),(∀m z,l[m]?=some z->(∀j u,(Qaa z).toList[j]?=some u->W.cell? ⟨b,(i+m)*5+j,none⟩=some u)/\z.At W)->AtL W b i l
 |[],i,h=>by unfold AtL;trivial
 |a::l,i,h=>by
  unfold AtL;have h0:=h 0 a rfl;refine⟨h0.1,h0.2,Jcz l (i+1) λm z hz=>?_⟩;have:=h (m+1) z (by simpa using hz);rw[show i+1+m=i+(m+1) by omega];exact this
def YR:∀{l:List An}{i m:Nat}{y z:An}{q:Nat},(Qak l).Nodup->l[i]?=some y->l[m]?=some z->i≠m->q∈foot z->q∉foot y
 |[],i,m,y,z,q,_,hy,_,_,_=>by cases hy
 |a::l,0,0,y,z,q,_,_,_,hne,_=>absurd rfl hne
 |a::l,0,m+1,y,z,q,hn,hy,hz,_,hq=>by
  unfold Qak at hn;obtain rfl:a=y:=by simpa using hy
  have xA:q∈Qak l:=JC (mem_of_getElem? (by simpa using hz:l[m]?=some z)) q hq;intro h;exact(List.nodup_append.1 hn).2.2 q h q xA rfl
 |a::l,i+1,0,y,z,q,hn,hy,hz,_,hq=>by
  unfold Qak at hn;obtain rfl:a=z:=by simpa using hz
  intro h;have yA:q∈Qak l:=JC (mem_of_getElem? (by simpa using hy:l[i]?=some y)) q h;exact(List.nodup_append.1 hn).2.2 q hq q yA rfl
 |a::l,i+1,m+1,y,z,q,hn,hy,hz,hne,hq=>by
  unfold Qak at hn;exact YR (List.nodup_append.1 hn).2.1 (by simpa using hy:l[i]?=some y) (by simpa using hz:l[m]?=some z) zo hq
def Qej(q o rb:Nat)(F:List Nat)(b j:Nat):Prop:=(b=q/\o<=j/\j<o+5)\/b∈F\/b=rb
structure QbW(fs:List By)(rb:Nat)(t:TypeId)(mb mn:Nat)(W:World)(q o:Nat)(x:Option Int)(vv:Value)(vars:List By)(g:Nat)(a:An):Prop where
 node:Qcd W q o a
 nod:(foot a).Nodup
 qf:q∉foot a
 rf:rb∉foot a/\rb≠q
 gf:vars≠[]->g∉foot a/\g≠q/\g≠rb
 mf:mb∉foot a/\mb≠q/\mb≠rb
 flt:QaW W rb t x (.map (some mb))
 map:Qbh W mb mn λs=>Qal fs s
 vars:QcO W vv vars g
 wf:WfN a.nd
def Qdp(fs:List By)(rb:Nat)(t:TypeId)(mb:Nat)(w:World)(q o:Nat)(x:Option Int)(M0:List By)(a:An)(e:Ending)(w':World):Prop:=
 e=.returned (.tuple #[])/\Qcd w' q o (QbA fs M0 a)/\QaW w' rb t (QaG x (QcQ fs M0 a.nd).2) (.map (some mb))/\Qcj (Qej q o rb (foot a)) w w'
structure Qdl(fs:List By)(rb:Nat)(t:TypeId)(mb mn:Nat)(w W:World)(q o:Nat)(x1:Option Int)(vv:Value)(vars:List By)(g b:Nat)(l:List An)(pc:Array Value)(i:Nat):Prop where
 par:∀j u,pc.toList[j]?=some u->W.cell? ⟨q,o+j,none⟩=some u
 pfr:∀j,W.frozen? ⟨q,j,none⟩=false
 kids:AtL W b 0 ((l.take i).map (QbA fs vars)++l.drop i)
 kfr:l≠[]->∀j,W.frozen? ⟨b,j,none⟩=false
 flt:QaW W rb t (QaG x1 (QbS fs vars (ndL (l.take i))).2) (.map (some mb))
 map:Qbh W mb mn λs=>Qal fs s
 vars:QcO W vv vars g
 chg:Qcj (Qej q o rb (if l=[] then [] else b::Qak l)) w W
 lts:q<W.heap.size/\(l≠[]->b<W.heap.size)
structure QdT(q rb g mb b:Nat)(vars:List By)(l:List An):Prop where
 nod:(Qak l).Nodup/\(l≠[]->b∉Qak l)
 qa:q∉Qak l/\(l≠[]->q≠b)
 ra:rb∉Qak l/\(l≠[]->rb≠b)/\rb≠q
 ga:vars≠[]->g∉Qak l/\(l≠[]->g≠b)/\g≠q/\g≠rb
 ma:mb∉Qak l/\(l≠[]->mb≠b)/\mb≠q/\mb≠rb
def KQ(k n:Int)(s:By)(o:Int)(b c:Nat)(l:List An):foot (.mk k n s o b c l)=if l=[] then [] else b::Qak l:=by
 cases l with
 |nil=>simp[foot]
 |cons x r=>simp[foot,Qak]
def Zo{fs:List By}{mb mn:Nat}{q o:Nat}{vv:Value}{g:Nat}{n:Int}(h:QbW fs rb t mb mn W q o x vv M0 g (.mk k n s off b c l)):QdT q rb g mb b M0 l:=by
 have h1:=h.nod;have h2:=h.qf;have h3:=h.rf;have h4:=h.gf;have h5:=h.mf;rw[KQ]at h1 h2 h3 h4 h5
 by_cases e:l=[]
 ·subst e;exact⟨by simp[Qak],by simp[Qak],by simpa[Qak] using h3,λhv=>by simpa[Qak] using h4 hv,by simpa[Qak] using h5⟩
 ·rw[if_neg e]at h1 h2 h3 h4 h5;simp only[List.nodup_cons,List.mem_cons,not_or]at h1 h2 h3 h4 h5;exact⟨⟨h1.2,λ_=>h1.1⟩,⟨h2.2,λ_=>h2.1⟩,⟨h3.1.2,λ_=>h3.1.1,h3.2⟩,λhv=>⟨(h4 hv).1.2,λ_=>(h4 hv).1.1,(h4 hv).2⟩,⟨h5.1.2,λ_=>h5.1.1,h5.2⟩⟩
section
variable {fs:List By}{rb:Nat}{t:TypeId}{mb mn:Nat}{w W W':World}{q o:Nat}{x1:Option Int}{vv:Value}{M0:List By}{g b:Nat}{l:List An}{pc:Array Value}{i:Nat}
def Qdl.pre{y:An}(h:Qdl fs rb t mb mn w W q o x1 vv M0 g b l pc i)(hA:QdT q rb g mb b M0 l)(hy:l[i]?=some y)(hw:WfL (ndL l)):QbW fs rb t mb mn W b (i*5) (QaG x1 (QbS fs M0 (ndL (l.take i))).2) vv M0 g y:=by
 have xA:l≠[]:=by intro e;rw[e]at hy;cases hy
 have hlt:=(List.getElem?_eq_some_iff.1 hy).1;have hmem:=mem_of_getElem? hy;have E4:=λq hq=>JC hmem q hq
 have yA:((l.take i).map (QbA fs M0)++l.drop i)[i]?=some y:=by
  rw[List.getElem?_append_right zr];simp[Nat.min_eq_left (Nat.le_of_lt hlt),hy]
 obtain⟨k1,k2⟩:=JW h.kids yA;rw[Nat.zero_add]at k1;refine⟨⟨k1,h.kfr xA,k2⟩,?_,λhm=>hA.nod.2 xA (E4 _ hm),⟨λhm=>hA.ra.1 (E4 _ hm),hA.ra.2.1 xA⟩,λhv=>⟨λhm=>(hA.ga hv).1 (E4 _ hm),(hA.ga hv).2.1 xA,(hA.ga hv).2.2.2⟩,⟨λhm=>hA.ma.1 (E4 _ hm),hA.ma.2.1 xA,hA.ma.2.2.2⟩,h.flt,h.map,h.vars,Jbx hw _ (by rw[Kk];exact List.mem_map.2 ⟨y,hmem,rfl⟩)⟩;have zA:=hA.nod.1;clear h hA hw xA hlt E4 yA k1 k2
 induction l generalizing i with
 |nil=>cases hmem
 |cons a r ih=>
  unfold Qak at zA
  rcases List.mem_cons.1 hmem with rfl|hm
  ·exact(List.nodup_append.1 zA).1
  ·obtain⟨m,uA⟩:=List.getElem?_of_mem hm;exact ih uA hm (List.nodup_append.1 zA).2.1
def QhD{P:Prop}(h:P:=by
  rcases hj with⟨e,_⟩|hj|e
  ·exact .inr (.inl (by rw[e];simp))
  ·exact .inr (.inl (List.mem_cons_of_mem _ (E4 _ hj)))
  ·exact .inr (.inr e)):P:=h
def Qdl.step{y:An}{e:Ending}(h:Qdl fs rb t mb mn w W q o x1 vv M0 g b l pc i)(hA:QdT q rb g mb b M0 l)(hy:l[i]?=some y)(hr:Qdp fs rb t mb W b (i*5) (QaG x1 (QbS fs M0 (ndL (l.take i))).2) M0 y e W'):Qdl fs rb t mb mn w W' q o x1 vv M0 g b l pc (i+1):=by
 obtain⟨_,hn,hf,hc⟩:=hr;have xA:l≠[]:=by intro e;rw[e]at hy;cases hy
 have hlt:=(List.getElem?_eq_some_iff.1 hy).1;have hmem:=mem_of_getElem? hy;have E4:=λq hq=>JC hmem q hq
 have hq:∀j,¬Qej b (i*5) rb (foot y) q j:=λj hj=>by
  rcases hj with⟨e,_⟩|hj|e
  ·exact hA.qa.2 xA e
  ·exact hA.qa.1 (E4 _ hj)
  ·exact hA.ra.2.2 e.symm
 have zA:l.take (i+1)=l.take i++[y]:=by rw[List.take_add_one,hy];rfl
 have yA:∀m z,((l.take (i+1)).map (QbA fs M0)++l.drop (i+1))[m]?=some z->(m=i/\z=QbA fs M0 y)\/(m≠i/\((l.take i).map (QbA fs M0)++l.drop i)[m]?=some z/\∃z0,l[m]?=some z0/\foot z=foot z0):=by
  intro m z hz
  by_cases hm:m<i
  ·rw[List.getElem?_append_left zr,List.getElem?_map,List.getElem?_take_of_lt zo]at hz;obtain⟨z0,h0,rfl⟩:=Option.map_eq_some_iff.1 hz;refine .inr ⟨by omega,?_,z0,h0,J7 fs M0 z0⟩;rw[List.getElem?_append_left zr,List.getElem?_map,List.getElem?_take_of_lt hm,h0];rfl
  ·by_cases he:m=i
   ·subst he;rw[List.getElem?_append_left zr,List.getElem?_map,List.getElem?_take_of_lt zo,hy]at hz;exact .inl ⟨rfl,by simpa using hz.symm⟩
   ·rw[List.getElem?_append_right zr]at hz;simp only[List.length_map,List.length_take,Nat.min_eq_left (show i+1<=l.length by omega),List.getElem?_drop]at hz;rw[show i+1+(m-(i+1))=m by omega]at hz;refine .inr ⟨he,?_,z,hz,rfl⟩;rw[List.getElem?_append_right zr];simp only[List.length_map,List.length_take,Nat.min_eq_left (Nat.le_of_lt hlt),List.getElem?_drop];rw[show i+(m-i)=m by omega];exact hz
 have Q7:=h.lts.2 xA;refine⟨λj u hj=>?_,λj=>(hc.frz q j h.lts.1).trans (h.pfr j),?_,λ_ j=>(hc.frz b j Q7).trans (h.kfr xA j),?_,h.map.same (hc.block mb h.map.lt λj hj=>?_),h.vars.chgC hc λhv j hj=>?_,h.chg.step hc λc j hj=>.inl ?_,⟨Nat.lt_of_lt_of_le h.lts.1 hc.size,λ_=>Nat.lt_of_lt_of_le Q7 hc.size⟩⟩
 ·exact(hc.cell q (o+j) h.lts.1 (hq _)).trans (h.par j u hj)
 ·refine Jcz _ 0 λm z hz=>?_
  rw[Nat.zero_add]
  rcases yA m z hz with⟨rfl,rfl⟩|⟨H8,hz',z0,hz0,hfz⟩
  ·exact⟨hn.cells,hn.at'⟩
  ·obtain⟨k1,k2⟩:=JW h.kids hz';rw[Nat.zero_add]at k1;refine⟨λj u hj=>?_,YQ hc z k2 λc T1 j hj=>?_⟩
   ·have uA:j<5:=by have:=(List.getElem?_eq_some_iff.1 hj).1;rw[Array.length_toList,J3]at this;exact this
    refine(hc.cell b (m*5+j) Q7 λhp=>?_).trans (k1 j u hj)
    rcases hp with⟨_,h1,h2⟩|h1|h1
    ·rcases Nat.lt_or_gt_of_ne H8 with h3|h3
     ·have:(m+1)*5<=i*5:=Nat.mul_le_mul_right 5 h3;omega
     ·have:(i+1)*5<=m*5:=Nat.mul_le_mul_right 5 h3;omega
    ·exact hA.nod.2 xA (E4 _ h1)
    ·exact hA.ra.2.1 xA h1.symm
   ·rw[hfz]at T1;have hcl:c∈Qak l:=JC (mem_of_getElem? hz0) c T1
    rcases hj with⟨e,_⟩|hj|e
    ·subst e;exact hA.nod.2 xA hcl
    ·exact YR hA.nod.1 hy hz0 (Ne.symm H8) T1 hj
    ·subst e;exact hA.ra.1 hcl
 ·rw[zA,Vf,JeT,Jw];exact hf
 ·rcases hj with⟨e,_⟩|hj|e
  ·exact hA.ma.2.1 xA e
  ·exact hA.ma.1 (E4 _ hj)
  ·exact hA.ma.2.2.2 e
 ·rcases hj with⟨e,_⟩|hj|e
  ·exact(hA.ga hv).2.1 xA e
  ·exact(hA.ga hv).1 (E4 _ hj)
  ·exact(hA.ga hv).2.2.2 e
 ·rw[if_neg xA];exact QhD
def Qdl.done{n:Int}(h:Qdl fs rb t mb mn w W q o x1 vv M0 g b l pc l.length)(hp:pc=Qaa (.mk k n s off b c (QaX fs M0 l))):Qcd W q o (.mk k n s off b c (QaX fs M0 l))/\QaW W rb t (QaG x1 (QbS fs M0 (ndL l)).2) (.map (some mb))/\Qcj (Qej q o rb (if l=[] then [] else b::Qak l)) w W:=by
 refine⟨⟨by rw[<-hp];exact h.par,h.pfr,?_⟩,?_,h.chg⟩
 ·have:=h.kids;rw[List.take_length,List.drop_length,List.append_nil,<-Jcy]at this;unfold An.At;refine⟨λhne j=>h.kfr (λe=>hne (by rw[e];rfl)) j,this⟩
 ·have:=h.flt;rw[List.take_length]at this;exact this
def Qdl.start{n:Int}(hn:Qcd W q o (.mk k n s off b c l))(hp:pc=Qaa (.mk k n s off b c l))(hf:QaW W rb t x1 (.map (some mb)))(hm:Qbh W mb mn λs=>Qal fs s)(hv:QcO W vv M0 g)(hc:Qcj (Qej q o rb (if l=[] then [] else b::Qak l)) w W):Qdl fs rb t mb mn w W q o x1 vv M0 g b l pc 0:=by
 have hat:=hn.at';unfold An.At at hat;have hq:q<W.heap.size:=World.block_lt_of_cell? (a:=⟨q,o+0,none⟩) W (hn.cells 0 (Iv k) rfl);refine⟨by rw[hp];exact hn.cells,hn.frz,by simpa using hat.2,hat.1,by simpa[ndL,QbS,QaG] using hf,hm,hv,hc,hq,λhne=>?_⟩
 cases l with
 |nil=>exact absurd rfl hne
 |cons x r=>
  have h2:=hat.2;unfold AtL at h2;obtain⟨xA,xn,xc,T1⟩:=Jg x;exact World.block_lt_of_cell? (a:=⟨b,0*5+0,none⟩) W (h2.1 0 (Iv x.kind) (by rw[T1];rfl))
def Qcd.head{n:Int}(h:Qcd W q o (.mk k n s off b c l))(hq:q∉(if l=[] then [] else b::Qak l))(n':Int)(s':By)(hc:∀j u,(#[Iv k,Iv n',Sv s',Iv off,Qaz b c l]:Array Value).toList[j]?=some u->W'.cell? ⟨q,o+j,none⟩=some u)(hg:Qcj (λc j=>c=q) W W'):Qcd W' q o (.mk k n' s' off b c l):=by
 have xA:q<W.heap.size:=World.block_lt_of_cell? (a:=⟨q,o+0,none⟩) W (h.cells 0 (Iv k) rfl)
 have hat:(An.mk k n s off b c l).At W':=YQ hg _ h.at' λd hd j e=>by
  rw[KQ]at hd;rw[e]at hd;exact hq hd
 exact⟨hc,λj=>(hg.frz q j xA).trans (h.frz j),hat⟩
end
def Jby(fs M0:List By)(k n:Int)(s:By)(o:Int)(b c:Nat)(l:List An):QbA fs M0 (.mk k n s o b c l) =
  if k=2 then .mk k (QaY M0 s) [] o b c (QaX fs M0 l)
  else if k=20 then .mk k ((Qal fs s).getD 0:Nat) [] o b c (QaX fs M0 l)
  else if k=19 then
   match l with
   |[x,y]=>.mk k M0.length [] o b c [QbA fs M0 x,QbA fs (M0++[s]) y]
   |l=>.mk k n s o b c l
  else .mk k n s o b c (QaX fs M0 l):=by
 conv=>lhs;unfold QbA
 try rfl
structure HdI(fs:List By)(rb:Nat)(t:TypeId)(mb mn:Nat)(w W:World)(q o:Nat)(x1:Option Int)(vv:Value)(vars:List By)(g b c:Nat)(l:List An)(k off n':Int)(s':By):Prop where
 node:Qcd W q o (.mk k n' s' off b c l)
 flt:QaW W rb t x1 (.map (some mb))
 map:Qbh W mb mn λs=>Qal fs s
 vars:QcO W vv vars g
 chg:Qcj (Qej q o rb (if l=[] then [] else b::Qak l)) w W
section
variable {fs:List By}{rb:Nat}{t:TypeId}{mb mn:Nat}{w W W':World}{q o:Nat}{x1:Option Int}{vv:Value}{M0:List By}{g b c:Nat}{l:List An}{k off n':Int}{s':By}
def Qcd.lt{a:An}(h:Qcd W q o a):q<W.heap.size:=by
 obtain⟨xA,xn,xc,T1⟩:=Jg a;exact World.block_lt_of_cell? (a:=⟨q,o+0,none⟩) W (h.cells 0 (Iv a.kind) (by rw[T1];rfl))
section
variable (h:HdI fs rb t mb mn w W q o x1 vv M0 g b c l k off n' s')
include h
theorem HdI.over(hA:QdT q rb g mb b M0 l)(hc:Qcj P W W')(hp:∀d j,P d j->d=q/\o<=j/\j<o+5){n2:Int}{s2:By}(hcell:∀j u,(Qaa (.mk k n2 s2 off b c l)).toList[j]?=some u->W'.cell? ⟨q,o+j,none⟩=some u):HdI fs rb t mb mn w W' q o x1 vv M0 g b c l k off n2 s2:=by
 refine⟨h.node.head ?_ n2 s2 hcell (hc.mono λd j _ hj=>(hp d j hj).1),h.flt.chgC hc λj hj=>hA.ra.2.2 (hp _ _ hj).1,h.map.same (hc.block mb h.map.lt λj hj=>hA.ma.2.2.1 (hp _ _ hj).1),h.vars.chgC hc λhv j hj=>(hA.ga hv).2.2.1 (hp _ _ hj).1,h.chg.step hc λd j hj=>.inl (.inl (hp d j hj))⟩
 by_cases e:l=[]
 ·rw[if_pos e];simp
 ·rw[if_neg e];simp only[List.mem_cons,not_or];exact⟨hA.qa.2 e,hA.qa.1⟩
theorem HdI.setN(hA:QdT q rb g mb b M0 l)(u:Int):HdI fs rb t mb mn w (W.setCell ⟨q,o+1,none⟩ (Iv u)) q o x1 vv M0 g b c l k off u s':=by
 obtain⟨cs,ty,fr,hb⟩:=Yq (h.node.cells 0 (Iv k) rfl) trivial;refine h.over hA (P:=λd j=>d=q/\j=o+1) (Qcj.set hb ⟨rfl,rfl⟩ _) (λd j hj=>⟨hj.1,by omega⟩) λj v hj=>?_
 by_cases e:j=1
 ·subst e;rw[World.cell?_setCell_same W _ _ (h.node.cells 1 (Iv n') rfl)];simpa[Qaa] using hj
 ·rw[World.cell?_setCell_other _ _ _ _ (by intro e';injection e' with _ e2;omega)];refine h.node.cells j v ?_
  match j,e with
  |0,_=>exact hj
  |j+2,_=>exact hj
theorem HdI.setS(hA:QdT q rb g mb b M0 l)(u:By):HdI fs rb t mb mn w (W.setCell ⟨q,o+2,none⟩ (Sv u)) q o x1 vv M0 g b c l k off n' u:=by
 obtain⟨cs,ty,fr,hb⟩:=Yq (h.node.cells 0 (Iv k) rfl) trivial;refine h.over hA (P:=λd j=>d=q/\j=o+2) (Qcj.set hb ⟨rfl,rfl⟩ _) (λd j hj=>⟨hj.1,by omega⟩) λj v hj=>?_
 by_cases e:j=2
 ·subst e;rw[World.cell?_setCell_same W _ _ (h.node.cells 2 (Sv s') rfl)];simpa[Qaa] using hj
 ·rw[World.cell?_setCell_other _ _ _ _ (by intro e';injection e' with _ e2;omega)];refine h.node.cells j v ?_
  match j,e with
  |0,_=>exact hj
  |1,_=>exact hj
  |j+3,_=>exact hj
theorem HdI.below(hb:yr W W'):HdI fs rb t mb mn w W' q o x1 vv M0 g b c l k off n' s':=
 ⟨⟨λj u hj=>(hb.cell (World.block_lt_of_cell? _ _ (h.node.cells j u hj))).trans (h.node.cells j u hj),λj=>(World.frozen?_of_block (a:=⟨q,j,none⟩) (hb.block q h.node.lt)).trans (h.node.frz j),Jct h.node.at' hb⟩,(hb.block _ (Jb h.flt)).trans h.flt,h.map.same (hb.block mb h.map.lt),h.vars.chgC (Qcj.of_below (P:=λ_ _=>False) hb) λ_ _ hj=>hj,h.chg.trans (Qcj.of_below hb)⟩
end
def HdI.add{e:Ending}{y:Int}(h:HdI fs rb t mb mn w W q o x1 vv M0 g b c l k off n' s')(hA:QdT q rb g mb b M0 l)(ha:Qir W rb t (addF x1 y) (.map (some mb)) e W'):HdI fs rb t mb mn w W' q o (QaG x1 [y]) vv M0 g b c l k off n' s':=by
 obtain⟨_,hf,hc⟩:=ha;have xA:=JdN h.flt hf hc
 have hat:(An.mk k n' s' off b c l).At W':=YQ xA _ h.node.at' λd hd j hj=>by
  rw[KQ]at hd
  by_cases e:l=[]
  ·rw[if_pos e]at hd;cases hd
  ·rw[if_neg e]at hd;rw[hj.1]at hd
   rcases List.mem_cons.1 hd with h1|h1
   ·exact hA.ra.2.1 e h1
   ·exact hA.ra.1 h1
 exact⟨⟨λj u hj=>(xA.cell q (o+j) h.node.lt λhj=>hA.ra.2.2 hj.1.symm).trans (h.node.cells j u hj),λj=>(xA.frz q j h.node.lt).trans (h.node.frz j),hat⟩,hf,h.map.same (xA.block mb h.map.lt λj hj=>hA.ma.2.2.2 hj.1),h.vars.chgC xA λhv j hj=>(hA.ga hv).2.2.2 hj.1,h.chg.step xA λd j hj=>.inl (.inr (.inr hj.1))⟩
def HdI.kid(h:HdI fs rb t mb mn w W q o x1 vv M0 g b c l k off n' s'){pc:Array Value}(hp:pc=Qaa (.mk k n' s' off b c l)):Qdl fs rb t mb mn w W q o x1 vv M0 g b l pc 0:=Qdl.start h.node hp h.flt h.map h.vars h.chg
def QbW.hd{n:Int}(h:QbW fs rb t mb mn W q o x vv M0 g (.mk k n s off b c l)):HdI fs rb t mb mn W W q o x vv M0 g b c l k off n s:=⟨h.node,h.flt,h.map,h.vars,Qcj.refl _ _⟩
def Jhi:Qaz b c (QaX fs M0 l)=Qaz b c l:=by
 cases l with
 |nil=>simp[QaX]
 |cons x r=>simp[Qaz,Jcy]
end
def ux6{P:Prop}(h:P:=by
  clear HK;obtain⟨wl,rfl⟩:=zJ wr;obtain⟨i,hg,rfl,hI⟩:=hrel
  by_cases hi:i<l.length
  ·have hil:(i:Int)<(l.length:Int):=by omega
   obtain⟨y,hy⟩:∃y,l[i]?=some y:=⟨l[i],List.getElem?_eq_getElem hi⟩
   have hmem:=List.mem_of_getElem? hy;have X3:ad=some ⟨b,0,none⟩:=HAD.o (List.ne_nil_of_mem hmem);have cx:=IH y M0 _ g b (i*5) _ wl (Nat.le_trans (JM hmem) Q6.o) (by omega) (hI.o.pre HA.o hy A8.o);have c4:=hI.o.par 4 _ rfl;have wk:IntKind.i64.wrap ((i:Int)+1)=(i:Int)+1:=IntWalk.i64_in _ (by omega);have D2:=Zh (λe W' hr=>hI.o.step (e:=e) (W':=W') HA.o hy hr);have HG:=Zh hg;subst X3;clear hg hy hmem hI HAD IH;go_wp2_with fail;refine cx.mono ?_;intro e w2 hr;have hst:=D2.o _ _ hr;obtain rfl:=hr.1;have QF:=Zh hst;clear hst hr cx D2 c4;go_wp2;go_roundg (l.length-(i+1))
   case measure=>have:=HG.o;omega
   case rel=>exact⟨i+1,by omega,by go_num,QF⟩
  ·have hil:¬(i:Int)<(l.length:Int):=by omega
   obtain rfl:i=l.length:=by omega
   clear hi hg IH;go_wp2;go_end0;rw[HR.o];obtain⟨e1,e2',e3⟩:=hI.o.done (F5.o _ _).symm
   exact C0.o _ e1 e2' e3):P:=h
def QfN{P:Prop}(h:P:=by
  show #[_,_,_,_,Qaz b c (QaX fs M0 l)]=_
  rw[Jhi,S3]):P:=h
def Jhj(fs:List By)(rb:Nat)(t:TypeId)(mb mn:Nat)(I8:fs.length<=1000000000)(n:Nat)
  (IH:∀(y:An)(vars':List By)(vv':Value)(g' q' o':Nat)(x':Option Int)(W:World),siz y.nd<=n->n+vars'.length<=1000000000->QbW fs rb t mb mn W q' o' x' vv' vars' g' y->Calls prog 98 #[Pt rb,.pointer (some ⟨q',o',none⟩),vv'] W (Qdp fs rb t mb W q' o' x' vars' y))
  (a:An) (M0:List By) (vv:Value) (g q o:Nat) (x:Option Int) (w:World) (hn:siz a.nd<=n+1) (hb:n+1+M0.length<=1000000000) (hpre:QbW fs rb t mb mn w q o x vv M0 g a) (GC:a.kind≠2) (O8:a.kind≠20) (Q8:a.kind≠19):
  Calls prog 98 #[Pt rb,.pointer (some ⟨q,o,none⟩),vv] w (Qdp fs rb t mb w q o x M0 a):=by
 obtain⟨k,nn,s,off,b,c,l⟩:=a;simp only[An.kind]at GC O8 Q8;obtain⟨R,hR⟩:=yt (Qdp fs rb t mb w q o x M0 (.mk k nn s off b c l))
 rw[hR];have HR:Hi (R=Qdp fs rb t mb w q o x M0 (.mk k nn s off b c l)):=hR.symm;have hA:=Zo hpre;have hH:=hpre.hd;rw[ZV]at hn;have hwf:=hpre.wf;unfold An.nd WfN at hwf;obtain⟨M3,_,_,vA,zA⟩:=hwf;obtain⟨ad,cc,S3,uA⟩:=Jp b c l
 have xA:∀n' s',Qaa (.mk k n' s' off b c l)=(za k n' s' off ad l.length cc):=λn' s'=>by
  show #[_,_,_,_,Qaz b c l]=_
  rw[S3]
 have cA:∀n' s',Qaa (.mk k n' s' off b c (QaX fs M0 l))=(za k n' s' off ad l.length cc):=λn' s'=>by
  exact QfN
 obtain⟨va,vc,rfl,dA,aA⟩:=hpre.vars;have jA:=Zh aA;have HAD:=Zh uA;have N4:=Zh xA;have F5:=Zh cA;have A8:=Zh zA;have eA:=Zh vA;have HH:=Zh hH;have HA:=Zh hA;have Q6:Hi (Qbd (ndL l)<=n):=by rw[Hi];omega
 have gA:l.length<=n:=by have:=Jy l;omega
 have iA:Hi (k=19->l.length=2):=λe=>by have:=M3 e;rwa [Kk,List.length_map]at this
 have yA:rb≠q:=hA.ra.2.2;have D4:q≠rb:=Ne.symm yA;have bA:Hi (foot (.mk k nn s off b c l)=if l=[] then [] else b::Qak l):=KQ k nn s off b c l;have hc:=hH.node.cells;rw[xA]at hc;have d0:=hc 0 _ rfl;simp only[Nat.add_zero]at d0;clear hpre hR hA hH M3 vA zA S3 uA xA cA aA hc hn;have e2:(k==2)=false:=zM GC;have mA:(k==20)=false:=zM O8;have kA:(k==19)=false:=zM Q8
 have C0:Hi (∀W,Qcd W q o (.mk k nn s off b c (QaX fs M0 l))->QaW W rb t (QaG x (QbS fs M0 (ndL l)).2) (.map (some mb))->Qcj (Qej q o rb (if l=[] then [] else b::Qak l)) w W->Qdp fs rb t mb w q o x M0 (.mk k nn s off b c l) (.returned (.tuple #[])) W):=by
  intro W h1 h2 h3;have hr:QbA fs M0 (.mk k nn s off b c l)=.mk k nn s off b c (QaX fs M0 l):=by rw[Jby,if_neg GC,if_neg O8,if_neg Q8]
  refine⟨rfl,by rw[hr];exact h1,?_,by rw[bA.o];exact h3⟩;rw[An.nd,Vx,if_neg GC,if_neg O8,if_neg Q8];exact h2
 clear GC O8 Q8 eA iA jA bA dA;go_enter func98,ntmps98;have c1:True:=trivial;have HK:Hi (Qdl fs rb t mb mn w w q o (x) (.slice va M0.length vc) M0 g b l (za k nn s off ad l.length cc) 0):=HH.o.kid (N4.o _ _).symm;have c4:=HK.o.par 4 _ rfl;clear HH N4;go_wp2_with fail;clear c4;go_loopg [136] l.length λgg v136 wr=>∃i:Nat,gg+i=l.length/\v136=Iv i/\Hi (Qdl fs rb t mb mn w wr q o (x) (.slice va M0.length vc) M0 g b l (za k nn s off ad l.length cc) i)
 case atStart=>exact⟨0,rfl,rfl,HK⟩
 case round=>
 exact ux6
end Go.Proofs.YtfafpklefknomaaGreatDoor



