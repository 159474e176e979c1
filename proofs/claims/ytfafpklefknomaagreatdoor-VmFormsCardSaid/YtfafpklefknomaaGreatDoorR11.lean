import Derived.Test.YtfafpklefknomaaGreatDoorR10
open List(cons_append nil_append)
open Nat(le_refl)
namespace Go.Proofs.YtfafpklefknomaaGreatDoor
open Go.ChangeShapes Go.WideShapes Go.ChangeAt Go.RowKit Go.Lib
open _root_.Go.Proofs.Tryz
set_option linter.all false
set_option maxRecDepth 100000
set_option maxHeartbeats 32000000
theorem zx{P:Prop}(h:P:=by exact ⟨_,_,_,HST.o,by rw[List.map_append];exact HX4.o,by have:=eA.o;rw[List.length_append,List.length_singleton];omega⟩):P:=h
abbrev U3(nm:By)(of:Int)(pa:Option Addr)(pn pc:Nat)(ta:Option Addr)(tn tc:Nat)(res:Int)(b:An)(yA:Option Addr)(yn yc:Nat):List Value:=[Sv nm,Iv of,.slice pa pn pc,.slice ta tn tc,Iv res,Iv b.kind,Iv b.num,.string (bs b.name),Iv b.off,.slice yA yn yc]
abbrev U4(a:An)(yA:Option Addr)(yn yc:Nat)(ac:Int)(rs:By):List Value:=[Iv a.kind,Iv a.num,.string (bs a.name),Iv a.off,.slice yA yn yc,Iv ac,Sv rs]
structure ClA where
 cond:An
 action:Int
 reason:By
 lo:Nat
 hi:Nat
def ClA.src(c:ClA):ClS:=⟨c.cond.nd,c.action,c.reason⟩
def ClA.cells(c:ClA):List Value:=(Qaa c.cond).toList++[Iv c.action,.string (bs c.reason)]
structure ClA.Ok(W:World)(c:ClA):Prop where
 at':c.cond.At W
 made:Qce c.lo c.hi c.cond
 hle:c.lo<=c.hi/\c.hi<=W.heap.size
def ClA.Ok.chg{S:List Nat}{W W':World}{c:ClA}(h:c.Ok W)(hc:Chg S W W')(hs:∀b∈S,b<c.lo\/c.hi<=b):c.Ok W':=
 ⟨JK _ h.at' λb hb=>hc.block b (zv ((h.made.2 b hb).2) h.hle) λhm=>by have:=h.made.2 b hb;rcases hs b hm with h|h<;>omega,h.made,h.hle.1,Nat.le_trans h.hle.2 hc.size⟩
structure Qap where
 funcs:List FnA
 clauses:List ClA
 action:Int
 fv:Value
 cv:Value
def Qap.src(S:Qap):Src:=⟨S.funcs.map FnA.src,S.clauses.map ClA.src,S.action⟩
def Qap.ivs(S:Qap):List (Nat × Nat):=S.funcs.map (λf=>(f.lo,f.hi))++S.clauses.map λc=>(c.lo,c.hi)
structure QaH(W:World)(sb:Nat)(S:Qap):Prop where
 box:W.heap[sb]?=some (.cells #[S.fv,S.cv,Iv S.action] 141 (0,0))
 fown:W.ownsRow (sb+1) 147 10 S.fv S.funcs.length (S.funcs.flatMap FnA.cells)
 cown:W.ownsRow (sb+1) 151 7 S.cv S.clauses.length (S.clauses.flatMap ClA.cells)
 fok:∀f∈S.funcs,f.Ok W/\sb<f.lo/\f.lo<=f.hi
 cok:∀c∈S.clauses,c.Ok W/\sb<c.lo
 pair:S.ivs.Pairwise λa b=>a.2<=b.1
 fout:∀g,S.fv.ownBlock=some g->∀i∈S.ivs,g<i.1\/i.2<=g
 cout:∀g,S.cv.ownBlock=some g->∀i∈S.ivs,g<i.1\/i.2<=g
def QaH.ivs{W:World}{sb:Nat}{S:Qap}(h:QaH W sb S):∀i∈S.ivs,sb<i.1/\i.1<=i.2/\i.2<=W.heap.size:=by
 intro i hi
 rcases List.mem_append.1 hi with hi|hi
 ·obtain⟨f,hf,rfl⟩:=List.mem_map.1 hi;obtain⟨h1,h2,h3⟩:=h.fok f hf;exact⟨h2,h3,h1.hle⟩
 ·obtain⟨c,hc,rfl⟩:=List.mem_map.1 hi;obtain⟨h1,h2⟩:=h.cok c hc;exact⟨h2,h1.hle.1,h1.hle.2⟩
def QaH.on{Sx:List Nat}{W W':World}{sb:Nat}{S:Qap}(h:QaH W sb S)(hc:Chg Sx W W')(hs:∀b∈Sx,b<sb):QaH W' sb S:=
 ⟨hc.heap_some (λhm=>by have:=hs _ hm;omega) h.box,JA h.fown hc λb hb=>by have:=hs b hb;omega,JA h.cown hc λb hb=>by have:=hs b hb;omega,
  λf hf=>⟨(h.fok f hf).1.chg hc λb hb=>.inl (zv (hs b hb) ((h.fok f hf).2.1)),(h.fok f hf).2⟩,
  λc hc'=>⟨(h.cok c hc').1.chg hc λb hb=>.inl (zv (hs b hb) ((h.cok c hc').2)),(h.cok c hc').2⟩,h.pair,h.fout,h.cout⟩
def JP{w6 w7:World}{v:Value}{X:Obj}(hgr:(w6.alloc X).grownBy w7 v.ownBlock):Chg (v.ownBlock.toList) w6 w7:=
 ⟨hgr.os,hgr.tape,hgr.output,by have:=hgr.size;simp at this;omega,λq hq hn=>(hgr.block q zr λe=>hn (by rw[<- e];simp)).trans (heap_alloc_old _ _ hq)⟩
def Jco{l:List (Nat × Nat)}{x:Nat × Nat}(h:l.Pairwise λa b=>a.2<=b.1)(hx:∀i∈l,i.2<=x.1):(l++[x]).Pairwise λa b=>a.2<=b.1:=
 List.pairwise_append.2 ⟨h,by simp,λa ha b hb=>by obtain rfl:b=x:=(by simpa using hb);exact hx a ha⟩
theorem Qhr{P:Prop}(h:P:=by
  rcases List.mem_cons.1 hb with rfl|hb
  ·exact .inl (by omega)
  ·have:=(hbl b (by simpa using hb)).2
   exact .inl (by omega)):P:=h
def QaH.addF{W w6 w7:World}{sb:Nat}{fs:List FnA}{act:Int}{fv cv v':Value}{f:FnA}{X:Obj}(h:QaH W sb ⟨fs,[],act,fv,cv⟩)(h6:QaH w6 sb ⟨fs,[],act,fv,cv⟩)(hss:W.heap.size<=w6.heap.size)(hf:f.Ok w6)(hlo:W.heap.size<=f.lo)(hlh:f.lo<=f.hi)
  (hown:w7.ownsRow (sb+1) 147 10 v' (fs.length+1) (fs.flatMap FnA.cells++f.cells)) (hgr:(w6.alloc X).grownBy w7 fv.ownBlock) (hfr:v'.ownBlock=fv.ownBlock\/v'.ownBlock=some (w6.alloc X).heap.size) :
  QaH (w7.setCell ⟨sb,0,none⟩ v') sb ⟨fs++[f],[],act,v',cv⟩/\w7.heap[sb]?=some (.cells #[fv,cv,Iv act] 141 (0,0)):=by
 have hc7:=JP hgr;have hst:Chg [sb] w7 (w7.setCell ⟨sb,0,none⟩ v'):=(Chg.refl _ _).setCell (.inl (by simp:sb∈[sb])) (p:=⟨sb,0,none⟩) v';have hbl:∀g,fv.ownBlock=some g->sb+1<=g/\g<W.heap.size:=λg hg=>h.fown.lt g hg
 have hbx:w7.heap[sb]?=some (.cells #[fv,cv,Iv act] 141 (0,0)):=hc7.heap_some (λhm=>by
  have:=(hbl sb (by simpa using hm)).1
  omega) h6.box
 have zA:∀i∈(Qap.mk fs [] act fv cv).ivs,sb<i.1/\i.1<=i.2/\i.2<=W.heap.size:=h.ivs;have xA:(Qap.mk (fs++[f]) [] act v' cv).ivs=(Qap.mk fs [] act fv cv).ivs++[(f.lo,f.hi)]:=by simp[Qap.ivs]
 have vA:=hf.hle;have yA:Chg (sb::fv.ownBlock.toList) w6 (w7.setCell ⟨sb,0,none⟩ v'):=(hc7.mono λk hk=>.inl (by simp;exact .inr (by simpa using hk))).trans (hst.mono λk hk=>.inl (by simp at hk;simp[hk]));refine⟨⟨Jm hbx 0 v',?_,?_,?_,by simp,?_,?_,?_⟩,hbx⟩
 ·have:=JA hown hst zq;simpa using this
 ·exact JA (Zk h6.cown hgr (VP h6.cown h6.fown zp)) hst zq
 ·intro x hx
  rcases List.mem_append.1 hx with hx|hx
  ·obtain⟨g1,g2,g3⟩:=h6.fok x hx;refine⟨g1.chg yA λb hb=>?_,g2,g3⟩
   rcases List.mem_cons.1 hb with rfl|hb
   ·exact .inl g2
   ·exact h.fout b (by simpa using hb) (x.lo,x.hi) (List.mem_append_left _ (List.mem_map.2 ⟨x,hx,rfl⟩))
  ·obtain rfl:x=f:=by simpa using hx
   have:=Jb h.box;refine⟨hf.chg yA λb hb=>?_,by show sb<x.lo;omega,hlh⟩;exact Qhr
 ·rw[xA];exact Jco h.pair λi hi=>by have:=(zA i hi).2.2;show i.2<=f.lo;omega
 ·intro g hg i hi;rw[xA]at hi
  rcases hfr with e|e
  ·have uA:=e.symm.trans hg
   rcases List.mem_append.1 hi with hi|hi
   ·exact h.fout g uA i hi
   ·obtain rfl:i=(f.lo,f.hi):=by simpa using hi
    have:=(hbl g uA).2;exact .inl (by show g<f.lo;omega)
  ·rw[hg]at e;simp at e
   rcases List.mem_append.1 hi with hi|hi
   ·have:=(zA i hi).2.2;exact .inr zo
   ·obtain rfl:i=(f.lo,f.hi):=by simpa using hi
    exact .inr (by show f.hi<=g;omega)
 ·intro g hg i hi;rw[xA]at hi
  rcases List.mem_append.1 hi with hi|hi
  ·exact h.cout g hg i hi
  ·obtain rfl:i=(f.lo,f.hi):=by simpa using hi
   have:=(h.cown.lt g hg).2;exact .inl (by show g<f.lo;omega)
def QaH.addC{W w6 w7:World}{sb:Nat}{fs:List FnA}{cs:List ClA}{act:Int}{fv cv v':Value}{c:ClA}{X:Obj}(h:QaH W sb ⟨fs,cs,act,fv,cv⟩)(h6:QaH w6 sb ⟨fs,cs,act,fv,cv⟩)(hss:W.heap.size<=w6.heap.size)(hf:c.Ok w6)(hlo:W.heap.size<=c.lo)
  (hown:w7.ownsRow (sb+1) 151 7 v' (cs.length+1) (cs.flatMap ClA.cells++c.cells)) (hgr:(w6.alloc X).grownBy w7 cv.ownBlock) (hfr:v'.ownBlock=cv.ownBlock\/v'.ownBlock=some (w6.alloc X).heap.size) :
  QaH (w7.setCell ⟨sb,1,none⟩ v') sb ⟨fs,cs++[c],act,fv,v'⟩/\w7.heap[sb]?=some (.cells #[fv,cv,Iv act] 141 (0,0)):=by
 have hc7:=JP hgr;have hst:Chg [sb] w7 (w7.setCell ⟨sb,1,none⟩ v'):=(Chg.refl _ _).setCell (.inl (by simp:sb∈[sb])) (p:=⟨sb,1,none⟩) v';have hbl:∀g,cv.ownBlock=some g->sb+1<=g/\g<W.heap.size:=λg hg=>h.cown.lt g hg
 have hbx:w7.heap[sb]?=some (.cells #[fv,cv,Iv act] 141 (0,0)):=hc7.heap_some (λhm=>by
  have:=(hbl sb (by simpa using hm)).1
  omega) h6.box
 have zA:∀i∈(Qap.mk fs cs act fv cv).ivs,sb<i.1/\i.1<=i.2/\i.2<=W.heap.size:=h.ivs;have yA:(Qap.mk fs (cs++[c]) act fv v').ivs=(Qap.mk fs cs act fv cv).ivs++[(c.lo,c.hi)]:=by simp[Qap.ivs]
 have vA:=hf.hle;have xA:Chg (sb::cv.ownBlock.toList) w6 (w7.setCell ⟨sb,1,none⟩ v'):=(hc7.mono λk hk=>.inl (by simp;exact .inr (by simpa using hk))).trans (hst.mono λk hk=>.inl (by simp at hk;simp[hk]));refine⟨⟨Jm hbx 1 v',?_,?_,?_,?_,?_,?_,?_⟩,hbx⟩
 ·exact JA (Zk h6.fown hgr (VP h6.fown h6.cown zp)) hst zq
 ·have:=JA hown hst zq;simpa using this
 ·intro x hx;obtain⟨g1,g2,g3⟩:=h6.fok x hx;refine⟨g1.chg xA λb hb=>?_,g2,g3⟩
  rcases List.mem_cons.1 hb with rfl|hb
  ·exact .inl g2
  ·exact h.cout b (by simpa using hb) (x.lo,x.hi) (List.mem_append_left _ (List.mem_map.2 ⟨x,hx,rfl⟩))
 ·intro x hx
  rcases List.mem_append.1 hx with hx|hx
  ·obtain⟨g1,g2⟩:=h6.cok x hx;refine⟨g1.chg xA λb hb=>?_,g2⟩
   rcases List.mem_cons.1 hb with rfl|hb
   ·exact .inl g2
   ·exact h.cout b (by simpa using hb) (x.lo,x.hi) (List.mem_append_right _ (List.mem_map.2 ⟨x,hx,rfl⟩))
  ·obtain rfl:x=c:=by simpa using hx
   have:=Jb h.box;refine⟨hf.chg xA λb hb=>?_,by show sb<x.lo;omega⟩;exact Qhr
 ·rw[yA];exact Jco h.pair λi hi=>by have:=(zA i hi).2.2;show i.2<=c.lo;omega
 ·intro g hg i hi;rw[yA]at hi
  rcases List.mem_append.1 hi with hi|hi
  ·exact h.fout g hg i hi
  ·obtain rfl:i=(c.lo,c.hi):=by simpa using hi
   have:=(h.fown.lt g hg).2;exact .inl (by show g<c.lo;omega)
 ·intro g hg i hi;rw[yA]at hi
  rcases hfr with e|e
  ·have uA:=e.symm.trans hg
   rcases List.mem_append.1 hi with hi|hi
   ·exact h.cout g uA i hi
   ·obtain rfl:i=(c.lo,c.hi):=by simpa using hi
    have:=(hbl g uA).2;exact .inl (by show g<c.lo;omega)
  ·rw[hg]at e;simp at e
   rcases List.mem_append.1 hi with hi|hi
   ·have:=(zA i hi).2.2;exact .inr zo
   ·obtain rfl:i=(c.lo,c.hi):=by simpa using hi
    exact .inr (by show c.hi<=g;omega)
def QaH.setA{W:World}{sb:Nat}{S:Qap}(h:QaH W sb S)(a:Int):QaH (W.setCell ⟨sb,2,none⟩ (Iv a)) sb { S with action:=a }:=by
 have hst:Chg [sb] W (W.setCell ⟨sb,2,none⟩ (Iv a)):=(Chg.refl _ _).setCell (.inl (by simp:sb∈[sb])) (p:=⟨sb,2,none⟩) _;exact⟨Jm h.box 2 _,JA h.fown hst zq,JA h.cown hst zq,λf hf=>⟨(h.fok f hf).1.chg hst λb hb=>.inl (by have:=(h.fok f hf).2.1;simp at hb;omega),(h.fok f hf).2⟩,λc hc=>⟨(h.cok c hc).1.chg hst λb hb=>.inl (by have:=(h.cok c hc).2;simp at hb;omega),(h.cok c hc).2⟩,h.pair,h.fout,h.cout⟩
def QaH.up{L:List Nat}{W0 W W':World}{sb:Nat}{S:Qap}(h0:QaH W0 sb S)(h:QaH W sb S)(hc:Chg L W W')(hL:∀b∈L,W0.heap.size<=b):QaH W' sb S:=by
 have xA:=h0.ivs
 have hk:∀{e size n:Nat} {v:Value} {xs:List Value},W0.ownsRow (sb+1) e size v n xs->W.ownsRow (sb+1) e size v n xs->W'.ownsRow (sb+1) e size v n xs:=by
  intro e size n v xs h1 h2;refine⟨h2.1,h2.2.imp id ?_⟩;rintro⟨g,cap,cur,rfl,r2,r3,r4⟩;have:=(h1.lt g rfl).2;exact⟨g,cap,cur,rfl,r2,hc.heap_some (λhm=>by have:=hL g hm;omega) r3,r4⟩
 have hb:=Jb h0.box
 exact⟨hc.heap_some (λhm=>by have:=hL sb hm;omega) h.box,hk h0.fown h.fown,hk h0.cown h.cown,
  λf hf=>⟨(h.fok f hf).1.chg hc λb hb=>.inr (zv (hL b hb) ((h0.fok f hf).1.hle)),(h.fok f hf).2⟩,
  λc hc'=>⟨(h.cok c hc').1.chg hc λb hb=>.inr (zv (hL b hb) ((h0.cok c hc').1.hle.2)),(h.cok c hc').2⟩,h.pair,h.fout,h.cout⟩
def PAt.over{p sb:Nat}{A:Option Addr}{C:Nat}{T:List Tok}{k:Nat}{w W W':World}(h:PAt W p A C T k)(hT:∀b o,A=some ⟨b,o,none⟩->b<w.heap.size)(hp:p<w.heap.size)(hw:w.heap.size<=sb)(hk:∀q,q<sb->W'.heap[q]?=W.heap[q]?):PAt W' p A C T k:=by
 obtain⟨tb,ot,hA,xA,yA⟩:=h.toks;have zA:=hT _ _ hA;exact⟨(hk p zo).trans h.self,⟨tb,ot,hA,xA,λi t hi j u hu=>(World.cell?_of_block (hk tb zo)).trans (yA i t hi j u hu)⟩,h.lt,h.fin,h.room⟩
structure SrB(p:Nat)(A:Option Addr)(C:Nat)(T:List Tok)(w W:World)(k:Nat)(S:Qap):Prop where
 pat:PAt W p A C T k
 ok:QaH W w.heap.size S
 chg:Chg [p] w W
def SrB.on{p:Nat}{A:Option Addr}{C:Nat}{T:List Tok}{w W W':World}{k k':Nat}{S:Qap}(h:SrB p A C T w W k S)(hp:p<w.heap.size)(hP:PAt W' p A C T k')(hc:Chg [p] W W'):SrB p A C T w W' k' S:=
 ⟨hP,h.ok.on hc (by simp;exact hp),h.chg.trans hc⟩
def SrB.over{p:Nat}{A:Option Addr}{C:Nat}{T:List Tok}{w W W':World}{k:Nat}{S S':Qap}{L:List Nat}(h:SrB p A C T w W k S)(hp:p<w.heap.size)(hT:∀b o,A=some ⟨b,o,none⟩->b<w.heap.size)(ho:QaH W' w.heap.size S')(hc:Chg L W W')(hL:∀b∈L,w.heap.size<=b):SrB p A C T w W' k S':=
 ⟨h.pat.over hT hp zP λq hq=>hc.block q (zu (Jb h.ok.box)) λhm=>by have:=hL q hm;omega,ho,h.chg.step hc λb hb=>.inr (hL b hb)⟩
def Jcp{w6 w7:World}{v u:Value}{X:Obj}{sb j:Nat}(hgr:(w6.alloc X).grownBy w7 v.ownBlock):Chg (sb::v.ownBlock.toList) w6 (w7.setCell ⟨sb,j,none⟩ u):=
 ((JP hgr).mono λk hk=>.inl (List.mem_cons_of_mem _ hk)).trans (((Chg.refl [sb] w7).setCell (.inl zq) (p:=⟨sb,j,none⟩) u).mono λk hk=>.inl (by simp at hk;simp[hk]))
def SrB.addF{p:Nat}{A:Option Addr}{C:Nat}{T:List Tok}{w W w6 w7:World}{k k6:Nat}{fs:List FnA}{act:Int}{fv cv v':Value}{f:FnA}{X:Obj}(h:SrB p A C T w W k ⟨fs,[],act,fv,cv⟩)(hp:p<w.heap.size)(hT:∀b o,A=some ⟨b,o,none⟩->b<w.heap.size)(hc6:Chg [p] W w6)(hP:PAt w6 p A C T k6)(hf:f.Ok w6)(hlo:W.heap.size<=f.lo)(hlh:f.lo<=f.hi)
  (hown:w7.ownsRow (w.heap.size+1) 147 10 v' (fs.length+1) (fs.flatMap FnA.cells++f.cells)) (hgr:(w6.alloc X).grownBy w7 fv.ownBlock) (hfr:v'.ownBlock=fv.ownBlock\/v'.ownBlock=some (w6.alloc X).heap.size) :
  SrB p A C T w (w7.setCell ⟨w.heap.size,0,none⟩ v') k6 ⟨fs++[f],[],act,v',cv⟩/\w7.heap[w.heap.size]?=some (.cells #[fv,cv,Iv act] 141 (0,0)):=by
 have h6:=h.on hp hP hc6;obtain⟨g1,g2⟩:=h.ok.addF h6.ok hc6.size hf hlo hlh hown hgr hfr
 exact⟨h6.over hp hT g1 (Jcp hgr) (λb hb=>by
  rcases List.mem_cons.1 hb with rfl|hb
  ·exact le_refl _
  ·have:=(h.ok.fown.lt b (by simpa using hb)).1
   omega),g2⟩
structure ClR(p:Nat)(A:Option Addr)(C:Nat)(T:List Tok)(w W0 W:World)(k:Nat)(S:Qap)(cb lo hi:Nat)(a:An)(act:Int)(rs:By):Prop where
 srb:SrB p A C T w W k S
 ok0:QaH W0 w.heap.size S
 c0:W0.heap.size<=lo/\lo<=hi/\hi<=cb
 at':a.At W
 made:Qce lo hi a
 box:W.heap[cb]?=some (.cells (ClA.mk a act rs lo hi).cells.toArray 151 (0,0))
section
variable {p:Nat} {A:Option Addr} {C:Nat} {T:List Tok} {w W0 W W':World} {k k':Nat} {S:Qap} {cb lo hi:Nat} {a:An} {act:Int} {rs:By}
def ClR.make{w6:World}{k6:Nat}(h:SrB p A C T w W0 k S)(hp:p<w.heap.size)(hat:a.At w6)(hmd:Qce W0.heap.size w6.heap.size a)(hP:PAt w6 p A C T k6)(hc:Chg [p] W0 w6):ClR p A C T w W0 (w6.alloc (.cells (ClA.mk a 0 [] 0 0).cells.toArray 151)) k6 S w6.heap.size W0.heap.size w6.heap.size a 0 []:=by
 have hb:Below w6.heap.size w6 (w6.alloc (.cells (ClA.mk a 0 [] 0 0).cells.toArray 151)):=zO.alloc zP _;exact⟨(h.on hp hP hc).on hp (hP.chg hb) (Chg.of_below hb [p]),h.ok,⟨le_refl _,hc.size,le_refl _⟩,K1 hat hmd hb zP,hmd,zQ _ _⟩
def ClR.on(h:ClR p A C T w W0 W k S cb lo hi a act rs)(hp:p<w.heap.size)(hP:PAt W' p A C T k')(hc:Chg [p] W W'):ClR p A C T w W0 W' k' S cb lo hi a act rs:=by
 have hw:=Jb h.ok0.box;obtain⟨c1,c2,c3⟩:=h.c0;have hlt:=Jb h.box;exact⟨h.srb.on hp hP hc,h.ok0,h.c0,JK _ h.at' λb hb=>by have:=h.made.2 b hb;exact hc.block b zo zr,h.made,hc.heap_some zr h.box⟩
def ClR.set{act':Int}{rs':By}{j:Nat}{u:Value}(h:ClR p A C T w W0 W k S cb lo hi a act rs)(hp:p<w.heap.size)(hT:∀b o,A=some ⟨b,o,none⟩->b<w.heap.size)
  (hb:(W.setCell ⟨cb,j,none⟩ u).heap[cb]?=some (.cells (ClA.mk a act' rs' lo hi).cells.toArray 151 (0,0))):ClR p A C T w W0 (W.setCell ⟨cb,j,none⟩ u) k S cb lo hi a act' rs':=by
 have hw:=Jb h.ok0.box;obtain⟨c1,c2,c3⟩:=h.c0;have hst:Chg [cb] W (W.setCell ⟨cb,j,none⟩ u):=(Chg.refl _ _).setCell (.inl (by simp:cb∈[cb])) (p:=⟨cb,j,none⟩) u;have hlt:=Jb h.box;exact⟨h.srb.over hp hT (h.ok0.up h.srb.ok hst λb hb=>by simp at hb;omega) hst λb hb=>by simp at hb;omega,h.ok0,h.c0,JK _ h.at' λb hb=>by have:=h.made.2 b hb;exact hst.block b zo zr,h.made,hb⟩
def ClR.setAct(h:ClR p A C T w W0 W k S cb lo hi a 0 [])(hp:p<w.heap.size)(hT:∀b o,A=some ⟨b,o,none⟩->b<w.heap.size)(n:Int):ClR p A C T w W0 (W.setCell ⟨cb,5,none⟩ (Iv n)) k S cb lo hi a n []:=
 h.set hp hT (by
  obtain⟨xA,xn,xc,hcf⟩:=Jg a;have:=Jm h.box 5 (Iv n);simp only[ClA.cells,hcf]at this |-
  exact this)
def ClR.setRs{n:Int}(h:ClR p A C T w W0 W k S cb lo hi a n [])(hp:p<w.heap.size)(hT:∀b o,A=some ⟨b,o,none⟩->b<w.heap.size)(rs:By):ClR p A C T w W0 (W.setCell ⟨cb,6,none⟩ (Sv rs)) k S cb lo hi a n rs:=
 h.set hp hT (by
  obtain⟨xA,xn,xc,hcf⟩:=Jg a;have:=Jm h.box 6 (Sv rs);simp only[ClA.cells,hcf]at this |-
  exact this)
def ClR.kept{fs:List FnA}{cs:List ClA}{sa:Int}{fv cv:Value}{w7:World}{X:Obj}(h:ClR p A C T w W0 W k ⟨fs,cs,sa,fv,cv⟩ cb lo hi a act rs)(hgr:(W.alloc X).grownBy w7 cv.ownBlock):w7.heap[cb]?=W.heap[cb]?:=by
 have hlt:=Jb h.box;obtain⟨c1,c2,c3⟩:=h.c0;exact(hgr.block cb zr λe=>by have:=(h.ok0.cown.lt cb e.symm).2;omega).trans (heap_alloc_old _ _ hlt)
def ZL{W:World}{b t:Nat}{a0 a1 a2 a3 a4 a5 a6:Value}{fr:Nat × Nat}(h:W.heap[b]?=some (.cells #[a0,a1,a2,a3,a4,a5,a6] t fr)) :
  W.cell? ⟨b,0,none⟩=some a0/\W.cell? ⟨b,1,none⟩=some a1/\W.cell? ⟨b,2,none⟩=some a2/\W.cell? ⟨b,3,none⟩=some a3/\W.cell? ⟨b,4,none⟩=some a4/\W.cell? ⟨b,5,none⟩=some a5/\W.cell? ⟨b,6,none⟩=some a6:=by
 refine⟨?_,?_,?_,?_,?_,?_,?_⟩<;>(rw[Ja h];rfl)
def ClR.addC{fs:List FnA}{cs:List ClA}{sa:Int}{fv cv v':Value}{w7:World}{X:Obj}(h:ClR p A C T w W0 W k ⟨fs,cs,sa,fv,cv⟩ cb lo hi a act rs)(hp:p<w.heap.size)(hT:∀b o,A=some ⟨b,o,none⟩->b<w.heap.size)
  (hown:w7.ownsRow (w.heap.size+1) 151 7 v' (cs.length+1) (cs.flatMap ClA.cells++(ClA.mk a act rs lo hi).cells)) (hgr:(W.alloc X).grownBy w7 cv.ownBlock) (hfr:v'.ownBlock=cv.ownBlock\/v'.ownBlock=some (W.alloc X).heap.size) :
  SrB p A C T w (w7.setCell ⟨w.heap.size,1,none⟩ v') k ⟨fs,cs++[⟨a,act,rs,lo,hi⟩],sa,fv,v'⟩/\w7.heap[w.heap.size]?=some (.cells #[fv,cv,Iv sa] 141 (0,0)):=by
 have hw:=Jb h.ok0.box;obtain⟨c1,c2,c3⟩:=h.c0;have hlt:=Jb h.box;obtain⟨g1,g2⟩:=h.ok0.addC (c:=⟨a,act,rs,lo,hi⟩) h.srb.ok zo ⟨h.at',h.made,c2,by show hi<=_;omega⟩ c1 hown hgr hfr
 exact⟨h.srb.over hp hT g1 (Jcp hgr) (λb hb=>by
  rcases List.mem_cons.1 hb with rfl|hb
  ·exact le_refl _
  ·have:=(h.ok0.cown.lt b (by simpa using hb)).1
   omega),g2⟩
end
def SrP(p:Nat)(A:Option Addr)(C:Nat)(T:List Tok)(w:World)(x:PR Src)(e:Ending)(w':World):Prop:=
 match x with
 |.out=>True
 |.bad o=>QgN p w o e w'
 |.ok s r=>∃S:Qap,S.src=s/\e=.returned (Pt w.heap.size)/\QaH w' w.heap.size S/\Chg [p] w w'
def SrB.bad{α:Type}{p:Nat}{A:Option Addr}{C:Nat}{T:List Tok}{w W W':World}{k:Nat}{S:Qap}{x:PR α}{g:α->List Tok->PR Src}{X:PR Src}{R:Ending->World->Prop}{q:Int}(h:SrB p A C T w W k S)(hR:R=SrP p A C T w X)(hX:x.bind g=X)(hx:x=.bad q)(hc:Chg [p] W W'):R (.panicked [{ v:=Qeo q,recovered:=false }]) W':=by
 subst hx hX hR;exact⟨rfl,h.chg.trans hc⟩
def QgE:(prog.info? 147).map (λi=>(i.zero,i.size,i.bytes))=some (some (.agg #[Em,Iv 0,Nl,Nl,Iv 0,Iv 0,Iv 0,Em,Iv 0,Nl]),10,144):=zk
def QgF:(prog.info? 151).map (λi=>(i.zero,i.size,i.bytes))=some (some (.agg #[Iv 0,Iv 0,Em,Iv 0,Nl,Iv 0,Em]),7,88):=zk
def QiD(fs:List FnS)(cs:List ClS)(r2:List Tok):PR Src:=(Qar 0 Qdd r2).bind λ_ r3=>(Qdg r3).bind λa r4=>if (hd r4).kind=4 then .ok ⟨fs,cs,a⟩ r4 else .bad (hd r4).off
def QiE(f:Nat)(fs:List FnS)(r1:List Tok):PR Src:=(QaP f f [] r1).bind (QiD fs)
def JlT(f:Nat)(r:List Tok):QdU f r=(QcF f f [] r).bind (QiE f):=rfl
def JjC(g f:Nat)(l:List FnS)(r:List Tok):QcF g (f+1) l r=match acc 0 Qig r with|some r1=>(Qeg g r1).bind (λx r2=>QcF g f (l++[x]) r2)|none=>.ok l r:=by rw[QcF];rfl
def JdK(g f:Nat)(l:List ClS)(r:List Tok):QaP g (f+1) l r=match acc 0 Qfr r with|some r1=>(pM g .expr r1).bind λc r2=>(Qar 0 Qen r2).bind λ_ r3=>(Qdg r3).bind λa r4=>(Qct r4).bind λs r5=>QaP g f (l++[⟨c,a,s⟩]) r5|none=>.ok l r:=by rw[QaP];rfl
def JfS(r:List Tok):(∃t r',Qdg r=.ok t r')\/Qdg r=.bad (hd r).off:=by
 unfold Qdg;split
 ·exact .inl ⟨_,_,rfl⟩
 ·split
  ·exact .inl ⟨_,_,rfl⟩
  ·split
   ·exact .inl ⟨_,_,rfl⟩
   ·split
    ·exact .inl ⟨_,_,rfl⟩
    ·exact .inr rfl
def JgZ(r:List Tok):Qdg r≠.out:=by
 rcases JfS r with⟨_,_,h⟩|h<;>rw[h]<;>exact λh=>by cases h
def JjD(r:List Tok):Qct r≠.out:=by
 rcases ZI r with⟨_,_,h⟩|h<;>rw[h]<;>exact λh=>by cases h
def JjE(f p:Nat)(A:Option Addr)(C:Nat)(T:List Tok)(hf:f<=100000000)(hx:∀t∈T,t.text.length<=1000000)
  (k:Nat) (w:World) (h:PAt w p A C T k) (hne:QdU f (T.drop k)≠.out) :
  Calls prog 34 #[Pt p] w (SrP p A C T w (QdU f (T.drop k))):=by
 have I1:=JjB p A C T hx f hf;have I2:=Jcn f p A C T hf hx I1;obtain⟨X,hX⟩:∃X,QdU f (T.drop k)=X:=⟨_,rfl⟩
 have kA:=hX;rw[JlT]at kA;rw[hX]at hne |-;obtain⟨R,hR⟩:∃R,SrP p A C T w X=R:=⟨_,rfl⟩
 rw[hR];have HR:Hi (R=SrP p A C T w X):=hR.symm;have HNE:=Zh hne;have HPL:=Zh h.chg1;have HTL:=Zh h.tokLt;have qA:Below w.heap.size w (w.alloc (.cells #[Nl,Nl,Iv 0] 141)):=zO.alloc zP _
 have cA:Hi (∃k2 fv fs,SrB p A C T w (w.alloc (.cells #[Nl,Nl,Iv 0] 141)) k2 ⟨fs,[],0,fv,Nl⟩/\((QcF f f (fs.map FnA.src) (T.drop k2)).bind (QiE f))=X/\f+fs.length<=f):=
  ⟨k,_,[],⟨h.chg qA,⟨zQ _ _,World.ownsRow_nil _ _ _ _,World.ownsRow_nil _ _ _ _,by simp,by simp,by simp[Qap.ivs],by simp[Qap.ivs],by simp[Qap.ivs]⟩,Chg.of_below qA [p]⟩,kA,le_refl _⟩
 have hpz:p≠w.heap.size:=by have:=HPL.o;omega
 have aB:w.heap.size≠p:=by have:=HPL.o;omega
 clear h hne hR qA kA hX;go_enter func34,ntmps34;go_wp2_with fail;generalize World.alloc w _=wa at *;go_loopg [] f λg wr=>Hi (∃k2 fv fs,SrB p A C T w wr k2 ⟨fs,[],0,fv,Nl⟩/\((QcF f g (fs.map FnA.src) (T.drop k2)).bind (QiE f))=X/\g+fs.length<=f)
 case atStart=>exact cA
 case round=>
 clear cA;obtain⟨wl,rfl⟩:=zJ wr;obtain⟨k2,fv,fs,hI,zA,gA⟩:=hrel.o
 cases gk with
 |zero=>exact absurd zA.symm HNE.o
 |succ g2=>
 rw[JjC]at zA;have HI:=Zh hI;have HX1:=Zh zA;have eA:Hi (g2+1+fs.length<=f):=gA;have dA:fs.length<=100000000:=zo;clear hI zA gA hrel;go_wp2_with fail;refine(Jt p A C T k2 0 Qig wl HI.o.pat zp).mono ?_;intro e w3 h3
 rcases h3 with⟨g1,g2',rfl,hp3,hc3⟩|⟨g1,rfl,hb3⟩
 ·have xA:=HX1.o;rw[JN g1 g2']at xA;dsimp only at xA;replace HX1:=Zh (Vg xA);replace HI:=Zh (HI.o.on HPL.o hp3 hc3);clear g1 g2' hp3 hc3 xA;obtain⟨va,vn,vc,zB⟩:=Jk HI.o.ok.fown;dsimp only at zB;subst zB;have hne3:Qeg f (T.drop (k2+1))≠.out:=JO HX1.o HNE.o;have hD:Below w3.heap.size w3 w3.drew:=(Below.refl w3.heap.size w3).drew;replace HI:=Zh (HI.o.on HPL.o (HI.o.pat.chg hD) (Chg.of_below hD [p]));clear hD;go_upto_region 3 with fail;have hcl:=Ja HI.o.ok.box 0;simp only[zW]at hcl;refine LB (λW=>W.cell? ⟨w.heap.size,0,none⟩=some (.slice va vn vc)) 11 (by simp[*,World.cell?_alloc_some]) λhH=>?_
  refine LK 0 rfl ?_;refine LK 1 rfl ?_;refine LK 2 rfl ?_;refine LK 3 rfl ?_;refine LK 4 rfl ?_;refine LK 5 rfl ?_;refine LO 6 rfl λK hK=>?_
  go_simp;go_at_call 87;refine(I2 (k2+1) _ HI.o.pat hne3).mono ?_;intro e w6 h6
  cases hx4:Qeg f (T.drop (k2+1)) with
  |out=>exact absurd hx4 hne3
  |bad q=>
   rw[hx4]at h6;obtain⟨rfl,hc6⟩:=h6;exact⟨rfl,HI.o.bad HR.o HX1.o hx4 hc6⟩
  |ok fn r=>
  rw[hx4]at h6;obtain⟨F,hF,rfl,hA,hlo,sA,⟨k4,hr,hp4⟩,hc6⟩:=h6;subst hF hr;obtain⟨nm,of,ps,ts,res,b,pv,tv,cB,bB⟩:=F;obtain⟨pa,pn,pc,uB⟩:=Jk hA.pown;obtain⟨ta,tn,tc,yB⟩:=Jk hA.town;dsimp only at uB yB hlo sA;subst uB yB;obtain⟨yA,yn,yc,hcg⟩:=Jg b;have bA:(FnA.mk nm of ps ts res b (.slice pa pn pc) (.slice ta tn tc) cB bB).cells=(U3 nm of pa pn pc ta tn tc res b yA yn yc):=by simp only[FnA.cells,hcg,cons_append,nil_append]
  have HX4:=Zh (Jx HX1.o hx4);have iA:=Zh (HI.o.on HPL.o hp4 hc6);have HAD:=Zh (show _/\_/\_/\_/\_ from⟨hc6,hp4,hA,hlo,sA⟩);have jA:=Zh bA;have HOW:=Zh (iA.o.ok.fown.alloc (.cells ((U3 nm of pa pn pc ta tn tc res b yA yn yc)).toArray 147));have HRW:=Zh (zQ w6 (.cells ((U3 nm of pa pn pc ta tn tc res b yA yn yc)).toArray 147));have hlo6:w.heap.size+1<=(w6.alloc (.cells ((U3 nm of pa pn pc ta tn tc res b yA yn yc)).toArray 147)).heap.size:=by have:=Jb iA.o.ok.box;rw[World.size_alloc];omega
  replace hcl:=Ja iA.o.ok.box 0;simp only[zW]at hcl;rw[bA];clear hx4 hA hlo sA hp4 hc6 hcg bA iA hne3;refine zU hK (hcl) λhH=>?_
  clear hK K;refine LO 7 rfl λK hK=>?_
  go_simp;refine zU hK (by simp[*,World.cell?_alloc_some]) λhH=>?_
  clear hK K;refine LO 8 rfl λK hK=>?_
  (refine Jq (w6.alloc (.cells ((U3 nm of pa pn pc ta tn tc res b yA yn yc)).toArray 147)) zt (.tmp 13) (.tmp 16) 138 147 _ 10 144 zt underlying138 QgE rfl zp (w.heap.size+1) (.slice va vn vc) fs.length (fs.flatMap FnA.cells) (U3 nm of pa pn pc ta tn tc res b yA yn yc) zt HOW.o w6.heap.size zt HRW.o rfl (by intro u hu;simp at hu;rcases hu with rfl|rfl|rfl|rfl|rfl|rfl|rfl|rfl|rfl|rfl<;>rfl) dA zp hlo6 ?_;intro v7 w7 hown7 hgr7 hfr7)
  obtain⟨a7,m7,c7,rfl⟩:=Jk hown7;rw[<- jA.o]at hown7;obtain⟨hst,hbx⟩:=HI.o.addF HPL.o HTL.o HAD.o.1 HAD.o.2.1 HAD.o.2.2.1 HAD.o.2.2.2.1 HAD.o.2.2.2.2 hown7 hgr7 hfr7;have HST:=Zh hst;replace hcl:=Ja hbx 0;simp only[zW]at hcl;have f4:=Jc hbx 0;have hl7:=Jb hbx;clear hown7 hgr7 hfr7 hst hbx HOW HRW hlo6 HAD jA;refine zU hK (hcl) λhH=>?_
  clear hK K;refine LO 9 rfl λK hK=>?_
  go_simp;refine zU hK hH λhH=>?_
  clear hK K;refine LK 10 rfl ?_;refine LZ 11 rfl λK hK=>?_
  go_simp;clear hcl f4 hl7;refine hK.out _ _ ?_;clear hK K;go_wp2;go_roundg g2
  case measure=>exact Nat.lt_succ_self _
  case rel=>exact zx
 ·have xA:=HX1.o;rw[Kf g1]at xA;dsimp only at xA;rw[JgY]at xA;rw[QiE]at xA;replace HI:=Zh (HI.o.on HPL.o (HI.o.pat.chg hb3) (Chg.of_below hb3 [p]));have cA:Hi (∃k2 cv cs,SrB p A C T w w3 k2 ⟨fs,cs,0,fv,cv⟩/\((QaP f f (cs.map ClA.src) (T.drop k2)).bind (QiD (fs.map FnA.src)))=X/\f+cs.length<=f):=⟨k2,_,[],HI.o,xA,le_refl _⟩
  clear g1 hb3 xA HX1 HI eA dA I2;go_wp2_with fail;go_loopg [] f λg wr=>Hi (∃k2 cv cs,SrB p A C T w wr k2 ⟨fs,cs,0,fv,cv⟩/\((QaP f g (cs.map ClA.src) (T.drop k2)).bind (QiD (fs.map FnA.src)))=X/\g+cs.length<=f)
  case atStart=>exact cA
  case round=>
  clear cA;obtain⟨wm,rfl⟩:=zJ wr;obtain⟨k5,cv,cs,hI,zA,gA⟩:=hrel.o
  cases gk with
  |zero=>exact absurd zA.symm HNE.o
  |succ g3=>
  rw[JdK]at zA;have HI:=Zh hI;have HX1:=Zh zA;have eA:Hi (g3+1+cs.length<=f):=gA;have dA:cs.length<=100000000:=zo;clear hI zA gA hrel;go_wp2_with fail;refine(Jt p A C T k5 0 Qfr wm HI.o.pat zp).mono ?_;intro e w4 h3
  rcases h3 with⟨g1,g2',rfl,hp3,hc3⟩|⟨g1,rfl,hb3⟩
  ·have xA:=HX1.o;rw[JN g1 g2']at xA;dsimp only at xA;replace HX1:=Zh (Vg xA);replace HI:=Zh (HI.o.on HPL.o hp3 hc3);clear g1 g2' hp3 hc3 xA;obtain⟨va,vn,vc,vB⟩:=Jk HI.o.ok.cown;dsimp only at vB;subst vB;have aA:pM f .expr (T.drop (k5+1))≠.out:=JO HX1.o HNE.o;go_wp2_with fail;refine NdP.call (I1 (k5+1) _ HI.o.pat aA) aA (λq _ hx hc=>by exact⟨rfl,HI.o.bad HR.o HX1.o hx hc⟩) λa w6 k6 yA yn yc hx hcf B=>?_
   have pA:=ClR.make HI.o HPL.o B.1 B.2.1 B.2.2.1 B.2.2.2;replace HX1:=Zh (Vg (Jx HX1.o hx));have xB:(ClA.mk a 0 [] 0 0).cells.toArray=#[Iv a.kind,Iv a.num,.string (bs a.name),Iv a.off,.slice yA yn yc,Iv 0,Em]:=by simp only[ClA.cells,hcf,cons_append,nil_append];rfl
   rw[xB]at pA;have HCR:=Zh pA;have HCF:=Zh hcf;clear hx hcf B xB pA HI aA;go_wp2_with fail;generalize World.alloc w6 _=w6' at *;generalize w6.heap.size=cb at *;have HLO:Hi (w.heap.size<w4.heap.size):=Jb HCR.o.ok0.box;generalize w4.heap.size=lo at *;have tA:cb≠w.heap.size:=by have:=HCR.o.c0;have:=HLO.o;omega
   have gB:w.heap.size≠cb:=Ne.symm tA;refine PRp.call (Qfn p A C T k6 Qen _ HCR.o.srb.pat) (J6 _ _ _) (λq _ hx hc=>by exact⟨rfl,HCR.o.srb.bad HR.o HX1.o hx hc⟩) λ_ w7 k7 hx hp hc=>?_
   replace HX1:=Zh (Vg (Jx HX1.o hx));replace HCR:=Zh (HCR.o.on HPL.o hp hc);clear hx hp hc;go_wp2_with fail;refine PRp.call (JeF p A C T k7 _ HCR.o.srb.pat) (JgZ _) (λq _ hx hc=>by exact⟨rfl,HCR.o.srb.bad HR.o HX1.o hx hc⟩) λac w8 k8 hx hp hc=>?_
   replace HX1:=Zh (Vg (Jx HX1.o hx));replace HCR:=Zh (HCR.o.on HPL.o hp hc);clear hx hp hc;have hbx:=HCR.o.box;simp only[ClA.cells,HCF.o,cons_append,nil_append]at hbx;have b5:=Ja hbx 5;have f5:=Jc hbx 5;have hl5:=Jb hbx;simp only[zW]at b5;replace HCR:=Zh (HCR.o.setAct HPL.o HTL.o ac);clear hbx;go_wp2_with fail;clear b5 f5 hl5;generalize World.setCell w8 _ _=w8' at *;refine PRp.call (Jcb p A C T k8 _ HCR.o.srb.pat) (JjD _) (λq _ hx hc=>by exact⟨rfl,HCR.o.srb.bad HR.o HX1.o hx hc⟩) λrs w9 k9 hx hp hc=>?_
   replace HX1:=Zh (Jx HX1.o hx);replace HCR:=Zh (HCR.o.on HPL.o hp hc);clear hx hp hc;have HX4:=HX1;clear HX1;have hbx:=HCR.o.box;simp only[ClA.cells,HCF.o,cons_append,nil_append]at hbx;have b5:=Ja hbx 6;have f5:=Jc hbx 6;have hl5:=Jb hbx;simp only[zW]at b5;replace HCR:=Zh (HCR.o.setRs HPL.o HTL.o rs);clear hbx;go_upto_region 9 with fail;clear b5 f5 hl5;generalize World.setCell w9 _ _=w9' at *;have hD:Below w9'.heap.size w9' w9'.drew:=(Below.refl w9'.heap.size w9').drew;replace HCR:=Zh (HCR.o.on HPL.o (HCR.o.srb.pat.chg hD) (Chg.of_below hD [p]));clear hD;have hcb:=HCR.o.box;simp only[ClA.cells,HCF.o,cons_append,nil_append]at hcb;have HCB:=Zh hcb;have bA:∀l h,(ClA.mk a ac rs l h).cells=(U4 a yA yn yc ac rs):=λl h=>by simp only[ClA.cells,HCF.o,cons_append,nil_append]
   have jA:=Zh bA;have HOW:Hi ((w9'.drew.alloc (.cells ((U4 a yA yn yc ac rs)).toArray 151)).ownsRow (w.heap.size+1) 151 7 (.slice va vn vc) cs.length (cs.flatMap ClA.cells)):=HCR.o.srb.ok.cown.alloc _;have HRW:Hi ((w9'.drew.alloc (.cells ((U4 a yA yn yc ac rs)).toArray 151)).heap[w9'.heap.size]?=some (.cells ((U4 a yA yn yc ac rs)).toArray 151 (0,0))):=zQ w9'.drew _;have hlo6:w.heap.size+1<=(w9'.drew.alloc (.cells ((U4 a yA yn yc ac rs)).toArray 151)).heap.size:=by have:=Jb HCR.o.srb.ok.box;rw[World.size_alloc];omega
   clear hcb bA;have hws:w9'.heap.size=w9'.drew.heap.size:=rfl;rw[hws]at HRW;clear hws;have hcl:=Ja HCR.o.srb.ok.box 1;simp only[zW]at hcl;have hc7:=ZL HCB.o;generalize rA:w9'.drew=nA at *;refine LB (λW=>W.cell? ⟨w.heap.size,1,none⟩=some (.slice va vn vc)/\W.cell? ⟨cb,0,none⟩=some (Iv a.kind)/\W.cell? ⟨cb,1,none⟩=some (Iv a.num)/\W.cell? ⟨cb,2,none⟩=some (.string (bs a.name))/\W.cell? ⟨cb,3,none⟩=some (Iv a.off)/\W.cell? ⟨cb,4,none⟩=some (.slice yA yn yc)/\W.cell? ⟨cb,5,none⟩=some (Iv ac)/\W.cell? ⟨cb,6,none⟩=some (Sv rs)) 10 (by rw[rA];exact⟨hcl,hc7⟩) λhH=>?_
   refine LK 0 rfl ?_;refine LK 1 rfl ?_;refine LK 2 rfl ?_;refine LK 3 rfl ?_;refine LK 4 rfl ?_;refine LK 5 rfl ?_;refine LO 6 rfl λK hK=>?_
   go_simp;refine zU hK (by simp[*,World.cell?_alloc_some]) λhH=>?_
   clear hK K;refine LO 7 rfl λK hK=>?_
   (refine Jq (nA.alloc (.cells ((U4 a yA yn yc ac rs)).toArray 151)) zt (.tmp 37) (.tmp 39) 139 151 _ 7 88 zt underlying139 QgF rfl zp (w.heap.size+1) (.slice va vn vc) cs.length (cs.flatMap ClA.cells) (U4 a yA yn yc ac rs) zt HOW.o nA.heap.size zt HRW.o rfl (by intro u hu;simp at hu;rcases hu with rfl|rfl|rfl|rfl|rfl|rfl|rfl<;>rfl) dA zp hlo6 ?_;intro v7 w7 hown7 hgr7 hfr7)
   obtain⟨a7,m7,c7,rfl⟩:=Jk hown7;rw[<- jA.o lo cb]at hown7;obtain⟨hst,hbx⟩:=HCR.o.addC HPL.o HTL.o hown7 hgr7 hfr7;have HST:=Zh hst;have eB:=ZL ((HCR.o.kept hgr7).trans HCB.o);replace hcl:=Ja hbx 1;simp only[zW]at hcl;have f4:=Jc hbx 1;have hl7:=Jb hbx;clear hown7 hgr7 hfr7 hst hbx HOW HRW hlo6;refine zU hK (⟨hcl,eB⟩) λhH=>?_
   clear hK K;refine LO 8 rfl λK hK=>?_
   go_simp;refine zU hK hH λhH=>?_
   clear hK K;refine LK 9 rfl ?_;refine LZ 10 rfl λK hK=>?_
   go_simp;clear hcl f4 hl7;refine hK.out _ _ ?_;clear hK K;go_wp2;go_roundg g3
   case measure=>exact Nat.lt_succ_self _
   case rel=>exact zx
  ·have xA:=HX1.o;rw[Kf g1]at xA;dsimp only at xA;rw[JgY,QiD]at xA;replace HX1:=Zh xA;replace HI:=Zh (HI.o.on HPL.o (HI.o.pat.chg hb3) (Chg.of_below hb3 [p]));clear g1 hb3 xA eA dA I1;go_wp2_with fail;refine PRp.call (Qfn p A C T k5 Qdd _ HI.o.pat) (J6 _ _ _) (λq _ hx hc=>by exact⟨rfl,HI.o.bad HR.o HX1.o hx hc⟩) λ_ w7 k7 hx hp hc=>?_
   replace HX1:=Zh (Jx HX1.o hx);replace HI:=Zh (HI.o.on HPL.o hp hc);clear hx hp hc;go_wp2_with fail;refine PRp.call (JeF p A C T k7 _ HI.o.pat) (JgZ _) (λq _ hx hc=>by exact⟨rfl,HI.o.bad HR.o HX1.o hx hc⟩) λac w8 k8 hx hp hc=>?_
   replace HX1:=Zh (Jx HX1.o hx);replace HI:=Zh (HI.o.on HPL.o hp hc);clear hx hp hc;have hbx:=HI.o.ok.box;have b2:=Ja hbx 2;have f2:=Jc hbx 2;have hl5:=Jb hbx;simp only[zW]at b2;have HS:=Zh (HI.o.ok.setA ac);have uA:Hi (SrB p A C T w (w8.setCell ⟨w.heap.size,2,none⟩ (Iv ac)) k8 ⟨fs,cs,ac,fv,cv⟩):=HI.o.over HPL.o HTL.o HS.o ((Chg.refl [w.heap.size] w8).setCell (.inl zq) (p:=⟨w.heap.size,2,none⟩) _) zq;clear hbx HI HS;go_wp2_with fail;clear b2 f2 hl5;generalize World.setCell w8 _ _=w9 at *;have cp:=Kp p A C T k8 w9 uA.o.pat;have cw:=KO p A C T k8;unfold Qfh at cp;obtain⟨t,ht⟩:∃t,hd (T.drop k8)=t:=⟨_,rfl⟩
   have dB:=Zh ht;rw[ht]at cp cw;obtain⟨tk,tx,tn,tf⟩:=t;unfold Qda at cp;simp only at cp cw;clear ht;refine cp.mono ?_;rintro e nA ⟨rfl,vA⟩;replace uA:=Zh (uA.o.on HPL.o (uA.o.pat.chg vA) (Chg.of_below vA [p]));have xA:=HX1.o;rw[dB.o]at xA;clear cp vA HX1;have hfl:∀(W:World),(Instr.field 134 (.agg #[Iv tk,Sv tx,Iv tn,Iv tf]) 0).run prog W=.ok (Iv tk) W:=λW=>by kernel_rfl
   by_cases hk4:tk=4
   ·have d1:(tk !=4)=false:=by rw[hk4];rfl
    rw[if_pos hk4]at xA;have HX2:=Zh xA;clear hk4 xA cw;go_wp2;rw[HR.o,<- HX2.o];exact⟨⟨fs,cs,ac,fv,cv⟩,rfl,rfl,uA.o.ok,uA.o.chg⟩
   ·have d1:(tk !=4)=true:=bne_iff_ne.2 hk4;rw[if_neg hk4]at xA;have HX2:=Zh xA;clear hk4 xA;go_wp2_with fail;refine(cw _ uA.o.pat).mono ?_;rintro e hB ⟨rfl,mA⟩;go_wp2;refine⟨rfl,?_⟩;rw[HR.o,<- HX2.o];exact⟨rfl,uA.o.chg.trans (Chg.of_below mA [p])⟩
end Go.Proofs.YtfafpklefknomaaGreatDoor
