import Derived.Maps.Own
import Derived.Maps.OwnSet
import Derived.Maps.Views
import Derived.Maps.Keyed
import Derived.StringKeys
import Derived.Test.YtncanmdgdflnpaaGreatDoorR02
open List(cons_append getElem?_map map_nil mem_of_getElem? nil_append sum_nil)
open Nat(le_refl le_trans lt_of_lt_of_le zero_add)
namespace Go.Proofs.YtncanmdgdflnpaaGreatDoor
open Go.ChangeShapes Go.WideShapes Go.ChangeAt Go.RowKit Go.Lib
open _root_.Go.Proofs.Tryz
set_option linter.all false
set_option maxRecDepth 100000
set_option maxHeartbeats 32000000
abbrev U3(nm:By)(of:Int)(pa:Option Addr)(pn pc:Nat)(ta:Option Addr)(tn tc:Nat)(res:Int)(b:An)(yA:Option Addr)(yn yc:Nat):List Value:=[Sv nm,Iv of,.slice pa pn pc,.slice ta tn tc,Iv res,Iv b.kind,Iv b.num,.string (bs b.name),Iv b.off,.slice yA yn yc]
abbrev U4(a:An)(yA:Option Addr)(yn yc:Nat)(ac:Int)(rs:By):List Value:=[Iv a.kind,Iv a.num,.string (bs a.name),Iv a.off,.slice yA yn yc,Iv ac,Sv rs]
structure ClA where
 cond:An
 action:Int
 reason:By
 lo:Nat
 hi:Nat
def ClA.src(c:ClA):ClS:=⟨c.cond.nd,c.action,c.reason⟩
def ClA.cells(c:ClA):List Value:=(Qaa c.cond).toList++[Iv c.action,.string (bs c.reason)]
structure ClA.Ok(W:World)(c:ClA):Prop where
 at':c.cond.At W
 made:Qcs c.lo c.hi c.cond
 hle:c.lo<=c.hi/\c.hi<=W.heap.size
def ClA.Ok.chg{S:List Nat}{W W':World}{c:ClA}(h:c.Ok W)(hc:Chg S W W')(hs:∀b∈S,b<c.lo\/c.hi<=b):c.Ok W':=
 ⟨JE _ h.at' λb hb=>hc.block b (zu ((h.made.2 b hb).2) h.hle) λhm=>by have:=h.made.2 b hb;rcases hs b hm with h|h<;>omega,h.made,h.hle.1,Nat.le_trans h.hle.2 hc.size⟩
structure Qak where
 funcs:List FnA
 clauses:List ClA
 action:Int
 fv:Value
 cv:Value
def Qak.src(S:Qak):Src:=⟨S.funcs.map FnA.src,S.clauses.map ClA.src,S.action⟩
def Qak.ivs(S:Qak):List (Nat×Nat):=S.funcs.map (λf=>(f.lo,f.hi))++S.clauses.map λc=>(c.lo,c.hi)
structure QaH(W:World)(sb:Nat)(S:Qak):Prop where
 box:W.heap[sb]?=some (.cells #[S.fv,S.cv,Iv S.action] 112 (0,0))
 fown:W.ownsRow (sb+1) 121 10 S.fv S.funcs.length (S.funcs.flatMap FnA.cells)
 cown:W.ownsRow (sb+1) 125 7 S.cv S.clauses.length (S.clauses.flatMap ClA.cells)
 fok:∀f∈S.funcs,f.Ok W/\sb<f.lo/\f.lo<=f.hi
 cok:∀c∈S.clauses,c.Ok W/\sb<c.lo
 pair:S.ivs.Pairwise λa b=>a.2<=b.1
 fout:∀g,S.fv.ownBlock=some g->∀i∈S.ivs,g<i.1\/i.2<=g
 cout:∀g,S.cv.ownBlock=some g->∀i∈S.ivs,g<i.1\/i.2<=g
def QaH.ivs{W:World}{sb:Nat}{S:Qak}(h:QaH W sb S):∀i∈S.ivs,sb<i.1/\i.1<=i.2/\i.2<=W.heap.size:=by
 intro i hi
 rcases List.mem_append.1 hi with hi|hi
 ·obtain⟨f,hf,rfl⟩:=List.mem_map.1 hi;obtain⟨h1,h2,h3⟩:=h.fok f hf;exact⟨h2,h3,h1.hle⟩
 ·obtain⟨c,hc,rfl⟩:=List.mem_map.1 hi;obtain⟨h1,h2⟩:=h.cok c hc;exact⟨h2,h1.hle.1,h1.hle.2⟩
def QaH.on{Sx:List Nat}{W W':World}{sb:Nat}{S:Qak}(h:QaH W sb S)(hc:Chg Sx W W')(hs:∀b∈Sx,b<sb):QaH W' sb S:=
 ⟨hc.heap_some (λhm=>by have:=hs _ hm;omega) h.box,Jx h.fown hc λb hb=>by have:=hs b hb;omega,Jx h.cown hc λb hb=>by have:=hs b hb;omega,
  λf hf=>⟨(h.fok f hf).1.chg hc λb hb=>.inl (zu (hs b hb) ((h.fok f hf).2.1)),(h.fok f hf).2⟩,
  λc hc'=>⟨(h.cok c hc').1.chg hc λb hb=>.inl (zu (hs b hb) ((h.cok c hc').2)),(h.cok c hc').2⟩,h.pair,h.fout,h.cout⟩
def JK{w6 w7:World}{v:Value}{X:Obj}(hgr:(w6.alloc X).grownBy w7 v.ownBlock):Chg (v.ownBlock.toList) w6 w7:=
 ⟨hgr.os,hgr.tape,hgr.output,by have:=hgr.size;simp at this;omega,λq hq hn=>(hgr.block q zq λe=>hn (by rw[<-e];simp)).trans (heap_alloc_old _ _ hq)⟩
def JaH{l:List (Nat×Nat)}{x:Nat×Nat}(h:l.Pairwise λa b=>a.2<=b.1)(hx:∀i∈l,i.2<=x.1):(l++[x]).Pairwise λa b=>a.2<=b.1:=
 List.pairwise_append.2 ⟨h,by simp,λa ha b hb=>by obtain rfl:b=x:=(by simpa using hb);exact hx a ha⟩
def Qlj{P:Prop}(h:P:=by
  rcases List.mem_cons.1 hb with rfl|hb
  ·exact .inl (by omega)
  ·have:=(B5 b (by simpa using hb)).2
   exact .inl (by omega)):P:=h
def QaH.addF{W w6 w7:World}{sb:Nat}{fs:List FnA}{act:Int}{fv cv v':Value}{f:FnA}{X:Obj}(h:QaH W sb ⟨fs,[],act,fv,cv⟩)(h6:QaH w6 sb ⟨fs,[],act,fv,cv⟩)(hss:W.heap.size<=w6.heap.size)(hf:f.Ok w6)(hlo:W.heap.size<=f.lo)(oC:f.lo<=f.hi)
  (hown:w7.ownsRow (sb+1) 121 10 v' (fs.length+1) (fs.flatMap FnA.cells++f.cells)) (hgr:(w6.alloc X).grownBy w7 fv.ownBlock) (T2:v'.ownBlock=fv.ownBlock\/v'.ownBlock=some (w6.alloc X).heap.size):
  QaH (w7.setCell ⟨sb,0,none⟩ v') sb ⟨fs++[f],[],act,v',cv⟩/\w7.heap[sb]?=some (.cells #[fv,cv,Iv act] 112 (0,0)):=by
 have O3:=JK hgr;have hst:Chg [sb] w7 (w7.setCell ⟨sb,0,none⟩ v'):=(Chg.refl _ _).setCell (.inl (by simp:sb∈[sb])) (p:=⟨sb,0,none⟩) v';have B5:∀g,fv.ownBlock=some g->sb+1<=g/\g<W.heap.size:=λg hg=>h.fown.lt g hg
 have U0:w7.heap[sb]?=some (.cells #[fv,cv,Iv act] 112 (0,0)):=O3.heap_some (λhm=>by
  have:=(B5 sb (by simpa using hm)).1
  omega) h6.box
 have zA:∀i∈(Qak.mk fs [] act fv cv).ivs,sb<i.1/\i.1<=i.2/\i.2<=W.heap.size:=h.ivs;have xA:(Qak.mk (fs++[f]) [] act v' cv).ivs=(Qak.mk fs [] act fv cv).ivs++[(f.lo,f.hi)]:=by simp[Qak.ivs]
 have vA:=hf.hle;have yA:Chg (sb::fv.ownBlock.toList) w6 (w7.setCell ⟨sb,0,none⟩ v'):=(O3.mono λk hk=>.inl (by simp;exact .inr (by simpa using hk))).trans (hst.mono λk hk=>.inl (by simp at hk;simp[hk]));refine⟨⟨JC U0 0 v',?_,?_,?_,by simp,?_,?_,?_⟩,U0⟩
 ·have:=Jx hown hst zp;simpa using this
 ·exact Jx (Yg h6.cown hgr (Ve h6.cown h6.fown zd)) hst zp
 ·intro x hx
  rcases List.mem_append.1 hx with hx|hx
  ·obtain⟨g1,g2,g3⟩:=h6.fok x hx;refine⟨g1.chg yA λb hb=>?_,g2,g3⟩
   rcases List.mem_cons.1 hb with rfl|hb
   ·exact .inl g2
   ·exact h.fout b (by simpa using hb) (x.lo,x.hi) (List.mem_append_left _ (List.mem_map.2 ⟨x,hx,rfl⟩))
  ·obtain rfl:x=f:=by simpa using hx
   have:=Jb h.box;refine⟨hf.chg yA λb hb=>?_,by show sb<x.lo;omega,oC⟩;exact Qlj
 ·rw[xA];exact JaH h.pair λi hi=>by have:=(zA i hi).2.2;show i.2<=f.lo;omega
 ·intro g hg i hi;rw[xA]at hi
  rcases T2 with e|e
  ·have uA:=e.symm.trans hg
   rcases List.mem_append.1 hi with hi|hi
   ·exact h.fout g uA i hi
   ·obtain rfl:i=(f.lo,f.hi):=by simpa using hi
    have:=(B5 g uA).2;exact .inl (by show g<f.lo;omega)
  ·rw[hg]at e;simp at e
   rcases List.mem_append.1 hi with hi|hi
   ·have:=(zA i hi).2.2;exact .inr zo
   ·obtain rfl:i=(f.lo,f.hi):=by simpa using hi
    exact .inr (by show f.hi<=g;omega)
 ·intro g hg i hi;rw[xA]at hi
  rcases List.mem_append.1 hi with hi|hi
  ·exact h.cout g hg i hi
  ·obtain rfl:i=(f.lo,f.hi):=by simpa using hi
   have:=(h.cown.lt g hg).2;exact .inl (by show g<f.lo;omega)
def QaH.addC{W w6 w7:World}{sb:Nat}{fs:List FnA}{cs:List ClA}{act:Int}{fv cv v':Value}{c:ClA}{X:Obj}(h:QaH W sb ⟨fs,cs,act,fv,cv⟩)(h6:QaH w6 sb ⟨fs,cs,act,fv,cv⟩)(hss:W.heap.size<=w6.heap.size)(hf:c.Ok w6)(hlo:W.heap.size<=c.lo)
  (hown:w7.ownsRow (sb+1) 125 7 v' (cs.length+1) (cs.flatMap ClA.cells++c.cells)) (hgr:(w6.alloc X).grownBy w7 cv.ownBlock) (T2:v'.ownBlock=cv.ownBlock\/v'.ownBlock=some (w6.alloc X).heap.size):
  QaH (w7.setCell ⟨sb,1,none⟩ v') sb ⟨fs,cs++[c],act,fv,v'⟩/\w7.heap[sb]?=some (.cells #[fv,cv,Iv act] 112 (0,0)):=by
 have O3:=JK hgr;have hst:Chg [sb] w7 (w7.setCell ⟨sb,1,none⟩ v'):=(Chg.refl _ _).setCell (.inl (by simp:sb∈[sb])) (p:=⟨sb,1,none⟩) v';have B5:∀g,cv.ownBlock=some g->sb+1<=g/\g<W.heap.size:=λg hg=>h.cown.lt g hg
 have U0:w7.heap[sb]?=some (.cells #[fv,cv,Iv act] 112 (0,0)):=O3.heap_some (λhm=>by
  have:=(B5 sb (by simpa using hm)).1
  omega) h6.box
 have zA:∀i∈(Qak.mk fs cs act fv cv).ivs,sb<i.1/\i.1<=i.2/\i.2<=W.heap.size:=h.ivs;have yA:(Qak.mk fs (cs++[c]) act fv v').ivs=(Qak.mk fs cs act fv cv).ivs++[(c.lo,c.hi)]:=by simp[Qak.ivs]
 have vA:=hf.hle;have xA:Chg (sb::cv.ownBlock.toList) w6 (w7.setCell ⟨sb,1,none⟩ v'):=(O3.mono λk hk=>.inl (by simp;exact .inr (by simpa using hk))).trans (hst.mono λk hk=>.inl (by simp at hk;simp[hk]));refine⟨⟨JC U0 1 v',?_,?_,?_,?_,?_,?_,?_⟩,U0⟩
 ·exact Jx (Yg h6.fown hgr (Ve h6.fown h6.cown zd)) hst zp
 ·have:=Jx hown hst zp;simpa using this
 ·intro x hx;obtain⟨g1,g2,g3⟩:=h6.fok x hx;refine⟨g1.chg xA λb hb=>?_,g2,g3⟩
  rcases List.mem_cons.1 hb with rfl|hb
  ·exact .inl g2
  ·exact h.cout b (by simpa using hb) (x.lo,x.hi) (List.mem_append_left _ (List.mem_map.2 ⟨x,hx,rfl⟩))
 ·intro x hx
  rcases List.mem_append.1 hx with hx|hx
  ·obtain⟨g1,g2⟩:=h6.cok x hx;refine⟨g1.chg xA λb hb=>?_,g2⟩
   rcases List.mem_cons.1 hb with rfl|hb
   ·exact .inl g2
   ·exact h.cout b (by simpa using hb) (x.lo,x.hi) (List.mem_append_right _ (List.mem_map.2 ⟨x,hx,rfl⟩))
  ·obtain rfl:x=c:=by simpa using hx
   have:=Jb h.box;refine⟨hf.chg xA λb hb=>?_,by show sb<x.lo;omega⟩;exact Qlj
 ·rw[yA];exact JaH h.pair λi hi=>by have:=(zA i hi).2.2;show i.2<=c.lo;omega
 ·intro g hg i hi;rw[yA]at hi
  rcases List.mem_append.1 hi with hi|hi
  ·exact h.fout g hg i hi
  ·obtain rfl:i=(c.lo,c.hi):=by simpa using hi
   have:=(h.fown.lt g hg).2;exact .inl (by show g<c.lo;omega)
 ·intro g hg i hi;rw[yA]at hi
  rcases T2 with e|e
  ·have uA:=e.symm.trans hg
   rcases List.mem_append.1 hi with hi|hi
   ·exact h.cout g uA i hi
   ·obtain rfl:i=(c.lo,c.hi):=by simpa using hi
    have:=(B5 g uA).2;exact .inl (by show g<c.lo;omega)
  ·rw[hg]at e;simp at e
   rcases List.mem_append.1 hi with hi|hi
   ·have:=(zA i hi).2.2;exact .inr zo
   ·obtain rfl:i=(c.lo,c.hi):=by simpa using hi
    exact .inr (by show c.hi<=g;omega)
def QaH.setA{W:World}{sb:Nat}{S:Qak}(h:QaH W sb S)(a:Int):QaH (W.setCell ⟨sb,2,none⟩ (Iv a)) sb {S with action:=a}:=by
 have hst:Chg [sb] W (W.setCell ⟨sb,2,none⟩ (Iv a)):=(Chg.refl _ _).setCell (.inl (by simp:sb∈[sb])) (p:=⟨sb,2,none⟩) _;exact⟨JC h.box 2 _,Jx h.fown hst zp,Jx h.cown hst zp,λf hf=>⟨(h.fok f hf).1.chg hst λb hb=>.inl (by have:=(h.fok f hf).2.1;simp at hb;omega),(h.fok f hf).2⟩,λc hc=>⟨(h.cok c hc).1.chg hst λb hb=>.inl (by have:=(h.cok c hc).2;simp at hb;omega),(h.cok c hc).2⟩,h.pair,h.fout,h.cout⟩
def QaH.up{L:List Nat}{W0 W W':World}{sb:Nat}{S:Qak}(h0:QaH W0 sb S)(h:QaH W sb S)(hc:Chg L W W')(hL:∀b∈L,W0.heap.size<=b):QaH W' sb S:=by
 have xA:=h0.ivs
 have hk:∀{e size n:Nat}{v:Value}{xs:List Value},W0.ownsRow (sb+1) e size v n xs->W.ownsRow (sb+1) e size v n xs->W'.ownsRow (sb+1) e size v n xs:=by
  intro e size n v xs h1 h2;refine⟨h2.1,h2.2.imp id ?_⟩;rintro⟨g,cap,cur,rfl,r2,r3,r4⟩;have:=(h1.lt g rfl).2;exact⟨g,cap,cur,rfl,r2,hc.heap_some (λhm=>by have:=hL g hm;omega) r3,r4⟩
 have hb:=Jb h0.box
 exact⟨hc.heap_some (λhm=>by have:=hL sb hm;omega) h.box,hk h0.fown h.fown,hk h0.cown h.cown,
  λf hf=>⟨(h.fok f hf).1.chg hc λb hb=>.inr (zu (hL b hb) ((h0.fok f hf).1.hle)),(h.fok f hf).2⟩,
  λc hc'=>⟨(h.cok c hc').1.chg hc λb hb=>.inr (zu (hL b hb) ((h0.cok c hc').1.hle.2)),(h.cok c hc').2⟩,h.pair,h.fout,h.cout⟩
def PAt.over{p sb:Nat}{A:Option Addr}{C:Nat}{T:List Tok}{k:Nat}{w W W':World}(h:PAt W p A C T k)(hT:∀b o,A=some ⟨b,o,none⟩->b<w.heap.size)(hp:p<w.heap.size)(hw:w.heap.size<=sb)(hk:∀q,q<sb->W'.heap[q]?=W.heap[q]?):PAt W' p A C T k:=by
 obtain⟨tb,ot,hA,xA,yA⟩:=h.toks;have zA:=hT _ _ hA;exact⟨(hk p zo).trans h.self,⟨tb,ot,hA,xA,λi t hi j u hu=>(World.cell?_of_block (hk tb zo)).trans (yA i t hi j u hu)⟩,h.lt,h.fin,h.room⟩
structure SrB(p:Nat)(A:Option Addr)(C:Nat)(T:List Tok)(w W:World)(k:Nat)(S:Qak):Prop where
 pat:PAt W p A C T k
 ok:QaH W w.heap.size S
 chg:Chg [p] w W
def SrB.on{p:Nat}{A:Option Addr}{C:Nat}{T:List Tok}{w W W':World}{k k':Nat}{S:Qak}(h:SrB p A C T w W k S)(hp:p<w.heap.size)(hP:PAt W' p A C T k')(hc:Chg [p] W W'):SrB p A C T w W' k' S:=
 ⟨hP,h.ok.on hc (by simp;exact hp),h.chg.trans hc⟩
def SrB.over{p:Nat}{A:Option Addr}{C:Nat}{T:List Tok}{w W W':World}{k:Nat}{S S':Qak}{L:List Nat}(h:SrB p A C T w W k S)(hp:p<w.heap.size)(hT:∀b o,A=some ⟨b,o,none⟩->b<w.heap.size)(ho:QaH W' w.heap.size S')(hc:Chg L W W')(hL:∀b∈L,w.heap.size<=b):SrB p A C T w W' k S':=
 ⟨h.pat.over hT hp zzl λq hq=>hc.block q (zt (Jb h.ok.box)) λhm=>by have:=hL q hm;omega,ho,h.chg.step hc λb hb=>.inr (hL b hb)⟩
def JaI{w6 w7:World}{v u:Value}{X:Obj}{sb j:Nat}(hgr:(w6.alloc X).grownBy w7 v.ownBlock):Chg (sb::v.ownBlock.toList) w6 (w7.setCell ⟨sb,j,none⟩ u):=
 ((JK hgr).mono λk hk=>.inl (List.mem_cons_of_mem _ hk)).trans (((Chg.refl [sb] w7).setCell (.inl zp) (p:=⟨sb,j,none⟩) u).mono λk hk=>.inl (by simp at hk;simp[hk]))
def SrB.addF{p:Nat}{A:Option Addr}{C:Nat}{T:List Tok}{w W w6 w7:World}{k k6:Nat}{fs:List FnA}{act:Int}{fv cv v':Value}{f:FnA}{X:Obj}(h:SrB p A C T w W k ⟨fs,[],act,fv,cv⟩)(hp:p<w.heap.size)(hT:∀b o,A=some ⟨b,o,none⟩->b<w.heap.size)(j0:Chg [p] W w6)(hP:PAt w6 p A C T k6)(hf:f.Ok w6)(hlo:W.heap.size<=f.lo)(oC:f.lo<=f.hi)
  (hown:w7.ownsRow (w.heap.size+1) 121 10 v' (fs.length+1) (fs.flatMap FnA.cells++f.cells)) (hgr:(w6.alloc X).grownBy w7 fv.ownBlock) (T2:v'.ownBlock=fv.ownBlock\/v'.ownBlock=some (w6.alloc X).heap.size):
  SrB p A C T w (w7.setCell ⟨w.heap.size,0,none⟩ v') k6 ⟨fs++[f],[],act,v',cv⟩/\w7.heap[w.heap.size]?=some (.cells #[fv,cv,Iv act] 112 (0,0)):=by
 have h6:=h.on hp hP j0;obtain⟨g1,g2⟩:=h.ok.addF h6.ok j0.size hf hlo oC hown hgr T2
 exact⟨h6.over hp hT g1 (JaI hgr) (λb hb=>by
  rcases List.mem_cons.1 hb with rfl|hb
  ·exact le_refl _
  ·have:=(h.ok.fown.lt b (by simpa using hb)).1
   omega),g2⟩
structure ClR(p:Nat)(A:Option Addr)(C:Nat)(T:List Tok)(w W0 W:World)(k:Nat)(S:Qak)(cb lo hi:Nat)(a:An)(act:Int)(rs:By):Prop where
 srb:SrB p A C T w W k S
 ok0:QaH W0 w.heap.size S
 c0:W0.heap.size<=lo/\lo<=hi/\hi<=cb
 at':a.At W
 made:Qcs lo hi a
 box:W.heap[cb]?=some (.cells (ClA.mk a act rs lo hi).cells.toArray 125 (0,0))
section
variable {p:Nat}{A:Option Addr}{C:Nat}{T:List Tok}{w W0 W W':World}{k k':Nat}{S:Qak}{cb lo hi:Nat}{a:An}{act:Int}{rs:By}
def ClR.make{w6:World}{k6:Nat}(h:SrB p A C T w W0 k S)(hp:p<w.heap.size)(hat:a.At w6)(S6:Qcs W0.heap.size w6.heap.size a)(hP:PAt w6 p A C T k6)(hc:Chg [p] W0 w6):ClR p A C T w W0 (w6.alloc (.cells (ClA.mk a 0 [] 0 0).cells.toArray 125)) k6 S w6.heap.size W0.heap.size w6.heap.size a 0 []:=by
 have hb:Below w6.heap.size w6 (w6.alloc (.cells (ClA.mk a 0 [] 0 0).cells.toArray 125)):=zzb.alloc zzl _;exact⟨(h.on hp hP hc).on hp (hP.chg hb) (Chg.of_below hb [p]),h.ok,⟨le_refl _,hc.size,le_refl _⟩,Kz hat S6 hb zzl,S6,zzw _ _⟩
def ClR.on(h:ClR p A C T w W0 W k S cb lo hi a act rs)(hp:p<w.heap.size)(hP:PAt W' p A C T k')(hc:Chg [p] W W'):ClR p A C T w W0 W' k' S cb lo hi a act rs:=by
 have hw:=Jb h.ok0.box;obtain⟨c1,c2,c3⟩:=h.c0;have hlt:=Jb h.box;exact⟨h.srb.on hp hP hc,h.ok0,h.c0,JE _ h.at' λb hb=>by have:=h.made.2 b hb;exact hc.block b zo zq,h.made,hc.heap_some zq h.box⟩
def ClR.set{act':Int}{rs':By}{j:Nat}{u:Value}(h:ClR p A C T w W0 W k S cb lo hi a act rs)(hp:p<w.heap.size)(hT:∀b o,A=some ⟨b,o,none⟩->b<w.heap.size)
  (hb:(W.setCell ⟨cb,j,none⟩ u).heap[cb]?=some (.cells (ClA.mk a act' rs' lo hi).cells.toArray 125 (0,0))):ClR p A C T w W0 (W.setCell ⟨cb,j,none⟩ u) k S cb lo hi a act' rs':=by
 have hw:=Jb h.ok0.box;obtain⟨c1,c2,c3⟩:=h.c0;have hst:Chg [cb] W (W.setCell ⟨cb,j,none⟩ u):=(Chg.refl _ _).setCell (.inl (by simp:cb∈[cb])) (p:=⟨cb,j,none⟩) u;have hlt:=Jb h.box;exact⟨h.srb.over hp hT (h.ok0.up h.srb.ok hst λb hb=>by simp at hb;omega) hst λb hb=>by simp at hb;omega,h.ok0,h.c0,JE _ h.at' λb hb=>by have:=h.made.2 b hb;exact hst.block b zo zq,h.made,hb⟩
def ClR.setAct(h:ClR p A C T w W0 W k S cb lo hi a 0 [])(hp:p<w.heap.size)(hT:∀b o,A=some ⟨b,o,none⟩->b<w.heap.size)(n:Int):ClR p A C T w W0 (W.setCell ⟨cb,5,none⟩ (Iv n)) k S cb lo hi a n []:=
 h.set hp hT (by
  obtain⟨xA,xn,xc,T1⟩:=Jg a;have:=JC h.box 5 (Iv n);simp only[ClA.cells,T1]at this |-
  exact this)
def ClR.setRs{n:Int}(h:ClR p A C T w W0 W k S cb lo hi a n [])(hp:p<w.heap.size)(hT:∀b o,A=some ⟨b,o,none⟩->b<w.heap.size)(rs:By):ClR p A C T w W0 (W.setCell ⟨cb,6,none⟩ (Sv rs)) k S cb lo hi a n rs:=
 h.set hp hT (by
  obtain⟨xA,xn,xc,T1⟩:=Jg a;have:=JC h.box 6 (Sv rs);simp only[ClA.cells,T1]at this |-
  exact this)
def ClR.kept{fs:List FnA}{cs:List ClA}{sa:Int}{fv cv:Value}{w7:World}{X:Obj}(h:ClR p A C T w W0 W k ⟨fs,cs,sa,fv,cv⟩ cb lo hi a act rs)(hgr:(W.alloc X).grownBy w7 cv.ownBlock):w7.heap[cb]?=W.heap[cb]?:=by
 have hlt:=Jb h.box;obtain⟨c1,c2,c3⟩:=h.c0;exact(hgr.block cb zq λe=>by have:=(h.ok0.cown.lt cb e.symm).2;omega).trans (heap_alloc_old _ _ hlt)
def YD{W:World}{b t:Nat}{a0 a1 a2 a3 a4 a5 a6:Value}{fr:Nat×Nat}(h:W.heap[b]?=some (.cells #[a0,a1,a2,a3,a4,a5,a6] t fr)):
  W.cell? ⟨b,0,none⟩=some a0/\W.cell? ⟨b,1,none⟩=some a1/\W.cell? ⟨b,2,none⟩=some a2/\W.cell? ⟨b,3,none⟩=some a3/\W.cell? ⟨b,4,none⟩=some a4/\W.cell? ⟨b,5,none⟩=some a5/\W.cell? ⟨b,6,none⟩=some a6:=by
 refine⟨?_,?_,?_,?_,?_,?_,?_⟩<;>(rw[Ja h];rfl)
def ClR.addC{fs:List FnA}{cs:List ClA}{sa:Int}{fv cv v':Value}{w7:World}{X:Obj}(h:ClR p A C T w W0 W k ⟨fs,cs,sa,fv,cv⟩ cb lo hi a act rs)(hp:p<w.heap.size)(hT:∀b o,A=some ⟨b,o,none⟩->b<w.heap.size)
  (hown:w7.ownsRow (w.heap.size+1) 125 7 v' (cs.length+1) (cs.flatMap ClA.cells++(ClA.mk a act rs lo hi).cells)) (hgr:(W.alloc X).grownBy w7 cv.ownBlock) (T2:v'.ownBlock=cv.ownBlock\/v'.ownBlock=some (W.alloc X).heap.size):
  SrB p A C T w (w7.setCell ⟨w.heap.size,1,none⟩ v') k ⟨fs,cs++[⟨a,act,rs,lo,hi⟩],sa,fv,v'⟩/\w7.heap[w.heap.size]?=some (.cells #[fv,cv,Iv sa] 112 (0,0)):=by
 have hw:=Jb h.ok0.box;obtain⟨c1,c2,c3⟩:=h.c0;have hlt:=Jb h.box;obtain⟨g1,g2⟩:=h.ok0.addC (c:=⟨a,act,rs,lo,hi⟩) h.srb.ok zo ⟨h.at',h.made,c2,by show hi<=_;omega⟩ c1 hown hgr T2
 exact⟨h.srb.over hp hT g1 (JaI hgr) (λb hb=>by
  rcases List.mem_cons.1 hb with rfl|hb
  ·exact le_refl _
  ·have:=(h.ok0.cown.lt b (by simpa using hb)).1
   omega),g2⟩
end
def SrP(p:Nat)(A:Option Addr)(C:Nat)(T:List Tok)(w:World)(x:PR Src)(e:Ending)(w':World):Prop:=
 match x with
 |.out=>True
 |.bad o=>QkL p w o e w'
 |.ok s r=>∃S:Qak,S.src=s/\e=.returned (Pt w.heap.size)/\QaH w' w.heap.size S/\Chg [p] w w'
def SrB.bad{α:Type}{p:Nat}{A:Option Addr}{C:Nat}{T:List Tok}{w W W':World}{k:Nat}{S:Qak}{x:PR α}{g:α->List Tok->PR Src}{X:PR Src}{R:Ending->World->Prop}{q:Int}(h:SrB p A C T w W k S)(hR:R=SrP p A C T w X)(hX:x.bind g=X)(hx:x=.bad q)(hc:Chg [p] W W'):R (.panicked [{v:=QfN q,recovered:=false}]) W':=by
 subst hx hX hR;exact⟨rfl,h.chg.trans hc⟩
def Qkl:(prog.info? 121).map (λi=>(i.zero,i.size,i.bytes))=some (some (.agg #[Em,Iv 0,Nl,Nl,Iv 0,Iv 0,Iv 0,Em,Iv 0,Nl]),10,144):=zk
def Qkm:(prog.info? 125).map (λi=>(i.zero,i.size,i.bytes))=some (some (.agg #[Iv 0,Iv 0,Em,Iv 0,Nl,Iv 0,Em]),7,88):=zk
def Qmt(fs:List FnS)(cs:List ClS)(r2:List Tok):PR Src:=(Qam 0 QdC r2).bind λ_ r3=>(QdI r3).bind λa r4=>if (hd r4).kind=4 then .ok ⟨fs,cs,a⟩ r4 else .bad (hd r4).off
def Qmu(f:Nat)(fs:List FnS)(r1:List Tok):PR Src:=(QaR f f [] r1).bind (Qmt fs)
def JiJ(f:Nat)(r:List Tok):Qfb f r=(QcR f f [] r).bind (Qmu f):=rfl
def JgP(g f:Nat)(l:List FnS)(r:List Tok):QcR g (f+1) l r=match acc 0 QlM r with|some r1=>(Qfo g r1).bind (λx r2=>QcR g f (l++[x]) r2)|none=>.ok l r:=by rw[QcR];rfl
def JbV(g f:Nat)(l:List ClS)(r:List Tok):QaR g (f+1) l r=match acc 0 Qiu r with|some r1=>(pM g .expr r1).bind λc r2=>(Qam 0 QfB r2).bind λ_ r3=>(QdI r3).bind λa r4=>(QcH r4).bind λs r5=>QaR g f (l++[⟨c,a,s⟩]) r5|none=>.ok l r:=by rw[QaR];rfl
def JdJ(r:List Tok):(∃t r',QdI r=.ok t r')\/QdI r=.bad (hd r).off:=by
 unfold QdI;split
 ·exact .inl ⟨_,_,rfl⟩
 ·split
  ·exact .inl ⟨_,_,rfl⟩
  ·split
   ·exact .inl ⟨_,_,rfl⟩
   ·split
    ·exact .inl ⟨_,_,rfl⟩
    ·exact .inr rfl
def JeH(r:List Tok):QdI r≠.out:=by
 rcases JdJ r with⟨_,_,h⟩|h<;>rw[h]<;>exact λh=>by cases h
def JgQ(r:List Tok):QcH r≠.out:=by
 rcases YA r with⟨_,_,h⟩|h<;>rw[h]<;>exact λh=>by cases h
def JgR(f p:Nat)(A:Option Addr)(C:Nat)(T:List Tok)(hf:f<=100000000)(hx:∀t∈T,t.text.length<=1000000)
  (k:Nat) (w:World) (h:PAt w p A C T k) (hne:Qfb f (T.drop k)≠.out):
  Calls prog 34 #[Pt p] w (SrP p A C T w (Qfb f (T.drop k))):=by
 have I1:=JgO p A C T hx f hf;have I2:=JaG f p A C T hf hx I1;obtain⟨X,hX⟩:∃X,Qfb f (T.drop k)=X:=⟨_,rfl⟩
 have mA:=hX;rw[JiJ]at mA;rw[hX]at hne |-;obtain⟨R,hR⟩:∃R,SrP p A C T w X=R:=⟨_,rfl⟩
 rw[hR];have HR:Hi (R=SrP p A C T w X):=hR.symm;have S1:=Zh hne;have A3:=Zh h.chg1;have P5:=Zh h.tokLt;have rA:Below w.heap.size w (w.alloc (.cells #[Nl,Nl,Iv 0] 112)):=zzb.alloc zzl _
 have bA:Hi (∃k2 fv fs,SrB p A C T w (w.alloc (.cells #[Nl,Nl,Iv 0] 112)) k2 ⟨fs,[],0,fv,Nl⟩/\((QcR f f (fs.map FnA.src) (T.drop k2)).bind (Qmu f))=X/\f+fs.length<=f):=
  ⟨k,_,[],⟨h.chg rA,⟨zzw _ _,World.ownsRow_nil _ _ _ _,World.ownsRow_nil _ _ _ _,by simp,by simp,by simp[Qak.ivs],by simp[Qak.ivs],by simp[Qak.ivs]⟩,Chg.of_below rA [p]⟩,mA,le_refl _⟩
 have H5:p≠w.heap.size:=by have:=A3.o;omega
 have zB:w.heap.size≠p:=by have:=A3.o;omega
 go_enter func34,ntmps34;go_wp2_with fail;generalize World.alloc w _=wa at*;go_loopg [] f λg wr=>Hi (∃k2 fv fs,SrB p A C T w wr k2 ⟨fs,[],0,fv,Nl⟩/\((QcR f g (fs.map FnA.src) (T.drop k2)).bind (Qmu f))=X/\g+fs.length<=f)
 case atStart=>exact bA
 case round=>
 obtain⟨wl,rfl⟩:=zG wr
 obtain⟨k2,fv,fs,hI,uA,hle⟩:=hrel.o
 cases gk with
 |zero=>exact absurd uA.symm S1.o
 |succ g2=>
 rw[JgP]at uA;have HI:=Zh hI;have C0:=Zh uA;have C8:Hi (g2+1+fs.length<=f):=hle;have gA:fs.length<=100000000:=zo
 go_wp2_with fail;refine(Jq p A C T k2 0 QlM wl HI.o.pat zd).mono ?_;intro e w3 h3
 rcases h3 with⟨g1,g2',rfl,m8,A5⟩|⟨g1,rfl,T9⟩
 ·have xA:=C0.o;rw[JI g1 g2']at xA;dsimp only at xA;replace C0:=Zh (KM xA);replace HI:=Zh (HI.o.on A3.o m8 A5);obtain⟨va,vn,vc,qA⟩:=Ji HI.o.ok.fown;dsimp only at qA;subst qA;have I5:Qfo f (T.drop (k2+1))≠.out:=JJ C0.o S1.o;have hD:Below w3.heap.size w3 w3.drew:=(Below.refl w3.heap.size w3).drew;replace HI:=Zh (HI.o.on A3.o (HI.o.pat.chg hD) (Chg.of_below hD [p]));go_upto_region 3 with fail;have hcl:=Ja HI.o.ok.box 0;simp only[zW]at hcl;refine LB (λW=>W.cell? ⟨w.heap.size,0,none⟩=some (.slice va vn vc)) 11 (by simp[*,World.cell?_alloc_some]) λhH=>?_
  refine LK 0 rfl ?_;refine LK 1 rfl ?_;refine LK 2 rfl ?_;refine LK 3 rfl ?_;refine LK 4 rfl ?_;refine LK 5 rfl ?_;refine LO 6 rfl λK hK=>?_
  go_simp;go_at_call 64;refine(I2 (k2+1) _ HI.o.pat I5).mono ?_;intro e w6 h6
  cases L9:Qfo f (T.drop (k2+1)) with
  |out=>exact absurd L9 I5
  |bad q=>
   rw[L9]at h6;obtain⟨rfl,j0⟩:=h6;exact⟨rfl,HI.o.bad HR.o C0.o L9 j0⟩
  |ok fn r=>
  rw[L9]at h6;obtain⟨F,hF,rfl,dA,hlo,tA,⟨k4,hr,j6⟩,j0⟩:=h6;subst hF hr;obtain⟨nm,of,ps,ts,res,b,pv,tv,aB,vB⟩:=F;obtain⟨pa,pn,pc,sA⟩:=Ji dA.pown;obtain⟨ta,tn,tc,pA⟩:=Ji dA.town;dsimp only at sA pA hlo tA;subst sA pA;obtain⟨yA,yn,yc,I4⟩:=Jg b;have hfc:(FnA.mk nm of ps ts res b (.slice pa pn pc) (.slice ta tn tc) aB vB).cells=(U3 nm of pa pn pc ta tn tc res b yA yn yc):=by simp only[FnA.cells,I4,cons_append,nil_append]
  have P7:=Zh (Jv C0.o L9);have hA:=Zh (HI.o.on A3.o j6 j0);have HAD:=Zh (show _/\_/\_/\_/\_ from⟨j0,j6,dA,hlo,tA⟩);have jA:=Zh hfc;have HOW:=Zh (hA.o.ok.fown.alloc (.cells ((U3 nm of pa pn pc ta tn tc res b yA yn yc)).toArray 121));have P3:=Zh (zzw w6 (.cells ((U3 nm of pa pn pc ta tn tc res b yA yn yc)).toArray 121));have A1:w.heap.size+1<=(w6.alloc (.cells ((U3 nm of pa pn pc ta tn tc res b yA yn yc)).toArray 121)).heap.size:=by have:=Jb hA.o.ok.box;rw[World.size_alloc];omega
  replace hcl:=Ja hA.o.ok.box 0;simp only[zW]at hcl;rw[hfc];refine zU hK (hcl) λhH=>?_
  refine LO 7 rfl λK hK=>?_
  go_simp;refine zU hK (by simp[*,World.cell?_alloc_some]) λhH=>?_
  refine LO 8 rfl λK hK=>?_
  (refine Js (w6.alloc (.cells ((U3 nm of pa pn pc ta tn tc res b yA yn yc)).toArray 121)) zr (.tmp 13) (.tmp 16) 109 121 _ 10 144 zr underlying109 Qkl rfl zd (w.heap.size+1) (.slice va vn vc) fs.length (fs.flatMap FnA.cells) (U3 nm of pa pn pc ta tn tc res b yA yn yc) zr HOW.o w6.heap.size zr P3.o rfl (by intro u hu;simp at hu;rcases hu with rfl|rfl|rfl|rfl|rfl|rfl|rfl|rfl|rfl|rfl<;>rfl) gA zd A1 ?_;intro v7 w7 H0 N1 Q1)
  obtain⟨a7,m7,c7,rfl⟩:=Ji H0;rw[<-jA.o]at H0;obtain⟨hst,U0⟩:=HI.o.addF A3.o P5.o HAD.o.1 HAD.o.2.1 HAD.o.2.2.1 HAD.o.2.2.2.1 HAD.o.2.2.2.2 H0 N1 Q1;have D2:=Zh hst;replace hcl:=Ja U0 0;simp only[zW]at hcl;have f4:=Jc U0 0;have R8:=Jb U0;refine zU hK (hcl) λhH=>?_
  refine LO 9 rfl λK hK=>?_
  go_simp;refine zU hK hH λhH=>?_
  refine LK 10 rfl ?_;refine LZ 11 rfl λK hK=>?_
  go_simp;refine hK.out _ _ ?_;go_wp2;go_roundg g2
  case measure=>exact Nat.lt_succ_self _
  case rel=>exact⟨_,_,_,D2.o,by rw[List.map_append];exact P7.o,by have:=C8.o;rw[List.length_append,List.length_singleton];omega⟩
 ·have xA:=C0.o;rw[J3 g1]at xA;dsimp only at xA;rw[JeG]at xA;rw[Qmu]at xA;replace HI:=Zh (HI.o.on A3.o (HI.o.pat.chg T9) (Chg.of_below T9 [p]));have bA:Hi (∃k2 cv cs,SrB p A C T w w3 k2 ⟨fs,cs,0,fv,cv⟩/\((QaR f f (cs.map ClA.src) (T.drop k2)).bind (Qmt (fs.map FnA.src)))=X/\f+cs.length<=f):=⟨k2,_,[],HI.o,xA,le_refl _⟩
  go_wp2_with fail;go_loopg [] f λg wr=>Hi (∃k2 cv cs,SrB p A C T w wr k2 ⟨fs,cs,0,fv,cv⟩/\((QaR f g (cs.map ClA.src) (T.drop k2)).bind (Qmt (fs.map FnA.src)))=X/\g+cs.length<=f)
  case atStart=>exact bA
  case round=>
  obtain⟨wm,rfl⟩:=zG wr
  obtain⟨k5,cv,cs,hI,uA,hle⟩:=hrel.o
  cases gk with
  |zero=>exact absurd uA.symm S1.o
  |succ g3=>
  rw[JbV]at uA;have HI:=Zh hI;have C0:=Zh uA;have C8:Hi (g3+1+cs.length<=f):=hle;have gA:cs.length<=100000000:=zo
  go_wp2_with fail;refine(Jq p A C T k5 0 Qiu wm HI.o.pat zd).mono ?_;intro e w4 h3
  rcases h3 with⟨g1,g2',rfl,m8,A5⟩|⟨g1,rfl,T9⟩
  ·have xA:=C0.o;rw[JI g1 g2']at xA;dsimp only at xA;replace C0:=Zh (KM xA);replace HI:=Zh (HI.o.on A3.o m8 A5);obtain⟨va,vn,vc,xB⟩:=Ji HI.o.ok.cown;dsimp only at xB;subst xB;have aA:pM f .expr (T.drop (k5+1))≠.out:=JJ C0.o S1.o;go_wp2_with fail;refine NdP.call (I1 (k5+1) _ HI.o.pat aA) aA (λq _ hx hc=>by exact⟨rfl,HI.o.bad HR.o C0.o hx hc⟩) λa w6 k6 yA yn yc hx T1 B=>?_
   have nA:=ClR.make HI.o A3.o B.1 B.2.1 B.2.2.1 B.2.2.2;replace C0:=Zh (KM (Jv C0.o hx));have uB:(ClA.mk a 0 [] 0 0).cells.toArray=#[Iv a.kind,Iv a.num,.string (bs a.name),Iv a.off,.slice yA yn yc,Iv 0,Em]:=by simp only[ClA.cells,T1,cons_append,nil_append];rfl
   rw[uB]at nA;have A4:=Zh nA;have O4:=Zh T1;go_wp2_with fail;generalize World.alloc w6 _=w6' at*;generalize w6.heap.size=cb at*;have cB:Hi (w.heap.size<w4.heap.size):=Jb A4.o.ok0.box;generalize w4.heap.size=lo at*;have kA:cb≠w.heap.size:=by have:=A4.o.c0;have:=cB.o;omega
   have eB:w.heap.size≠cb:=Ne.symm kA;refine PRp.call (QhU p A C T k6 QfB _ A4.o.srb.pat) (JX _ _ _) (λq _ hx hc=>by exact⟨rfl,A4.o.srb.bad HR.o C0.o hx hc⟩) λ_ w7 k7 hx hp hc=>?_
   replace C0:=Zh (KM (Jv C0.o hx));replace A4:=Zh (A4.o.on A3.o hp hc);go_wp2_with fail;refine PRp.call (JcE p A C T k7 _ A4.o.srb.pat) (JeH _) (λq _ hx hc=>by exact⟨rfl,A4.o.srb.bad HR.o C0.o hx hc⟩) λac w8 k8 hx hp hc=>?_
   replace C0:=Zh (KM (Jv C0.o hx));replace A4:=Zh (A4.o.on A3.o hp hc);have U0:=A4.o.box;simp only[ClA.cells,O4.o,cons_append,nil_append]at U0;have b5:=Ja U0 5;have f5:=Jc U0 5;have M6:=Jb U0;simp only[zW]at b5;replace A4:=Zh (A4.o.setAct A3.o P5.o ac);go_wp2_with fail;generalize World.setCell w8 _ _=w8' at*;refine PRp.call (Jau p A C T k8 _ A4.o.srb.pat) (JgQ _) (λq _ hx hc=>by exact⟨rfl,A4.o.srb.bad HR.o C0.o hx hc⟩) λrs w9 k9 hx hp hc=>?_
   replace C0:=Zh (Jv C0.o hx);replace A4:=Zh (A4.o.on A3.o hp hc);have P7:=C0;have U0:=A4.o.box;simp only[ClA.cells,O4.o,cons_append,nil_append]at U0;have b5:=Ja U0 6;have f5:=Jc U0 6;have M6:=Jb U0;simp only[zW]at b5;replace A4:=Zh (A4.o.setRs A3.o P5.o rs);go_upto_region 9 with fail;generalize World.setCell w9 _ _=w9' at*;have hD:Below w9'.heap.size w9' w9'.drew:=(Below.refl w9'.heap.size w9').drew;replace A4:=Zh (A4.o.on A3.o (A4.o.srb.pat.chg hD) (Chg.of_below hD [p]));have P4:=A4.o.box;simp only[ClA.cells,O4.o,cons_append,nil_append]at P4;have R5:=Zh P4;have hfc:∀l h,(ClA.mk a ac rs l h).cells=(U4 a yA yn yc ac rs):=λl h=>by simp only[ClA.cells,O4.o,cons_append,nil_append]
   have jA:=Zh hfc;have HOW:Hi ((w9'.drew.alloc (.cells ((U4 a yA yn yc ac rs)).toArray 125)).ownsRow (w.heap.size+1) 125 7 (.slice va vn vc) cs.length (cs.flatMap ClA.cells)):=A4.o.srb.ok.cown.alloc _;have P3:Hi ((w9'.drew.alloc (.cells ((U4 a yA yn yc ac rs)).toArray 125)).heap[w9'.heap.size]?=some (.cells ((U4 a yA yn yc ac rs)).toArray 125 (0,0))):=zzw w9'.drew _;have A1:w.heap.size+1<=(w9'.drew.alloc (.cells ((U4 a yA yn yc ac rs)).toArray 125)).heap.size:=by have:=Jb A4.o.srb.ok.box;rw[World.size_alloc];omega
   have yB:w9'.heap.size=w9'.drew.heap.size:=rfl;rw[yB]at P3;have hcl:=Ja A4.o.srb.ok.box 1;simp only[zW]at hcl;have O3:=YD R5.o;generalize iA:w9'.drew=eA at*;refine LB (λW=>W.cell? ⟨w.heap.size,1,none⟩=some (.slice va vn vc)/\W.cell? ⟨cb,0,none⟩=some (Iv a.kind)/\W.cell? ⟨cb,1,none⟩=some (Iv a.num)/\W.cell? ⟨cb,2,none⟩=some (.string (bs a.name))/\W.cell? ⟨cb,3,none⟩=some (Iv a.off)/\W.cell? ⟨cb,4,none⟩=some (.slice yA yn yc)/\W.cell? ⟨cb,5,none⟩=some (Iv ac)/\W.cell? ⟨cb,6,none⟩=some (Sv rs)) 10 (by rw[iA];exact⟨hcl,O3⟩) λhH=>?_
   refine LK 0 rfl ?_;refine LK 1 rfl ?_;refine LK 2 rfl ?_;refine LK 3 rfl ?_;refine LK 4 rfl ?_;refine LK 5 rfl ?_;refine LO 6 rfl λK hK=>?_
   go_simp;refine zU hK (by simp[*,World.cell?_alloc_some]) λhH=>?_
   refine LO 7 rfl λK hK=>?_
   (refine Js (eA.alloc (.cells ((U4 a yA yn yc ac rs)).toArray 125)) zr (.tmp 37) (.tmp 39) 110 125 _ 7 88 zr underlying110 Qkm rfl zd (w.heap.size+1) (.slice va vn vc) cs.length (cs.flatMap ClA.cells) (U4 a yA yn yc ac rs) zr HOW.o eA.heap.size zr P3.o rfl (by intro u hu;simp at hu;rcases hu with rfl|rfl|rfl|rfl|rfl|rfl|rfl<;>rfl) gA zd A1 ?_;intro v7 w7 H0 N1 Q1)
   obtain⟨a7,m7,c7,rfl⟩:=Ji H0;rw[<-jA.o lo cb]at H0;obtain⟨hst,U0⟩:=A4.o.addC A3.o P5.o H0 N1 Q1;have D2:=Zh hst;have dB:=YD ((A4.o.kept N1).trans R5.o);replace hcl:=Ja U0 1;simp only[zW]at hcl;have f4:=Jc U0 1;have R8:=Jb U0;refine zU hK (⟨hcl,dB⟩) λhH=>?_
   refine LO 8 rfl λK hK=>?_
   go_simp;refine zU hK hH λhH=>?_
   refine LK 9 rfl ?_;refine LZ 10 rfl λK hK=>?_
   go_simp;refine hK.out _ _ ?_;go_wp2;go_roundg g3
   case measure=>exact Nat.lt_succ_self _
   case rel=>exact⟨_,_,_,D2.o,by rw[List.map_append];exact P7.o,by have:=C8.o;rw[List.length_append,List.length_singleton];omega⟩
  ·have xA:=C0.o;rw[J3 g1]at xA;dsimp only at xA;rw[JeG,Qmt]at xA;replace C0:=Zh xA;replace HI:=Zh (HI.o.on A3.o (HI.o.pat.chg T9) (Chg.of_below T9 [p]));go_wp2_with fail;refine PRp.call (QhU p A C T k5 QdC _ HI.o.pat) (JX _ _ _) (λq _ hx hc=>by exact⟨rfl,HI.o.bad HR.o C0.o hx hc⟩) λ_ w7 k7 hx hp hc=>?_
   replace C0:=Zh (Jv C0.o hx);replace HI:=Zh (HI.o.on A3.o hp hc);go_wp2_with fail;refine PRp.call (JcE p A C T k7 _ HI.o.pat) (JeH _) (λq _ hx hc=>by exact⟨rfl,HI.o.bad HR.o C0.o hx hc⟩) λac w8 k8 hx hp hc=>?_
   replace C0:=Zh (Jv C0.o hx);replace HI:=Zh (HI.o.on A3.o hp hc);have U0:=HI.o.ok.box;have b2:=Ja U0 2;have f2:=Jc U0 2;have M6:=Jb U0;simp only[zW]at b2;have HS:=Zh (HI.o.ok.setA ac);have zA:Hi (SrB p A C T w (w8.setCell ⟨w.heap.size,2,none⟩ (Iv ac)) k8 ⟨fs,cs,ac,fv,cv⟩):=HI.o.over A3.o P5.o HS.o ((Chg.refl [w.heap.size] w8).setCell (.inl zp) (p:=⟨w.heap.size,2,none⟩) _) zp;go_wp2_with fail;generalize World.setCell w8 _ _=w9 at*;have cp:=Kc p A C T k8 w9 zA.o.pat;have cw:=Kr p A C T k8;unfold QhL at cp;obtain⟨t,ht⟩:∃t,hd (T.drop k8)=t:=⟨_,rfl⟩
   have bB:=Zh ht;rw[ht]at cp cw;obtain⟨tk,tx,tn,tf⟩:=t;unfold Qdw at cp;simp only at cp cw;refine cp.mono ?_;rintro e eA ⟨rfl,vA⟩;replace zA:=Zh (zA.o.on A3.o (zA.o.pat.chg vA) (Chg.of_below vA [p]));have xA:=C0.o;rw[bB.o]at xA;have hfl:∀(W:World),(Instr.field 105 (.agg #[Iv tk,Sv tx,Iv tn,Iv tf]) 0).run prog W=.ok (Iv tk) W:=λW=>by kernel_rfl
   by_cases lA:tk=4
   ·have d1:(tk !=4)=false:=by rw[lA];rfl
    rw[if_pos lA]at xA;have Q2:=Zh xA;clear lA xA cw;go_wp2;rw[HR.o,<-Q2.o];exact⟨⟨fs,cs,ac,fv,cv⟩,rfl,rfl,zA.o.ok,zA.o.chg⟩
   ·have d1:(tk !=4)=true:=bne_iff_ne.2 lA;rw[if_neg lA]at xA;have Q2:=Zh xA;go_wp2_with fail;refine(cw _ zA.o.pat).mono ?_;rintro e gB ⟨rfl,cA⟩;go_wp2;refine⟨rfl,?_⟩;rw[HR.o,<-Q2.o];exact⟨rfl,zA.o.chg.trans (Chg.of_below cA [p])⟩
def Jd{α β:Type}{x:PR α}{f:α->List Tok->PR β}{b:β}{r:List Tok}(h:x.bind f=.ok b r):∃a r1,x=.ok a r1/\f a r1=.ok b r:=by
 cases x with
 |out=>cases h
 |bad o=>cases h
 |ok a r1=>exact⟨a,r1,rfl,h⟩
def Jl{α β:Type}{x:PR α}{f:α->List Tok->PR β}(h:x.bind f=.out):x=.out\/∃a r1,x=.ok a r1/\f a r1=.out:=by
 cases x with
 |out=>exact .inl rfl
 |bad o=>cases h
 |ok a r1=>exact .inr ⟨a,r1,rfl,h⟩
def Jo{k:Int}{s:By}{r r':List Tok}(hk:k≠4)(h:acc k s r=some r'):r'.length+1=r.length:=by
 unfold acc at h;split at h
 ·rename_i h1;injection h with h;subst h
  cases r with
  |nil=>exact absurd h1.1.symm hk
  |cons a l=>rfl
 ·cases h
def Jm{k:Int}{s:By}{r r':List Tok}{u:Unit}(hk:k≠4)(h:Qam k s r=.ok u r'):r'.length+1=r.length:=by
 unfold Qam at h;split at h
 ·rename_i h1;injection h with _ h;subst h;exact Jo hk h1
 ·cases h
def Jy{k:Int}{s:By}{r:List Tok}:Qam k s r≠.out:=by
 unfold Qam;split<;>simp
def JQ{r r':List Tok}{nm:By×Int}(h:Qbl r=.ok nm r'):r'.length+1=r.length:=by
 unfold Qbl at h;split at h
 ·rename_i h1;injection h with _ h;subst h
  cases r with
  |nil=>exact absurd h1.1 zd
  |cons a l=>rfl
 ·cases h
def KA{r:List Tok}:Qbl r≠.out:=by
 unfold Qbl;split<;>simp
def YE{r r':List Tok}{s:By}(h:QcH r=.ok s r'):r'.length+1=r.length:=by
 unfold QcH at h;split at h
 ·rename_i h1;injection h with _ h;subst h
  cases r with
  |nil=>exact absurd h1 zd
  |cons a l=>rfl
 ·cases h
def YF{r:List Tok}:QcH r≠.out:=by
 unfold QcH;split<;>simp
def YG{r r':List Tok}{s:By}(h:QaO r=.ok s r'):r'.length<=r.length:=by
 unfold QaO at h;obtain⟨_,r1,h1,h⟩:=Jd h;obtain⟨_,r2,h2,h⟩:=Jd h;obtain⟨_,r3,h3,h⟩:=Jd h;injection h with _ h;subst h;have:=Jm zd h1;have:=YE h2;have:=Jm zd h3;omega
def Vw{r:List Tok}:QaO r≠.out:=by
 intro h;unfold QaO at h
 rcases Jl h with h|⟨_,r1,h1,h⟩
 ·exact Jy h
 rcases Jl h with h|⟨_,r2,h2,h⟩
 ·exact YF h
 rcases Jl h with h|⟨_,r3,h3,h⟩
 ·exact Jy h
 cases h
def Vf{r r':List Tok}{t:Int}(h:Qec r=.ok t r'):r'.length+1=r.length:=by
 unfold Qec at h;split at h
 ·rename_i h1;injection h with _ h;subst h;exact Jo zd h1
 ·split at h
  ·rename_i h1;injection h with _ h;subst h;exact Jo zd h1
  ·cases h
def Zg{r:List Tok}:Qec r≠.out:=by
 unfold Qec
 repeat' split
 all_goals simp
def JcF{r r':List Tok}{t:Int}(h:QdI r=.ok t r'):r'.length+1=r.length:=by
 unfold QdI at h;split at h
 ·rename_i r1 h1;injection h with _ h;subst h;exact Jo zd h1
 split at h
 ·rename_i r1 h1;injection h with _ h;subst h;exact Jo zd h1
 split at h
 ·rename_i r1 h1;injection h with _ h;subst h;exact Jo zd h1
 split at h
 ·rename_i r1 h1;injection h with _ h;subst h;exact Jo zd h1
 ·cases h
def Zi{r:List Tok}:QdI r≠.out:=by
 unfold QdI
 repeat' split
 all_goals simp
def Yh(r:List Tok):r.tail.length<=r.length:=zp
def Qlk{P:Prop}(h:P:=by
  obtain⟨_,r2,h2,h⟩:=Jd h;injection h with _ h;subst h;have:=Jo (by decide) h1;have:=J0 f _ _ _ _ h2
  omega):P:=h
def Qlg{P:Prop}(h:P:=by
  have:=Jm (by decide) h3;have:=J0 f _ _ _ _ h4;have:=Jm (by decide) h5;have:=J0 f _ _ _ _ h6
  omega):P:=h
def Qlf{P:Prop}(h:P:=by
  obtain⟨_,r2,h2,h⟩:=Jd h;injection h with _ h;subst h;have:=Jo (by decide) h1;have:=YG h2
  omega):P:=h
def J0:∀(f:Nat)(md:Md)(r r':List Tok)(a:Nd),pM f md r=.ok a r'->r'.length<=r.length
 |0,md,r,r',a,h=>by unfold pM at h;cases h
 |f+1,.expr,r,r',a,h=>by
  rw[pM]at h;split at h
  ·rename_i r1 h1;obtain⟨_,r2,h2,h⟩:=Jd h;obtain⟨_,r3,h3,h⟩:=Jd h;obtain⟨_,r4,h4,h⟩:=Jd h;obtain⟨_,r5,h5,h⟩:=Jd h;obtain⟨_,r6,h6,h⟩:=Jd h;injection h with _ h;subst h;have:=Jo zd h1;have:=JQ h2;exact Qlg
  ·split at h
   ·rename_i r1 h1;obtain⟨_,r2,h2,h⟩:=Jd h;obtain⟨_,r3,h3,h⟩:=Jd h;obtain⟨_,r4,h4,h⟩:=Jd h;obtain⟨_,r5,h5,h⟩:=Jd h;obtain⟨_,r6,h6,h⟩:=Jd h;injection h with _ h;subst h;have:=Jo zd h1;have:=J0 f _ _ _ _ h2;exact Qlg
   ·exact J0 f _ _ _ _ h
 |f+1,.level lv,r,r',a,h=>by
  rw[pM]at h;split at h
  ·split at h
   ·rename_i r1 h1;exact Qlk
   ·exact J0 f _ _ _ _ h
  ·split at h
   ·split at h
    ·rename_i r1 h1;exact Qlk
    ·exact J0 f _ _ _ _ h
   ·obtain⟨_,r1,h1,h⟩:=Jd h;have:=J0 f _ _ _ _ h1;have:=J0 f _ _ _ _ h;omega
 |f+1,.loop lv o b,r,r',a,h=>by
  rw[pM]at h;split at h
  ·injection h with _ h;subst h;exact Nat.le_refl _
  ·obtain⟨_,r1,h1,h⟩:=Jd h;have:=J0 f _ _ _ _ h1;have:=J0 f _ _ _ _ h;have:=Yh r;omega
 |f+1,.cmp,r,r',a,h=>by
  rw[pM]at h;obtain⟨_,r1,h1,h⟩:=Jd h;have:=J0 f _ _ _ _ h1;split at h
  ·injection h with _ h;subst h;exact this
  ·obtain⟨_,r2,h2,h⟩:=Jd h;have:=J0 f _ _ _ _ h2;have:=Yh r1;injection h with _ h;subst h;omega
 |f+1,.prim,r,r',a,h=>by
  rw[pM]at h;split at h
  ·injection h with _ h;subst h;exact Yh r
  split at h
  ·rename_i r1 h1;obtain⟨_,r2,h2,h⟩:=Jd h;obtain⟨_,r3,h3,h⟩:=Jd h;injection h with _ h;subst h;have:=Jo zd h1;have:=J0 f _ _ _ _ h2;have:=Jm zd h3;omega
  split at h
  ·rename_i r1 h1;injection h with _ h;subst h;have:=Jo zd h1;omega
  split at h
  ·rename_i r1 h1;injection h with _ h;subst h;have:=Jo zd h1;omega
  split at h
  ·rename_i r1 h1;exact Qlf
  split at h
  ·rename_i r1 h1;exact Qlf
  split at h
  ·injection h with _ h;subst h;exact Yh r
  ·exact J0 f _ _ _ _ h
 |f+1,.named,r,r',a,h=>by
  rw[pM]at h;obtain⟨nm,r1,h1,h⟩:=Jd h;have:=JQ h1;split at h
  ·injection h with _ h;subst h;omega
  ·rename_i r2 h2;have:=Jo zd h2;split at h
   ·rename_i r3 h3;have:=Jo zd h3;injection h with _ h;subst h;omega
   ·have:=J0 f _ _ _ _ h;omega
 |f+1,.args nm o l,r,r',a,h=>by
  rw[pM]at h;obtain⟨_,r1,h1,h⟩:=Jd h;have:=J0 f _ _ _ _ h1;split at h
  ·rename_i r2 h2;have:=Jo zd h2;have:=J0 f _ _ _ _ h;omega
  ·obtain⟨_,r2,h2,h⟩:=Jd h;have:=Jm zd h2;injection h with _ h;subst h;omega
def QbB:Md->Nat
 |.expr=>10
 |.level lv=>10-lv
 |.loop _ _ _=>1
 |.cmp=>6
 |.prim=>2
 |.named=>1
 |.args _ _ _=>11
def Qeg:Md->Prop
 |.level lv=>1<=lv/\lv<=7/\lv≠4
 |.loop lv _ _=>lv=1\/lv=2\/lv=5\/lv=6
 |_=>True
def JeI{lv:Nat}{r:List Tok}{k:Int}(h:opK lv (hd r)=some k):r.tail.length+1=r.length:=by
 cases r with
 |nil=>simp[opK,hd,QiL]at h
 |cons a l=>rfl
def JcG{r:List Tok}{k:Int}(h:Qfq (hd r)=some k):r.tail.length+1=r.length:=by
 cases r with
 |nil=>simp[Qfq,hd,QiL]at h
 |cons a l=>rfl
def QnJ{P:Prop}(h:P:=by
  rcases Jl h with h|⟨_,r3,h3,h⟩
  ·exact Jy h
  have:=Jm (by decide) h3
  rcases Jl h with h|⟨_,r4,h4,h⟩
  ·exact JW f .expr r3 trivial (by simp only[QbB];omega) h
  have:=J0 f _ _ _ _ h4
  rcases Jl h with h|⟨_,r5,h5,h⟩
  ·exact Jy h
  have:=Jm (by decide) h5
  rcases Jl h with h|⟨_,r6,h6,h⟩
  ·exact JW f .expr r5 trivial (by simp only[QbB];omega) h
  cases h):P:=h
def JW:∀(f:Nat)(md:Md)(r:List Tok),Qeg md->12*r.length+QbB md<=f->pM f md r≠.out
 |0,md,r,hg,hf=>by
  exfalso
  cases md<;>simp[QbB,Qeg]at hf hg
  omega
 |f+1,.expr,r,hg,hf=>by
  intro h;simp only[QbB]at hf;rw[pM]at h;split at h
  ·rename_i r1 h1;have:=Jo zd h1
   rcases Jl h with h|⟨_,r2,h2,h⟩
   ·exact KA h
   have:=JQ h2;exact QnJ
  ·split at h
   ·rename_i r1 h1;have:=Jo zd h1
    rcases Jl h with h|⟨_,r2,h2,h⟩
    ·exact JW f .expr r1 trivial (by simp only[QbB];omega) h
    have:=J0 f _ _ _ _ h2;exact QnJ
   ·exact JW f (.level 1) r (by simp only[Qeg];omega) (by simp only[QbB];omega) h
 |f+1,.level lv,r,hg,hf=>by
  intro h;simp only[QbB,Qeg]at hf hg;rw[pM]at h;split at h
  ·rename_i h3;subst h3;split at h
   ·rename_i r1 h1;have:=Jo zd h1
    rcases Jl h with h|⟨_,r2,h2,h⟩
    ·exact JW f (.level 3) r1 (by simp only[Qeg];omega) (by simp only[QbB];omega) h
    cases h
   ·exact JW f .cmp r trivial (by simp only[QbB];omega) h
  ·split at h
   ·rename_i h7;subst h7;split at h
    ·rename_i r1 h1;have:=Jo zd h1
     rcases Jl h with h|⟨_,r2,h2,h⟩
     ·exact JW f (.level 7) r1 (by simp only[Qeg];omega) (by simp only[QbB];omega) h
     cases h
    ·exact JW f .prim r trivial (by simp only[QbB];omega) h
   ·rcases Jl h with h|⟨_,r1,h1,h⟩
    ·exact JW f (.level (lv+1)) r (by simp only[Qeg];omega) (by simp only[QbB];omega) h
    have:=J0 f _ _ _ _ h1;exact JW f (.loop lv _ _) r1 (by simp only[Qeg];omega) (by simp only[QbB];omega) h
 |f+1,.loop lv o b,r,hg,hf=>by
  intro h;simp only[QbB,Qeg]at hf hg;rw[pM]at h;split at h
  ·cases h
  ·rename_i k hk;have:=JeI hk
   rcases Jl h with h|⟨_,r1,h1,h⟩
   ·exact JW f (.level (lv+1)) r.tail (by simp only[Qeg];omega) (by simp only[QbB];omega) h
   have:=J0 f _ _ _ _ h1;exact JW f (.loop lv _ _) r1 hg (by simp only[QbB];omega) h
 |f+1,.cmp,r,hg,hf=>by
  intro h;simp only[QbB]at hf;rw[pM]at h
  rcases Jl h with h|⟨_,r1,h1,h⟩
  ·exact JW f (.level 5) r (by simp only[Qeg];omega) (by simp only[QbB];omega) h
  have:=J0 f _ _ _ _ h1;split at h
  ·cases h
  ·rename_i k hk;have:=JcG hk
   rcases Jl h with h|⟨_,r2,h2,h⟩
   ·exact JW f (.level 5) r1.tail (by simp only[Qeg];omega) (by simp only[QbB];omega) h
   cases h
 |f+1,.prim,r,hg,hf=>by
  intro h;simp only[QbB]at hf;rw[pM]at h;split at h
  ·cases h
  split at h
  ·rename_i r1 h1;have:=Jo zd h1
   rcases Jl h with h|⟨_,r2,h2,h⟩
   ·exact JW f .expr r1 trivial (by simp only[QbB];omega) h
   rcases Jl h with h|⟨_,r3,h3,h⟩
   ·exact Jy h
   cases h
  split at h
  ·cases h
  split at h
  ·cases h
  split at h
  ·rcases Jl h with h|⟨_,r2,h2,h⟩
   ·exact Vw h
   cases h
  split at h
  ·rcases Jl h with h|⟨_,r2,h2,h⟩
   ·exact Vw h
   cases h
  split at h
  ·cases h
  ·exact JW f .named r trivial (by simp only[QbB];omega) h
 |f+1,.named,r,hg,hf=>by
  intro h;simp only[QbB]at hf;rw[pM]at h
  rcases Jl h with h|⟨nm,r1,h1,h⟩
  ·exact KA h
  have:=JQ h1;split at h
  ·cases h
  ·rename_i r2 h2;have:=Jo zd h2;split at h
   ·cases h
   ·exact JW f (.args _ _ _) r2 trivial (by simp only[QbB];omega) h
 |f+1,.args nm o l,r,hg,hf=>by
  intro h;simp only[QbB]at hf;rw[pM]at h
  rcases Jl h with h|⟨_,r1,h1,h⟩
  ·exact JW f .expr r trivial (by simp only[QbB];omega) h
  have:=J0 f _ _ _ _ h1;split at h
  ·rename_i r2 h2;have:=Jo zd h2;exact JW f (.args _ _ _) r2 trivial (by simp only[QbB];omega) h
  ·rcases Jl h with h|⟨_,r2,h2,h⟩
   ·exact Jy h
   cases h
def YH:∀(f:Nat)(ps:List (By×Int))(ts:List Int)(r r':List Tok) a,QaT f ps ts r=.ok a r'->r'.length<=r.length
 |0,_,_,_,_,_,h=>by cases h
 |f+1,ps,ts,r,r',a,h=>by
  rw[QaT]at h;obtain⟨_,r1,h1,h⟩:=Jd h;obtain⟨_,r2,h2,h⟩:=Jd h;obtain⟨_,r3,h3,h⟩:=Jd h;have:=JQ h1;have:=Jm zd h2;have:=Vf h3;split at h
  ·rename_i r4 h4;have:=Jo zd h4;have:=YH f _ _ _ _ _ h;omega
  ·obtain⟨_,r4,h4,h⟩:=Jd h;have:=Jm zd h4;injection h with _ h;subst h;omega
def V9:∀(f:Nat)(ps:List (By×Int))(ts:List Int)(r:List Tok),r.length+1<=f->QaT f ps ts r≠.out
 |0,_,_,r,hf=>by omega
 |f+1,ps,ts,r,hf=>by
  intro h;rw[QaT]at h
  rcases Jl h with h|⟨_,r1,h1,h⟩
  ·exact KA h
  rcases Jl h with h|⟨_,r2,h2,h⟩
  ·exact Jy h
  rcases Jl h with h|⟨_,r3,h3,h⟩
  ·exact Zg h
  have:=JQ h1;have:=Jm zd h2;have:=Vf h3;split at h
  ·rename_i r4 h4;have:=Jo zd h4;exact V9 f _ _ _ zo h
  ·rcases Jl h with h|⟨_,r4,h4,h⟩
   ·exact Jy h
   cases h
def Qln{P:Prop}(h:P:=by
  split at h3
  ·rename_i r9 h9;have:=Jo (by decide) h9;injection h3 with _ h3;subst h3;omega
  ·exact YH _ _ _ _ _ _ h3):P:=h
def JcH{f:Nat}{r r':List Tok}{x:FnS}(h:Qfo f r=.ok x r'):r'.length+1<=r.length:=by
 unfold Qfo at h;obtain⟨_,r1,h1,h⟩:=Jd h;obtain⟨_,r2,h2,h⟩:=Jd h;obtain⟨_,r3,h3,h⟩:=Jd h;obtain⟨_,r4,h4,h⟩:=Jd h;obtain⟨_,r5,h5,h⟩:=Jd h;obtain⟨_,r6,h6,h⟩:=Jd h;obtain⟨_,r7,h7,h⟩:=Jd h;injection h with _ h;subst h;have:=JQ h1;have:=Jm zd h2
 have:r3.length<=r2.length:=by
  exact Qln
 have:=Jm zd h4;have:=Vf h5;have:=Jm zd h6;have:=J0 _ _ _ _ _ h7;omega
def JeJ{f:Nat}{r:List Tok}(hf:12*r.length+12<=f):Qfo f r≠.out:=by
 intro h;unfold Qfo at h
 rcases Jl h with h|⟨_,r1,h1,h⟩
 ·exact KA h
 have:=JQ h1
 rcases Jl h with h|⟨_,r2,h2,h⟩
 ·exact Jy h
 have:=Jm zd h2
 rcases Jl h with h|⟨_,r3,h3,h⟩
 ·split at h
  ·cases h
  ·exact V9 _ _ _ _ zo h
 have:r3.length<=r2.length:=by
  exact Qln
 rcases Jl h with h|⟨_,r4,h4,h⟩
 ·exact Jy h
 have:=Jm zd h4
 rcases Jl h with h|⟨_,r5,h5,h⟩
 ·exact Zg h
 have:=Vf h5
 rcases Jl h with h|⟨_,r6,h6,h⟩
 ·exact Jy h
 have:=Jm zd h6
 rcases Jl h with h|⟨_,r7,h7,h⟩
 ·exact JW _ .expr _ trivial (by simp only[QbB];omega) h
 cases h
def JaJ(g:Nat):∀(f:Nat)(l:List FnS)(r r':List Tok) a,QcR g f l r=.ok a r'->r'.length<=r.length
 |0,_,_,_,_,h=>by cases h
 |f+1,l,r,r',a,h=>by
  rw[QcR]at h;split at h
  ·rename_i r1 h1;have:=Jo zd h1;obtain⟨_,r2,h2,h⟩:=Jd h;have:=JcH h2;have:=JaJ g f _ _ _ _ h;omega
  ·injection h with _ h;subst h;exact Nat.le_refl _
def Zj(g:Nat):∀(f:Nat)(l:List FnS)(r:List Tok),12*r.length+12<=g->r.length+1<=f->QcR g f l r≠.out
 |0,_,_,_,hf=>by omega
 |f+1,l,r,hg,hf=>by
  intro h;rw[QcR]at h;split at h
  ·rename_i r1 h1;have:=Jo zd h1
   rcases Jl h with h|⟨_,r2,h2,h⟩
   ·exact JeJ zo h
   have:=JcH h2;exact Zj g f _ _ zo zo h
  ·cases h
def Vx(g:Nat):∀(f:Nat)(l:List ClS)(r:List Tok),12*r.length+12<=g->r.length+1<=f->QaR g f l r≠.out
 |0,_,_,_,hf=>by omega
 |f+1,l,r,hg,hf=>by
  intro h;rw[QaR]at h;split at h
  ·rename_i r1 h1;have:=Jo zd h1
   rcases Jl h with h|⟨_,r2,h2,h⟩
   ·exact JW _ .expr _ trivial (by simp only[QbB];omega) h
   have:=J0 _ _ _ _ _ h2
   rcases Jl h with h|⟨_,r3,h3,h⟩
   ·exact Jy h
   have:=Jm zd h3
   rcases Jl h with h|⟨_,r4,h4,h⟩
   ·exact Zi h
   have:=JcF h4
   rcases Jl h with h|⟨_,r5,h5,h⟩
   ·exact YF h
   have:=YE h5;exact Vx g f _ _ zo zo h
  ·cases h
def JeK{f:Nat}{r:List Tok}(hf:12*r.length+12<=f):Qfb f r≠.out:=by
 intro h;unfold Qfb at h
 rcases Jl h with h|⟨_,r1,h1,h⟩
 ·exact Zj f f _ _ hf zo h
 have:=JaJ _ _ _ _ _ _ h1
 rcases Jl h with h|⟨_,r2,h2,h⟩
 ·exact Vx f f _ _ zo zo h
 rcases Jl h with h|⟨_,r3,h3,h⟩
 ·exact Jy h
 rcases Jl h with h|⟨_,r4,h4,h⟩
 ·exact Zi h
 split at h<;>cases h
mutual
def siz:Nd->Nat
 |.mk _ _ _ _ l=>Qaz l+1
def Qaz:List Nd->Nat
 |[]=>0
 |a::l=>siz a+Qaz l
end
def JA(k n:Int)(s:By)(o:Int)(l:List Nd):siz (.mk k n s o l)=Qaz l+1:=by unfold siz;rfl
def Ju(a:Nd)(l:List Nd):Qaz (a::l)=siz a+Qaz l:=by rw[Qaz]
def JG:Qaz []=0:=by rw[Qaz]
def JcI(l:List Nd)(a:Nd):Qaz (l++[a])=Qaz l+siz a:=by
 induction l with
 |nil=>simp[Qaz]
 |cons x r ih=>simp[Qaz,ih,Nat.add_assoc]
def KN(a:Nd):0<siz a:=by cases a;rw[JA];omega
def JiK(a:Nd)(o:Int):siz (.mk a.kind a.num a.name o a.kids)=siz a:=by cases a;rw[JA,JA];rfl
def JcJ{a:Nd}{l:List Nd}(h:a∈l):siz a<=Qaz l:=by
 induction l with
 |nil=>cases h
 |cons x r ih=>
  rw[Ju]
  rcases List.mem_cons.1 h with rfl|h
  ·omega
  ·have:=ih h;omega
def JcK(l:List Nd):l.length<=Qaz l:=by
 induction l with
 |nil=>simp
 |cons x r ih=>
  rw[Ju,List.length_cons];have:=KN x;omega
mutual
def JcL:∀a:Nd,Qad a<=siz a
 |.mk k n s o l=>by
  rw[JA];unfold Qad;have:=YI l;omega
def YI:∀l:List Nd,QbW l<=Qaz l
 |[]=>by simp[QbW]
 |a::l=>by
  rw[Ju];unfold QbW;have:=JcL a;have:=YI l;omega
end
def Qej:Md->Nat
 |.loop _ _ a=>siz a
 |.args _ _ l=>Qaz l+1
 |_=>0
def JgS(t:Tok)(k:Int)(a b:Nd):siz (QeV t k a b)<=siz a+siz b+2:=by
 unfold QeV;split
 ·simp only[JA,Ju,JG];omega
 ·split
  ·simp only[JA,Ju,JG];omega
  ·simp only[JA,Ju,JG];omega
def Qnk{P:Prop}(h:P:=by
  obtain⟨_,r2,h2,h⟩:=Jd h;injection h with h0 h;subst h h0;have:=Jo (by decide) h1;have:=Kf f _ _ _ _ h2;simp only[JA,Ju,JG,Qej]at *
  omega):P:=h
def Qng{P:Prop}(h:P:=by
  have:=Jm (by decide) h3;have:=Kf f _ _ _ _ h4;have:=Jm (by decide) h5;have:=Kf f _ _ _ _ h6;simp only[JA,Ju,JG,Qej]at *
  omega):P:=h
def Qly{P:Prop}(h:P:=by
  obtain⟨_,r2,h2,h⟩:=Jd h;injection h with h0 h;subst h h0;have:=Jo (by decide) h1;have:=YG h2;simp only[JA,JG]
  omega):P:=h
def Kf:∀(f:Nat)(md:Md)(r r':List Tok)(a:Nd),pM f md r=.ok a r'->siz a+2*r'.length<=2*r.length+Qej md
 |0,md,r,r',a,h=>by unfold pM at h;cases h
 |f+1,.expr,r,r',a,h=>by
  simp only[Qej];rw[pM]at h;split at h
  ·rename_i r1 h1;obtain⟨_,r2,h2,h⟩:=Jd h;obtain⟨_,r3,h3,h⟩:=Jd h;obtain⟨_,r4,h4,h⟩:=Jd h;obtain⟨_,r5,h5,h⟩:=Jd h;obtain⟨_,r6,h6,h⟩:=Jd h;injection h with h0 h;subst h h0;have:=Jo zd h1;have:=JQ h2;exact Qng
  ·split at h
   ·rename_i r1 h1;obtain⟨_,r2,h2,h⟩:=Jd h;obtain⟨_,r3,h3,h⟩:=Jd h;obtain⟨_,r4,h4,h⟩:=Jd h;obtain⟨_,r5,h5,h⟩:=Jd h;obtain⟨_,r6,h6,h⟩:=Jd h;injection h with h0 h;subst h h0;have:=Jo zd h1;have:=Kf f _ _ _ _ h2;exact Qng
   ·have:=Kf f _ _ _ _ h;simpa[Qej] using this
 |f+1,.level lv,r,r',a,h=>by
  simp only[Qej];rw[pM]at h;split at h
  ·split at h
   ·rename_i r1 h1;exact Qnk
   ·have:=Kf f _ _ _ _ h;simpa[Qej] using this
  ·split at h
   ·split at h
    ·rename_i r1 h1;exact Qnk
    ·have:=Kf f _ _ _ _ h;simpa[Qej] using this
   ·obtain⟨_,r1,h1,h⟩:=Jd h;have:=Kf f _ _ _ _ h1;have:=Kf f _ _ _ _ h;simp only[Qej]at *;omega
 |f+1,.loop lv o b,r,r',a,h=>by
  simp only[Qej];rw[pM]at h;split at h
  ·injection h with h0 h;subst h h0;omega
  ·rename_i k hk;have:=JeI hk;obtain⟨_,r1,h1,h⟩:=Jd h;have:=Kf f _ _ _ _ h1;have:=Kf f _ _ _ _ h;simp only[JA,Ju,JG,Qej]at *;omega
 |f+1,.cmp,r,r',a,h=>by
  simp only[Qej];rw[pM]at h;obtain⟨x,r1,h1,h⟩:=Jd h;have:=Kf f _ _ _ _ h1;split at h
  ·injection h with h0 h;subst h h0;simpa[Qej] using this
  ·rename_i k hk;have:=JcG hk;obtain⟨y,r2,h2,h⟩:=Jd h;have:=Kf f _ _ _ _ h2;injection h with h0 h;subst h h0;have:=JgS (hd r1) k x y;simp only[Qej]at *;omega
 |f+1,.prim,r,r',a,h=>by
  simp only[Qej];rw[pM]at h;split at h
  ·rename_i hk;injection h with h0 h;subst h h0
   have:r.tail.length+1=r.length:=by
    cases r with
    |nil=>exact absurd hk zd
    |cons a l=>rfl
   simp only[JA,JG];omega
  split at h
  ·rename_i r1 h1;obtain⟨x,r2,h2,h⟩:=Jd h;obtain⟨_,r3,h3,h⟩:=Jd h;injection h with h0 h;subst h h0;have:=Jo zd h1;have:=Kf f _ _ _ _ h2;have:=Jm zd h3;rw[JiK];simp only[Qej]at *;omega
  split at h
  ·rename_i r1 h1;injection h with h0 h;subst h h0;have:=Jo zd h1;simp only[JA,JG];omega
  split at h
  ·rename_i r1 h1;injection h with h0 h;subst h h0;have:=Jo zd h1;simp only[JA,JG];omega
  split at h
  ·rename_i r1 h1;exact Qly
  split at h
  ·rename_i r1 h1;exact Qly
  split at h
  ·rename_i hk;injection h with h0 h;subst h h0
   have:r.tail.length+1=r.length:=by
    cases r with
    |nil=>exact absurd hk.1 zd
    |cons a l=>rfl
   simp only[JA,JG];omega
  ·have:=Kf f _ _ _ _ h;simpa[Qej] using this
 |f+1,.named,r,r',a,h=>by
  simp only[Qej];rw[pM]at h;obtain⟨nm,r1,h1,h⟩:=Jd h;have:=JQ h1;split at h
  ·injection h with h0 h;subst h h0;simp only[JA,JG];omega
  ·rename_i r2 h2;have:=Jo zd h2;split at h
   ·rename_i r3 h3;have:=Jo zd h3;injection h with h0 h;subst h h0;simp only[JA,JG];omega
   ·have:=Kf f _ _ _ _ h;simp only[Qej,JG]at *;omega
 |f+1,.args nm o l,r,r',a,h=>by
  simp only[Qej];rw[pM]at h;obtain⟨x,r1,h1,h⟩:=Jd h;have:=Kf f _ _ _ _ h1;split at h
  ·rename_i r2 h2;have:=Jo zd h2;have:=Kf f _ _ _ _ h;simp only[Qej,JcI]at *;omega
  ·obtain⟨_,r2,h2,h⟩:=Jd h;have:=Jm zd h2;injection h with h0 h;subst h h0;simp only[JA,JcI,Qej]at *;omega
def FnS.siz(f:FnS):Nat:=Go.Proofs.YtncanmdgdflnpaaGreatDoor.siz f.body+f.params.length+f.types.length+1
def ClS.siz(c:ClS):Nat:=Go.Proofs.YtncanmdgdflnpaaGreatDoor.siz c.cond+1
def QcZ(l:List FnS):Nat:=(l.map FnS.siz).sum
def Qda(l:List ClS):Nat:=(l.map ClS.siz).sum
def YJ:∀(f:Nat)(ps:List (By×Int))(ts:List Int)(r r':List Tok) a,QaT f ps ts r=.ok a r'->a.1.length+a.2.length+2*r'.length<=2*r.length+ps.length+ts.length
 |0,_,_,_,_,_,h=>by cases h
 |f+1,ps,ts,r,r',a,h=>by
  rw[QaT]at h;obtain⟨_,r1,h1,h⟩:=Jd h;obtain⟨_,r2,h2,h⟩:=Jd h;obtain⟨_,r3,h3,h⟩:=Jd h;have:=JQ h1;have:=Jm zd h2;have:=Vf h3;split at h
  ·rename_i r4 h4;have:=Jo zd h4;have:=YJ f _ _ _ _ _ h;simp only[List.length_append,List.length_singleton]at this;omega
  ·obtain⟨_,r4,h4,h⟩:=Jd h;have:=Jm zd h4;injection h with h0 h;subst h h0;simp only[List.length_append,List.length_singleton];omega
def Vy:∀(f:Nat)(ps:List (By×Int))(ts:List Int)(r r':List Tok) a,ps.length=ts.length->QaT f ps ts r=.ok a r'->a.1.length=a.2.length
 |0,_,_,_,_,_,_,h=>by cases h
 |f+1,ps,ts,r,r',a,he,h=>by
  rw[QaT]at h;obtain⟨_,r1,h1,h⟩:=Jd h;obtain⟨_,r2,h2,h⟩:=Jd h;obtain⟨_,r3,h3,h⟩:=Jd h;split at h
  ·exact Vy f _ _ _ _ _ (by simp[he]) h
  ·obtain⟨_,r4,h4,h⟩:=Jd h;injection h with h0 h;subst h h0;simp[he]
def JgT{f:Nat}{r r':List Tok}{x:FnS}(h:Qfo f r=.ok x r'):x.siz+2*r'.length<=2*r.length/\x.params.length=x.types.length:=by
 unfold Qfo at h;obtain⟨nm,r1,h1,h⟩:=Jd h;obtain⟨_,r2,h2,h⟩:=Jd h;obtain⟨pt,r3,h3,h⟩:=Jd h;obtain⟨_,r4,h4,h⟩:=Jd h;obtain⟨_,r5,h5,h⟩:=Jd h;obtain⟨_,r6,h6,h⟩:=Jd h;obtain⟨_,r7,h7,h⟩:=Jd h;injection h with h0 h;subst h h0;have:=JQ h1;have:=Jm zd h2
 have hp:pt.1.length+pt.2.length+2*r3.length<=2*r2.length/\pt.1.length=pt.2.length:=by
  split at h3
  ·rename_i r9 h9;have:=Jo zd h9;injection h3 with h0 h3;subst h3 h0;simp;omega
  ·have:=YJ _ _ _ _ _ _ h3;exact⟨by simpa using this,Vy _ _ _ _ _ _ rfl h3⟩
 have:=Jm zd h4;have:=Vf h5;have:=Jm zd h6;have:=Kf _ _ _ _ _ h7;simp only[FnS.siz,Qej]at *;exact⟨by omega,hp.2⟩
def JaK(g:Nat):∀(f:Nat)(l:List FnS)(r r':List Tok) a,(∀x∈l,x.params.length=x.types.length)->QcR g f l r=.ok a r'->QcZ a+2*r'.length<=2*r.length+QcZ l/\∀x∈a,x.params.length=x.types.length
 |0,_,_,_,_,_,h=>by cases h
 |f+1,l,r,r',a,hl,h=>by
  rw[QcR]at h;split at h
  ·rename_i r1 h1;have:=Jo zd h1;obtain⟨x,r2,h2,h⟩:=Jd h;obtain⟨g1,g2⟩:=JgT h2
   obtain⟨e1,e2⟩:=JaK g f _ _ _ _ (by
    intro y hy
    rcases List.mem_append.1 hy with hy|hy
    ·exact hl y hy
    ·obtain rfl:y=x:=by simpa using hy
     exact g2) h
   refine⟨?_,e2⟩;simp only[QcZ,List.map_append,List.sum_append,List.map_cons,map_nil,List.sum_cons,sum_nil]at *;omega
  ·injection h with h0 h;subst h h0;exact⟨by omega,hl⟩
def Ya(g:Nat):∀(f:Nat)(l:List ClS)(r r':List Tok) a,QaR g f l r=.ok a r'->Qda a+2*r'.length<=2*r.length+Qda l
 |0,_,_,_,_,h=>by cases h
 |f+1,l,r,r',a,h=>by
  rw[QaR]at h;split at h
  ·rename_i r1 h1;have:=Jo zd h1;obtain⟨x,r2,h2,h⟩:=Jd h;obtain⟨_,r3,h3,h⟩:=Jd h;obtain⟨_,r4,h4,h⟩:=Jd h;obtain⟨_,r5,h5,h⟩:=Jd h;have:=Kf _ _ _ _ _ h2;have:=Jm zd h3;have:=JcF h4;have:=YE h5;have:=Ya g f _ _ _ _ h;simp only[Qda,ClS.siz,Qej,List.map_append,List.sum_append,List.map_cons,map_nil,List.sum_cons,sum_nil]at *;omega
  ·injection h with h0 h;subst h h0;omega
def JgU{f:Nat}{r r':List Tok}{s:Src}(h:Qfb f r=.ok s r'):QcZ s.funcs+Qda s.clauses<=2*r.length/\∀x∈s.funcs,x.params.length=x.types.length:=by
 unfold Qfb at h;obtain⟨fs,r1,h1,h⟩:=Jd h;obtain⟨cs,r2,h2,h⟩:=Jd h;obtain⟨_,r3,h3,h⟩:=Jd h;obtain⟨_,r4,h4,h⟩:=Jd h;obtain⟨e1,e2⟩:=JaK _ _ _ _ _ _ zp h1;have e3:=Ya _ _ _ _ _ _ h2;simp only[QcZ,Qda,map_nil,sum_nil]at e1 e3;split at h
 ·injection h with h0 h;subst h0;exact⟨by simp only[QcZ,Qda];omega,e2⟩
 ·cases h
def Jn(b c:Nat)(l:List An):∃ad cc,Qaw b c l=.slice ad l.length cc/\(l≠[]->ad=some ⟨b,0,none⟩):=by
 unfold Qaw;split
 ·rename_i h;subst h;exact⟨none,0,rfl,λh=>absurd rfl h⟩
 ·exact⟨_,c,rfl,λ_=>rfl⟩
def JO{W:World}{b:Nat}:∀{l:List An}{m i:Nat}{x:An},AtL W b m l->l[i]?=some x->(∀j u,(Qaa x).toList[j]?=some u->W.cell? ⟨b,(m+i)*5+j,none⟩=some u)/\x.At W
 |[],m,i,x,h,hx=>by cases hx
 |a::l,m,0,x,h,hx=>by
  unfold AtL at h;obtain rfl:a=x:=by simpa using hx
  exact⟨h.1,h.2.1⟩
 |a::l,m,i+1,x,h,hx=>by
  unfold AtL at h;have:=JO (i:=i) h.2.2 (by simpa using hx);rw[show m+1+i=m+(i+1) by omega]at this;exact this
def JeL(l:List Nd)(a:Nd):QbW (l++[a])=max (QbW l) (Qad a):=by
 induction l with
 |nil=>simp[QbW]
 |cons x r ih=>simp[QbW,ih,Nat.max_assoc]
def J7(l:List An):ndL l=l.map An.nd:=by
 induction l with
 |nil=>simp[ndL]
 |cons x r ih=>simp[ndL,ih]
def JdK{l:List An}{i:Nat}{x:An}(hx:l[i]?=some x):QbW (ndL (l.take (i+1)))=max (QbW (ndL (l.take i))) (Qad x.nd):=by
 rw[List.take_add_one,hx];simp only[Option.toList_some];rw[KL,JeL]
def JgV{l:List An}(i:Nat):QbW (ndL (l.take i))<=QbW (ndL l):=by
 induction l generalizing i with
 |nil=>simp
 |cons a r ih=>
  cases i with
  |zero=>simp[ndL,QbW]
  |succ i=>
   simp only[List.take_succ_cons,ndL,QbW];have:=ih i;omega
mutual
def JaL{W:World}:∀(a:An),a.At W->∀q∈foot a,q<W.heap.size
 |.mk k n s o b c l,h,q,hq=>by
  unfold An.At at h;replace h:=h.2
  cases l with
  |nil=>simp[foot]at hq
  |cons x r=>
   unfold foot at hq
   rcases List.mem_cons.1 hq with rfl|hq
   ·unfold AtL at h;obtain⟨xA,xn,xc,T1⟩:=Jg x;exact World.block_lt_of_cell? (a:=⟨q,0*5+0,none⟩) W (h.1 0 (Iv x.kind) (by rw[T1];rfl))
   ·exact JcM b (x::r) 0 h q (by rw[Qaf];exact hq)
def JcM{W:World}(b:Nat):∀(l:List An)(i:Nat),AtL W b i l->∀q∈Qaf l,q<W.heap.size
 |[],_,_,q,hq=>by simp[Qaf]at hq
 |a::l,i,h,q,hq=>by
  unfold AtL at h;unfold Qaf at hq
  rcases List.mem_append.1 hq with hq|hq
  ·exact JaL a h.2.1 q hq
  ·exact JcM b l (i+1) h.2.2 q hq
end
def JaM{W W':World}{a:An}(h:a.At W)(hb:Below W.heap.size W W'):a.At W':=JE a h λq hq=>hb.block q (JaL a h q hq)
def YK(k n:Int)(s:By)(o:Int)(b c:Nat)(l:List An):siz (An.mk k n s o b c l).nd=Qaz (ndL l)+1:=by unfold An.nd;rw[JA]
def JH{l:List An}{x:An}(hx:x∈l):siz x.nd<=Qaz (ndL l):=JcJ (by rw[J7];exact List.mem_map.2 ⟨x,hx,rfl⟩)
def Jw(l:List An):l.length<=Qaz (ndL l):=by have:=JcK (ndL l);rw[J7,List.length_map]at this;rw[J7];exact this
def YL:∀(n:Nat)(a:An)(w:World),siz a.nd<=n->n<=1000000000->a.At w->Calls prog 72 #[.agg (Qaa a)] w (Qcz w (Qad a.nd))
 |0,a,w,hn,_,_=>by
  have:=KN a.nd;omega
 |n+1,a,w,hn,hb,hat=>by
  have IH:=λ(x:An) (W:World) h1 h2=>YL n x W h1 zo h2
  obtain⟨k,nn,s,o,b,c,l⟩:=a;have hN:Qad (An.mk k nn s o b c l).nd=QbW (ndL l)+1:=by unfold An.nd Qad;rfl
  rw[YK]at hn;rw[hN];unfold An.At at hat;replace hat:=hat.2;obtain⟨ad,cc,M3,yA⟩:=Jn b c l
  have bA:Qaa (An.mk k nn s o b c l)=#[Iv k,Iv nn,Sv s,Iv o,.slice ad l.length cc]:=by
   show #[_,_,_,_,Qaw b c l]=_
   rw[M3]
  rw[bA];have gA:=Zh hat;have HAD:=Zh yA;obtain⟨M,hM⟩:∃M,QbW (ndL l)=M:=⟨_,rfl⟩
  have HM:=Zh hM;have mA:M<=n:=by have:=YI (ndL l);omega
  rw[hM];have hA:l.length<=n:=by have:=Jw l;omega
  have j4:Hi (Qaz (ndL l)<=n):=by rw[Hi];omega
  clear hat yA M3 bA hN hM hn;go_enter func72,ntmps72;go_wp2_with fail;have cA:Hi (Below w.heap.size w (w.alloc (.cells #[Iv k,Iv nn,Sv s,Iv o,.slice ad l.length cc] 119))):=zzb.alloc zzl _;go_loopg [3,9] l.length λg v3 v9 wr=>∃i m:Nat,g+i=l.length/\v3=Iv m/\v9=Iv i/\Hi (m=QbW (ndL (l.take i)))/\Hi (Below w.heap.size w wr)
  case atStart=>exact⟨0,0,rfl,rfl,rfl,by simp[Hi,ndL,QbW],cA⟩
  case round=>
  clear cA;obtain⟨wl,rfl⟩:=zG wr
  obtain⟨i,m,hg,rfl,rfl,hm,hw⟩:=hrel
  by_cases hi:i<l.length
  ·have hil:(i:Int)<(l.length:Int):=zo
   obtain⟨x,hx⟩:∃x,l[i]?=some x:=⟨l[i],List.getElem?_eq_getElem hi⟩
   have hmem:x∈l:=List.mem_of_getElem? hx;have yA:ad=some ⟨b,0,none⟩:=HAD.o (List.ne_nil_of_mem hmem);obtain⟨hc,uA⟩:=JO gA.o hx;rw[Nat.zero_add]at hc;obtain⟨xA,xn,xc,T1⟩:=Jg x;rw[T1]at hc;have hcl:∀j u,(#[Iv x.kind,Iv x.num,.string (bs x.name),Iv x.off,.slice xA xn xc]:Array Value).toList[j]?=some u->wl.cell? ⟨b,i*5+j,none⟩=some u:=λj u hj=>(hw.o.cell (World.block_lt_of_cell? _ _ (hc j u hj))).trans (hc j u hj)
   have c0:=hcl 0 _ rfl;have c1:=hcl 1 _ rfl;have c2:=hcl 2 _ rfl;have c3:=hcl 3 _ rfl;have c4:=hcl 4 _ rfl;simp only[Nat.add_zero]at c0;have vA:x.At wl:=JE x uA λq hq=>hw.o.block q (JaL x uA q hq)
   have jA:siz x.nd<=n:=Nat.le_trans (JH hmem) j4.o;have iA:Hi (max m (Qad x.nd)=QbW (ndL (l.take (i+1)))):=by rw[Hi,JdK hx,hm.o]
   have kA:m<=n:=by rw[hm.o];have:=JgV (l:=l) i;have:=HM.o;omega
   have wk:=zI i;have dA:=Zh vA;have HW:=Zh hw;have O4:=Zh T1;have HG:=Zh hg;subst yA;clear hc hcl hx hmem T1 uA vA hm hw hi HAD hg;have zA:Below wl.heap.size wl (wl.alloc (.cells #[Iv x.kind,Iv x.num,.string (bs x.name),Iv x.off,.slice xA xn xc] 119)):=zzb.alloc zzl _;have cx:=IH x _ jA (JaM dA.o zA);rw[O4.o]at cx;have aA:=Zh (HW.o.trans (zA.mono HW.o.size));clear zA;go_wp2_with fail;refine cx.mono ?_;rintro e w2 ⟨rfl,I0⟩;have C4:=Zh (aA.o.trans (I0.mono aA.o.size));clear I0 cx;go_wp2;go_roundg (l.length-(i+1))
   case measure=>have:=HG.o;omega
   case rel=>exact⟨i+1,max m (Qad x.nd),by omega,by go_num,by go_num,iA,C4⟩
  ·have hil:¬(i:Int)<(l.length:Int):=zo
   obtain rfl:i=l.length:=zo
   have eA:m=M:=by rw[hm.o,List.take_length];exact HM.o
   subst eA;have wk:=zI m;have dil:((l.length:Int)<(l.length:Int))=False:=zp
   clear hil hm;go_wp2;go_ret;exact⟨by go_num,hw.o⟩
def JeM{w w':World}{base n e size:Nat}{v:Value}{xs:List Value}(h:w.ownsRow base e size v n xs)(hb:Below w.heap.size w w'):w'.ownsRow base e size v n xs:=Jx h (Chg.of_below hb []) zp
def JcN{w:World}{base e size n:Nat}{v:Value}{xs:List Value}(h:w.ownsRow base e size v n xs):∀k,v.ownBlock=some k->base<=k:=λk hk=>(h.lt k hk).1
def Value.blk(v:Value):Nat:=v.ownBlock.getD 0
def KU{w:World}{base e size n:Nat}{v:Value}{xs:List Value}(h:w.ownsRow base e size v n xs):∃ad cc,v=.slice ad n cc/\(0<n->ad=some ⟨Value.blk v,0,none⟩):=by
 rcases h.2 with⟨rfl,rfl⟩|⟨g,cap,cur,rfl,_⟩
 ·exact⟨none,0,rfl,λh=>absurd h zo⟩
 ·exact⟨_,cap,rfl,λ_=>rfl⟩
def KB(w:World)(cs:Array Value)(e:TypeId)(j:Nat):(w.alloc (.cells cs e)).cell? ((⟨w.heap.size,0,none⟩:Addr).add j)=cs[j]?:=by
 exact Qnm
def Qfx(g size off n:Nat):List Value:=(List.range n).map λi=>.pointer (some ⟨g,i*size+off,none⟩)
def JaN(g size off n:Nat):Qfx g size off (n+1)=Qfx g size off n++[.pointer (some ⟨g,n*size+off,none⟩)]:=by simp[Qfx,List.range_succ]
def Qkk:(prog.info? 133).map (λi=>(i.zero,i.size,i.bytes))=some (some (.pointer none),1,8):=zk
def Qhe(w:World)(S:Qak)(e:Ending)(w':World):Prop:=
 ∃v,e=.returned v/\w'.ownsRow w.heap.size 133 1 v (S.funcs.length+S.clauses.length) (Qfx (Value.blk S.fv) 10 5 S.funcs.length++Qfx (Value.blk S.cv) 7 0 S.clauses.length)/\Below w.heap.size w w'
def JeN(w:World)(sb:Nat)(S:Qak)(h:QaH w sb S)(h1:S.funcs.length<=100000000)(h2:S.clauses.length<=100000000):Calls prog 71 #[Pt sb] w (Qhe w S):=by
 obtain⟨R,hR⟩:∃R,Qhe w S=R:=⟨_,rfl⟩
 rw[hR];have HR:Hi (R=Qhe w S):=hR.symm;have HB:=Zh h.box;obtain⟨fa,fc,yA,G3⟩:=KU h.fown;obtain⟨ca,cc,vA,cA⟩:=KU h.cown;have xA:=Zh G3;have uA:=Zh cA;obtain⟨fs,cs,act,fv,cv⟩:=S;dsimp only at yA vA h1 h2 HB xA uA;generalize bA:Value.blk fv=fb at*;generalize P4:Value.blk cv=cb at*;have L1:=Zh bA;have R5:=Zh P4;rw[yA,vA]at HB;generalize eA:fs.length=nf at*;generalize iA:cs.length=nc at*;have kA:=Zh eA;have jA:=Zh iA;clear h hR G3 cA bA P4 yA vA eA iA;obtain⟨i0,hi,dA,gA,hA⟩:=info_parts Qkk;have HI:=Zh hi;have b0:=Ja HB.o 0;have b1:=Ja HB.o 1;simp only[zW]at b0 b1;go_enter func71,ntmps71;go_wp2_with fail;go_loopg [3,11] nf λg v3 v11 wr=>∃i:Nat,g+i=nf/\v11=Iv i/\Hi (wr.ownsRow w.heap.size 133 1 v3 i (Qfx fb 10 5 i))/\Hi (Below w.heap.size w wr)
 case atStart=>exact⟨0,rfl,rfl,World.ownsRow_nil _ _ _ _,zzb⟩
 case round=>
 obtain⟨wl,rfl⟩:=zG wr
 obtain⟨i,hg,rfl,ho,hw⟩:=hrel;have U0:=(hw.o.block _ (Jb HB.o)).trans HB.o;have b0:=Ja U0 0;have b1:=Ja U0 1;simp only[zW]at b0 b1
 by_cases hil:i<nf
 ·have hl:(i:Int)<(nf:Int):=zo
  have aA:fa=some ⟨fb,0,none⟩:=xA.o zo;obtain⟨va,vn,vc,zA⟩:=Ji ho.o;subst zA;have wk:=zI i;have HG:=Zh hg;subst aA;clear xA hg U0;go_wp2_with (at_builtin;refine wpList_append_own _ rfl _ _ 131 rfl w.heap.size 133 i0 (.pointer none) 1 8 underlying131 HI.o dA gA hA rfl zd _ _ _ rfl (ho.o.alloc _) ⟨wl.heap.size,0,none⟩ 1 1 [.pointer (some ⟨fb,i*10+5,none⟩)] rfl rfl ?c1 ?c2 ?c3 ?c4 ?c5 ?_)
  case c1=>
   intro j u hj;rw[KB];simpa using hj
  case c2=>intro u hu;simp at hu;subst hu;rfl
  case c3=>unfold maxLen;omega
  case c4=>omega
  case c5=>simp;exact le_trans hw.o.size zo
  intro v' w' L3 hgrow _;have A0:=(hw.o.alloc hw.o.size (.cells #[.pointer (some ⟨fb,i*10+5,none⟩)] 133))
  have HW:=Zh (A0.grown hgrow (by simp;exact le_trans hw.o.size zo) (JcN ho.o));rw[<-JaN]at L3;have HO:=Zh L3;go_wp2;go_roundg (nf-(i+1))
  case measure=>have:=HG.o;omega
  case rel=>exact⟨i+1,by omega,by go_num,HO,HW⟩
 ·have hl:¬(i:Int)<(nf:Int):=zo
  obtain rfl:i=nf:=zo
  have HO:=Zh ho.o;have HW:=Zh hw.o;have mA:True:=trivial;go_wp2_with fail;go_loopg [3,30] nc λg v3 v30 wr=>∃j:Nat,g+j=nc/\v30=Iv j/\Hi (wr.ownsRow w.heap.size 133 1 v3 (i+j) (Qfx fb 10 5 i++Qfx cb 7 0 j))/\Hi (Below w.heap.size w wr)
  case atStart=>exact⟨0,rfl,rfl,by simpa[Qfx,Hi] using HO.o,HW⟩
  case round=>
  obtain⟨wm,rfl⟩:=zG wr
  obtain⟨j,hg,rfl,ho,hw⟩:=hrel;have U0:=(hw.o.block _ (Jb HB.o)).trans HB.o;have b1:=Ja U0 1;simp only[zW]at b1
  by_cases wA:j<nc
  ·have hl:(j:Int)<(nc:Int):=zo
   have aA:ca=some ⟨cb,0,none⟩:=uA.o zo;obtain⟨va,vn,vc,zA⟩:=Ji ho.o;subst zA;have wk:=zI j;have HG:=Zh hg;subst aA;clear uA hg U0;go_wp2_with (at_builtin;refine wpList_append_own _ rfl _ _ 131 rfl w.heap.size 133 i0 (.pointer none) 1 8 underlying131 HI.o dA gA hA rfl zd _ _ _ rfl (ho.o.alloc _) ⟨wm.heap.size,0,none⟩ 1 1 [.pointer (some ⟨cb,j*7,none⟩)] rfl rfl ?c1 ?c2 ?c3 ?c4 ?c5 ?_)
   case c1=>
    intro j u hj;rw[KB];simpa using hj
   case c2=>intro u hu;simp at hu;subst hu;rfl
   case c3=>unfold maxLen;omega
   case c4=>omega
   case c5=>simp;exact le_trans hw.o.size zo
   intro v' w' L3 hgrow _;have A0:=(hw.o.alloc hw.o.size (.cells #[.pointer (some ⟨cb,j*7,none⟩)] 133))
   have HW:=Zh (A0.grown hgrow (by simp;exact le_trans hw.o.size zo) (JcN ho.o));rw[show Qfx cb 7 0 j++[Value.pointer (some ⟨cb,j*7,none⟩)]=Qfx cb 7 0 (j+1) by rw[JaN,Nat.add_zero]]at L3;have HO:=Zh L3;go_wp2;go_roundg (nc-(j+1))
   case measure=>have:=HG.o;omega
   case rel=>exact⟨j+1,by omega,by go_num,HO,HW⟩
  ·have hl:¬(j:Int)<(nc:Int):=zo
   obtain rfl:j=nc:=zo
   go_wp2;rw[HR.o];refine⟨_,rfl,?_,hw.o⟩;simp only[kA.o,jA.o,L1.o,R5.o];exact ho.o
def QcT(g:Nat):Nat->List FnA->List (Addr×An)
 |_,[]=>[]
 |i,f::l=>(⟨g,i*10+5,none⟩,f.body)::QcT g (i+1) l
def QcU(g:Nat):Nat->List ClA->List (Addr×An)
 |_,[]=>[]
 |i,c::l=>(⟨g,i*7,none⟩,c.cond)::QcU g (i+1) l
def Qak.rootsA(S:Qak):List (Addr×An):=QcT (Value.blk S.fv) 0 S.funcs++QcU (Value.blk S.cv) 0 S.clauses
def VU(g:Nat):∀(l:List FnA)(i j:Nat),(QcT g i l)[j]?=l[j]?.map λf=>(⟨g,(i+j)*10+5,none⟩,f.body)
 |[],i,j=>by simp[QcT]
 |f::l,i,0=>by simp[QcT]
 |f::l,i,j+1=>by
  simp only[QcT,List.getElem?_cons_succ];rw[VU g l (i+1) j,show i+1+j=i+(j+1) by omega]
def VV(g:Nat):∀(l:List ClA)(i j:Nat),(QcU g i l)[j]?=l[j]?.map λc=>(⟨g,(i+j)*7,none⟩,c.cond)
 |[],i,j=>by simp[QcU]
 |f::l,i,0=>by simp[QcU]
 |f::l,i,j+1=>by
  simp only[QcU,List.getElem?_cons_succ];rw[VV g l (i+1) j,show i+1+j=i+(j+1) by omega]
def Vz(g:Nat):∀(l:List FnA)(i:Nat),(QcT g i l).length=l.length
 |[],i=>rfl
 |f::l,i=>by simp[QcT,Vz g l]
def VA(g:Nat):∀(l:List ClA)(i:Nat),(QcU g i l).length=l.length
 |[],i=>rfl
 |f::l,i=>by simp[QcU,VA g l]
def JcO(g size off n j:Nat):(Qfx g size off n)[j]?=if j<n then some (.pointer (some ⟨g,j*size+off,none⟩)) else none:=by
 unfold Qfx;rw[getElem?_map]
 by_cases h:j<n
 ·rw[if_pos h,List.getElem?_range h];rfl
 ·rw[if_neg h,List.getElem?_eq_none zq];rfl
def Qlh{P:Prop}(h:P:=by
  by_cases h:j<l.length
  ·rw[if_pos h,List.getElem?_eq_getElem h];simp
  ·rw[if_neg h,List.getElem?_eq_none (by omega)];rfl):P:=h
def JbW(g:Nat)(l:List FnA):(QcT g 0 l).map (λr=>Value.pointer (some r.1))=Qfx g 10 5 l.length:=by
 refine List.ext_getElem? λj=>?_
 rw[getElem?_map,VU,JcO];exact Qlh
def JbX(g:Nat)(l:List ClA):(QcU g 0 l).map (λr=>Value.pointer (some r.1))=Qfx g 7 0 l.length:=by
 refine List.ext_getElem? λj=>?_
 rw[getElem?_map,VV,JcO];exact Qlh
def JdL(S:Qak):S.rootsA.map (λr=>Value.pointer (some r.1))=Qfx (Value.blk S.fv) 10 5 S.funcs.length++Qfx (Value.blk S.cv) 7 0 S.clauses.length:=by
 unfold Qak.rootsA;rw[List.map_append,JbW,JbX]
def JaO(g:Nat):∀(l:List FnA)(i:Nat),(QcT g i l).map (λr=>r.2.nd)=(l.map FnA.src).map (·.body)
 |[],i=>rfl
 |f::l,i=>by simp[QcT,JaO g l,FnA.src]
def JaP(g:Nat):∀(l:List ClA)(i:Nat),(QcU g i l).map (λr=>r.2.nd)=(l.map ClA.src).map (·.cond)
 |[],i=>rfl
 |f::l,i=>by simp[QcU,JaP g l,ClA.src]
def JcP(S:Qak):S.rootsA.map (λr=>r.2.nd)=S.src.roots:=by
 unfold Qak.rootsA Src.roots Qak.src;rw[List.map_append,JaO,JaP]
def Kd{α:Type}{cells:α->List Value}{size:Nat}(hs:∀x,(cells x).length=size):∀(l:List α)(i j:Nat)(x:α)(u:Value),l[i]?=some x->(cells x)[j]?=some u->(l.flatMap cells)[i*size+j]?=some u
 |[],i,j,x,u,h,hj=>by cases h
 |a::l,0,j,x,u,h,hj=>by
  obtain rfl:a=x:=by simpa using h
  have hlt:=(List.getElem?_eq_some_iff.1 hj).1;rw[List.flatMap_cons,Nat.zero_mul,zero_add,List.getElem?_append_left hlt];exact hj
 |a::l,i+1,j,x,u,h,hj=>by
  rw[List.flatMap_cons,List.getElem?_append_right (by rw[hs,Nat.succ_mul];omega),hs,show (i+1)*size+j-size=i*size+j by rw[Nat.succ_mul];omega];exact Kd hs l i j x u (by simpa using h) hj
def JT{W:World}{base e size n:Nat}{v:Value}{xs:List Value}(h:W.ownsRow base e size v n xs){j:Nat}{u:Value}(hj:xs[j]?=some u):W.cell? ⟨Value.blk v,j,none⟩=some u:=by
 rcases h.2 with⟨rfl,rfl⟩|⟨g,cap,cur,rfl,_⟩
 ·have:=h.1;rw[Nat.zero_mul]at this;rw[List.eq_nil_of_length_eq_zero this]at hj
  cases hj
 ·have:=h.cells (g:=g) rfl j u hj;rw[show (⟨g,0,none⟩:Addr).add j=⟨g,j,none⟩ by unfold Addr.add;split<;>simp_all]at this;exact this
def FnA.cells_length(f:FnA):f.cells.length=10:=by simp[FnA.cells,JV]
def ClA.cells_length(c:ClA):c.cells.length=7:=by simp[ClA.cells,JV]
def Qhf(W:World)(r:Addr×An):Prop:=r.1.spot=none/\(∀j u,(Qaa r.2).toList[j]?=some u->W.cell? ⟨r.1.block,r.1.off+j,none⟩=some u)/\r.2.At W
def Qhf.below{W W':World}{r:Addr×An}(h:Qhf W r)(hb:Below W.heap.size W W'):Qhf W' r:=
 ⟨h.1,λj u hj=>(hb.cell (World.block_lt_of_cell? _ _ (h.2.1 j u hj))).trans (h.2.1 j u hj),JaM h.2.2 hb⟩
def JgW{W:World}{sb:Nat}{S:Qak}(h:QaH W sb S):∀r∈S.rootsA,Qhf W r:=by
 intro r hr
 rcases List.mem_append.1 hr with hr|hr
 ·obtain⟨i,hi⟩:=List.getElem?_of_mem hr;rw[VU]at hi;obtain⟨f,hf,rfl⟩:=Option.map_eq_some_iff.1 hi;refine⟨rfl,λj u hj=>?_,(h.fok f (mem_of_getElem? hf)).1.bat⟩
  have h1:f.cells[5+j]?=some u:=by
   unfold FnA.cells;rw[List.getElem?_append_right zp];simpa using hj
  have:=JT h.fown (Kd FnA.cells_length S.funcs i (5+j) f u hf h1);rw[<-Nat.add_assoc]at this;simpa using this
 ·obtain⟨i,hi⟩:=List.getElem?_of_mem hr;rw[VV]at hi;obtain⟨c,hf,rfl⟩:=Option.map_eq_some_iff.1 hi;refine⟨rfl,λj u hj=>?_,(h.cok c (mem_of_getElem? hf)).1.at'⟩
  have h1:c.cells[j]?=some u:=by
   unfold ClA.cells;rw[List.getElem?_append_left (List.getElem?_eq_some_iff.1 hj).1];exact hj
  have:=JT h.cown (Kd ClA.cells_length S.clauses i j c u hf h1);simpa using this
def QhJ(er o:Int):Value:=.iface 69 (.agg #[Iv er,Iv o])
def QjL(w:World)(er:Int)(x:Option Int)(e:Ending)(w':World):Prop:=
 match x with
 |none=>e=.returned (.tuple #[])/\Below w.heap.size w w'
 |some o=>e=.panicked [{v:=QhJ er o,recovered:=false}]/\Below w.heap.size w w'
def JdM{l:List (Addr×An)}{i:Nat}{r:Addr×An}(h:l[i]?=some r):(((l.drop i).map λr=>r.2.nd).find? λn=>decide (40<Qad n))=if 40<Qad r.2.nd then some r.2.nd else ((l.drop (i+1)).map λr=>r.2.nd).find? (λn=>decide (40<Qad n)):=by
 rw[List.drop_eq_getElem_cons (List.getElem?_eq_some_iff.1 h).1,(List.getElem?_eq_some_iff.1 h).2,List.map_cons,List.find?_cons]
 by_cases hn:40<Qad r.2.nd
 ·rw[if_pos hn];simp[hn]
 ·rw[if_neg hn];simp[hn]
def JeO(w:World)(sb:Nat)(S:Qak)(h:QaH w sb S)(h1:S.funcs.length<=100000000)(h2:S.clauses.length<=100000000)(h3:∀r∈S.rootsA,siz r.2.nd<=1000000000):Calls prog 35 #[Pt sb] w (QjL w 7 (Qcg S.src)):=by
 have cr:=JeN w sb S h h1 h2;obtain⟨X,hX⟩:∃X,Qcg S.src=X:=⟨_,rfl⟩
 rw[hX];obtain⟨R,hR⟩:∃R,QjL w 7 X=R:=⟨_,rfl⟩
 rw[hR];have HR:Hi (R=QjL w 7 X):=hR.symm;have eA:=JgW h;unfold Qhe at cr;rw[<-JdL]at cr;have uA:S.funcs.length+S.clauses.length=S.rootsA.length:=by unfold Qak.rootsA;rw[List.length_append,Vz,VA]
 rw[uA]at cr;unfold Qcg at hX;rw[<-JcP]at hX;generalize S.rootsA=L at*;have HX:=Zh hX;have jA:=Zh eA;have j4:=Zh h3;go_enter func35,ntmps35;go_wp2_with fail;refine cr.mono ?_;rintro e w1 ⟨v,rfl,zA,A0⟩;obtain⟨ad,cc,hv,vA⟩:=KU zA;have HOW:=Zh zA;have HAD:=Zh vA
 generalize dA:Value.blk v=vb at*;have gA:=Zh dA;subst hv;have hA:=Zh A0;go_wp2_with fail;go_loopg [7] L.length λg v7 wr=>∃i:Nat,g+i=L.length/\v7=Iv i/\Hi ((((L.drop i).map λr=>r.2.nd).find? λn=>decide (40<Qad n)).map Nd.off=X)/\Hi (Below w.heap.size w wr)/\Hi (Below w1.heap.size w1 wr)
 case atStart=>exact⟨0,rfl,rfl,HX.o,hA,zzb⟩
 case round=>
 obtain⟨wl,rfl⟩:=zG wr
 obtain⟨i,hg,rfl,hx,hw,hw1⟩:=hrel
 by_cases hil:i<L.length
 ·have hl:(i:Int)<(L.length:Int):=zo
  obtain⟨r,hr⟩:∃r,L[i]?=some r:=⟨L[i],List.getElem?_eq_getElem hil⟩
  have vA:ad=some ⟨vb,0,none⟩:=HAD.o zo;have hc:=JT HOW.o (j:=i) (u:=.pointer (some r.1)) (by rw[getElem?_map,hr];rfl);rw[gA.o]at hc;have c0:=(hw1.o.cell (World.block_lt_of_cell? _ _ hc)).trans hc;have kA:=(jA.o r (mem_of_getElem? hr)).below hw.o;have hsz:=j4.o r (mem_of_getElem? hr);have hst:=JdM hr;obtain⟨⟨rb,ro,rp⟩,x⟩:=r;obtain⟨aA,yA,bA⟩:=kA;dsimp only at aA yA bA hsz hst c0;subst aA;obtain⟨xA,xn,xc,T1⟩:=Jg x;rw[T1]at yA;have d0:=yA 0 _ rfl;have d2:=yA 2 _ rfl;have d3:=yA 3 _ rfl;have d4:=yA 4 _ rfl;simp only[Nat.add_zero]at d0;have cx:=YL 1000000000 x wl hsz zzl bA;rw[T1]at cx;have HG:=Zh hg;have HX:=Zh hx.o;rw[hst]at HX;have HW:=Zh hw.o;have cA:=Zh hw1.o;subst vA;go_wp2_with fail;refine cx.mono ?_;rintro e w2 ⟨rfl,I0⟩;have mA:=(I0.cell (World.block_lt_of_cell? _ _ d3)).trans d3;have C4:=Zh (HW.o.trans (I0.mono HW.o.size));have iA:=Zh (cA.o.trans (I0.mono cA.o.size))
  by_cases hn:40<Qad x.nd
  ·have dn:(40:Int)<(Qad x.nd:Int):=zo
   rw[if_pos hn]at HX;go_wp2;refine⟨rfl,?_⟩;rw[HR.o,<-HX.o];exact⟨by rw[YC];rfl,C4.o⟩
  ·have dn:¬(40:Int)<(Qad x.nd:Int):=zo
   rw[if_neg hn]at HX;go_wp2;go_roundg (L.length-(i+1))
   case measure=>have:=HG.o;omega
   case rel=>exact⟨i+1,by omega,by go_num,HX,C4,iA⟩
 ·have hl:¬(i:Int)<(L.length:Int):=zo
  obtain rfl:i=L.length:=zo
  have HX:=Zh hx.o;rw[List.drop_length]at HX;go_wp2;go_end0;rw[HR.o,<-HX.o];exact⟨rfl,hw.o⟩
def QcI:Go.Maps.Keyed prog 9:=Go.Maps.string_keyed underlying9
def Yi{s:By}(hs:s.length<=1000000):keyOf prog 9 (Sv s)=some (.string s):=by
 rw[Go.WideMaps.keyOf_string_mk underlying9 (by rw[JP];unfold maxLen;omega),Vm]
def JgX{a:Int}(h:0<=a/\a<=1000000000):(Lit.int .i64 a).wf=true:=by
 simp[Lit.wf,IntKind.min,IntKind.max,IntKind.signed,IntKind.bits];omega
def Qbp(w:World)(b n:Nat)(f:By->Option Nat):Prop:=
 ∃D:DataW Unit,w.ownsMap prog 9 (plainElem prog 3) b n D/\Go.Maps.IsMap D/\
  ∀s:By,s.length<=1000000->Go.Maps.has D (.string s)=(f s).isSome/\D.atKey (.string s) (.lit (.int .i64 0))=.lit (.int .i64 ((f s).getD 0:Nat))
def QjM(w:World):(zeroValue 3).run prog w=.ok (Iv 0) w:=zk
def Qbp.look{w:World}{b n:Nat}{f:By->Option Nat}(h:Qbp w b n f){s:By}(hs:s.length<=1000000):
  (Instr.lookup 136 (.map (some b)) (Sv s) true).run prog w=.ok (.tuple #[Iv ((f s).getD 0:Nat),.bool (f s).isSome]) w:=by
 obtain⟨D,ho,hm,hf⟩:=h;obtain⟨h1,h2⟩:=hf s hs;obtain⟨v,ps,hrun,hv⟩:=ho.look_ok QcI underlying136 (QjM w) (plainElem_int underlying3 zd) (Yi hs);rw[hrun];rw[h2]at hv;obtain⟨c,rfl,hc,hw⟩:=plainElem_int_inv underlying3 hv;simp only[Prod.mk.injEq,DataW.lit.injEq,Lit.int.injEq]at hc;rw[h1,<-hc.1.2]
def Qbp.upd{w:World}{b n:Nat}{f:By->Option Nat}(h:Qbp w b n f)(hn:n<maxLen){s:By}(hs:s.length<=1000000){v:Nat}(hv:v<=1000000000):
  ∃w',(Instr.mapUpdate 136 (.map (some b)) (Sv s) (Iv v)).run prog w=.ok () w'/\Qbp w' b (n+1) (λx=>if x=s then some v else f x)/\Chg [b] w w':=by
 obtain⟨D,ho,hm,hf⟩:=h;have hk:=Yi hs;obtain⟨w',hrun,yA,hg⟩:=ho.update QcI underlying136 hn hk (plainElem_int underlying3 (JgX (a:=(v:Nat)) zo));refine⟨w',hrun,⟨_,yA,hm.put _ _,λx hx=>?_⟩,Chg.of_grownBy hg⟩;dsimp only
 by_cases e:x=s
 ·subst e;rw[if_pos rfl,Go.Maps.has_put_same hm (QcI.key hk),Go.Maps.atKey_put_same hm (QcI.key hk)];exact⟨rfl,rfl⟩
 ·rw[if_neg e];have xA:(Lit.string x)≠Lit.string s:=λh=>e (by injection h)
  rw[Go.Maps.has_put_other xA,Go.Maps.atKey_put_other xA];exact hf x hx
def Qbp.new(w:World):Qbp (w.alloc (.map #[] 0)) w.heap.size 0 (λ_=>none):=
 ⟨.map [],World.ownsMap_made w _ _ _,Go.Maps.isMap_empty,λ_ _=>⟨rfl,rfl⟩⟩
def Qbp.lt{w:World}{b n:Nat}{f:By->Option Nat}(h:Qbp w b n f):b<w.heap.size:=h.choose_spec.1.lt
def Qbp.same{w w':World}{b n:Nat}{f:By->Option Nat}(h:Qbp w b n f)(hc:w'.heap[b]?=w.heap[b]?):Qbp w' b n f:=by
 obtain⟨D,⟨es,xA,hb,r⟩,q⟩:=h;exact⟨D,⟨es,xA,hc.trans hb,r⟩,q⟩
def Qbp.keep{S:List Nat}{w w':World}{b n:Nat}{f:By->Option Nat}(h:Qbp w b n f)(hc:Chg S w w')(hn:b∉S):Qbp w' b n f:=h.same (hc.block b h.lt hn)
def addF(x:Option Int)(o:Int):Option Int:=some (match x with|none=>o|some b=>if o<b then o else b)
def QaG(x:Option Int)(l:List Int):Option Int:=l.foldl addF x
def Jt(x:Option Int)(a b:List Int):QaG x (a++b)=QaG (QaG x a) b:=List.foldl_append
def JcQ(x:Option Int):QaG x []=x:=rfl
def JeP(o:Int):addF none o=some o:=rfl
def YM(b o:Int):addF (some b) o=some (if o<b then o else b):=rfl
def Zk(a:Int)(l:List Int):Qbq (a::l)=some (match Qbq l with|none=>a|some b=>min a b):=rfl
def Qnp{P:Prop}(h:P:=by
  cases Qbq l with
  |none=>
   dsimp only
   congr 1
   simp only[Int.min_def]
   repeat' split
   all_goals omega
  |some c=>
   dsimp only
   congr 1
   simp only[Int.min_def]
   repeat' split
   all_goals omega):P:=h
def JaQ(b:Int):∀l:List Int,QaG (some b) l=some (match Qbq l with|none=>b|some c=>min b c)
 |[]=>rfl
 |a::l=>by
  show QaG (addF (some b) a) l=_
  rw[YM,JaQ _ l,Zk]
  by_cases h:a<b
  ·rw[if_pos h];exact Qnp
  ·rw[if_neg h];exact Qnp
def Zl(l:List Int):QaG none l=Qbq l:=by
 cases l with
 |nil=>rfl
 |cons a l=>
  show QaG (addF none a) l=_
  rw[JeP,JaQ,Zk]
def Qbf(W:World)(rb:Nat)(t:TypeId)(x:Option Int)(M:Value):Prop:=W.heap[rb]?=some (.cells #[.bool x.isSome,Iv (x.getD 0),M] t (0,0))
def Qmg(w:World)(rb:Nat)(t:TypeId)(x:Option Int)(M:Value)(e:Ending)(w':World):Prop:=e=.returned (.tuple #[])/\Qbf w' rb t x M/\Chg [rb] w w'
def Vo(w:World)(rb:Nat)(t:TypeId)(x:Option Int)(M:Value)(o:Int)(h:Qbf w rb t x M):Calls prog 73 #[Pt rb,Iv o] w (Qmg w rb t (addF x o) M):=by
 unfold Qbf at h;obtain⟨R,hR⟩:∃R,Qmg w rb t (addF x o) M=R:=⟨_,rfl⟩
 rw[hR];have HR:Hi (R=Qmg w rb t (addF x o) M):=hR.symm;have b0:=Ja h 0;have b1:=Ja h 1;simp only[zW]at b0 b1;have f0:=Jc h 0;have f1:=Jc h 1;have hl:=Jb h;have H:=Zh h
 have HP:Hi (Qbf ((w.setCell ⟨rb,0,none⟩ (.bool true)).setCell ⟨rb,1,none⟩ (Iv o)) rb t (some o) M/\Chg [rb] w ((w.setCell ⟨rb,0,none⟩ (.bool true)).setCell ⟨rb,1,none⟩ (Iv o))):=by
  have h0:=JC H.o 0 (.bool true);have h1:=JC h0 1 (Iv o);exact⟨h1,((Chg.refl [rb] w).setCell (.inl zp) (p:=⟨rb,0,none⟩) _).setCell (.inl zp) (p:=⟨rb,1,none⟩) _⟩
 cases x with
 |none=>
  simp only[Option.isSome,Option.getD]at b0 b1;go_enter func73,ntmps73;go_wp2;go_end0;rw[HR.o];exact⟨rfl,HP.o⟩
 |some b=>
  simp only[Option.isSome,Option.getD]at b0 b1
  by_cases hlt:o<b
  ·have e:addF (some b) o=some o:=by rw[YM,if_pos hlt]
   have HE:=Zh e;go_enter func73,ntmps73;go_wp2;go_end0;rw[HR.o,HE.o];exact⟨rfl,HP.o⟩
  ·have e:addF (some b) o=some b:=by rw[YM,if_neg hlt]
   have HE:=Zh e;go_enter func73,ntmps73;go_wp2;go_end0;rw[HR.o,HE.o];exact⟨rfl,H.o,Chg.refl _ _⟩
structure QcA(P:Nat->Nat->Prop)(W W':World):Prop where
 os:W'.os=W.os
 tape:W'.tape=W.tape
 output:W'.output=W.output
 size:W.heap.size<=W'.heap.size
 block:∀b,b<W.heap.size->(∀j,¬P b j)->W'.heap[b]?=W.heap[b]?
 cell:∀b j,b<W.heap.size->¬P b j->W'.cell? ⟨b,j,none⟩=W.cell? ⟨b,j,none⟩
 frz:∀b j,b<W.heap.size->W'.frozen? ⟨b,j,none⟩=W.frozen? ⟨b,j,none⟩
 shape:∀(b:Nat)(cs:Array Value)(t:TypeId)(fr:Nat×Nat),W.heap[b]?=some (.cells cs t fr)->∃cs':Array Value,W'.heap[b]?=some (.cells cs' t fr)/\cs'.size=cs.size
def QcA.refl(P:Nat->Nat->Prop)(W:World):QcA P W W:=⟨rfl,rfl,rfl,Nat.le_refl _,λ_ _ _=>rfl,λ_ _ _ _=>rfl,λ_ _ _=>rfl,λb cs t fr h=>⟨cs,h,rfl⟩⟩
def QcA.trans{P:Nat->Nat->Prop}{W W1 W2:World}(h:QcA P W W1)(k:QcA P W1 W2):QcA P W W2:=
 ⟨k.os.trans h.os,k.tape.trans h.tape,k.output.trans h.output,le_trans h.size k.size,λb hb hp=>(k.block b (lt_of_lt_of_le hb h.size) hp).trans (h.block b hb hp),λb j hb hp=>(k.cell b j (lt_of_lt_of_le hb h.size) hp).trans (h.cell b j hb hp),λb j hb=>(k.frz b j (lt_of_lt_of_le hb h.size)).trans (h.frz b j hb),λb cs t fr hb=>by
  obtain⟨c1,h1,e1⟩:=h.shape b cs t fr hb;obtain⟨c2,h2,e2⟩:=k.shape b c1 t fr h1
  exact⟨c2,h2,e2.trans e1⟩⟩
def QcA.mono{P Q:Nat->Nat->Prop}{W W':World}(h:QcA P W W')(ID:∀b j,b<W.heap.size->P b j->Q b j):QcA Q W W':=
 ⟨h.os,h.tape,h.output,h.size,λb hb hq=>h.block b hb λj hp=>hq j (ID b j hb hp),λb j hb hq=>h.cell b j hb λhp=>hq (ID b j hb hp),h.frz,h.shape⟩
def QcA.of_below{P:Nat->Nat->Prop}{W W':World}(h:Below W.heap.size W W'):QcA P W W':=
 ⟨h.os,h.tape,h.output,h.size,λb hb _=>h.block b hb,λb j hb _=>World.cell?_of_block (a:=⟨b,j,none⟩) (h.block b hb),λb j hb=>World.frozen?_of_block (a:=⟨b,j,none⟩) (h.block b hb),λb cs t fr hb=>⟨cs,(h.block b (Jb hb)).trans hb,rfl⟩⟩
def QcA.step{P Q:Nat->Nat->Prop}{W W1 W2:World}(h:QcA P W W1)(k:QcA Q W1 W2)(hq:∀b j,Q b j->P b j\/W.heap.size<=b):QcA P W W2:=
 ⟨k.os.trans h.os,k.tape.trans h.tape,k.output.trans h.output,le_trans h.size k.size,λb hb hp=>(k.block b (lt_of_lt_of_le hb h.size) λj hj=>by rcases hq b j hj with h1|h1;exact hp j h1;omega).trans (h.block b hb hp),λb j hb hp=>(k.cell b j (lt_of_lt_of_le hb h.size) λhj=>by rcases hq b j hj with h1|h1;exact hp h1;omega).trans (h.cell b j hb hp),λb j hb=>(k.frz b j (lt_of_lt_of_le hb h.size)).trans (h.frz b j hb),λb cs t fr hb=>by
  obtain⟨c1,h1,e1⟩:=h.shape b cs t fr hb;obtain⟨c2,h2,e2⟩:=k.shape b c1 t fr h1
  exact⟨c2,h2,e2.trans e1⟩⟩
def Z8(W:World)(q j:Nat)(u:Value){b:Nat}{cs:Array Value}{t:TypeId}{fr:Nat×Nat}(h:W.heap[b]?=some (.cells cs t fr)):∃cs':Array Value,(W.setCell ⟨q,j,none⟩ u).heap[b]?=some (.cells cs' t fr)/\cs'.size=cs.size:=by
 by_cases e:b=q
 ·subst e;exact⟨cs.setIfInBounds j u,JC h j u,by simp⟩
 ·exact⟨cs,(Below.heap_setCell _ _ _ _ e).trans h,rfl⟩
def QcA.set{P:Nat->Nat->Prop}{W:World}{b j:Nat}{cs:Array Value}{t:TypeId}{fr:Nat×Nat}(hb:W.heap[b]?=some (.cells cs t fr))(hp:P b j)(u:Value):QcA P W (W.setCell ⟨b,j,none⟩ u):=by
 refine⟨rfl,rfl,rfl,by simp[World.setCell],λq _ hq=>Below.heap_setCell _ _ _ _ λe=>?_,λq i _ hq=>World.cell?_setCell_other _ _ _ _ λe=>?_,λq i _=>?_,λq cs t fr hq=>Z8 W _ _ u hq⟩
 ·subst e;exact hq j hp
 ·injection e with e1 e2;subst e1 e2;exact hq hp
 ·by_cases e:q=b
  ·subst e;have h1:=JC hb j u;simp[World.frozen?,h1,hb]
  ·exact World.frozen?_of_block (a:=⟨q,i,none⟩) (Below.heap_setCell _ _ _ _ e)
def Qbf.chgC{P:Nat->Nat->Prop}{W W':World}{rb:Nat}{t:TypeId}{x:Option Int}{M:Value}(h:Qbf W rb t x M)(hc:QcA P W W')(hp:∀j,¬P rb j):Qbf W' rb t x M:=(hc.block rb (Jb h) hp).trans h
def JbY{rb:Nat}{t:TypeId}{x x':Option Int}{M:Value}{W W':World}(h:Qbf W rb t x M)(h':Qbf W' rb t x' M)(hc:Chg [rb] W W'):QcA (λb j=>b=rb/\j<2) W W':=by
 refine⟨hc.os,hc.tape,hc.output,hc.size,λb hb hp=>hc.block b hb λhm=>?_,λb j hb hp=>?_,λb j hb=>?_,λb cs t' fr hb=>?_⟩
 ·obtain rfl:b=rb:=by simpa using hm
  exact hp 0 ⟨rfl,by omega⟩
 ·by_cases e:b=rb
  ·subst e;rw[Ja h,Ja h'];have hj:¬j<2:=λhj=>hp ⟨rfl,hj⟩
   obtain⟨j,rfl⟩:∃i,j=i+2:=⟨j-2,by omega⟩
   simp
  ·exact World.cell?_of_block (a:=⟨b,j,none⟩) (hc.block b hb (by simpa using e))
 ·by_cases e:b=rb
  ·subst e;rw[Jc h,Jc h']
  ·exact World.frozen?_of_block (a:=⟨b,j,none⟩) (hc.block b hb (by simpa using e))
 ·by_cases e:b=rb
  ·subst e;rw[show W.heap[b]?=_ from h]at hb;injection hb with hb;injection hb with e1 e2 e3;subst e1 e2 e3;exact⟨_,h',rfl⟩
  ·exact⟨cs,(hc.block b (Jb hb) (by simpa using e)).trans hb,rfl⟩
structure Qcr(W:World)(q o:Nat)(a:An):Prop where
 cells:∀j u,(Qaa a).toList[j]?=some u->W.cell? ⟨q,o+j,none⟩=some u
 frz:∀j,W.frozen? ⟨q,j,none⟩=false
 at':a.At W
def VB{W:World}{q j:Nat}{u:Value}(h:W.cell? ⟨q,j,none⟩=some u)(hf:True):∃(cs:Array Value) (t:TypeId) (fr:Nat×Nat),W.heap[q]?=some (.cells cs t fr):=by
 unfold World.cell? at h;split at h
 ·rename_i cs t fr he;exact⟨_,_,_,he⟩
 ·cases h
mutual
def VW{P:Nat->Nat->Prop}{W W':World}(hc:QcA P W W'):∀(a:An),a.At W->(∀b∈foot a,∀j,¬P b j)->a.At W'
 |a,h,hp=>JE a h λb hb=>hc.block b (JaL a h b hb) (hp b hb)
end
mutual
def QbK(fs:List By):List By->An->An
 |M0,.mk k n s o b c l=>
  if k=2 then .mk k (Qbh M0 s) [] o b c (Qbg fs M0 l)
  else if k=20 then .mk k ((Qag fs s).getD 0:Nat) [] o b c (Qbg fs M0 l)
  else if k=19 then
   match l with
   |[x,y]=>.mk k M0.length [] o b c [QbK fs M0 x,QbK fs (M0++[s]) y]
   |l=>.mk k n s o b c l
  else .mk k n s o b c (Qbg fs M0 l)
def Qbg(fs:List By):List By->List An->List An
 |_,[]=>[]
 |M0,a::l=>QbK fs M0 a::Qbg fs M0 l
end
def JaR(fs M0:List By)(l:List An):Qbg fs M0 l=l.map (QbK fs M0):=by
 induction l with
 |nil=>simp[Qbg]
 |cons a l ih=>simp[Qbg,ih]
def K2(fs M0:List By)(k n:Int)(s:By)(o:Int)(l:List Nd):Qdq fs M0 (.mk k n s o l) =
  if k=2 then (.mk k (Qbh M0 s) [] o (Qcb fs M0 l).1,(if Qbh M0 s<0 then [o] else [])++(Qcb fs M0 l).2)
  else if k=20 then (.mk k ((Qag fs s).getD 0:Nat) [] o (Qcb fs M0 l).1,(if (Qag fs s).isNone then [o] else [])++(Qcb fs M0 l).2)
  else if k=19 then
   match l with
   |[a,b]=>(.mk k M0.length [] o [(Qdq fs M0 a).1,(Qdq fs (M0++[s]) b).1],(Qdq fs M0 a).2++(Qdq fs (M0++[s]) b).2)
   |l=>(.mk k n s o l,[])
  else (.mk k n s o (Qcb fs M0 l).1,(Qcb fs M0 l).2):=by
 conv=>lhs;unfold Qdq
 rfl
mutual
def YN(fs:List By):∀(M0:List By)(a:An),(QbK fs M0 a).nd=(Qdq fs M0 a.nd).1
 |M0,.mk k n s o b c l=>by
  rw[An.nd,K2];unfold QbK;split
  ·rw[An.nd,Yj]
  ·split
   ·rw[An.nd,Yj]
   ·split
    ·match l with
     |[]=>simp[An.nd,ndL]
     |[x]=>simp[An.nd,ndL]
     |[x,y]=>simp only[An.nd,ndL,YN fs M0 x,YN fs (M0++[s]) y]
     |x::y::z::r=>simp[An.nd,ndL]
    ·rw[An.nd,Yj]
def Yj(fs:List By):∀(M0:List By)(l:List An),ndL (Qbg fs M0 l)=(Qcb fs M0 (ndL l)).1
 |M0,[]=>by simp[Qbg,ndL,Qcb]
 |M0,a::l=>by simp only[Qbg,ndL,Qcb,YN fs M0 a,Yj fs M0 l]
end
mutual
def JY(fs:List By):∀(M0:List By)(a:An),foot (QbK fs M0 a)=foot a
 |M0,.mk k n s o b c l=>by
  unfold QbK;split
  ·cases l with
   |nil=>simp[Qbg,foot]
   |cons x r=>simp only[Qbg,foot,JY fs M0 x,Vg fs M0 r]
  ·split
   ·cases l with
    |nil=>simp[Qbg,foot]
    |cons x r=>simp only[Qbg,foot,JY fs M0 x,Vg fs M0 r]
   ·split
    ·match l with
     |[]=>rfl
     |[x]=>rfl
     |[x,y]=>simp only[foot,Qaf,JY fs M0 x,JY fs (M0++[s]) y]
     |x::y::z::r=>rfl
    ·cases l with
     |nil=>simp[Qbg,foot]
     |cons x r=>simp only[Qbg,foot,JY fs M0 x,Vg fs M0 r]
def Vg(fs:List By):∀(M0:List By)(l:List An),Qaf (Qbg fs M0 l)=Qaf l
 |M0,[]=>by simp[Qbg,Qaf]
 |M0,a::l=>by simp only[Qbg,Qaf,JY fs M0 a,Vg fs M0 l]
end
def JcR(fs M0:List By):∀(l:List Nd)(a:Nd),(Qcb fs M0 (l++[a])).2=(Qcb fs M0 l).2++(Qdq fs M0 a).2
 |[],a=>by simp[Qcb]
 |x::l,a=>by simp only[List.cons_append,Qcb,JcR fs M0 l a,List.append_assoc]
def Qdb(W:World)(vv:Value)(M0:List By)(g:Nat):Prop:=
 ∃ad cc,vv=.slice ad M0.length cc/\(M0.length<=cc/\(M0=[]->ad=none/\cc=0))/\(M0≠[]->ad=some ⟨g,0,none⟩/\∀i s,M0[i]?=some s->W.cell? ⟨g,i,none⟩=some (Sv s))
def Qdb.chgC{P:Nat->Nat->Prop}{W W':World}{vv:Value}{M0:List By}{g:Nat}(h:Qdb W vv M0 g)(hc:QcA P W W')(hp:M0≠[]->∀j,¬P g j):Qdb W' vv M0 g:=by
 obtain⟨ad,cc,h1,h2,h3⟩:=h;refine⟨ad,cc,h1,h2,λhne=>⟨(h3 hne).1,λi s hs=>?_⟩⟩;have:=(h3 hne).2 i s hs;exact(hc.cell g i (World.block_lt_of_cell? W ⟨g,i,none⟩ this) (hp hne i)).trans this
def Zm(s:By):∀(l:List By)(p:Int×Int),(l.foldl (λ(p:Int×Int) v=>(p.1+1,if v=s then p.1 else p.2)) p).1=p.1+l.length
 |[],p=>by simp
 |v::l,p=>by
  rw[List.foldl_cons,Zm s l];simp;omega
def YO(l:List By)(v s:By):Qbh (l++[v]) s=if v=s then (l.length:Int) else Qbh l s:=by
 unfold Qbh;rw[List.foldl_append];simp only[List.foldl_cons,List.foldl_nil];rw[Zm];simp
def Zn(s:By):Qbh [] s = -1:=rfl
def JbZ{M0:List By}{m:Nat}{v:By}(s:By)(h:M0[m]?=some v):Qbh (M0.take (m+1)) s=if v=s then (m:Int) else Qbh (M0.take m) s:=by
 have hlt:=(List.getElem?_eq_some_iff.1 h).1;rw[List.take_add_one,h];simp only[Option.toList_some];rw[YO,List.length_take,Nat.min_eq_left zo]
def VC(s:By):∀(n:Nat)(l:List By),l.length=n->-1<=Qbh l s/\Qbh l s<n
 |0,l,h=>by
  obtain rfl:=List.eq_nil_of_length_eq_zero h;exact⟨by rw[Zn];omega,by rw[Zn];omega⟩
 |n+1,l,h=>by
  rcases List.eq_nil_or_concat l with rfl|⟨l',v,rfl⟩
  ·simp at h
  ·have hl:l'.length=n:=by simpa using h
   have:=VC s n l' hl;rw[List.concat_eq_append,YO];split<;>omega
mutual
def WfN:Nd->Prop
 |.mk k n s o l=>(k=19->l.length=2)/\(k=15->l.length=2)/\(k=18->l.length=3)/\s.length<=1000000/\WfL l
def WfL:List Nd->Prop
 |[]=>True
 |a::l=>WfN a/\WfL l
end
def QjP{P:Prop}(h:P:=by
  intro a ha
  rcases List.mem_cons.1 ha with rfl|ha
  ·exact h.1
  ·exact ih h.2 a ha):P:=h
def Z9{l:List Nd}(h:WfL l):∀a∈l,WfN a:=by
 induction l with
 |nil=>intro a ha;cases ha
 |cons x r ih=>
  unfold WfL at h;exact QjP
def JaS{W:World}{b:Nat}:∀(l:List An)(i:Nat),(∀m z,l[m]?=some z->(∀j u,(Qaa z).toList[j]?=some u->W.cell? ⟨b,(i+m)*5+j,none⟩=some u)/\z.At W)->AtL W b i l
 |[],i,h=>by unfold AtL;trivial
 |a::l,i,h=>by
  unfold AtL;have h0:=h 0 a rfl;refine⟨h0.1,h0.2,JaS l (i+1) λm z hz=>?_⟩;have:=h (m+1) z (by simpa using hz);rw[show i+1+m=i+(m+1) by omega];exact this
def VX:∀{l:List An}{i m:Nat}{y z:An}{q:Nat},(Qaf l).Nodup->l[i]?=some y->l[m]?=some z->i≠m->q∈foot z->q∉foot y
 |[],i,m,y,z,q,_,hy,_,_,_=>by cases hy
 |a::l,0,0,y,z,q,_,_,_,hne,_=>absurd rfl hne
 |a::l,0,m+1,y,z,q,hn,hy,hz,_,hq=>by
  unfold Qaf at hn;obtain rfl:a=y:=by simpa using hy
  have xA:q∈Qaf l:=Jz (mem_of_getElem? (by simpa using hz:l[m]?=some z)) q hq;intro h;exact(List.nodup_append.1 hn).2.2 q h q xA rfl
 |a::l,i+1,0,y,z,q,hn,hy,hz,_,hq=>by
  unfold Qaf at hn;obtain rfl:a=z:=by simpa using hz
  intro h;have yA:q∈Qaf l:=Jz (mem_of_getElem? (by simpa using hy:l[i]?=some y)) q h;exact(List.nodup_append.1 hn).2.2 q hq q yA rfl
 |a::l,i+1,m+1,y,z,q,hn,hy,hz,hne,hq=>by
  unfold Qaf at hn;exact VX (List.nodup_append.1 hn).2.1 (by simpa using hy:l[i]?=some y) (by simpa using hz:l[m]?=some z) zo hq
def Qfr(q o rb:Nat)(F:List Nat)(b j:Nat):Prop:=(b=q/\o<=j/\j<o+5)\/b∈F\/b=rb
structure Qcl(fs:List By)(rb:Nat)(t:TypeId)(mb mn:Nat)(W:World)(q o:Nat)(x:Option Int)(vv:Value)(vars:List By)(g:Nat)(a:An):Prop where
 node:Qcr W q o a
 nod:(foot a).Nodup
 qf:q∉foot a
 rf:rb∉foot a/\rb≠q
 gf:vars≠[]->g∉foot a/\g≠q/\g≠rb
 mf:mb∉foot a/\mb≠q/\mb≠rb
 flt:Qbf W rb t x (.map (some mb))
 map:Qbp W mb mn λs=>Qag fs s
 vars:Qdb W vv vars g
 wf:WfN a.nd
def QdW(fs:List By)(rb:Nat)(t:TypeId)(mb:Nat)(w:World)(q o:Nat)(x:Option Int)(M0:List By)(a:An)(e:Ending)(w':World):Prop:=
 e=.returned (.tuple #[])/\Qcr w' q o (QbK fs M0 a)/\Qbf w' rb t (QaG x (Qdq fs M0 a.nd).2) (.map (some mb))/\QcA (Qfr q o rb (foot a)) w w'
structure QdN(fs:List By)(rb:Nat)(t:TypeId)(mb mn:Nat)(w W:World)(q o:Nat)(x1:Option Int)(vv:Value)(vars:List By)(g b:Nat)(l:List An)(pc:Array Value)(i:Nat):Prop where
 par:∀j u,pc.toList[j]?=some u->W.cell? ⟨q,o+j,none⟩=some u
 pfr:∀j,W.frozen? ⟨q,j,none⟩=false
 kids:AtL W b 0 ((l.take i).map (QbK fs vars)++l.drop i)
 kfr:l≠[]->∀j,W.frozen? ⟨b,j,none⟩=false
 flt:Qbf W rb t (QaG x1 (Qcb fs vars (ndL (l.take i))).2) (.map (some mb))
 map:Qbp W mb mn λs=>Qag fs s
 vars:Qdb W vv vars g
 chg:QcA (Qfr q o rb (if l=[] then [] else b::Qaf l)) w W
 lts:q<W.heap.size/\(l≠[]->b<W.heap.size)
structure QeP(q rb g mb b:Nat)(vars:List By)(l:List An):Prop where
 nod:(Qaf l).Nodup/\(l≠[]->b∉Qaf l)
 qa:q∉Qaf l/\(l≠[]->q≠b)
 ra:rb∉Qaf l/\(l≠[]->rb≠b)/\rb≠q
 ga:vars≠[]->g∉Qaf l/\(l≠[]->g≠b)/\g≠q/\g≠rb
 ma:mb∉Qaf l/\(l≠[]->mb≠b)/\mb≠q/\mb≠rb
def Kt(k n:Int)(s:By)(o:Int)(b c:Nat)(l:List An):foot (.mk k n s o b c l)=if l=[] then [] else b::Qaf l:=by
 cases l with
 |nil=>simp[foot]
 |cons x r=>simp[foot,Qaf]
def Yk{fs:List By}{rb:Nat}{t:TypeId}{mb mn:Nat}{W:World}{q o:Nat}{x:Option Int}{vv:Value}{M0:List By}{g:Nat}{k n:Int}{s:By}{off:Int}{b c:Nat}{l:List An}(h:Qcl fs rb t mb mn W q o x vv M0 g (.mk k n s off b c l)):QeP q rb g mb b M0 l:=by
 have h1:=h.nod;have h2:=h.qf;have h3:=h.rf;have h4:=h.gf;have h5:=h.mf;rw[Kt]at h1 h2 h3 h4 h5
 by_cases e:l=[]
 ·subst e;exact⟨by simp[Qaf],by simp[Qaf],by simpa[Qaf] using h3,λhv=>by simpa[Qaf] using h4 hv,by simpa[Qaf] using h5⟩
 ·rw[if_neg e]at h1 h2 h3 h4 h5;simp only[List.nodup_cons,List.mem_cons,not_or]at h1 h2 h3 h4 h5;exact⟨⟨h1.2,λ_=>h1.1⟩,⟨h2.2,λ_=>h2.1⟩,⟨h3.1.2,λ_=>h3.1.1,h3.2⟩,λhv=>⟨(h4 hv).1.2,λ_=>(h4 hv).1.1,(h4 hv).2⟩,⟨h5.1.2,λ_=>h5.1.1,h5.2⟩⟩
section
variable {fs:List By}{rb:Nat}{t:TypeId}{mb mn:Nat}{w W W':World}{q o:Nat}{x1:Option Int}{vv:Value}{M0:List By}{g b:Nat}{l:List An}{pc:Array Value}{i:Nat}
def QdN.pre{y:An}(h:QdN fs rb t mb mn w W q o x1 vv M0 g b l pc i)(hA:QeP q rb g mb b M0 l)(hy:l[i]?=some y)(hw:WfL (ndL l)):Qcl fs rb t mb mn W b (i*5) (QaG x1 (Qcb fs M0 (ndL (l.take i))).2) vv M0 g y:=by
 have xA:l≠[]:=by intro e;rw[e]at hy;cases hy
 have hlt:=(List.getElem?_eq_some_iff.1 hy).1;have hmem:=mem_of_getElem? hy;have R4:=λq hq=>Jz hmem q hq
 have yA:((l.take i).map (QbK fs M0)++l.drop i)[i]?=some y:=by
  rw[List.getElem?_append_right zq];simp[Nat.min_eq_left (Nat.le_of_lt hlt),hy]
 obtain⟨k1,k2⟩:=JO h.kids yA;rw[zero_add]at k1;refine⟨⟨k1,h.kfr xA,k2⟩,?_,λhm=>hA.nod.2 xA (R4 _ hm),⟨λhm=>hA.ra.1 (R4 _ hm),hA.ra.2.1 xA⟩,λhv=>⟨λhm=>(hA.ga hv).1 (R4 _ hm),(hA.ga hv).2.1 xA,(hA.ga hv).2.2.2⟩,⟨λhm=>hA.ma.1 (R4 _ hm),hA.ma.2.1 xA,hA.ma.2.2.2⟩,h.flt,h.map,h.vars,Z9 hw _ (by rw[J7];exact List.mem_map.2 ⟨y,hmem,rfl⟩)⟩;have zA:=hA.nod.1;clear h hA hw xA hlt R4 yA k1 k2
 induction l generalizing i with
 |nil=>cases hmem
 |cons a r ih=>
  unfold Qaf at zA
  rcases List.mem_cons.1 hmem with rfl|hm
  ·exact(List.nodup_append.1 zA).1
  ·obtain⟨m,uA⟩:=List.getElem?_of_mem hm;exact ih uA hm (List.nodup_append.1 zA).2.1
def Qlx{P:Prop}(h:P:=by
  rcases hj with⟨e,_⟩|hj|e
  ·exact .inr (.inl (by rw[e];simp))
  ·exact .inr (.inl (List.mem_cons_of_mem _ (R4 _ hj)))
  ·exact .inr (.inr e)):P:=h
def QdN.step{y:An}{e:Ending}(h:QdN fs rb t mb mn w W q o x1 vv M0 g b l pc i)(hA:QeP q rb g mb b M0 l)(hy:l[i]?=some y)(hr:QdW fs rb t mb W b (i*5) (QaG x1 (Qcb fs M0 (ndL (l.take i))).2) M0 y e W'):QdN fs rb t mb mn w W' q o x1 vv M0 g b l pc (i+1):=by
 obtain⟨_,hn,hf,hc⟩:=hr;have xA:l≠[]:=by intro e;rw[e]at hy;cases hy
 have hlt:=(List.getElem?_eq_some_iff.1 hy).1;have hmem:=mem_of_getElem? hy;have R4:=λq hq=>Jz hmem q hq
 have hq:∀j,¬Qfr b (i*5) rb (foot y) q j:=λj hj=>by
  rcases hj with⟨e,_⟩|hj|e
  ·exact hA.qa.2 xA e
  ·exact hA.qa.1 (R4 _ hj)
  ·exact hA.ra.2.2 e.symm
 have zA:l.take (i+1)=l.take i++[y]:=by rw[List.take_add_one,hy];rfl
 have yA:∀m z,((l.take (i+1)).map (QbK fs M0)++l.drop (i+1))[m]?=some z->(m=i/\z=QbK fs M0 y)\/(m≠i/\((l.take i).map (QbK fs M0)++l.drop i)[m]?=some z/\∃z0,l[m]?=some z0/\foot z=foot z0):=by
  intro m z hz
  by_cases hm:m<i
  ·rw[List.getElem?_append_left zq,getElem?_map,List.getElem?_take_of_lt zo]at hz;obtain⟨z0,h0,rfl⟩:=Option.map_eq_some_iff.1 hz;refine .inr ⟨by omega,?_,z0,h0,JY fs M0 z0⟩;rw[List.getElem?_append_left zq,getElem?_map,List.getElem?_take_of_lt hm,h0];rfl
  ·by_cases he:m=i
   ·subst he;rw[List.getElem?_append_left zq,getElem?_map,List.getElem?_take_of_lt zo,hy]at hz;exact .inl ⟨rfl,by simpa using hz.symm⟩
   ·rw[List.getElem?_append_right zq]at hz;simp only[List.length_map,List.length_take,Nat.min_eq_left (show i+1<=l.length by omega),List.getElem?_drop]at hz;rw[show i+1+(m-(i+1))=m by omega]at hz;refine .inr ⟨he,?_,z,hz,rfl⟩;rw[List.getElem?_append_right zq];simp only[List.length_map,List.length_take,Nat.min_eq_left (Nat.le_of_lt hlt),List.getElem?_drop];rw[show i+(m-i)=m by omega];exact hz
 have B5:=h.lts.2 xA;refine⟨λj u hj=>?_,λj=>(hc.frz q j h.lts.1).trans (h.pfr j),?_,λ_ j=>(hc.frz b j B5).trans (h.kfr xA j),?_,h.map.same (hc.block mb h.map.lt λj hj=>?_),h.vars.chgC hc λhv j hj=>?_,h.chg.step hc λc j hj=>.inl ?_,⟨lt_of_lt_of_le h.lts.1 hc.size,λ_=>lt_of_lt_of_le B5 hc.size⟩⟩
 ·exact(hc.cell q (o+j) h.lts.1 (hq _)).trans (h.par j u hj)
 ·refine JaS _ 0 λm z hz=>?_
  rw[zero_add]
  rcases yA m z hz with⟨rfl,rfl⟩|⟨m6,hz',z0,hz0,hfz⟩
  ·exact⟨hn.cells,hn.at'⟩
  ·obtain⟨k1,k2⟩:=JO h.kids hz';rw[zero_add]at k1;refine⟨λj u hj=>?_,VW hc z k2 λc T1 j hj=>?_⟩
   ·have uA:j<5:=by have:=(List.getElem?_eq_some_iff.1 hj).1;rw[Array.length_toList,JV]at this;exact this
    refine(hc.cell b (m*5+j) B5 λhp=>?_).trans (k1 j u hj)
    rcases hp with⟨_,h1,h2⟩|h1|h1
    ·rcases Nat.lt_or_gt_of_ne m6 with h3|h3
     ·have:(m+1)*5<=i*5:=Nat.mul_le_mul_right 5 h3;omega
     ·have:(i+1)*5<=m*5:=Nat.mul_le_mul_right 5 h3;omega
    ·exact hA.nod.2 xA (R4 _ h1)
    ·exact hA.ra.2.1 xA h1.symm
   ·rw[hfz]at T1;have hcl:c∈Qaf l:=Jz (mem_of_getElem? hz0) c T1
    rcases hj with⟨e,_⟩|hj|e
    ·subst e;exact hA.nod.2 xA hcl
    ·exact VX hA.nod.1 hy hz0 (Ne.symm m6) T1 hj
    ·subst e;exact hA.ra.1 hcl
 ·rw[zA,KL,JcR,Jt];exact hf
 ·rcases hj with⟨e,_⟩|hj|e
  ·exact hA.ma.2.1 xA e
  ·exact hA.ma.1 (R4 _ hj)
  ·exact hA.ma.2.2.2 e
 ·rcases hj with⟨e,_⟩|hj|e
  ·exact(hA.ga hv).2.1 xA e
  ·exact(hA.ga hv).1 (R4 _ hj)
  ·exact(hA.ga hv).2.2.2 e
 ·rw[if_neg xA];exact Qlx
def QdN.done{k n:Int}{s:By}{off:Int}{c:Nat}(h:QdN fs rb t mb mn w W q o x1 vv M0 g b l pc l.length)(hp:pc=Qaa (.mk k n s off b c (Qbg fs M0 l))):Qcr W q o (.mk k n s off b c (Qbg fs M0 l))/\Qbf W rb t (QaG x1 (Qcb fs M0 (ndL l)).2) (.map (some mb))/\QcA (Qfr q o rb (if l=[] then [] else b::Qaf l)) w W:=by
 refine⟨⟨by rw[<-hp];exact h.par,h.pfr,?_⟩,?_,h.chg⟩
 ·have:=h.kids;rw[List.take_length,List.drop_length,List.append_nil,<-JaR]at this;unfold An.At;refine⟨λhne j=>h.kfr (λe=>hne (by rw[e];rfl)) j,this⟩
 ·have:=h.flt;rw[List.take_length]at this;exact this
def QdN.start{k n:Int}{s:By}{off:Int}{c:Nat}(hn:Qcr W q o (.mk k n s off b c l))(hp:pc=Qaa (.mk k n s off b c l))(hf:Qbf W rb t x1 (.map (some mb)))(hm:Qbp W mb mn λs=>Qag fs s)(hv:Qdb W vv M0 g)(hc:QcA (Qfr q o rb (if l=[] then [] else b::Qaf l)) w W):QdN fs rb t mb mn w W q o x1 vv M0 g b l pc 0:=by
 have hat:=hn.at';unfold An.At at hat;have hq:q<W.heap.size:=World.block_lt_of_cell? (a:=⟨q,o+0,none⟩) W (hn.cells 0 (Iv k) rfl);refine⟨by rw[hp];exact hn.cells,hn.frz,by simpa using hat.2,hat.1,by simpa[ndL,Qcb,QaG] using hf,hm,hv,hc,hq,λhne=>?_⟩
 cases l with
 |nil=>exact absurd rfl hne
 |cons x r=>
  have h2:=hat.2;unfold AtL at h2;obtain⟨xA,xn,xc,T1⟩:=Jg x;exact World.block_lt_of_cell? (a:=⟨b,0*5+0,none⟩) W (h2.1 0 (Iv x.kind) (by rw[T1];rfl))
def Qcr.head{k n:Int}{s:By}{off:Int}{c:Nat}(h:Qcr W q o (.mk k n s off b c l))(hq:q∉(if l=[] then [] else b::Qaf l))(n':Int)(s':By)(hc:∀j u,(#[Iv k,Iv n',Sv s',Iv off,Qaw b c l]:Array Value).toList[j]?=some u->W'.cell? ⟨q,o+j,none⟩=some u)(hg:QcA (λc j=>c=q) W W'):Qcr W' q o (.mk k n' s' off b c l):=by
 have xA:q<W.heap.size:=World.block_lt_of_cell? (a:=⟨q,o+0,none⟩) W (h.cells 0 (Iv k) rfl)
 have hat:(An.mk k n s off b c l).At W':=VW hg _ h.at' λd hd j e=>by
  rw[Kt]at hd;rw[e]at hd;exact hq hd
 exact⟨hc,λj=>(hg.frz q j xA).trans (h.frz j),hat⟩
end
end Go.Proofs.YtncanmdgdflnpaaGreatDoor


