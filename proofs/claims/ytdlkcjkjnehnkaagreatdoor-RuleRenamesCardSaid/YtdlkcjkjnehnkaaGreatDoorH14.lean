import Derived.Test.YtdlkcjkjnehnkaaGreatDoorH13
open List(cons_append nil_append)
open Nat(le_refl)
namespace Go.Proofs.YtdlkcjkjnehnkaaGreatDoor
open Go.ChangeShapes Go.WideShapes Go.ChangeAt Go.RowKit Go.Lib
open _root_.Go.Proofs.Tryz
set_option linter.all false
set_option maxRecDepth 100000
set_option maxHeartbeats 32000000
abbrev U3(nm:List UInt8)(of:Int)(pa:Option Addr)(pn pc:Nat)(ta:Option Addr)(tn tc:Nat)(res:Int)(b:An)(yA:Option Addr)(yn yc:Nat):List Value:=[.string (bs nm),.int .i64 of,.slice pa pn pc,.slice ta tn tc,.int .i64 res,.int .i64 b.kind,.int .i64 b.num,.string (bs b.name),.int .i64 b.off,.slice yA yn yc]
abbrev U4(a:An)(yA:Option Addr)(yn yc:Nat)(ac:Int)(rs:List UInt8):List Value:=[.int .i64 a.kind,.int .i64 a.num,.string (bs a.name),.int .i64 a.off,.slice yA yn yc,.int .i64 ac,.string (bs rs)]
structure ClA where
 cond:An
 action:Int
 reason:List UInt8
 lo:Nat
 hi:Nat
def ClA.src(c:ClA):ClS:=⟨c.cond.nd,c.action,c.reason⟩
def ClA.cells(c:ClA):List Value:=(Qaa c.cond).toList++[.int .i64 c.action,.string (bs c.reason)]
structure ClA.Ok(W:World)(c:ClA):Prop where
 at':c.cond.At W
 made:QbY c.lo c.hi c.cond
 hle:c.lo<=c.hi/\c.hi<=W.heap.size
theorem ClA.Ok.chg{S:List Nat}{W W':World}{c:ClA}(h:c.Ok W)(hc:Chg S W W')(hs:∀ b∈S,b<c.lo\/c.hi<=b):c.Ok W':=
 ⟨JJ _ h.at' fun b hb=>hc.block b (by have:=(h.made.2 b hb).2;have:=h.hle;omega) (fun hm=>by have:=h.made.2 b hb;rcases hs b hm with h|h<;>omega),h.made,h.hle.1,Nat.le_trans h.hle.2 hc.size⟩
structure Qap where
 funcs:List FnA
 clauses:List ClA
 action:Int
 fv:Value
 cv:Value
def Qap.src(S:Qap):Src:=⟨S.funcs.map FnA.src,S.clauses.map ClA.src,S.action⟩
def Qap.ivs(S:Qap):List (Nat × Nat):=S.funcs.map (fun f=>(f.lo,f.hi))++S.clauses.map fun c=>(c.lo,c.hi)
structure QaL(W:World)(sb:Nat)(S:Qap):Prop where
 box:W.heap[sb]?=some (.cells #[S.fv,S.cv,.int .i64 S.action] 120 (0,0))
 fown:W.ownsRow (sb+1) 126 10 S.fv S.funcs.length (S.funcs.flatMap FnA.cells)
 cown:W.ownsRow (sb+1) 130 7 S.cv S.clauses.length (S.clauses.flatMap ClA.cells)
 fok:∀ f∈S.funcs,f.Ok W/\sb<f.lo/\f.lo<=f.hi
 cok:∀ c∈S.clauses,c.Ok W/\sb<c.lo
 pair:S.ivs.Pairwise fun a b=>a.2<=b.1
 fout:∀ g,S.fv.ownBlock=some g->∀ i∈S.ivs,g<i.1\/i.2<=g
 cout:∀ g,S.cv.ownBlock=some g->∀ i∈S.ivs,g<i.1\/i.2<=g
theorem QaL.ivs{W:World}{sb:Nat}{S:Qap}(h:QaL W sb S):∀ i∈S.ivs,sb<i.1/\i.1<=i.2/\i.2<=W.heap.size:=by
 intro i hi
 rcases List.mem_append.1 hi with hi|hi
 ·obtain⟨f,hf,rfl⟩:=List.mem_map.1 hi;obtain⟨h1,h2,h3⟩:=h.fok f hf;exact⟨h2,h3,h1.hle⟩
 ·obtain⟨c,hc,rfl⟩:=List.mem_map.1 hi;obtain⟨h1,h2⟩:=h.cok c hc;exact⟨h2,h1.hle.1,h1.hle.2⟩
theorem QaL.on{Sx:List Nat}{W W':World}{sb:Nat}{S:Qap}(h:QaL W sb S)(hc:Chg Sx W W')(hs:∀ b∈Sx,b<sb):QaL W' sb S:=
 ⟨hc.heap_some (fun hm=>by have:=hs _ hm;omega) h.box,Jz h.fown hc (fun b hb=>by have:=hs b hb;omega),Jz h.cown hc (fun b hb=>by have:=hs b hb;omega),
  fun f hf=>⟨(h.fok f hf).1.chg hc (fun b hb=>.inl (by have:=hs b hb;have:=(h.fok f hf).2.1;omega)),(h.fok f hf).2⟩,
  fun c hc'=>⟨(h.cok c hc').1.chg hc (fun b hb=>.inl (by have:=hs b hb;have:=(h.cok c hc').2;omega)),(h.cok c hc').2⟩,h.pair,h.fout,h.cout⟩
theorem Jbk{l:List (Nat × Nat)}{x:Nat × Nat}(h:l.Pairwise fun a b=>a.2<=b.1)(hx:∀ i∈l,i.2<=x.1):(l++[x]).Pairwise fun a b=>a.2<=b.1:=
 List.pairwise_append.2 ⟨h,by simp,fun a ha b hb=>by obtain rfl:b=x:=(by simpa using hb);exact hx a ha⟩
theorem Qko{P:Prop}(h:P:=by
  rcases List.mem_cons.1 hb with rfl|hb
  ·exact .inl (by omega)
  ·have:=(hbl b (by simpa using hb)).2
   exact .inl (by omega)):P:=h
theorem QaL.addF{W w6 w7:World}{sb:Nat}{fs:List FnA}{act:Int}{fv cv v':Value}{f:FnA}{X:Obj}(h:QaL W sb ⟨fs,[],act,fv,cv⟩)(h6:QaL w6 sb ⟨fs,[],act,fv,cv⟩)(hss:W.heap.size<=w6.heap.size)(hf:f.Ok w6)(hlo:W.heap.size<=f.lo)(hlh:f.lo<=f.hi)
  (hown:w7.ownsRow (sb+1) 126 10 v' (fs.length+1) (fs.flatMap FnA.cells++f.cells)) (hgr:(w6.alloc X).grownBy w7 fv.ownBlock) (hfr:v'.ownBlock=fv.ownBlock\/v'.ownBlock=some (w6.alloc X).heap.size) :
  QaL (w7.setCell ⟨sb,0,none⟩ v') sb ⟨fs++[f],[],act,v',cv⟩/\w7.heap[sb]?=some (.cells #[fv,cv,.int .i64 act] 120 (0,0)):=by
 have hc7:=JR hgr;have hst:Chg [sb] w7 (w7.setCell ⟨sb,0,none⟩ v'):=(Chg.refl _ _).setCell (.inl (by simp:sb∈[sb])) (p:=⟨sb,0,none⟩) v';have hbl:∀ g,fv.ownBlock=some g->sb+1<=g/\g<W.heap.size:=fun g hg=>h.fown.lt g hg
 have hbx:w7.heap[sb]?=some (.cells #[fv,cv,.int .i64 act] 120 (0,0)):=hc7.heap_some (fun hm=>by
  have:=(hbl sb (by simpa using hm)).1
  omega) h6.box
 have hiv:∀ i∈(Qap.mk fs [] act fv cv).ivs,sb<i.1/\i.1<=i.2/\i.2<=W.heap.size:=h.ivs;have hivs:(Qap.mk (fs++[f]) [] act v' cv).ivs=(Qap.mk fs [] act fv cv).ivs++[(f.lo,f.hi)]:=by simp[Qap.ivs]
 have hfhi:=hf.hle;have hall:Chg (sb::fv.ownBlock.toList) w6 (w7.setCell ⟨sb,0,none⟩ v'):=(hc7.mono (fun k hk=>.inl (by simp;exact .inr (by simpa using hk)))).trans (hst.mono (fun k hk=>.inl (by simp at hk;simp[hk])));refine⟨⟨J3 hbx 0 v',?_,?_,?_,by simp,?_,?_,?_⟩,hbx⟩
 ·have:=Jz hown hst (by simp);simpa using this
 ·exact Jz (YA h6.cown hgr (Vq h6.cown h6.fown (by decide))) hst (by simp)
 ·intro x hx
  rcases List.mem_append.1 hx with hx|hx
  ·obtain⟨g1,g2,g3⟩:=h6.fok x hx;refine⟨g1.chg hall (fun b hb=>?_),g2,g3⟩
   rcases List.mem_cons.1 hb with rfl|hb
   ·exact .inl g2
   ·exact h.fout b (by simpa using hb) (x.lo,x.hi) (List.mem_append_left _ (List.mem_map.2 ⟨x,hx,rfl⟩))
  ·obtain rfl:x=f:=by simpa using hx
   have:=Jb h.box;refine⟨hf.chg hall (fun b hb=>?_),by show sb<x.lo;omega,hlh⟩;exact Qko
 ·rw[hivs];exact Jbk h.pair (fun i hi=>by have:=(hiv i hi).2.2;show i.2<=f.lo;omega)
 ·intro g hg i hi;rw[hivs]at hi
  rcases hfr with e|e
  ·have hg':=e.symm.trans hg
   rcases List.mem_append.1 hi with hi|hi
   ·exact h.fout g hg' i hi
   ·obtain rfl:i=(f.lo,f.hi):=by simpa using hi
    have:=(hbl g hg').2;exact .inl (by show g<f.lo;omega)
  ·rw[hg]at e;simp at e
   rcases List.mem_append.1 hi with hi|hi
   ·have:=(hiv i hi).2.2;exact .inr (by omega)
   ·obtain rfl:i=(f.lo,f.hi):=by simpa using hi
    exact .inr (by show f.hi<=g;omega)
 ·intro g hg i hi;rw[hivs]at hi
  rcases List.mem_append.1 hi with hi|hi
  ·exact h.cout g hg i hi
  ·obtain rfl:i=(f.lo,f.hi):=by simpa using hi
   have:=(h.cown.lt g hg).2;exact .inl (by show g<f.lo;omega)
theorem QaL.addC{W w6 w7:World}{sb:Nat}{fs:List FnA}{cs:List ClA}{act:Int}{fv cv v':Value}{c:ClA}{X:Obj}(h:QaL W sb ⟨fs,cs,act,fv,cv⟩)(h6:QaL w6 sb ⟨fs,cs,act,fv,cv⟩)(hss:W.heap.size<=w6.heap.size)(hf:c.Ok w6)(hlo:W.heap.size<=c.lo)
  (hown:w7.ownsRow (sb+1) 130 7 v' (cs.length+1) (cs.flatMap ClA.cells++c.cells)) (hgr:(w6.alloc X).grownBy w7 cv.ownBlock) (hfr:v'.ownBlock=cv.ownBlock\/v'.ownBlock=some (w6.alloc X).heap.size) :
  QaL (w7.setCell ⟨sb,1,none⟩ v') sb ⟨fs,cs++[c],act,fv,v'⟩/\w7.heap[sb]?=some (.cells #[fv,cv,.int .i64 act] 120 (0,0)):=by
 have hc7:=JR hgr;have hst:Chg [sb] w7 (w7.setCell ⟨sb,1,none⟩ v'):=(Chg.refl _ _).setCell (.inl (by simp:sb∈[sb])) (p:=⟨sb,1,none⟩) v';have hbl:∀ g,cv.ownBlock=some g->sb+1<=g/\g<W.heap.size:=fun g hg=>h.cown.lt g hg
 have hbx:w7.heap[sb]?=some (.cells #[fv,cv,.int .i64 act] 120 (0,0)):=hc7.heap_some (fun hm=>by
  have:=(hbl sb (by simpa using hm)).1
  omega) h6.box
 have hiv:∀ i∈(Qap.mk fs cs act fv cv).ivs,sb<i.1/\i.1<=i.2/\i.2<=W.heap.size:=h.ivs;have hivs:(Qap.mk fs (cs++[c]) act fv v').ivs=(Qap.mk fs cs act fv cv).ivs++[(c.lo,c.hi)]:=by simp[Qap.ivs]
 have hfhi:=hf.hle;have hall:Chg (sb::cv.ownBlock.toList) w6 (w7.setCell ⟨sb,1,none⟩ v'):=(hc7.mono (fun k hk=>.inl (by simp;exact .inr (by simpa using hk)))).trans (hst.mono (fun k hk=>.inl (by simp at hk;simp[hk])));refine⟨⟨J3 hbx 1 v',?_,?_,?_,?_,?_,?_,?_⟩,hbx⟩
 ·exact Jz (YA h6.fown hgr (Vq h6.fown h6.cown (by decide))) hst (by simp)
 ·have:=Jz hown hst (by simp);simpa using this
 ·intro x hx;obtain⟨g1,g2,g3⟩:=h6.fok x hx;refine⟨g1.chg hall (fun b hb=>?_),g2,g3⟩
  rcases List.mem_cons.1 hb with rfl|hb
  ·exact .inl g2
  ·exact h.cout b (by simpa using hb) (x.lo,x.hi) (List.mem_append_left _ (List.mem_map.2 ⟨x,hx,rfl⟩))
 ·intro x hx
  rcases List.mem_append.1 hx with hx|hx
  ·obtain⟨g1,g2⟩:=h6.cok x hx;refine⟨g1.chg hall (fun b hb=>?_),g2⟩
   rcases List.mem_cons.1 hb with rfl|hb
   ·exact .inl g2
   ·exact h.cout b (by simpa using hb) (x.lo,x.hi) (List.mem_append_right _ (List.mem_map.2 ⟨x,hx,rfl⟩))
  ·obtain rfl:x=c:=by simpa using hx
   have:=Jb h.box;refine⟨hf.chg hall (fun b hb=>?_),by show sb<x.lo;omega⟩;exact Qko
 ·rw[hivs];exact Jbk h.pair (fun i hi=>by have:=(hiv i hi).2.2;show i.2<=c.lo;omega)
 ·intro g hg i hi;rw[hivs]at hi
  rcases List.mem_append.1 hi with hi|hi
  ·exact h.fout g hg i hi
  ·obtain rfl:i=(c.lo,c.hi):=by simpa using hi
   have:=(h.fown.lt g hg).2;exact .inl (by show g<c.lo;omega)
 ·intro g hg i hi;rw[hivs]at hi
  rcases hfr with e|e
  ·have hg':=e.symm.trans hg
   rcases List.mem_append.1 hi with hi|hi
   ·exact h.cout g hg' i hi
   ·obtain rfl:i=(c.lo,c.hi):=by simpa using hi
    have:=(hbl g hg').2;exact .inl (by show g<c.lo;omega)
  ·rw[hg]at e;simp at e
   rcases List.mem_append.1 hi with hi|hi
   ·have:=(hiv i hi).2.2;exact .inr (by omega)
   ·obtain rfl:i=(c.lo,c.hi):=by simpa using hi
    exact .inr (by show c.hi<=g;omega)
theorem QaL.setA{W:World}{sb:Nat}{S:Qap}(h:QaL W sb S)(a:Int):QaL (W.setCell ⟨sb,2,none⟩ (.int .i64 a)) sb { S with action:=a }:=by
 have hst:Chg [sb] W (W.setCell ⟨sb,2,none⟩ (.int .i64 a)):=(Chg.refl _ _).setCell (.inl (by simp:sb∈[sb])) (p:=⟨sb,2,none⟩) _;exact⟨J3 h.box 2 _,Jz h.fown hst (by simp),Jz h.cown hst (by simp),fun f hf=>⟨(h.fok f hf).1.chg hst (fun b hb=>.inl (by have:=(h.fok f hf).2.1;simp at hb;omega)),(h.fok f hf).2⟩,fun c hc=>⟨(h.cok c hc).1.chg hst (fun b hb=>.inl (by have:=(h.cok c hc).2;simp at hb;omega)),(h.cok c hc).2⟩,h.pair,h.fout,h.cout⟩
theorem QaL.up{L:List Nat}{W0 W W':World}{sb:Nat}{S:Qap}(h0:QaL W0 sb S)(h:QaL W sb S)(hc:Chg L W W')(hL:∀ b∈L,W0.heap.size<=b):QaL W' sb S:=by
 have hiv:=h0.ivs
 have hk:∀ {e size n:Nat} {v:Value} {xs:List Value},W0.ownsRow (sb+1) e size v n xs->W.ownsRow (sb+1) e size v n xs->W'.ownsRow (sb+1) e size v n xs:=by
  intro e size n v xs h1 h2;refine⟨h2.1,h2.2.imp id ?_⟩;rintro⟨g,cap,cur,rfl,r2,r3,r4⟩;have:=(h1.lt g rfl).2;exact⟨g,cap,cur,rfl,r2,hc.heap_some (fun hm=>by have:=hL g hm;omega) r3,r4⟩
 have hb:=Jb h0.box
 exact⟨hc.heap_some (fun hm=>by have:=hL sb hm;omega) h.box,hk h0.fown h.fown,hk h0.cown h.cown,
  fun f hf=>⟨(h.fok f hf).1.chg hc (fun b hb=>.inr (by have:=hL b hb;have:=(h0.fok f hf).1.hle;omega)),(h.fok f hf).2⟩,
  fun c hc'=>⟨(h.cok c hc').1.chg hc (fun b hb=>.inr (by have:=hL b hb;have:=(h0.cok c hc').1.hle.2;omega)),(h.cok c hc').2⟩,h.pair,h.fout,h.cout⟩
theorem PAt.over{p sb:Nat}{A:Option Addr}{C:Nat}{T:List Tok}{k:Nat}{w W W':World}(h:PAt W p A C T k)(hT:∀ b o,A=some ⟨b,o,none⟩->b<w.heap.size)(hp:p<w.heap.size)(hw:w.heap.size<=sb)(hk:∀ q,q<sb->W'.heap[q]?=W.heap[q]?):PAt W' p A C T k:=by
 obtain⟨tb,ot,hA,htp,htc⟩:=h.toks;have htb:=hT _ _ hA;exact⟨(hk p (by omega)).trans h.self,⟨tb,ot,hA,htp,fun i t hi j u hu=>(World.cell?_of_block (hk tb (by omega))).trans (htc i t hi j u hu)⟩,h.lt,h.fin,h.room⟩
structure SrB(p:Nat)(A:Option Addr)(C:Nat)(T:List Tok)(w W:World)(k:Nat)(S:Qap):Prop where
 pat:PAt W p A C T k
 ok:QaL W w.heap.size S
 chg:Chg [p] w W
theorem SrB.on{p:Nat}{A:Option Addr}{C:Nat}{T:List Tok}{w W W':World}{k k':Nat}{S:Qap}(h:SrB p A C T w W k S)(hp:p<w.heap.size)(hP:PAt W' p A C T k')(hc:Chg [p] W W'):SrB p A C T w W' k' S:=
 ⟨hP,h.ok.on hc (by simp;exact hp),h.chg.trans hc⟩
theorem SrB.over{p:Nat}{A:Option Addr}{C:Nat}{T:List Tok}{w W W':World}{k:Nat}{S S':Qap}{L:List Nat}(h:SrB p A C T w W k S)(hp:p<w.heap.size)(hT:∀ b o,A=some ⟨b,o,none⟩->b<w.heap.size)(ho:QaL W' w.heap.size S')(hc:Chg L W W')(hL:∀ b∈L,w.heap.size<=b):SrB p A C T w W' k S':=
 ⟨h.pat.over hT hp zzl (fun q hq=>hc.block q (by have:=Jb h.ok.box;omega) (fun hm=>by have:=hL q hm;omega)),ho,h.chg.step hc (fun b hb=>.inr (hL b hb))⟩
theorem Jbl{w6 w7:World}{v u:Value}{X:Obj}{sb j:Nat}(hgr:(w6.alloc X).grownBy w7 v.ownBlock):Chg (sb::v.ownBlock.toList) w6 (w7.setCell ⟨sb,j,none⟩ u):=
 ((JR hgr).mono (fun k hk=>.inl (List.mem_cons_of_mem _ hk))).trans (((Chg.refl [sb] w7).setCell (.inl (by simp)) (p:=⟨sb,j,none⟩) u).mono (fun k hk=>.inl (by simp at hk;simp[hk])))
theorem SrB.addF{p:Nat}{A:Option Addr}{C:Nat}{T:List Tok}{w W w6 w7:World}{k k6:Nat}{fs:List FnA}{act:Int}{fv cv v':Value}{f:FnA}{X:Obj}(h:SrB p A C T w W k ⟨fs,[],act,fv,cv⟩)(hp:p<w.heap.size)(hT:∀ b o,A=some ⟨b,o,none⟩->b<w.heap.size)(hc6:Chg [p] W w6)(hP:PAt w6 p A C T k6)(hf:f.Ok w6)(hlo:W.heap.size<=f.lo)(hlh:f.lo<=f.hi)
  (hown:w7.ownsRow (w.heap.size+1) 126 10 v' (fs.length+1) (fs.flatMap FnA.cells++f.cells)) (hgr:(w6.alloc X).grownBy w7 fv.ownBlock) (hfr:v'.ownBlock=fv.ownBlock\/v'.ownBlock=some (w6.alloc X).heap.size) :
  SrB p A C T w (w7.setCell ⟨w.heap.size,0,none⟩ v') k6 ⟨fs++[f],[],act,v',cv⟩/\w7.heap[w.heap.size]?=some (.cells #[fv,cv,.int .i64 act] 120 (0,0)):=by
 have h6:=h.on hp hP hc6;obtain⟨g1,g2⟩:=h.ok.addF h6.ok hc6.size hf hlo hlh hown hgr hfr
 exact⟨h6.over hp hT g1 (Jbl hgr) (fun b hb=>by
  rcases List.mem_cons.1 hb with rfl|hb
  ·exact le_refl _
  ·have:=(h.ok.fown.lt b (by simpa using hb)).1
   omega),g2⟩
structure ClR(p:Nat)(A:Option Addr)(C:Nat)(T:List Tok)(w W0 W:World)(k:Nat)(S:Qap)(cb lo hi:Nat)(a:An)(act:Int)(rs:List UInt8):Prop where
 srb:SrB p A C T w W k S
 ok0:QaL W0 w.heap.size S
 c0:W0.heap.size<=lo/\lo<=hi/\hi<=cb
 at':a.At W
 made:QbY lo hi a
 box:W.heap[cb]?=some (.cells (ClA.mk a act rs lo hi).cells.toArray 130 (0,0))
section
variable {p:Nat} {A:Option Addr} {C:Nat} {T:List Tok} {w W0 W W':World} {k k':Nat} {S:Qap} {cb lo hi:Nat} {a:An} {act:Int} {rs:List UInt8}
theorem ClR.make{w6:World}{k6:Nat}(h:SrB p A C T w W0 k S)(hp:p<w.heap.size)(hat:a.At w6)(hmd:QbY W0.heap.size w6.heap.size a)(hP:PAt w6 p A C T k6)(hc:Chg [p] W0 w6):ClR p A C T w W0 (w6.alloc (.cells (ClA.mk a 0 [] 0 0).cells.toArray 130)) k6 S w6.heap.size W0.heap.size w6.heap.size a 0 []:=by
 have hb:Below w6.heap.size w6 (w6.alloc (.cells (ClA.mk a 0 [] 0 0).cells.toArray 130)):=zzb.alloc zzl _;exact⟨(h.on hp hP hc).on hp (hP.chg hb) (Chg.of_below hb [p]),h.ok,⟨le_refl _,hc.size,le_refl _⟩,KU hat hmd hb zzl,hmd,zzw _ _⟩
theorem ClR.on(h:ClR p A C T w W0 W k S cb lo hi a act rs)(hp:p<w.heap.size)(hP:PAt W' p A C T k')(hc:Chg [p] W W'):ClR p A C T w W0 W' k' S cb lo hi a act rs:=by
 have hw:=Jb h.ok0.box;obtain⟨c1,c2,c3⟩:=h.c0;have hlt:=Jb h.box;exact⟨h.srb.on hp hP hc,h.ok0,h.c0,JJ _ h.at' (fun b hb=>by have:=h.made.2 b hb;exact hc.block b (by omega) (by simp;omega)),h.made,hc.heap_some (by simp;omega) h.box⟩
theorem ClR.set{act':Int}{rs':List UInt8}{j:Nat}{u:Value}(h:ClR p A C T w W0 W k S cb lo hi a act rs)(hp:p<w.heap.size)(hT:∀ b o,A=some ⟨b,o,none⟩->b<w.heap.size)
  (hb:(W.setCell ⟨cb,j,none⟩ u).heap[cb]?=some (.cells (ClA.mk a act' rs' lo hi).cells.toArray 130 (0,0))):ClR p A C T w W0 (W.setCell ⟨cb,j,none⟩ u) k S cb lo hi a act' rs':=by
 have hw:=Jb h.ok0.box;obtain⟨c1,c2,c3⟩:=h.c0;have hst:Chg [cb] W (W.setCell ⟨cb,j,none⟩ u):=(Chg.refl _ _).setCell (.inl (by simp:cb∈[cb])) (p:=⟨cb,j,none⟩) u;have hlt:=Jb h.box;exact⟨h.srb.over hp hT (h.ok0.up h.srb.ok hst (fun b hb=>by simp at hb;omega)) hst (fun b hb=>by simp at hb;omega),h.ok0,h.c0,JJ _ h.at' (fun b hb=>by have:=h.made.2 b hb;exact hst.block b (by omega) (by simp;omega)),h.made,hb⟩
theorem ClR.setAct(h:ClR p A C T w W0 W k S cb lo hi a 0 [])(hp:p<w.heap.size)(hT:∀ b o,A=some ⟨b,o,none⟩->b<w.heap.size)(n:Int):ClR p A C T w W0 (W.setCell ⟨cb,5,none⟩ (.int .i64 n)) k S cb lo hi a n []:=
 h.set hp hT (by
  obtain⟨xA,xn,xc,hcf⟩:=Jf a;have:=J3 h.box 5 (.int .i64 n);simp only[ClA.cells,hcf]at this |-
  exact this)
theorem ClR.setRs{n:Int}(h:ClR p A C T w W0 W k S cb lo hi a n [])(hp:p<w.heap.size)(hT:∀ b o,A=some ⟨b,o,none⟩->b<w.heap.size)(rs:List UInt8):ClR p A C T w W0 (W.setCell ⟨cb,6,none⟩ (.string (bs rs))) k S cb lo hi a n rs:=
 h.set hp hT (by
  obtain⟨xA,xn,xc,hcf⟩:=Jf a;have:=J3 h.box 6 (.string (bs rs));simp only[ClA.cells,hcf]at this |-
  exact this)
theorem ClR.kept{fs:List FnA}{cs:List ClA}{sa:Int}{fv cv:Value}{w7:World}{X:Obj}(h:ClR p A C T w W0 W k ⟨fs,cs,sa,fv,cv⟩ cb lo hi a act rs)(hgr:(W.alloc X).grownBy w7 cv.ownBlock):w7.heap[cb]?=W.heap[cb]?:=by
 have hlt:=Jb h.box;obtain⟨c1,c2,c3⟩:=h.c0;exact(hgr.block cb (by simp;omega) (fun e=>by have:=(h.ok0.cown.lt cb e.symm).2;omega)).trans (heap_alloc_old _ _ hlt)
theorem Y5{W:World}{b t:Nat}{a0 a1 a2 a3 a4 a5 a6:Value}{fr:Nat × Nat}(h:W.heap[b]?=some (.cells #[a0,a1,a2,a3,a4,a5,a6] t fr)) :
  W.cell? ⟨b,0,none⟩=some a0/\W.cell? ⟨b,1,none⟩=some a1/\W.cell? ⟨b,2,none⟩=some a2/\W.cell? ⟨b,3,none⟩=some a3/\W.cell? ⟨b,4,none⟩=some a4/\W.cell? ⟨b,5,none⟩=some a5/\W.cell? ⟨b,6,none⟩=some a6:=by
 refine⟨?_,?_,?_,?_,?_,?_,?_⟩<;>(rw[Ja h];rfl)
theorem ClR.addC{fs:List FnA}{cs:List ClA}{sa:Int}{fv cv v':Value}{w7:World}{X:Obj}(h:ClR p A C T w W0 W k ⟨fs,cs,sa,fv,cv⟩ cb lo hi a act rs)(hp:p<w.heap.size)(hT:∀ b o,A=some ⟨b,o,none⟩->b<w.heap.size)
  (hown:w7.ownsRow (w.heap.size+1) 130 7 v' (cs.length+1) (cs.flatMap ClA.cells++(ClA.mk a act rs lo hi).cells)) (hgr:(W.alloc X).grownBy w7 cv.ownBlock) (hfr:v'.ownBlock=cv.ownBlock\/v'.ownBlock=some (W.alloc X).heap.size) :
  SrB p A C T w (w7.setCell ⟨w.heap.size,1,none⟩ v') k ⟨fs,cs++[⟨a,act,rs,lo,hi⟩],sa,fv,v'⟩/\w7.heap[w.heap.size]?=some (.cells #[fv,cv,.int .i64 sa] 120 (0,0)):=by
 have hw:=Jb h.ok0.box;obtain⟨c1,c2,c3⟩:=h.c0;have hlt:=Jb h.box;obtain⟨g1,g2⟩:=h.ok0.addC (c:=⟨a,act,rs,lo,hi⟩) h.srb.ok (by omega) ⟨h.at',h.made,c2,by show hi<=_;omega⟩ c1 hown hgr hfr
 exact⟨h.srb.over hp hT g1 (Jbl hgr) (fun b hb=>by
  rcases List.mem_cons.1 hb with rfl|hb
  ·exact le_refl _
  ·have:=(h.ok0.cown.lt b (by simpa using hb)).1
   omega),g2⟩
end
def SrP(p:Nat)(A:Option Addr)(C:Nat)(T:List Tok)(w:World)(x:PR Src)(e:Ending)(w':World):Prop:=
 match x with
 |.out=>True
 |.bad o=>Qjp p w o e w'
 |.ok s r=>∃ S:Qap,S.src=s/\e=.returned (.pointer (some ⟨w.heap.size,0,none⟩))/\QaL w' w.heap.size S/\Chg [p] w w'
theorem SrB.bad{α:Type}{p:Nat}{A:Option Addr}{C:Nat}{T:List Tok}{w W W':World}{k:Nat}{S:Qap}{x:PR α}{g:α->List Tok->PR Src}{X:PR Src}{R:Ending->World->Prop}{q:Int}(h:SrB p A C T w W k S)(hR:R=SrP p A C T w X)(hX:x.bind g=X)(hx:x=.bad q)(hc:Chg [p] W W'):R (.panicked [{ v:=QeS q,recovered:=false }]) W':=by
 subst hx hX hR;exact⟨rfl,h.chg.trans hc⟩
theorem QiU:(prog.info? 126).map (fun i=>(i.zero,i.size,i.bytes))=some (some (.agg #[.string ⟨#[]⟩,.int .i64 0,.slice none 0 0,.slice none 0 0,.int .i64 0,.int .i64 0,.int .i64 0,.string ⟨#[]⟩,.int .i64 0,.slice none 0 0]),10,144):=by kernel_rfl
theorem QiV:(prog.info? 130).map (fun i=>(i.zero,i.size,i.bytes))=some (some (.agg #[.int .i64 0,.int .i64 0,.string ⟨#[]⟩,.int .i64 0,.slice none 0 0,.int .i64 0,.string ⟨#[]⟩]),7,88):=by kernel_rfl
def QkL(fs:List FnS)(cs:List ClS)(r2:List Tok):PR Src:=(Qaf 0 Qaj r2).bind fun _ r3=>(Qcj r3).bind fun a r4=>if (hd r4).kind=4 then .ok ⟨fs,cs,a⟩ r4 else .bad (hd r4).off
def QkM(f:Nat)(fs:List FnS)(r1:List Tok):PR Src:=(Qad f f [] r1).bind (QkL fs)
theorem Jkh(f:Nat)(r:List Tok):QcO f r=(Qbc f f [] r).bind (QkM f):=rfl
theorem JhQ(g f:Nat)(l:List FnS)(r:List Tok):Qbc g (f+1) l r=match acc 0 QdX r with|some r1=>(Qdb g r1).bind (fun x r2=>Qbc g f (l++[x]) r2)|none=>.ok l r:=by rw[Qbc];rfl
theorem Jcy(g f:Nat)(l:List ClS)(r:List Tok):Qad g (f+1) l r=match acc 0 QaR r with|some r1=>(pM g .expr r1).bind fun c r2=>(Qaf 0 QbJ r2).bind fun _ r3=>(Qcj r3).bind fun a r4=>(Qbp r4).bind fun s r5=>Qad g f (l++[⟨c,a,s⟩]) r5|none=>.ok l r:=by rw[Qad];rfl
theorem Jes(r:List Tok):(∃ t r',Qcj r=.ok t r')\/Qcj r=.bad (hd r).off:=by
 unfold Qcj;split
 ·exact .inl ⟨_,_,rfl⟩
 ·split
  ·exact .inl ⟨_,_,rfl⟩
  ·split
   ·exact .inl ⟨_,_,rfl⟩
   ·split
    ·exact .inl ⟨_,_,rfl⟩
    ·exact .inr rfl
theorem JfF(r:List Tok):Qcj r≠.out:=by
 rcases Jes r with⟨_,_,h⟩|h<;>rw[h]<;>exact fun h=>by cases h
theorem JhR(r:List Tok):Qbp r≠.out:=by
 rcases Y1 r with⟨_,_,h⟩|h<;>rw[h]<;>exact fun h=>by cases h
theorem JhS(f p:Nat)(A:Option Addr)(C:Nat)(T:List Tok)(hf:f<=100000000)(hx:∀ t∈T,t.text.length<=1000000)
  (k:Nat) (w:World) (h:PAt w p A C T k) (hne:QcO f (T.drop k)≠.out) :
  Calls prog 37 #[.pointer (some ⟨p,0,none⟩)] w (SrP p A C T w (QcO f (T.drop k))):=by
 have I1:=JhP p A C T hx f hf;have I2:=Jbj f p A C T hf hx I1;obtain⟨X,hX⟩:∃ X,QcO f (T.drop k)=X:=⟨_,rfl⟩
 have hcm:=hX;rw[Jkh]at hcm;rw[hX]at hne |-;obtain⟨R,hR⟩:∃ R,SrP p A C T w X=R:=⟨_,rfl⟩
 rw[hR];have HR:Hid (R=SrP p A C T w X):=hR.symm;have HNE:=Zh hne;have HPL:=Zh h.chg1;have HTL:=Zh h.tokLt;have hb0:Below w.heap.size w (w.alloc (.cells #[.slice none 0 0,.slice none 0 0,.int .i64 0] 120)):=zzb.alloc zzl _
 have HLI:Hid (∃ k2 fv fs,SrB p A C T w (w.alloc (.cells #[.slice none 0 0,.slice none 0 0,.int .i64 0] 120)) k2 ⟨fs,[],0,fv,.slice none 0 0⟩/\((Qbc f f (fs.map FnA.src) (T.drop k2)).bind (QkM f))=X/\f+fs.length<=f):=
  ⟨k,_,[],⟨h.chg hb0,⟨zzw _ _,World.ownsRow_nil _ _ _ _,World.ownsRow_nil _ _ _ _,by simp,by simp,by simp[Qap.ivs],by simp[Qap.ivs],by simp[Qap.ivs]⟩,Chg.of_below hb0 [p]⟩,hcm,le_refl _⟩
 have hpz:p≠w.heap.size:=by have:=HPL.out;omega
 have hpz2:w.heap.size≠p:=by have:=HPL.out;omega
 clear h hne hR hb0 hcm hX;go_enter func37,ntmps37;go_wp2_with fail;generalize World.alloc w _=wa at *;go_loopg [] f (fun g wr=>Hid (∃ k2 fv fs,SrB p A C T w wr k2 ⟨fs,[],0,fv,.slice none 0 0⟩/\((Qbc f g (fs.map FnA.src) (T.drop k2)).bind (QkM f))=X/\g+fs.length<=f))
 case atStart=>exact HLI
 case round=>
 clear HLI;obtain⟨wl,rfl⟩:∃ wl:World,wl=wr:=⟨_,rfl⟩
 obtain⟨k2,fv,fs,hI,heq,hle⟩:=hrel.out
 cases gk with
 |zero=>exact absurd heq.symm HNE.out
 |succ g2=>
 rw[JhQ]at heq;have HI:=Zh hI;have HX1:=Zh heq;have HLE:Hid (g2+1+fs.length<=f):=hle;have hll:fs.length<=100000000:=by omega
 clear hI heq hle hrel;go_wp2_with fail;refine(Jr p A C T k2 0 QdX wl HI.out.pat (by decide)).mono ?_;intro e w3 h3
 rcases h3 with⟨g1,g2',rfl,hp3,hc3⟩|⟨g1,rfl,hb3⟩
 ·have hx1:=HX1.out;rw[JP g1 g2']at hx1;dsimp only at hx1;replace HX1:=Zh (K4 hx1);replace HI:=Zh (HI.out.on HPL.out hp3 hc3);clear g1 g2' hp3 hc3 hx1;obtain⟨va,vn,vc,hfv⟩:=Jh HI.out.ok.fown;dsimp only at hfv;subst hfv;have hne3:Qdb f (T.drop (k2+1))≠.out:=JQ HX1.out HNE.out;have hD:Below w3.heap.size w3 w3.drew:=(Below.refl w3.heap.size w3).drew;replace HI:=Zh (HI.out.on HPL.out (HI.out.pat.chg hD) (Chg.of_below hD [p]));clear hD;go_upto_region 3 with fail;have hcl:=Ja HI.out.ok.box 0;simp only[ZD,ZE,ZF]at hcl;refine LB (fun W=>W.cell? ⟨w.heap.size,0,none⟩=some (.slice va vn vc)) 11 (by simp[*,World.cell?_alloc_some]) fun hH=>?_
  refine LK 0 rfl ?_;refine LK 1 rfl ?_;refine LK 2 rfl ?_;refine LK 3 rfl ?_;refine LK 4 rfl ?_;refine LK 5 rfl ?_;refine LO 6 rfl fun K hK=>?_
  go_simp;go_at_call 66;refine(I2 (k2+1) _ HI.out.pat hne3).mono ?_;intro e w6 h6
  cases hx4:Qdb f (T.drop (k2+1)) with
  |out=>exact absurd hx4 hne3
  |bad q=>
   rw[hx4]at h6;obtain⟨rfl,hc6⟩:=h6;exact⟨rfl,HI.out.bad HR.out HX1.out hx4 hc6⟩
  |ok fn r=>
  rw[hx4]at h6;obtain⟨F,hF,rfl,hok,hlo,hlh,⟨k4,hr,hp4⟩,hc6⟩:=h6;subst hF hr;obtain⟨nm,of,ps,ts,res,b,pv,tv,flo,fhi⟩:=F;obtain⟨pa,pn,pc,hpv⟩:=Jh hok.pown;obtain⟨ta,tn,tc,htv⟩:=Jh hok.town;dsimp only at hpv htv hlo hlh;subst hpv htv;obtain⟨yA,yn,yc,hcg⟩:=Jf b;have hfc:(FnA.mk nm of ps ts res b (.slice pa pn pc) (.slice ta tn tc) flo fhi).cells=(U3 nm of pa pn pc ta tn tc res b yA yn yc):=by simp only[FnA.cells,hcg,cons_append,nil_append]
  have HX4:=Zh (Jw HX1.out hx4);have HI6:=Zh (HI.out.on HPL.out hp4 hc6);have HAD:=Zh (show _/\_/\_/\_/\_ from⟨hc6,hp4,hok,hlo,hlh⟩);have HFC:=Zh hfc;have HOW:=Zh (HI6.out.ok.fown.alloc (.cells ((U3 nm of pa pn pc ta tn tc res b yA yn yc)).toArray 126));have HRW:=Zh (zzw w6 (.cells ((U3 nm of pa pn pc ta tn tc res b yA yn yc)).toArray 126));have hlo6:w.heap.size+1<=(w6.alloc (.cells ((U3 nm of pa pn pc ta tn tc res b yA yn yc)).toArray 126)).heap.size:=by have:=Jb HI6.out.ok.box;rw[World.size_alloc];omega
  replace hcl:=Ja HI6.out.ok.box 0;simp only[ZD,ZE,ZF]at hcl;rw[hfc];clear hx4 hok hlo hlh hp4 hc6 hcg hfc HI6 hne3;refine hK.out _ _ (hcl) fun hH=>?_
  clear hK K;refine LO 7 rfl fun K hK=>?_
  go_simp;refine hK.out _ _ (by simp[*,World.cell?_alloc_some]) fun hH=>?_
  clear hK K;refine LO 8 rfl fun K hK=>?_
  (refine Jt (w6.alloc (.cells ((U3 nm of pa pn pc ta tn tc res b yA yn yc)).toArray 126)) (by rfl) (.tmp 13) (.tmp 16) 117 126 _ 10 144 (by rfl) underlying117 QiU rfl (by decide) (w.heap.size+1) (.slice va vn vc) fs.length (fs.flatMap FnA.cells) (U3 nm of pa pn pc ta tn tc res b yA yn yc) (by rfl) HOW.out w6.heap.size (by rfl) HRW.out rfl (by intro u hu;simp at hu;rcases hu with rfl|rfl|rfl|rfl|rfl|rfl|rfl|rfl|rfl|rfl<;>rfl) hll (by decide) hlo6 ?_;intro v7 w7 hown7 hgr7 hfr7)
  obtain⟨a7,m7,c7,rfl⟩:=Jh hown7;rw[<- HFC.out]at hown7;obtain⟨hst,hbx⟩:=HI.out.addF HPL.out HTL.out HAD.out.1 HAD.out.2.1 HAD.out.2.2.1 HAD.out.2.2.2.1 HAD.out.2.2.2.2 hown7 hgr7 hfr7;have HST:=Zh hst;replace hcl:=Ja hbx 0;simp only[ZD,ZE,ZF]at hcl;have f4:=Jc hbx 0;have hl7:=Jb hbx;clear hown7 hgr7 hfr7 hst hbx HOW HRW hlo6 HAD HFC;refine hK.out _ _ (hcl) fun hH=>?_
  clear hK K;refine LO 9 rfl fun K hK=>?_
  go_simp;refine hK.out _ _ hH fun hH=>?_
  clear hK K;refine LK 10 rfl ?_;refine LZ 11 rfl fun K hK=>?_
  go_simp;clear hcl f4 hl7;refine hK.out _ _ ?_;clear hK K;go_wp2;go_roundg g2
  case measure=>exact Nat.lt_succ_self _
  case rel=>exact⟨_,_,_,HST.out,by rw[List.map_append];exact HX4.out,by have:=HLE.out;rw[List.length_append,List.length_singleton];omega⟩
 ·have hx1:=HX1.out;rw[Kf g1]at hx1;dsimp only at hx1;rw[JfE]at hx1;rw[QkM]at hx1;replace HI:=Zh (HI.out.on HPL.out (HI.out.pat.chg hb3) (Chg.of_below hb3 [p]));have HLI:Hid (∃ k2 cv cs,SrB p A C T w w3 k2 ⟨fs,cs,0,fv,cv⟩/\((Qad f f (cs.map ClA.src) (T.drop k2)).bind (QkL (fs.map FnA.src)))=X/\f+cs.length<=f):=⟨k2,_,[],HI.out,hx1,le_refl _⟩
  clear g1 hb3 hx1 HX1 HI HLE hll I2;go_wp2_with fail;go_loopg [] f (fun g wr=>Hid (∃ k2 cv cs,SrB p A C T w wr k2 ⟨fs,cs,0,fv,cv⟩/\((Qad f g (cs.map ClA.src) (T.drop k2)).bind (QkL (fs.map FnA.src)))=X/\g+cs.length<=f))
  case atStart=>exact HLI
  case round=>
  clear HLI;obtain⟨wm,rfl⟩:∃ wm:World,wm=wr:=⟨_,rfl⟩
  obtain⟨k5,cv,cs,hI,heq,hle⟩:=hrel.out
  cases gk with
  |zero=>exact absurd heq.symm HNE.out
  |succ g3=>
  rw[Jcy]at heq;have HI:=Zh hI;have HX1:=Zh heq;have HLE:Hid (g3+1+cs.length<=f):=hle;have hll:cs.length<=100000000:=by omega
  clear hI heq hle hrel;go_wp2_with fail;refine(Jr p A C T k5 0 QaR wm HI.out.pat (by decide)).mono ?_;intro e w4 h3
  rcases h3 with⟨g1,g2',rfl,hp3,hc3⟩|⟨g1,rfl,hb3⟩
  ·have hx1:=HX1.out;rw[JP g1 g2']at hx1;dsimp only at hx1;replace HX1:=Zh (K4 hx1);replace HI:=Zh (HI.out.on HPL.out hp3 hc3);clear g1 g2' hp3 hc3 hx1;obtain⟨va,vn,vc,hcv⟩:=Jh HI.out.ok.cown;dsimp only at hcv;subst hcv;have hne9:pM f .expr (T.drop (k5+1))≠.out:=JQ HX1.out HNE.out;go_wp2_with fail;refine NdP.call (I1 (k5+1) _ HI.out.pat hne9) hne9 (fun q _ hx hc=>by exact⟨rfl,HI.out.bad HR.out HX1.out hx hc⟩) fun a w6 k6 yA yn yc hx hcf B=>?_
   have hCR:=ClR.make HI.out HPL.out B.1 B.2.1 B.2.2.1 B.2.2.2;replace HX1:=Zh (K4 (Jw HX1.out hx));have hcc:(ClA.mk a 0 [] 0 0).cells.toArray=#[.int .i64 a.kind,.int .i64 a.num,.string (bs a.name),.int .i64 a.off,.slice yA yn yc,.int .i64 0,.string ⟨#[]⟩]:=by simp only[ClA.cells,hcf,cons_append,nil_append];rfl
   rw[hcc]at hCR;have HCR:=Zh hCR;have HCF:=Zh hcf;clear hx hcf B hcc hCR HI hne9;go_wp2_with fail;generalize World.alloc w6 _=w6' at *;generalize w6.heap.size=cb at *;have HLO:Hid (w.heap.size<w4.heap.size):=Jb HCR.out.ok0.box;generalize w4.heap.size=lo at *;have hcb1:cb≠w.heap.size:=by have:=HCR.out.c0;have:=HLO.out;omega
   have hcb2:w.heap.size≠cb:=Ne.symm hcb1;refine PRp.call (Qgr p A C T k6 QbJ _ HCR.out.srb.pat) (J7 _ _ _) (fun q _ hx hc=>by exact⟨rfl,HCR.out.srb.bad HR.out HX1.out hx hc⟩) fun _ w7 k7 hx hp hc=>?_
   replace HX1:=Zh (K4 (Jw HX1.out hx));replace HCR:=Zh (HCR.out.on HPL.out hp hc);clear hx hp hc;go_wp2_with fail;refine PRp.call (Jdy p A C T k7 _ HCR.out.srb.pat) (JfF _) (fun q _ hx hc=>by exact⟨rfl,HCR.out.srb.bad HR.out HX1.out hx hc⟩) fun ac w8 k8 hx hp hc=>?_
   replace HX1:=Zh (K4 (Jw HX1.out hx));replace HCR:=Zh (HCR.out.on HPL.out hp hc);clear hx hp hc;have hbx:=HCR.out.box;simp only[ClA.cells,HCF.out,cons_append,nil_append]at hbx;have b5:=Ja hbx 5;have f5:=Jc hbx 5;have hl5:=Jb hbx;simp only[ZD,ZE,ZF]at b5;replace HCR:=Zh (HCR.out.setAct HPL.out HTL.out ac);clear hbx;go_wp2_with fail;clear b5 f5 hl5;generalize World.setCell w8 _ _=w8' at *;refine PRp.call (Jbb p A C T k8 _ HCR.out.srb.pat) (JhR _) (fun q _ hx hc=>by exact⟨rfl,HCR.out.srb.bad HR.out HX1.out hx hc⟩) fun rs w9 k9 hx hp hc=>?_
   replace HX1:=Zh (Jw HX1.out hx);replace HCR:=Zh (HCR.out.on HPL.out hp hc);clear hx hp hc;have HX4:=HX1;clear HX1;have hbx:=HCR.out.box;simp only[ClA.cells,HCF.out,cons_append,nil_append]at hbx;have b5:=Ja hbx 6;have f5:=Jc hbx 6;have hl5:=Jb hbx;simp only[ZD,ZE,ZF]at b5;replace HCR:=Zh (HCR.out.setRs HPL.out HTL.out rs);clear hbx;go_upto_region 9 with fail;clear b5 f5 hl5;generalize World.setCell w9 _ _=w9' at *;have hD:Below w9'.heap.size w9' w9'.drew:=(Below.refl w9'.heap.size w9').drew;replace HCR:=Zh (HCR.out.on HPL.out (HCR.out.srb.pat.chg hD) (Chg.of_below hD [p]));clear hD;have hcb:=HCR.out.box;simp only[ClA.cells,HCF.out,cons_append,nil_append]at hcb;have HCB:=Zh hcb;have hfc:∀ l h,(ClA.mk a ac rs l h).cells=(U4 a yA yn yc ac rs):=fun l h=>by simp only[ClA.cells,HCF.out,cons_append,nil_append]
   have HFC:=Zh hfc;have HOW:Hid ((w9'.drew.alloc (.cells ((U4 a yA yn yc ac rs)).toArray 130)).ownsRow (w.heap.size+1) 130 7 (.slice va vn vc) cs.length (cs.flatMap ClA.cells)):=HCR.out.srb.ok.cown.alloc _;have HRW:Hid ((w9'.drew.alloc (.cells ((U4 a yA yn yc ac rs)).toArray 130)).heap[w9'.heap.size]?=some (.cells ((U4 a yA yn yc ac rs)).toArray 130 (0,0))):=zzw w9'.drew _;have hlo6:w.heap.size+1<=(w9'.drew.alloc (.cells ((U4 a yA yn yc ac rs)).toArray 130)).heap.size:=by have:=Jb HCR.out.srb.ok.box;rw[World.size_alloc];omega
   clear hcb hfc;have hws:w9'.heap.size=w9'.drew.heap.size:=rfl;rw[hws]at HRW;clear hws;have hcl:=Ja HCR.out.srb.ok.box 1;simp only[ZD,ZE,ZF]at hcl;have hc7:=Y5 HCB.out;generalize hw10:w9'.drew=w10 at *;refine LB (fun W=>W.cell? ⟨w.heap.size,1,none⟩=some (.slice va vn vc)/\W.cell? ⟨cb,0,none⟩=some (.int .i64 a.kind)/\W.cell? ⟨cb,1,none⟩=some (.int .i64 a.num)/\W.cell? ⟨cb,2,none⟩=some (.string (bs a.name))/\W.cell? ⟨cb,3,none⟩=some (.int .i64 a.off)/\W.cell? ⟨cb,4,none⟩=some (.slice yA yn yc)/\W.cell? ⟨cb,5,none⟩=some (.int .i64 ac)/\W.cell? ⟨cb,6,none⟩=some (.string (bs rs))) 10 (by rw[hw10];exact⟨hcl,hc7⟩) fun hH=>?_
   refine LK 0 rfl ?_;refine LK 1 rfl ?_;refine LK 2 rfl ?_;refine LK 3 rfl ?_;refine LK 4 rfl ?_;refine LK 5 rfl ?_;refine LO 6 rfl fun K hK=>?_
   go_simp;refine hK.out _ _ (by simp[*,World.cell?_alloc_some]) fun hH=>?_
   clear hK K;refine LO 7 rfl fun K hK=>?_
   (refine Jt (w10.alloc (.cells ((U4 a yA yn yc ac rs)).toArray 130)) (by rfl) (.tmp 37) (.tmp 39) 118 130 _ 7 88 (by rfl) underlying118 QiV rfl (by decide) (w.heap.size+1) (.slice va vn vc) cs.length (cs.flatMap ClA.cells) (U4 a yA yn yc ac rs) (by rfl) HOW.out w10.heap.size (by rfl) HRW.out rfl (by intro u hu;simp at hu;rcases hu with rfl|rfl|rfl|rfl|rfl|rfl|rfl<;>rfl) hll (by decide) hlo6 ?_;intro v7 w7 hown7 hgr7 hfr7)
   obtain⟨a7,m7,c7,rfl⟩:=Jh hown7;rw[<- HFC.out lo cb]at hown7;obtain⟨hst,hbx⟩:=HCR.out.addC HPL.out HTL.out hown7 hgr7 hfr7;have HST:=Zh hst;have hc8:=Y5 ((HCR.out.kept hgr7).trans HCB.out);replace hcl:=Ja hbx 1;simp only[ZD,ZE,ZF]at hcl;have f4:=Jc hbx 1;have hl7:=Jb hbx;clear hown7 hgr7 hfr7 hst hbx HOW HRW hlo6;refine hK.out _ _ (⟨hcl,hc8⟩) fun hH=>?_
   clear hK K;refine LO 8 rfl fun K hK=>?_
   go_simp;refine hK.out _ _ hH fun hH=>?_
   clear hK K;refine LK 9 rfl ?_;refine LZ 10 rfl fun K hK=>?_
   go_simp;clear hcl f4 hl7;refine hK.out _ _ ?_;clear hK K;go_wp2;go_roundg g3
   case measure=>exact Nat.lt_succ_self _
   case rel=>exact⟨_,_,_,HST.out,by rw[List.map_append];exact HX4.out,by have:=HLE.out;rw[List.length_append,List.length_singleton];omega⟩
  ·have hx1:=HX1.out;rw[Kf g1]at hx1;dsimp only at hx1;rw[JfE,QkL]at hx1;replace HX1:=Zh hx1;replace HI:=Zh (HI.out.on HPL.out (HI.out.pat.chg hb3) (Chg.of_below hb3 [p]));clear g1 hb3 hx1 HLE hll I1;go_wp2_with fail;refine PRp.call (Qgr p A C T k5 Qaj _ HI.out.pat) (J7 _ _ _) (fun q _ hx hc=>by exact⟨rfl,HI.out.bad HR.out HX1.out hx hc⟩) fun _ w7 k7 hx hp hc=>?_
   replace HX1:=Zh (Jw HX1.out hx);replace HI:=Zh (HI.out.on HPL.out hp hc);clear hx hp hc;go_wp2_with fail;refine PRp.call (Jdy p A C T k7 _ HI.out.pat) (JfF _) (fun q _ hx hc=>by exact⟨rfl,HI.out.bad HR.out HX1.out hx hc⟩) fun ac w8 k8 hx hp hc=>?_
   replace HX1:=Zh (Jw HX1.out hx);replace HI:=Zh (HI.out.on HPL.out hp hc);clear hx hp hc;have hbx:=HI.out.ok.box;have b2:=Ja hbx 2;have f2:=Jc hbx 2;have hl5:=Jb hbx;simp only[ZD,ZE,ZF]at b2;have HS:=Zh (HI.out.ok.setA ac);have HI2:Hid (SrB p A C T w (w8.setCell ⟨w.heap.size,2,none⟩ (.int .i64 ac)) k8 ⟨fs,cs,ac,fv,cv⟩):=HI.out.over HPL.out HTL.out HS.out ((Chg.refl [w.heap.size] w8).setCell (.inl (by simp)) (p:=⟨w.heap.size,2,none⟩) _) (by simp);clear hbx HI HS;go_wp2_with fail;clear b2 f2 hl5;generalize World.setCell w8 _ _=w9 at *;have cp:=Ko p A C T k8 w9 HI2.out.pat;have cw:=KN p A C T k8;unfold Qgn at cp;obtain⟨t,ht⟩:∃ t,hd (T.drop k8)=t:=⟨_,rfl⟩
   have HTD:=Zh ht;rw[ht]at cp cw;obtain⟨tk,tx,tn,tf⟩:=t;unfold QcU at cp;simp only at cp cw;clear ht;refine cp.mono ?_;rintro e w10 ⟨rfl,hb10⟩;replace HI2:=Zh (HI2.out.on HPL.out (HI2.out.pat.chg hb10) (Chg.of_below hb10 [p]));have hx1:=HX1.out;rw[HTD.out]at hx1;clear cp hb10 HX1;have hfl:∀ (W:World),(Instr.field 46 (.agg #[.int .i64 tk,.string (bs tx),.int .i64 tn,.int .i64 tf]) 0).run prog W=.ok (.int .i64 tk) W:=fun W=>by kernel_rfl
   by_cases hk4:tk=4
   ·have d1:(tk !=4)=false:=by rw[hk4];rfl
    rw[if_pos hk4]at hx1;have HX2:=Zh hx1;clear hk4 hx1 cw;go_wp2;rw[HR.out,<- HX2.out];exact⟨⟨fs,cs,ac,fv,cv⟩,rfl,rfl,HI2.out.ok,HI2.out.chg⟩
   ·have d1:(tk !=4)=true:=bne_iff_ne.2 hk4;rw[if_neg hk4]at hx1;have HX2:=Zh hx1;clear hk4 hx1;go_wp2_with fail;refine(cw _ HI2.out.pat).mono ?_;rintro e w11 ⟨rfl,hb11⟩;go_wp2;refine⟨rfl,?_⟩;rw[HR.out,<- HX2.out];exact⟨rfl,HI2.out.chg.trans (Chg.of_below hb11 [p])⟩
end Go.Proofs.YtdlkcjkjnehnkaaGreatDoor
