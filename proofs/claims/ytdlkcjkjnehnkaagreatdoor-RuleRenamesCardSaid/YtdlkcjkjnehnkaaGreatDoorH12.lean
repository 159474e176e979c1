import Derived.Test.YtdlkcjkjnehnkaaGreatDoorH11
open List(cons_append length_append nil_append)
namespace Go.Proofs.YtdlkcjkjnehnkaaGreatDoor
open Go.ChangeShapes Go.WideShapes Go.ChangeAt Go.RowKit Go.Lib
open _root_.Go.Proofs.Tryz
set_option linter.all false
set_option maxRecDepth 100000
set_option maxHeartbeats 32000000
def putAt(b:Nat):World->Nat->List Value->World
 |W,_,[]=>W
 |W,j,v::l=>putAt b (W.setCell ⟨b,j,none⟩ v) (j+1) l
theorem VP{S:List Nat}{b:Nat}(hb:b∈S):∀ (l:List Value) (W:World) (j:Nat),Chg S W (putAt b W j l)
 |[],W,_=>Chg.refl S W
 |v::l,W,j=>((Chg.refl S W).setCell (.inl hb) (p:=⟨b,j,none⟩) v).trans (VP hb l _ _)
theorem PAt.putAt{p q:Nat}{A:Option Addr}{C:Nat}{T:List Tok}{k:Nat}(h1:q≠p)(h2:∀ b o,A=some ⟨b,o,none⟩->q≠b):∀ (l:List Value) {W:World} (j:Nat),PAt W p A C T k->PAt (putAt q W j l) p A C T k
 |[],_,_,h=>h
 |v::l,_,j,h=>PAt.putAt h1 h2 l (j+1) (h.setFar h1 h2 j v)
theorem VQ{b t:Nat}:∀ (l:List Value) (pre old:List Value) (W:World),W.heap[b]?=some (.cells (pre++old).toArray t (0,0))->old.length=l.length->(putAt b W pre.length l).heap[b]?=some (.cells (pre++l).toArray t (0,0))
 |[],pre,old,W,h,hl=>by
  obtain rfl:old=[]:=List.eq_nil_of_length_eq_zero hl;exact h
 |v::l,pre,[],W,h,hl=>by cases hl
 |v::l,pre,x::old,W,h,hl=>by
  have h1:=heap_setCell_same _ _ pre.length _ _ v h
  have h2:=VQ (t:=t) l (pre++[v]) old (W.setCell ⟨b,pre.length,none⟩ v) (by
   rw[h1]
   simp) (by simpa using hl)
  simpa[putAt] using h2
theorem Jt{ops:Array Oper}{o:Oper}{ac:Act}{K:Act->World->Prop}{Q:Exit->Act->World->Prop}{E:Prop}(w:World)(hgd:o.guard=none)(s x:Operand)(t e:TypeId)(z:Value)(size bytes:Nat)
  (ho:o.op=.call { callee:=.builtin .append,args:=#[s,x],argTypes:=#[t,t] }) (ht:prog.underlying t=some (.slice e)) (hi:(prog.info? e).map (fun i=>(i.zero,i.size,i.bytes))=some (some z,size,bytes)) (hzs:z.cells.size=size) (hsz:0<size)
  (base:Nat) (v:Value) (n:Nat) (xs news:List Value) (hs:ac.eval s=v)
  (hown:w.ownsRow base e size v n xs) (rb:Nat) (hx:ac.eval x=.slice (some ⟨rb,0,none⟩) 1 1) (hrow:w.heap[rb]?=some (.cells news.toArray e (0,0))) (hl:news.length=size) (h1:∀ u∈news,u.oneCell'=true)
  (h63:n<=100000000) (hby:bytes<=1000) (hbase:base<=w.heap.size)
  (h:∀ v' w',w'.ownsRow base e size v' (n+1) (xs++news)->w.grownBy w' v.ownBlock->(v'.ownBlock=v.ownBlock\/v'.ownBlock=some w.heap.size)->K (ac.put o.dst v') w') :
  if Region.wanted o (yielded ops ac.tmps)=true then Oper.wp prog o ac w K Q else E:=by
 have hw:Region.wanted o (yielded ops ac.tmps)=true:=by simp[Region.wanted,hgd]
 rw[if_pos hw];obtain⟨i0,hi,hz0,hz1,hz2⟩:=info_parts hi
 obtain⟨v',w',hr,h1,h2,h3⟩:=K9 (P:=prog) w base t o.type e i0 _ size bytes ht hi hz0 hz1 hz2 hzs hsz v n xs hown ⟨rb,0,none⟩ 1 1 news (by omega) (fun j u hj=>by
  rw[show (⟨rb,0,none⟩:Addr).add j=⟨rb,j,none⟩ by unfold Addr.add;split<;>simp_all]
  exact KO hrow hj) h1 (by decide) (by unfold maxLen;omega) (by
   have:=Nat.mul_le_mul (show n+1<=100000001 by omega) hby
   omega) hbase
 unfold Oper.wp execOp;simp only[ho,resolve,invoke,builtin,Sem.run_bind,Sem.run_pure,Result.andThen_ok,List.map_toArray,List.map_cons,List.map_nil,hs,hx,hr];exact h v' w' h1 h2 h3
theorem Qgi:(prog.info? 123).map (fun i=>(i.zero,i.size,i.bytes))=some (some (.agg #[.string ⟨#[]⟩,.int .i64 0]),2,24):=by kernel_rfl
theorem Qiq:(prog.info? 126).map (·.size)=some 10:=by kernel_rfl
theorem QhR:(prog.info? 3).map (fun i=>(i.zero,i.size,i.bytes))=some (some (.int .i64 0),1,8):=by kernel_rfl
theorem Vq{w:World}{b1 b2 e1 e2 n1 n2 s1 s2:Nat}{v1 v2:Value}{x1 x2:List Value}(h1:w.ownsRow b1 e1 s1 v1 n1 x1)(h2:w.ownsRow b2 e2 s2 v2 n2 x2)(hne:e1≠e2):v1.ownBlock=none\/v1.ownBlock≠v2.ownBlock:=by
 rcases h1.2 with⟨rfl,_⟩|⟨g,cap,cur,rfl,_,hg,_⟩
 ·exact .inl rfl
 ·refine .inr fun e=>?_
  rcases h2.2 with⟨rfl,_⟩|⟨g2,cap2,cur2,rfl,_,hg2,_⟩
  ·simp[Value.ownBlock]at e
  ·simp[Value.ownBlock]at e;subst e;rw[hg]at hg2;simp at hg2;exact hne hg2.2
def QbI(l:List (List UInt8 × Int)):List Value:=l.flatMap fun x=>[.string (bs x.1),.int .i64 x.2]
def Qbx(l:List Int):List Value:=l.map fun n=>.int .i64 n
theorem Jbh(l:List (List UInt8 × Int))(x:List UInt8 × Int):QbI (l++[x])=QbI l++[.string (bs x.1),.int .i64 x.2]:=by simp[QbI]
theorem Jbi(l:List Int)(x:Int):Qbx (l++[x])=Qbx l++[.int .i64 x]:=by simp[Qbx]
structure FnA where
 name:List UInt8
 off:Int
 params:List (List UInt8 × Int)
 types:List Int
 result:Int
 body:An
 pv:Value
 tv:Value
 lo:Nat
 hi:Nat
def FnA.src(f:FnA):FnS:=⟨(f.name,f.off),f.params,f.types,f.result,f.body.nd⟩
def FnA.cells(f:FnA):List Value:=[.string (bs f.name),.int .i64 f.off,f.pv,f.tv,.int .i64 f.result]++(Qaa f.body).toList
structure FnA.Ok(W:World)(f:FnA):Prop where
 pown:W.ownsRow f.lo 123 2 f.pv f.params.length (QbI f.params)
 town:W.ownsRow f.lo 3 1 f.tv f.types.length (Qbx f.types)
 bat:f.body.At W
 bmd:∃ m,f.lo<=m/\m<=f.hi/\(∀ g,f.pv.ownBlock=some g->g<m)/\(∀ g,f.tv.ownBlock=some g->g<m)/\QbY m f.hi f.body
 hle:f.hi<=W.heap.size
theorem FnA.Ok.chg{S:List Nat}{W W':World}{f:FnA}(h:f.Ok W)(hc:Chg S W W')(hs:∀ b∈S,b<f.lo\/f.hi<=b):f.Ok W':=by
 obtain⟨m,m1,m2,m3,m4,m5⟩:=h.bmd
 have hk:∀ {e size n:Nat} {v:Value} {xs:List Value},W.ownsRow f.lo e size v n xs->(∀ g,v.ownBlock=some g->g<m)->W'.ownsRow f.lo e size v n xs:=by
  intro e size n v xs ho hm;refine⟨ho.1,ho.2.imp id ?_⟩;rintro⟨g,cap,cur,rfl,h2,h3,h4⟩;have:=hm g rfl;exact⟨g,cap,cur,rfl,h2,hc.heap_some (fun hm=>by rcases hs g hm with h|h<;>omega) h3,h4⟩
 exact⟨hk h.pown m3,hk h.town m4,JJ _ h.bat fun b hb=>hc.block b (by have:=(m5.2 b hb).2;have:=h.hle;omega) (fun hm=>by have:=m5.2 b hb;rcases hs b hm with h|h<;>omega),⟨m,m1,m2,m3,m4,m5⟩,Nat.le_trans h.hle hc.size⟩
def FnP(p:Nat)(A:Option Addr)(C:Nat)(T:List Tok)(w:World)(x:PR FnS)(e:Ending)(w':World):Prop:=
 match x with
 |.out=>True
 |.bad o=>Qjp p w o e w'
 |.ok fs r=>∃ f:FnA,f.src=fs/\e=.returned (.agg f.cells.toArray)/\f.Ok w'/\w.heap.size<=f.lo/\f.lo<=f.hi/\(∃ k',r=T.drop k'/\PAt w' p A C T k')/\Chg [p] w w'
structure FnB(nm:List UInt8)(of:Int)(p:Nat)(A:Option Addr)(C:Nat)(T:List Tok)(w:World)(bx:Nat)(W:World)(k2:Nat)(pv tv:Value)(res:Int)(ps:List (List UInt8 × Int))(ts:List Int):Prop where
 pat:PAt W p A C T k2
 box:W.heap[bx]?=some (.cells #[.string (bs nm),.int .i64 of,pv,tv,.int .i64 res,.int .i64 0,.int .i64 0,.string ⟨#[]⟩,.int .i64 0,.slice none 0 0] 126 (0,0))
 rs:W.heap[w.heap.size]?=some (.cells #[.string ⟨#[]⟩,.int .i64 0,.slice none 0 0,.slice none 0 0,.int .i64 0,.int .i64 0,.int .i64 0,.string ⟨#[]⟩,.int .i64 0,.slice none 0 0] 126 (0,0))
 chg:Chg [p] w W
 low:w.heap.size<bx/\p<w.heap.size
 pown:W.ownsRow (bx+1) 123 2 pv ps.length (QbI ps)
 town:W.ownsRow (bx+1) 3 1 tv ts.length (Qbx ts)
section
variable {nm:List UInt8} {of:Int} {p:Nat} {A:Option Addr} {C:Nat} {T:List Tok} {w:World} {bx:Nat} {W:World} {k2:Nat} {pv tv:Value} {res:Int} {ps:List (List UInt8 × Int)} {ts:List Int}
theorem FnB.on{W':World}{k3:Nat}(h:FnB nm of p A C T w bx W k2 pv tv res ps ts)(hP:PAt W' p A C T k3)(hc:Chg [p] W W'):FnB nm of p A C T w bx W' k3 pv tv res ps ts:=by
 obtain⟨l1,l2⟩:=h.low;exact⟨hP,hc.heap_some (by simp;omega) h.box,hc.heap_some (by simp;omega) h.rs,h.chg.trans hc,h.low,Jz h.pown hc (by simp;omega),Jz h.town hc (by simp;omega)⟩
theorem FnB.bad{W':World}{α:Type}{x:PR α}{g:α->List Tok->PR FnS}{X:PR FnS}{R:Ending->World->Prop}{q:Int}(h:FnB nm of p A C T w bx W k2 pv tv res ps ts)(hR:R=FnP p A C T w X)(hX:x.bind g=X)(hx:x=.bad q)(hc:Chg [p] W W'):R (.panicked [{ v:=QeS q,recovered:=false }]) W':=by
 subst hx hX hR;exact⟨rfl,h.chg.trans hc⟩
theorem FnB.cell{j:Nat}{u:Value}(h:FnB nm of p A C T w bx W k2 pv tv res ps ts)(hu:[.string (bs nm),.int .i64 of,pv,tv,.int .i64 res][j]?=some u):W.cell? ⟨bx,j,none⟩=some u:=by
 rw[Ja h.box];have hj:j<5:=(List.getElem?_eq_some_iff.1 hu).1;rw[List.getElem?_toArray,<- hu]
 match j,hj with
 |0,_=>rfl
 |1,_=>rfl
 |2,_=>rfl
 |3,_=>rfl
 |4,_=>rfl
theorem FnB.set{j:Nat}{u:Value}(h:FnB nm of p A C T w bx W k2 pv tv res ps ts)(hT:∀ b o,A=some ⟨b,o,none⟩->b<w.heap.size) :
  PAt (W.setCell ⟨bx,j,none⟩ u) p A C T k2/\(W.setCell ⟨bx,j,none⟩ u).heap[w.heap.size]?=some (.cells #[.string ⟨#[]⟩,.int .i64 0,.slice none 0 0,.slice none 0 0,.int .i64 0,.int .i64 0,.int .i64 0,.string ⟨#[]⟩,.int .i64 0,.slice none 0 0] 126 (0,0))/\Chg [p] w (W.setCell ⟨bx,j,none⟩ u)/\Chg [bx] W (W.setCell ⟨bx,j,none⟩ u):=by
 obtain⟨l1,l2⟩:=h.low;have hc:Chg [bx] W (W.setCell ⟨bx,j,none⟩ u):=(Chg.refl _ _).setCell (.inl (by simp:bx∈[bx])) (p:=⟨bx,j,none⟩) u;exact⟨h.pat.setFar (by omega) (fun b o e=>by have:=hT b o e;omega) j _,hc.heap_some (by simp;omega) h.rs,h.chg.step hc (fun q hq=>.inr (by simp at hq;omega)),hc⟩
theorem FnB.setR(h:FnB nm of p A C T w bx W k2 pv tv res ps ts)(hT:∀ b o,A=some ⟨b,o,none⟩->b<w.heap.size)(r:Int):FnB nm of p A C T w bx (W.setCell ⟨bx,4,none⟩ (.int .i64 r)) k2 pv tv r ps ts:=by
 obtain⟨e1,e2,e3,e4⟩:=h.set (j:=4) (u:=.int .i64 r) hT;have hb:=J3 h.box 4 (.int .i64 r);exact⟨e1,hb,e2,e3,h.low,Jz h.pown e4 (by simp),Jz h.town e4 (by simp)⟩
theorem FnB.grow{w6 w7:World}{v:Value}{X:Obj}(h:FnB nm of p A C T w bx w6 k2 pv tv res ps ts)(hT:∀ b o,A=some ⟨b,o,none⟩->b<w.heap.size)(hv:∀ g,v.ownBlock=some g->bx+1<=g)(hgr:(w6.alloc X).grownBy w7 v.ownBlock) :
  PAt w7 p A C T k2/\w7.heap[bx]?=some (.cells #[.string (bs nm),.int .i64 of,pv,tv,.int .i64 res,.int .i64 0,.int .i64 0,.string ⟨#[]⟩,.int .i64 0,.slice none 0 0] 126 (0,0))/\w7.heap[w.heap.size]?=some (.cells #[.string ⟨#[]⟩,.int .i64 0,.slice none 0 0,.slice none 0 0,.int .i64 0,.int .i64 0,.int .i64 0,.string ⟨#[]⟩,.int .i64 0,.slice none 0 0] 126 (0,0))/\Chg [p] w w7:=by
 obtain⟨l1,l2⟩:=h.low;have hlt:=Jb h.box;have hk:∀ q,q<=bx->w7.heap[q]?=w6.heap[q]?:=fun q hq=>(hgr.block q (by simp;omega) (fun e=>by have:=hv q e.symm;omega)).trans (heap_alloc_old _ _ (by omega))
 have hs:w6.heap.size<=w7.heap.size:=by have:=hgr.size;simp at this;omega
 obtain⟨tb,ot,hA,htp,htc⟩:=h.pat.toks;have htb:=hT _ _ hA;refine⟨⟨(hk p (by omega)).trans h.pat.self,⟨tb,ot,hA,htp,fun i t hi j u hu=>(World.cell?_of_block (hk tb (by omega))).trans (htc i t hi j u hu)⟩,h.pat.lt,h.pat.fin,h.pat.room⟩,(hk bx zzl).trans h.box,(hk _ (by omega)).trans h.rs,hgr.os.trans h.chg.os,hgr.tape.trans h.chg.tape,hgr.output.trans h.chg.output,Nat.le_trans h.chg.size hs,fun q hq hn=>(hk q (by omega)).trans (h.chg.block q hq hn)⟩
theorem YA{w6 w7:World}{b e size n:Nat}{v v2:Value}{xs:List Value}{X:Obj}(h:w6.ownsRow b e size v n xs)(hgr:(w6.alloc X).grownBy w7 v2.ownBlock)(hd:v.ownBlock=none\/v.ownBlock≠v2.ownBlock):w7.ownsRow b e size v n xs:=(h.alloc X).kept hgr hd
theorem FnB.addP{w6 w7:World}{pv':Value}{x:List UInt8 × Int}{X:Obj}(h:FnB nm of p A C T w bx w6 k2 pv tv res ps ts)(hT:∀ b o,A=some ⟨b,o,none⟩->b<w.heap.size)(hown:w7.ownsRow (bx+1) 123 2 pv' (ps.length+1) (QbI ps++[.string (bs x.1),.int .i64 x.2]))(hgr:(w6.alloc X).grownBy w7 pv.ownBlock) :
  FnB nm of p A C T w bx (w7.setCell ⟨bx,2,none⟩ pv') k2 pv' tv res (ps++[x]) ts/\w7.heap[bx]?=some (.cells #[.string (bs nm),.int .i64 of,pv,tv,.int .i64 res,.int .i64 0,.int .i64 0,.string ⟨#[]⟩,.int .i64 0,.slice none 0 0] 126 (0,0)):=by
 obtain⟨g1,g2,g3,g4⟩:=h.grow hT (fun g hg=>(h.pown.lt g hg).1) hgr;have h7:FnB nm of p A C T w bx w7 k2 pv' tv res (ps++[x]) ts->True:=fun _=>trivial
 have ht7:w7.ownsRow (bx+1) 3 1 tv ts.length (Qbx ts):=YA h.town hgr (Vq h.town h.pown (by decide));have hc:Chg [bx] w7 (w7.setCell ⟨bx,2,none⟩ pv'):=(Chg.refl _ _).setCell (.inl (by simp:bx∈[bx])) (p:=⟨bx,2,none⟩) pv';obtain⟨l1,l2⟩:=h.low;refine⟨⟨g1.setFar (by omega) (fun b o e=>by have:=hT b o e;omega) 2 _,J3 g2 2 pv',hc.heap_some (by simp;omega) g3,g4.step hc (fun q hq=>.inr (by simp at hq;omega)),h.low,?_,Jz ht7 hc (by simp)⟩,g2⟩;have:=Jz hown hc (by simp);rw[Jbh,length_append];exact this
theorem FnB.addT{w6 w7:World}{tv':Value}{x:Int}{X:Obj}(h:FnB nm of p A C T w bx w6 k2 pv tv res ps ts)(hT:∀ b o,A=some ⟨b,o,none⟩->b<w.heap.size)(hown:w7.ownsRow (bx+1) 3 1 tv' (ts.length+1) (Qbx ts++[.int .i64 x]))(hgr:(w6.alloc X).grownBy w7 tv.ownBlock) :
  FnB nm of p A C T w bx (w7.setCell ⟨bx,3,none⟩ tv') k2 pv tv' res ps (ts++[x])/\w7.heap[bx]?=some (.cells #[.string (bs nm),.int .i64 of,pv,tv,.int .i64 res,.int .i64 0,.int .i64 0,.string ⟨#[]⟩,.int .i64 0,.slice none 0 0] 126 (0,0)):=by
 obtain⟨g1,g2,g3,g4⟩:=h.grow hT (fun g hg=>(h.town.lt g hg).1) hgr;have hp7:w7.ownsRow (bx+1) 123 2 pv ps.length (QbI ps):=YA h.pown hgr (Vq h.pown h.town (by decide));have hc:Chg [bx] w7 (w7.setCell ⟨bx,3,none⟩ tv'):=(Chg.refl _ _).setCell (.inl (by simp:bx∈[bx])) (p:=⟨bx,3,none⟩) tv';obtain⟨l1,l2⟩:=h.low;refine⟨⟨g1.setFar (by omega) (fun b o e=>by have:=hT b o e;omega) 3 _,J3 g2 3 tv',hc.heap_some (by simp;omega) g3,g4.step hc (fun q hq=>.inr (by simp at hq;omega)),h.low,Jz hp7 hc (by simp),?_⟩,g2⟩;have:=Jz hown hc (by simp);rw[Jbi,length_append];exact this
theorem FnB.fin{w5 w9:World}{k9:Nat}{a:An}(h:FnB nm of p A C T w bx w5 k2 pv tv res ps ts)(hat:a.At w9)(hm:QbY w5.heap.size w9.heap.size a)(hP:PAt w9 p A C T k9)(hc:Chg [p] w5 w9)(hT:∀ b o,A=some ⟨b,o,none⟩->b<w.heap.size) :
  (putAt bx w9 5 (Qaa a).toList).heap[bx]?=some (.cells (FnA.mk nm of ps ts res a pv tv (bx+1) w9.heap.size).cells.toArray 126 (0,0))/\(putAt bx w9 5 (Qaa a).toList).heap[w.heap.size]?=some (.cells #[.string ⟨#[]⟩,.int .i64 0,.slice none 0 0,.slice none 0 0,.int .i64 0,.int .i64 0,.int .i64 0,.string ⟨#[]⟩,.int .i64 0,.slice none 0 0] 126 (0,0))/\
  ∀ vs,(FnA.mk nm of ps ts res a pv tv (bx+1) w9.heap.size).Ok (putAt w.heap.size (putAt bx w9 5 (Qaa a).toList) 0 vs)/\PAt (putAt w.heap.size (putAt bx w9 5 (Qaa a).toList) 0 vs) p A C T k9/\Chg [p] w (putAt w.heap.size (putAt bx w9 5 (Qaa a).toList) 0 vs)/\w.heap.size<=bx+1/\bx+1<=w9.heap.size:=by
 obtain⟨l1,l2⟩:=h.low;have h9:=h.on hP hc;have hlt:=Jb h9.box;have hlt5:=Jb h.box;have c1:Chg [w.heap.size,bx] w9 (putAt bx w9 5 (Qaa a).toList):=VP (by simp) _ _ _;have hlen:(Qaa a).toList.length=5:=by rw[Array.length_toList,J4]
 refine⟨?_,?_,fun vs=>?_⟩
 ·exact VQ (Qaa a).toList [.string (bs nm),.int .i64 of,pv,tv,.int .i64 res] [.int .i64 0,.int .i64 0,.string ⟨#[]⟩,.int .i64 0,.slice none 0 0] w9 h9.box (by rw[hlen];rfl)
 ·exact(VP (S:=[bx]) (by simp) _ _ _).heap_some (by simp;omega) h9.rs
 ·have c2:Chg [w.heap.size,bx] w9 (putAt w.heap.size (putAt bx w9 5 (Qaa a).toList) 0 vs):=c1.trans (VP (by simp) _ _ _);have hok:(FnA.mk nm of ps ts res a pv tv (bx+1) w9.heap.size).Ok w9:=⟨h9.pown,h9.town,hat,⟨w5.heap.size,by show bx+1<=_;omega,hc.size,fun g hg=>(h.pown.lt g hg).2,fun g hg=>(h.town.lt g hg).2,hm⟩,Nat.le_refl _⟩
  refine⟨hok.chg c2 (fun b hb=>?_),?_,h9.chg.step c2 (fun q hq=>.inr ?_),by omega,by omega⟩
  ·simp only[List.mem_cons,List.not_mem_nil,or_false]at hb
   rcases hb with rfl|rfl
   ·exact .inl (by show _<bx+1;omega)
   ·exact .inl (by show _<_+1;omega)
  ·exact PAt.putAt (by omega) (fun b o e=>by have:=hT b o e;omega) _ _ (PAt.putAt (by omega) (fun b o e=>by have:=hT b o e;omega) _ _ hP)
  ·simp only[List.mem_cons,List.not_mem_nil,or_false]at hq;omega
end
def Qln(f:Nat)(ps:List (List UInt8 × Int))(ts:List Int)(nm:List UInt8 × Int)(t:Int)(r3:List Tok):PR (List (List UInt8 × Int) × List Int):=
 match acc 3 [44] r3 with
 |some r4=>Qak f (ps++[nm]) (ts++[t]) r4
 |none=>(Qaf 3 [41] r3).bind fun _ r4=>.ok (ps++[nm],ts++[t]) r4
def Qlo(f:Nat)(ps:List (List UInt8 × Int))(ts:List Int)(nm:List UInt8 × Int)(r1:List Tok):PR (List (List UInt8 × Int) × List Int):=
 (Qaf 3 [58] r1).bind fun _ r2=>(QcB r2).bind (Qln f ps ts nm)
theorem Jeq(f:Nat)(ps:List (List UInt8 × Int))(ts:List Int)(r:List Tok):Qak (f+1) ps ts r=(Qau r).bind (Qlo f ps ts):=by rw[Qak];rfl
def QiX(f:Nat)(nm:List UInt8 × Int)(pt:List (List UInt8 × Int) × List Int)(r3:List Tok):PR FnS:=
 (Qaf 3 [58] r3).bind fun _ r4=>(QcB r4).bind fun t r5=>(Qaf 3 [61] r5).bind fun _ r6=>(pM f .expr r6).bind fun b r7=>.ok ⟨nm,pt.1,pt.2,t,b⟩ r7
theorem Jkg(f:Nat)(r:List Tok):Qdb f r=(Qau r).bind fun nm r1=>(Qaf 3 [40] r1).bind fun _ r2=>
  (match acc 3 [41] r2 with
   |some r3=>PR.ok ([],[]) r3
   |none=>Qak f [] [] r2).bind (QiX f nm):=rfl
theorem K4{α β γ:Type}{x:PR α}{f:α->List Tok->PR β}{g:β->List Tok->PR γ}{X:PR γ}(h:(x.bind f).bind g=X):(x.bind fun a r=>(f a r).bind g)=X:=by cases x<;>exact h
theorem Jer(r:List Tok):(∃ t r',QcB r=.ok t r')\/QcB r=.bad (hd r).off:=by
 unfold QcB;split
 ·exact .inl ⟨_,_,rfl⟩
 ·split
  ·exact .inl ⟨_,_,rfl⟩
  ·exact .inr rfl
theorem Jcw(r:List Tok):QcB r≠.out:=by
 rcases Jer r with⟨_,_,h⟩|h<;>rw[h]<;>exact fun h=>by cases h
theorem Qmu{P:Prop}(h:P:=by
  have hl7:=Jb hbx;clear hown7 hgr7 hfr7 hst hbx HOW HRW hlo6;refine hK.out _ _ (hcl) fun hH=>?_
  clear hK K;refine LK 6 rfl ?_;refine LZ 7 rfl fun K hK=>?_
  go_simp;clear hcl f4 hl7;refine hK.out _ _ ?_;clear hK K;go_wp2_with fail;go_meet
  exact⟨_,_,_,_,_,HST.out,HX1.out⟩):P:=h
theorem Qkn{P:Prop}(h:P:=by
  rw[HR.out,<- HX2.out];obtain⟨e1,e2,e3,e4,e5⟩:=HG5.out
  exact⟨_,rfl,by rw[HCG.out _ _],e1,e4,e5,⟨k9,rfl,e2⟩,e3⟩):P:=h
theorem Jbj(f p:Nat)(A:Option Addr)(C:Nat)(T:List Tok)(hf:f<=100000000)(hx:∀ t∈T,t.text.length<=1000000)
  (I1:∀ k w,PAt w p A C T k->pM f .expr (T.drop k)≠.out->Calls prog 67 #[.pointer (some ⟨p,0,none⟩)] w (NdP p A C T w (pM f .expr (T.drop k))))
  (k:Nat) (w:World) (h:PAt w p A C T k) (hne:Qdb f (T.drop k)≠.out) :
  Calls prog 66 #[.pointer (some ⟨p,0,none⟩)] w (FnP p A C T w (Qdb f (T.drop k))):=by
 obtain⟨X,hX⟩:∃ X,Qdb f (T.drop k)=X:=⟨_,rfl⟩
 have hcm:=hX;rw[Jkg]at hcm;rw[hX]at hne |-;obtain⟨R,hR⟩:∃ R,FnP p A C T w X=R:=⟨_,rfl⟩
 rw[hR];have HR:Hid (R=FnP p A C T w X):=hR.symm;have HNE:=Zh hne;have hZ:=zzw w (.cells #[.string ⟨#[]⟩,.int .i64 0,.slice none 0 0,.slice none 0 0,.int .i64 0,.int .i64 0,.int .i64 0,.string ⟨#[]⟩,.int .i64 0,.slice none 0 0] 126);have hB:=(Below.refl w.heap.size w).alloc zzl (.cells #[.string ⟨#[]⟩,.int .i64 0,.slice none 0 0,.slice none 0 0,.int .i64 0,.int .i64 0,.int .i64 0,.string ⟨#[]⟩,.int .i64 0,.slice none 0 0] 126);have HP:=Zh (h.chg hB);have HZ:=Zh hZ;have HC:=Zh (Chg.of_below hB [p]);have HPL:=Zh h.chg1;have HTL:=Zh h.tokLt;have HX1:=Zh hcm;have hpz:w.heap.size≠p:=by have:=HPL.out;omega
 clear h hne hR hZ hB hcm hX;go_enter func66,ntmps66;go_wp2_with fail;refine PRp.call (Vp p A C T k _ HP.out hx) (JQ HX1.out HNE.out) (fun q _ hi hc=>by exact⟨rfl,by rw[HR.out,<- HX1.out,hi];exact⟨rfl,HC.out.trans hc⟩⟩) fun nm w1 k1 hi hp1 hc1=>?_
 obtain⟨nm,of⟩:=nm;replace HX1:=Zh (Jw HX1.out hi);unfold Qim;dsimp only
 have HFB:Hid (FnB nm of p A C T w w1.heap.size (w1.alloc (.cells #[.string (bs nm),.int .i64 of,.slice none 0 0,.slice none 0 0,.int .i64 0,.int .i64 0,.int .i64 0,.string ⟨#[]⟩,.int .i64 0,.slice none 0 0] 126)) k1 (.slice none 0 0) (.slice none 0 0) 0 [] []):=by
  have hb:Below w1.heap.size w1 (w1.alloc (.cells #[.string (bs nm),.int .i64 of,.slice none 0 0,.slice none 0 0,.int .i64 0,.int .i64 0,.int .i64 0,.string ⟨#[]⟩,.int .i64 0,.slice none 0 0] 126)):=zzb.alloc zzl _;have hz:=hc1.heap_some (by simp;exact hpz) HZ.out;exact⟨hp1.chg hb,zzw _ _,(hb.block _ (Jb hz)).trans hz,(HC.out.trans hc1).alloc _,⟨Jb hz,HPL.out⟩,World.ownsRow_nil _ _ _ _,World.ownsRow_nil _ _ _ _⟩
 clear hi hp1 hc1 HP HZ HC;go_wp2_with fail;generalize World.alloc w1 _=W1 at *;generalize w1.heap.size=bx at *;have hbx1:bx≠w.heap.size:=by have:=HFB.out.low;omega
 have hbx2:w.heap.size≠bx:=by have:=HFB.out.low;omega
 have hbx3:bx≠p:=by have:=HFB.out.low;omega
 go_wp2_with fail;refine PRp.call (QdA p A C T k1 [40] _ HFB.out.pat) (J7 _ _ _) (fun q _ hx hc=>by exact⟨rfl,HFB.out.bad HR.out HX1.out hx hc⟩) fun _ w2 k2 hx hp hc=>?_
 replace HX1:=Zh (Jw HX1.out hx);replace HFB:=Zh (HFB.out.on hp hc);clear hx hp hc;go_wp2_with fail;refine(Jr p A C T k2 3 [41] w2 HFB.out.pat (by decide)).mono ?_;intro e w3 h3
 rcases h3 with⟨g1,g2,rfl,hp3,hc3⟩|⟨g1,rfl,hb3⟩
 ·have hx1:=HX1.out;rw[JP g1 g2]at hx1;dsimp only at hx1;rw[JfE]at hx1;replace HX1:=Zh hx1;replace HFB:=Zh (HFB.out.on hp3 hc3);clear g1 g2 hp3 hc3 hx1;have hx1:=HX1.out
  try dsimp only at hx1
  try rw[JfE]at hx1
  rw[QiX]at hx1;replace HX1:=Zh hx1;clear hx1;go_wp2_with fail;refine PRp.call (QdA p A C T (k2+1) [58] _ HFB.out.pat) (J7 _ _ _) (fun q _ hx hc=>by exact⟨rfl,HFB.out.bad HR.out HX1.out hx hc⟩) fun _ wt1 kt1 hx hp hc=>?_
  replace HX1:=Zh (Jw HX1.out hx);replace HFB:=Zh (HFB.out.on hp hc);clear hx hp hc;go_wp2_with fail;refine PRp.call (Jax p A C T kt1 _ HFB.out.pat) (Jcw _) (fun q _ hx hc=>by exact⟨rfl,HFB.out.bad HR.out HX1.out hx hc⟩) fun ty wt2 kt2 hx hp hc=>?_
  replace HX1:=Zh (Jw HX1.out hx);replace HFB:=Zh (HFB.out.on hp hc);clear hx hp hc;have hbx:=HFB.out.box;have b4:=Ja hbx 4;have f4:=Jc hbx 4;have hl4:=Jb hbx;simp only[ZD,ZE,ZF]at b4;replace HFB:=Zh (HFB.out.setR HTL.out ty);clear hbx;go_wp2_with fail;clear b4 f4 hl4;generalize World.setCell wt2 _ _=wt3 at *;refine PRp.call (QdA p A C T kt2 [61] _ HFB.out.pat) (J7 _ _ _) (fun q _ hx hc=>by exact⟨rfl,HFB.out.bad HR.out HX1.out hx hc⟩) fun _ wt4 kt4 hx hp hc=>?_
  replace HX1:=Zh (Jw HX1.out hx);replace HFB:=Zh (HFB.out.on hp hc);clear hx hp hc;go_wp2_with fail;refine NdP.call (I1 kt4 _ HFB.out.pat (JQ HX1.out HNE.out)) (JQ HX1.out HNE.out) (fun q _ hx hc=>by exact⟨rfl,HFB.out.bad HR.out HX1.out hx hc⟩) fun a w9 k9 xA xn xc hx hcf B=>?_
  obtain⟨hat,hmd,hp9,hc9⟩:=B;replace HX1:=Zh (Jw HX1.out hx);obtain⟨g1,g2,g3⟩:=HFB.out.fin hat hmd hp9 hc9 HTL.out;have HX2:=HX1;have HG1:=Zh g1;have HG2:=Zh g2;have HG3:=Zh g3;have hbx:=(HFB.out.on hp9 hc9).box;have b5:=Ja hbx 5;have b6:=Ja hbx 6;have b7:=Ja hbx 7;have b8:=Ja hbx 8;have b9:=Ja hbx 9;simp only[ZD,ZE,ZF]at b5 b6 b7 b8 b9;have f5:=Jc hbx 5;have f6:=Jc hbx 6;have f7:=Jc hbx 7;have f8:=Jc hbx 8;have f9:=Jc hbx 9;have hl9:=Jb hbx;have HCF:=Zh hcf;rw[hcf]at HG1 HG2 HG3;simp only[FnA.cells,hcf,cons_append,nil_append]at HG1;clear hx hat hmd hp9 hc9 hcf g1 g2 g3 hbx HFB HX1 I1;go_upto_region 13 with fail;clear b5 b6 b7 b8 b9 f5 f6 f7 f8 f9 hl9;have HG4:Hid (_/\_/\_):=⟨HG1.out,HG2.out,HG3.out⟩
  clear HG1 HG2 HG3;simp only[putAt]at HG4;generalize World.setCell (World.setCell _ _ _) _ _=W9 at *;have hbx:=HG4.out.1;have hrs:=HG4.out.2.1;have b0:=Ja hbx 0;have b1:=Ja hbx 1;have b2:=Ja hbx 2;have b3:=Ja hbx 3;have b4:=Ja hbx 4;have b5:=Ja hbx 5;have b6:=Ja hbx 6;have b7:=Ja hbx 7;have b8:=Ja hbx 8;have b9:=Ja hbx 9;have z0:=Ja hrs 0;have y0:=Jc hrs 0;have z1:=Ja hrs 1;have y1:=Jc hrs 1;have z2:=Ja hrs 2;have y2:=Jc hrs 2;have z3:=Ja hrs 3;have y3:=Jc hrs 3;have z4:=Ja hrs 4;have y4:=Jc hrs 4;have z5:=Ja hrs 5;have y5:=Jc hrs 5;have z6:=Ja hrs 6;have y6:=Jc hrs 6;have z7:=Ja hrs 7;have y7:=Jc hrs 7;have z8:=Ja hrs 8;have y8:=Jc hrs 8;have z9:=Ja hrs 9;have y9:=Jc hrs 9;simp only[ZD,ZE,ZF]at b0 z0 b1 z1 b2 z2 b3 z3 b4 z4 b5 z5 b6 z6 b7 z7 b8 z8 b9 z9;have hlw:=Jb hrs;have HRZ:=Zh (VQ (t:=126) [.string (bs nm),.int .i64 of,(.slice none 0 0),(.slice none 0 0),.int .i64 ty,.int .i64 a.kind,.int .i64 a.num,.string (bs a.name),.int .i64 a.off,.slice xA xn xc] [] [.string ⟨#[]⟩,.int .i64 0,.slice none 0 0,.slice none 0 0,.int .i64 0,.int .i64 0,.int .i64 0,.string ⟨#[]⟩,.int .i64 0,.slice none 0 0] W9 hrs rfl);have HG5:=Zh (HG4.out.2.2 [.string (bs nm),.int .i64 of,(.slice none 0 0),(.slice none 0 0),.int .i64 ty,.int .i64 a.kind,.int .i64 a.num,.string (bs a.name),.int .i64 a.off,.slice xA xn xc]);simp only[putAt,List.length_nil,nil_append,Nat.zero_add,Nat.reduceAdd]at HRZ HG5;have HCG:Hid (∀ (ps:List (List UInt8 × Int)) (ts:List Int),(FnA.cells (FnA.mk nm of ps ts ty a (.slice none 0 0) (.slice none 0 0) (bx+1) w9.heap.size)).toArray=([.string (bs nm),.int .i64 of,(.slice none 0 0),(.slice none 0 0),.int .i64 ty,.int .i64 a.kind,.int .i64 a.num,.string (bs a.name),.int .i64 a.off,.slice xA xn xc]).toArray):=fun ps ts=>by simp only[FnA.cells,HCF.out,cons_append,nil_append]
  clear hbx hrs HG4;go_wp2;refine bodyPost_ret (v:=.agg ([.string (bs nm),.int .i64 of,(.slice none 0 0),(.slice none 0 0),.int .i64 ty,.int .i64 a.kind,.int .i64 a.num,.string (bs a.name),.int .i64 a.off,.slice xA xn xc]).toArray) (results_cell_row rfl _ _ w.heap.size 126 _ (0,0) _ rfl HRZ.out underlying126 rfl Qiq) rfl ?_;exact Qkn
 ·have hx1:=HX1.out;rw[Kf g1]at hx1;dsimp only at hx1;have HLI:Hid (∃ k2 pv tv ps ts,FnB nm of p A C T w bx w3 k2 pv tv 0 ps ts/\((Qak f ps ts (T.drop k2)).bind (QiX f (nm,of)))=X/\f+ps.length<=f/\ts.length=ps.length):=⟨_,_,_,[],[],HFB.out.on (HFB.out.pat.chg hb3) (Chg.of_below hb3 [p]),hx1,Nat.le_refl _,rfl⟩
  clear g1 hb3 hx1 HX1 HFB;go_wp2_with fail;go_loopg [] f (fun g wr=>Hid (∃ k2 pv tv ps ts,FnB nm of p A C T w bx wr k2 pv tv 0 ps ts/\((Qak g ps ts (T.drop k2)).bind (QiX f (nm,of)))=X/\g+ps.length<=f/\ts.length=ps.length))
  case atStart=>exact HLI
  case round=>
  clear HLI;obtain⟨wl,rfl⟩:∃ wl:World,wl=wr:=⟨_,rfl⟩
  obtain⟨k2,pv,tv,ps,ts,hI,heq,hle,hlt⟩:=hrel.out
  cases gk with
  |zero=>exact absurd heq.symm HNE.out
  |succ g2=>
  obtain⟨va,vn,vc,rfl⟩:=Jh hI.pown;rw[Jeq]at heq;have hD:Below wl.heap.size wl wl.drew:=(Below.refl wl.heap.size wl).drew;have HFB:=Zh (hI.on (hI.pat.chg hD) (Chg.of_below hD [p]));have HX1:=Zh (K4 heq);have hll:ps.length<=100000000:=by omega
  have HLE:Hid (g2+1+ps.length<=f/\ts.length=ps.length):=⟨hle,hlt⟩
  clear hI heq hle hlt hrel hD;go_upto_region 4 with fail;go_cut [] (fun wx=>Hid (∃ x k3 va vn vc,FnB nm of p A C T w bx wx k3 (.slice va vn vc) tv 0 (ps++[x]) ts/\((Qlo g2 ps ts x (T.drop k3)).bind (QiX f (nm,of)))=X))
  case first=>
   have hcl:=HFB.out.cell (j:=2) rfl;refine LB (fun W=>W.cell? ⟨bx,2,none⟩=some (.slice va vn vc)) 7 (by simp[*,World.cell?_alloc_some]) fun hH=>?_
   refine LK 0 rfl ?_;refine LK 1 rfl ?_;refine LK 2 rfl ?_;refine LO 3 rfl fun K hK=>?_
   go_simp;go_at_call 94;refine PRp.call (Vp p A C T k2 _ HFB.out.pat hx) (JQ HX1.out HNE.out) (fun q _ hi hc=>by exact⟨rfl,HFB.out.bad HR.out HX1.out hi hc⟩) fun x w6 k4 hi hp hc=>?_
   unfold Qim;replace HX1:=Zh (Jw HX1.out hi);replace HFB:=Zh (HFB.out.on hp hc);have HOW:=Zh (HFB.out.pown.alloc (.cells #[.string (bs x.1),.int .i64 x.2] 123));have HRW:=Zh (zzw w6 (.cells #[.string (bs x.1),.int .i64 x.2] 123));have hlo6:bx+1<=(w6.alloc (.cells #[.string (bs x.1),.int .i64 x.2] 123)).heap.size:=by have:=Jb HFB.out.box;rw[World.size_alloc];omega
   replace hcl:=HFB.out.cell (j:=2) rfl;clear hi hp hc;refine hK.out _ _ (hcl) fun hH=>?_
   clear hK K;refine LO 4 rfl fun K hK=>?_
   go_simp;refine hK.out _ _ (by simp[*,World.cell?_alloc_some]) fun hH=>?_
   clear hK K;refine LO 5 rfl fun K hK=>?_
   (refine Jt (w6.alloc (.cells #[.string (bs x.1),.int .i64 x.2] 123)) (by rfl) (.tmp 13) (.tmp 16) 124 123 _ 2 24 (by rfl) underlying124 Qgi rfl (by decide) (bx+1) (.slice va vn vc) ps.length (QbI ps) [.string (bs x.1),.int .i64 x.2] (by rfl) HOW.out w6.heap.size (by rfl) HRW.out rfl (by intro u hu;simp at hu;rcases hu with rfl|rfl<;>rfl) hll (by decide) hlo6 ?_;intro v7 w7 hown7 hgr7 hfr7)
   obtain⟨a7,m7,c7,rfl⟩:=Jh hown7;obtain⟨hst,hbx⟩:=HFB.out.addP HTL.out hown7 hgr7;have HST:=Zh hst;replace hcl:=Ja hbx 2;simp only[ZD,ZE,ZF]at hcl;have f4:=Jc hbx 2;exact Qmu
  case rest=>
  obtain⟨x,k3,va,vn,vc,hI3,hx3⟩:=hcut.out;replace HFB:=Zh hI3;rw[Qlo]at hx3;replace HX1:=Zh (K4 hx3);clear hI3 hx3 hcut;go_wp2_with fail;refine PRp.call (QdA p A C T k3 [58] _ HFB.out.pat) (J7 _ _ _) (fun q _ hx hc=>by exact⟨rfl,HFB.out.bad HR.out HX1.out hx hc⟩) fun _ w4 k4 hx hp hc=>?_
  replace HX1:=Zh (Jw HX1.out hx);replace HFB:=Zh (HFB.out.on hp hc);clear hx hp hc;replace HX1:=Zh (K4 HX1.out);obtain⟨ua,un,uc,htv⟩:=Jh HFB.out.town;subst htv;have hD:Below w4.heap.size w4 w4.drew:=(Below.refl w4.heap.size w4).drew;replace HFB:=Zh (HFB.out.on (HFB.out.pat.chg hD) (Chg.of_below hD [p]));have hl2:ts.length<=100000000:=by have:=HLE.out;omega
  clear hD;go_upto_region 6 with fail;go_cut [] (fun wx=>Hid (∃ t k5 ua un uc,FnB nm of p A C T w bx wx k5 (.slice va vn vc) (.slice ua un uc) 0 (ps++[x]) (ts++[t])/\((Qln g2 ps ts x t (T.drop k5)).bind (QiX f (nm,of)))=X))
  case first=>
   have hcl:=HFB.out.cell (j:=3) rfl;refine LB (fun W=>W.cell? ⟨bx,3,none⟩=some (.slice ua un uc)) 7 (by simp[*,World.cell?_alloc_some]) fun hH=>?_
   refine LK 0 rfl ?_;refine LK 1 rfl ?_;refine LK 2 rfl ?_;refine LO 3 rfl fun K hK=>?_
   go_simp;go_at_call 96;refine PRp.call (Jax p A C T k4 _ HFB.out.pat) (Jcw _) (fun q _ hi hc=>by exact⟨rfl,HFB.out.bad HR.out HX1.out hi hc⟩) fun t w6 k6 hi hp hc=>?_
   replace HX1:=Zh (Jw HX1.out hi);replace HFB:=Zh (HFB.out.on hp hc);have HOW:=Zh (HFB.out.town.alloc (.cells #[.int .i64 t] 3));have HRW:=Zh (zzw w6 (.cells #[.int .i64 t] 3));have hlo6:bx+1<=(w6.alloc (.cells #[.int .i64 t] 3)).heap.size:=by have:=Jb HFB.out.box;rw[World.size_alloc];omega
   replace hcl:=HFB.out.cell (j:=3) rfl;clear hi hp hc;refine hK.out _ _ (hcl) fun hH=>?_
   clear hK K;refine LO 4 rfl fun K hK=>?_
   go_simp;refine hK.out _ _ (by simp[*,World.cell?_alloc_some]) fun hH=>?_
   clear hK K;refine LO 5 rfl fun K hK=>?_
   (refine Jt (w6.alloc (.cells #[.int .i64 t] 3)) (by rfl) (.tmp 22) (.tmp 25) 42 3 _ 1 8 (by rfl) underlying42 QhR rfl (by decide) (bx+1) (.slice ua un uc) ts.length (Qbx ts) [.int .i64 t] (by rfl) HOW.out w6.heap.size (by rfl) HRW.out rfl (by intro u hu;simp at hu;subst hu;rfl) hl2 (by decide) hlo6 ?_;intro v7 w7 hown7 hgr7 hfr7)
   obtain⟨a7,m7,c7,rfl⟩:=Jh hown7;obtain⟨hst,hbx⟩:=HFB.out.addT HTL.out hown7 hgr7;have HST:=Zh hst;replace hcl:=Ja hbx 3;simp only[ZD,ZE,ZF]at hcl;have f4:=Jc hbx 3;exact Qmu
  case rest=>
  obtain⟨t,k5,ua,un,uc,hI3,hx3⟩:=hcut.out;replace HFB:=Zh hI3;rw[Qln]at hx3;replace HX1:=Zh hx3;clear hI3 hx3 hcut;go_wp2_with fail;refine(Jr p A C T k5 3 [44] _ HFB.out.pat (by decide)).mono ?_;intro e w8 h8
  rcases h8 with⟨g1,g2',rfl,hp8,hc8⟩|⟨g1,rfl,hb8⟩
  ·have hx1:=HX1.out;rw[JP g1 g2']at hx1;dsimp only at hx1;have HX5:=Zh hx1;replace HFB:=Zh (HFB.out.on hp8 hc8);clear hx1 g1 g2' hp8 hc8 HX1;go_wp2;go_roundg g2
   case measure=>exact Nat.lt_succ_self _
   case rel=>exact⟨_,_,_,_,_,HFB.out,HX5.out,by have:=HLE.out;rw[length_append,List.length_singleton];omega,by have:=HLE.out;rw[length_append,length_append,List.length_singleton,List.length_singleton];omega⟩
  ·have hx1:=HX1.out;rw[Kf g1]at hx1;dsimp only at hx1;replace HX1:=Zh (K4 hx1);replace HFB:=Zh (HFB.out.on (HFB.out.pat.chg hb8) (Chg.of_below hb8 [p]));clear hx1 g1 hb8;go_wp2_with fail;refine PRp.call (QdA p A C T k5 [41] _ HFB.out.pat) (J7 _ _ _) (fun q _ hx hc=>by exact⟨rfl,HFB.out.bad HR.out HX1.out hx hc⟩) fun _ w6 k6 hx hp hc=>?_
   replace HX1:=Zh (Jw HX1.out hx);replace HFB:=Zh (HFB.out.on hp hc);clear hx hp hc;have hx1:=HX1.out
   try dsimp only at hx1
   try rw[JfE]at hx1
   rw[QiX]at hx1;replace HX1:=Zh hx1;clear hx1;go_wp2_with fail;refine PRp.call (QdA p A C T k6 [58] _ HFB.out.pat) (J7 _ _ _) (fun q _ hx hc=>by exact⟨rfl,HFB.out.bad HR.out HX1.out hx hc⟩) fun _ wt1 kt1 hx hp hc=>?_
   replace HX1:=Zh (Jw HX1.out hx);replace HFB:=Zh (HFB.out.on hp hc);clear hx hp hc;go_wp2_with fail;refine PRp.call (Jax p A C T kt1 _ HFB.out.pat) (Jcw _) (fun q _ hx hc=>by exact⟨rfl,HFB.out.bad HR.out HX1.out hx hc⟩) fun ty wt2 kt2 hx hp hc=>?_
   replace HX1:=Zh (Jw HX1.out hx);replace HFB:=Zh (HFB.out.on hp hc);clear hx hp hc;have hbx:=HFB.out.box;have b4:=Ja hbx 4;have f4:=Jc hbx 4;have hl4:=Jb hbx;simp only[ZD,ZE,ZF]at b4;replace HFB:=Zh (HFB.out.setR HTL.out ty);clear hbx;go_wp2_with fail;clear b4 f4 hl4;generalize World.setCell wt2 _ _=wt3 at *;refine PRp.call (QdA p A C T kt2 [61] _ HFB.out.pat) (J7 _ _ _) (fun q _ hx hc=>by exact⟨rfl,HFB.out.bad HR.out HX1.out hx hc⟩) fun _ wt4 kt4 hx hp hc=>?_
   replace HX1:=Zh (Jw HX1.out hx);replace HFB:=Zh (HFB.out.on hp hc);clear hx hp hc;go_wp2_with fail;refine NdP.call (I1 kt4 _ HFB.out.pat (JQ HX1.out HNE.out)) (JQ HX1.out HNE.out) (fun q _ hx hc=>by exact⟨rfl,HFB.out.bad HR.out HX1.out hx hc⟩) fun a w9 k9 xA xn xc hx hcf B=>?_
   obtain⟨hat,hmd,hp9,hc9⟩:=B;replace HX1:=Zh (Jw HX1.out hx);obtain⟨g1,g2,g3⟩:=HFB.out.fin hat hmd hp9 hc9 HTL.out;have HX2:=HX1;have HG1:=Zh g1;have HG2:=Zh g2;have HG3:=Zh g3;have hbx:=(HFB.out.on hp9 hc9).box;have b5:=Ja hbx 5;have b6:=Ja hbx 6;have b7:=Ja hbx 7;have b8:=Ja hbx 8;have b9:=Ja hbx 9;simp only[ZD,ZE,ZF]at b5 b6 b7 b8 b9;have f5:=Jc hbx 5;have f6:=Jc hbx 6;have f7:=Jc hbx 7;have f8:=Jc hbx 8;have f9:=Jc hbx 9;have hl9:=Jb hbx;have HCF:=Zh hcf;rw[hcf]at HG1 HG2 HG3;simp only[FnA.cells,hcf,cons_append,nil_append]at HG1;clear hx hat hmd hp9 hc9 hcf g1 g2 g3 hbx HFB HX1 I1;go_upto_region 13 with fail;clear b5 b6 b7 b8 b9 f5 f6 f7 f8 f9 hl9;have HG4:Hid (_/\_/\_):=⟨HG1.out,HG2.out,HG3.out⟩
   clear HG1 HG2 HG3;simp only[putAt]at HG4;generalize World.setCell (World.setCell _ _ _) _ _=W9 at *;have hbx:=HG4.out.1;have hrs:=HG4.out.2.1;have b0:=Ja hbx 0;have b1:=Ja hbx 1;have b2:=Ja hbx 2;have b3:=Ja hbx 3;have b4:=Ja hbx 4;have b5:=Ja hbx 5;have b6:=Ja hbx 6;have b7:=Ja hbx 7;have b8:=Ja hbx 8;have b9:=Ja hbx 9;have z0:=Ja hrs 0;have y0:=Jc hrs 0;have z1:=Ja hrs 1;have y1:=Jc hrs 1;have z2:=Ja hrs 2;have y2:=Jc hrs 2;have z3:=Ja hrs 3;have y3:=Jc hrs 3;have z4:=Ja hrs 4;have y4:=Jc hrs 4;have z5:=Ja hrs 5;have y5:=Jc hrs 5;have z6:=Ja hrs 6;have y6:=Jc hrs 6;have z7:=Ja hrs 7;have y7:=Jc hrs 7;have z8:=Ja hrs 8;have y8:=Jc hrs 8;have z9:=Ja hrs 9;have y9:=Jc hrs 9;simp only[ZD,ZE,ZF]at b0 z0 b1 z1 b2 z2 b3 z3 b4 z4 b5 z5 b6 z6 b7 z7 b8 z8 b9 z9;have hlw:=Jb hrs;have HRZ:=Zh (VQ (t:=126) [.string (bs nm),.int .i64 of,(.slice va vn vc),(.slice ua un uc),.int .i64 ty,.int .i64 a.kind,.int .i64 a.num,.string (bs a.name),.int .i64 a.off,.slice xA xn xc] [] [.string ⟨#[]⟩,.int .i64 0,.slice none 0 0,.slice none 0 0,.int .i64 0,.int .i64 0,.int .i64 0,.string ⟨#[]⟩,.int .i64 0,.slice none 0 0] W9 hrs rfl);have HG5:=Zh (HG4.out.2.2 [.string (bs nm),.int .i64 of,(.slice va vn vc),(.slice ua un uc),.int .i64 ty,.int .i64 a.kind,.int .i64 a.num,.string (bs a.name),.int .i64 a.off,.slice xA xn xc]);simp only[putAt,List.length_nil,nil_append,Nat.zero_add,Nat.reduceAdd]at HRZ HG5;have HCG:Hid (∀ (ps:List (List UInt8 × Int)) (ts:List Int),(FnA.cells (FnA.mk nm of ps ts ty a (.slice va vn vc) (.slice ua un uc) (bx+1) w9.heap.size)).toArray=([.string (bs nm),.int .i64 of,(.slice va vn vc),(.slice ua un uc),.int .i64 ty,.int .i64 a.kind,.int .i64 a.num,.string (bs a.name),.int .i64 a.off,.slice xA xn xc]).toArray):=fun ps ts=>by simp only[FnA.cells,HCF.out,cons_append,nil_append]
   clear hbx hrs HG4;go_wp2;refine bodyPost_ret (v:=.agg ([.string (bs nm),.int .i64 of,(.slice va vn vc),(.slice ua un uc),.int .i64 ty,.int .i64 a.kind,.int .i64 a.num,.string (bs a.name),.int .i64 a.off,.slice xA xn xc]).toArray) (results_cell_row rfl _ _ w.heap.size 126 _ (0,0) _ rfl HRZ.out underlying126 rfl Qiq) rfl ?_;exact Qkn
structure Ih(p:Nat)(A:Option Addr)(C:Nat)(T:List Tok)(f:Nat):Prop where
 expr:∀ k w,PAt w p A C T k->pM f .expr (T.drop k)≠.out->Calls prog 67 #[.pointer (some ⟨p,0,none⟩)] w (NdP p A C T w (pM f .expr (T.drop k)))
 l1:∀ k w,PAt w p A C T k->pM f (.level 1) (T.drop k)≠.out->Calls prog 97 #[.pointer (some ⟨p,0,none⟩),.int .i64 1] w (NdP p A C T w (pM f (.level 1) (T.drop k)))
 l2:∀ k w,PAt w p A C T k->pM f (.level 2) (T.drop k)≠.out->Calls prog 97 #[.pointer (some ⟨p,0,none⟩),.int .i64 2] w (NdP p A C T w (pM f (.level 2) (T.drop k)))
 l3:∀ k w,PAt w p A C T k->pM f (.level 3) (T.drop k)≠.out->Calls prog 97 #[.pointer (some ⟨p,0,none⟩),.int .i64 3] w (NdP p A C T w (pM f (.level 3) (T.drop k)))
 cm:∀ k w,PAt w p A C T k->pM f .cmp (T.drop k)≠.out->Calls prog 114 #[.pointer (some ⟨p,0,none⟩)] w (NdP p A C T w (pM f .cmp (T.drop k)))
 l5:∀ k w,PAt w p A C T k->pM f (.level 5) (T.drop k)≠.out->Calls prog 97 #[.pointer (some ⟨p,0,none⟩),.int .i64 5] w (NdP p A C T w (pM f (.level 5) (T.drop k)))
 l6:∀ k w,PAt w p A C T k->pM f (.level 6) (T.drop k)≠.out->Calls prog 97 #[.pointer (some ⟨p,0,none⟩),.int .i64 6] w (NdP p A C T w (pM f (.level 6) (T.drop k)))
 l7:∀ k w,PAt w p A C T k->pM f (.level 7) (T.drop k)≠.out->Calls prog 97 #[.pointer (some ⟨p,0,none⟩),.int .i64 7] w (NdP p A C T w (pM f (.level 7) (T.drop k)))
 pr:∀ k w,PAt w p A C T k->pM f .prim (T.drop k)≠.out->Calls prog 115 #[.pointer (some ⟨p,0,none⟩)] w (NdP p A C T w (pM f .prim (T.drop k)))
 nm:∀ k w,PAt w p A C T k->pM f .named (T.drop k)≠.out->Calls prog 130 #[.pointer (some ⟨p,0,none⟩)] w (NdP p A C T w (pM f .named (T.drop k)))
theorem Qhs(md:Md)(r:List Tok):pM 0 md r=.out:=by unfold pM;rfl
theorem Jcx(p:Nat)(A:Option Addr)(C:Nat)(T:List Tok)(hx:∀ t∈T,t.text.length<=1000000):∀ n f,f<=n->f<=100000000->Ih p A C T f
 |0,f,hn,_=>by
  obtain rfl:f=0:=by omega
  exact⟨fun k w _ h=>absurd (Qhs _ _) h,fun k w _ h=>absurd (Qhs _ _) h,fun k w _ h=>absurd (Qhs _ _) h,fun k w _ h=>absurd (Qhs _ _) h,fun k w _ h=>absurd (Qhs _ _) h,fun k w _ h=>absurd (Qhs _ _) h,fun k w _ h=>absurd (Qhs _ _) h,fun k w _ h=>absurd (Qhs _ _) h,fun k w _ h=>absurd (Qhs _ _) h,fun k w _ h=>absurd (Qhs _ _) h⟩
 |n+1,f,hn,hf=>by
  cases f with
  |zero=>exact Jcx p A C T hx n 0 (Nat.zero_le _) (Nat.zero_le _)
  |succ f=>
   have H:∀ g,g<=f->Ih p A C T g:=fun g hg=>Jcx p A C T hx n g (by omega) (by omega)
   have h0:=H f zzl;exact⟨JhO f p A C T hx h0.expr h0.l1,JjY f p A C T (fun g hg=>(H g hg).l2),JjZ f p A C T (fun g hg=>(H g hg).l3),JjW f p A C T h0.l3 h0.cm,Jkc f p A C T h0.l5,Jka f p A C T (fun g hg=>(H g hg).l6),Jkb f p A C T (fun g hg=>(H g hg).l7),JjX f p A C T h0.l7 h0.pr,JhL f p A C T h0.expr h0.nm,JfD f p A C T (by omega) hx (fun g hg=>(H g hg).expr)⟩
theorem JhP(p:Nat)(A:Option Addr)(C:Nat)(T:List Tok)(hx:∀ t∈T,t.text.length<=1000000)(f:Nat)(hf:f<=100000000):∀ k w,PAt w p A C T k->pM f .expr (T.drop k)≠.out->Calls prog 67 #[.pointer (some ⟨p,0,none⟩)] w (NdP p A C T w (pM f .expr (T.drop k))):=(Jcx p A C T hx f f zzl hf).expr
end Go.Proofs.YtdlkcjkjnehnkaaGreatDoor
