import Derived.Test.YtfafpklefknomaaGreatDoorR09
open List(cons_append length_append nil_append)
open Nat(le_refl)
namespace Go.Proofs.YtfafpklefknomaaGreatDoor
open Go.ChangeShapes Go.WideShapes Go.ChangeAt Go.RowKit Go.Lib
open _root_.Go.Proofs.Tryz
set_option linter.all false
set_option maxRecDepth 100000
set_option maxHeartbeats 32000000
def putAt(b:Nat):World->Nat->List Value->World
 |W,_,[]=>W
 |W,j,v::l=>putAt b (W.setCell ⟨b,j,none⟩ v) (j+1) l
def Yj{S:List Nat}{b:Nat}(hb:b∈S):∀(l:List Value) (W:World) (j:Nat),Chg S W (putAt b W j l)
 |[],W,_=>Chg.refl S W
 |v::l,W,j=>((Chg.refl S W).setCell (.inl hb) (p:=⟨b,j,none⟩) v).trans (Yj hb l _ _)
def PAt.putAt{p q:Nat}{A:Option Addr}{C:Nat}{T:List Tok}{k:Nat}(h1:q≠p)(h2:∀b o,A=some ⟨b,o,none⟩->q≠b):∀(l:List Value) {W:World} (j:Nat),PAt W p A C T k->PAt (putAt q W j l) p A C T k
 |[],_,_,h=>h
 |v::l,_,j,h=>PAt.putAt h1 h2 l (j+1) (h.setFar h1 h2 j v)
def Yk{b t:Nat}:∀(l:List Value) (pre old:List Value) (W:World),W.heap[b]?=some (.cells (pre++old).toArray t (0,0))->old.length=l.length->(putAt b W pre.length l).heap[b]?=some (.cells (pre++l).toArray t (0,0))
 |[],pre,old,W,h,hl=>by
  obtain rfl:old=[]:=List.eq_nil_of_length_eq_zero hl;exact h
 |v::l,pre,[],W,h,hl=>by cases hl
 |v::l,pre,x::old,W,h,hl=>by
  have h1:=heap_setCell_same _ _ pre.length _ _ v h
  have h2:=Yk (t:=t) l (pre++[v]) old (W.setCell ⟨b,pre.length,none⟩ v) (by
   rw[h1]
   simp) (by simpa using hl)
  simpa[putAt] using h2
def Jq{ops:Array Oper}{o:Oper}{ac:Act}{K:Act->World->Prop}{Q:Exit->Act->World->Prop}{E:Prop}(w:World)(hgd:o.guard=none)(s x:Operand)(t e:TypeId)(z:Value)(size bytes:Nat)
  (ho:o.op=.call { callee:=.builtin .append,args:=#[s,x],argTypes:=#[t,t] }) (ht:prog.underlying t=some (.slice e)) (hi:(prog.info? e).map (λi=>(i.zero,i.size,i.bytes))=some (some z,size,bytes)) (hzs:z.cells.size=size) (hsz:0<size)
  (base:Nat) (v:Value) (n:Nat) (xs news:List Value) (hs:ac.eval s=v)
  (hown:w.ownsRow base e size v n xs) (rb:Nat) (hx:ac.eval x=.slice (some ⟨rb,0,none⟩) 1 1) (hrow:w.heap[rb]?=some (.cells news.toArray e (0,0))) (hl:news.length=size) (h1:∀u∈news,u.oneCell'=true)
  (h63:n<=100000000) (hby:bytes<=1000) (hbase:base<=w.heap.size)
  (h:∀v' w',w'.ownsRow base e size v' (n+1) (xs++news)->w.grownBy w' v.ownBlock->(v'.ownBlock=v.ownBlock\/v'.ownBlock=some w.heap.size)->K (ac.put o.dst v') w') :
  if Region.wanted o (yielded ops ac.tmps)=true then Oper.wp prog o ac w K Q else E:=by
 have hw:Region.wanted o (yielded ops ac.tmps)=true:=by simp[Region.wanted,hgd]
 rw[if_pos hw];obtain⟨i0,hi,yA,zA,xA⟩:=info_parts hi
 obtain⟨v',w',hr,h1,h2,h3⟩:=KI (P:=prog) w base t o.type e i0 _ size bytes ht hi yA zA xA hzs hsz v n xs hown ⟨rb,0,none⟩ 1 1 news zo (λj u hj=>by
  rw[show (⟨rb,0,none⟩:Addr).add j=⟨rb,j,none⟩ by unfold Addr.add;split<;>simp_all]
  exact KP hrow hj) h1 zp (by unfold maxLen;omega) (by
   have:=Nat.mul_le_mul (show n+1<=100000001 by omega) hby
   omega) hbase
 unfold Oper.wp execOp;simp only[ho,resolve,invoke,builtin,Sem.run_bind,Sem.run_pure,Result.andThen_ok,List.map_toArray,List.map_cons,List.map_nil,hs,hx,hr];exact h v' w' h1 h2 h3
def Qfe:(prog.info? 144).map (λi=>(i.zero,i.size,i.bytes))=some (some (.agg #[Em,Iv 0]),2,24):=zk
def Qgj:(prog.info? 147).map (·.size)=some 10:=zk
def QcP:(prog.info? 3).map (λi=>(i.zero,i.size,i.bytes))=some (some (Iv 0),1,8):=zk
def VP{w:World}{b1 b2 e1 e2 n1 n2 s1 s2:Nat}{v1 v2:Value}{x1 x2:List Value}(h1:w.ownsRow b1 e1 s1 v1 n1 x1)(h2:w.ownsRow b2 e2 s2 v2 n2 x2)(hne:e1≠e2):v1.ownBlock=none\/v1.ownBlock≠v2.ownBlock:=by
 rcases h1.2 with⟨rfl,_⟩|⟨g,cap,cur,rfl,_,hg,_⟩
 ·exact .inl rfl
 ·refine .inr λe=>?_
  rcases h2.2 with⟨rfl,_⟩|⟨g2,cap2,cur2,rfl,_,hg2,_⟩
  ·simp[Value.ownBlock]at e
  ·simp[Value.ownBlock]at e;subst e;rw[hg]at hg2;simp at hg2;exact hne hg2.2
def QbQ(l:List (By × Int)):List Value:=l.flatMap λx=>[.string (bs x.1),Iv x.2]
def Qad(l:List Int):List Value:=l.map λn=>Iv n
def Jcl(l:List (By × Int))(x:By × Int):QbQ (l++[x])=QbQ l++[.string (bs x.1),Iv x.2]:=by simp[QbQ]
def Jcm(l:List Int)(x:Int):Qad (l++[x])=Qad l++[Iv x]:=by simp[Qad]
structure FnA where
 name:By
 off:Int
 params:List (By × Int)
 types:List Int
 result:Int
 body:An
 pv:Value
 tv:Value
 lo:Nat
 hi:Nat
def FnA.src(f:FnA):FnS:=⟨(f.name,f.off),f.params,f.types,f.result,f.body.nd⟩
def FnA.cells(f:FnA):List Value:=[.string (bs f.name),Iv f.off,f.pv,f.tv,Iv f.result]++(Qaa f.body).toList
structure FnA.Ok(W:World)(f:FnA):Prop where
 pown:W.ownsRow f.lo 144 2 f.pv f.params.length (QbQ f.params)
 town:W.ownsRow f.lo 3 1 f.tv f.types.length (Qad f.types)
 bat:f.body.At W
 bmd:∃m,f.lo<=m/\m<=f.hi/\(∀g,f.pv.ownBlock=some g->g<m)/\(∀g,f.tv.ownBlock=some g->g<m)/\Qce m f.hi f.body
 hle:f.hi<=W.heap.size
def FnA.Ok.chg{S:List Nat}{W W':World}{f:FnA}(h:f.Ok W)(hc:Chg S W W')(hs:∀b∈S,b<f.lo\/f.hi<=b):f.Ok W':=by
 obtain⟨m,m1,m2,m3,m4,m5⟩:=h.bmd
 have hk:∀{e size n:Nat} {v:Value} {xs:List Value},W.ownsRow f.lo e size v n xs->(∀g,v.ownBlock=some g->g<m)->W'.ownsRow f.lo e size v n xs:=by
  intro e size n v xs ho hm;refine⟨ho.1,ho.2.imp id ?_⟩;rintro⟨g,cap,cur,rfl,h2,h3,h4⟩;have:=hm g rfl;exact⟨g,cap,cur,rfl,h2,hc.heap_some (λhm=>by rcases hs g hm with h|h<;>omega) h3,h4⟩
 exact⟨hk h.pown m3,hk h.town m4,JK _ h.bat λb hb=>hc.block b (zv ((m5.2 b hb).2) h.hle) λhm=>by have:=m5.2 b hb;rcases hs b hm with h|h<;>omega,⟨m,m1,m2,m3,m4,m5⟩,Nat.le_trans h.hle hc.size⟩
def FnP(p:Nat)(A:Option Addr)(C:Nat)(T:List Tok)(w:World)(x:PR FnS)(e:Ending)(w':World):Prop:=
 match x with
 |.out=>True
 |.bad o=>QgN p w o e w'
 |.ok fs r=>∃f:FnA,f.src=fs/\e=.returned (.agg f.cells.toArray)/\f.Ok w'/\w.heap.size<=f.lo/\f.lo<=f.hi/\(∃k',r=T.drop k'/\PAt w' p A C T k')/\Chg [p] w w'
structure FnB(nm:By)(of:Int)(p:Nat)(A:Option Addr)(C:Nat)(T:List Tok)(w:World)(bx:Nat)(W:World)(k2:Nat)(pv tv:Value)(res:Int)(ps:List (By × Int))(ts:List Int):Prop where
 pat:PAt W p A C T k2
 box:W.heap[bx]?=some (.cells #[Sv nm,Iv of,pv,tv,Iv res,Iv 0,Iv 0,Em,Iv 0,Nl] 147 (0,0))
 rs:W.heap[w.heap.size]?=some (.cells #[Em,Iv 0,Nl,Nl,Iv 0,Iv 0,Iv 0,Em,Iv 0,Nl] 147 (0,0))
 chg:Chg [p] w W
 low:w.heap.size<bx/\p<w.heap.size
 pown:W.ownsRow (bx+1) 144 2 pv ps.length (QbQ ps)
 town:W.ownsRow (bx+1) 3 1 tv ts.length (Qad ts)
section
variable {nm:By} {of:Int} {p:Nat} {A:Option Addr} {C:Nat} {T:List Tok} {w:World} {bx:Nat} {W:World} {k2:Nat} {pv tv:Value} {res:Int} {ps:List (By × Int)} {ts:List Int}
def FnB.on{W':World}{k3:Nat}(h:FnB nm of p A C T w bx W k2 pv tv res ps ts)(hP:PAt W' p A C T k3)(hc:Chg [p] W W'):FnB nm of p A C T w bx W' k3 pv tv res ps ts:=by
 obtain⟨l1,l2⟩:=h.low;exact⟨hP,hc.heap_some zr h.box,hc.heap_some zr h.rs,h.chg.trans hc,h.low,JA h.pown hc zr,JA h.town hc zr⟩
def FnB.bad{W':World}{α:Type}{x:PR α}{g:α->List Tok->PR FnS}{X:PR FnS}{R:Ending->World->Prop}{q:Int}(h:FnB nm of p A C T w bx W k2 pv tv res ps ts)(hR:R=FnP p A C T w X)(hX:x.bind g=X)(hx:x=.bad q)(hc:Chg [p] W W'):R (.panicked [{ v:=Qeo q,recovered:=false }]) W':=by
 subst hx hX hR;exact⟨rfl,h.chg.trans hc⟩
def FnB.cell{j:Nat}{u:Value}(h:FnB nm of p A C T w bx W k2 pv tv res ps ts)(hu:[Sv nm,Iv of,pv,tv,Iv res][j]?=some u):W.cell? ⟨bx,j,none⟩=some u:=by
 rw[Ja h.box];have hj:j<5:=(List.getElem?_eq_some_iff.1 hu).1;rw[List.getElem?_toArray,<- hu]
 match j,hj with
 |0,_=>rfl
 |1,_=>rfl
 |2,_=>rfl
 |3,_=>rfl
 |4,_=>rfl
def FnB.set{j:Nat}{u:Value}(h:FnB nm of p A C T w bx W k2 pv tv res ps ts)(hT:∀b o,A=some ⟨b,o,none⟩->b<w.heap.size) :
  PAt (W.setCell ⟨bx,j,none⟩ u) p A C T k2/\(W.setCell ⟨bx,j,none⟩ u).heap[w.heap.size]?=some (.cells #[Em,Iv 0,Nl,Nl,Iv 0,Iv 0,Iv 0,Em,Iv 0,Nl] 147 (0,0))/\Chg [p] w (W.setCell ⟨bx,j,none⟩ u)/\Chg [bx] W (W.setCell ⟨bx,j,none⟩ u):=by
 obtain⟨l1,l2⟩:=h.low;have hc:Chg [bx] W (W.setCell ⟨bx,j,none⟩ u):=(Chg.refl _ _).setCell (.inl (by simp:bx∈[bx])) (p:=⟨bx,j,none⟩) u;exact⟨h.pat.setFar zo (λb o e=>by have:=hT b o e;omega) j _,hc.heap_some zr h.rs,h.chg.step hc λq hq=>.inr (by simp at hq;omega),hc⟩
def FnB.setR(h:FnB nm of p A C T w bx W k2 pv tv res ps ts)(hT:∀b o,A=some ⟨b,o,none⟩->b<w.heap.size)(r:Int):FnB nm of p A C T w bx (W.setCell ⟨bx,4,none⟩ (Iv r)) k2 pv tv r ps ts:=by
 obtain⟨e1,e2,e3,e4⟩:=h.set (j:=4) (u:=Iv r) hT;have hb:=Jm h.box 4 (Iv r);exact⟨e1,hb,e2,e3,h.low,JA h.pown e4 zq,JA h.town e4 zq⟩
def FnB.grow{w6 w7:World}{v:Value}{X:Obj}(h:FnB nm of p A C T w bx w6 k2 pv tv res ps ts)(hT:∀b o,A=some ⟨b,o,none⟩->b<w.heap.size)(hv:∀g,v.ownBlock=some g->bx+1<=g)(hgr:(w6.alloc X).grownBy w7 v.ownBlock) :
  PAt w7 p A C T k2/\w7.heap[bx]?=some (.cells #[Sv nm,Iv of,pv,tv,Iv res,Iv 0,Iv 0,Em,Iv 0,Nl] 147 (0,0))/\w7.heap[w.heap.size]?=some (.cells #[Em,Iv 0,Nl,Nl,Iv 0,Iv 0,Iv 0,Em,Iv 0,Nl] 147 (0,0))/\Chg [p] w w7:=by
 obtain⟨l1,l2⟩:=h.low;have hlt:=Jb h.box;have hk:∀q,q<=bx->w7.heap[q]?=w6.heap[q]?:=λq hq=>(hgr.block q zr λe=>by have:=hv q e.symm;omega).trans (heap_alloc_old _ _ zo)
 have hs:w6.heap.size<=w7.heap.size:=by have:=hgr.size;simp at this;omega
 obtain⟨tb,ot,hA,xA,yA⟩:=h.pat.toks;have zA:=hT _ _ hA;refine⟨⟨(hk p zo).trans h.pat.self,⟨tb,ot,hA,xA,λi t hi j u hu=>(World.cell?_of_block (hk tb zo)).trans (yA i t hi j u hu)⟩,h.pat.lt,h.pat.fin,h.pat.room⟩,(hk bx zP).trans h.box,(hk _ zo).trans h.rs,hgr.os.trans h.chg.os,hgr.tape.trans h.chg.tape,hgr.output.trans h.chg.output,Nat.le_trans h.chg.size hs,λq hq hn=>(hk q zo).trans (h.chg.block q hq hn)⟩
def Zk{w6 w7:World}{b e size n:Nat}{v v2:Value}{xs:List Value}{X:Obj}(h:w6.ownsRow b e size v n xs)(hgr:(w6.alloc X).grownBy w7 v2.ownBlock)(hd:v.ownBlock=none\/v.ownBlock≠v2.ownBlock):w7.ownsRow b e size v n xs:=(h.alloc X).kept hgr hd
def FnB.addP{w6 w7:World}{pv':Value}{x:By × Int}{X:Obj}(h:FnB nm of p A C T w bx w6 k2 pv tv res ps ts)(hT:∀b o,A=some ⟨b,o,none⟩->b<w.heap.size)(hown:w7.ownsRow (bx+1) 144 2 pv' (ps.length+1) (QbQ ps++[.string (bs x.1),Iv x.2]))(hgr:(w6.alloc X).grownBy w7 pv.ownBlock) :
  FnB nm of p A C T w bx (w7.setCell ⟨bx,2,none⟩ pv') k2 pv' tv res (ps++[x]) ts/\w7.heap[bx]?=some (.cells #[Sv nm,Iv of,pv,tv,Iv res,Iv 0,Iv 0,Em,Iv 0,Nl] 147 (0,0)):=by
 obtain⟨g1,g2,g3,g4⟩:=h.grow hT (λg hg=>(h.pown.lt g hg).1) hgr;have h7:FnB nm of p A C T w bx w7 k2 pv' tv res (ps++[x]) ts->True:=λ_=>trivial
 have ht7:w7.ownsRow (bx+1) 3 1 tv ts.length (Qad ts):=Zk h.town hgr (VP h.town h.pown zp);have hc:Chg [bx] w7 (w7.setCell ⟨bx,2,none⟩ pv'):=(Chg.refl _ _).setCell (.inl (by simp:bx∈[bx])) (p:=⟨bx,2,none⟩) pv';obtain⟨l1,l2⟩:=h.low;refine⟨⟨g1.setFar zo (λb o e=>by have:=hT b o e;omega) 2 _,Jm g2 2 pv',hc.heap_some zr g3,g4.step hc λq hq=>.inr (by simp at hq;omega),h.low,?_,JA ht7 hc zq⟩,g2⟩;have:=JA hown hc zq;rw[Jcl,length_append];exact this
def FnB.addT{w6 w7:World}{tv':Value}{x:Int}{X:Obj}(h:FnB nm of p A C T w bx w6 k2 pv tv res ps ts)(hT:∀b o,A=some ⟨b,o,none⟩->b<w.heap.size)(hown:w7.ownsRow (bx+1) 3 1 tv' (ts.length+1) (Qad ts++[Iv x]))(hgr:(w6.alloc X).grownBy w7 tv.ownBlock) :
  FnB nm of p A C T w bx (w7.setCell ⟨bx,3,none⟩ tv') k2 pv tv' res ps (ts++[x])/\w7.heap[bx]?=some (.cells #[Sv nm,Iv of,pv,tv,Iv res,Iv 0,Iv 0,Em,Iv 0,Nl] 147 (0,0)):=by
 obtain⟨g1,g2,g3,g4⟩:=h.grow hT (λg hg=>(h.town.lt g hg).1) hgr;have xA:w7.ownsRow (bx+1) 144 2 pv ps.length (QbQ ps):=Zk h.pown hgr (VP h.pown h.town zp);have hc:Chg [bx] w7 (w7.setCell ⟨bx,3,none⟩ tv'):=(Chg.refl _ _).setCell (.inl (by simp:bx∈[bx])) (p:=⟨bx,3,none⟩) tv';obtain⟨l1,l2⟩:=h.low;refine⟨⟨g1.setFar zo (λb o e=>by have:=hT b o e;omega) 3 _,Jm g2 3 tv',hc.heap_some zr g3,g4.step hc λq hq=>.inr (by simp at hq;omega),h.low,JA xA hc zq,?_⟩,g2⟩;have:=JA hown hc zq;rw[Jcm,length_append];exact this
def FnB.fin{w5 w9:World}{k9:Nat}{a:An}(h:FnB nm of p A C T w bx w5 k2 pv tv res ps ts)(hat:a.At w9)(hm:Qce w5.heap.size w9.heap.size a)(hP:PAt w9 p A C T k9)(hc:Chg [p] w5 w9)(hT:∀b o,A=some ⟨b,o,none⟩->b<w.heap.size) :
  (putAt bx w9 5 (Qaa a).toList).heap[bx]?=some (.cells (FnA.mk nm of ps ts res a pv tv (bx+1) w9.heap.size).cells.toArray 147 (0,0))/\(putAt bx w9 5 (Qaa a).toList).heap[w.heap.size]?=some (.cells #[Em,Iv 0,Nl,Nl,Iv 0,Iv 0,Iv 0,Em,Iv 0,Nl] 147 (0,0))/\
  ∀vs,(FnA.mk nm of ps ts res a pv tv (bx+1) w9.heap.size).Ok (putAt w.heap.size (putAt bx w9 5 (Qaa a).toList) 0 vs)/\PAt (putAt w.heap.size (putAt bx w9 5 (Qaa a).toList) 0 vs) p A C T k9/\Chg [p] w (putAt w.heap.size (putAt bx w9 5 (Qaa a).toList) 0 vs)/\w.heap.size<=bx+1/\bx+1<=w9.heap.size:=by
 obtain⟨l1,l2⟩:=h.low;have h9:=h.on hP hc;have hlt:=Jb h9.box;have zA:=Jb h.box;have c1:Chg [w.heap.size,bx] w9 (putAt bx w9 5 (Qaa a).toList):=Yj zq _ _ _;have xA:(Qaa a).toList.length=5:=by rw[Array.length_toList,J3]
 refine⟨?_,?_,λvs=>?_⟩
 ·exact Yk (Qaa a).toList [Sv nm,Iv of,pv,tv,Iv res] [Iv 0,Iv 0,Em,Iv 0,Nl] w9 h9.box (by rw[xA];rfl)
 ·exact(Yj (S:=[bx]) zq _ _ _).heap_some zr h9.rs
 ·have c2:Chg [w.heap.size,bx] w9 (putAt w.heap.size (putAt bx w9 5 (Qaa a).toList) 0 vs):=c1.trans (Yj zq _ _ _);have yA:(FnA.mk nm of ps ts res a pv tv (bx+1) w9.heap.size).Ok w9:=⟨h9.pown,h9.town,hat,⟨w5.heap.size,by show bx+1<=_;omega,hc.size,λg hg=>(h.pown.lt g hg).2,λg hg=>(h.town.lt g hg).2,hm⟩,le_refl _⟩
  refine⟨yA.chg c2 λb hb=>?_,?_,h9.chg.step c2 λq hq=>.inr ?_,by omega,by omega⟩
  ·simp only[List.mem_cons,List.not_mem_nil,or_false]at hb
   rcases hb with rfl|rfl
   ·exact .inl (by show _<bx+1;omega)
   ·exact .inl (by show _<_+1;omega)
  ·exact PAt.putAt zo (λb o e=>by have:=hT b o e;omega) _ _ (PAt.putAt zo (λb o e=>by have:=hT b o e;omega) _ _ hP)
  ·simp only[List.mem_cons,List.not_mem_nil,or_false]at hq;omega
end
def QiY(f:Nat)(ps:List (By × Int))(ts:List Int)(nm:By × Int)(t:Int)(r3:List Tok):PR (List (By × Int) × List Int):=
 match acc 3 [44] r3 with
 |some r4=>QaQ f (ps++[nm]) (ts++[t]) r4
 |none=>(Qar 3 [41] r3).bind λ_ r4=>.ok (ps++[nm],ts++[t]) r4
def QiZ(f:Nat)(ps:List (By × Int))(ts:List Int)(nm:By × Int)(r1:List Tok):PR (List (By × Int) × List Int):=
 (Qar 3 [58] r1).bind λ_ r2=>(Qdu r2).bind (QiY f ps ts nm)
def JfQ(f:Nat)(ps:List (By × Int))(ts:List Int)(r:List Tok):QaQ (f+1) ps ts r=(Qbb r).bind (QiZ f ps ts):=by rw[QaQ];rfl
def QgG(f:Nat)(nm:By × Int)(pt:List (By × Int) × List Int)(r3:List Tok):PR FnS:=
 (Qar 3 [58] r3).bind λ_ r4=>(Qdu r4).bind λt r5=>(Qar 3 [61] r5).bind λ_ r6=>(pM f .expr r6).bind λb r7=>.ok ⟨nm,pt.1,pt.2,t,b⟩ r7
def JlS(f:Nat)(r:List Tok):Qeg f r=(Qbb r).bind λnm r1=>(Qar 3 [40] r1).bind λ_ r2=>
  (match acc 3 [41] r2 with
   |some r3=>PR.ok ([],[]) r3
   |none=>QaQ f [] [] r2).bind (QgG f nm):=rfl
def Vg{α β γ:Type}{x:PR α}{f:α->List Tok->PR β}{g:β->List Tok->PR γ}{X:PR γ}(h:(x.bind f).bind g=X):(x.bind λa r=>(f a r).bind g)=X:=by cases x<;>exact h
def JfR(r:List Tok):(∃t r',Qdu r=.ok t r')\/Qdu r=.bad (hd r).off:=by
 unfold Qdu;split
 ·exact .inl ⟨_,_,rfl⟩
 ·split
  ·exact .inl ⟨_,_,rfl⟩
  ·exact .inr rfl
def JdI(r:List Tok):Qdu r≠.out:=by
 rcases JfR r with⟨_,_,h⟩|h<;>rw[h]<;>exact λh=>by cases h
theorem QjE{P:Prop}(h:P:=by
  have hl7:=Jb hbx;clear hown7 hgr7 hfr7 hst hbx HOW HRW hlo6;refine hK.out _ _ (hcl) λhH=>?_
  clear hK K;refine LK 6 rfl ?_;refine LZ 7 rfl λK hK=>?_
  go_simp;clear hcl f4 hl7;refine hK.out _ _ ?_;clear hK K;go_wp2_with fail;go_meet
  exact⟨_,_,_,_,_,HST.o,HX1.o⟩):P:=h
theorem Qhq{P:Prop}(h:P:=by
  rw[HR.o,<- HX2.o];obtain⟨e1,e2,e3,e4,e5⟩:=HG5.o
  exact⟨_,rfl,by rw[HCG.o _ _],e1,e4,e5,⟨k9,rfl,e2⟩,e3⟩):P:=h
def Jcn(f p:Nat)(A:Option Addr)(C:Nat)(T:List Tok)(hf:f<=100000000)(hx:∀t∈T,t.text.length<=1000000)
  (I1:∀k w,PAt w p A C T k->pM f .expr (T.drop k)≠.out->Calls prog 88 #[Pt p] w (NdP p A C T w (pM f .expr (T.drop k))))
  (k:Nat) (w:World) (h:PAt w p A C T k) (hne:Qeg f (T.drop k)≠.out) :
  Calls prog 87 #[Pt p] w (FnP p A C T w (Qeg f (T.drop k))):=by
 obtain⟨X,hX⟩:∃X,Qeg f (T.drop k)=X:=⟨_,rfl⟩
 have eA:=hX;rw[JlS]at eA;rw[hX]at hne |-;obtain⟨R,hR⟩:∃R,FnP p A C T w X=R:=⟨_,rfl⟩
 rw[hR];have HR:Hi (R=FnP p A C T w X):=hR.symm;have HNE:=Zh hne;have hZ:=zQ w (.cells #[Em,Iv 0,Nl,Nl,Iv 0,Iv 0,Iv 0,Em,Iv 0,Nl] 147);have hB:=(Below.refl w.heap.size w).alloc zP (.cells #[Em,Iv 0,Nl,Nl,Iv 0,Iv 0,Iv 0,Em,Iv 0,Nl] 147);have HP:=Zh (h.chg hB);have HZ:=Zh hZ;have HC:=Zh (Chg.of_below hB [p]);have HPL:=Zh h.chg1;have HTL:=Zh h.tokLt;have HX1:=Zh eA;have hpz:w.heap.size≠p:=by have:=HPL.o;omega
 clear h hne hR hZ hB eA hX;go_enter func87,ntmps87;go_wp2_with fail;refine PRp.call (VO p A C T k _ HP.o hx) (JO HX1.o HNE.o) (λq _ hi hc=>by exact⟨rfl,by rw[HR.o,<- HX1.o,hi];exact⟨rfl,HC.o.trans hc⟩⟩) λnm w1 k1 hi hp1 hc1=>?_
 obtain⟨nm,of⟩:=nm;replace HX1:=Zh (Jx HX1.o hi);unfold Qgh;dsimp only
 have HFB:Hi (FnB nm of p A C T w w1.heap.size (w1.alloc (.cells #[Sv nm,Iv of,Nl,Nl,Iv 0,Iv 0,Iv 0,Em,Iv 0,Nl] 147)) k1 Nl Nl 0 [] []):=by
  have hb:Below w1.heap.size w1 (w1.alloc (.cells #[Sv nm,Iv of,Nl,Nl,Iv 0,Iv 0,Iv 0,Em,Iv 0,Nl] 147)):=zO.alloc zP _;have hz:=hc1.heap_some (by simp;exact hpz) HZ.o;exact⟨hp1.chg hb,zQ _ _,(hb.block _ (Jb hz)).trans hz,(HC.o.trans hc1).alloc _,⟨Jb hz,HPL.o⟩,World.ownsRow_nil _ _ _ _,World.ownsRow_nil _ _ _ _⟩
 clear hi hp1 hc1 HP HZ HC;go_wp2_with fail;generalize World.alloc w1 _=W1 at *;generalize w1.heap.size=bx at *;have mA:bx≠w.heap.size:=by have:=HFB.o.low;omega
 have pA:w.heap.size≠bx:=by have:=HFB.o.low;omega
 have sA:bx≠p:=by have:=HFB.o.low;omega
 go_wp2_with fail;refine PRp.call (Qdv p A C T k1 [40] _ HFB.o.pat) (J6 _ _ _) (λq _ hx hc=>by exact⟨rfl,HFB.o.bad HR.o HX1.o hx hc⟩) λ_ w2 k2 hx hp hc=>?_
 replace HX1:=Zh (Jx HX1.o hx);replace HFB:=Zh (HFB.o.on hp hc);clear hx hp hc;go_wp2_with fail;refine(Jt p A C T k2 3 [41] w2 HFB.o.pat zp).mono ?_;intro e w3 h3
 rcases h3 with⟨g1,g2,rfl,hp3,hc3⟩|⟨g1,rfl,hb3⟩
 ·have yA:=HX1.o;rw[JN g1 g2]at yA;dsimp only at yA;rw[JgY]at yA;replace HX1:=Zh yA;replace HFB:=Zh (HFB.o.on hp3 hc3);clear g1 g2 hp3 hc3 yA;have yA:=HX1.o
  try dsimp only at yA
  try rw[JgY]at yA
  rw[QgG]at yA;replace HX1:=Zh yA;clear yA;go_wp2_with fail;refine PRp.call (Qdv p A C T (k2+1) [58] _ HFB.o.pat) (J6 _ _ _) (λq _ hx hc=>by exact⟨rfl,HFB.o.bad HR.o HX1.o hx hc⟩) λ_ wt1 kt1 hx hp hc=>?_
  replace HX1:=Zh (Jx HX1.o hx);replace HFB:=Zh (HFB.o.on hp hc);clear hx hp hc;go_wp2_with fail;refine PRp.call (Jbt p A C T kt1 _ HFB.o.pat) (JdI _) (λq _ hx hc=>by exact⟨rfl,HFB.o.bad HR.o HX1.o hx hc⟩) λty wt2 kt2 hx hp hc=>?_
  replace HX1:=Zh (Jx HX1.o hx);replace HFB:=Zh (HFB.o.on hp hc);clear hx hp hc;have hbx:=HFB.o.box;have b4:=Ja hbx 4;have f4:=Jc hbx 4;have gA:=Jb hbx;simp only[zW]at b4;replace HFB:=Zh (HFB.o.setR HTL.o ty);clear hbx;go_wp2_with fail;clear b4 f4 gA;generalize World.setCell wt2 _ _=wt3 at *;refine PRp.call (Qdv p A C T kt2 [61] _ HFB.o.pat) (J6 _ _ _) (λq _ hx hc=>by exact⟨rfl,HFB.o.bad HR.o HX1.o hx hc⟩) λ_ wt4 kt4 hx hp hc=>?_
  replace HX1:=Zh (Jx HX1.o hx);replace HFB:=Zh (HFB.o.on hp hc);clear hx hp hc;go_wp2_with fail;refine NdP.call (I1 kt4 _ HFB.o.pat (JO HX1.o HNE.o)) (JO HX1.o HNE.o) (λq _ hx hc=>by exact⟨rfl,HFB.o.bad HR.o HX1.o hx hc⟩) λa w9 k9 xA xn xc hx hcf B=>?_
  obtain⟨hat,hmd,vA,hc9⟩:=B;replace HX1:=Zh (Jx HX1.o hx);obtain⟨g1,g2,g3⟩:=HFB.o.fin hat hmd vA hc9 HTL.o;have HX2:=HX1;have HG1:=Zh g1;have HG2:=Zh g2;have aA:=Zh g3;have hbx:=(HFB.o.on vA hc9).box;have b5:=Ja hbx 5;have b6:=Ja hbx 6;have b7:=Ja hbx 7;have b8:=Ja hbx 8;have b9:=Ja hbx 9;simp only[zW]at b5 b6 b7 b8 b9;have f5:=Jc hbx 5;have f6:=Jc hbx 6;have f7:=Jc hbx 7;have f8:=Jc hbx 8;have f9:=Jc hbx 9;have iA:=Jb hbx;have HCF:=Zh hcf;rw[hcf]at HG1 HG2 aA;simp only[FnA.cells,hcf,cons_append,nil_append]at HG1;clear hx hat hmd vA hc9 hcf g1 g2 g3 hbx HFB HX1 I1;go_upto_region 13 with fail;clear b5 b6 b7 b8 b9 f5 f6 f7 f8 f9 iA;have zA:Hi (_/\_/\_):=⟨HG1.o,HG2.o,aA.o⟩
  clear HG1 HG2 aA;simp only[putAt]at zA;generalize World.setCell (World.setCell _ _ _) _ _=W9 at *;have hbx:=zA.o.1;have hrs:=zA.o.2.1;have b0:=Ja hbx 0;have b1:=Ja hbx 1;have b2:=Ja hbx 2;have b3:=Ja hbx 3;have b4:=Ja hbx 4;have b5:=Ja hbx 5;have b6:=Ja hbx 6;have b7:=Ja hbx 7;have b8:=Ja hbx 8;have b9:=Ja hbx 9;have z0:=Ja hrs 0;have y0:=Jc hrs 0;have z1:=Ja hrs 1;have y1:=Jc hrs 1;have z2:=Ja hrs 2;have y2:=Jc hrs 2;have z3:=Ja hrs 3;have y3:=Jc hrs 3;have z4:=Ja hrs 4;have y4:=Jc hrs 4;have z5:=Ja hrs 5;have y5:=Jc hrs 5;have z6:=Ja hrs 6;have y6:=Jc hrs 6;have z7:=Ja hrs 7;have y7:=Jc hrs 7;have z8:=Ja hrs 8;have y8:=Jc hrs 8;have z9:=Ja hrs 9;have y9:=Jc hrs 9;simp only[zW]at b0 z0 b1 z1 b2 z2 b3 z3 b4 z4 b5 z5 b6 z6 b7 z7 b8 z8 b9 z9;have nA:=Jb hrs;have cA:=Zh (Yk (t:=147) [Sv nm,Iv of,Nl,Nl,Iv ty,Iv a.kind,Iv a.num,.string (bs a.name),Iv a.off,.slice xA xn xc] [] [Em,Iv 0,Nl,Nl,Iv 0,Iv 0,Iv 0,Em,Iv 0,Nl] W9 hrs rfl);have HG5:=Zh (zA.o.2.2 [Sv nm,Iv of,Nl,Nl,Iv ty,Iv a.kind,Iv a.num,.string (bs a.name),Iv a.off,.slice xA xn xc]);simp only[putAt,List.length_nil,nil_append,Nat.zero_add,Nat.reduceAdd]at cA HG5;have HCG:Hi (∀(ps:List (By × Int)) (ts:List Int),(FnA.cells (FnA.mk nm of ps ts ty a Nl Nl (bx+1) w9.heap.size)).toArray=([Sv nm,Iv of,Nl,Nl,Iv ty,Iv a.kind,Iv a.num,.string (bs a.name),Iv a.off,.slice xA xn xc]).toArray):=λps ts=>by simp only[FnA.cells,HCF.o,cons_append,nil_append]
  clear hbx hrs zA;go_wp2;refine bodyPost_ret (v:=.agg ([Sv nm,Iv of,Nl,Nl,Iv ty,Iv a.kind,Iv a.num,.string (bs a.name),Iv a.off,.slice xA xn xc]).toArray) (results_cell_row rfl _ _ w.heap.size 147 _ (0,0) _ rfl cA.o underlying147 rfl Qgj) rfl ?_;exact Qhq
 ·have yA:=HX1.o;rw[Kf g1]at yA;dsimp only at yA;have jA:Hi (∃k2 pv tv ps ts,FnB nm of p A C T w bx w3 k2 pv tv 0 ps ts/\((QaQ f ps ts (T.drop k2)).bind (QgG f (nm,of)))=X/\f+ps.length<=f/\ts.length=ps.length):=⟨_,_,_,[],[],HFB.o.on (HFB.o.pat.chg hb3) (Chg.of_below hb3 [p]),yA,le_refl _,rfl⟩
  clear g1 hb3 yA HX1 HFB;go_wp2_with fail;go_loopg [] f λg wr=>Hi (∃k2 pv tv ps ts,FnB nm of p A C T w bx wr k2 pv tv 0 ps ts/\((QaQ g ps ts (T.drop k2)).bind (QgG f (nm,of)))=X/\g+ps.length<=f/\ts.length=ps.length)
  case atStart=>exact jA
  case round=>
  clear jA;obtain⟨wl,rfl⟩:=zJ wr;obtain⟨k2,pv,tv,ps,ts,hI,dA,kA,hlt⟩:=hrel.o
  cases gk with
  |zero=>exact absurd dA.symm HNE.o
  |succ g2=>
  obtain⟨va,vn,vc,rfl⟩:=Jk hI.pown;rw[JfQ]at dA;have hD:Below wl.heap.size wl wl.drew:=(Below.refl wl.heap.size wl).drew;have HFB:=Zh (hI.on (hI.pat.chg hD) (Chg.of_below hD [p]));have HX1:=Zh (Vg dA);have tA:ps.length<=100000000:=zo;have hA:Hi (g2+1+ps.length<=f/\ts.length=ps.length):=⟨kA,hlt⟩
  clear hI dA kA hlt hrel hD;go_upto_region 4 with fail;go_cut [] λwx=>Hi (∃x k3 va vn vc,FnB nm of p A C T w bx wx k3 (.slice va vn vc) tv 0 (ps++[x]) ts/\((QiZ g2 ps ts x (T.drop k3)).bind (QgG f (nm,of)))=X)
  case first=>
   have hcl:=HFB.o.cell (j:=2) rfl;refine LB (λW=>W.cell? ⟨bx,2,none⟩=some (.slice va vn vc)) 7 (by simp[*,World.cell?_alloc_some]) λhH=>?_
   refine LK 0 rfl ?_;refine LK 1 rfl ?_;refine LK 2 rfl ?_;refine LO 3 rfl λK hK=>?_
   go_simp;go_at_call 133;refine PRp.call (VO p A C T k2 _ HFB.o.pat hx) (JO HX1.o HNE.o) (λq _ hi hc=>by exact⟨rfl,HFB.o.bad HR.o HX1.o hi hc⟩) λx w6 k4 hi hp hc=>?_
   unfold Qgh;replace HX1:=Zh (Jx HX1.o hi);replace HFB:=Zh (HFB.o.on hp hc);have HOW:=Zh (HFB.o.pown.alloc (.cells #[.string (bs x.1),Iv x.2] 144));have HRW:=Zh (zQ w6 (.cells #[.string (bs x.1),Iv x.2] 144));have hlo6:bx+1<=(w6.alloc (.cells #[.string (bs x.1),Iv x.2] 144)).heap.size:=by have:=Jb HFB.o.box;rw[World.size_alloc];omega
   replace hcl:=HFB.o.cell (j:=2) rfl;clear hi hp hc;refine zU hK (hcl) λhH=>?_
   clear hK K;refine LO 4 rfl λK hK=>?_
   go_simp;refine zU hK (by simp[*,World.cell?_alloc_some]) λhH=>?_
   clear hK K;refine LO 5 rfl λK hK=>?_
   (refine Jq (w6.alloc (.cells #[.string (bs x.1),Iv x.2] 144)) zt (.tmp 13) (.tmp 16) 145 144 _ 2 24 zt underlying145 Qfe rfl zp (bx+1) (.slice va vn vc) ps.length (QbQ ps) [.string (bs x.1),Iv x.2] zt HOW.o w6.heap.size zt HRW.o rfl (by intro u hu;simp at hu;rcases hu with rfl|rfl<;>rfl) tA zp hlo6 ?_;intro v7 w7 hown7 hgr7 hfr7)
   obtain⟨a7,m7,c7,rfl⟩:=Jk hown7;obtain⟨hst,hbx⟩:=HFB.o.addP HTL.o hown7 hgr7;have HST:=Zh hst;replace hcl:=Ja hbx 2;simp only[zW]at hcl;have f4:=Jc hbx 2;exact QjE
  case rest=>
  obtain⟨x,k3,va,vn,vc,bA,uA⟩:=hcut.o;replace HFB:=Zh bA;rw[QiZ]at uA;replace HX1:=Zh (Vg uA);clear bA uA hcut;go_wp2_with fail;refine PRp.call (Qdv p A C T k3 [58] _ HFB.o.pat) (J6 _ _ _) (λq _ hx hc=>by exact⟨rfl,HFB.o.bad HR.o HX1.o hx hc⟩) λ_ w4 k4 hx hp hc=>?_
  replace HX1:=Zh (Jx HX1.o hx);replace HFB:=Zh (HFB.o.on hp hc);clear hx hp hc;replace HX1:=Zh (Vg HX1.o);obtain⟨ua,un,uc,xB⟩:=Jk HFB.o.town;subst xB;have hD:Below w4.heap.size w4 w4.drew:=(Below.refl w4.heap.size w4).drew;replace HFB:=Zh (HFB.o.on (HFB.o.pat.chg hD) (Chg.of_below hD [p]));have rA:ts.length<=100000000:=by have:=hA.o;omega
  clear hD;go_upto_region 6 with fail;go_cut [] λwx=>Hi (∃t k5 ua un uc,FnB nm of p A C T w bx wx k5 (.slice va vn vc) (.slice ua un uc) 0 (ps++[x]) (ts++[t])/\((QiY g2 ps ts x t (T.drop k5)).bind (QgG f (nm,of)))=X)
  case first=>
   have hcl:=HFB.o.cell (j:=3) rfl;refine LB (λW=>W.cell? ⟨bx,3,none⟩=some (.slice ua un uc)) 7 (by simp[*,World.cell?_alloc_some]) λhH=>?_
   refine LK 0 rfl ?_;refine LK 1 rfl ?_;refine LK 2 rfl ?_;refine LO 3 rfl λK hK=>?_
   go_simp;go_at_call 135;refine PRp.call (Jbt p A C T k4 _ HFB.o.pat) (JdI _) (λq _ hi hc=>by exact⟨rfl,HFB.o.bad HR.o HX1.o hi hc⟩) λt w6 k6 hi hp hc=>?_
   replace HX1:=Zh (Jx HX1.o hi);replace HFB:=Zh (HFB.o.on hp hc);have HOW:=Zh (HFB.o.town.alloc (.cells #[Iv t] 3));have HRW:=Zh (zQ w6 (.cells #[Iv t] 3));have hlo6:bx+1<=(w6.alloc (.cells #[Iv t] 3)).heap.size:=by have:=Jb HFB.o.box;rw[World.size_alloc];omega
   replace hcl:=HFB.o.cell (j:=3) rfl;clear hi hp hc;refine zU hK (hcl) λhH=>?_
   clear hK K;refine LO 4 rfl λK hK=>?_
   go_simp;refine zU hK (by simp[*,World.cell?_alloc_some]) λhH=>?_
   clear hK K;refine LO 5 rfl λK hK=>?_
   (refine Jq (w6.alloc (.cells #[Iv t] 3)) zt (.tmp 22) (.tmp 25) 29 3 _ 1 8 zt underlying29 QcP rfl zp (bx+1) (.slice ua un uc) ts.length (Qad ts) [Iv t] zt HOW.o w6.heap.size zt HRW.o rfl (by intro u hu;simp at hu;subst hu;rfl) rA zp hlo6 ?_;intro v7 w7 hown7 hgr7 hfr7)
   obtain⟨a7,m7,c7,rfl⟩:=Jk hown7;obtain⟨hst,hbx⟩:=HFB.o.addT HTL.o hown7 hgr7;have HST:=Zh hst;replace hcl:=Ja hbx 3;simp only[zW]at hcl;have f4:=Jc hbx 3;exact QjE
  case rest=>
  obtain⟨t,k5,ua,un,uc,bA,uA⟩:=hcut.o;replace HFB:=Zh bA;rw[QiY]at uA;replace HX1:=Zh uA;clear bA uA hcut;go_wp2_with fail;refine(Jt p A C T k5 3 [44] _ HFB.o.pat zp).mono ?_;intro e w8 h8
  rcases h8 with⟨g1,g2',rfl,hp8,hc8⟩|⟨g1,rfl,hb8⟩
  ·have yA:=HX1.o;rw[JN g1 g2']at yA;dsimp only at yA;have qA:=Zh yA;replace HFB:=Zh (HFB.o.on hp8 hc8);clear yA g1 g2' hp8 hc8 HX1;go_wp2;go_roundg g2
   case measure=>exact Nat.lt_succ_self _
   case rel=>exact⟨_,_,_,_,_,HFB.o,qA.o,by have:=hA.o;rw[length_append,List.length_singleton];omega,by have:=hA.o;rw[length_append,length_append,List.length_singleton,List.length_singleton];omega⟩
  ·have yA:=HX1.o;rw[Kf g1]at yA;dsimp only at yA;replace HX1:=Zh (Vg yA);replace HFB:=Zh (HFB.o.on (HFB.o.pat.chg hb8) (Chg.of_below hb8 [p]));clear yA g1 hb8;go_wp2_with fail;refine PRp.call (Qdv p A C T k5 [41] _ HFB.o.pat) (J6 _ _ _) (λq _ hx hc=>by exact⟨rfl,HFB.o.bad HR.o HX1.o hx hc⟩) λ_ w6 k6 hx hp hc=>?_
   replace HX1:=Zh (Jx HX1.o hx);replace HFB:=Zh (HFB.o.on hp hc);clear hx hp hc;have yA:=HX1.o
   try dsimp only at yA
   try rw[JgY]at yA
   rw[QgG]at yA;replace HX1:=Zh yA;clear yA;go_wp2_with fail;refine PRp.call (Qdv p A C T k6 [58] _ HFB.o.pat) (J6 _ _ _) (λq _ hx hc=>by exact⟨rfl,HFB.o.bad HR.o HX1.o hx hc⟩) λ_ wt1 kt1 hx hp hc=>?_
   replace HX1:=Zh (Jx HX1.o hx);replace HFB:=Zh (HFB.o.on hp hc);clear hx hp hc;go_wp2_with fail;refine PRp.call (Jbt p A C T kt1 _ HFB.o.pat) (JdI _) (λq _ hx hc=>by exact⟨rfl,HFB.o.bad HR.o HX1.o hx hc⟩) λty wt2 kt2 hx hp hc=>?_
   replace HX1:=Zh (Jx HX1.o hx);replace HFB:=Zh (HFB.o.on hp hc);clear hx hp hc;have hbx:=HFB.o.box;have b4:=Ja hbx 4;have f4:=Jc hbx 4;have gA:=Jb hbx;simp only[zW]at b4;replace HFB:=Zh (HFB.o.setR HTL.o ty);clear hbx;go_wp2_with fail;clear b4 f4 gA;generalize World.setCell wt2 _ _=wt3 at *;refine PRp.call (Qdv p A C T kt2 [61] _ HFB.o.pat) (J6 _ _ _) (λq _ hx hc=>by exact⟨rfl,HFB.o.bad HR.o HX1.o hx hc⟩) λ_ wt4 kt4 hx hp hc=>?_
   replace HX1:=Zh (Jx HX1.o hx);replace HFB:=Zh (HFB.o.on hp hc);clear hx hp hc;go_wp2_with fail;refine NdP.call (I1 kt4 _ HFB.o.pat (JO HX1.o HNE.o)) (JO HX1.o HNE.o) (λq _ hx hc=>by exact⟨rfl,HFB.o.bad HR.o HX1.o hx hc⟩) λa w9 k9 xA xn xc hx hcf B=>?_
   obtain⟨hat,hmd,vA,hc9⟩:=B;replace HX1:=Zh (Jx HX1.o hx);obtain⟨g1,g2,g3⟩:=HFB.o.fin hat hmd vA hc9 HTL.o;have HX2:=HX1;have HG1:=Zh g1;have HG2:=Zh g2;have aA:=Zh g3;have hbx:=(HFB.o.on vA hc9).box;have b5:=Ja hbx 5;have b6:=Ja hbx 6;have b7:=Ja hbx 7;have b8:=Ja hbx 8;have b9:=Ja hbx 9;simp only[zW]at b5 b6 b7 b8 b9;have f5:=Jc hbx 5;have f6:=Jc hbx 6;have f7:=Jc hbx 7;have f8:=Jc hbx 8;have f9:=Jc hbx 9;have iA:=Jb hbx;have HCF:=Zh hcf;rw[hcf]at HG1 HG2 aA;simp only[FnA.cells,hcf,cons_append,nil_append]at HG1;clear hx hat hmd vA hc9 hcf g1 g2 g3 hbx HFB HX1 I1;go_upto_region 13 with fail;clear b5 b6 b7 b8 b9 f5 f6 f7 f8 f9 iA;have zA:Hi (_/\_/\_):=⟨HG1.o,HG2.o,aA.o⟩
   clear HG1 HG2 aA;simp only[putAt]at zA;generalize World.setCell (World.setCell _ _ _) _ _=W9 at *;have hbx:=zA.o.1;have hrs:=zA.o.2.1;have b0:=Ja hbx 0;have b1:=Ja hbx 1;have b2:=Ja hbx 2;have b3:=Ja hbx 3;have b4:=Ja hbx 4;have b5:=Ja hbx 5;have b6:=Ja hbx 6;have b7:=Ja hbx 7;have b8:=Ja hbx 8;have b9:=Ja hbx 9;have z0:=Ja hrs 0;have y0:=Jc hrs 0;have z1:=Ja hrs 1;have y1:=Jc hrs 1;have z2:=Ja hrs 2;have y2:=Jc hrs 2;have z3:=Ja hrs 3;have y3:=Jc hrs 3;have z4:=Ja hrs 4;have y4:=Jc hrs 4;have z5:=Ja hrs 5;have y5:=Jc hrs 5;have z6:=Ja hrs 6;have y6:=Jc hrs 6;have z7:=Ja hrs 7;have y7:=Jc hrs 7;have z8:=Ja hrs 8;have y8:=Jc hrs 8;have z9:=Ja hrs 9;have y9:=Jc hrs 9;simp only[zW]at b0 z0 b1 z1 b2 z2 b3 z3 b4 z4 b5 z5 b6 z6 b7 z7 b8 z8 b9 z9;have nA:=Jb hrs;have cA:=Zh (Yk (t:=147) [Sv nm,Iv of,(.slice va vn vc),(.slice ua un uc),Iv ty,Iv a.kind,Iv a.num,.string (bs a.name),Iv a.off,.slice xA xn xc] [] [Em,Iv 0,Nl,Nl,Iv 0,Iv 0,Iv 0,Em,Iv 0,Nl] W9 hrs rfl);have HG5:=Zh (zA.o.2.2 [Sv nm,Iv of,(.slice va vn vc),(.slice ua un uc),Iv ty,Iv a.kind,Iv a.num,.string (bs a.name),Iv a.off,.slice xA xn xc]);simp only[putAt,List.length_nil,nil_append,Nat.zero_add,Nat.reduceAdd]at cA HG5;have HCG:Hi (∀(ps:List (By × Int)) (ts:List Int),(FnA.cells (FnA.mk nm of ps ts ty a (.slice va vn vc) (.slice ua un uc) (bx+1) w9.heap.size)).toArray=([Sv nm,Iv of,(.slice va vn vc),(.slice ua un uc),Iv ty,Iv a.kind,Iv a.num,.string (bs a.name),Iv a.off,.slice xA xn xc]).toArray):=λps ts=>by simp only[FnA.cells,HCF.o,cons_append,nil_append]
   clear hbx hrs zA;go_wp2;refine bodyPost_ret (v:=.agg ([Sv nm,Iv of,(.slice va vn vc),(.slice ua un uc),Iv ty,Iv a.kind,Iv a.num,.string (bs a.name),Iv a.off,.slice xA xn xc]).toArray) (results_cell_row rfl _ _ w.heap.size 147 _ (0,0) _ rfl cA.o underlying147 rfl Qgj) rfl ?_;exact Qhq
structure Ih(p:Nat)(A:Option Addr)(C:Nat)(T:List Tok)(f:Nat):Prop where
 expr:∀k w,PAt w p A C T k->pM f .expr (T.drop k)≠.out->Calls prog 88 #[Pt p] w (NdP p A C T w (pM f .expr (T.drop k)))
 l1:∀k w,PAt w p A C T k->pM f (.level 1) (T.drop k)≠.out->Calls prog 136 #[Pt p,Iv 1] w (NdP p A C T w (pM f (.level 1) (T.drop k)))
 l2:∀k w,PAt w p A C T k->pM f (.level 2) (T.drop k)≠.out->Calls prog 136 #[Pt p,Iv 2] w (NdP p A C T w (pM f (.level 2) (T.drop k)))
 l3:∀k w,PAt w p A C T k->pM f (.level 3) (T.drop k)≠.out->Calls prog 136 #[Pt p,Iv 3] w (NdP p A C T w (pM f (.level 3) (T.drop k)))
 cm:∀k w,PAt w p A C T k->pM f .cmp (T.drop k)≠.out->Calls prog 158 #[Pt p] w (NdP p A C T w (pM f .cmp (T.drop k)))
 l5:∀k w,PAt w p A C T k->pM f (.level 5) (T.drop k)≠.out->Calls prog 136 #[Pt p,Iv 5] w (NdP p A C T w (pM f (.level 5) (T.drop k)))
 l6:∀k w,PAt w p A C T k->pM f (.level 6) (T.drop k)≠.out->Calls prog 136 #[Pt p,Iv 6] w (NdP p A C T w (pM f (.level 6) (T.drop k)))
 l7:∀k w,PAt w p A C T k->pM f (.level 7) (T.drop k)≠.out->Calls prog 136 #[Pt p,Iv 7] w (NdP p A C T w (pM f (.level 7) (T.drop k)))
 pr:∀k w,PAt w p A C T k->pM f .prim (T.drop k)≠.out->Calls prog 159 #[Pt p] w (NdP p A C T w (pM f .prim (T.drop k)))
 nm:∀k w,PAt w p A C T k->pM f .named (T.drop k)≠.out->Calls prog 169 #[Pt p] w (NdP p A C T w (pM f .named (T.drop k)))
def QfH(md:Md)(r:List Tok):pM 0 md r=.out:=by unfold pM;rfl
def JdJ(p:Nat)(A:Option Addr)(C:Nat)(T:List Tok)(hx:∀t∈T,t.text.length<=1000000):∀n f,f<=n->f<=100000000->Ih p A C T f
 |0,f,hn,_=>by
  obtain rfl:f=0:=zo;exact⟨λk w _ h=>absurd (QfH _ _) h,λk w _ h=>absurd (QfH _ _) h,λk w _ h=>absurd (QfH _ _) h,λk w _ h=>absurd (QfH _ _) h,λk w _ h=>absurd (QfH _ _) h,λk w _ h=>absurd (QfH _ _) h,λk w _ h=>absurd (QfH _ _) h,λk w _ h=>absurd (QfH _ _) h,λk w _ h=>absurd (QfH _ _) h,λk w _ h=>absurd (QfH _ _) h⟩
 |n+1,f,hn,hf=>by
  cases f with
  |zero=>exact JdJ p A C T hx n 0 (Nat.zero_le _) (Nat.zero_le _)
  |succ f=>
   have H:∀g,g<=f->Ih p A C T g:=λg hg=>JdJ p A C T hx n g zo zo
   have h0:=H f (Nat.le_refl _);exact⟨JjA f p A C T hx h0.expr h0.l1,JlK f p A C T λg hg=>(H g hg).l2,JlL f p A C T λg hg=>(H g hg).l3,JlI f p A C T h0.l3 h0.cm,JlO f p A C T h0.l5,JlM f p A C T λg hg=>(H g hg).l6,JlN f p A C T λg hg=>(H g hg).l7,JlJ f p A C T h0.l7 h0.pr,Jjx f p A C T h0.expr h0.nm,JgX f p A C T zo hx λg hg=>(H g hg).expr⟩
def JjB(p:Nat)(A:Option Addr)(C:Nat)(T:List Tok)(hx:∀t∈T,t.text.length<=1000000)(f:Nat)(hf:f<=100000000):∀k w,PAt w p A C T k->pM f .expr (T.drop k)≠.out->Calls prog 88 #[Pt p] w (NdP p A C T w (pM f .expr (T.drop k))):=(JdJ p A C T hx f f (Nat.le_refl _) hf).expr
end Go.Proofs.YtfafpklefknomaaGreatDoor
