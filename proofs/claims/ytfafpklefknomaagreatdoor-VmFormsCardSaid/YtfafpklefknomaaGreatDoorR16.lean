import Derived.Test.YtfafpklefknomaaGreatDoorR15
open List(getElem?_map getElem?_set map_map map_take mem_of_getElem? nil_append take_of_length_le)
open Nat(le_refl le_trans)
namespace Go.Proofs.YtfafpklefknomaaGreatDoor
open Go.ChangeShapes Go.WideShapes Go.ChangeAt Go.RowKit Go.Lib
open _root_.Go.Proofs.Tryz
set_option linter.all false
set_option maxRecDepth 100000
set_option maxHeartbeats 32000000
def QaH.far{L:List Nat}{W W':World}{sb:Nat}{S:Qap}(h:QaH W sb S)(hc:Chg L W W')(hL:∀b∈L,sb<b/\S.fv.ownBlock≠some b/\S.cv.ownBlock≠some b/\∀iv∈S.ivs,iv.2<=b):QaH W' sb S:=by
 have hk:∀{e size n:Nat} {v:Value} {xs:List Value},(∀b∈L,v.ownBlock≠some b)->W.ownsRow (sb+1) e size v n xs->W'.ownsRow (sb+1) e size v n xs:=λhn h=>Vi h λg hg=>hc.block g (h.lt g hg).2 λhm=>hn g hm hg
 exact⟨hc.heap_some (λhm=>by have:=(hL sb hm).1;omega) h.box,hk (λb hb=>(hL b hb).2.1) h.fown,hk (λb hb=>(hL b hb).2.2.1) h.cown,
  λf hf=>⟨(h.fok f hf).1.chg hc λb hb=>.inr ((hL b hb).2.2.2 (f.lo,f.hi) (List.mem_append_left _ (List.mem_map.2 ⟨f,hf,rfl⟩))),(h.fok f hf).2⟩,
  λc hc'=>⟨(h.cok c hc').1.chg hc λb hb=>.inr ((hL b hb).2.2.2 (c.lo,c.hi) (List.mem_append_right _ (List.mem_map.2 ⟨c,hc',rfl⟩))),(h.cok c hc').2⟩,h.pair,h.fout,h.cout⟩
structure Rz(w W:World)(sb:Nat)(S:Qap)(mb rb mn:Nat)(f:By->Option Nat)(x:Option Int):Prop where
 ok:QaH W sb S
 flt:QaW W rb 163 x (.map (some mb))
 map:Qbh W mb mn f
 bel:Below sb w W
 sz:w.heap.size<=W.heap.size
 num:w.heap.size<=mb/\mb<rb/\sb<w.heap.size
 ivs:∀iv∈S.ivs,iv.2<=w.heap.size
 rows:(∀g,S.fv.ownBlock=some g->g<w.heap.size)/\(∀g,S.cv.ownBlock=some g->g<w.heap.size)
section
variable {w W W':World} {sb:Nat} {S:Qap} {mb rb mn:Nat} {f:By->Option Nat} {x:Option Int}
def Kr{B:Nat}(h:Below B w W)(ho:W'.os=W.os)(ht:W'.tape=W.tape)(hp:W'.output=W.output)(hs:W.heap.size<=W'.heap.size)(hb:∀k,k<B->W'.heap[k]?=W.heap[k]?):Below B w W':=
 ⟨ho.trans h.os,ht.trans h.tape,hp.trans h.output,le_trans h.size hs,λk hk=>(hb k hk).trans (h.block k hk)⟩
def Rz.up(h:Rz w W sb S mb rb mn f x)(hb:Below W.heap.size W W'):Rz w W' sb S mb rb mn f x:=
 ⟨h.ok.on (Chg.of_below hb []) zq,(hb.block _ (Jb h.flt)).trans h.flt,h.map.same (hb.block mb h.map.lt),Kr h.bel hb.os hb.tape hb.output hb.size λk hk=>hb.block k (zv h.num h.sz),le_trans h.sz hb.size,h.num,h.ivs,h.rows⟩
def Rz.far(h:Rz w W sb S mb rb mn f x):∀b,w.heap.size<=b->sb<b/\S.fv.ownBlock≠some b/\S.cv.ownBlock≠some b/\∀iv∈S.ivs,iv.2<=b:=λb hb=>
 ⟨by have:=h.num;omega,λe=>by have:=h.rows.1 b e;omega,λe=>by have:=h.rows.2 b e;omega,λiv hi=>by have:=h.ivs iv hi;omega⟩
def Rz.add{e:Ending}{y:Int}(h:Rz w W sb S mb rb mn f x)(ha:Qir W rb 163 (addF x y) (.map (some mb)) e W'):Rz w W' sb S mb rb mn f (QaG x [y]):=by
 obtain⟨_,hf,hc⟩:=ha;obtain⟨n1,n2,n3⟩:=h.num;exact⟨h.ok.far hc λb hb=>h.far b (by simp at hb;omega),hf,h.map.keep hc zr,Kr h.bel hc.os hc.tape hc.output hc.size λk hk=>hc.block k (zu h.sz) zr,le_trans h.sz hc.size,h.num,h.ivs,h.rows⟩
def Rz.put{f':By->Option Nat}{mn':Nat}(h:Rz w W sb S mb rb mn f x)(hm:Qbh W' mb mn' f')(hc:Chg [mb] W W'):Rz w W' sb S mb rb mn' f' x:=by
 obtain⟨n1,n2,n3⟩:=h.num;exact⟨h.ok.far hc λb hb=>h.far b (by simp at hb;omega),hc.heap_some zr h.flt,hm,Kr h.bel hc.os hc.tape hc.output hc.size λk hk=>hc.block k (zu h.sz) zr,le_trans h.sz hc.size,h.num,h.ivs,h.rows⟩
theorem Qjx{P:Prop}(h:P:=by
  unfold Qap.ivs;dsimp only
  congr 1
  refine List.ext_getElem? λk=>?_
  rw[List.getElem?_map,List.getElem?_map,List.getElem?_set]
  by_cases hk:i=k
  ·subst hk;rw[if_pos rfl,if_pos (List.getElem?_eq_some_iff.1 hf).1,hf];rfl
  ·rw[if_neg hk]):P:=h
def JjM(S:Qap)(i:Nat)(a:An):(S.setF i a).ivs=S.ivs:=by
 unfold Qap.setF
 cases hf:S.funcs[i]? with
 |none=>rfl
 |some f=>
  exact Qjx
def JjN(S:Qap)(i:Nat)(a:An):(S.setC i a).ivs=S.ivs:=by
 unfold Qap.setC
 cases hf:S.clauses[i]? with
 |none=>rfl
 |some f=>
  exact Qjx
def Rz.preF{fs:List By}{vv:Value}{vars:List By}{g i:Nat}{fn:FnA}(h:Rz w W sb S mb rb mn (λs=>Qal fs s) x)(hf:S.funcs[i]?=some fn)(hv:QcO W vv vars g)(hg:vars≠[]->rb<g)(hw:WfN fn.body.nd):QbW fs rb 163 mb mn W (Value.blk S.fv) (i*10+5) x vv vars g fn.body:=by
 obtain⟨n1,n2,n3⟩:=h.num;have hmem:=mem_of_getElem? hf;obtain⟨fo,zA,vA⟩:=h.ok.fok fn hmem;have hfo:=JbB fo;have yA:(fn.lo,fn.hi)∈S.ivs:=mem_of_getElem? (Yt S hf);have aA:=h.ivs _ yA;have xA:=Vz h.ok.fown (by have:=(List.getElem?_eq_some_iff.1 hf).1;omega:0<S.funcs.length);have hbw:=h.rows.1 _ xA;have uA:=h.ok.fout _ xA _ yA
 obtain⟨cs,cap,cur,e1,e2,e3,e4⟩:∃g cap cur,S.fv=.slice (some ⟨g,0,none⟩) S.funcs.length cap/\sb+1<=g/\W.heap[g]?=some (.cells cur 147 (0,0))/\True:=by
  rcases h.ok.fown.2 with⟨e,_⟩|⟨g,cap,cur,e,e2,e3,_⟩
  ·rw[e]at xA;cases xA
  ·exact⟨g,cap,cur,e,e2,e3,trivial⟩
 have hbb:Value.blk S.fv=cs:=by rw[e1];rfl
 refine⟨⟨λj u hj=>?_,λj=>by rw[hbb];exact Jc e3 j,fo.bat⟩,?_,λhm=>by have:=hfo _ hm;omega,⟨λhm=>by have:=hfo _ hm;omega,by omega⟩,λhv=>⟨λhm=>by have:=hfo _ hm;have:=hg hv;omega,by have:=hg hv;omega,by have:=hg hv;omega⟩,⟨λhm=>by have:=hfo _ hm;omega,by omega,by omega⟩,h.flt,h.map,hv,hw⟩
 ·have h1:fn.cells[5+j]?=some u:=by
   unfold FnA.cells;rw[List.getElem?_append_right zq];simpa using hj
  have:=J0 h.ok.fown (Kq FnA.cells_length S.funcs i (5+j) fn u hf h1);rw[Nat.add_assoc];exact this
 ·obtain⟨m,_,_,_,_,m5⟩:=fo.bmd;exact m5.1
def Rz.preC{fs:List By}{i:Nat}{c:ClA}(h:Rz w W sb S mb rb mn (λs=>Qal fs s) x)(hf:S.clauses[i]?=some c)(hw:WfN c.cond.nd):QbW fs rb 163 mb mn W (Value.blk S.cv) (i*7) x Nl [] 0 c.cond:=by
 obtain⟨n1,n2,n3⟩:=h.num;have hmem:=mem_of_getElem? hf;obtain⟨fo,zA⟩:=h.ok.cok c hmem;have hfo:∀b∈foot c.cond,c.lo<=b/\b<c.hi:=fo.made.2;have yA:(c.lo,c.hi)∈S.ivs:=mem_of_getElem? (Yu S hf);have vA:=h.ivs _ yA;have xA:=Vz h.ok.cown (by have:=(List.getElem?_eq_some_iff.1 hf).1;omega:0<S.clauses.length);have hbw:=h.rows.2 _ xA;have uA:=h.ok.cout _ xA _ yA
 obtain⟨cs,cap,cur,e1,e2,e3,e4⟩:∃g cap cur,S.cv=.slice (some ⟨g,0,none⟩) S.clauses.length cap/\sb+1<=g/\W.heap[g]?=some (.cells cur 151 (0,0))/\True:=by
  rcases h.ok.cown.2 with⟨e,_⟩|⟨g,cap,cur,e,e2,e3,_⟩
  ·rw[e]at xA;cases xA
  ·exact⟨g,cap,cur,e,e2,e3,trivial⟩
 have hbb:Value.blk S.cv=cs:=by rw[e1];rfl
 refine⟨⟨λj u hj=>?_,λj=>by rw[hbb];exact Jc e3 j,fo.at'⟩,fo.made.1,λhm=>by have:=hfo _ hm;omega,⟨λhm=>by have:=hfo _ hm;omega,by omega⟩,λhv=>absurd rfl hv,⟨λhm=>by have:=hfo _ hm;omega,by omega,by omega⟩,h.flt,h.map,⟨none,0,rfl,⟨Nat.le_refl _,λ_=>⟨rfl,rfl⟩⟩,λhv=>absurd rfl hv⟩,hw⟩
 have h1:c.cells[j]?=some u:=by
  unfold ClA.cells;rw[List.getElem?_append_left (List.getElem?_eq_some_iff.1 hj).1];exact hj
 exact J0 h.ok.cown (Kq ClA.cells_length S.clauses i j c u hf h1)
def Rz.resF{fs:List By}{vars:List By}{i:Nat}{fn:FnA}{e:Ending}(h:Rz w W sb S mb rb mn (λs=>Qal fs s) x)(hf:S.funcs[i]?=some fn)(hr:Qdp fs rb 163 mb W (Value.blk S.fv) (i*10+5) x vars fn.body e W'):Rz w W' sb (S.setF i (QbA fs vars fn.body)) mb rb mn (λs=>Qal fs s) (QaG x (QcQ fs vars fn.body.nd).2):=by
 obtain⟨n1,n2,n3⟩:=h.num;have xA:=h.far rb zo;have zA:=h.ok.resF hf hr ⟨xA.1,xA.2.2.2,xA.2.1,xA.2.2.1⟩;obtain⟨_,hn,hfl,hc⟩:=hr;have yA:=Vz h.ok.fown (by have:=(List.getElem?_eq_some_iff.1 hf).1;omega:0<S.funcs.length);have aA:=(h.ok.fown.lt _ yA).1;have hbw:=h.rows.1 _ yA;obtain⟨fo,vA,uA⟩:=h.ok.fok fn (mem_of_getElem? hf);have bA:=h.ivs _ (mem_of_getElem? (Yt S hf))
 have hP:∀b j,Qej (Value.blk S.fv) (i*10+5) rb (foot fn.body) b j->b=Value.blk S.fv\/(fn.lo<=b/\b<fn.hi)\/b=rb:=λb j hj=>by
  rcases hj with⟨e,_⟩|hj|e
  ·exact .inl e
  ·exact .inr (.inl (JbB fo b hj))
  ·exact .inr (.inr e)
 refine⟨zA,hfl,h.map.same (hc.block mb h.map.lt λj hj=>by rcases hP mb j hj with e|e|e<;>omega),Kr h.bel hc.os hc.tape hc.output hc.size λk hk=>hc.block k (zu h.sz) λj hj=>by rcases hP k j hj with e|e|e<;>omega,le_trans h.sz hc.size,h.num,by rw[JjM];exact h.ivs,h.rows⟩
def Rz.resC{fs:List By}{vars:List By}{i:Nat}{c:ClA}{e:Ending}(h:Rz w W sb S mb rb mn (λs=>Qal fs s) x)(hf:S.clauses[i]?=some c)(hr:Qdp fs rb 163 mb W (Value.blk S.cv) (i*7) x vars c.cond e W'):Rz w W' sb (S.setC i (QbA fs vars c.cond)) mb rb mn (λs=>Qal fs s) (QaG x (QcQ fs vars c.cond.nd).2):=by
 obtain⟨n1,n2,n3⟩:=h.num;have xA:=h.far rb zo;have zA:=h.ok.resC hf hr ⟨xA.1,xA.2.2.2,xA.2.1,xA.2.2.1⟩;obtain⟨_,hn,hfl,hc⟩:=hr;have yA:=Vz h.ok.cown (by have:=(List.getElem?_eq_some_iff.1 hf).1;omega:0<S.clauses.length);have vA:=(h.ok.cown.lt _ yA).1;have hbw:=h.rows.2 _ yA;obtain⟨fo,uA⟩:=h.ok.cok c (mem_of_getElem? hf);have aA:=h.ivs _ (mem_of_getElem? (Yu S hf))
 have hP:∀b j,Qej (Value.blk S.cv) (i*7) rb (foot c.cond) b j->b=Value.blk S.cv\/(c.lo<=b/\b<c.hi)\/b=rb:=λb j hj=>by
  rcases hj with⟨e,_⟩|hj|e
  ·exact .inl e
  ·exact .inr (.inl (fo.made.2 b hj))
  ·exact .inr (.inr e)
 refine⟨zA,hfl,h.map.same (hc.block mb h.map.lt λj hj=>by rcases hP mb j hj with e|e|e<;>omega),Kr h.bel hc.os hc.tape hc.output hc.size λk hk=>hc.block k (zu h.sz) λj hj=>by rcases hP k j hj with e|e|e<;>omega,le_trans h.sz hc.size,h.num,by rw[JjN];exact h.ivs,h.rows⟩
end
def Qap.names(S:Qap):List (By × Int):=S.funcs.map λf=>(f.name,f.off)
def Qap.fns(S:Qap):List By:=S.funcs.map (·.name)
def Qap.upF(S:Qap):Nat->Qap
 |0=>S
 |i+1=>(S.upF i).setF i (match S.funcs[i]? with|none=>QcL 0 0 [] 0|some f=>QbA S.fns (f.params.map (·.1)) f.body)
def Qap.upC(S:Qap)(fs:List By):Nat->Qap
 |0=>S
 |i+1=>(S.upC fs i).setC i (match S.clauses[i]? with|none=>QcL 0 0 [] 0|some c=>QbA fs [] c.cond)
def JaM(S:Qap)(i k:Nat)(a:An)(h:i≠k):(S.setF i a).funcs[k]?=S.funcs[k]?:=by
 unfold Qap.setF
 cases hf:S.funcs[i]? with
 |none=>rfl
 |some f=>dsimp only;rw[getElem?_set,if_neg h]
def JjO(S:Qap)(i:Nat)(a:An):(S.setF i a).funcs.length=S.funcs.length:=by
 unfold Qap.setF
 cases hf:S.funcs[i]? with
 |none=>rfl
 |some f=>dsimp only;rw[List.length_set]
def JaN(S:Qap)(i k:Nat)(a:An)(h:i≠k):(S.setC i a).clauses[k]?=S.clauses[k]?:=by
 unfold Qap.setC
 cases hf:S.clauses[i]? with
 |none=>rfl
 |some f=>dsimp only;rw[getElem?_set,if_neg h]
def JjP(S:Qap)(i:Nat)(a:An):(S.setC i a).clauses.length=S.clauses.length:=by
 unfold Qap.setC
 cases hf:S.clauses[i]? with
 |none=>rfl
 |some f=>dsimp only;rw[List.length_set]
def JdP(S:Qap):∀i,(S.upF i).funcs.length=S.funcs.length
 |0=>rfl
 |i+1=>by unfold Qap.upF;rw[JjO,JdP S i]
def JdQ(S:Qap):∀i k,i<=k->(S.upF i).funcs[k]?=S.funcs[k]?
 |0,k,_=>rfl
 |i+1,k,h=>by unfold Qap.upF;rw[JaM _ _ _ _ zo,JdQ S i k zo]
def JdR(S:Qap)(fs:List By):∀i,(S.upC fs i).clauses.length=S.clauses.length
 |0=>rfl
 |i+1=>by unfold Qap.upC;rw[JjP,JdR S fs i]
def JdS(S:Qap)(fs:List By):∀i k,i<=k->(S.upC fs i).clauses[k]?=S.clauses[k]?
 |0,k,_=>rfl
 |i+1,k,h=>by unfold Qap.upC;rw[JaN _ _ _ _ zo,JdS S fs i k zo]
def K4(S:Qap):∀i,(S.upF i).clauses=S.clauses/\(S.upF i).action=S.action/\(S.upF i).fv=S.fv/\(S.upF i).cv=S.cv
 |0=>⟨rfl,rfl,rfl,rfl⟩
 |i+1=>K4 S i
def Zr(S:Qap)(fs:List By):∀i,(S.upC fs i).funcs=S.funcs/\(S.upC fs i).action=S.action/\(S.upC fs i).fv=S.fv/\(S.upC fs i).cv=S.cv
 |0=>⟨rfl,rfl,rfl,rfl⟩
 |i+1=>Zr S fs i
def QdH(fs:List By)(l:List FnS):List Int:=(l.map λf=>(resF fs f).2).flatten
def Qeb(fs:List By)(l:List ClS):List Int:=(l.map λc=>(resC fs c).2).flatten
def Jhn(fs:List By)(l:List FnS)(f:FnS):QdH fs (l++[f])=QdH fs l++(Qdk f.params []++(QcQ fs (f.params.map (·.1)) f.body).2):=by simp[QdH,resF]
def Jho(fs:List By)(l:List ClS)(c:ClS):Qeb fs (l++[c])=Qeb fs l++(QcQ fs [] c.cond).2:=by simp[Qeb,resC]
def RsP(w:World)(sb:Nat)(S:Qap)(e:Ending)(w':World):Prop:=
 match QaZ (Qae S.src).2 with
 |none=>e=.returned (.tuple #[])/\Below sb w w'/\∃S':Qap,S'.src=(Qae S.src).1/\QaH w' sb S'
 |some o=>e=.panicked [{ v:=Qff 16 o,recovered:=false }]/\Below sb w w'
def Yv{W:World}{sb:Nat}{S:Qap}(h:QaH W sb S){i:Nat}{f:FnA}(hf:S.funcs[i]?=some f):∀j u,f.cells[j]?=some u->W.cell? ⟨Value.blk S.fv,i*10+j,none⟩=some u:=λj u hj=>J0 h.fown (Kq FnA.cells_length S.funcs i j f u hf hj)
def JeU{W:World}{sb:Nat}{S:Qap}(h:QaH W sb S){i:Nat}{c:ClA}(hf:S.clauses[i]?=some c):∀j u,c.cells[j]?=some u->W.cell? ⟨Value.blk S.cv,i*7+j,none⟩=some u:=λj u hj=>J0 h.cown (Kq ClA.cells_length S.clauses i j c u hf hj)
def J1{α:Type}{l:List α}{i:Nat}{x:α}(h:l[i]?=some x):l.take (i+1)=l.take i++[x]:=by rw[List.take_add_one,h];rfl
def Jhp{S:Qap}{i:Nat}{f:FnA}(h:S.funcs[i]?=some f):S.fns[i]?=some f.name/\S.names[i]?=some (f.name,f.off):=by
 unfold Qap.fns Qap.names;rw[getElem?_map,getElem?_map,h];exact⟨rfl,rfl⟩
def JcA(S:Qap)(i:Nat):(S.names.take i).map (·.1)=S.fns.take i:=by
 unfold Qap.fns Qap.names;rw[<- map_take,<- map_take,map_map];rfl
def JjQ{S:Qap}{i:Nat}{f:FnA}(h:S.funcs[i]?=some f){k:Nat}(hk:Qal (S.fns.take i) f.name=some k):(λs=>Qal (S.fns.take (i+1)) s)=(λs=>Qal (S.fns.take i) s)/\Qdk (S.names.take (i+1)) []=Qdk (S.names.take i) []++[f.off]:=by
 obtain⟨h1,h2⟩:=Jhp h;rw[J1 h1,J1 h2,Ys]
 have hm:f.name∈S.fns.take i:=by
  have:=Z1 (S.fns.take i) f.name;rw[hk]at this;simpa using this
 refine⟨funext λs=>?_,?_⟩
 ·rw[Z0]
  cases hs:Qal (S.fns.take i) s with
  |some q=>rfl
  |none=>
   dsimp only;rw[if_neg];intro e;rw[<- e,hk]at hs
   cases hs
 ·rw[nil_append,JcA,if_pos hm]
def JjR{S:Qap}{i:Nat}{f:FnA}(h:S.funcs[i]?=some f)(hk:Qal (S.fns.take i) f.name=none):(λs=>Qal (S.fns.take (i+1)) s)=(λs=>if s=f.name then some i else Qal (S.fns.take i) s)/\Qdk (S.names.take (i+1)) []=Qdk (S.names.take i) []:=by
 obtain⟨h1,h2⟩:=Jhp h;have hlt:=(List.getElem?_eq_some_iff.1 h1).1;rw[J1 h1,J1 h2,Ys]
 have hm:f.name∉S.fns.take i:=by
  have:=Z1 (S.fns.take i) f.name;rw[hk]at this;simpa using this
 refine⟨funext λs=>?_,?_⟩
 ·rw[Z0]
  by_cases e:s=f.name
  ·subst e;rw[hk,if_pos rfl,if_pos rfl,List.length_take,Nat.min_eq_left zo]
  ·rw[if_neg e]
   cases hs:Qal (S.fns.take i) s with
   |some q=>rfl
   |none=>dsimp only;rw[if_neg λh=>e h.symm]
 ·rw[nil_append,JcA,if_neg hm,List.append_nil]
def QfF(l:List By):List Value:=l.map λs=>Sv s
def JjS(l:List By)(x:By):QfF (l++[x])=QfF l++[Sv x]:=by simp[QfF]
def JnB{a b:By}(h:bs a=bs b):a=b:=by have:=congrArg (λx:ByteArray=>x.data.toList) h;simpa[V5] using this
def Y9(l:List By)(x:By):Lib.containsS (l.map bs) (bs x)=decide (x∈l):=by
 rw[Bool.eq_iff_iff,Lib.containsS_iff,decide_eq_true_eq,List.mem_map]
 constructor
 ·rintro⟨a,ha,e⟩;rw[<- JnB e];exact ha
 ·intro h;exact⟨x,h,rfl⟩
def Za{W:World}{base:Nat}{v:Value}{l:List By}{n:Nat}(hn:l.length=n)(h:W.ownsRow base 9 1 v n (QfF l))(hl:n<=1000000000)(x:By):Calls prog 97 #[v,Sv x] W λe w'=>e=.returned (.bool (decide (x∈l)))/\w'=W:=by
 subst hn
 rcases h.2 with⟨rfl,h0⟩|⟨g,cap,cur,rfl,hg,hgg,r⟩
 ·obtain rfl:=List.eq_nil_of_length_eq_zero h0;exact Tryz.slices_Contains_string_empty none 0 (bs x) W
 ·refine(Tryz.slices_Contains_string g 0 l.length cap (l.map bs) (bs x) W zq zo λj hj=>?_).mono λe w' hh=>?_
  ·have xA:j<l.length:=by simpa using hj
   have h1:(QfF l)[j]?=some (.string (bs l[j])):=by unfold QfF;rw[getElem?_map,List.getElem?_eq_getElem xA];rfl
   have:=J0 h h1;rw[Nat.zero_add];rw[show (l.map bs).getD j ByteArray.empty=bs l[j] by simp[xA]];exact this
  ·rw[take_of_length_le zq,Y9]at hh;exact hh
def JjT{W:World}{base:Nat}{v:Value}{l:List By}{n:Nat}(hn:l.length=n)(h:W.ownsRow base 9 1 v n (QfF l))(h0:n=0->v=Nl):QcO W v l (Value.blk v):=by
 subst hn
 by_cases hl:l=[]
 ·subst hl;exact⟨none,0,h0 rfl,⟨le_refl _,λ_=>⟨rfl,rfl⟩⟩,λhne=>absurd rfl hne⟩
 ·have xA:0<l.length:=List.length_pos_iff.2 hl
  rcases h.2 with⟨_,e⟩|⟨g,cap,cur,rfl,hg,hgg,hc,r⟩
  ·omega
  ·refine⟨_,_,rfl,⟨hc,λe=>absurd e hl⟩,λ_=>⟨rfl,λi s hs=>?_⟩⟩;exact J0 h (by unfold QfF;rw[getElem?_map,hs];rfl)
def Rz.chg{w W W':World}{sb:Nat}{S:Qap}{mb rb mn:Nat}{f:By->Option Nat}{x:Option Int}{L:List Nat}(h:Rz w W sb S mb rb mn f x)(hc:Chg L W W')(hL:∀b∈L,rb<b):Rz w W' sb S mb rb mn f x:=by
 obtain⟨n1,n2,n3⟩:=h.num;exact⟨h.ok.far hc λb hb=>h.far b (zu (hL b hb)),hc.heap_some (λhm=>by have:=hL rb hm;omega) h.flt,h.map.keep hc λhm=>by have:=hL mb hm;omega,Kr h.bel hc.os hc.tape hc.output hc.size λk hk=>hc.block k (zu h.sz) λhm=>by have:=hL k hm;omega,Nat.le_trans h.sz hc.size,h.num,h.ivs,h.rows⟩
def Jhq{W:World}{base n:Nat}{v:Value}{l:List (By × Int)}(h:W.ownsRow base 144 2 v n (QbQ l)){j:Nat}{p:By × Int}(hp:l[j]?=some p):W.cell? ⟨Value.blk v,j*2,none⟩=some (.string (bs p.1))/\W.cell? ⟨Value.blk v,j*2+1,none⟩=some (Iv p.2):=by
 have hg:=λk u hk=>J0 h (Kq (cells:=λx:By × Int=>[Value.string (bs x.1),Iv x.2]) (size:=2) (λ_=>rfl) l j k p u hp hk)
 exact⟨hg 0 _ rfl,hg 1 _ rfl⟩
def JlV(S:Qap){i:Nat}{f:FnA}(h:S.funcs[i]?=some f):S.src.funcs[i]?=some f.src:=by unfold Qap.src;dsimp only;rw[getElem?_map,h];rfl
def Jle(S:Qap){k:Nat}{f:FnA}(hf:S.funcs[k]?=some f):∀i,k<i->(S.upF i).funcs[k]?=some { f with body:=QbA S.fns (f.params.map (·.1)) f.body }
 |0,h=>by omega
 |i+1,h=>by
  unfold Qap.upF
  by_cases hk:k=i
  ·subst hk;have:=JdQ S k k zP;unfold Qap.setF;rw[this,hf];dsimp only;rw[getElem?_set,if_pos rfl,if_pos (by rw[JdP];exact(List.getElem?_eq_some_iff.1 hf).1)]
  ·rw[JaM _ _ _ _ λe=>hk e.symm];exact Jle S hf i zo
def Jlf(S:Qap)(fs:List By){k:Nat}{c:ClA}(hf:S.clauses[k]?=some c):∀i,k<i->(S.upC fs i).clauses[k]?=some { c with cond:=QbA fs [] c.cond }
 |0,h=>by omega
 |i+1,h=>by
  unfold Qap.upC
  by_cases hk:k=i
  ·subst hk;have:=JdS S fs k k zP;unfold Qap.setC;rw[this,hf];dsimp only;rw[getElem?_set,if_pos rfl,if_pos (by rw[JdR];exact(List.getElem?_eq_some_iff.1 hf).1)]
  ·rw[JaN _ _ _ _ λe=>hk e.symm];exact Jlf S fs hf i zo
def JdT(S:Qap):S.src.funcs.map (·.name.1)=S.fns/\S.src.funcs.map (·.name)=S.names:=by
 unfold Qap.src Qap.fns Qap.names;simp only[map_map];exact⟨rfl,rfl⟩
def JlW(S:Qap):((S.upF S.funcs.length).upC S.fns S.clauses.length).src=(Qae S.src).1:=by
 have hc:(S.upF S.funcs.length).clauses=S.clauses:=(K4 S _).1
 have h1:((S.upF S.funcs.length).upC S.fns S.clauses.length).funcs.map FnA.src=(S.src.funcs.map (resF S.fns)).map (·.1):=by
  rw[(Zr _ _ _).1];refine List.ext_getElem? λk=>?_
  rw[getElem?_map,getElem?_map,getElem?_map]
  show _=Option.map _ (Option.map _ ((S.funcs.map FnA.src)[k]?))
  rw[getElem?_map]
  cases hk:S.funcs[k]? with
  |none=>
   rw[List.getElem?_eq_none (by rw[JdP];exact List.getElem?_eq_none_iff.1 hk)];rfl
  |some f=>
   rw[Jle S hk _ (List.getElem?_eq_some_iff.1 hk).1];simp[FnA.src,resF,ZY]
 have h2:((S.upF S.funcs.length).upC S.fns S.clauses.length).clauses.map ClA.src=(S.src.clauses.map (resC S.fns)).map (·.1):=by
  refine List.ext_getElem? λk=>?_
  rw[getElem?_map,getElem?_map,getElem?_map]
  show _=Option.map _ (Option.map _ ((S.clauses.map ClA.src)[k]?))
  rw[getElem?_map]
  cases hk:S.clauses[k]? with
  |none=>
   rw[List.getElem?_eq_none (by rw[JdR,hc];exact List.getElem?_eq_none_iff.1 hk)];rfl
  |some c=>
   rw[Jlf _ S.fns (by rw[hc];exact hk) _ (List.getElem?_eq_some_iff.1 hk).1];simp[ClA.src,resC,ZY]
 unfold Qae;rw[(JdT S).1]
 show Src.mk _ _ _=_
 rw[h1,h2,(Zr _ _ _).2.1,(K4 S _).2.1];rfl
def JjU(S:Qap):QaG (QaG (QaG none (Qdk S.names [])) (QdH S.fns S.src.funcs)) (Qeb S.fns S.src.clauses)=QaZ (Qae S.src).2:=by
 rw[<- Jw,<- Jw,JaJ];unfold Qae;rw[(JdT S).1,(JdT S).2];simp only[QdH,Qeb,map_map,List.append_assoc];rfl
def JlX(S:Qap){i:Nat}{c:ClA}(h:S.clauses[i]?=some c):S.src.clauses[i]?=some c.src:=by unfold Qap.src;dsimp only;rw[getElem?_map,h];rfl
def QeO:(prog.info? 9).map (λi=>(i.zero,i.size,i.bytes))=some (some Em,1,16):=zk
theorem Qka{P:Prop}(h:P:=by
  refine hK.out _ _ trivial (λhH=>?_);clear hK K
  try simp only[Act.put,ZA,ZB,ZC]
  refine ZS 8 rfl (λK hK=>?_);obtain⟨w5,hrun,hm5,hc5⟩:=HZ2.o.map.upd (by unfold maxLen;omega) hnl (v:=i) (by omega);replace HZ2:=Zh (HZ2.o.put hm5 hc5);clear hm5 hc5;go_simp;clear hrun;refine hK.out _ _ trivial (λhH=>?_);clear hK K
  try simp only[Act.put,ZA,ZB,ZC]
  refine wpAnyH_done (by kernel_rfl) ?_ _;have HZ3:Hi (Rz w w5 sb S mb rb (mn+1) (λs=>Qal (S.fns.take (i+1)) s) (QaG none (Qdk (S.names.take (i+1)) []))):=by rw[HQ.o.1,HQ.o.2];exact HZ2.o
  clear HZ2 HCP2;go_wp2;go_roundg (S.funcs.length-(i+1))
  case measure=>have:=HG.o;omega
  case rel=>exact⟨i+1,mn+1,by omega,by omega,by go_num,HZ3⟩):P:=h
theorem QjZ{P:Prop}(h:P:=by
  intro v' w' hown' hgrow _;have HZ7:=Zh (HZ.o.chg (JP hgrow) (λb hb=>by have:=(HOW.o.lt b (by simpa using hb)).1;have:=HWS.o.1;omega));have HO7:Hi (w'.ownsRow wm.heap.size 9 1 v' (j+1) (QfF ((fn.params.take (j+1)).map (·.1)))):=by rw[Hi,HTS.o,List.map_append,List.map_cons,List.map_nil,JjS];rw[<- List.map_take]at hown';exact hown'
  have HW7:Hi (rb<wm.heap.size/\wm.heap.size<=w'.heap.size):=⟨HWS.o.1,by have h1:=HWS.o.2;have h2:=hgrow.size;rw[World.size_alloc]at h2;omega⟩
  clear hown' hgrow HZ HOW HWS n0 HCP;go_wp2;go_roundg (fn.params.length-(j+1))
  case measure=>have:=HG2.o;omega
  case rel=>exact⟨j+1,by omega,by go_num,HO7,λe=>by omega,HZ7,HW7⟩):P:=h
def JdU(w:World)(sb:Nat)(S:Qap)(h:QaH w sb S)(h1:S.funcs.length<=100000000)(h2:S.clauses.length<=100000000)
  (h3:∀f∈S.funcs,WfN f.body.nd/\siz f.body.nd<=100000000/\f.name.length<=1000000/\f.params.length<=100000000) (h4:∀c∈S.clauses,WfN c.cond.nd/\siz c.cond.nd<=100000000):Calls prog 36 #[Pt sb] w (RsP w sb S):=by
 obtain⟨R,hR⟩:∃R,RsP w sb S=R:=⟨_,rfl⟩
 rw[hR];have HR:Hi (R=RsP w sb S):=hR.symm;obtain⟨fa,fc,eB,mB⟩:=Vr h.fown;obtain⟨ca,cc,sB,nB⟩:=Vr h.cown;have jC:=@run_makeMap prog
 have bA:Hi (Rz w ((w.alloc (.map #[] 0)).alloc (.cells #[.bool false,Iv 0,.map (some w.heap.size)] 163)) sb S w.heap.size (w.heap.size+1) 0 (λs=>Qal (S.fns.take 0) s) (QaG none (Qdk (S.names.take 0) []))):=by
  have hb:Below w.heap.size w ((w.alloc (.map #[] 0)).alloc (.cells #[.bool false,Iv 0,.map (some w.heap.size)] 163)):=(zO.alloc zP _).alloc zq _;have hn:=zQ (w.alloc (.map #[] 0)) (.cells #[.bool false,Iv 0,.map (some w.heap.size)] 163);rw[World.size_alloc]at hn;have dC:=Jb h.box;exact⟨h.on (Chg.of_below hb []) zq,hn,(Qbh.new w).same (heap_alloc_old _ _ zq),⟨hb.os,hb.tape,hb.output,hb.size,λk hk=>hb.block k zo⟩,hb.size,⟨le_refl _,Nat.lt_succ_self _,dC⟩,λiv hi=>(h.ivs iv hi).2.2,λg hg=>(h.fown.lt g hg).2,λg hg=>(h.cown.lt g hg).2⟩
 have yC:=Zh eB;have HCV:=Zh sB;have dB:=Zh mB;have rB:=Zh nB;have H3:=Zh h3;have H4:=Zh h4;have b0:((w.alloc (.map #[] 0)).alloc (.cells #[.bool false,Iv 0,.map (some w.heap.size)] 163)).cell? ⟨sb,0,none⟩=some (.slice fa S.funcs.length fc):=by rw[Ja bA.o.ok.box];rw[eB];rfl
 clear hR eB sB mB nB h h3 h4;go_enter func36,ntmps36;go_wp2_with fail;clear b0;generalize World.alloc (World.alloc w _) _=w0 at *;generalize w.heap.size+1=rb at *;generalize w.heap.size=mb at *;go_loopg [21] S.funcs.length λg v21 wr=>∃i mn:Nat,g+i=S.funcs.length/\mn<=i/\v21=Iv i/\Hi (Rz w wr sb S mb rb mn (λs=>Qal (S.fns.take i) s) (QaG none (Qdk (S.names.take i) [])))
 case atStart=>exact⟨0,0,rfl,le_refl _,rfl,bA⟩
 case round=>
 clear bA;obtain⟨wl,rfl⟩:=zJ wr;obtain⟨i,mn,hg,bC,rfl,hz⟩:=hrel
 by_cases hi:i<S.funcs.length
 ·have hil:(i:Int)<(S.funcs.length:Int):=zo;obtain⟨fn,vA⟩:∃fn,S.funcs[i]?=some fn:=⟨S.funcs[i],List.getElem?_eq_getElem hi⟩
  have hmem:=mem_of_getElem? vA;have iA:=dB.o zo;obtain⟨fo,_,_⟩:=hz.o.ok.fok fn hmem;have hnl:=(H3.o fn hmem).2.2.1;have hcl:=Yv hz.o.ok vA;have kA:=Zh vA;obtain⟨nm,of,ps,ts,res,b,pv,tv,hC,gC⟩:=fn;obtain⟨pa,pn,pc,mA⟩:=Jk fo.pown;obtain⟨ta,tn,tc,zC⟩:=Jk fo.town;dsimp only at mA zC hnl;subst mA zC;obtain⟨yA,yn,yc,hcg⟩:=Jg b;simp only[FnA.cells,hcg,List.cons_append,nil_append]at hcl;have c0:=hcl 0 _ rfl;have c1:=hcl 1 _ rfl;have c2:=hcl 2 _ rfl;have c3:=hcl 3 _ rfl;have c4:=hcl 4 _ rfl;have c5:=hcl 5 _ rfl;have c6:=hcl 6 _ rfl;have c7:=hcl 7 _ rfl;have c8:=hcl 8 _ rfl;have c9:=hcl 9 _ rfl;simp only[Nat.add_zero]at c0;have wk:=zI i;have nA:Hi (Rz w (wl.alloc (.cells ([Sv nm,Iv of,.slice pa pn pc,.slice ta tn tc,Iv res,Iv b.kind,Iv b.num,.string (bs b.name),Iv b.off,.slice yA yn yc]).toArray 147)) sb S mb rb mn (λs=>Qal (S.fns.take i) s) (QaG none (Qdk (S.names.take i) []))):=hz.o.up (zO.alloc zP _);have HCP:=Zh (zQ wl (.cells ([Sv nm,Iv of,.slice pa pn pc,.slice ta tn tc,Iv res,Iv b.kind,Iv b.num,.string (bs b.name),Iv b.off,.slice yA yn yc]).toArray 147));have HG:=Zh hg;subst iA;clear hcl vA hmem fo hz hg hcg;go_upto_region 4 with fail;clear c0 c1 c2 c3 c4 c5 c6 c7 c8 c9;generalize World.alloc wl _=w1 at *;generalize wl.heap.size=cb at *;have n0:=Ja HCP.o 0;have r2:=Ja nA.o.flt 2;simp only[zW]at n0 r2;have dA:=nA.o.map.look hnl;have zA:=(nA.o.map.same (w':=w1.drew) rfl).look hnl;have vB:Below w1.heap.size w1 w1.drew:=(Below.refl w1.heap.size w1).drew;have HZ2:=Zh (nA.o.up vB);have HCP2:=Zh ((vB.block _ (Jb HCP.o)).trans HCP.o);clear vB nA
  cases hfi:Qal (S.fns.take i) nm with
  |some kx=>
   rw[hfi]at dA zA;simp only[Option.getD,Option.isSome]at dA zA;obtain⟨q1,q2⟩:=JjQ kA.o hfi;have HQ:=Zh (And.intro q1 q2);clear hfi q1 q2;go_upto_region 4 with fail;go_region;go_upto_region 6 with fail;clear n0 r2 dA zA;generalize w1.drew=w2 at *;refine wp_region_held_drew (S:=λ_=>True) zk (trivial) λhH=>?_;replace HZ2:=Zh (HZ2.o.up (Below.refl w2.heap.size w2).drew);replace HCP2:=Zh ((((Below.refl w2.heap.size w2).drew).block _ (Jb HCP2.o)).trans HCP2.o);generalize w2.drew=w3 at *;refine zK 0 ?_
   try simp only[zX]
   refine zK 1 ?_;try simp only[zX]
   refine zK 2 ?_;try simp only[zX]
   refine zK 3 ?_;try simp only[zX]
   refine zK 4 ?_;try simp only[zX]
   refine ZS 5 rfl λK hK=>?_;have n1:=Ja HCP2.o 1;simp only[zW]at n1;go_simp;clear n1;refine zU hK trivial λhH=>?_;clear hK K
   try simp only[zX]
   refine ZS 6 rfl λK hK=>?_
   (go_simp;go_at_call 96;refine(V7 _ rb 163 _ (.map (some mb)) of HZ2.o.flt).mono ?_;intro e w4 h4)
   have hst:=HZ2.o.add h4;obtain rfl:=h4.1;replace HZ2:=Zh hst;clear h4 hst;refine zU hK trivial λhH=>?_;clear hK K
   try simp only[zX]
   refine wpAnyH_done zk ?_ _;have HZ3:Hi (Rz w w4 sb S mb rb mn (λs=>Qal (S.fns.take (i+1)) s) (QaG none (Qdk (S.names.take (i+1)) []))):=by rw[HQ.o.1,HQ.o.2,Jw];exact HZ2.o
   clear HZ2 HCP2;go_wp2;go_roundg (S.funcs.length-(i+1))
   case measure=>have:=HG.o;omega
   case rel=>exact⟨i+1,mn,by omega,by omega,by go_num,HZ3⟩
  |none=>
   rw[hfi]at dA zA;simp only[Option.getD,Option.isSome]at dA zA;obtain⟨q1,q2⟩:=JjR kA.o hfi;have HQ:=Zh (And.intro q1 q2);clear hfi q1 q2;go_upto_region 4 with fail;go_region;go_upto_region 7 with fail;clear n0 r2 dA zA;generalize w1.drew=w2 at *;refine wp_region_held_drew (S:=λ_=>True) zk (trivial) λhH=>?_;replace HZ2:=Zh (HZ2.o.up (Below.refl w2.heap.size w2).drew);replace HCP2:=Zh ((((Below.refl w2.heap.size w2).drew).block _ (Jb HCP2.o)).trans HCP2.o);generalize w2.drew=w3 at *;refine zK 0 ?_
   try simp only[zX]
   refine zK 1 ?_;try simp only[zX]
   refine zK 2 ?_;try simp only[zX]
   refine zK 4 ?_;try simp only[zX]
   refine zK 5 ?_;try simp only[zX]
   refine zK 7 ?_;try simp only[zX]
   refine ZR (rs:=[3,6]) (AllReadyH.cons rfl (λK hK=>?_) (AllReadyH.cons rfl (λK hK=>?_) AllReadyH.nil))
   ·have r2:=Ja HZ2.o.flt 2;simp only[zW]at r2;go_simp;clear r2;refine zU hK trivial λhH=>?_;clear hK K
    try simp only[zX]
    refine ZS 6 rfl λK hK=>?_;have n0:=Ja HCP2.o 0;simp only[zW]at n0;go_simp;clear n0;exact Qka
   ·have n0:=Ja HCP2.o 0;simp only[zW]at n0;go_simp;clear n0;refine zU hK trivial λhH=>?_;clear hK K
    try simp only[zX]
    refine ZS 3 rfl λK hK=>?_;have r2:=Ja HZ2.o.flt 2;simp only[zW]at r2;go_simp;clear r2;exact Qka
 ·have hil:¬(i:Int)<(S.funcs.length:Int):=zo;obtain rfl:i=S.funcs.length:=zo;have ht1:S.fns.take S.funcs.length=S.fns:=take_of_length_le (by simp[Qap.fns]);have ht2:S.names.take S.funcs.length=S.names:=take_of_length_le (by simp[Qap.names]);have xA:=hz.o;rw[ht1,ht2]at xA;obtain⟨X0,bB⟩:∃X0,QaG none (Qdk S.names [])=X0:=⟨_,rfl⟩
  rw[bB]at xA;have HX0:=Zh bB;have bA:Hi (Rz w wl sb (S.upF 0) mb rb mn (λs=>Qal S.fns s) (QaG X0 (QdH S.fns (S.src.funcs.take 0)))):=Zh (by simpa[Qap.upF,QdH,QaG] using xA);have b0:wl.cell? ⟨sb,0,none⟩=some (.slice fa S.funcs.length fc):=by rw[Ja xA.ok.box,yC.o];rfl
  clear hi hg bC hz xA ht1 ht2 bB;go_wp2_with fail;clear b0;go_loopg [59] S.funcs.length λg v59 wr=>∃i:Nat,g+i=S.funcs.length/\v59=Iv i/\Hi (Rz w wr sb (S.upF i) mb rb mn (λs=>Qal S.fns s) (QaG X0 (QdH S.fns (S.src.funcs.take i))))
  case atStart=>exact⟨0,rfl,rfl,bA⟩
  case round=>
  clear bA hil;obtain⟨wm,rfl⟩:=zJ wr;obtain⟨i,hg,rfl,hz⟩:=hrel
  by_cases hi:i<S.funcs.length
  ·have hil:(i:Int)<(S.funcs.length:Int):=zo;obtain⟨fn,vA⟩:∃fn,S.funcs[i]?=some fn:=⟨S.funcs[i],List.getElem?_eq_getElem hi⟩
   have qA:(S.upF i).funcs[i]?=some fn:=(JdQ S i i zP).trans vA;obtain⟨hwf,hsz,hnl,iC⟩:=H3.o fn (mem_of_getElem? vA);have hbx:=hz.o.ok.box;rw[(K4 S i).2.2.1,yC.o]at hbx;have b0:=Ja hbx 0;simp only[List.getElem?_toArray,List.getElem?_cons_zero]at b0;have hcl:=Yv hz.o.ok qA;rw[(K4 S i).2.2.1]at hcl;obtain⟨fo,_,_⟩:=hz.o.ok.fok fn (mem_of_getElem? qA);obtain⟨pa,pc,mA,aC⟩:=Vr fo.pown;have c2:=hcl 2 fn.pv rfl;rw[mA]at c2;have iA:=dB.o zo;have kB:=Zh qA;have kA:=Zh vA;have jB:=Zh aC;have tB:=Zh hwf;have HG:=Zh hg;have wk:=zI i;obtain⟨X1,sA⟩:∃X1,QaG X0 (QdH S.fns (S.src.funcs.take i))=X1:=⟨_,rfl⟩
   have HX1:=Zh sA;have HZ:=Zh hz.o;rw[sA]at HZ;have uB:Hi (Rz w wm sb (S.upF i) mb rb mn (λs=>Qal S.fns s) (QaG X1 (Qdk (fn.params.take 0) []))):=Zh (by simpa[Qdk,QaG] using HZ.o);subst iA;clear hbx hcl fo mA aC qA vA hwf hg sA hz HZ;go_wp2_with fail;clear b0 c2;go_loopg [73,9] fn.params.length λg v73 v9 wr=>∃j:Nat,g+j=fn.params.length/\v73=Iv j/\Hi (wr.ownsRow wm.heap.size 9 1 v9 j (QfF ((fn.params.take j).map (·.1))))/\Hi (j=0->v9=Nl)/\Hi (Rz w wr sb (S.upF i) mb rb mn (λs=>Qal S.fns s) (QaG X1 (Qdk (fn.params.take j) [])))/\Hi (rb<wm.heap.size/\wm.heap.size<=wr.heap.size)
   case atStart=>exact⟨0,rfl,rfl,World.ownsRow_nil _ _ _ _,λ_=>rfl,uB,Jb uB.o.flt,le_refl _⟩
   case round=>
   clear uB;obtain⟨wi,rfl⟩:=zJ wr;obtain⟨j,hg,rfl,ho,iB,hz,hws⟩:=hrel;obtain⟨va,vn,vc,rA⟩:=Jk ho.o;subst rA
   by_cases hj:j<fn.params.length
   ·have pB:(j:Int)<(fn.params.length:Int):=zo;obtain⟨p,hp⟩:∃p,fn.params[j]?=some p:=⟨fn.params[j],List.getElem?_eq_getElem hj⟩
    have hB:=jB.o zo;obtain⟨uC,_,_⟩:=hz.o.ok.fok fn (mem_of_getElem? kB.o);obtain⟨d0,d1⟩:=Jhq uC.pown hp;have gA:((fn.params.take j).map (·.1)).length=j:=zr;have eC:=zI j;have xC:fn.params.take (j+1)=fn.params.take j++[p]:=J1 hp;obtain⟨cA,eA⟩:=p;dsimp only at d0 d1;have HTS:=Zh xC;have HG2:=Zh hg;have HOW:=Zh (ho.o.alloc (.cells #[Sv cA,Iv eA] 144));have HZ:=Zh (hz.o.up ((Below.refl wi.heap.size wi).alloc zP (.cells #[Sv cA,Iv eA] 144)));have HCP:=Zh (zQ wi (.cells #[Sv cA,Iv eA] 144));have HWS:Hi (rb<wm.heap.size/\wm.heap.size<=(wi.alloc (.cells #[Sv cA,Iv eA] 144)).heap.size):=⟨hws.o.1,by rw[World.size_alloc];have:=hws.o.2;omega⟩
    have HBC:Hi (rb<wi.heap.size):=Nat.lt_of_lt_of_le hws.o.1 hws.o.2;subst hB;clear hp xC hg ho hz uC iB hws jB;go_wp2_with fail;clear d0 d1;generalize World.alloc wi _=w4 at *;generalize wi.heap.size=cb at *
    by_cases hm:cA∈(fn.params.take j).map (·.1)
    ·have cx:=Za gA HOW.o zo cA;rw[zG hm]at cx;have HD:Hi (Qdk (fn.params.take (j+1)) []=Qdk (fn.params.take j) []++[eA]):=by rw[Hi,HTS.o,Ys,nil_append,if_pos hm]
     refine cx.mono ?_;rintro e w5 ⟨rfl,zB⟩;obtain rfl:w4=w5:=zB.symm;clear cx hm;go_upto_region 18 with fail;refine wp_region_held_drew (S:=λ_=>True) zk (trivial) λhH=>?_;have hD:Below w4.heap.size w4 w4.drew:=(Below.refl w4.heap.size w4).drew;replace HZ:=Zh (HZ.o.up hD);replace HCP:=Zh ((hD.block _ (Jb HCP.o)).trans HCP.o);replace HOW:=Zh (Jhe HOW.o hD);replace HWS:Hi (rb<wm.heap.size/\wm.heap.size<=w4.drew.heap.size):=HWS.o;clear hD;generalize w4.drew=w6 at *;refine zK 0 ?_
     try simp only[zX]
     refine zK 1 ?_;try simp only[zX]
     refine zK 2 ?_;try simp only[zX]
     refine zK 3 ?_;try simp only[zX]
     refine ZS 4 rfl λK hK=>?_;have n1:=Ja HCP.o 1;simp only[zW]at n1;go_simp;clear n1;refine zU hK trivial λhH=>?_;clear hK K
     try simp only[zX]
     refine ZS 5 rfl λK hK=>?_
     (go_simp;go_at_call 96;refine(V7 _ rb 163 _ (.map (some mb)) eA HZ.o.flt).mono ?_;intro e w7 h7)
     have hst:=HZ.o.add h7;have aA:=h7.2.2;obtain rfl:=h7.1;replace HCP:=Zh (aA.heap_some (by have:=HBC.o;simp;omega) HCP.o);replace HOW:=Zh (JA HOW.o aA (by have:=HWS.o.1;simp;omega));replace HWS:Hi (rb<wm.heap.size/\wm.heap.size<=w7.heap.size):=⟨HWS.o.1,Nat.le_trans HWS.o.2 aA.size⟩
     rw[<- Jw,<- HD.o]at hst;replace HZ:=Zh hst;clear h7 hst aA;refine zU hK trivial λhH=>?_;clear hK K
     try simp only[zX]
     refine wpAnyH_done zk ?_ _;have n0:=Ja HCP.o 0;simp only[List.getElem?_toArray,List.getElem?_cons_zero]at n0;obtain⟨i0,hi,tA,gB,xA⟩:=info_parts QeO;have HI:=Zh hi;clear hi;go_wp2_with (at_builtin;refine wpList_append_own _ rfl _ _ 43 rfl wm.heap.size 9 i0 Em 1 16 underlying43 HI.o tA gB xA rfl zp _ _ _ rfl (HOW.o.alloc _) ⟨w7.heap.size,0,none⟩ 1 1 [Sv cA] rfl rfl ?c1 ?c2 ?c3 ?c4 ?c5 ?_)
     case c1=>
      intro k u hk;rw[K3];simpa using hk
     case c2=>intro u hu;simp at hu;subst hu;rfl
     case c3=>unfold maxLen;omega
     case c4=>omega
     case c5=>have:=HWS.o.2;rw[World.size_alloc];omega
     exact QjZ
    ·have cx:=Za gA HOW.o zo cA;rw[zH hm]at cx;have HD:Hi (Qdk (fn.params.take (j+1)) []=Qdk (fn.params.take j) []):=by rw[Hi,HTS.o,Ys,nil_append,if_neg hm,List.append_nil]
     refine cx.mono ?_;rintro e w5 ⟨rfl,zB⟩;obtain rfl:w4=w5:=zB.symm;clear cx hm;rw[<- HD.o]at HZ;have n0:=Ja HCP.o 0;simp only[List.getElem?_toArray,List.getElem?_cons_zero]at n0;obtain⟨i0,hi,tA,gB,xA⟩:=info_parts QeO;have HI:=Zh hi;clear hi;go_wp2_with (at_builtin;refine wpList_append_own _ rfl _ _ 43 rfl wm.heap.size 9 i0 Em 1 16 underlying43 HI.o tA gB xA rfl zp _ _ _ rfl (HOW.o.alloc _) ⟨w4.heap.size,0,none⟩ 1 1 [Sv cA] rfl rfl ?c1 ?c2 ?c3 ?c4 ?c5 ?_)
     case c1=>
      intro k u hk;rw[K3];simpa using hk
     case c2=>intro u hu;simp at hu;subst hu;rfl
     case c3=>unfold maxLen;omega
     case c4=>omega
     case c5=>have:=HWS.o.2;rw[World.size_alloc];omega
     exact QjZ
   ·have pB:¬(j:Int)<(fn.params.length:Int):=zo;obtain rfl:j=fn.params.length:=zo;have jA:=ho.o;rw[List.take_length]at jA;have pA:=hz.o;rw[List.take_length]at pA;have rA:=JjT (l:=fn.params.map (·.1)) zq jA iB.o
    have vC:fn.params.map (·.1)≠[]->rb<Value.blk (.slice va vn vc):=λhne=>by
     have yB:0<fn.params.length:=by have:=List.length_pos_iff.2 hne;simpa using this
     have:=(jA.lt _ (Vz jA yB)).1;have:=hws.o.1;omega
    have hp:=pA.preF (fs:=S.fns) kB.o rA vC tB.o;rw[(K4 S i).2.2.1]at hp;have cn:=Jbz S.fns rb 163 mb mn (by simp[Qap.fns];omega) (siz fn.body.nd) fn.body (fn.params.map (·.1)) _ _ _ _ _ wi zP zr hp;have HZ3:=Zh pA;have HST:=Zh λe W' hr=>HZ3.o.resF (vars:=fn.params.map (·.1)) (e:=e) (W':=W') kB.o hr;rw[(K4 S i).2.2.1]at HST;clear hj pB hg jB ho jA iB hz pA hws hp rA vC tB HZ3;go_wp2_with fail;refine cn.mono ?_;intro e w8 hr;have hst:=HST.o _ _ hr;obtain rfl:=hr.1
    have HS8:Hi (Rz w w8 sb (S.upF (i+1)) mb rb mn (λs=>Qal S.fns s) (QaG X0 (QdH S.fns (S.src.funcs.take (i+1))))):=by
     rw[Hi,J1 (JlV S kA.o),Jhn,Jw,Jw,HX1.o];have e1:S.upF (i+1)=(S.upF i).setF i (QbA S.fns (fn.params.map (·.1)) fn.body):=by show (S.upF i).setF i _=_;rw[kA.o]
     rw[e1];exact hst
    clear hst hr cn HST HX1;go_wp2;go_roundg (S.funcs.length-(i+1))
    case measure=>have:=HG.o;omega
    case rel=>exact⟨i+1,by omega,by go_num,HS8⟩
  ·have hil:¬(i:Int)<(S.funcs.length:Int):=zo;obtain rfl:i=S.funcs.length:=zo;have ht:S.src.funcs.take S.funcs.length=S.src.funcs:=take_of_length_le (by simp[Qap.src]);have xA:=hz.o;rw[ht]at xA;obtain⟨X2,xB⟩:∃X2,QaG X0 (QdH S.fns S.src.funcs)=X2:=⟨_,rfl⟩
   rw[xB]at xA;have HX2:=Zh xB;have cB:=K4 S S.funcs.length;obtain⟨S2,hS2⟩:∃S2,S.upF S.funcs.length=S2:=⟨_,rfl⟩
   rw[hS2]at xA cB;have qB:=Zh hS2;have hA:=Zh cB;have bA:Hi (Rz w wm sb (S2.upC S.fns 0) mb rb mn (λs=>Qal S.fns s) (QaG X2 (Qeb S.fns (S.src.clauses.take 0)))):=Zh (by simpa[Qap.upC,Qeb,QaG] using xA);have hbx:=xA.ok.box;rw[hA.o.2.2.2,HCV.o]at hbx;have b1:=Ja hbx 1;simp only[zW]at b1;clear hi hg hz xA ht xB hS2 cB hbx H3;go_wp2_with fail;clear b1;go_loopg [105] S.clauses.length λg v105 wr=>∃i:Nat,g+i=S.clauses.length/\v105=Iv i/\Hi (Rz w wr sb (S2.upC S.fns i) mb rb mn (λs=>Qal S.fns s) (QaG X2 (Qeb S.fns (S.src.clauses.take i))))
   case atStart=>exact⟨0,rfl,rfl,bA⟩
   case round=>
   clear bA hil;obtain⟨wc,rfl⟩:=zJ wr;obtain⟨i,hg,rfl,hz⟩:=hrel
   by_cases hi:i<S.clauses.length
   ·have hil:(i:Int)<(S.clauses.length:Int):=zo;obtain⟨c,aA⟩:∃c,S.clauses[i]?=some c:=⟨S.clauses[i],List.getElem?_eq_getElem hi⟩
    have aB:(S2.upC S.fns i).clauses[i]?=some c:=(JdS S2 S.fns i i zP).trans (by rw[hA.o.1];exact aA);obtain⟨hwf,hsz⟩:=H4.o c (mem_of_getElem? aA);have uA:(S2.upC S.fns i).cv=S.cv:=(Zr S2 S.fns i).2.2.2.trans hA.o.2.2.2;have hbx:=hz.o.ok.box;rw[uA,HCV.o]at hbx;have b1:=Ja hbx 1;simp only[zW]at b1;have iA:=rB.o zo;have hp:=hz.o.preC (fs:=S.fns) aB hwf;rw[uA]at hp;have cn:=Jbz S.fns rb 163 mb mn (by simp[Qap.fns];omega) (siz c.cond.nd) c.cond [] Nl 0 _ _ _ wc zP zr hp;have HST:=Zh λe W' hr=>hz.o.resC (vars:=[]) (e:=e) (W':=W') aB hr;rw[uA]at HST;have HCC:=Zh aA;have HG:=Zh hg;have wk:=zI i;subst iA;clear hbx uA aB hwf hsz aA hp hg hz;go_wp2_with fail;refine cn.mono ?_;intro e w8 hr;have hst:=HST.o _ _ hr;obtain rfl:=hr.1
    have HS8:Hi (Rz w w8 sb (S2.upC S.fns (i+1)) mb rb mn (λs=>Qal S.fns s) (QaG X2 (Qeb S.fns (S.src.clauses.take (i+1))))):=by
     rw[Hi,J1 (JlX S HCC.o),Jho,Jw];have e1:S2.upC S.fns (i+1)=(S2.upC S.fns i).setC i (QbA S.fns [] c.cond):=by show (S2.upC S.fns i).setC i _=_;rw[hA.o.1,HCC.o]
     rw[e1];exact hst
    clear hst hr cn HST b1;go_wp2;go_roundg (S.clauses.length-(i+1))
    case measure=>have:=HG.o;omega
    case rel=>exact⟨i+1,by omega,by go_num,HS8⟩
   ·have hil:¬(i:Int)<(S.clauses.length:Int):=zo;obtain rfl:i=S.clauses.length:=zo;have ht:S.src.clauses.take S.clauses.length=S.src.clauses:=take_of_length_le (by simp[Qap.src]);have xA:=hz.o;rw[ht,<- HX2.o,<- HX0.o,JjU,<- qB.o]at xA;have HS:=Zh (JlW S);have HZ:=Zh xA;have r0:=Ja HZ.o.flt 0;have r1:=Ja HZ.o.flt 1;simp only[zW]at r0 r1;clear hi hg hz xA ht HX2 HX0 qB hA rB dB H4
    cases hL:QaZ (Qae S.src).2 with
    |none=>
     rw[hL]at r0 r1;simp only[Option.isSome,Option.getD]at r0 r1;have HL:=Zh hL;clear hL;go_wp2;go_end0;rw[HR.o];unfold RsP;rw[HL.o];exact⟨rfl,HZ.o.bel,_,HS.o,HZ.o.ok⟩
    |some er=>
     rw[hL]at r0 r1;simp only[Option.isSome,Option.getD]at r0 r1;have HL:=Zh hL;clear hL;go_wp2;refine⟨rfl,?_⟩;rw[HR.o];unfold RsP;rw[HL.o];exact⟨rfl,HZ.o.bel⟩
end Go.Proofs.YtfafpklefknomaaGreatDoor
