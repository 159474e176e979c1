import Derived.Deep.RegionHeld3
import Derived.Deep.LoopGhost
import Derived.Deep.DeepCutAuto
import Derived.Test.YtncanmdgdflnpaaGreatDoorR00
open List(mem_cons)
open Nat(le_refl ne_of_lt)
namespace Go.Proofs.YtncanmdgdflnpaaGreatDoor
open _root_.Go.Proofs.Tryz
set_option linter.all false
set_option maxRecDepth 100000
set_option maxHeartbeats 32000000
inductive Nd where
 |mk (kind n:Int) (name:By) (off:Int) (kids:List Nd)
inductive Exp where
 |mk (kind n:Int) (name:By) (kids:List Exp)
structure FnM where
 name:By
 params:List Int
 result:Int
 body:Exp
structure ClM where
 cond:Exp
 action:Int
 reason:By
structure Qah where
 funcs:List FnM
 clauses:List ClM
 action:Int
def QaY:Qah:=⟨[],[],0⟩
def Nd.kind:Nd->Int|.mk k _ _ _ _=>k
def Nd.num:Nd->Int|.mk _ n _ _ _=>n
def Nd.name:Nd->By|.mk _ _ s _ _=>s
def Nd.off:Nd->Int|.mk _ _ _ o _=>o
def Nd.kids:Nd->List Nd|.mk _ _ _ _ l=>l
def Exp.kind:Exp->Int|.mk k _ _ _=>k
def Exp.num:Exp->Int|.mk _ n _ _=>n
def Exp.name:Exp->By|.mk _ _ s _=>s
def Exp.kids:Exp->List Exp|.mk _ _ _ l=>l
def QlN:By:=[97,110,100]
def Qgm:By:=[98,111,111,108]
def QlM:By:=[100,101,102]
def QdC:By:=[100,101,102,97,117,108,116]
def Qiv:By:=[101,108,115,101]
def QgP:By:=[102,97,108,115,101]
def Qgl:By:=[104,105,100,101]
def kIf:By:=[105,102]
def kIn:By:=[105,110]
def Qkg:By:=[105,110,116]
def QgO:By:=[108,97,98,101,108]
def Qkf:By:=[108,101,116]
def Qev:By:=[108,105,109,105,116]
def Qeu:By:=[109,101,100,105,97]
def QkO:By:=[110,111,116]
def kOr:By:=[111,114]
def Qgk:By:=[115,104,111,119]
def QfB:By:=[116,104,101,110]
def Qjj:By:=[116,114,117,101]
def Qiu:By:=[119,104,101,110]
def Qji:By:=[119,111,114,100]
def Qcq:By:=[108,105,107,101,115]
def Qcx:By:=[98,111,111,115,116,115]
def QbP:By:=[114,101,112,108,105,101,115]
def QbO:By:=[114,101,112,111,114,116,115]
def QiV:By:=[97,103,101]
def QeM:By:=[104,111,109,101]
def Qdo:By:=[115,99,111,112,101]
def Qcw:By:=[108,101,110,103,116,104]
def QbQ:By:=[102,111,108,108,111,119,115]
def QfO:By:=[114,101,112,108,121]
def Qai(s:By):Bool:=decide (s∈[QlN,Qgm,QlM,QdC,Qiv,QgP,Qgl,kIf,kIn,Qkg,QgO,Qkf,Qev,Qeu,QkO,kOr,Qgk,QfB,Qjj,Qiu,Qji])
def QaA(s:By):Option Int:=
 if s∈[Qcq,Qcx,QbP,QbO,QiV,QeM,Qdo,Qcw] then some 0 else if s∈[QbQ,QfO] then some 1 else none
def Qbd(s:By):Bool:=
 match s with
 |[]=>false
 |c::r=>decide (s.length<=24)&&Qdg c&&(c::r).all QcQ&&(QaA s).isNone&&!Qai s
def QbM(s:By):Bool:=s.all (λc=>decide (32<=c.toNat)&&decide (c.toNat<=126)&&c !=34&&c !=92)&&decide (s.length<=24)
inductive PR(α:Type) where
 |out
 |bad (off:Int)
 |ok (a:α) (r:List Tok)
def QiL:Tok:=⟨4,[],0,0⟩
def hd(r:List Tok):Tok:=r.headD QiL
def acc(k:Int)(s:By)(r:List Tok):Option (List Tok):=if (hd r).kind=k/\(hd r).text=s then some r.tail else none
def Qam(k:Int)(s:By)(r:List Tok):PR Unit:=match acc k s r with|some r'=>.ok () r'|none=>.bad (hd r).off
def PR.bind{α β:Type}(x:PR α)(f:α->List Tok->PR β):PR β:=match x with|.out=>.out|.bad o=>.bad o|.ok a r=>f a r
def Qbl(r:List Tok):PR (By×Int):=if (hd r).kind=0/\Qbd (hd r).text=true then .ok ((hd r).text,(hd r).off) r.tail else .bad (hd r).off
def QcH(r:List Tok):PR By:=if (hd r).kind=2 then .ok (hd r).text r.tail else .bad (hd r).off
def QaO(r:List Tok):PR By:=(Qam 3 [40] r).bind λ_ r1=>(QcH r1).bind λs r2=>(Qam 3 [41] r2).bind λ_ r3=>.ok s r3
def opK(lv:Nat)(t:Tok):Option Int:=
 if t.kind=0/\lv=1/\t.text=kOr then some 17
 else if t.kind=0/\lv=2/\t.text=QlN then some 16
 else if t.kind≠3 then none
 else if lv=5/\t.text=[43] then some 8
 else if lv=5/\t.text=[45] then some 9
 else if lv=6/\t.text=[42] then some 10
 else if lv=6/\t.text=[47] then some 11
 else if lv=6/\t.text=[37] then some 12
 else none
def Qfq(t:Tok):Option Int:=
 if t.kind≠3 then none
 else if t.text=[61,61]\/t.text=[33,61] then some 15
 else if t.text=[60]\/t.text=[62] then some 13
 else if t.text=[60,61]\/t.text=[62,61] then some 14
 else none
def QeV(t:Tok)(k:Int)(a b:Nd):Nd:=
 if t.text=[62]\/t.text=[62,61] then .mk k 0 [] a.off [b,a]
 else if t.text=[33,61] then .mk 7 0 [] a.off [.mk k 0 [] a.off [a,b]]
 else .mk k 0 [] a.off [a,b]
inductive Md where
 |expr
 |level (lv:Nat)
 |loop (lv:Nat) (off:Int) (a:Nd)
 |cmp
 |prim
 |named
 |args (name:By) (off:Int) (l:List Nd)
def pM:Nat->Md->List Tok->PR Nd
 |0,_,_=>.out
 |f+1,.expr,r=>
  match acc 0 Qkf r with
  |some r1=>(Qbl r1).bind λnm r2=>(Qam 3 [61] r2).bind λ_ r3=>(pM f .expr r3).bind λv r4=>(Qam 0 kIn r4).bind λ_ r5=>(pM f .expr r5).bind λb r6=>.ok (.mk 19 0 nm.1 (hd r).off [v,b]) r6
  |none=>
   match acc 0 kIf r with
   |some r1=>(pM f .expr r1).bind λc r2=>(Qam 0 QfB r2).bind λ_ r3=>(pM f .expr r3).bind λy r4=>(Qam 0 Qiv r4).bind λ_ r5=>(pM f .expr r5).bind λz r6=>.ok (.mk 18 0 [] (hd r).off [c,y,z]) r6
   |none=>pM f (.level 1) r
 |f+1,.level lv,r=>
  if lv=3 then
   match acc 0 QkO r with
   |some r1=>(pM f (.level 3) r1).bind λa r2=>.ok (.mk 7 0 [] (hd r).off [a]) r2
   |none=>pM f .cmp r
  else if lv=7 then
   match acc 3 [45] r with
   |some r1=>(pM f (.level 7) r1).bind λa r2=>.ok (.mk 6 0 [] (hd r).off [a]) r2
   |none=>pM f .prim r
  else (pM f (.level (lv+1)) r).bind λa r1=>pM f (.loop lv (hd r).off a) r1
 |f+1,.loop lv o a,r=>
  match opK lv (hd r) with
  |none=>.ok a r
  |some k=>(pM f (.level (lv+1)) r.tail).bind λb r1=>pM f (.loop lv o (.mk k 0 [] o [a,b])) r1
 |f+1,.cmp,r=>
  (pM f (.level 5) r).bind λa r1=>
   match Qfq (hd r1) with
   |none=>.ok a r1
   |some k=>(pM f (.level 5) r1.tail).bind λb r2=>.ok (QeV (hd r1) k a b) r2
 |f+1,.prim,r=>
  if (hd r).kind=1 then .ok (.mk 0 (hd r).n [] (hd r).off []) r.tail
  else match acc 3 [40] r with
  |some r1=>(pM f .expr r1).bind λn r2=>(Qam 3 [41] r2).bind λ_ r3=>.ok (.mk n.kind n.num n.name (hd r).off n.kids) r3
  |none=>
   match acc 0 QgP r with
   |some r1=>.ok (.mk 1 0 [] (hd r).off []) r1
   |none=>
    match acc 0 Qjj r with
    |some r1=>.ok (.mk 1 1 [] (hd r).off []) r1
    |none=>
     match acc 0 QgO r with
     |some r1=>(QaO r1).bind λs r2=>.ok (.mk 4 0 s (hd r).off []) r2
     |none=>
      match acc 0 Qji r with
      |some r1=>(QaO r1).bind λs r2=>.ok (.mk 5 0 s (hd r).off []) r2
      |none=>if (QaA (hd r).text).isSome/\(hd r).kind=0 then .ok (.mk 3 0 (hd r).text (hd r).off []) r.tail else pM f .named r
 |f+1,.named,r=>
  (Qbl r).bind λnm r1=>
   match acc 3 [40] r1 with
   |none=>.ok (.mk 2 0 nm.1 nm.2 []) r1
   |some r2=>
    match acc 3 [41] r2 with
    |some r3=>.ok (.mk 20 0 nm.1 nm.2 []) r3
    |none=>pM f (.args nm.1 nm.2 []) r2
 |f+1,.args nm o l,r=>
  (pM f .expr r).bind λa r1=>
   match acc 3 [44] r1 with
   |some r2=>pM f (.args nm o (l++[a])) r2
   |none=>(Qam 3 [41] r1).bind λ_ r2=>.ok (.mk 20 0 nm o (l++[a])) r2
structure FnS where
 name:By×Int
 params:List (By×Int)
 types:List Int
 result:Int
 body:Nd
structure ClS where
 cond:Nd
 action:Int
 reason:By
structure Src where
 funcs:List FnS
 clauses:List ClS
 action:Int
def Qec(r:List Tok):PR Int:=match acc 0 Qkg r with|some r1=>.ok 0 r1|none=>match acc 0 Qgm r with|some r1=>.ok 1 r1|none=>.bad (hd r).off
def QdI(r:List Tok):PR Int:=
 match acc 0 Qgk r with
 |some r1=>.ok 0 r1
 |none=>match acc 0 Qeu r with
  |some r1=>.ok 1 r1
  |none=>match acc 0 Qev r with
   |some r1=>.ok 2 r1
   |none=>match acc 0 Qgl r with
    |some r1=>.ok 3 r1
    |none=>.bad (hd r).off
def QaT:Nat->List (By×Int)->List Int->List Tok->PR (List (By×Int)×List Int)
 |0,_,_,_=>.out
 |f+1,ps,ts,r=>(Qbl r).bind λnm r1=>(Qam 3 [58] r1).bind λ_ r2=>(Qec r2).bind λt r3=>
  match acc 3 [44] r3 with
  |some r4=>QaT f (ps++[nm]) (ts++[t]) r4
  |none=>(Qam 3 [41] r3).bind λ_ r4=>.ok (ps++[nm],ts++[t]) r4
def Qfo(f:Nat)(r:List Tok):PR FnS:=
 (Qbl r).bind λnm r1=>(Qam 3 [40] r1).bind λ_ r2=>
  (match acc 3 [41] r2 with
   |some r3=>PR.ok ([],[]) r3
   |none=>QaT f [] [] r2).bind λpt r3=>(Qam 3 [58] r3).bind λ_ r4=>(Qec r4).bind λt r5=>(Qam 3 [61] r5).bind λ_ r6=>(pM f .expr r6).bind λb r7=>.ok ⟨nm,pt.1,pt.2,t,b⟩ r7
def QcR(g:Nat):Nat->List FnS->List Tok->PR (List FnS)
 |0,_,_=>.out
 |f+1,l,r=>match acc 0 QlM r with|some r1=>(Qfo g r1).bind λx r2=>QcR g f (l++[x]) r2|none=>.ok l r
def QaR(g:Nat):Nat->List ClS->List Tok->PR (List ClS)
 |0,_,_=>.out
 |f+1,l,r=>match acc 0 Qiu r with
  |some r1=>(pM g .expr r1).bind λc r2=>(Qam 0 QfB r2).bind λ_ r3=>(QdI r3).bind λa r4=>(QcH r4).bind λs r5=>QaR g f (l++[⟨c,a,s⟩]) r5
  |none=>.ok l r
def Qfb(f:Nat)(r:List Tok):PR Src:=
 (QcR f f [] r).bind λfs r1=>(QaR f f [] r1).bind λcs r2=>(Qam 0 QdC r2).bind λ_ r3=>(QdI r3).bind λa r4=>if (hd r4).kind=4 then .ok ⟨fs,cs,a⟩ r4 else .bad (hd r4).off
mutual
def Qad:Nd->Nat
 |.mk _ _ _ _ l=>QbW l+1
def QbW:List Nd->Nat
 |[]=>0
 |a::l=>max (Qad a) (QbW l)
end
def Src.roots(s:Src):List Nd:=s.funcs.map (·.body)++s.clauses.map (·.cond)
def Qcg(s:Src):Option Int:=(s.roots.find? λn=>decide (40<Qad n)).map Nd.off
def Qbq:List Int->Option Int
 |[]=>none
 |a::l=>some (match Qbq l with|none=>a|some b=>min a b)
def Qbh(M0:List By)(s:By):Int:=
 (M0.foldl (λ(p:Int×Int) v=>(p.1+1,if v=s then p.1 else p.2)) (0,-1)).2
def Qag(fs:List By)(s:By):Option Nat:=fs.findIdx? λv=>decide (v=s)
mutual
def Qdq(fs:List By):List By->Nd->Nd×List Int
 |M0,.mk k n s o l=>
  if k=2 then
   let r:=Qcb fs M0 l
   (.mk k (Qbh M0 s) [] o r.1,(if Qbh M0 s<0 then [o] else [])++r.2)
  else if k=20 then
   let r:=Qcb fs M0 l
   (.mk k ((Qag fs s).getD 0) [] o r.1,(if (Qag fs s).isNone then [o] else [])++r.2)
  else if k=19 then
   match l with
   |[a,b]=>
    let x:=Qdq fs M0 a
    let y:=Qdq fs (M0++[s]) b
    (.mk k M0.length [] o [x.1,y.1],x.2++y.2)
   |l=>(.mk k n s o l,[])
  else
   let r:=Qcb fs M0 l
   (.mk k n s o r.1,r.2)
def Qcb(fs:List By):List By->List Nd->List Nd×List Int
 |_,[]=>([],[])
 |M0,a::l=>let x:=Qdq fs M0 a;let y:=Qcb fs M0 l;(x.1::y.1,x.2++y.2)
end
def QdM:List (By×Int)->List By->List Int
 |[],_=>[]
 |(s,o)::l,seen=>(if s∈seen then [o] else [])++QdM l (seen++[s])
def resF(fs:List By)(f:FnS):FnS×List Int:=
 let b:=Qdq fs (f.params.map (·.1)) f.body
 ({f with body:=b.1},QdM f.params []++b.2)
def resC(fs:List By)(c:ClS):ClS×List Int:=
 let b:=Qdq fs [] c.cond
 ({c with cond:=b.1},b.2)
def Qae(s:Src):Src×List Int:=
 let fs:=s.funcs.map (·.name.1)
 let a:=s.funcs.map (resF fs)
 let b:=s.clauses.map (resC fs)
 (⟨a.map (·.1),b.map (·.1),s.action⟩,QdM (s.funcs.map (·.name)) []++(a.map (·.2)).flatten++(b.map (·.2)).flatten)
structure Qau where
 params:List Int
 result:Int
mutual
def ofN(fs:List Qau):List Int->Nd->Int×List Int
 |M0,.mk k n s o l=>
  if k=1\/k=5 then (1,[])
  else if k=2 then (M0.getD n.toNat 0,[])
  else if k=3 then ((QaA s).getD 0,[])
  else if k=6\/(8<=k/\k<=12) then (0,QaU fs M0 0 l)
  else if k=13\/k=14 then (1,QaU fs M0 0 l)
  else if k=15 then
   match l with
   |[a,b]=>let x:=ofN fs M0 a;let y:=ofN fs M0 b;(1,x.2++y.2++if y.1≠x.1 then [b.off] else [])
   |_=>(1,[])
  else if k=7\/k=16\/k=17 then (1,QaU fs M0 1 l)
  else if k=18 then
   match l with
   |[c,a,b]=>let z:=ofN fs M0 c;let x:=ofN fs M0 a;let y:=ofN fs M0 b;(x.1,z.2++(if z.1≠1 then [c.off] else [])++x.2++y.2++if y.1≠x.1 then [b.off] else [])
   |_=>(0,[])
  else if k=19 then
   match l with
   |[a,b]=>let x:=ofN fs M0 a;let y:=ofN fs (M0++[x.1]) b;(y.1,x.2++y.2)
   |_=>(0,[])
  else if k=20 then
   let f:=fs.getD n.toNat ⟨[],0⟩
   (f.result,(if l.length≠f.params.length then [o] else [])++QcP fs M0 (l.length==f.params.length) f.params l)
  else (0,[])
def QaU(fs:List Qau):List Int->Int->List Nd->List Int
 |_,_,[]=>[]
 |M0,t,a::l=>let x:=ofN fs M0 a;x.2++(if x.1≠t then [a.off] else [])++QaU fs M0 t l
def QcP(fs:List Qau):List Int->Bool->List Int->List Nd->List Int
 |_,_,_,[]=>[]
 |M0,b,ps,a::l=>let x:=ofN fs M0 a;x.2++(if b=true/\x.1≠ps.headD 0 then [a.off] else [])++QcP fs M0 b ps.tail l
end
def QcW(fs:List Qau)(M0:List Int)(t:Int)(a:Nd):List Int:=let x:=ofN fs M0 a;x.2++if x.1≠t then [a.off] else []
def QbY(s:Src):List Int:=
 let fs:=s.funcs.map λf=>(⟨f.types,f.result⟩:Qau)
 (s.funcs.map λf=>QcW fs f.types f.result f.body).flatten++(s.clauses.map λc=>QcW fs [] 1 c.cond).flatten
mutual
def Qac:Nd->Exp
 |.mk k n s _ l=>.mk k n s (QaK l)
def QaK:List Nd->List Exp
 |[]=>[]
 |a::l=>Qac a::QaK l
end
def Qbo(s:Src):Qah:=⟨s.funcs.map λf=>⟨f.name.1,f.types,f.result,Qac f.body⟩,s.clauses.map λc=>⟨Qac c.cond,c.action,c.reason⟩,s.action⟩
def QcV(f:Nat)(l:List Tok):Option (Qah×Int×Int):=
 match Qfb f l with
 |.out=>none
 |.bad o=>some (QaY,2,o)
 |.ok s _=>
  match Qcg s with
  |some o=>some (QaY,7,o)
  |none=>
   match Qbq (Qae s).2 with
   |some o=>some (QaY,16,o)
   |none=>
    match Qbq (QbY (Qae s).1) with
    |some o=>some (QaY,15,o)
    |none=>some (Qbo (Qae s).1,0,0)
open Go.ChangeShapes Go.WideShapes Go.ChangeAt Go.RowKit Go.Lib
inductive An where
 |mk (kind n:Int) (name:By) (off:Int) (blk cap:Nat) (kids:List An)
def An.kind:An->Int|.mk k _ _ _ _ _ _=>k
def An.num:An->Int|.mk _ n _ _ _ _ _=>n
def An.name:An->By|.mk _ _ s _ _ _ _=>s
def An.off:An->Int|.mk _ _ _ o _ _ _=>o
def An.blk:An->Nat|.mk _ _ _ _ b _ _=>b
def An.cap:An->Nat|.mk _ _ _ _ _ c _=>c
def An.kids:An->List An|.mk _ _ _ _ _ _ l=>l
def Qaw(b c:Nat)(l:List An):Value:=if l=[] then Nl else .slice (some ⟨b,0,none⟩) l.length c
def Qaa:An->Array Value|.mk k n s o b c l=>#[Iv k,Iv n,Sv s,Iv o,Qaw b c l]
mutual
def An.nd:An->Nd
 |.mk k n s o _ _ l=>.mk k n s o (ndL l)
def ndL:List An->List Nd
 |[]=>[]
 |a::l=>a.nd::ndL l
end
mutual
def foot:An->List Nat
 |.mk _ _ _ _ b _ l=>match l with|[]=>[]|x::r=>b::(foot x++Qaf r)
def Qaf:List An->List Nat
 |[]=>[]
 |a::l=>foot a++Qaf l
end
mutual
def An.At(W:World):An->Prop
 |.mk _ _ _ _ b _ l=>(l≠[]->∀j,W.frozen? ⟨b,j,none⟩=false)/\AtL W b 0 l
def AtL(W:World)(b:Nat):Nat->List An->Prop
 |_,[]=>True
 |i,a::l=>(∀j u,(Qaa a).toList[j]?=some u->W.cell? ⟨b,i*5+j,none⟩=some u)/\a.At W/\AtL W b (i+1) l
end
def JV(a:An):(Qaa a).size=5:=by cases a;rfl
mutual
def JE{W W':World}:∀(a:An),a.At W->(∀b,b∈foot a->W'.heap[b]?=W.heap[b]?)->a.At W'
 |.mk k n s o b c l,h,hk=>by
  unfold An.At at*
  refine⟨λhne j=>?_,Z2 b l 0 h.2 (λhne=>hk b (by
   unfold foot
   cases l with
   |nil=>exact absurd rfl hne
   |cons x r=>simp)) (λq hq=>hk q (by
   unfold foot
   cases l with
   |nil=>simp[Qaf]at hq
   |cons x r=>unfold Qaf at hq;simp only[mem_cons];exact .inr hq))⟩
  have hb:W'.heap[b]?=W.heap[b]?:=hk b (by
   unfold foot
   cases l with
   |nil=>exact absurd rfl hne
   |cons x r=>simp)
  exact(World.frozen?_of_block (a:=⟨b,j,none⟩) hb).trans (h.1 hne j)
def Z2{W W':World}(b:Nat):∀(l:List An)(i:Nat),AtL W b i l->(l≠[]->W'.heap[b]?=W.heap[b]?)->(∀q,q∈Qaf l->W'.heap[q]?=W.heap[q]?)->AtL W' b i l
 |[],_,_,_,_=>by unfold AtL;trivial
 |a::l,i,h,hb,hk=>by
  unfold AtL at*;refine⟨λj u hu=>?_,JE a h.2.1 λq hq=>hk q (by unfold Qaf;exact List.mem_append_left _ hq),Z2 b l (i+1) h.2.2 (λ_=>hb (by simp)) λq hq=>hk q (by unfold Qaf;exact List.mem_append_right _ hq)⟩;exact(World.cell?_of_block (a:=⟨b,i*5+j,none⟩) (hb (by simp))).trans (h.1 j u hu)
end
def Qcs(lo hi:Nat)(a:An):Prop:=(foot a).Nodup/\∀b,b∈foot a->lo<=b/\b<hi
def Zf{S:List Nat}{W W':World}{lo hi:Nat}{a:An}(h:a.At W)(hm:Qcs lo hi a)(hc:Chg S W W')(hh:hi<=W.heap.size)(hs:∀b,b∈S->b<lo):a.At W':=
 JE a h λb hb=>hc.block b (zt ((hm.2 b hb).2)) λhm'=>by have:=(hm.2 b hb).1;have:=hs b hm';omega
def Kz{W W':World}{lo hi:Nat}{a:An}(h:a.At W)(hm:Qcs lo hi a)(hc:Below W.heap.size W W')(hh:hi<=W.heap.size):a.At W':=
 JE a h λb hb=>hc.block b (zt ((hm.2 b hb).2))
def Qcs.mono{lo hi lo' hi':Nat}{a:An}(h:Qcs lo hi a)(h1:lo'<=lo)(h2:hi<=hi'):Qcs lo' hi' a:=⟨h.1,λb hb=>⟨Nat.le_trans h1 (h.2 b hb).1,Nat.lt_of_lt_of_le (h.2 b hb).2 h2⟩⟩
def QcX(k n:Int)(s:By)(o:Int):An:=.mk k n s o 0 0 []
def Yz(k n:Int)(s:By)(o:Int)(lo hi:Nat):Qcs lo hi (QcX k n s o):=⟨by simp[QcX,foot],by simp[QcX,foot]⟩
def JbN(W:World)(k n:Int)(s:By)(o:Int):(QcX k n s o).At W:=by unfold QcX An.At AtL;exact⟨λh=>absurd rfl h,trivial⟩
def QdK(lo hi:Nat):List An->Prop
 |[]=>lo<=hi
 |a::l=>∃m,lo<=m/\Qcs lo m a/\QdK m hi l
def QdK.le{lo hi:Nat}:∀{l:List An},QdK lo hi l->lo<=hi
 |[],h=>h
 |a::l,⟨m,h1,_,h3⟩=>Nat.le_trans h1 h3.le
def QdK.foot{lo hi:Nat}:∀{l:List An},QdK lo hi l->(Qaf l).Nodup/\∀b,b∈Qaf l->lo<=b/\b<hi
 |[],h=>⟨by simp[Qaf],by simp[Qaf]⟩
 |a::l,⟨m,h1,h2,h3⟩=>by
  obtain⟨g1,g2⟩:=h3.foot;unfold Qaf;refine⟨List.nodup_append.2 ⟨h2.1,g1,λx hx y hy e=>?_⟩,λb hb=>?_⟩
  ·subst e;have:=(h2.2 x hx).2;have:=(g2 x hy).1;omega
  ·rcases List.mem_append.1 hb with hb|hb
   ·have q1:=h2.2 b hb;have q2:=h3.le;exact⟨q1.1,by omega⟩
   ·have q1:=g2 b hb;exact⟨by omega,q1.2⟩
def Jas{lo hi b:Nat}{l:List An}(h:QdK lo hi l)(hb:hi<=b)(k n:Int)(s:By)(o:Int)(c:Nat):Qcs lo (b+1) (.mk k n s o b c l):=by
 obtain⟨g1,g2⟩:=h.foot;have hl:=h.le
 cases l with
 |nil=>exact⟨by simp[foot],by simp[foot]⟩
 |cons x r=>
  unfold Qcs foot;refine⟨List.nodup_cons.2 ⟨λhm=>?_,g1⟩,λq hq=>?_⟩
  ·have:=(g2 b hm).2;omega
  ·rcases List.mem_cons.1 hq with rfl|hq
   ·exact⟨by omega,by omega⟩
   ·have:=g2 q hq;exact⟨this.1,by omega⟩
def Qdx(l:List An):List Value:=l.flatMap λa=>(Qaa a).toList
def Kp{W:World}{b:Nat}:∀(l:List An)(i:Nat),(∀j u,(Qdx l)[j]?=some u->W.cell? ⟨b,i*5+j,none⟩=some u)->(∀a,a∈l->a.At W)->AtL W b i l
 |[],_,_,_=>by unfold AtL;trivial
 |a::l,i,h,hk=>by
  have e:Qdx (a::l)=(Qaa a).toList++Qdx l:=rfl;have hl:(Qaa a).toList.length=5:=by rw[Array.length_toList,JV]
  unfold AtL;refine⟨λj u hu=>h j u ?_,hk a zp,Kp l (i+1) (λj u hu=>?_) λx hx=>hk x (List.mem_cons_of_mem _ hx)⟩
  ·rw[e,List.getElem?_append_left (List.getElem?_eq_some_iff.1 hu).1];exact hu
  ·have:=h (5+j) u (by rw[e,List.getElem?_append_right zo,hl,Nat.add_sub_cancel_left];exact hu);rw[show (i+1)*5+j=i*5+(5+j) by omega];exact this
def Qdw(t:Tok):Array Value:=#[Iv t.kind,.string (bs t.text),Iv t.n,Iv t.off]
structure PAt(W:World)(p:Nat)(A:Option Addr)(C:Nat)(T:List Tok)(k:Nat):Prop where
 self:W.heap[p]?=some (.cells #[.slice A T.length C,Iv k] 73 (0,0))
 toks:∃b o,A=some ⟨b,o,none⟩/\b≠p/\∀i t,T[i]?=some t->∀j u,(Qdw t).toList[j]?=some u->W.cell? ⟨b,o+i*4+j,none⟩=some u
 lt:k<T.length
 fin:∀i t,T[i]?=some t->(t.kind=4↔i+1=T.length)
 room:T.length<=1000000
def PAt.chg{W W':World}{p:Nat}{A:Option Addr}{C:Nat}{T:List Tok}{k:Nat}(h:PAt W p A C T k)(hc:Below W.heap.size W W'):PAt W' p A C T k:=by
 obtain⟨b,o,e,xA,ht⟩:=h.toks;exact⟨(hc.block p (Jb h.self)).trans h.self,⟨b,o,e,xA,λi t hi j u hu=>(hc.cell (World.block_lt_of_cell? W _ (ht i t hi j u hu))).trans (ht i t hi j u hu)⟩,h.lt,h.fin,h.room⟩
def PAt.next{W:World}{p:Nat}{A:Option Addr}{C:Nat}{T:List Tok}{k k':Nat}(h:PAt W p A C T k)(hk:k'<T.length):PAt (W.setCell ⟨p,1,none⟩ (Iv k')) p A C T k':=by
 obtain⟨b,o,e,xA,ht⟩:=h.toks;refine⟨?_,⟨b,o,e,xA,λi t hi j u hu=>?_⟩,hk,h.fin,h.room⟩
 ·rw[JC h.self];rfl
 ·rw[World.cell?_setCell_other _ _ _ _ (by intro e';first|exact xA (congrArg Addr.block e')|exact xA (congrArg Addr.block e').symm)];exact ht i t hi j u hu
def Z3{T:List Tok}{k:Nat}(h:k<T.length):T[k]?=some (hd (T.drop k)):=by
 rw[List.drop_eq_getElem_cons h];exact List.getElem?_eq_getElem h
def tail_drop{T:List Tok}{k:Nat}:(T.drop k).tail=T.drop (k+1):=by rw[List.tail_drop]
def PAt.more{W:World}{p:Nat}{A:Option Addr}{C:Nat}{T:List Tok}{k:Nat}(h:PAt W p A C T k)(hk:(hd (T.drop k)).kind≠4):k+1<T.length:=by
 have h1:=(h.fin k _ (Z3 h.lt)).2;have:=h.lt;omega
def QfN(o:Int):Value:=.iface 69 (.agg #[Iv 2,Iv o])
def QkL(p:Nat)(w:World)(o:Int)(e:Ending)(w':World):Prop:=e=.panicked [{v:=QfN o,recovered:=false}]/\Chg [p] w w'
def Qkj:(prog.info? 105).map (·.size)=some 4:=zk
def Qaq:(prog.info? 119).map (·.size)=some 5:=zk
def Qjm:(prog.info? 69).map (·.size)=some 2:=zk
def QmZ{w:World}{T t:Nat}{a0 a1 a2 a3:Value}(v0 v1 v2 v3:Value)(h:w.heap[T]?=some (.cells #[a0,a1,a2,a3] t (0,0))):
  ((((w.setCell ⟨T,0,none⟩ v0).setCell ⟨T,1,none⟩ v1).setCell ⟨T,2,none⟩ v2).setCell ⟨T,3,none⟩ v3).heap[T]?=some (.cells #[v0,v1,v2,v3] t (0,0)):=by
 exact Qnf
def QmN{B:Nat}{w w1:World}{T:Nat}(v0 v1 v2 v3:Value)(h:Below B w w1)(hT:B<=T):Below B w ((((w1.setCell ⟨T,0,none⟩ v0).setCell ⟨T,1,none⟩ v1).setCell ⟨T,2,none⟩ v2).setCell ⟨T,3,none⟩ v3):=
 (((h.setCell hT v0).setCell hT v1).setCell hT v2).setCell hT v3
def PAt.cells{W:World}{p:Nat}{A:Option Addr}{C:Nat}{T:List Tok}{k:Nat}(h:PAt W p A C T k):
  ∃b o,A=some ⟨b,o,none⟩/\W.cell? ⟨p,0,none⟩=some (.slice A T.length C)/\W.cell? ⟨p,1,none⟩=some (Iv k)/\
   W.cell? ⟨b,o+k*4,none⟩=some (Iv (hd (T.drop k)).kind)/\W.cell? ⟨b,o+k*4+1,none⟩=some (.string (bs (hd (T.drop k)).text))/\
   W.cell? ⟨b,o+k*4+2,none⟩=some (Iv (hd (T.drop k)).n)/\W.cell? ⟨b,o+k*4+3,none⟩=some (Iv (hd (T.drop k)).off):=by
 obtain⟨b,o,e,xA,ht⟩:=h.toks;have g:=ht k _ (Z3 h.lt);exact⟨b,o,e,by rw[Ja h.self];rfl,by rw[Ja h.self];rfl,g 0 _ rfl,g 1 _ rfl,g 2 _ rfl,g 3 _ rfl⟩
def QhL(w:World)(t:Tok)(e:Ending)(w':World):Prop:=e=.returned (.agg (Qdw t))/\Below w.heap.size w w'
def Kc(p:Nat)(A:Option Addr)(C:Nat)(T:List Tok)(k:Nat)(w:World)(h:PAt w p A C T k):Calls prog 69 #[Pt p] w (QhL w (hd (T.drop k))):=by
 have hZ:=zzw w (.cells #[Iv 0,Em,Iv 0,Iv 0] 105);have hB:=(Below.refl w.heap.size w).alloc zzl (.cells #[Iv 0,Em,Iv 0,Iv 0] 105);obtain⟨b,o,rfl,p0,p1,t0,t1,t2,t3⟩:=(h.chg hB).cells;have hlt:=h.lt;generalize hd (T.drop k)=t at*;generalize hn:T.length=n at*;have bk:(k:Int)<(n:Int):=zo
 obtain⟨q0,q1,q2,q3⟩:(w.alloc (.cells #[Iv 0,Em,Iv 0,Iv 0] 105)).cell? ⟨w.heap.size,0,none⟩=some (Iv 0)/\(w.alloc (.cells #[Iv 0,Em,Iv 0,Iv 0] 105)).cell? ⟨w.heap.size,1,none⟩=some Em/\(w.alloc (.cells #[Iv 0,Em,Iv 0,Iv 0] 105)).cell? ⟨w.heap.size,2,none⟩=some (Iv 0)/\(w.alloc (.cells #[Iv 0,Em,Iv 0,Iv 0] 105)).cell? ⟨w.heap.size,3,none⟩=some (Iv 0):=by
  refine⟨?_,?_,?_,?_⟩<;>(rw[Ja hZ];rfl)
 have hf:=λj=>Jc hZ j
 have f0:=hf 0;have f1:=hf 1;have f2:=hf 2;have f3:=hf 3;have HZ:=Zh hZ;have HB:=Zh hB;clear hZ hB hf h hn hlt;go_enter func69,ntmps69;go_wp2;go_region;go_wp2;refine bodyPost_ret (results_cell_row rfl _ _ w.heap.size 105 (Qdw t) (0,0) _ rfl (zzw w _) underlying105 rfl Qkj) rfl ⟨rfl,((Below.refl w.heap.size w).alloc zzl _).drew⟩
def Qnb(p:Nat)(A:Option Addr)(C:Nat)(T:List Tok)(k:Nat)(kd:Int)(s:By)(w:World)(e:Ending)(w':World):Prop:=
 ((hd (T.drop k)).kind=kd/\(hd (T.drop k)).text=s/\e=.returned (.bool true)/\PAt w' p A C T (k+1)/\Chg [p] w w')\/
 (¬((hd (T.drop k)).kind=kd/\(hd (T.drop k)).text=s)/\e=.returned (.bool false)/\Below w.heap.size w w')
def Jq(p:Nat)(A:Option Addr)(C:Nat)(T:List Tok)(k:Nat)(kd:Int)(s:By)(w:World)(h:PAt w p A C T k)(h4:kd≠4):Calls prog 63 #[Pt p,Iv kd,Sv s] w (Qnb p A C T k kd s w):=by
 have HP:=Zh h;have cp:=Kc p A C T k w h;have hm:Hi ((hd (T.drop k)).kind=kd->k+1<T.length):=λe=>h.more (by rw[e];exact h4)
 have xA:Hi (Qnb p A C T k kd s w=λe w'=>((hd (T.drop k)).kind=kd/\(hd (T.drop k)).text=s/\e=.returned (.bool true)/\PAt w' p A C T (k+1)/\Chg [p] w w')\/
 (¬((hd (T.drop k)).kind=kd/\(hd (T.drop k)).text=s)/\e=.returned (.bool false)/\Below w.heap.size w w')):=rfl
 unfold QhL at cp;generalize hd (T.drop k)=t at*;generalize Qnb p A C T k kd s w=R at*;obtain⟨tk,tx,tn,tf⟩:=t;unfold Qdw at cp;simp only at cp;have u1:=Jk tx;have u2:=Jk s;go_enter func63,ntmps63;go_wp2_with fail;refine cp.mono ?_;rintro e w1 ⟨rfl,U0⟩;have hA:=U0.alloc U0.size (.cells #[Iv tk,Sv tx,Iv tn,Iv tf] 105);have yA:=HP.o.chg hA;have hN:=zzw w1 (.cells #[Iv tk,Sv tx,Iv tn,Iv tf] 105);have hk:k<=1000000:=by have:=yA.lt;have:=yA.room;omega
 have wk:=zI k;have pc:=Ja yA.self 1;have pf:=Jc yA.self 1;have c0:(w1.alloc (.cells #[Iv tk,Sv tx,Iv tn,Iv tf] 105)).cell? ⟨w1.heap.size,0,none⟩=some (Iv tk):=by rw[Ja hN];rfl
 have c1:(w1.alloc (.cells #[Iv tk,Sv tx,Iv tn,Iv tf] 105)).cell? ⟨w1.heap.size,1,none⟩=some (Sv tx):=by rw[Ja hN];rfl
 simp only[zW]at pc;have HA:=Zh hA;have F7:=Zh yA
 by_cases V7:tk=kd
 ·subst V7;have d1:(tk==tk)=true:=zp
  by_cases hts:tx=s
  ·subst hts;have d2:(tx==tx)=true:=zp
   have HF:Hi (PAt ((w1.alloc (.cells #[Iv tk,Sv tx,Iv tn,Iv tf] 105)).setCell ⟨p,1,none⟩ (Iv ((k+1:Nat):Int))) p A C T (k+1)):=F7.o.next (hm.o rfl);go_wp2;rw[xA.o];exact .inl ⟨by first|trivial|rfl,by first|trivial|rfl,rfl,HF.o,(Chg.of_below HA.o [p]).setCell (.inl zp) _⟩
  ·have d2:(tx==s)=false:=zzq hts;have HT:=Zh hts;go_wp2;rw[xA.o];exact .inr ⟨λh=>HT.o h.2,rfl,HA.o⟩
 ·have d1:(tk==kd)=false:=zzq V7;have HT:=Zh V7;go_wp2;rw[xA.o];exact .inr ⟨λh=>HT.o h.1,rfl,HA.o⟩
def QlW(w:World)(o:Int)(e:Ending)(w':World):Prop:=e=.returned (.agg #[Iv 2,Iv o])/\Below w.heap.size w w'
def Kr(p:Nat)(A:Option Addr)(C:Nat)(T:List Tok)(k:Nat)(w:World)(h:PAt w p A C T k):Calls prog 70 #[Pt p] w (QlW w (hd (T.drop k)).off):=by
 have hZ:=zzw w (.cells #[Iv 0,Iv 0] 69);have hB:=(Below.refl w.heap.size w).alloc zzl (.cells #[Iv 0,Iv 0] 69);have cp:=Kc p A C T k _ (h.chg hB);unfold QhL at cp;generalize hd (T.drop k)=t at*;obtain⟨tk,tx,tn,tf⟩:=t;unfold Qdw at cp;simp only at cp |-;have HZ:=Zh hZ;have HB:=Zh hB;have hfl:∀W:World,(Instr.field 105 (.agg #[Iv tk,Sv tx,Iv tn,Iv tf]) 3).run prog W=.ok (Iv tf) W:=λW=>by kernel_rfl
 go_enter func70,ntmps70;go_wp2_with fail;refine cp.mono ?_;rintro e w1 ⟨rfl,U0⟩;have xA:=(U0.block _ (Jb HZ.o)).trans HZ.o;have c0:w1.cell? ⟨w.heap.size,0,none⟩=some (Iv 0):=by rw[Ja xA];rfl
 have c1:w1.cell? ⟨w.heap.size,1,none⟩=some (Iv 0):=by rw[Ja xA];rfl
 have f0:=Jc xA 0;have f1:=Jc xA 1;have H1:=Zh xA;have yA:=Zh (HB.o.trans (U0.mono HB.o.size));go_wp2;refine bodyPost_ret (results_cell_row rfl _ _ w.heap.size 69 #[Iv 2,Iv tf] (0,0) _ rfl (heap_setCell_same _ _ 1 _ _ _ (heap_setCell_same _ _ 0 _ _ _ H1.o)) underlying69 rfl Qjm) rfl ⟨rfl,(yA.o.setCell zzl _).setCell zzl _⟩
def Qgx(p:Nat)(A:Option Addr)(C:Nat)(T:List Tok)(k:Nat)(kd:Int)(s:By)(w:World)(e:Ending)(w':World):Prop:=
 ((hd (T.drop k)).kind=kd/\(hd (T.drop k)).text=s/\e=.returned (.tuple #[])/\PAt w' p A C T (k+1)/\Chg [p] w w')\/
 (¬((hd (T.drop k)).kind=kd/\(hd (T.drop k)).text=s)/\QkL p w (hd (T.drop k)).off e w')
def Qnx{P:Prop}(h:P:=by
  have E5:=HP.o.chg A0;clear g1 ca HP A0;go_wp2_with fail;refine(cw _ E5).mono ?_;rintro e w2 ⟨rfl,I0⟩;go_wp2;refine⟨rfl,?_⟩;rw[HR.o]
  exact .inr ⟨HF.o.1,rfl,Chg.of_below (HF.o.2.trans (I0.mono HF.o.2.size)) [p]⟩):P:=h
def Qlb{P:Prop}(h:P:=by
  clear g1 g2 E5 hc1 ca cw HP;go_wp2;go_end0;rw[HR.o]
  exact .inl ⟨HF.o.1.1,HF.o.1.2,rfl,HF.o.2⟩):P:=h
def JgF(p:Nat)(A:Option Addr)(C:Nat)(T:List Tok)(k:Nat)(s:By)(w:World)(h:PAt w p A C T k):Calls prog 66 #[Pt p,Sv s] w (Qgx p A C T k 0 s w):=by
 have ca:=Jq p A C T k 0 s w h zd;have cw:=λW hW=>Kr p A C T k W hW
 have HP:=Zh h
 have HR:Hi (∀e w',Qgx p A C T k 0 s w e w'=(((hd (T.drop k)).kind=0/\(hd (T.drop k)).text=s/\e=.returned (.tuple #[])/\PAt w' p A C T (k+1)/\Chg [p] w w')\/
 (¬((hd (T.drop k)).kind=0/\(hd (T.drop k)).text=s)/\QkL p w (hd (T.drop k)).off e w'))):=λ_ _=>rfl
 generalize Qgx p A C T k 0 s w=R at*;clear h;go_enter func66,ntmps66;go_wp2_with fail;refine ca.mono ?_;rintro e w1 h1
 rcases h1 with⟨g1,g2,rfl,E5,hc1⟩|⟨g1,rfl,A0⟩
 ·have HF:Hi (((hd (T.drop k)).kind=0/\(hd (T.drop k)).text=s)/\PAt w1 p A C T (k+1)/\Chg [p] w w1):=⟨⟨g1,g2⟩,E5,hc1⟩
  exact Qlb
 ·have HF:Hi (¬((hd (T.drop k)).kind=0/\(hd (T.drop k)).text=s)/\Below w.heap.size w w1):=⟨g1,A0⟩
  exact Qnx
def QhQ{P:Prop}(h:P:=by
  go_enter func93,ntmps93;go_wp2;go_ret2
  exact⟨rfl,rfl⟩):P:=h
def Ye(s:By)(w:World):Calls prog 93 #[Sv s] w (Qbj (.tuple #[Iv ((QaA s).getD 0),.bool (QaA s).isSome]) w):=by
 have u1:=Jk s
 by_cases h0:s=[108,105,107,101,115]
 ·have e0:(s==[108,105,107,101,115])=true:=beq_iff_eq.2 h0;have HR:QaA s=some 0:=by rw[h0];decide
  rw[HR];clear HR h0;exact QhQ
 have e0:(s==[108,105,107,101,115])=false:=zzq h0
 by_cases h1:s=[98,111,111,115,116,115]
 ·have e1:(s==[98,111,111,115,116,115])=true:=beq_iff_eq.2 h1;have HR:QaA s=some 0:=by rw[h1];decide
  rw[HR];clear HR h0 h1;exact QhQ
 have e1:(s==[98,111,111,115,116,115])=false:=zzq h1
 by_cases h2:s=[114,101,112,108,105,101,115]
 ·have e2:(s==[114,101,112,108,105,101,115])=true:=beq_iff_eq.2 h2;have HR:QaA s=some 0:=by rw[h2];decide
  rw[HR];clear HR h0 h1 h2;exact QhQ
 have e2:(s==[114,101,112,108,105,101,115])=false:=zzq h2
 by_cases h3:s=[114,101,112,111,114,116,115]
 ·have e3:(s==[114,101,112,111,114,116,115])=true:=beq_iff_eq.2 h3;have HR:QaA s=some 0:=by rw[h3];decide
  rw[HR];clear HR h0 h1 h2 h3;exact QhQ
 have e3:(s==[114,101,112,111,114,116,115])=false:=zzq h3
 by_cases h4:s=[97,103,101]
 ·have e4:(s==[97,103,101])=true:=beq_iff_eq.2 h4;have HR:QaA s=some 0:=by rw[h4];decide
  rw[HR];clear HR h0 h1 h2 h3 h4;exact QhQ
 have e4:(s==[97,103,101])=false:=zzq h4
 by_cases h5:s=[104,111,109,101]
 ·have e5:(s==[104,111,109,101])=true:=beq_iff_eq.2 h5;have HR:QaA s=some 0:=by rw[h5];decide
  rw[HR];clear HR h0 h1 h2 h3 h4 h5;exact QhQ
 have e5:(s==[104,111,109,101])=false:=zzq h5
 by_cases h6:s=[115,99,111,112,101]
 ·have e6:(s==[115,99,111,112,101])=true:=beq_iff_eq.2 h6;have HR:QaA s=some 0:=by rw[h6];decide
  rw[HR];clear HR h0 h1 h2 h3 h4 h5 h6;exact QhQ
 have e6:(s==[115,99,111,112,101])=false:=zzq h6
 by_cases h7:s=[108,101,110,103,116,104]
 ·have e7:(s==[108,101,110,103,116,104])=true:=beq_iff_eq.2 h7;have HR:QaA s=some 0:=by rw[h7];decide
  rw[HR];clear HR h0 h1 h2 h3 h4 h5 h6 h7;exact QhQ
 have e7:(s==[108,101,110,103,116,104])=false:=zzq h7
 by_cases h8:s=[102,111,108,108,111,119,115]
 ·have e8:(s==[102,111,108,108,111,119,115])=true:=beq_iff_eq.2 h8;have HR:QaA s=some 1:=by rw[h8];decide
  rw[HR];clear HR h0 h1 h2 h3 h4 h5 h6 h7 h8;exact QhQ
 have e8:(s==[102,111,108,108,111,119,115])=false:=zzq h8
 by_cases h9:s=[114,101,112,108,121]
 ·have e9:(s==[114,101,112,108,121])=true:=beq_iff_eq.2 h9;have HR:QaA s=some 1:=by rw[h9];decide
  rw[HR];clear HR h0 h1 h2 h3 h4 h5 h6 h7 h8 h9;exact QhQ
 have e9:(s==[114,101,112,108,121])=false:=zzq h9
 have HR:QaA s=none:=by
  unfold QaA;rw[if_neg (by simp only[mem_cons,List.not_mem_nil,not_or,or_false,Qcq,Qcx,QbP,QbO,QiV,QeM,Qdo,Qcw];exact⟨h0,h1,h2,h3,h4,h5,h6,h7⟩),if_neg (by simp only[mem_cons,List.not_mem_nil,not_or,or_false,QbQ,QfO];exact⟨h8,h9⟩)]
 rw[HR];clear HR h0 h1 h2 h3 h4 h5 h6 h7 h8 h9;exact QhQ
def QeJ{P:Prop}(h:P:=by
  go_enter func94,ntmps94;go_wp2;go_ret
  exact⟨rfl,rfl⟩):P:=h
def QkV{P:Prop}(h:P:=by
  rw[HR];clear HR h0 h1 h2 h3 h4 h5 h6 h7 h8 h9 V3 h11 h12 O6 H7 Q6 N8 A8 F5 N2 O2
  exact QeJ):P:=h
def JbO(s:By)(w:World):Calls prog 94 #[Sv s] w (Qbj (.bool (Qai s)) w):=by
 have u1:=Jk s
 by_cases h0:s=[97,110,100]
 ·have e0:(s==[97,110,100])=true:=beq_iff_eq.2 h0;have HR:Qai s=true:=by rw[h0];decide
  rw[HR];clear HR h0;exact QeJ
 have e0:(s==[97,110,100])=false:=zzq h0
 by_cases h1:s=[98,111,111,108]
 ·have e1:(s==[98,111,111,108])=true:=beq_iff_eq.2 h1;have HR:Qai s=true:=by rw[h1];decide
  rw[HR];clear HR h0 h1;exact QeJ
 have e1:(s==[98,111,111,108])=false:=zzq h1
 by_cases h2:s=[100,101,102]
 ·have e2:(s==[100,101,102])=true:=beq_iff_eq.2 h2;have HR:Qai s=true:=by rw[h2];decide
  rw[HR];clear HR h0 h1 h2;exact QeJ
 have e2:(s==[100,101,102])=false:=zzq h2
 by_cases h3:s=[100,101,102,97,117,108,116]
 ·have e3:(s==[100,101,102,97,117,108,116])=true:=beq_iff_eq.2 h3;have HR:Qai s=true:=by rw[h3];decide
  rw[HR];clear HR h0 h1 h2 h3;exact QeJ
 have e3:(s==[100,101,102,97,117,108,116])=false:=zzq h3
 by_cases h4:s=[101,108,115,101]
 ·have e4:(s==[101,108,115,101])=true:=beq_iff_eq.2 h4;have HR:Qai s=true:=by rw[h4];decide
  rw[HR];clear HR h0 h1 h2 h3 h4;exact QeJ
 have e4:(s==[101,108,115,101])=false:=zzq h4
 by_cases h5:s=[102,97,108,115,101]
 ·have e5:(s==[102,97,108,115,101])=true:=beq_iff_eq.2 h5;have HR:Qai s=true:=by rw[h5];decide
  rw[HR];clear HR h0 h1 h2 h3 h4 h5;exact QeJ
 have e5:(s==[102,97,108,115,101])=false:=zzq h5
 by_cases h6:s=[104,105,100,101]
 ·have e6:(s==[104,105,100,101])=true:=beq_iff_eq.2 h6;have HR:Qai s=true:=by rw[h6];decide
  rw[HR];clear HR h0 h1 h2 h3 h4 h5 h6;exact QeJ
 have e6:(s==[104,105,100,101])=false:=zzq h6
 by_cases h7:s=[105,102]
 ·have e7:(s==[105,102])=true:=beq_iff_eq.2 h7;have HR:Qai s=true:=by rw[h7];decide
  rw[HR];clear HR h0 h1 h2 h3 h4 h5 h6 h7;exact QeJ
 have e7:(s==[105,102])=false:=zzq h7
 by_cases h8:s=[105,110]
 ·have e8:(s==[105,110])=true:=beq_iff_eq.2 h8;have HR:Qai s=true:=by rw[h8];decide
  rw[HR];clear HR h0 h1 h2 h3 h4 h5 h6 h7 h8;exact QeJ
 have e8:(s==[105,110])=false:=zzq h8
 by_cases h9:s=[105,110,116]
 ·have e9:(s==[105,110,116])=true:=beq_iff_eq.2 h9;have HR:Qai s=true:=by rw[h9];decide
  rw[HR];clear HR h0 h1 h2 h3 h4 h5 h6 h7 h8 h9;exact QeJ
 have e9:(s==[105,110,116])=false:=zzq h9
 by_cases V3:s=[108,97,98,101,108]
 ·have bA:(s==[108,97,98,101,108])=true:=beq_iff_eq.2 V3;have HR:Qai s=true:=by rw[V3];decide
  rw[HR];clear HR h0 h1 h2 h3 h4 h5 h6 h7 h8 h9 V3;exact QeJ
 have bA:(s==[108,97,98,101,108])=false:=zzq V3
 by_cases h11:s=[108,101,116]
 ·have xA:(s==[108,101,116])=true:=beq_iff_eq.2 h11;have HR:Qai s=true:=by rw[h11];decide
  rw[HR];clear HR h0 h1 h2 h3 h4 h5 h6 h7 h8 h9 V3 h11;exact QeJ
 have xA:(s==[108,101,116])=false:=zzq h11
 by_cases h12:s=[108,105,109,105,116]
 ·have gA:(s==[108,105,109,105,116])=true:=beq_iff_eq.2 h12;have HR:Qai s=true:=by rw[h12];decide
  rw[HR];clear HR h0 h1 h2 h3 h4 h5 h6 h7 h8 h9 V3 h11 h12;exact QeJ
 have gA:(s==[108,105,109,105,116])=false:=zzq h12
 by_cases O6:s=[109,101,100,105,97]
 ·have aA:(s==[109,101,100,105,97])=true:=beq_iff_eq.2 O6;have HR:Qai s=true:=by rw[O6];decide
  rw[HR];clear HR h0 h1 h2 h3 h4 h5 h6 h7 h8 h9 V3 h11 h12 O6;exact QeJ
 have aA:(s==[109,101,100,105,97])=false:=zzq O6
 by_cases H7:s=[110,111,116]
 ·have yA:(s==[110,111,116])=true:=beq_iff_eq.2 H7;have HR:Qai s=true:=by rw[H7];decide
  rw[HR];clear HR h0 h1 h2 h3 h4 h5 h6 h7 h8 h9 V3 h11 h12 O6 H7;exact QeJ
 have yA:(s==[110,111,116])=false:=zzq H7
 by_cases Q6:s=[111,114]
 ·have uA:(s==[111,114])=true:=beq_iff_eq.2 Q6;have HR:Qai s=true:=by rw[Q6];decide
  rw[HR];clear HR h0 h1 h2 h3 h4 h5 h6 h7 h8 h9 V3 h11 h12 O6 H7 Q6;exact QeJ
 have uA:(s==[111,114])=false:=zzq Q6
 by_cases N8:s=[115,104,111,119]
 ·have vA:(s==[115,104,111,119])=true:=beq_iff_eq.2 N8;have HR:Qai s=true:=by rw[N8];decide
  rw[HR];clear HR h0 h1 h2 h3 h4 h5 h6 h7 h8 h9 V3 h11 h12 O6 H7 Q6 N8;exact QeJ
 have vA:(s==[115,104,111,119])=false:=zzq N8
 by_cases A8:s=[116,104,101,110]
 ·have eA:(s==[116,104,101,110])=true:=beq_iff_eq.2 A8;have HR:Qai s=true:=by rw[A8];decide
  rw[HR];clear HR h0 h1 h2 h3 h4 h5 h6 h7 h8 h9 V3 h11 h12 O6 H7 Q6 N8 A8;exact QeJ
 have eA:(s==[116,104,101,110])=false:=zzq A8
 by_cases F5:s=[116,114,117,101]
 ·have zA:(s==[116,114,117,101])=true:=beq_iff_eq.2 F5;have HR:Qai s=true:=by rw[F5];decide
  rw[HR];clear HR h0 h1 h2 h3 h4 h5 h6 h7 h8 h9 V3 h11 h12 O6 H7 Q6 N8 A8 F5;exact QeJ
 have zA:(s==[116,114,117,101])=false:=zzq F5
 by_cases N2:s=[119,104,101,110]
 ·have cA:(s==[119,104,101,110])=true:=beq_iff_eq.2 N2;have HR:Qai s=true:=by rw[N2];decide
  rw[HR];clear HR h0 h1 h2 h3 h4 h5 h6 h7 h8 h9 V3 h11 h12 O6 H7 Q6 N8 A8 F5 N2;exact QeJ
 have cA:(s==[119,104,101,110])=false:=zzq N2
 by_cases O2:s=[119,111,114,100]
 ·have dA:(s==[119,111,114,100])=true:=beq_iff_eq.2 O2;have HR:Qai s=true:=by rw[O2];decide
  exact QkV
 have dA:(s==[119,111,114,100])=false:=zzq O2;have HR:Qai s=false:=by unfold Qai;exact zF (by simp only[mem_cons,List.not_mem_nil,not_or,or_false,QlN,Qgm,QlM,QdC,Qiv,QgP,Qgl,kIf,kIn,Qkg,QgO,Qkf,Qev,Qeu,QkO,kOr,Qgk,QfB,Qjj,Qiu,Qji];exact⟨h0,h1,h2,h3,h4,h5,h6,h7,h8,h9,V3,h11,h12,O6,H7,Q6,N8,A8,F5,N2,O2⟩)
 exact QkV
def Jix(m:Nat)(c:UInt8)(hc:c.toNat=m):QcQ c=true↔(97<=m/\m<=122)\/(48<=m/\m<=57)\/m=95:=by
 subst hc;unfold QcQ Qdg QeL;simp only[Bool.or_eq_true,Bool.and_eq_true,decide_eq_true_eq,beq_iff_eq]
 constructor
 ·rintro ((h|h)|h)
  ·exact .inl h
  ·exact .inr (.inl h)
  ·subst h;exact .inr (.inr rfl)
 ·rintro (h|h|h)
  ·exact .inl (.inl h)
  ·exact .inl (.inr h)
  ·exact .inr (UInt8.toNat_inj.1 h)
def JdA(c:UInt8)(r:By):Qbd (c::r)=(decide ((c::r).length<=24)&&Qdg c&&(c::r).all QcQ&&(QaA (c::r)).isNone&&!Qai (c::r)):=rfl
def JcD{p:UInt8->Bool}{s:By}{k:Nat}{c:UInt8}(h:(s.take k).all p=true)(hc:s[k]?=some c)(hp:p c=true):(s.take (k+1)).all p=true:=by
 rw[List.take_add_one,hc,List.all_append,h];simp[hp]
def JeA{p:UInt8->Bool}{s:By}{k:Nat}{c:UInt8}(hc:s[k]?=some c)(hp:p c=false):s.all p=false:=by
 cases h:s.all p with
 |false=>rfl
 |true=>
  have:=List.all_eq_true.1 h c (List.mem_of_getElem? hc);rw[hp]at this
  cases this
def JbP(m:Nat)(c:UInt8)(hc:c.toNat=m):Qdg c=true↔97<=m/\m<=122:=by
 subst hc;unfold Qdg;simp
def Qmk{P:Prop}(h:P:=by
  go_wp2;go_round
  case rel=>exact⟨k+1,by go_num,hkn,RA⟩
  case measure=>simp[intOf];omega):P:=h
def QkS{P:Prop}(h:P:=by
  go_enter func47,ntmps47;go_wp2;go_ret
  exact⟨rfl,rfl⟩):P:=h
def Jat(s:By)(w:World)(hs:s.length<=1000000):Calls prog 47 #[Sv s] w (Qbj (.bool (Qbd s)) w):=by
 have u1:=Jk s;have z1:=JP s;have cf:=λW=>Ye s W
 have ck:=λW=>JbO s W
 cases s with
 |nil=>
  have e0:(([]:By)==[])=true:=rfl;exact QkS
 |cons c0 r0=>
 have hI:=JdA c0 r0;have vA:(c0::r0)[0]?=some c0:=rfl;have e0:((c0::r0)==[])=false:=rfl;have sA:(c0::r0).isEmpty=false:=rfl;have uA:0<(c0::r0).length:=zp
 generalize c0::r0=s at*;obtain⟨m0,j5⟩:∃m,c0.toNat=m:=⟨_,rfl⟩
 have tA:∀h,((bs s)[0]'h).toNat=m0:=λh=>by
  obtain⟨_,h2⟩:=List.getElem?_eq_some_iff.1 vA;rw[<-j5,<-h2];rfl
 obtain⟨n,hn⟩:∃n,s.length=n:=⟨_,rfl⟩
 obtain⟨q,hq⟩:∃q,Qbd s=q:=⟨_,rfl⟩
 have i6:0<n:=by rw[<-hn];exact uA
 have gA:m0<256:=by rw[<-j5];exact c0.toNat_lt
 rw[hq]at hI |-;rw[hn]at hI z1 hs;clear hq uA
 by_cases R6:n<=24
 ·have d1:decide (24<(n:Int))=false:=zF zo;have kA:decide (24<n)=false:=zF zo
  by_cases hlo:97<=m0
  ·have d2:decide ((m0:Int)<97)=false:=zF zo;have iA:decide (m0<97)=false:=zF zo
   by_cases I7:m0<=122
   ·have d3:decide (122<(m0:Int))=false:=zF zo;have jA:decide (122<m0)=false:=zF zo;have hle:Qdg c0=true:=(JbP m0 c0 j5).2 ⟨hlo,I7⟩;rw[hle,zE R6]at hI;simp only[Bool.true_and]at hI;have HI:=Zh hI;have HN:=Zh hn;have qA:=Zh R6;clear hI hle hlo I7 j5 vA hs;go_enter func47,ntmps47;go_wp2;go_loop [26] (λv=>∃k:Nat,v=Iv k/\k<=n/\Hi ((s.take k).all QcQ=true)) λv=>n-(intOf v).toNat
    case atStart=>exact⟨0,rfl,Nat.zero_le _,by unfold Hi;rfl⟩
    case round=>
     obtain⟨k,rfl,hk,hz⟩:=hrel;have wk:IntKind.i64.wrap ((k:Int)+1)=(k:Int)+1:=IntWalk.i64_in _ (zt qA.o)
     by_cases hkn:k<n
     ·have dk:decide ((k:Int)<(n:Int))=true:=zE zo;have nA:decide (k<n)=true:=zE hkn;have bk:(k:Int)<(n:Int):=zo
      obtain⟨c,hc⟩:∃c,s[k]?=some c:=⟨_,List.getElem?_eq_getElem (zt HN.o)⟩
      obtain⟨m,hm⟩:∃m,c.toNat=m:=⟨_,rfl⟩
      have eA:m<256:=by rw[<-hm];exact c.toNat_lt
      have hg:∀h,((bs s)[k]'h).toNat=m:=λh=>by
       obtain⟨_,h2⟩:=List.getElem?_eq_some_iff.1 hc;rw[<-hm,<-h2];rfl
      have hw:=Jix m c hm
      by_cases hwo:(97<=m/\m<=122)\/(48<=m/\m<=57)\/m=95
      ·have RA:=Zh (JcD hz.o hc (hw.2 hwo));clear hz hc hm hw
       rcases hwo with⟨g1,g2⟩|⟨g1,g2⟩|g1
       ·have a1:decide ((m:Int)<97)=false:=zF zo;have zA:decide (m<97)=false:=zF zo;have a2:decide (122<(m:Int))=false:=zF zo;have mA:decide (122<m)=false:=zF zo;clear g1 g2;exact Qmk
       ·have a1:decide ((m:Int)<97)=true:=zE zo;have zA:decide (m<97)=true:=zE zo;have b1:decide ((m:Int)<48)=false:=zF zo;have aA:decide (m<48)=false:=zF zo;have b2:decide (57<(m:Int))=false:=zF zo;have cA:decide (57<m)=false:=zF zo;clear g1 g2;exact Qmk
       ·have a1:decide ((m:Int)<97)=true:=zE zo;have zA:decide (m<97)=true:=zE zo;have b1:decide ((m:Int)<48)=false:=zF zo;have aA:decide (m<48)=false:=zF zo;have b2:decide (57<(m:Int))=true:=zE zo;have cA:decide (57<m)=true:=zE zo;have e1:((m:Int)==95)=true:=beq_iff_eq.2 zo;have bA:(m==95)=true:=beq_iff_eq.2 zo;clear g1;exact Qmk
      ·have hb:QcQ c=false:=by cases h:QcQ c with|false=>rfl|true=>exact absurd (hw.1 h) hwo
       have O0:q=false:=by rw[HI.o,JeA hc hb];rfl
       subst O0;clear hz hc hm hw hb HI cf ck
       by_cases l1:m<48
       ·have a1:decide ((m:Int)<97)=true:=zE zo;have zA:decide (m<97)=true:=zE zo;have b1:decide ((m:Int)<48)=true:=zE zo;have aA:decide (m<48)=true:=zE zo;have e1:((m:Int)==95)=false:=zzq zo;have bA:(m==95)=false:=zzq zo;clear l1;clear hwo;go_wp2;go_ret;exact⟨rfl,rfl⟩
       by_cases l2:m<97
       ·have rA:m≠95:=λh=>hwo (.inr (.inr h))
        have pA:57<m:=by have:=λh=>hwo (.inr (.inl h));omega
        have a1:decide ((m:Int)<97)=true:=zE zo;have zA:decide (m<97)=true:=zE zo;have b1:decide ((m:Int)<48)=false:=zF zo;have aA:decide (m<48)=false:=zF zo;have b2:decide (57<(m:Int))=true:=zE zo;have cA:decide (57<m)=true:=zE zo;have e1:((m:Int)==95)=false:=zzq zo;have bA:(m==95)=false:=zzq zo;clear l1 l2 rA pA;clear hwo;go_wp2;go_ret;exact⟨rfl,rfl⟩
       have dA:122<m:=by have:=λh=>hwo (.inl h);omega
       have a1:decide ((m:Int)<97)=false:=zF zo;have zA:decide (m<97)=false:=zF zo;have a2:decide (122<(m:Int))=true:=zE zo;have mA:decide (122<m)=true:=zE zo;have b1:decide ((m:Int)<48)=false:=zF zo;have aA:decide (m<48)=false:=zF zo;have b2:decide (57<(m:Int))=true:=zE zo;have cA:decide (57<m)=true:=zE zo;have e1:((m:Int)==95)=false:=zzq zo;have bA:(m==95)=false:=zzq zo;clear l1 l2 dA;clear hwo;go_wp2;go_ret;exact⟨rfl,rfl⟩
     ·have dk:decide ((k:Int)<(n:Int))=false:=zF zo;have nA:decide (k<n)=false:=zF hkn
      have yA:s.all QcQ=true:=by
       have:=hz.o
       rwa [List.take_of_length_le (zt HN.o)]at this
      have xA:=HI.o;rw[yA]at xA;simp only[Bool.true_and]at xA
      cases hf:QaA s with
      |some v=>
       rw[hf]at cf xA;have O0:q=false:=xA;subst O0;clear hz yA xA HI hf ck;simp only[Option.getD,Option.isSome]at cf;go_wp2_with fail;refine(cf _).mono ?_;rintro e w1 ⟨rfl,rfl⟩;go_wp2;go_ret;exact⟨rfl,rfl⟩
      |none=>
       rw[hf]at cf xA;simp only[Option.getD,Option.isSome]at cf;obtain⟨kb,hA⟩:∃kb,Qai s=kb:=⟨_,rfl⟩
       rw[hA]at ck xA;have O0:q=!kb:=xA;subst O0;clear hz yA xA HI hf hA;go_wp2_with fail;refine(cf _).mono ?_;rintro e w1 ⟨rfl,rfl⟩;go_wp2_with fail;refine(ck _).mono ?_;rintro e w1 ⟨rfl,rfl⟩;go_wp2;go_ret;exact⟨rfl,rfl⟩
   ·have d3:decide (122<(m0:Int))=true:=zE zo;have jA:decide (122<m0)=true:=zE zo;have hle:Qdg c0=false:=by cases h:Qdg c0 with|false=>rfl|true=>exact absurd ((JbP m0 c0 j5).1 h).2 I7
    have O0:q=false:=by rw[hI,hle];simp
    subst O0;clear hI hle cf ck hlo I7 vA;exact QkS
  ·have d2:decide ((m0:Int)<97)=true:=zE zo;have iA:decide (m0<97)=true:=zE zo;have hle:Qdg c0=false:=by cases h:Qdg c0 with|false=>rfl|true=>exact absurd ((JbP m0 c0 j5).1 h).1 hlo
   have O0:q=false:=by rw[hI,hle];simp
   subst O0;clear hI hle cf ck hlo vA;exact QkS
 ·have d1:decide (24<(n:Int))=true:=zE zo;have kA:decide (24<n)=true:=zE zo;have O0:q=false:=by rw[hI,zF R6];simp
  subst O0;clear hI cf ck R6 vA;exact QkS
def OkP(p:Nat)(A:Option Addr)(C:Nat)(T:List Tok)(w:World)(v:Value)(r:List Tok)(e:Ending)(w':World):Prop:=
 e=.returned v/\(∃k',r=T.drop k'/\PAt w' p A C T k')/\Chg [p] w w'
def PRp{α:Type}(p:Nat)(A:Option Addr)(C:Nat)(T:List Tok)(w:World)(f:α->Value)(x:PR α)(e:Ending)(w':World):Prop:=
 match x with
 |.out=>True
 |.bad o=>QkL p w o e w'
 |.ok a r=>OkP p A C T w (f a) r e w'
def JI{kd:Int}{s:By}{T:List Tok}{k:Nat}(h1:(hd (T.drop k)).kind=kd)(h2:(hd (T.drop k)).text=s):acc kd s (T.drop k)=some (T.drop (k+1)):=by
 unfold acc;rw[if_pos ⟨h1,h2⟩,tail_drop]
def J3{kd:Int}{s:By}{r:List Tok}(h:¬((hd r).kind=kd/\(hd r).text=s)):acc kd s r=none:=if_neg h
def JeB{p:Nat}{A:Option Addr}{C:Nat}{T:List Tok}{k:Nat}{kd:Int}{s:By}{w:World}{e:Ending}{w':World}(h:Qgx p A C T k kd s w e w'):PRp p A C T w (λ_=>.tuple #[]) (Qam kd s (T.drop k)) e w':=by
 unfold Qam
 rcases h with⟨h1,h2,h3,h4,h5⟩|⟨h1,h2⟩
 ·rw[JI h1 h2];exact⟨h3,⟨k+1,rfl,h4⟩,h5⟩
 ·rw[J3 h1];exact h2
def JgG(p:Nat)(A:Option Addr)(C:Nat)(T:List Tok)(k:Nat)(s:By)(w:World)(h:PAt w p A C T k):Calls prog 103 #[Pt p,Sv s] w (Qgx p A C T k 3 s w):=by
 have ca:=Jq p A C T k 3 s w h zd;have cw:=λW hW=>Kr p A C T k W hW
 have HP:=Zh h
 have HR:Hi (∀e w',Qgx p A C T k 3 s w e w'=(((hd (T.drop k)).kind=3/\(hd (T.drop k)).text=s/\e=.returned (.tuple #[])/\PAt w' p A C T (k+1)/\Chg [p] w w')\/
 (¬((hd (T.drop k)).kind=3/\(hd (T.drop k)).text=s)/\QkL p w (hd (T.drop k)).off e w'))):=λ_ _=>rfl
 generalize Qgx p A C T k 3 s w=R at*;clear h;go_enter func103,ntmps103;go_wp2_with fail;refine ca.mono ?_;rintro e w1 h1
 rcases h1 with⟨g1,g2,rfl,E5,hc1⟩|⟨g1,rfl,A0⟩
 ·have HF:Hi (((hd (T.drop k)).kind=3/\(hd (T.drop k)).text=s)/\PAt w1 p A C T (k+1)/\Chg [p] w w1):=⟨⟨g1,g2⟩,E5,hc1⟩
  exact Qlb
 ·have HF:Hi (¬((hd (T.drop k)).kind=3/\(hd (T.drop k)).text=s)/\Below w.heap.size w w1):=⟨g1,A0⟩
  exact Qnx
def QhU(p:Nat)(A:Option Addr)(C:Nat)(T:List Tok)(k:Nat)(s:By)(w:World)(h:PAt w p A C T k):Calls prog 66 #[Pt p,Sv s] w (PRp p A C T w (λ_=>.tuple #[]) (Qam 0 s (T.drop k))):=(JgF p A C T k s w h).mono λ_ _=>JeB
def Qed(p:Nat)(A:Option Addr)(C:Nat)(T:List Tok)(k:Nat)(s:By)(w:World)(h:PAt w p A C T k):Calls prog 103 #[Pt p,Sv s] w (PRp p A C T w (λ_=>.tuple #[]) (Qam 3 s (T.drop k))):=(JgG p A C T k s w h).mono λ_ _=>JeB
def PAt.setFar{W:World}{p q:Nat}{A:Option Addr}{C:Nat}{T:List Tok}{k:Nat}(h:PAt W p A C T k)(h1:q≠p)(h2:∀b o,A=some ⟨b,o,none⟩->q≠b)(j:Nat)(u:Value):PAt (W.setCell ⟨q,j,none⟩ u) p A C T k:=by
 obtain⟨b,o,e,xA,ht⟩:=h.toks;refine⟨Jh h.self (Ne.symm h1) u,⟨b,o,e,xA,λi t hi j' u' hu=>?_⟩,h.lt,h.fin,h.room⟩;exact(World.cell?_setCell_far W ⟨q,j,none⟩ _ u (by simp;exact λe'=>h2 b o e e')).trans (ht i t hi j' u' hu)
def PAt.tokLt{W:World}{p:Nat}{A:Option Addr}{C:Nat}{T:List Tok}{k:Nat}(h:PAt W p A C T k):∀b o,A=some ⟨b,o,none⟩->b<W.heap.size:=by
 intro b o e;obtain⟨b',o',e',_,t0,_⟩:=h.cells;rw[e]at e';simp only[Option.some.injEq,Addr.mk.injEq]at e';obtain⟨rfl,rfl,_⟩:=e';obtain⟨b2,o2,e2,xA,ht⟩:=h.toks;rw[e]at e2;simp only[Option.some.injEq,Addr.mk.injEq]at e2;obtain⟨rfl,rfl,_⟩:=e2;exact World.block_lt_of_cell? W _ (ht k _ (Z3 h.lt) 0 _ rfl)
def Z4{W:World}{p q i j:Nat}{u v:Value}(h:q≠p)(hc:W.cell? ⟨q,j,none⟩=some v):(W.setCell ⟨p,i,none⟩ u).cell? ⟨q,j,none⟩=some v:=(World.cell?_setCell_far W ⟨p,i,none⟩ ⟨q,j,none⟩ u (Ne.symm h)).trans hc
def Qna{w:World}{T t:Nat}{a0 a1:Value}(v0 v1:Value)(h:w.heap[T]?=some (.cells #[a0,a1] t (0,0))):
  ((w.setCell ⟨T,0,none⟩ v0).setCell ⟨T,1,none⟩ v1).heap[T]?=some (.cells #[v0,v1] t (0,0)):=heap_setCell_same _ _ 1 _ _ v1 (heap_setCell_same _ _ 0 _ _ v0 h)
def Qiy:(prog.info? 115).map (·.size)=some 2:=zk
def QmE{P:Prop}(h:P:=by
  go_wp2_with fail;refine(cw _ F7.o).mono ?_;rintro e w2 ⟨rfl,I0⟩;go_wp2;refine⟨rfl,?_⟩;rw[HR.o,if_neg HT.o]
  exact⟨rfl,Chg.of_below (HA.o.trans (I0.mono HA.o.size)) [p]⟩):P:=h
def Jau(p:Nat)(A:Option Addr)(C:Nat)(T:List Tok)(k:Nat)(w:World)(h:PAt w p A C T k):Calls prog 68 #[Pt p] w (PRp p A C T w (λs=>Sv s) (QcH (T.drop k))):=by
 have cp:=Kc p A C T k w h;have cw:=λW hW=>Kr p A C T k W hW
 unfold QhL at cp;have HP:=Zh h;have hm:Hi ((hd (T.drop k)).kind=2->k+1<T.length):=λe=>h.more (by rw[e];decide)
 have HR:Hi (∀e w',PRp p A C T w (λs=>Sv s) (QcH (T.drop k)) e w'=PRp p A C T w (λs=>Sv s) (if (hd (T.drop k)).kind=2 then .ok (hd (T.drop k)).text (T.drop (k+1)) else .bad (hd (T.drop k)).off) e w'):=λe w'=>by unfold QcH;rw[tail_drop]
 generalize PRp p A C T w (λs=>Sv s) (QcH (T.drop k))=R at*;generalize hd (T.drop k)=t at*;obtain⟨tk,tx,tn,tf⟩:=t;unfold Qdw at cp;simp only at cp cw;go_enter func68,ntmps68;go_wp2_with fail;refine cp.mono ?_;rintro e w1 ⟨rfl,U0⟩;have hA:=U0.alloc U0.size (.cells #[Iv tk,Sv tx,Iv tn,Iv tf] 105);have xA:=HP.o.chg hA;have hN:=zzw w1 (.cells #[Iv tk,Sv tx,Iv tn,Iv tf] 105);have hk:k<=1000000:=by have:=xA.lt;have:=xA.room;omega
 have wk:=zI k;have pc:=Ja xA.self 1;have pf:=Jc xA.self 1;have c0:(w1.alloc (.cells #[Iv tk,Sv tx,Iv tn,Iv tf] 105)).cell? ⟨w1.heap.size,0,none⟩=some (Iv tk):=by rw[Ja hN];rfl
 have c1:(w1.alloc (.cells #[Iv tk,Sv tx,Iv tn,Iv tf] 105)).cell? ⟨w1.heap.size,1,none⟩=some (Sv tx):=by rw[Ja hN];rfl
 have c3:(w1.alloc (.cells #[Iv tk,Sv tx,Iv tn,Iv tf] 105)).cell? ⟨w1.heap.size,3,none⟩=some (Iv tf):=by rw[Ja hN];rfl
 simp only[zW]at pc;have yA:p≠w1.heap.size:=by have:=Jb HP.o.self;have:=U0.size;omega
 have HA:=Zh hA;have F7:=Zh xA;have HN:=Zh hN
 by_cases V7:tk=2
 ·have d1:(tk==2)=true:=beq_iff_eq.2 V7;have HF:Hi (PAt ((w1.alloc (.cells #[Iv tk,Sv tx,Iv tn,Iv tf] 105)).setCell ⟨p,1,none⟩ (Iv ((k+1:Nat):Int))) p A C T (k+1)):=F7.o.next (hm.o V7);have HT:=Zh V7;clear V7;go_wp2;rw[HR.o,if_pos HT.o];exact⟨rfl,⟨k+1,rfl,HF.o⟩,(Chg.of_below HA.o [p]).setCell (.inl zp) _⟩
 ·have d1:(tk==2)=false:=zzq V7;have HT:=Zh V7;clear V7;exact QmE
def QjG(nm:By×Int):Value:=.agg #[.string (bs nm.1),Iv nm.2]
def Vd(p:Nat)(A:Option Addr)(C:Nat)(T:List Tok)(k:Nat)(w:World)(h:PAt w p A C T k)(hx:∀t∈T,t.text.length<=1000000):Calls prog 102 #[Pt p] w (PRp p A C T w QjG (Qbl (T.drop k))):=by
 have hZ:=zzw w (.cells #[Em,Iv 0] 115);have hB:=(Below.refl w.heap.size w).alloc zzl (.cells #[Em,Iv 0] 115);have cp:=Kc p A C T k _ (h.chg hB);have cw:=λW hW=>Kr p A C T k W hW
 have zA:(hd (T.drop k)).text.length<=1000000:=hx _ (List.mem_of_getElem? (Z3 h.lt));have ci:=λW=>Jat (hd (T.drop k)).text W zA
 unfold QhL at cp;have HP:=Zh (h.chg hB);have dA:=Jb h.self;have vA:=Zh h.tokLt;have hm:Hi ((hd (T.drop k)).kind=0->k+1<T.length):=λe=>h.more (by rw[e];decide)
 have HR:Hi (∀e w',PRp p A C T w QjG (Qbl (T.drop k)) e w'=PRp p A C T w QjG (if (hd (T.drop k)).kind=0/\Qbd (hd (T.drop k)).text=true then .ok ((hd (T.drop k)).text,(hd (T.drop k)).off) (T.drop (k+1)) else .bad (hd (T.drop k)).off) e w'):=λe w'=>by unfold Qbl;rw[tail_drop]
 generalize PRp p A C T w QjG (Qbl (T.drop k))=R at*;generalize hd (T.drop k)=t at*;obtain⟨tk,tx,tn,tf⟩:=t;unfold Qdw at cp;simp only at cp cw ci;obtain⟨q,hq⟩:∃q,Qbd tx=q:=⟨_,rfl⟩
 rw[hq]at ci;have aA:=Zh hZ;have uA:=Zh hB;have HQ:=Zh hq;go_enter func102,ntmps102;go_wp2_with fail;refine cp.mono ?_;rintro e w1 ⟨rfl,U0⟩;have hsz:=U0.size;rw[World.size_alloc]at hsz;have hA:=U0.alloc U0.size (.cells #[Iv tk,Sv tx,Iv tn,Iv tf] 105);have xA:=HP.o.chg hA;have hN:=zzw w1 (.cells #[Iv tk,Sv tx,Iv tn,Iv tf] 105);have hk:k<=1000000:=by have:=xA.lt;have:=xA.room;omega
 have wk:=zI k;have pc:=Ja xA.self 1;have pf:=Jc xA.self 1;have c0:(w1.alloc (.cells #[Iv tk,Sv tx,Iv tn,Iv tf] 105)).cell? ⟨w1.heap.size,0,none⟩=some (Iv tk):=by rw[Ja hN];rfl
 have c1:(w1.alloc (.cells #[Iv tk,Sv tx,Iv tn,Iv tf] 105)).cell? ⟨w1.heap.size,1,none⟩=some (Sv tx):=by rw[Ja hN];rfl
 have c3:(w1.alloc (.cells #[Iv tk,Sv tx,Iv tn,Iv tf] 105)).cell? ⟨w1.heap.size,3,none⟩=some (Iv tf):=by rw[Ja hN];rfl
 simp only[zW]at pc;have bA:p≠w1.heap.size:=zo
 have H5:p≠w.heap.size:=zo
 have cA:Hi ((w1.alloc (.cells #[Iv tk,Sv tx,Iv tn,Iv tf] 105)).heap[w.heap.size]?=some (.cells #[Em,Iv 0] 115)):=by
  have h1:w1.heap[w.heap.size]?=some (.cells #[Em,Iv 0] 115):=(U0.block _ (Jb aA.o)).trans aA.o;exact(Below.heap_alloc _ _ _ (Jb h1)).trans h1
 have HA:=Zh (uA.o.trans (hA.mono uA.o.size));have F7:=Zh xA
 by_cases V7:tk=0
 ·subst V7
  cases q with
  |true=>
   have HF:Hi (PAt ((w1.alloc (.cells #[Iv 0,Sv tx,Iv tn,Iv tf] 105)).setCell ⟨p,1,none⟩ (Iv ((k+1:Nat):Int))) p A C T (k+1)):=F7.o.next (hm.o rfl);have yA:((w1.alloc (.cells #[Iv 0,Sv tx,Iv tn,Iv tf] 105)).setCell ⟨p,1,none⟩ (Iv ((k:Int)+1))).heap[w.heap.size]?=some (.cells #[Em,Iv 0] 115):=Jh cA.o (Ne.symm H5) _;have z0:((w1.alloc (.cells #[Iv 0,Sv tx,Iv tn,Iv tf] 105)).setCell ⟨p,1,none⟩ (Iv ((k:Int)+1))).cell? ⟨w.heap.size,0,none⟩=some Em:=by rw[Ja yA];rfl
   have z1:((w1.alloc (.cells #[Iv 0,Sv tx,Iv tn,Iv tf] 105)).setCell ⟨p,1,none⟩ (Iv ((k:Int)+1))).cell? ⟨w.heap.size,1,none⟩=some (Iv 0):=by rw[Ja yA];rfl
   have y0:=Jc yA 0;have y1:=Jc yA 1;have eA:=Zh yA;have HT:Hi ((0:Int)=0/\Qbd tx=true):=⟨rfl,HQ.o⟩
   go_wp2_with fail;refine(ci _).mono ?_;rintro e w2 ⟨rfl,rfl⟩;go_wp2;refine bodyPost_ret (v:=.agg #[Sv tx,Iv tf]) (results_cell_row rfl _ _ w.heap.size 115 #[Sv tx,Iv tf] (0,0) _ rfl (Qna _ _ eA.o) underlying115 rfl Qiy) rfl ?_;rw[HR.o,if_pos HT.o];refine⟨rfl,⟨k+1,rfl,(HF.o.setFar (Ne.symm H5) (λb o e=>by have:=vA.o b o e;omega) 0 _).setFar (Ne.symm H5) (λb o e=>by have:=vA.o b o e;omega) 1 _⟩,?_⟩;exact(((Chg.of_below HA.o [p]).setCell (.inl zp) _).setCell (.inr zzl) _).setCell (.inr zzl) _
  |false=>
   have HT:Hi (¬((0:Int)=0/\Qbd tx=true)):=λh=>by have:=HQ.o;rw[h.2]at this;cases this
   go_wp2_with fail;refine(ci _).mono ?_;rintro e w2 ⟨rfl,rfl⟩;exact QmE
 ·have d1:(tk==0)=false:=zzq V7;have HT:Hi (¬(tk=0/\Qbd tx=true)):=λh=>V7 h.1
  exact QmE
def JdB(w:World):Calls prog 128 #[Iv 0] w (Qbj (Sv Qkg) w):=by
 go_enter func128,ntmps128;go_wp2;go_ret;exact⟨rfl,rfl⟩
def JdC(w:World):Calls prog 128 #[Iv 1] w (Qbj (Sv Qgm) w):=by
 go_enter func128,ntmps128;go_wp2;go_ret;exact⟨rfl,rfl⟩
def Qmi{P:Prop}(h:P:=by
  go_enter func106,ntmps106;go_wp2;go_ret
  exact⟨rfl,rfl⟩):P:=h
def Jav(w:World):Calls prog 106 #[Iv 0] w (Qbj (Sv Qgk) w):=by
 have ix:∀W:World,(Instr.index 186 (.agg #[.string ⟨#[115,104,111,119]⟩,.string ⟨#[109,101,100,105,97]⟩,.string ⟨#[108,105,109,105,116]⟩,.string ⟨#[104,105,100,101]⟩]) (Iv 0)).run prog W=.ok (.string ⟨#[115,104,111,119]⟩) W:=λ_=>by kernel_rfl
 exact Qmi
def Jaw(w:World):Calls prog 106 #[Iv 1] w (Qbj (Sv Qeu) w):=by
 have ix:∀W:World,(Instr.index 186 (.agg #[.string ⟨#[115,104,111,119]⟩,.string ⟨#[109,101,100,105,97]⟩,.string ⟨#[108,105,109,105,116]⟩,.string ⟨#[104,105,100,101]⟩]) (Iv 1)).run prog W=.ok (.string ⟨#[109,101,100,105,97]⟩) W:=λ_=>by kernel_rfl
 exact Qmi
def Jax(w:World):Calls prog 106 #[Iv 2] w (Qbj (Sv Qev) w):=by
 have ix:∀W:World,(Instr.index 186 (.agg #[.string ⟨#[115,104,111,119]⟩,.string ⟨#[109,101,100,105,97]⟩,.string ⟨#[108,105,109,105,116]⟩,.string ⟨#[104,105,100,101]⟩]) (Iv 2)).run prog W=.ok (.string ⟨#[108,105,109,105,116]⟩) W:=λ_=>by kernel_rfl
 exact Qmi
def Jay(w:World):Calls prog 106 #[Iv 3] w (Qbj (Sv Qgl) w):=by
 have ix:∀W:World,(Instr.index 186 (.agg #[.string ⟨#[115,104,111,119]⟩,.string ⟨#[109,101,100,105,97]⟩,.string ⟨#[108,105,109,105,116]⟩,.string ⟨#[104,105,100,101]⟩]) (Iv 3)).run prog W=.ok (.string ⟨#[104,105,100,101]⟩) W:=λ_=>by kernel_rfl
 exact Qmi
def QkM{P:Prop}(h:P:=by
  rw[hs]
  exact⟨rfl,⟨k+1,rfl,HF.o.2.1⟩,(Chg.of_below d8.o [p]).trans HF.o.2.2⟩):P:=h
def Qla{P:Prop}(h:P:=by
  clear g1 A0 E5 HZ;go_wp2;go_roundw
  case rel=>exact⟨1,rfl,by omega,S5⟩
  case measure=>simp[intOf]):P:=h
def QkZ{P:Prop}(h:P:=by
  clear g1 A0 E5 HZ;go_wp2;go_roundw
  case rel=>exact⟨2,rfl,by omega,S5⟩
  case measure=>simp[intOf]):P:=h
def Z5(p:Nat)(A:Option Addr)(C:Nat)(T:List Tok)(k:Nat)(w:World)(h:PAt w p A C T k):Calls prog 104 #[Pt p] w (PRp p A C T w (λn=>Iv n) (Qec (T.drop k))):=by
 have zA:=λW=>JdB W
 have aA:=λW hW=>Jq p A C T k 0 Qkg W hW zd
 have uA:=λW=>JdC W
 have vA:=λW hW=>Jq p A C T k 0 Qgm W hW zd
 have cw:=λW hW=>Kr p A C T k W hW
 have HP:=Zh h;obtain⟨R,hR⟩:∃R,PRp p A C T w (λn=>Iv n) (Qec (T.drop k))=R:=⟨_,rfl⟩
 rw[hR];have HR:Hi (R=PRp p A C T w (λn=>Iv n) (Qec (T.drop k))):=hR.symm;generalize yA:Qkg=qkInt at*;generalize xA:Qgm=qkBool at*;have HQ:Hi (Qkg=qkInt/\Qgm=qkBool):=⟨yA,xA⟩
 go_enter func104,ntmps104;go_wp2;go_loopw [3] (λv3 wr=>∃n:Nat,v3=Iv n/\n<=2/\Hi (((0<n->acc 0 qkInt (T.drop k)=none)/\(1<n->acc 0 qkBool (T.drop k)=none))/\Below w.heap.size w wr)) λv _=>2-(intOf v).toNat
 case atStart=>exact⟨0,rfl,by omega,by refine⟨?_,zzb⟩;(repeat' constructor)<;>intro hh<;>omega⟩
 case round=>
 obtain⟨n,rfl,hn,hz⟩:=hrel;have E5:=HP.o.chg hz.o.2
 rcases (show n=0\/n=1\/n=2 by omega) with rfl|rfl|rfl
 ·have HZ:=Zh hz.o;go_wp2_with fail;refine(zA _).mono ?_;rintro e w1 ⟨rfl,rfl⟩;go_wp2_with fail;refine(aA _ E5).mono ?_;rintro e w1 h1
  rcases h1 with⟨g1,g2,rfl,C2,hc1⟩|⟨g1,rfl,A0⟩
  ·have HF:=Zh (show _/\_/\_ from⟨JI g1 g2,C2,hc1⟩);have d8:=Zh (HZ.o.2);go_wp2;rw[HR.o]
   have hs:Qec (T.drop k)=.ok 0 (T.drop (k+1)):=by
    unfold Qec;rw[HQ.o.2,HQ.o.1];have hz:=HZ.o.1;have hf:=HF.o.1;simp only[hf]
   exact QkM
  ·have S5:Hi (((0<1->acc 0 qkInt (T.drop k)=none)/\(1<1->acc 0 qkBool (T.drop k)=none))/\Below w.heap.size w w1):=by
    refine⟨?_,HZ.o.2.trans (A0.mono HZ.o.2.size)⟩;have hno:=J3 g1;have hz:=HZ.o.1;exact⟨λ_=>hno,λhh=>absurd hh zo⟩
   exact Qla
 ·have HZ:=Zh hz.o;go_wp2_with fail;refine(uA _).mono ?_;rintro e w1 ⟨rfl,rfl⟩;go_wp2_with fail;refine(vA _ E5).mono ?_;rintro e w1 h1
  rcases h1 with⟨g1,g2,rfl,C2,hc1⟩|⟨g1,rfl,A0⟩
  ·have HF:=Zh (show _/\_/\_ from⟨JI g1 g2,C2,hc1⟩);have d8:=Zh (HZ.o.2);go_wp2;rw[HR.o]
   have hs:Qec (T.drop k)=.ok 1 (T.drop (k+1)):=by
    unfold Qec;rw[HQ.o.2,HQ.o.1];have hz:=HZ.o.1;have hf:=HF.o.1;simp only[hz.1 zo,hf]
   exact QkM
  ·have S5:Hi (((0<2->acc 0 qkInt (T.drop k)=none)/\(1<2->acc 0 qkBool (T.drop k)=none))/\Below w.heap.size w w1):=by
    refine⟨?_,HZ.o.2.trans (A0.mono HZ.o.2.size)⟩;have hno:=J3 g1;have hz:=HZ.o.1;exact⟨λ_=>hz.1 zo,λ_=>hno⟩
   exact QkZ
 ·have HZ:=Zh hz.o;go_wp2_with fail;refine(cw _ E5).mono ?_;rintro e w2 ⟨rfl,I0⟩;go_wp2;refine⟨rfl,?_⟩;rw[HR.o]
  have hs:Qec (T.drop k)=.bad (hd (T.drop k)).off:=by
   unfold Qec;rw[HQ.o.2,HQ.o.1];have hz:=HZ.o.1;simp only[hz.1 zo,hz.2 zo]
  rw[hs];exact⟨rfl,Chg.of_below (HZ.o.2.trans (I0.mono HZ.o.2.size)) [p]⟩
def JcE(p:Nat)(A:Option Addr)(C:Nat)(T:List Tok)(k:Nat)(w:World)(h:PAt w p A C T k):Calls prog 67 #[Pt p] w (PRp p A C T w (λn=>Iv n) (QdI (T.drop k))):=by
 have vA:=λW=>Jav W
 have eA:=λW hW=>Jq p A C T k 0 Qgk W hW zd
 have cA:=λW=>Jaw W
 have dA:=λW hW=>Jq p A C T k 0 Qeu W hW zd
 have aA:=λW=>Jax W
 have gA:=λW hW=>Jq p A C T k 0 Qev W hW zd
 have hA:=λW=>Jay W
 have bA:=λW hW=>Jq p A C T k 0 Qgl W hW zd
 have cw:=λW hW=>Kr p A C T k W hW
 have HP:=Zh h;obtain⟨R,hR⟩:∃R,PRp p A C T w (λn=>Iv n) (QdI (T.drop k))=R:=⟨_,rfl⟩
 rw[hR];have HR:Hi (R=PRp p A C T w (λn=>Iv n) (QdI (T.drop k))):=hR.symm;generalize zA:Qgk=qkShow at*;generalize yA:Qeu=qkMedia at*;generalize xA:Qev=qkLimit at*;generalize uA:Qgl=qkHide at*;have HQ:Hi (Qgk=qkShow/\Qeu=qkMedia/\Qev=qkLimit/\Qgl=qkHide):=⟨zA,yA,xA,uA⟩
 go_enter func67,ntmps67;go_wp2;go_loopw [3] (λv3 wr=>∃n:Nat,v3=Iv n/\n<=4/\Hi (((0<n->acc 0 qkShow (T.drop k)=none)/\(1<n->acc 0 qkMedia (T.drop k)=none)/\(2<n->acc 0 qkLimit (T.drop k)=none)/\(3<n->acc 0 qkHide (T.drop k)=none))/\Below w.heap.size w wr)) λv _=>4-(intOf v).toNat
 case atStart=>exact⟨0,rfl,by omega,by refine⟨?_,zzb⟩;(repeat' constructor)<;>intro hh<;>omega⟩
 case round=>
 obtain⟨n,rfl,hn,hz⟩:=hrel;have E5:=HP.o.chg hz.o.2
 rcases (show n=0\/n=1\/n=2\/n=3\/n=4 by omega) with rfl|rfl|rfl|rfl|rfl
 ·have HZ:=Zh hz.o;go_wp2_with fail;refine(vA _).mono ?_;rintro e w1 ⟨rfl,rfl⟩;go_wp2_with fail;refine(eA _ E5).mono ?_;rintro e w1 h1
  rcases h1 with⟨g1,g2,rfl,C2,hc1⟩|⟨g1,rfl,A0⟩
  ·have HF:=Zh (show _/\_/\_ from⟨JI g1 g2,C2,hc1⟩);have d8:=Zh (HZ.o.2);go_wp2;rw[HR.o]
   have hs:QdI (T.drop k)=.ok 0 (T.drop (k+1)):=by
    unfold QdI;rw[HQ.o.2.2.2,HQ.o.2.2.1,HQ.o.2.1,HQ.o.1];have hz:=HZ.o.1;have hf:=HF.o.1;simp only[hf]
   exact QkM
  ·have S5:Hi (((0<1->acc 0 qkShow (T.drop k)=none)/\(1<1->acc 0 qkMedia (T.drop k)=none)/\(2<1->acc 0 qkLimit (T.drop k)=none)/\(3<1->acc 0 qkHide (T.drop k)=none))/\Below w.heap.size w w1):=by
    refine⟨?_,HZ.o.2.trans (A0.mono HZ.o.2.size)⟩;have hno:=J3 g1;have hz:=HZ.o.1;exact⟨λ_=>hno,λhh=>absurd hh zo,λhh=>absurd hh zo,λhh=>absurd hh zo⟩
   exact Qla
 ·have HZ:=Zh hz.o;go_wp2_with fail;refine(cA _).mono ?_;rintro e w1 ⟨rfl,rfl⟩;go_wp2_with fail;refine(dA _ E5).mono ?_;rintro e w1 h1
  rcases h1 with⟨g1,g2,rfl,C2,hc1⟩|⟨g1,rfl,A0⟩
  ·have HF:=Zh (show _/\_/\_ from⟨JI g1 g2,C2,hc1⟩);have d8:=Zh (HZ.o.2);go_wp2;rw[HR.o]
   have hs:QdI (T.drop k)=.ok 1 (T.drop (k+1)):=by
    unfold QdI;rw[HQ.o.2.2.2,HQ.o.2.2.1,HQ.o.2.1,HQ.o.1];have hz:=HZ.o.1;have hf:=HF.o.1;simp only[hz.1 zo,hf]
   exact QkM
  ·have S5:Hi (((0<2->acc 0 qkShow (T.drop k)=none)/\(1<2->acc 0 qkMedia (T.drop k)=none)/\(2<2->acc 0 qkLimit (T.drop k)=none)/\(3<2->acc 0 qkHide (T.drop k)=none))/\Below w.heap.size w w1):=by
    refine⟨?_,HZ.o.2.trans (A0.mono HZ.o.2.size)⟩;have hno:=J3 g1;have hz:=HZ.o.1;exact⟨λ_=>hz.1 zo,λ_=>hno,λhh=>absurd hh zo,λhh=>absurd hh zo⟩
   exact QkZ
 ·have HZ:=Zh hz.o;go_wp2_with fail;refine(aA _).mono ?_;rintro e w1 ⟨rfl,rfl⟩;go_wp2_with fail;refine(gA _ E5).mono ?_;rintro e w1 h1
  rcases h1 with⟨g1,g2,rfl,C2,hc1⟩|⟨g1,rfl,A0⟩
  ·have HF:=Zh (show _/\_/\_ from⟨JI g1 g2,C2,hc1⟩);have d8:=Zh (HZ.o.2);go_wp2;rw[HR.o]
   have hs:QdI (T.drop k)=.ok 2 (T.drop (k+1)):=by
    unfold QdI;rw[HQ.o.2.2.2,HQ.o.2.2.1,HQ.o.2.1,HQ.o.1];have hz:=HZ.o.1;have hf:=HF.o.1;simp only[hz.1 zo,hz.2.1 zo,hf]
   exact QkM
  ·have S5:Hi (((0<3->acc 0 qkShow (T.drop k)=none)/\(1<3->acc 0 qkMedia (T.drop k)=none)/\(2<3->acc 0 qkLimit (T.drop k)=none)/\(3<3->acc 0 qkHide (T.drop k)=none))/\Below w.heap.size w w1):=by
    refine⟨?_,HZ.o.2.trans (A0.mono HZ.o.2.size)⟩;have hno:=J3 g1;have hz:=HZ.o.1;exact⟨λ_=>hz.1 zo,λ_=>hz.2.1 zo,λ_=>hno,λhh=>absurd hh zo⟩
   go_wp2;go_roundw
   case rel=>exact⟨3,rfl,by omega,S5⟩
   case measure=>simp[intOf]
 ·have HZ:=Zh hz.o;go_wp2_with fail;refine(hA _).mono ?_;rintro e w1 ⟨rfl,rfl⟩;go_wp2_with fail;refine(bA _ E5).mono ?_;rintro e w1 h1
  rcases h1 with⟨g1,g2,rfl,C2,hc1⟩|⟨g1,rfl,A0⟩
  ·have HF:=Zh (show _/\_/\_ from⟨JI g1 g2,C2,hc1⟩);have d8:=Zh (HZ.o.2);go_wp2;rw[HR.o]
   have hs:QdI (T.drop k)=.ok 3 (T.drop (k+1)):=by
    unfold QdI;rw[HQ.o.2.2.2,HQ.o.2.2.1,HQ.o.2.1,HQ.o.1];have hz:=HZ.o.1;have hf:=HF.o.1;simp only[hz.1 zo,hz.2.1 zo,hz.2.2.1 zo,hf]
   exact QkM
  ·have S5:Hi (((0<4->acc 0 qkShow (T.drop k)=none)/\(1<4->acc 0 qkMedia (T.drop k)=none)/\(2<4->acc 0 qkLimit (T.drop k)=none)/\(3<4->acc 0 qkHide (T.drop k)=none))/\Below w.heap.size w w1):=by
    refine⟨?_,HZ.o.2.trans (A0.mono HZ.o.2.size)⟩;have hno:=J3 g1;have hz:=HZ.o.1;exact⟨λ_=>hz.1 zo,λ_=>hz.2.1 zo,λ_=>hz.2.2.1 zo,λ_=>hno⟩
   go_wp2;go_roundw
   case rel=>exact⟨4,rfl,by omega,S5⟩
   case measure=>simp[intOf]
 ·have HZ:=Zh hz.o;go_wp2_with fail;refine(cw _ E5).mono ?_;rintro e w2 ⟨rfl,I0⟩;go_wp2;refine⟨rfl,?_⟩;rw[HR.o]
  have hs:QdI (T.drop k)=.bad (hd (T.drop k)).off:=by
   unfold QdI;rw[HQ.o.2.2.2,HQ.o.2.2.1,HQ.o.2.1,HQ.o.1];have hz:=HZ.o.1;simp only[hz.1 zo,hz.2.1 zo,hz.2.2.1 zo,hz.2.2.2 zo]
  rw[hs];exact⟨rfl,Chg.of_below (HZ.o.2.trans (I0.mono HZ.o.2.size)) [p]⟩
def Kl(kd:Int)(s:By)(r:List Tok):(∃r',Qam kd s r=.ok () r')\/Qam kd s r=.bad (hd r).off:=by
 unfold Qam
 cases acc kd s r with
 |some r'=>exact .inl ⟨r',rfl⟩
 |none=>exact .inr rfl
def YA(r:List Tok):(∃s r',QcH r=.ok s r')\/QcH r=.bad (hd r).off:=by
 unfold QcH;split
 ·exact .inl ⟨_,_,rfl⟩
 ·exact .inr rfl
def YB(p:Nat)(A:Option Addr)(C:Nat)(T:List Tok)(k:Nat)(w:World)(h:PAt w p A C T k):Calls prog 147 #[Pt p] w (PRp p A C T w (λs=>Sv s) (QaO (T.drop k))):=by
 obtain⟨R,hR⟩:∃R,PRp p A C T w (λs=>Sv s) (QaO (T.drop k))=R:=⟨_,rfl⟩
 rw[hR];have HR:Hi (R=PRp p A C T w (λs=>Sv s) (QaO (T.drop k))):=hR.symm;have HP:=Zh h;go_enter func147,ntmps147;go_wp2_with fail;refine(Qed p A C T k [40] w HP.o).mono ?_;intro e w1 h1
 rcases Kl 3 [40] (T.drop k) with⟨r1,hx⟩|hx
 ·rw[hx]at h1;obtain⟨rfl,⟨k1,hr,E5⟩,hc1⟩:=h1;subst hr;have C0:=Zh hx;have F7:=Zh E5;have M1:=Zh hc1;go_wp2_with fail;refine(Jau p A C T k1 w1 F7.o).mono ?_;intro e w2 h2
  rcases YA (T.drop k1) with⟨s,r2,hx⟩|hx
  ·rw[hx]at h2;obtain⟨rfl,⟨k2,hr,C2⟩,E1⟩:=h2;subst hr;have Q2:=Zh hx;have R3:=Zh C2;have L6:=Zh (M1.o.trans E1);go_wp2_with fail;refine(Qed p A C T k2 [41] w2 R3.o).mono ?_;intro e w3 h3
   rcases Kl 3 [41] (T.drop k2) with⟨r3,hx⟩|hx
   ·rw[hx]at h3;obtain⟨rfl,⟨k3,hr,m8⟩,A5⟩:=h3;subst hr;have HS:Hi (QaO (T.drop k)=.ok s (T.drop k3)):=by rw[Hi];unfold QaO;rw[C0.o];simp only[PR.bind];rw[Q2.o];simp only;rw[hx]
    have HF:=Zh (show _/\_ from⟨m8,L6.o.trans A5⟩);go_wp2;rw[HR.o,HS.o];exact⟨rfl,⟨k3,rfl,HF.o.1⟩,HF.o.2⟩
   ·rw[hx]at h3;obtain⟨rfl,A5⟩:=h3;have HS:Hi (QaO (T.drop k)=.bad (hd (T.drop k2)).off):=by rw[Hi];unfold QaO;rw[C0.o];simp only[PR.bind];rw[Q2.o];simp only;rw[hx]
    refine⟨rfl,?_⟩;rw[HR.o,HS.o];exact⟨rfl,L6.o.trans A5⟩
  ·rw[hx]at h2;obtain⟨rfl,E1⟩:=h2;have HS:Hi (QaO (T.drop k)=.bad (hd (T.drop k1)).off):=by rw[Hi];unfold QaO;rw[C0.o];simp only[PR.bind];rw[hx]
   refine⟨rfl,?_⟩;rw[HR.o,HS.o];exact⟨rfl,M1.o.trans E1⟩
 ·rw[hx]at h1;obtain⟨rfl,hc1⟩:=h1;have HS:Hi (QaO (T.drop k)=.bad (hd (T.drop k)).off):=by rw[Hi];unfold QaO;rw[hx];rfl
  refine⟨rfl,?_⟩;rw[HR.o,HS.o];exact⟨rfl,hc1⟩
def OpP(w:World)(o:Option Int)(e:Ending)(w':World):Prop:=e=.returned (.tuple #[Iv (o.getD 0),.bool o.isSome])/\Below w.heap.size w w'
def QeY{P:Prop}(h:P:=by
  go_enter func131,ntmps131;go_wp2;rw[HR.o,HS.o]
  exact⟨rfl,HB.o⟩):P:=h
def JjO(t:Tok)(w:World):Calls prog 131 #[Iv 1,.agg (Qdw t)] w (OpP w (opK 1 t)):=by
 obtain⟨tk,tx,tn,tf⟩:=t;obtain⟨R,hR⟩:∃R,OpP w (opK 1 ⟨tk,tx,tn,tf⟩)=R:=⟨_,rfl⟩
 rw[hR];have HR:Hi (R=OpP w (opK 1 ⟨tk,tx,tn,tf⟩)):=hR.symm;have u1:=Jk tx;have hN:=zzw w (.cells #[Iv tk,Sv tx,Iv tn,Iv tf] 105);have HB:=Zh ((Below.refl w.heap.size w).alloc zzl (.cells #[Iv tk,Sv tx,Iv tn,Iv tf] 105));have c0:(w.alloc (.cells #[Iv tk,Sv tx,Iv tn,Iv tf] 105)).cell? ⟨w.heap.size,0,none⟩=some (Iv tk):=by rw[Ja hN];rfl
 have c1:(w.alloc (.cells #[Iv tk,Sv tx,Iv tn,Iv tf] 105)).cell? ⟨w.heap.size,1,none⟩=some (Sv tx):=by rw[Ja hN];rfl
 unfold Qdw;simp only;clear hR hN
 by_cases k0:tk=0
 ·subst k0
  by_cases h0:tx=[111,114]
  ·have e0:(tx==[111,114])=true:=beq_iff_eq.2 h0;have HS:Hi (opK 1 ⟨0,tx,tn,tf⟩=some 17):=by rw[Hi,h0];rfl
   clear h0;exact QeY
  ·have e0:(tx==[111,114])=false:=zzq h0;have HS:Hi (opK 1 ⟨0,tx,tn,tf⟩=none):=by rw[Hi];unfold opK;simp[kOr,QlN,h0]
   exact QeY
 ·have d0:(tk==0)=false:=zzq k0
  by_cases k3:tk=3
  ·subst k3;have HS:Hi (opK 1 ⟨3,tx,tn,tf⟩=none):=by rw[Hi];unfold opK;simp
   exact QeY
  ·have d3:(tk==3)=false:=zzq k3;have HS:Hi (opK 1 ⟨tk,tx,tn,tf⟩=none):=by rw[Hi];unfold opK;simp[k0,k3]
   exact QeY
def JjP(t:Tok)(w:World):Calls prog 131 #[Iv 2,.agg (Qdw t)] w (OpP w (opK 2 t)):=by
 obtain⟨tk,tx,tn,tf⟩:=t;obtain⟨R,hR⟩:∃R,OpP w (opK 2 ⟨tk,tx,tn,tf⟩)=R:=⟨_,rfl⟩
 rw[hR];have HR:Hi (R=OpP w (opK 2 ⟨tk,tx,tn,tf⟩)):=hR.symm;have u1:=Jk tx;have hN:=zzw w (.cells #[Iv tk,Sv tx,Iv tn,Iv tf] 105);have HB:=Zh ((Below.refl w.heap.size w).alloc zzl (.cells #[Iv tk,Sv tx,Iv tn,Iv tf] 105));have c0:(w.alloc (.cells #[Iv tk,Sv tx,Iv tn,Iv tf] 105)).cell? ⟨w.heap.size,0,none⟩=some (Iv tk):=by rw[Ja hN];rfl
 have c1:(w.alloc (.cells #[Iv tk,Sv tx,Iv tn,Iv tf] 105)).cell? ⟨w.heap.size,1,none⟩=some (Sv tx):=by rw[Ja hN];rfl
 unfold Qdw;simp only;clear hR hN
 by_cases k0:tk=0
 ·subst k0
  by_cases h0:tx=[97,110,100]
  ·have e0:(tx==[97,110,100])=true:=beq_iff_eq.2 h0;have HS:Hi (opK 2 ⟨0,tx,tn,tf⟩=some 16):=by rw[Hi,h0];rfl
   clear h0;exact QeY
  ·have e0:(tx==[97,110,100])=false:=zzq h0;have HS:Hi (opK 2 ⟨0,tx,tn,tf⟩=none):=by rw[Hi];unfold opK;simp[kOr,QlN,h0]
   exact QeY
 ·have d0:(tk==0)=false:=zzq k0
  by_cases k3:tk=3
  ·subst k3;have HS:Hi (opK 2 ⟨3,tx,tn,tf⟩=none):=by rw[Hi];unfold opK;simp
   exact QeY
  ·have d3:(tk==3)=false:=zzq k3;have HS:Hi (opK 2 ⟨tk,tx,tn,tf⟩=none):=by rw[Hi];unfold opK;simp[k0,k3]
   exact QeY
def JjQ(t:Tok)(w:World):Calls prog 131 #[Iv 5,.agg (Qdw t)] w (OpP w (opK 5 t)):=by
 obtain⟨tk,tx,tn,tf⟩:=t;obtain⟨R,hR⟩:∃R,OpP w (opK 5 ⟨tk,tx,tn,tf⟩)=R:=⟨_,rfl⟩
 rw[hR];have HR:Hi (R=OpP w (opK 5 ⟨tk,tx,tn,tf⟩)):=hR.symm;have u1:=Jk tx;have hN:=zzw w (.cells #[Iv tk,Sv tx,Iv tn,Iv tf] 105);have HB:=Zh ((Below.refl w.heap.size w).alloc zzl (.cells #[Iv tk,Sv tx,Iv tn,Iv tf] 105));have c0:(w.alloc (.cells #[Iv tk,Sv tx,Iv tn,Iv tf] 105)).cell? ⟨w.heap.size,0,none⟩=some (Iv tk):=by rw[Ja hN];rfl
 have c1:(w.alloc (.cells #[Iv tk,Sv tx,Iv tn,Iv tf] 105)).cell? ⟨w.heap.size,1,none⟩=some (Sv tx):=by rw[Ja hN];rfl
 unfold Qdw;simp only;clear hR hN
 by_cases k0:tk=0
 ·subst k0;have HS:Hi (opK 5 ⟨0,tx,tn,tf⟩=none):=by rw[Hi];unfold opK;simp
  exact QeY
 ·have d0:(tk==0)=false:=zzq k0
  by_cases k3:tk=3
  ·subst k3
   by_cases h0:tx=[43]
   ·have e0:(tx==[43])=true:=beq_iff_eq.2 h0;have HS:Hi (opK 5 ⟨3,tx,tn,tf⟩=some 8):=by rw[Hi,h0];rfl
    clear d0 k0 h0;exact QeY
   have e0:(tx==[43])=false:=zzq h0
   by_cases h1:tx=[45]
   ·have e1:(tx==[45])=true:=beq_iff_eq.2 h1;have HS:Hi (opK 5 ⟨3,tx,tn,tf⟩=some 9):=by rw[Hi,h1];rfl
    clear d0 k0 h0 h1;exact QeY
   have e1:(tx==[45])=false:=zzq h1;have HS:Hi (opK 5 ⟨3,tx,tn,tf⟩=none):=by rw[Hi];unfold opK;simp[h0,h1]
   exact QeY
  ·have d3:(tk==3)=false:=zzq k3;have HS:Hi (opK 5 ⟨tk,tx,tn,tf⟩=none):=by rw[Hi];unfold opK;simp[k0,k3]
   exact QeY
def JjR(t:Tok)(w:World):Calls prog 131 #[Iv 6,.agg (Qdw t)] w (OpP w (opK 6 t)):=by
 obtain⟨tk,tx,tn,tf⟩:=t;obtain⟨R,hR⟩:∃R,OpP w (opK 6 ⟨tk,tx,tn,tf⟩)=R:=⟨_,rfl⟩
 rw[hR];have HR:Hi (R=OpP w (opK 6 ⟨tk,tx,tn,tf⟩)):=hR.symm;have u1:=Jk tx;have hN:=zzw w (.cells #[Iv tk,Sv tx,Iv tn,Iv tf] 105);have HB:=Zh ((Below.refl w.heap.size w).alloc zzl (.cells #[Iv tk,Sv tx,Iv tn,Iv tf] 105));have c0:(w.alloc (.cells #[Iv tk,Sv tx,Iv tn,Iv tf] 105)).cell? ⟨w.heap.size,0,none⟩=some (Iv tk):=by rw[Ja hN];rfl
 have c1:(w.alloc (.cells #[Iv tk,Sv tx,Iv tn,Iv tf] 105)).cell? ⟨w.heap.size,1,none⟩=some (Sv tx):=by rw[Ja hN];rfl
 unfold Qdw;simp only;clear hR hN
 by_cases k0:tk=0
 ·subst k0;have HS:Hi (opK 6 ⟨0,tx,tn,tf⟩=none):=by rw[Hi];unfold opK;simp
  exact QeY
 ·have d0:(tk==0)=false:=zzq k0
  by_cases k3:tk=3
  ·subst k3
   by_cases h0:tx=[42]
   ·have e0:(tx==[42])=true:=beq_iff_eq.2 h0;have HS:Hi (opK 6 ⟨3,tx,tn,tf⟩=some 10):=by rw[Hi,h0];rfl
    clear d0 k0 h0;exact QeY
   have e0:(tx==[42])=false:=zzq h0
   by_cases h1:tx=[47]
   ·have e1:(tx==[47])=true:=beq_iff_eq.2 h1;have HS:Hi (opK 6 ⟨3,tx,tn,tf⟩=some 11):=by rw[Hi,h1];rfl
    clear d0 k0 h0 h1;exact QeY
   have e1:(tx==[47])=false:=zzq h1
   by_cases h2:tx=[37]
   ·have e2:(tx==[37])=true:=beq_iff_eq.2 h2;have HS:Hi (opK 6 ⟨3,tx,tn,tf⟩=some 12):=by rw[Hi,h2];rfl
    clear d0 k0 h0 h1 h2;exact QeY
   have e2:(tx==[37])=false:=zzq h2;have HS:Hi (opK 6 ⟨3,tx,tn,tf⟩=none):=by rw[Hi];unfold opK;simp[h0,h1,h2]
   exact QeY
  ·have d3:(tk==3)=false:=zzq k3;have HS:Hi (opK 6 ⟨tk,tx,tn,tf⟩=none):=by rw[Hi];unfold opK;simp[k0,k3]
   exact QeY
def Jg(a:An):∃xA xn xc,Qaa a=#[Iv a.kind,Iv a.num,.string (bs a.name),Iv a.off,.slice xA xn xc]:=by
 obtain⟨k,n,s,o,b,c,l⟩:=a
 by_cases h:l=[]
 ·exact⟨none,0,0,by show #[_,_,_,_,Qaw b c l]=_;unfold Qaw;rw[if_pos h];rfl⟩
 ·exact⟨some ⟨b,0,none⟩,l.length,c,by show #[_,_,_,_,Qaw b c l]=_;unfold Qaw;rw[if_neg h];rfl⟩
def QcM{w:World}{T t:Nat}{a0 a1 a2 a3 a4:Value}(v0 v1 v2 v3 v4:Value)(h:w.heap[T]?=some (.cells #[a0,a1,a2,a3,a4] t (0,0))):
  (((((w.setCell ⟨T,0,none⟩ v0).setCell ⟨T,1,none⟩ v1).setCell ⟨T,2,none⟩ v2).setCell ⟨T,3,none⟩ v3).setCell ⟨T,4,none⟩ v4).heap[T]?=some (.cells #[v0,v1,v2,v3,v4] t (0,0)):=by
 have h0:=heap_setCell_same _ _ 0 _ _ v0 h;have h1:=heap_setCell_same _ _ 1 _ _ v1 h0;have h2:=heap_setCell_same _ _ 2 _ _ v2 h1;have h3:=heap_setCell_same _ _ 3 _ _ v3 h2;exact heap_setCell_same _ _ 4 _ _ v4 h3
def put5(W:World)(b:Nat)(v0 v1 v2 v3 v4:Value):World:=((((W.setCell ⟨b,0,none⟩ v0).setCell ⟨b,1,none⟩ v1).setCell ⟨b,2,none⟩ v2).setCell ⟨b,3,none⟩ v3).setCell ⟨b,4,none⟩ v4
def J5{S:List Nat}{W:World}{b:Nat}(v0 v1 v2 v3 v4:Value)(hb:b∈S):Chg S W (put5 W b v0 v1 v2 v3 v4):=
 (((((Chg.refl S W).setCell (.inl hb) v0).setCell (.inl hb) v1).setCell (.inl hb) v2).setCell (.inl hb) v3).setCell (.inl hb) v4
def J8(W:World)(b:Nat)(v0 v1 v2 v3 v4:Value):(put5 W b v0 v1 v2 v3 v4).heap.size=W.heap.size:=by simp[put5,World.setCell]
def PAt.put5{W:World}{p q:Nat}{A:Option Addr}{C:Nat}{T:List Tok}{k:Nat}(h:PAt W p A C T k)(h1:q≠p)(h2:∀b o,A=some ⟨b,o,none⟩->q≠b)(v0 v1 v2 v3 v4:Value):PAt (put5 W q v0 v1 v2 v3 v4) p A C T k:=
 ((((h.setFar h1 h2 0 v0).setFar h1 h2 1 v1).setFar h1 h2 2 v2).setFar h1 h2 3 v3).setFar h1 h2 4 v4
def NdP(p:Nat)(A:Option Addr)(C:Nat)(T:List Tok)(w:World)(x:PR Nd)(e:Ending)(w':World):Prop:=
 match x with
 |.out=>True
 |.bad o=>QkL p w o e w'
 |.ok nd r=>∃a:An,a.nd=nd/\e=.returned (.agg (Qaa a))/\a.At w'/\Qcs w.heap.size w'.heap.size a/\(∃k',r=T.drop k'/\PAt w' p A C T k')/\Chg [p] w w'
def Ks{W:World}{b t:Nat}{cs:Array Value}{fr:Nat×Nat}(h:W.heap[b]?=some (.cells cs t fr)){j:Nat}{u:Value}(hu:cs.toList[j]?=some u):W.cell? ⟨b,j,none⟩=some u:=by
 rw[Ja h];simpa using hu
def Qll{P:Prop}(h:P:=by
  unfold Qaf
  rcases List.mem_cons.1 ha with rfl|ha
  ·exact List.mem_append_left _ hb
  ·exact List.mem_append_right _ (ih ha)):P:=h
def Yf{w W3:World}{p:Nat}{A:Option Addr}{C:Nat}{T:List Tok}{k' lo:Nat}{kids:List An}{cs:Array Value}(W6:kids≠[])(hcs:cs.toList=Qdx kids)
  (hat:∀a∈kids,a.At W3) (hm:QdK lo W3.heap.size kids) (hlo:w.heap.size<lo) (hP:PAt W3 p A C T k') (hC:Chg [p] w W3) (hp:p<w.heap.size) (hT:∀b o,A=some ⟨b,o,none⟩->b<w.heap.size)
  (kk n:Int) (s:By) (o:Int) (c:Nat) (v0 v1 v2 v3 v4:Value):
  (An.mk kk n s o W3.heap.size c kids).At ((put5 W3 w.heap.size v0 v1 v2 v3 v4).alloc (.cells cs 119))/\
   Qcs w.heap.size ((put5 W3 w.heap.size v0 v1 v2 v3 v4).alloc (.cells cs 119)).heap.size (An.mk kk n s o W3.heap.size c kids)/\
   PAt ((put5 W3 w.heap.size v0 v1 v2 v3 v4).alloc (.cells cs 119)) p A C T k'/\Chg [p] w ((put5 W3 w.heap.size v0 v1 v2 v3 v4).alloc (.cells cs 119)):=by
 have hle:=hm.le;have hsz:=J8 W3 w.heap.size v0 v1 v2 v3 v4;have zA:=J5 (S:=[w.heap.size]) (W:=W3) v0 v1 v2 v3 v4 (by simp:w.heap.size∈[w.heap.size]);have xA:=zzw (put5 W3 w.heap.size v0 v1 v2 v3 v4) (.cells cs 119);rw[hsz]at xA
 have yA:∀b,b<W3.heap.size->b≠w.heap.size->((put5 W3 w.heap.size v0 v1 v2 v3 v4).alloc (.cells cs 119)).heap[b]?=W3.heap[b]?:=λb hb hn=>
  (Below.heap_alloc _ _ _ (by rw[hsz];exact hb)).trans (zA.block b hb (by simpa using hn))
 refine⟨?_,?_,?_,?_⟩
 ·unfold An.At;refine⟨λ_ j=>Jc xA j,Kp kids 0 (λj u hu=>?_) λa ha=>?_⟩
  ·rw[Nat.zero_mul,Nat.zero_add];exact Ks xA (by rw[hcs];exact hu)
  ·refine JE a (hat a ha) λb hb=>?_
   have uA:lo<=b/\b<W3.heap.size:=by
    refine hm.foot.2 b ?_;clear hat hm hcs xA yA W6
    induction kids with
    |nil=>cases ha
    |cons x l ih=>
     exact Qll
   exact yA b uA.2 zo
 ·rw[World.size_alloc,hsz];exact(Jas hm zzl kk n s o c).mono (Nat.le_of_lt hlo) zzl
 ·exact(hP.put5 (Ne.symm (ne_of_lt hp)) (λb o e=>by have:=hT b o e;omega) _ _ _ _ _).chg (zzb.alloc zzl _)
 ·exact(hC.step zA λb hb=>.inr (by simp at hb;omega)).alloc _
def Vn{W:World}{b t:Nat}{a0 a1 a2 a3 a4:Value}(X:Obj)(v0 v1 v2 v3 v4:Value)(h:W.heap[b]?=some (.cells #[a0,a1,a2,a3,a4] t (0,0))):((put5 W b v0 v1 v2 v3 v4).alloc X).heap[b]?=some (.cells #[v0,v1,v2,v3,v4] t (0,0)):=
 (Below.heap_alloc _ _ _ (Jb (QcM v0 v1 v2 v3 v4 h))).trans (QcM v0 v1 v2 v3 v4 h)
abbrev C5(W:World)(b:Nat)(a0 a1 a2 a3 a4:Value):Prop:=
 W.cell? ⟨b,0,none⟩=some a0/\W.cell? ⟨b,1,none⟩=some a1/\W.cell? ⟨b,2,none⟩=some a2/\W.cell? ⟨b,3,none⟩=some a3/\W.cell? ⟨b,4,none⟩=some a4
def Jj{W:World}{b t:Nat}{a0 a1 a2 a3 a4:Value}{fr:Nat×Nat}(h:W.heap[b]?=some (.cells #[a0,a1,a2,a3,a4] t fr)):
  W.cell? ⟨b,0,none⟩=some a0/\W.cell? ⟨b,1,none⟩=some a1/\W.cell? ⟨b,2,none⟩=some a2/\W.cell? ⟨b,3,none⟩=some a3/\W.cell? ⟨b,4,none⟩=some a4:=by
 refine⟨?_,?_,?_,?_,?_⟩<;>(rw[Ja h];rfl)
def Jp{W:World}{b t:Nat}{cs:Array Value}(h:W.heap[b]?=some (.cells cs t (0,0))):
  W.frozen? ⟨b,0,none⟩=false/\W.frozen? ⟨b,1,none⟩=false/\W.frozen? ⟨b,2,none⟩=false/\W.frozen? ⟨b,3,none⟩=false/\W.frozen? ⟨b,4,none⟩=false:=
 ⟨Jc h 0,Jc h 1,Jc h 2,Jc h 3,Jc h 4⟩
def JbQ(t:Tok)(W:World):(Instr.field 105 (.agg (Qdw t)) 3).run prog W=.ok (Iv t.off) W:=by obtain⟨a,b,c,d⟩:=t;kernel_rfl
def Jaz{W:World}{b t:Nat}{a0 a1:Value}{fr:Nat×Nat}(h:W.heap[b]?=some (.cells #[a0,a1] t fr)):W.cell? ⟨b,0,none⟩=some a0:=by rw[Ja h];rfl
def NdP.on{p:Nat}{A:Option Addr}{C:Nat}{T:List Tok}{w w':World}{x:PR Nd}{e:Ending}{Post:Ending->World->Prop}(h:NdP p A C T w x e w')(hne:x≠.out)
  (hbad:∀q,x=.bad q->Chg [p] w w'->Post (.panicked [{v:=QfN q,recovered:=false}]) w')
  (hok:∀(a:An)(k':Nat)(xA:Option Addr)(xn xc:Nat),x=.ok a.nd (T.drop k')->Qaa a=#[Iv a.kind,Iv a.num,.string (bs a.name),Iv a.off,.slice xA xn xc]->
   a.At w'/\Qcs w.heap.size w'.heap.size a/\PAt w' p A C T k'/\Chg [p] w w'->Post (.returned (.agg #[Iv a.kind,Iv a.num,.string (bs a.name),Iv a.off,.slice xA xn xc])) w'):Post e w':=by
 cases x with
 |out=>exact absurd rfl hne
 |bad q=>obtain⟨rfl,hc⟩:=h;exact hbad q rfl hc
 |ok nd r=>
  obtain⟨a,rfl,rfl,hat,hm,⟨k',rfl,hp⟩,hc⟩:=h;obtain⟨xA,xn,xc,hf⟩:=Jg a;rw[hf];exact hok a k' xA xn xc rfl hf ⟨hat,hm,hp,hc⟩
def PRp.on{α:Type}{p:Nat}{A:Option Addr}{C:Nat}{T:List Tok}{w w':World}{g:α->Value}{x:PR α}{e:Ending}{Post:Ending->World->Prop}(h:PRp p A C T w g x e w')(hne:x≠.out)
  (hbad:∀q,x=.bad q->Chg [p] w w'->Post (.panicked [{v:=QfN q,recovered:=false}]) w')
  (hok:∀(a:α)(k':Nat),x=.ok a (T.drop k')->PAt w' p A C T k'->Chg [p] w w'->Post (.returned (g a)) w'):Post e w':=by
 cases x with
 |out=>exact absurd rfl hne
 |bad q=>obtain⟨rfl,hc⟩:=h;exact hbad q rfl hc
 |ok a r=>obtain⟨rfl,⟨k',rfl,hp⟩,hc⟩:=h;exact hok a k' rfl hp hc
def NdP.call{P:Program}{fn:Nat}{args:Array Value}{p:Nat}{A:Option Addr}{C:Nat}{T:List Tok}{w:World}{x:PR Nd}{Post:Ending->World->Prop}(hc:Calls P fn args w (NdP p A C T w x))(hne:x≠.out)
  (hbad:∀q w',x=.bad q->Chg [p] w w'->Post (.panicked [{v:=QfN q,recovered:=false}]) w')
  (hok:∀(a:An)(w':World)(k':Nat)(xA:Option Addr)(xn xc:Nat),x=.ok a.nd (T.drop k')->Qaa a=#[Iv a.kind,Iv a.num,.string (bs a.name),Iv a.off,.slice xA xn xc]->
   a.At w'/\Qcs w.heap.size w'.heap.size a/\PAt w' p A C T k'/\Chg [p] w w'->Post (.returned (.agg #[Iv a.kind,Iv a.num,.string (bs a.name),Iv a.off,.slice xA xn xc])) w'):Calls P fn args w Post:=
 hc.mono λ_ w' h=>h.on hne (λq=>hbad q w') λa=>hok a w'
def PRp.call{α:Type}{P:Program}{fn:Nat}{args:Array Value}{p:Nat}{A:Option Addr}{C:Nat}{T:List Tok}{w:World}{g:α->Value}{x:PR α}{Post:Ending->World->Prop}(hc:Calls P fn args w (PRp p A C T w g x))(hne:x≠.out)
  (hbad:∀q w',x=.bad q->Chg [p] w w'->Post (.panicked [{v:=QfN q,recovered:=false}]) w')
  (hok:∀(a:α)(w':World)(k':Nat),x=.ok a (T.drop k')->PAt w' p A C T k'->Chg [p] w w'->Post (.returned (g a)) w'):Calls P fn args w Post:=
 hc.mono λ_ w' h=>h.on hne (λq=>hbad q w') λa=>hok a w'
def JX(kd:Int)(s:By)(r:List Tok):Qam kd s r≠.out:=by
 rcases Kl kd s r with⟨_,h⟩|h<;>rw[h]<;>exact λh=>by cases h
def Jv{α β:Type}{x:PR α}{f:α->List Tok->PR β}{X:PR β}{a:α}{r:List Tok}(h:x.bind f=X)(hx:x=.ok a r):f a r=X:=by subst hx;exact h
def JJ{α β:Type}{x:PR α}{f:α->List Tok->PR β}{X:PR β}(h:x.bind f=X)(hX:X≠.out):x≠.out:=λe=>hX (by rw[<-h,e];rfl)
structure NS(p:Nat)(A:Option Addr)(C:Nat)(T:List Tok)(w W:World)(k:Nat):Prop where
 pat:PAt W p A C T k
 chg:Chg [p] w W
 res:W.heap[w.heap.size]?=some (.cells #[Iv 0,Iv 0,Em,Iv 0,Nl] 119 (0,0))
 pl:p<w.heap.size
 tl:∀b o,A=some ⟨b,o,none⟩->b<w.heap.size
section
variable {p:Nat}{A:Option Addr}{C:Nat}{T:List Tok}{w W W':World}{k k':Nat}
def NS.start(h:PAt w p A C T k):NS p A C T w (w.alloc (.cells #[Iv 0,Iv 0,Em,Iv 0,Nl] 119)) k:=
 have hB:=(Below.refl w.heap.size w).alloc zzl (.cells #[Iv 0,Iv 0,Em,Iv 0,Nl] 119)
 ⟨h.chg hB,Chg.of_below hB [p],zzw _ _,Jb h.self,h.tokLt⟩
def NS.ne(h:NS p A C T w W k):w.heap.size≠p:=Ne.symm (ne_of_lt h.pl)
def NS.lt(h:NS p A C T w W k):w.heap.size<W.heap.size:=Jb h.res
def NS.plt(h:NS p A C T w W k):p<W.heap.size:=Nat.lt_trans h.pl h.lt
def NS.up(h:NS p A C T w W k)(hb:Below W.heap.size W W'):NS p A C T w W' k:=⟨h.pat.chg hb,h.chg.trans (Chg.of_below hb [p]),(hb.block _ h.lt).trans h.res,h.pl,h.tl⟩
def NS.on(h:NS p A C T w W k)(hp:PAt W' p A C T k')(hc:Chg [p] W W'):NS p A C T w W' k':=⟨hp,h.chg.trans hc,hc.heap_some (by simp;exact h.ne) h.res,h.pl,h.tl⟩
def NS.new(h:NS p A C T w W k)(X:Obj):NS p A C T w (W.alloc X) k:=h.up (zzb.alloc zzl X)
def NS.dr(h:NS p A C T w W k):NS p A C T w W.drew k:=h.up zzb.drew
def NS.bad{α:Type}{x:PR α}{f:α->List Tok->PR Nd}{X:PR Nd}{R:Ending->World->Prop}{q:Int}(h:NS p A C T w W k)(hR:R=NdP p A C T w X)(hX:x.bind f=X)(hx:x=.bad q)(hc:Chg [p] W W'):R (.panicked [{v:=QfN q,recovered:=false}]) W':=by
 subst hx hX hR;exact⟨rfl,h.chg.trans hc⟩
end
def PAt.chg1{W:World}{p:Nat}{A:Option Addr}{C:Nat}{T:List Tok}{k:Nat}(h:PAt W p A C T k):p<W.heap.size:=Jb h.self
def Kj{α β:Type}{x:PR α}{f:α->List Tok->PR β}(h:x.bind f≠.out):x≠.out:=λe=>h (by rw[e];rfl)
def JdD(f:Nat){r r1:List Tok}(h:acc 0 QkO r=some r1):pM (f+1) (.level 3) r=(pM f (.level 3) r1).bind λa r2=>.ok (.mk 7 0 [] (hd r).off [a]) r2:=by rw[pM,if_pos rfl,h]
def JeC(f:Nat){r:List Tok}(h:acc 0 QkO r=none):pM (f+1) (.level 3) r=pM f .cmp r:=by rw[pM,if_pos rfl,h]
def JdE(f:Nat){r r1:List Tok}(h:acc 3 [45] r=some r1):pM (f+1) (.level 7) r=(pM f (.level 7) r1).bind λa r2=>.ok (.mk 6 0 [] (hd r).off [a]) r2:=by rw[pM,if_neg zd,if_pos rfl,h]
def JeD(f:Nat){r:List Tok}(h:acc 3 [45] r=none):pM (f+1) (.level 7) r=pM f .prim r:=by rw[pM,if_neg zd,if_pos rfl,h]
def JaA{w W2 W3:World}{p:Nat}{A:Option Addr}{C:Nat}{T:List Tok}{k':Nat}{a:An}(hat:a.At W3)(hm:Qcs W2.heap.size W3.heap.size a)(h2:w.heap.size<W2.heap.size)(hP:PAt W3 p A C T k')(hC2:Chg [p] w W2)(hC3:Chg [p] W2 W3)(hp:p<w.heap.size)(hT:∀b o,A=some ⟨b,o,none⟩->b<w.heap.size)(v0 v1 v2 v3 v4:Value):
  a.At (put5 W3 w.heap.size v0 v1 v2 v3 v4)/\Qcs w.heap.size (put5 W3 w.heap.size v0 v1 v2 v3 v4).heap.size a/\PAt (put5 W3 w.heap.size v0 v1 v2 v3 v4) p A C T k'/\Chg [p] w (put5 W3 w.heap.size v0 v1 v2 v3 v4):=by
 have hc:=J5 (S:=[w.heap.size]) (W:=W3) v0 v1 v2 v3 v4 (by simp:w.heap.size∈[w.heap.size]);refine⟨Zf hat hm hc zzl λb hb=>by simp at hb;omega,?_,hP.put5 (Ne.symm (ne_of_lt hp)) (λb o e=>by have:=hT b o e;omega) _ _ _ _ _,(hC2.trans hC3).step hc λb hb=>.inr (by simp at hb;omega)⟩;rw[J8];exact hm.mono (Nat.le_of_lt h2) zzl
def NS.pass{p:Nat}{A:Option Addr}{C:Nat}{T:List Tok}{w W W':World}{k k':Nat}{a:An}(h:NS p A C T w W k)(B:a.At W'/\Qcs W.heap.size W'.heap.size a/\PAt W' p A C T k'/\Chg [p] W W')(v0 v1 v2 v3 v4:Value):
  a.At (put5 W' w.heap.size v0 v1 v2 v3 v4)/\Qcs w.heap.size (put5 W' w.heap.size v0 v1 v2 v3 v4).heap.size a/\PAt (put5 W' w.heap.size v0 v1 v2 v3 v4) p A C T k'/\Chg [p] w (put5 W' w.heap.size v0 v1 v2 v3 v4):=
 JaA B.1 B.2.1 h.lt B.2.2.1 h.chg B.2.2.2 h.pl h.tl v0 v1 v2 v3 v4
def QnR{P:Prop}(h:P:=by
  subst hx;replace HS:=Zh (HS.o.up I0);clear g1 I0 O7 P8 I1;go_wp2_with fail;refine NdP.call (I2 k w2 HS.o.pat S1.o) S1.o (λq _ hx hc=>by exact⟨rfl,by rw[HR.o,hx];exact⟨rfl,HS.o.chg.trans hc⟩⟩) λa w4 k4 xA xn xc hx T1 B=>?_
  have G9:=Zh (HS.o.pass B);have P7:=Zh hx;have O4:=Zh T1;have q8:=Zh (HS.o.on B.2.2.1 B.2.2.2).res;have h5:=Jj q8.o;have y5:=Jp q8.o;clear hx T1 B;go_wp2;refine bodyPost_ret (v:=.agg (Qaa a)) (by rw[O4.o];exact results_cell_row rfl _ _ w.heap.size 119 _ (0,0) _ rfl (QcM _ _ _ _ _ q8.o) underlying119 rfl Qaq) rfl ?_;rw[HR.o,P7.o];obtain⟨e1,e2,e3,e4⟩:=G9.o _ _ _ _ _
  exact⟨_,rfl,rfl,e1,e2,⟨k4,rfl,e3⟩,e4⟩):P:=h
def QkT{P:Prop}(h:P:=by
  obtain⟨e1,e2,e3,e4⟩:=E0.o _ _ _ _ _
  exact⟨_,rfl,rfl,e1,e2,⟨k9,rfl,e3⟩,e4⟩):P:=h
def Jiy(f p:Nat)(A:Option Addr)(C:Nat)(T:List Tok)
  (I1:∀k w,PAt w p A C T k->pM f (.level 3) (T.drop k)≠.out->Calls prog 105 #[Pt p,Iv 3] w (NdP p A C T w (pM f (.level 3) (T.drop k))))
  (I2:∀k w,PAt w p A C T k->pM f .cmp (T.drop k)≠.out->Calls prog 129 #[Pt p] w (NdP p A C T w (pM f .cmp (T.drop k))))
  (k:Nat) (w:World) (h:PAt w p A C T k) (hne:pM (f+1) (.level 3) (T.drop k)≠.out):
  Calls prog 105 #[Pt p,Iv 3] w (NdP p A C T w (pM (f+1) (.level 3) (T.drop k))):=by
 obtain⟨X,hX⟩:∃X,pM (f+1) (.level 3) (T.drop k)=X:=⟨_,rfl⟩
 have O7:=Zh hX;rw[hX]at hne |-;obtain⟨R,hR⟩:∃R,R=NdP p A C T w X:=⟨_,rfl⟩
 rw[<-hR];have HR:=Zh hR;have S1:=Zh hne;have HS:=Zh (NS.start h);have cp:=Kc p A C T k _ HS.o.pat;obtain⟨of,zA⟩:∃of,(hd (T.drop k)).off=of:=⟨_,rfl⟩
 unfold QhL at cp;have hfl:=JbQ (hd (T.drop k));rw[zA]at hfl;have P8:=Zh zA;generalize Qdw (hd (T.drop k))=tv at*;clear h hne hR zA hX;go_enter func105,ntmps105;go_wp2_with fail;refine cp.mono ?_;rintro e w1 ⟨rfl,A0⟩;replace HS:=Zh (HS.o.up A0);clear cp A0;go_wp2_with fail;refine(Jq p A C T k 0 QkO w1 HS.o.pat zd).mono ?_;intro e w2 h2
 rcases h2 with⟨g1,g2,rfl,C2,E1⟩|⟨g1,rfl,I0⟩
 ·have uA:=O7.o;rw[JdD f (JI g1 g2),P8.o]at uA;have C0:=Zh uA;replace HS:=Zh (HS.o.on C2 E1);go_wp2_with fail;refine NdP.call (I1 (k+1) w2 HS.o.pat (JJ C0.o S1.o)) (JJ C0.o S1.o) (λq _ hx hc=>by exact⟨rfl,HS.o.bad HR.o C0.o hx hc⟩) λa w9 k9 xA xn xc hx T1 B=>?_
  have yA:=HS.o.lt;have hm:=B.2.2.2.size;have vA:=Zh (Jv C0.o hx);replace HS:=Zh (HS.o.on B.2.2.1 B.2.2.2);have E0:=Zh (λv0 v1 v2 v3 v4=>Yf (w:=w) (W3:=w9) (kids:=[a]) (cs:=Qaa a) zp (by simp[Qdx]) (by simpa using B.1) (⟨w9.heap.size,hm,B.2.1,le_refl _⟩:QdK w2.heap.size w9.heap.size [a]) yA HS.o.pat HS.o.chg HS.o.pl HS.o.tl 7 0 [] of 1 v0 v1 v2 v3 v4);have h5:=Jj HS.o.res;have y5:=Jp HS.o.res;have aA:=HS.o.lt;rw[T1]at E0;go_wp2;refine bodyPost_ret (v:=.agg (Qaa (An.mk 7 0 [] of w9.heap.size 1 [a]))) (results_cell_row rfl _ _ w.heap.size 119 _ (0,0) _ rfl (Vn _ _ _ _ _ _ HS.o.res) underlying119 rfl Qaq) rfl ?_;rw[HR.o,<-vA.o];exact QkT
 ·have hx:=O7.o;rw[JeC f (J3 g1)]at hx;exact QnR
def Jiz(f p:Nat)(A:Option Addr)(C:Nat)(T:List Tok)
  (I1:∀k w,PAt w p A C T k->pM f (.level 7) (T.drop k)≠.out->Calls prog 105 #[Pt p,Iv 7] w (NdP p A C T w (pM f (.level 7) (T.drop k))))
  (I2:∀k w,PAt w p A C T k->pM f .prim (T.drop k)≠.out->Calls prog 130 #[Pt p] w (NdP p A C T w (pM f .prim (T.drop k))))
  (k:Nat) (w:World) (h:PAt w p A C T k) (hne:pM (f+1) (.level 7) (T.drop k)≠.out):
  Calls prog 105 #[Pt p,Iv 7] w (NdP p A C T w (pM (f+1) (.level 7) (T.drop k))):=by
 obtain⟨X,hX⟩:∃X,pM (f+1) (.level 7) (T.drop k)=X:=⟨_,rfl⟩
 have O7:=Zh hX;rw[hX]at hne |-;obtain⟨R,hR⟩:∃R,R=NdP p A C T w X:=⟨_,rfl⟩
 rw[<-hR];have HR:=Zh hR;have S1:=Zh hne;have HS:=Zh (NS.start h);have cp:=Kc p A C T k _ HS.o.pat;obtain⟨of,zA⟩:∃of,(hd (T.drop k)).off=of:=⟨_,rfl⟩
 unfold QhL at cp;have hfl:=JbQ (hd (T.drop k));rw[zA]at hfl;have P8:=Zh zA;generalize Qdw (hd (T.drop k))=tv at*;clear h hne hR zA hX;go_enter func105,ntmps105;go_wp2_with fail;refine cp.mono ?_;rintro e w1 ⟨rfl,A0⟩;replace HS:=Zh (HS.o.up A0);clear cp A0;go_wp2_with fail;refine(Jq p A C T k 3 [45] w1 HS.o.pat zd).mono ?_;intro e w2 h2
 rcases h2 with⟨g1,g2,rfl,C2,E1⟩|⟨g1,rfl,I0⟩
 ·have uA:=O7.o;rw[JdE f (JI g1 g2),P8.o]at uA;have C0:=Zh uA;replace HS:=Zh (HS.o.on C2 E1);go_wp2_with fail;refine NdP.call (I1 (k+1) w2 HS.o.pat (JJ C0.o S1.o)) (JJ C0.o S1.o) (λq _ hx hc=>by exact⟨rfl,HS.o.bad HR.o C0.o hx hc⟩) λa w9 k9 xA xn xc hx T1 B=>?_
  have yA:=HS.o.lt;have hm:=B.2.2.2.size;have vA:=Zh (Jv C0.o hx);replace HS:=Zh (HS.o.on B.2.2.1 B.2.2.2);have E0:=Zh (λv0 v1 v2 v3 v4=>Yf (w:=w) (W3:=w9) (kids:=[a]) (cs:=Qaa a) zp (by simp[Qdx]) (by simpa using B.1) (⟨w9.heap.size,hm,B.2.1,le_refl _⟩:QdK w2.heap.size w9.heap.size [a]) yA HS.o.pat HS.o.chg HS.o.pl HS.o.tl 6 0 [] of 1 v0 v1 v2 v3 v4);have h5:=Jj HS.o.res;have y5:=Jp HS.o.res;have aA:=HS.o.lt;rw[T1]at E0;go_wp2;refine bodyPost_ret (v:=.agg (Qaa (An.mk 6 0 [] of w9.heap.size 1 [a]))) (results_cell_row rfl _ _ w.heap.size 119 _ (0,0) _ rfl (Vn _ _ _ _ _ _ HS.o.res) underlying119 rfl Qaq) rfl ?_;rw[HR.o,<-vA.o];exact QkT
 ·have hx:=O7.o;rw[JeD f (J3 g1)]at hx;exact QnR
open Go
section
variable {P:Program}{ops:Array Oper}{Q:Exit->Act->World->Prop}{md:Region.Mode}{S:World->Prop}{z:Nat}
def wpL(P:Program)(md:Region.Mode)(ops:Array Oper)(Q:Exit->Act->World->Prop)(S:World->Prop)(z:Nat):Nat->Array Bool->Act->World->Prop
 |0,l,a,w=>Region.ready md ops l=[]/\Q .normal a w
 |n+1,l,a,w=>(Region.ready md ops l=[]->Q .normal a w)/\
  ∀i∈Region.ready md ops l,wpOp P ops Q i (λa' w'=>(i=z\/S w')/\wpL P md ops Q S z n (l.setIfInBounds i true) a' w') a w
def JbR:∀(n:Nat)(l:Array Bool)(a:Act)(w:World),wpL P md ops Q S z n l a w->wpAny P md ops Q n l a w
 |0,_,_,_,h=>h
 |n+1,_,_,_,h=>⟨h.1,λi hi=>wpOp_mono (λa' w' h'=>JbR n _ a' w' h'.2) (h.2 i hi)⟩
def QfW(md:Region.Mode)(ops:Array Oper)(z i:Nat):Bool:=match ops[z]? with|some o=>o.after.any λe=>Region.binds md e&&e.on==i|none=>true
def JeE{i:Nat}{oi:Oper}{v:Value}(hi:ops[i]?=some oi)(FA:∀(j:Nat)(o:Oper) cs b,ops[j]?=some o->o.op≠.select cs b)
  (hQ:∀c a w,Q (.panic c) (a.put oi.dst v) w->Q (.panic c) a w) (hz:QfW md ops z i=true):
  ∀(n:Nat)(l:Array Bool)(a:Act)(w:World),
   (∀j oj,ops[j]?=some oj->j≠i->l.getD j true=false->(∀e∈oj.after,Region.binds md e=true->e.on≠i)->oi.apart ops oj=true)->
   i∈Region.ready md ops l->YieldsIf P ops S oi v a->S w->wpL P md ops Q S z n (l.setIfInBounds i true) (a.put oi.dst v) w->wpL P md ops Q S z (n+1) l a w:=by
 intro n
 induction n with
 |zero=>
  intro l a w _ hr hy hS H;refine⟨λh=>(by rw[h]at hr;cases hr),λj hj=>?_⟩
  by_cases C6:j=i
  ·subst C6;exact hy.wpOp hi hS ⟨.inr hS,H⟩
  ·have:=ready_mono hj C6;rw[H.1]at this
   cases this
 |succ n ih=>
  intro l a w xA hr hy hS H;refine⟨λh=>(by rw[h]at hr;cases hr),λj hj=>?_⟩
  by_cases C6:j=i
  ·subst C6;exact hy.wpOp hi hS ⟨.inr hS,H⟩
  ·have h1:=H.2 j (ready_mono hj C6);obtain⟨zA,oj,vA,aA⟩:=mem_ready.1 hj
   have uA:∀e∈oj.after,Region.binds md e=true->e.on≠i:=λe he hb heq=>by
    have h1:=aA e he hb;have h0:=(mem_ready.1 hr).1;rw[heq]at h1
    rcases Nat.lt_or_ge i l.size with h'|h'
    ·simp[h']at h0 h1;rw[h0]at h1;cases h1
    ·simp[Array.getElem?_eq_none h']at h1
   have cA:j≠z:=λe=>by
    subst e;unfold QfW at hz;rw[vA]at hz;obtain⟨e,he,hb⟩:=Array.any_eq_true'.1 hz;simp only[Bool.and_eq_true,beq_iff_eq]at hb;exact uA e he hb.1 hb.2
   have h2:=wpOp_putIf vA (xA j oj vA C6 zA uA) (λcs b=>FA i oi cs b hi) (λcs b=>FA j oj cs b vA) hQ hy h1
   have yA:∀k ok,ops[k]?=some ok->k≠i->(l.setIfInBounds j true).getD k true=false->
     (∀e∈ok.after,Region.binds md e=true->e.on≠i)->oi.apart ops ok=true:=λk ok hk hki hun hno=>by
    refine xA k ok hk hki ?_ hno
    by_cases BD:j=k
    ·subst BD;exact zA
    ·rw[getD_set_ne true BD]at hun;exact hun
   refine wpOp_mono (λa' w' h3=>?_) h2;have bA:S w':=h3.2.1.resolve_left cA;refine⟨.inr bA,ih (l.setIfInBounds j true) a' w' yA (ready_mono hr (Ne.symm C6)) h3.1 bA ?_⟩;rw[Array.setIfInBounds_comm _ _ C6];exact h3.2.2
def LK(i:Nat){d:Option Tmp}{o:Op}{t:TypeId}{p:String}{af:Array Edge}{g:Option (Nat×Bool)}{v:Value}{n:Nat}{l:Array Bool}{a a':Act}{w:World}(hi:ops[i]?=some ⟨d,o,t,p,af,g⟩)
  (h:wpL P md ops Q S z n (l.setIfInBounds i true) a' w)
  (hy:YieldsIf P ops S ⟨d,o,t,p,af,g⟩ v a:=by exact Or.inl ⟨by rfl,by intro wX hSw;(try dsimp only at hSw);go_simp<;>with_reducible rfl⟩)
  (ha:a.put d v=a':=by(simp only[zX]);rfl)
  (hS:S w:=by assumption) (hs:Region.noSelect ops=true:=by kernel_rfl) (hf:Region.free md ops l i=true:=by kernel_rfl) (hr:(Region.ready md ops l).contains i=true:=by kernel_rfl) (hz:QfW md ops z i=true:=by kernel_rfl)
  (hQ:∀c a w,Q (.panic c) (a.put d v) w->Q (.panic c) a w:=by exact λ_ _ _ h=>h):wpL P md ops Q S z (n+1) l a w:=by
 subst ha;exact JeE hi (Region.noSelect_spec hs) hQ hz n l a w (Region.free_spec hi hf) (by simpa using hr) hy hS h
def LO(i:Nat){d:Option Tmp}{oo:Op}{t:TypeId}{p:String}{af:Array Edge}{g:Option (Nat×Bool)}{n:Nat}{l:Array Bool}{a:Act}{w:World}(ho:ops[i]?=some ⟨d,oo,t,p,af,g⟩)
  (h:∀K':Act->World->Prop,Shut (∀a w,S w->(S w->wpL P md ops Q S z n (l.setIfInBounds i true) a w)->K' a w)->if Region.wanted ⟨d,oo,t,p,af,g⟩ (yielded ops a.tmps)=true then Oper.wp P ⟨d,oo,t,p,af,g⟩ a w K' Q else K' (a.put d undef) w)
  (hr:Region.ready md ops l=[i]:=by kernel_rfl):wpL P md ops Q S z (n+1) l a w:=by
 refine⟨λh0=>absurd (hr ▸ h0) zp,λj hj=>?_⟩;rw[hr]at hj;obtain rfl:j=i:=by simpa using hj
 exact wpOp_step ho λK' hK=>h K' λa w hS hW=>hK a w ⟨.inr hS,hW hS⟩
def LZ(i:Nat){d:Option Tmp}{oo:Op}{t:TypeId}{p:String}{af:Array Edge}{g:Option (Nat×Bool)}{n:Nat}{l:Array Bool}{a:Act}{w:World}(ho:ops[i]?=some ⟨d,oo,t,p,af,g⟩)
  (h:∀K':Act->World->Prop,Shut (∀a w,Q .normal a w->K' a w)->if Region.wanted ⟨d,oo,t,p,af,g⟩ (yielded ops a.tmps)=true then Oper.wp P ⟨d,oo,t,p,af,g⟩ a w K' Q else K' (a.put d undef) w)
  (hr:Region.ready md ops l=[i]:=by kernel_rfl) (hz:i=z:=by rfl) (hd:Region.ready md ops (l.setIfInBounds i true)=[]:=by kernel_rfl):wpL P md ops Q S z (n+1) l a w:=by
 refine⟨λh0=>absurd (hr ▸ h0) zp,λj hj=>?_⟩;rw[hr]at hj;obtain rfl:j=i:=by simpa using hj
 refine wpOp_step ho λK' hK=>h K' λa w hq=>hK a w ⟨.inl hz,?_⟩
 cases n with
 |zero=>exact⟨hd,hq⟩
 |succ n=>exact⟨λ_=>hq,by rw[hd];simp⟩
def LB(S:World->Prop)(z:Nat){id:Nat}{a:Act}{w:World}(hS:S w.drew)(h:S w.drew->wpL P .any ops Q S z ops.size (Array.replicate ops.size false) a w.drew)(hm:P.follows .mixedOrders=true:=by kernel_rfl):(Code.region id ops true).wp P Q a w:=
 wp_region_any hm (JbR _ _ _ _ (h hS))
end
def JgH(f lv:Nat)(h3:lv≠3)(h7:lv≠7)(r:List Tok):pM (f+1) (.level lv) r=(pM f (.level (lv+1)) r).bind λa r1=>pM f (.loop lv (hd r).off a) r1:=by rw[pM,if_neg h3,if_neg h7]
def JaB(f lv:Nat)(o:Int)(a:Nd){r:List Tok}(h:opK lv (hd r)=none):pM (f+1) (.loop lv o a) r=.ok a r:=by rw[pM,h]
def JaC(f lv:Nat)(o:Int)(a:Nd){r:List Tok}{k:Int}(h:opK lv (hd r)=some k):pM (f+1) (.loop lv o a) r=(pM f (.level (lv+1)) r.tail).bind λb r1=>pM f (.loop lv o (.mk k 0 [] o [a,b])) r1:=by rw[pM,h]
structure LvI(f lv:Nat)(of:Int)(X:PR Nd)(p:Nat)(A:Option Addr)(C:Nat)(T:List Tok)(w:World)(lo bx:Nat)(wr:World)(k2 f1:Nat)(a:An):Prop where
 eq:pM f1 (.loop lv of a.nd) (T.drop k2)=X
 le:f1<=f
 pat:PAt wr p A C T k2
 at':a.At wr
 made:Qcs lo wr.heap.size a
 box:wr.heap[bx]?=some (.cells (Qaa a) 119 (0,0))
 res:wr.heap[w.heap.size]?=some (.cells #[Iv 0,Iv 0,Em,Iv 0,Nl] 119 (0,0))
 chg:Chg [p] w wr
 low:w.heap.size<lo/\bx≠w.heap.size/\bx≠p/\w.heap.size<=bx
 lle:lo<=wr.heap.size
 nbx:bx∉foot a
def LvI.below{f lv:Nat}{of:Int}{X:PR Nd}{p:Nat}{A:Option Addr}{C:Nat}{T:List Tok}{w:World}{lo bx:Nat}{wr wr':World}{k2 f1:Nat}{a:An}(h:LvI f lv of X p A C T w lo bx wr k2 f1 a)(hb:Below wr.heap.size wr wr'):LvI f lv of X p A C T w lo bx wr' k2 f1 a:=
 ⟨h.eq,h.le,h.pat.chg hb,Kz h.at' h.made hb zzl,h.made.mono zzl hb.size,(hb.block _ (Jb h.box)).trans h.box,(hb.block _ (Jb h.res)).trans h.res,h.chg.trans (Chg.of_below hb [p]),h.low,Nat.le_trans h.lle hb.size,h.nbx⟩
def LvI.fin{f lv:Nat}{of:Int}{X:PR Nd}{p:Nat}{A:Option Addr}{C:Nat}{T:List Tok}{w:World}{lo bx:Nat}{wr:World}{k2 f1:Nat}{a:An}(h:LvI f lv of X p A C T w lo bx wr k2 f1 a)(hp:p<w.heap.size)(hT:∀b o,A=some ⟨b,o,none⟩->b<w.heap.size)(v0 v1 v2 v3 v4:Value):
  a.At (put5 wr w.heap.size v0 v1 v2 v3 v4)/\Qcs w.heap.size (put5 wr w.heap.size v0 v1 v2 v3 v4).heap.size a/\PAt (put5 wr w.heap.size v0 v1 v2 v3 v4) p A C T k2/\Chg [p] w (put5 wr w.heap.size v0 v1 v2 v3 v4):=by
 have hc:=J5 (S:=[w.heap.size]) (W:=wr) v0 v1 v2 v3 v4 (by simp:w.heap.size∈[w.heap.size]);refine⟨Zf h.at' h.made hc zzl λb hb=>by have:=h.low.1;simp at hb;omega,?_,h.pat.put5 (Ne.symm (ne_of_lt hp)) (λb o e=>by have:=hT b o e;omega) _ _ _ _ _,h.chg.step hc λb hb=>.inr (by simp at hb;omega)⟩;rw[J8];exact h.made.mono (Nat.le_of_lt h.low.1) zzl
def JgI{lv:Nat}{t:Tok}{k:Int}(h:opK lv t=some k):t.kind≠4:=by
 intro e;unfold opK at h;rw[if_neg (by rw[e];simp),if_neg (by rw[e];simp),if_pos (by rw[e];decide)]at h
 cases h
def LvI.step{f lv:Nat}{of:Int}{X:PR Nd}{p:Nat}{A:Option Addr}{C:Nat}{T:List Tok}{w:World}{lo bx:Nat}{wr w5 w6:World}{k2 k4 f2:Nat}{kk:Int}{a b:An}{cs:Array Value}(h:LvI f lv of X p A C T w lo bx wr k2 (f2+1) a)
  (L4:Chg [p] wr w5) (X6:b.At w6) (X7:Qcs w5.heap.size w6.heap.size b) (j6:PAt w6 p A C T k4) (j0:Chg [p] w5 w6) (hT:∀b o,A=some ⟨b,o,none⟩->b<w.heap.size) (hp:p<w.heap.size)
  (he:pM f2 (.loop lv of (.mk kk 0 [] of [a.nd,b.nd])) (T.drop k4)=X) (hcs:cs.toList=Qdx [a,b]):
  LvI f lv of X p A C T w lo bx ((put5 w6 bx (Iv kk) (Iv 0) (.string (bs [])) (Iv of) (.slice (some ⟨w6.heap.size,0,none⟩) 2 2)).alloc (.cells cs 119)) k4 f2 (.mk kk 0 [] of w6.heap.size 2 [a,b]):=by
 obtain⟨l1,l2,l3,l4⟩:=h.low;have hsz:=J8 w6 bx (Iv kk) (Iv 0) (.string (bs [])) (Iv of) (.slice (some ⟨w6.heap.size,0,none⟩) 2 2);have aA:=J5 (S:=[bx]) (W:=w6) (Iv kk) (Iv 0) (.string (bs [])) (Iv of) (.slice (some ⟨w6.heap.size,0,none⟩) 2 2) (by simp:bx∈[bx]);have h6:=L4.trans j0;have zA:=h6.heap_some (by simpa using l3) h.box;have yA:=h6.heap_some zq h.res;have uA:=zzw (put5 w6 bx (Iv kk) (Iv 0) (.string (bs [])) (Iv of) (.slice (some ⟨w6.heap.size,0,none⟩) 2 2)) (.cells cs 119);rw[hsz]at uA
 have vA:∀q,q<w6.heap.size->q≠bx->((put5 w6 bx (Iv kk) (Iv 0) (.string (bs [])) (Iv of) (.slice (some ⟨w6.heap.size,0,none⟩) 2 2)).alloc (.cells cs 119)).heap[q]?=w6.heap[q]?:=λq hq hn=>
  (Below.heap_alloc _ _ _ (by rw[hsz];exact hq)).trans (aA.block q hq (by simpa using hn))
 have dA:p<lo:=zo
 have cA:Qcs lo w5.heap.size a:=h.made.mono zzl L4.size;have M6:lo<=w5.heap.size:=Nat.le_trans h.lle L4.size;have eA:QdK lo w6.heap.size [a,b]:=⟨w5.heap.size,M6,cA,w6.heap.size,j0.size,X7,le_refl _⟩
 have C3:bx<w5.heap.size:=Nat.lt_of_lt_of_le (Jb h.box) L4.size;have bA:w.heap.size<w6.heap.size:=Jb yA;refine⟨he,by have:=h.le;omega,?_,?_,?_,?_,?_,?_,h.low,?_,?_⟩
 ·exact(j6.put5 l3 (λq o e=>by have:=hT q o e;omega) _ _ _ _ _).chg (zzb.alloc zzl _)
 ·unfold An.At;refine⟨λ_ j=>Jc uA j,Kp [a,b] 0 (λj u hu=>?_) λx hx=>?_⟩
  ·rw[Nat.zero_mul,Nat.zero_add];exact Ks uA (by rw[hcs];exact hu)
  ·rcases List.mem_cons.1 hx with rfl|hx
   ·refine JE _ h.at' λq hq=>?_
    have Q4:=h.made.2 q hq;exact(vA q (Nat.lt_of_lt_of_le Q4.2 h6.size) λe=>h.nbx (e ▸ hq)).trans (h6.block q Q4.2 zq)
   ·obtain rfl:x=b:=by simpa using hx
    refine JE _ X6 λq hq=>?_
    have Q4:=X7.2 q hq;exact vA q Q4.2 zo
 ·rw[World.size_alloc,hsz];exact Jas eA zzl kk 0 [] of 2
 ·obtain⟨xA,xn,xc,T1⟩:=Jg a;rw[T1]at zA;exact Vn _ _ _ _ _ _ zA
 ·exact(vA _ bA (Ne.symm l2)).trans yA
 ·exact((h.chg.trans h6).step aA λq hq=>.inr (by simp at hq;omega)).alloc _
 ·rw[World.size_alloc,hsz];have:=j0.size;omega
 ·unfold foot;simp only[List.mem_cons,List.mem_append,Qaf,List.append_nil];rintro (h1|h1|h1)
  ·have:=j0.size;omega
  ·exact h.nbx h1
  ·have:=(X7.2 _ h1).1;omega
def Vt(lv:Nat)(z z1:Int)(hlv:lv≠3/\lv≠7)(hz3:(z==3)=false)(hz7:(z==7)=false)(hz:IntKind.i64.wrap (z+1)=z1)(oper:∀(t:Tok)(w:World),Calls prog 131 #[Iv z,.agg (Qdw t)] w (OpP w (opK lv t)))(f p:Nat)(A:Option Addr)(C:Nat)(T:List Tok)
  (I1:∀g,g<=f->∀k w,PAt w p A C T k->pM g (.level (lv+1)) (T.drop k)≠.out->Calls prog 105 #[Pt p,Iv z1] w (NdP p A C T w (pM g (.level (lv+1)) (T.drop k))))
  (k:Nat) (w:World) (h:PAt w p A C T k) (hne:pM (f+1) (.level lv) (T.drop k)≠.out):
  Calls prog 105 #[Pt p,Iv z] w (NdP p A C T w (pM (f+1) (.level lv) (T.drop k))):=by
 obtain⟨X,hX⟩:∃X,pM (f+1) (.level lv) (T.drop k)=X:=⟨_,rfl⟩
 have uA:=JgH f lv hlv.1 hlv.2 (T.drop k);rw[hX]at hne uA |-;obtain⟨R,hR⟩:∃R,NdP p A C T w X=R:=⟨_,rfl⟩
 rw[hR];have HR:Hi (R=NdP p A C T w X):=hR.symm;have S1:=Zh hne;have hZ:=zzw w (.cells #[Iv 0,Iv 0,Em,Iv 0,Nl] 119);have hB:=(Below.refl w.heap.size w).alloc zzl (.cells #[Iv 0,Iv 0,Em,Iv 0,Nl] 119);have cp:=Kc p A C T k _ (h.chg hB);obtain⟨of,vB⟩:∃of,(hd (T.drop k)).off=of:=⟨_,rfl⟩
 unfold QhL at cp;have hfl:∀(t:Tok)(W:World),(Instr.field 105 (.agg (Qdw t)) 3).run prog W=.ok (Iv t.off) W:=λt W=>by obtain⟨a,b,c,d⟩:=t;kernel_rfl
 have rA:=hfl (hd (T.drop k));rw[vB]at rA uA;generalize Qdw (hd (T.drop k))=tv at*;have HP:=Zh (h.chg hB);have HZ:=Zh hZ;have HB:=Zh hB;have A3:=Zh h.chg1;have P5:=Zh h.tokLt;have gA:=Zh uA;have F4:pM f (.level (lv+1)) (T.drop k)≠.out:=Kj (by rw[<-gA.o];exact hne);clear h hne hR hZ hB hfl vB uA hX;go_enter func105,ntmps105;go_wp2_with fail;refine cp.mono ?_;rintro e w1 ⟨rfl,A0⟩;have F7:=Zh (HP.o.chg A0);have sA:Hi (w1.heap[w.heap.size]?=some (.cells #[Iv 0,Iv 0,Em,Iv 0,Nl] 119)):=(A0.block _ (Jb HZ.o)).trans HZ.o;have nA:=Zh (HB.o.trans (A0.mono HB.o.size));have zB:Hi (w.heap.size<w1.heap.size):=Jb sA.o;have H5:w.heap.size≠p:=by have:=A3.o;omega
 clear cp A0 HP HZ HB;go_wp2_with fail;refine(I1 f zzl k w1 F7.o F4).mono ?_;intro e w2 h2
 cases hx:pM f (.level (lv+1)) (T.drop k) with
 |out=>exact absurd hx F4
 |bad q=>
  rw[hx]at h2;obtain⟨rfl,E1⟩:=h2;refine⟨rfl,?_⟩;rw[HR.o,gA.o,hx];exact⟨rfl,(Chg.of_below nA.o [p]).trans E1⟩
 |ok nd r=>
 rw[hx]at h2;obtain⟨a,iB,rfl,hat,S6,⟨k2,hr,C2⟩,E1⟩:=h2;subst iB hr;have hzz:=E1.heap_some (by simp;exact H5) sA.o;have eA:Below w2.heap.size w2 (w2.alloc (.cells (Qaa a) 119)):=zzb.alloc zzl _;have kA:Hi (∃k2 a',LvI f lv of X p A C T w w1.heap.size w2.heap.size (w2.alloc (.cells (Qaa a) 119)) k2 f a'):=⟨k2,a,by rw[gA.o,hx];rfl,le_refl _,C2.chg eA,Kz hat S6 eA zzl,S6.mono zzl zp,zzw _ _,(eA.block _ (Jb hzz)).trans hzz,((Chg.of_below nA.o [p]).trans E1).alloc _,⟨zB.o,by have:=Jb hzz;omega,by have:=C2.chg1;have:=A3.o;have:=E1.size;have:=zB.o;omega,by have:=Jb hzz;omega⟩,by have:=E1.size;simp;omega,λhm=>by have:=(S6.2 _ hm).2;omega⟩
 obtain⟨xA,xn,xc,T1⟩:=Jg a;rw[T1]at kA |-;clear hx hat S6 C2 E1 T1 hzz eA gA sA F7 nA F4;go_wp2;generalize gB:World.alloc w2 _=wb at*;clear gB;generalize w2.heap.size=bx at*;generalize w1.heap.size=lo at*;go_loopg [] f λg wr=>Hi (∃k2 a,LvI f lv of X p A C T w lo bx wr k2 g a)
 case atStart=>exact kA
 case round=>
 clear kA;obtain⟨wl,rfl⟩:=zG wr
 obtain⟨k2,a,hI⟩:=hrel.o
 cases gk with
 |zero=>exact absurd hI.eq.symm S1.o
 |succ f2=>
 have cp:=Kc p A C T k2 wl hI.pat;have co:=λW=>oper (hd (T.drop k2)) W
 obtain⟨op,iA⟩:∃op,opK lv (hd (T.drop k2))=op:=⟨_,rfl⟩
 have uB:∀kk,op=some kk->(hd (T.drop k2)).kind≠4:=λkk e=>JgI (iA.trans e)
 have vA:∀kk,op=some kk->k2+1<T.length:=λkk e=>hI.pat.more (uB kk e)
 unfold QhL at cp;unfold OpP at co;rw[iA]at co;have HI:=Zh hI;have hA:=Zh iA;have mA:=Zh vA;generalize Qdw (hd (T.drop k2))=tv2 at*;clear hI iA uB vA hrel;go_wp2_with fail;refine cp.mono ?_;rintro e w3 ⟨rfl,dB⟩;go_wp2_with fail;refine(co _).mono ?_;rintro e w4 ⟨rfl,bB⟩;have zA:=(HI.o.below dB).below bB;clear cp co dB bB
 cases op with
 |none=>
  have aA:=(JaB f2 lv of a.nd hA.o).symm.trans HI.o.eq;obtain⟨xA,xn,xc,T1⟩:=Jg a;have E0:=Zh λv0 v1 v2 v3 v4=>zA.fin A3.o P5.o v0 v1 v2 v3 v4;have U0:=zA.box;have Q0:=zA.res;rw[T1]at U0;obtain⟨b0,b1,b2,b3,b4⟩:=Jj U0;obtain⟨z0,z1,z2,z3,z4⟩:=Jj Q0;have hf:=λj=>Jc Q0 j
  have y0:=hf 0;have y1:=hf 1;have y2:=hf 2;have y3:=hf 3;have y4:=hf 4;have X4:=Zh Q0;have O4:=Zh T1;have Q2:=Zh aA;clear hf U0 Q0 zA T1 aA HI hA mA I1;simp only[Option.getD,Option.isSome];go_wp2;refine bodyPost_ret (v:=.agg (Qaa a)) (by rw[O4.o];exact results_cell_row rfl _ _ w.heap.size 119 _ (0,0) _ rfl (QcM _ _ _ _ _ X4.o) underlying119 rfl Qaq) rfl ?_;rw[HR.o,<-Q2.o];obtain⟨e1,e2,e3,e4⟩:=E0.o _ _ _ _ _;exact⟨_,rfl,rfl,e1,e2,⟨k2,rfl,e3⟩,e4⟩
 |some kk=>
  have aA:=(JaC f2 lv of a.nd hA.o).symm.trans HI.o.eq;rw[tail_drop]at aA;have I5:pM f2 (.level (lv+1)) (T.drop (k2+1))≠.out:=Kj (by rw[aA];exact S1.o);have hk1:=mA.o kk rfl;have wk:IntKind.i64.wrap ((k2:Int)+1)=(k2:Int)+1:=IntWalk.i64_in _ (zt zA.pat.room);have pc:=Ja zA.pat.self 1;have pf:=Jc zA.pat.self 1;simp only[zW]at pc;have cA:=Zh zA;have qA:=Zh aA;have eB:f2<=f:=by have:=cA.o.le;omega
  clear HI hA mA aA zA;simp only[Option.getD,Option.isSome];go_upto_region 16 with fail;obtain⟨w5,jA⟩:∃w5,w4.setCell ⟨p,1,none⟩ (Iv ((k2:Int)+1))=w5:=⟨_,rfl⟩
  rw[jA];have tA:Below w5.heap.size w5 w5.drew:=(Below.refl w5.heap.size w5).drew
  have A7:Hi (Chg [p] w4 w5.drew):=by
   have h5:=(Chg.of_below (Below.refl w4.heap.size w4) [p]).setCell (.inl (by simp:p∈[p])) (p:=⟨p,1,none⟩) (Iv ((k2:Int)+1));rw[jA]at h5;exact h5.trans (Chg.of_below tA [p])
  have Q7:Hi (PAt w5.drew p A C T (k2+1)):=by
   have h5:=cA.o.pat.next hk1;rw[show (w4.setCell ⟨p,1,none⟩ (Iv ((k2+1:Nat):Int)))=w5 from jA]at h5;exact h5.chg tA
  have yB:Hi (bx≠p/\True):=⟨cA.o.low.2.2.1,trivial⟩
  obtain⟨aB,xB,cB,T1⟩:=Jg a;have bA:=A7.o.heap_some (by simp;exact yB.o.1) cA.o.box;rw[T1]at bA;have P2:=Zh bA;have O4:=Zh T1;clear bA T1 tA pc pf jA;have h5:=Jj P2.o;refine LB (λW=>C5 W bx (Iv a.kind) (Iv a.num) (.string (bs a.name)) (Iv a.off) (.slice aB xB cB)) 9 (by simp[*,C5,World.cell?_alloc_some,World.cell?_setCell_far]) λhH=>?_
  refine LK 0 rfl ?_;refine LK 1 rfl ?_;refine LK 2 rfl ?_;refine LK 3 rfl ?_;refine LK 4 rfl ?_;refine LK 5 rfl ?_;refine LO 6 rfl λK hK=>?_
  go_simp;go_at_call 105;refine NdP.call (I1 f2 zo (k2+1) _ Q7.o I5) I5 (λq _ hx j0=>by exact⟨rfl,by rw[HR.o,<-qA.o,hx];exact⟨rfl,(cA.o.chg.trans A7.o).trans j0⟩⟩) λb w6 k4 yA yn yc hx I4 B6=>?_
  have dA:=Zh B6;have P7:=Zh hx;have R7:=Zh I4;have U0:=B6.2.2.2.heap_some (by simp;exact yB.o.1) P2.o;replace h5:=Jj U0;have f5:=Jp U0;have pA:=Jb U0;clear hx I4 B6 I5 U0;refine zU hK (h5) λhH=>?_
  clear hK K;refine LO 7 rfl λK hK=>?_
  go_simp;refine zU hK (by simp[*,C5,World.cell?_alloc_some,World.cell?_setCell_far]) λhH=>?_
  clear hK K;refine LK 8 rfl ?_;refine LZ 9 rfl λK hK=>?_
  go_simp;refine hK.out _ _ ?_;clear hK K;have D2:=Zh (LvI.step (cs:=#[Iv a.kind,Iv a.num,.string (bs a.name),Iv a.off,.slice aB xB cB,Iv b.kind,Iv b.num,.string (bs b.name),Iv b.off,.slice yA yn yc]) cA.o A7.o dA.o.1 dA.o.2.1 dA.o.2.2.1 dA.o.2.2.2 P5.o A3.o (by rw[<-qA.o,P7.o];rfl) (by simp[Qdx,O4.o,R7.o]));clear P2 dA P7 R7 O4 qA pA;go_wp2;go_roundg f2
  case measure=>exact Nat.lt_succ_self _
  case rel=>exact⟨_,_,D2.o⟩
def JiA(f p:Nat)(A:Option Addr)(C:Nat)(T:List Tok)(I1:∀g,g<=f->∀k w,PAt w p A C T k->pM g (.level 2) (T.drop k)≠.out->Calls prog 105 #[Pt p,Iv 2] w (NdP p A C T w (pM g (.level 2) (T.drop k)))):∀k w,PAt w p A C T k->pM (f+1) (.level 1) (T.drop k)≠.out->Calls prog 105 #[Pt p,Iv 1] w (NdP p A C T w (pM (f+1) (.level 1) (T.drop k))):=Vt 1 1 2 zd rfl rfl zd JjO f p A C T I1
def JiB(f p:Nat)(A:Option Addr)(C:Nat)(T:List Tok)(I1:∀g,g<=f->∀k w,PAt w p A C T k->pM g (.level 3) (T.drop k)≠.out->Calls prog 105 #[Pt p,Iv 3] w (NdP p A C T w (pM g (.level 3) (T.drop k)))):∀k w,PAt w p A C T k->pM (f+1) (.level 2) (T.drop k)≠.out->Calls prog 105 #[Pt p,Iv 2] w (NdP p A C T w (pM (f+1) (.level 2) (T.drop k))):=Vt 2 2 3 zd rfl rfl zd JjP f p A C T I1
def JiC(f p:Nat)(A:Option Addr)(C:Nat)(T:List Tok)(I1:∀g,g<=f->∀k w,PAt w p A C T k->pM g (.level 6) (T.drop k)≠.out->Calls prog 105 #[Pt p,Iv 6] w (NdP p A C T w (pM g (.level 6) (T.drop k)))):∀k w,PAt w p A C T k->pM (f+1) (.level 5) (T.drop k)≠.out->Calls prog 105 #[Pt p,Iv 5] w (NdP p A C T w (pM (f+1) (.level 5) (T.drop k))):=Vt 5 5 6 zd rfl rfl zd JjQ f p A C T I1
def JiD(f p:Nat)(A:Option Addr)(C:Nat)(T:List Tok)(I1:∀g,g<=f->∀k w,PAt w p A C T k->pM g (.level 7) (T.drop k)≠.out->Calls prog 105 #[Pt p,Iv 7] w (NdP p A C T w (pM g (.level 7) (T.drop k)))):∀k w,PAt w p A C T k->pM (f+1) (.level 6) (T.drop k)≠.out->Calls prog 105 #[Pt p,Iv 6] w (NdP p A C T w (pM (f+1) (.level 6) (T.drop k))):=Vt 6 6 7 zd rfl rfl zd JjR f p A C T I1
end Go.Proofs.YtncanmdgdflnpaaGreatDoor


