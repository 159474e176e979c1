import Derived.Deep.RegionHeld3
import Derived.Test.YtfafpklefknomaaGreatDoorR01
import Derived.Test.YtfafpklefknomaaGreatDoorR02
namespace Go.Proofs.YtfafpklefknomaaGreatDoor
open _root_.Go.Proofs.Tryz
set_option linter.all false
set_option maxRecDepth 100000
set_option maxHeartbeats 32000000
inductive Nd where
 |mk (kind n:Int) (name:By) (off:Int) (kids:List Nd)
inductive Exp where
 |mk (kind n:Int) (name:By) (kids:List Exp)
structure FnM where
 name:By
 params:List Int
 result:Int
 body:Exp
structure ClM where
 cond:Exp
 action:Int
 reason:By
structure Qah where
 funcs:List FnM
 clauses:List ClM
 action:Int
def QaR:Qah:=⟨[],[],0⟩
def Nd.kind:Nd->Int|.mk k _ _ _ _=>k
def Nd.num:Nd->Int|.mk _ n _ _ _=>n
def Nd.name:Nd->By|.mk _ _ s _ _=>s
def Nd.off:Nd->Int|.mk _ _ _ o _=>o
def Nd.kids:Nd->List Nd|.mk _ _ _ _ l=>l
def Exp.kind:Exp->Int|.mk k _ _ _=>k
def Exp.num:Exp->Int|.mk _ n _ _=>n
def Exp.name:Exp->By|.mk _ _ s _=>s
def Exp.kids:Exp->List Exp|.mk _ _ _ l=>l
def Qih:By:=[97,110,100]
def QeA:By:=[98,111,111,108]
def Qig:By:=[100,101,102]
def Qdd:By:=[100,101,102,97,117,108,116]
def Qfs:By:=[101,108,115,101]
def QeN:By:=[102,97,108,115,101]
def Qez:By:=[104,105,100,101]
def kIf:By:=[105,102]
def kIn:By:=[105,110]
def QgB:By:=[105,110,116]
def QeM:By:=[108,97,98,101,108]
def QgA:By:=[108,101,116]
def QdF:By:=[108,105,109,105,116]
def QdE:By:=[109,101,100,105,97]
def QgQ:By:=[110,111,116]
def kOr:By:=[111,114]
def Qey:By:=[115,104,111,119]
def Qen:By:=[116,104,101,110]
def QfU:By:=[116,114,117,101]
def Qfr:By:=[119,104,101,110]
def QfT:By:=[119,111,114,100]
def Qco:By:=[108,105,107,101,115]
def Qch:By:=[98,111,111,115,116,115]
def QbD:By:=[114,101,112,108,105,101,115]
def QbC:By:=[114,101,112,111,114,116,115]
def QfI:By:=[97,103,101]
def QdQ:By:=[104,111,109,101]
def QcS:By:=[115,99,111,112,101]
def Qcg:By:=[108,101,110,103,116,104]
def QbE:By:=[102,111,108,108,111,119,115]
def Qep:By:=[114,101,112,108,121]
def Qaq(s:By):Bool:=decide (s∈[Qih,QeA,Qig,Qdd,Qfs,QeN,Qez,kIf,kIn,QgB,QeM,QgA,QdF,QdE,QgQ,kOr,Qey,Qen,QfU,Qfr,QfT])
def QaU(s:By):Option Int:=
 if s∈[Qco,Qch,QbD,QbC,QfI,QdQ,QcS,Qcg] then some 0 else if s∈[QbE,Qep] then some 1 else none
def Qbr(s:By):Bool:=
 match s with
 |[]=>false
 |c::r=>decide (s.length<=24)&&Qef c&&(c::r).all Qdw&&(QaU s).isNone&&!Qaq s
def QcD(s:By):Bool:=s.all (λc=>decide (32<=c.toNat)&&decide (c.toNat<=126)&&c !=34&&c !=92)&&decide (s.length<=24)
inductive PR(α:Type) where
 |out
 |bad (off:Int)
 |ok (a:α) (r:List Tok)
def Qfy:Tok:=⟨4,[],0,0⟩
def hd(r:List Tok):Tok:=r.headD Qfy
def acc(k:Int)(s:By)(r:List Tok):Option (List Tok):=if (hd r).kind=k/\(hd r).text=s then some r.tail else none
def Qar(k:Int)(s:By)(r:List Tok):PR Unit:=match acc k s r with|some r'=>.ok () r'|none=>.bad (hd r).off
def PR.bind{α β:Type}(x:PR α)(f:α->List Tok->PR β):PR β:=match x with|.out=>.out|.bad o=>.bad o|.ok a r=>f a r
def Qbb(r:List Tok):PR (By × Int):=if (hd r).kind=0/\Qbr (hd r).text=true then .ok ((hd r).text,(hd r).off) r.tail else .bad (hd r).off
def Qct(r:List Tok):PR By:=if (hd r).kind=2 then .ok (hd r).text r.tail else .bad (hd r).off
def QaL(r:List Tok):PR By:=(Qar 3 [40] r).bind λ_ r1=>(Qct r1).bind λs r2=>(Qar 3 [41] r2).bind λ_ r3=>.ok s r3
def opK(lv:Nat)(t:Tok):Option Int:=
 if t.kind=0/\lv=1/\t.text=kOr then some 17
 else if t.kind=0/\lv=2/\t.text=Qih then some 16
 else if t.kind≠3 then none
 else if lv=5/\t.text=[43] then some 8
 else if lv=5/\t.text=[45] then some 9
 else if lv=6/\t.text=[42] then some 10
 else if lv=6/\t.text=[47] then some 11
 else if lv=6/\t.text=[37] then some 12
 else none
def Qeh(t:Tok):Option Int:=
 if t.kind≠3 then none
 else if t.text=[61,61]\/t.text=[33,61] then some 15
 else if t.text=[60]\/t.text=[62] then some 13
 else if t.text=[60,61]\/t.text=[62,61] then some 14
 else none
def QdV(t:Tok)(k:Int)(a b:Nd):Nd:=
 if t.text=[62]\/t.text=[62,61] then .mk k 0 [] a.off [b,a]
 else if t.text=[33,61] then .mk 7 0 [] a.off [.mk k 0 [] a.off [a,b]]
 else .mk k 0 [] a.off [a,b]
inductive Md where
 |expr
 |level (lv:Nat)
 |loop (lv:Nat) (off:Int) (a:Nd)
 |cmp
 |prim
 |named
 |args (name:By) (off:Int) (l:List Nd)
def pM:Nat->Md->List Tok->PR Nd
 |0,_,_=>.out
 |f+1,.expr,r=>
  match acc 0 QgA r with
  |some r1=>(Qbb r1).bind λnm r2=>(Qar 3 [61] r2).bind λ_ r3=>(pM f .expr r3).bind λv r4=>(Qar 0 kIn r4).bind λ_ r5=>(pM f .expr r5).bind λb r6=>.ok (.mk 19 0 nm.1 (hd r).off [v,b]) r6
  |none=>
   match acc 0 kIf r with
   |some r1=>(pM f .expr r1).bind λc r2=>(Qar 0 Qen r2).bind λ_ r3=>(pM f .expr r3).bind λy r4=>(Qar 0 Qfs r4).bind λ_ r5=>(pM f .expr r5).bind λz r6=>.ok (.mk 18 0 [] (hd r).off [c,y,z]) r6
   |none=>pM f (.level 1) r
 |f+1,.level lv,r=>
  if lv=3 then
   match acc 0 QgQ r with
   |some r1=>(pM f (.level 3) r1).bind λa r2=>.ok (.mk 7 0 [] (hd r).off [a]) r2
   |none=>pM f .cmp r
  else if lv=7 then
   match acc 3 [45] r with
   |some r1=>(pM f (.level 7) r1).bind λa r2=>.ok (.mk 6 0 [] (hd r).off [a]) r2
   |none=>pM f .prim r
  else (pM f (.level (lv+1)) r).bind λa r1=>pM f (.loop lv (hd r).off a) r1
 |f+1,.loop lv o a,r=>
  match opK lv (hd r) with
  |none=>.ok a r
  |some k=>(pM f (.level (lv+1)) r.tail).bind λb r1=>pM f (.loop lv o (.mk k 0 [] o [a,b])) r1
 |f+1,.cmp,r=>
  (pM f (.level 5) r).bind λa r1=>
   match Qeh (hd r1) with
   |none=>.ok a r1
   |some k=>(pM f (.level 5) r1.tail).bind λb r2=>.ok (QdV (hd r1) k a b) r2
 |f+1,.prim,r=>
  if (hd r).kind=1 then .ok (.mk 0 (hd r).n [] (hd r).off []) r.tail
  else match acc 3 [40] r with
  |some r1=>(pM f .expr r1).bind λn r2=>(Qar 3 [41] r2).bind λ_ r3=>.ok (.mk n.kind n.num n.name (hd r).off n.kids) r3
  |none=>
   match acc 0 QeN r with
   |some r1=>.ok (.mk 1 0 [] (hd r).off []) r1
   |none=>
    match acc 0 QfU r with
    |some r1=>.ok (.mk 1 1 [] (hd r).off []) r1
    |none=>
     match acc 0 QeM r with
     |some r1=>(QaL r1).bind λs r2=>.ok (.mk 4 0 s (hd r).off []) r2
     |none=>
      match acc 0 QfT r with
      |some r1=>(QaL r1).bind λs r2=>.ok (.mk 5 0 s (hd r).off []) r2
      |none=>if (QaU (hd r).text).isSome/\(hd r).kind=0 then .ok (.mk 3 0 (hd r).text (hd r).off []) r.tail else pM f .named r
 |f+1,.named,r=>
  (Qbb r).bind λnm r1=>
   match acc 3 [40] r1 with
   |none=>.ok (.mk 2 0 nm.1 nm.2 []) r1
   |some r2=>
    match acc 3 [41] r2 with
    |some r3=>.ok (.mk 20 0 nm.1 nm.2 []) r3
    |none=>pM f (.args nm.1 nm.2 []) r2
 |f+1,.args nm o l,r=>
  (pM f .expr r).bind λa r1=>
   match acc 3 [44] r1 with
   |some r2=>pM f (.args nm o (l++[a])) r2
   |none=>(Qar 3 [41] r1).bind λ_ r2=>.ok (.mk 20 0 nm o (l++[a])) r2
structure FnS where
 name:By × Int
 params:List (By × Int)
 types:List Int
 result:Int
 body:Nd
structure ClS where
 cond:Nd
 action:Int
 reason:By
structure Src where
 funcs:List FnS
 clauses:List ClS
 action:Int
def Qdu(r:List Tok):PR Int:=match acc 0 QgB r with|some r1=>.ok 0 r1|none=>match acc 0 QeA r with|some r1=>.ok 1 r1|none=>.bad (hd r).off
def Qdg(r:List Tok):PR Int:=
 match acc 0 Qey r with
 |some r1=>.ok 0 r1
 |none=>match acc 0 QdE r with
  |some r1=>.ok 1 r1
  |none=>match acc 0 QdF r with
   |some r1=>.ok 2 r1
   |none=>match acc 0 Qez r with
    |some r1=>.ok 3 r1
    |none=>.bad (hd r).off
def QaQ:Nat->List (By × Int)->List Int->List Tok->PR (List (By × Int) × List Int)
 |0,_,_,_=>.out
 |f+1,ps,ts,r=>(Qbb r).bind λnm r1=>(Qar 3 [58] r1).bind λ_ r2=>(Qdu r2).bind λt r3=>
  match acc 3 [44] r3 with
  |some r4=>QaQ f (ps++[nm]) (ts++[t]) r4
  |none=>(Qar 3 [41] r3).bind λ_ r4=>.ok (ps++[nm],ts++[t]) r4
def Qeg(f:Nat)(r:List Tok):PR FnS:=
 (Qbb r).bind λnm r1=>(Qar 3 [40] r1).bind λ_ r2=>
  (match acc 3 [41] r2 with
   |some r3=>PR.ok ([],[]) r3
   |none=>QaQ f [] [] r2).bind λpt r3=>(Qar 3 [58] r3).bind λ_ r4=>(Qdu r4).bind λt r5=>(Qar 3 [61] r5).bind λ_ r6=>(pM f .expr r6).bind λb r7=>.ok ⟨nm,pt.1,pt.2,t,b⟩ r7
def QcF(g:Nat):Nat->List FnS->List Tok->PR (List FnS)
 |0,_,_=>.out
 |f+1,l,r=>match acc 0 Qig r with|some r1=>(Qeg g r1).bind λx r2=>QcF g f (l++[x]) r2|none=>.ok l r
def QaP(g:Nat):Nat->List ClS->List Tok->PR (List ClS)
 |0,_,_=>.out
 |f+1,l,r=>match acc 0 Qfr r with
  |some r1=>(pM g .expr r1).bind λc r2=>(Qar 0 Qen r2).bind λ_ r3=>(Qdg r3).bind λa r4=>(Qct r4).bind λs r5=>QaP g f (l++[⟨c,a,s⟩]) r5
  |none=>.ok l r
def QdU(f:Nat)(r:List Tok):PR Src:=
 (QcF f f [] r).bind λfs r1=>(QaP f f [] r1).bind λcs r2=>(Qar 0 Qdd r2).bind λ_ r3=>(Qdg r3).bind λa r4=>if (hd r4).kind=4 then .ok ⟨fs,cs,a⟩ r4 else .bad (hd r4).off
mutual
def Qag:Nd->Nat
 |.mk _ _ _ _ l=>QbL l+1
def QbL:List Nd->Nat
 |[]=>0
 |a::l=>max (Qag a) (QbL l)
end
def Src.roots(s:Src):List Nd:=s.funcs.map (·.body)++s.clauses.map (·.cond)
def QbN(s:Src):Option Int:=(s.roots.find? λn=>decide (40<Qag n)).map Nd.off
def QaZ:List Int->Option Int
 |[]=>none
 |a::l=>some (match QaZ l with|none=>a|some b=>min a b)
def QaY(vars:List By)(s:By):Int:=
 (vars.foldl (λ(p:Int × Int) v=>(p.1+1,if v=s then p.1 else p.2)) (0,-1)).2
def Qal(fs:List By)(s:By):Option Nat:=fs.findIdx? λv=>decide (v=s)
mutual
def QcQ(fs:List By):List By->Nd->Nd × List Int
 |vars,.mk k n s o l=>
  if k=2 then
   let r:=QbS fs vars l
   (.mk k (QaY vars s) [] o r.1,(if QaY vars s<0 then [o] else [])++r.2)
  else if k=20 then
   let r:=QbS fs vars l
   (.mk k ((Qal fs s).getD 0) [] o r.1,(if (Qal fs s).isNone then [o] else [])++r.2)
  else if k=19 then
   match l with
   |[a,b]=>
    let x:=QcQ fs vars a
    let y:=QcQ fs (vars++[s]) b
    (.mk k vars.length [] o [x.1,y.1],x.2++y.2)
   |l=>(.mk k n s o l,[])
  else
   let r:=QbS fs vars l
   (.mk k n s o r.1,r.2)
def QbS(fs:List By):List By->List Nd->List Nd × List Int
 |_,[]=>([],[])
 |vars,a::l=>let x:=QcQ fs vars a;let y:=QbS fs vars l;(x.1::y.1,x.2++y.2)
end
def Qdk:List (By × Int)->List By->List Int
 |[],_=>[]
 |(s,o)::l,seen=>(if s∈seen then [o] else [])++Qdk l (seen++[s])
def resF(fs:List By)(f:FnS):FnS × List Int:=
 let b:=QcQ fs (f.params.map (·.1)) f.body
 ({ f with body:=b.1 },Qdk f.params []++b.2)
def resC(fs:List By)(c:ClS):ClS × List Int:=
 let b:=QcQ fs [] c.cond
 ({ c with cond:=b.1 },b.2)
def Qae(s:Src):Src × List Int:=
 let fs:=s.funcs.map (·.name.1)
 let a:=s.funcs.map (resF fs)
 let b:=s.clauses.map (resC fs)
 (⟨a.map (·.1),b.map (·.1),s.action⟩,Qdk (s.funcs.map (·.name)) []++(a.map (·.2)).flatten++(b.map (·.2)).flatten)
structure QaN where
 params:List Int
 result:Int
mutual
def ofN(fs:List QaN):List Int->Nd->Int × List Int
 |vars,.mk k n s o l=>
  if k=1\/k=5 then (1,[])
  else if k=2 then (vars.getD n.toNat 0,[])
  else if k=3 then ((QaU s).getD 0,[])
  else if k=6\/(8<=k/\k<=12) then (0,Qbp fs vars 0 l)
  else if k=13\/k=14 then (1,Qbp fs vars 0 l)
  else if k=15 then
   match l with
   |[a,b]=>let x:=ofN fs vars a;let y:=ofN fs vars b;(1,x.2++y.2++if y.1≠x.1 then [b.off] else [])
   |_=>(1,[])
  else if k=7\/k=16\/k=17 then (1,Qbp fs vars 1 l)
  else if k=18 then
   match l with
   |[c,a,b]=>let z:=ofN fs vars c;let x:=ofN fs vars a;let y:=ofN fs vars b;(x.1,z.2++(if z.1≠1 then [c.off] else [])++x.2++y.2++if y.1≠x.1 then [b.off] else [])
   |_=>(0,[])
  else if k=19 then
   match l with
   |[a,b]=>let x:=ofN fs vars a;let y:=ofN fs (vars++[x.1]) b;(y.1,x.2++y.2)
   |_=>(0,[])
  else if k=20 then
   let f:=fs.getD n.toNat ⟨[],0⟩
   (f.result,(if l.length≠f.params.length then [o] else [])++QcX fs vars (l.length==f.params.length) f.params l)
  else (0,[])
def Qbp(fs:List QaN):List Int->Int->List Nd->List Int
 |_,_,[]=>[]
 |vars,t,a::l=>let x:=ofN fs vars a;x.2++(if x.1≠t then [a.off] else [])++Qbp fs vars t l
def QcX(fs:List QaN):List Int->Bool->List Int->List Nd->List Int
 |_,_,_,[]=>[]
 |vars,b,ps,a::l=>let x:=ofN fs vars a;x.2++(if b=true/\x.1≠ps.headD 0 then [a.off] else [])++QcX fs vars b ps.tail l
end
def QcT(fs:List QaN)(vars:List Int)(t:Int)(a:Nd):List Int:=let x:=ofN fs vars a;x.2++if x.1≠t then [a.off] else []
def QbH(s:Src):List Int:=
 let fs:=s.funcs.map λf=>(⟨f.types,f.result⟩:QaN)
 (s.funcs.map λf=>QcT fs f.types f.result f.body).flatten++(s.clauses.map λc=>QcT fs [] 1 c.cond).flatten
mutual
def Qab:Nd->Exp
 |.mk k n s _ l=>.mk k n s (QaJ l)
def QaJ:List Nd->List Exp
 |[]=>[]
 |a::l=>Qab a::QaJ l
end
def QaE(s:Src):Qah:=⟨s.funcs.map λf=>⟨f.name.1,f.types,f.result,Qab f.body⟩,s.clauses.map λc=>⟨Qab c.cond,c.action,c.reason⟩,s.action⟩
def Qcc(f:Nat)(l:List Tok):Option (Qah × Int × Int):=
 match QdU f l with
 |.out=>none
 |.bad o=>some (QaR,2,o)
 |.ok s _=>
  match QbN s with
  |some o=>some (QaR,7,o)
  |none=>
   match QaZ (Qae s).2 with
   |some o=>some (QaR,16,o)
   |none=>
    match QaZ (QbH (Qae s).1) with
    |some o=>some (QaR,15,o)
    |none=>some (QaE (Qae s).1,0,0)
open Go.ChangeShapes Go.WideShapes Go.ChangeAt Go.RowKit Go.Lib
inductive An where
 |mk (kind n:Int) (name:By) (off:Int) (blk cap:Nat) (kids:List An)
def An.kind:An->Int|.mk k _ _ _ _ _ _=>k
def An.num:An->Int|.mk _ n _ _ _ _ _=>n
def An.name:An->By|.mk _ _ s _ _ _ _=>s
def An.off:An->Int|.mk _ _ _ o _ _ _=>o
def An.blk:An->Nat|.mk _ _ _ _ b _ _=>b
def An.cap:An->Nat|.mk _ _ _ _ _ c _=>c
def An.kids:An->List An|.mk _ _ _ _ _ _ l=>l
def Qaz(b c:Nat)(l:List An):Value:=if l=[] then Nl else .slice (some ⟨b,0,none⟩) l.length c
def Qaa:An->Array Value|.mk k n s o b c l=>#[Iv k,Iv n,Sv s,Iv o,Qaz b c l]
mutual
def An.nd:An->Nd
 |.mk k n s o _ _ l=>.mk k n s o (ndL l)
def ndL:List An->List Nd
 |[]=>[]
 |a::l=>a.nd::ndL l
end
mutual
def foot:An->List Nat
 |.mk _ _ _ _ b _ l=>match l with|[]=>[]|x::r=>b::(foot x++Qak r)
def Qak:List An->List Nat
 |[]=>[]
 |a::l=>foot a++Qak l
end
mutual
def An.At(W:World):An->Prop
 |.mk _ _ _ _ b _ l=>(l≠[]->∀j,W.frozen? ⟨b,j,none⟩=false)/\AtL W b 0 l
def AtL(W:World)(b:Nat):Nat->List An->Prop
 |_,[]=>True
 |i,a::l=>(∀j u,(Qaa a).toList[j]?=some u->W.cell? ⟨b,i*5+j,none⟩=some u)/\a.At W/\AtL W b (i+1) l
end
def J3(a:An):(Qaa a).size=5:=by cases a;rfl
mutual
def JK{W W':World}:∀(a:An),a.At W->(∀b,b∈foot a->W'.heap[b]?=W.heap[b]?)->a.At W'
 |.mk k n s o b c l,h,hk=>by
  unfold An.At at *
  refine⟨λhne j=>?_,Jbq b l 0 h.2 (λhne=>hk b (by
   unfold foot
   cases l with
   |nil=>exact absurd rfl hne
   |cons x r=>simp)) (λq hq=>hk q (by
   unfold foot
   cases l with
   |nil=>simp[Qak]at hq
   |cons x r=>unfold Qak at hq;simp only[List.mem_cons];exact .inr hq))⟩
  have hb:W'.heap[b]?=W.heap[b]?:=hk b (by
   unfold foot
   cases l with
   |nil=>exact absurd rfl hne
   |cons x r=>simp)
  exact(World.frozen?_of_block (a:=⟨b,j,none⟩) hb).trans (h.1 hne j)
def Jbq{W W':World}(b:Nat):∀(l:List An) (i:Nat),AtL W b i l->(l≠[]->W'.heap[b]?=W.heap[b]?)->(∀q,q∈Qak l->W'.heap[q]?=W.heap[q]?)->AtL W' b i l
 |[],_,_,_,_=>by unfold AtL;trivial
 |a::l,i,h,hb,hk=>by
  unfold AtL at *;refine⟨λj u hu=>?_,JK a h.2.1 λq hq=>hk q (by unfold Qak;exact List.mem_append_left _ hq),Jbq b l (i+1) h.2.2 (λ_=>hb (by simp)) λq hq=>hk q (by unfold Qak;exact List.mem_append_right _ hq)⟩;exact(World.cell?_of_block (a:=⟨b,i*5+j,none⟩) (hb (by simp))).trans (h.1 j u hu)
end
def Qce(lo hi:Nat)(a:An):Prop:=(foot a).Nodup/\∀b,b∈foot a->lo<=b/\b<hi
def JaE{S:List Nat}{W W':World}{lo hi:Nat}{a:An}(h:a.At W)(hm:Qce lo hi a)(hc:Chg S W W')(hh:hi<=W.heap.size)(hs:∀b,b∈S->b<lo):a.At W':=
 JK a h λb hb=>hc.block b (zu ((hm.2 b hb).2)) λhm'=>by have:=(hm.2 b hb).1;have:=hs b hm';omega
def K1{W W':World}{lo hi:Nat}{a:An}(h:a.At W)(hm:Qce lo hi a)(hc:Below W.heap.size W W')(hh:hi<=W.heap.size):a.At W':=
 JK a h λb hb=>hc.block b (zu ((hm.2 b hb).2))
def Qce.mono{lo hi lo' hi':Nat}{a:An}(h:Qce lo hi a)(h1:lo'<=lo)(h2:hi<=hi'):Qce lo' hi' a:=⟨h.1,λb hb=>⟨Nat.le_trans h1 (h.2 b hb).1,Nat.lt_of_lt_of_le (h.2 b hb).2 h2⟩⟩
def QcL(k n:Int)(s:By)(o:Int):An:=.mk k n s o 0 0 []
def ZH(k n:Int)(s:By)(o:Int)(lo hi:Nat):Qce lo hi (QcL k n s o):=⟨by simp[QcL,foot],by simp[QcL,foot]⟩
def JdD(W:World)(k n:Int)(s:By)(o:Int):(QcL k n s o).At W:=by unfold QcL An.At AtL;exact⟨λh=>absurd rfl h,trivial⟩
def Qdi(lo hi:Nat):List An->Prop
 |[]=>lo<=hi
 |a::l=>∃m,lo<=m/\Qce lo m a/\Qdi m hi l
def Qdi.le{lo hi:Nat}:∀{l:List An},Qdi lo hi l->lo<=hi
 |[],h=>h
 |a::l,⟨m,h1,_,h3⟩=>Nat.le_trans h1 h3.le
def Qdi.foot{lo hi:Nat}:∀{l:List An},Qdi lo hi l->(Qak l).Nodup/\∀b,b∈Qak l->lo<=b/\b<hi
 |[],h=>⟨by simp[Qak],by simp[Qak]⟩
 |a::l,⟨m,h1,h2,h3⟩=>by
  obtain⟨g1,g2⟩:=h3.foot;unfold Qak;refine⟨List.nodup_append.2 ⟨h2.1,g1,λx hx y hy e=>?_⟩,λb hb=>?_⟩
  ·subst e;have:=(h2.2 x hx).2;have:=(g2 x hy).1;omega
  ·rcases List.mem_append.1 hb with hb|hb
   ·have q1:=h2.2 b hb;have q2:=h3.le;exact⟨q1.1,by omega⟩
   ·have q1:=g2 b hb;exact⟨by omega,q1.2⟩
def JbZ{lo hi b:Nat}{l:List An}(h:Qdi lo hi l)(hb:hi<=b)(k n:Int)(s:By)(o:Int)(c:Nat):Qce lo (b+1) (.mk k n s o b c l):=by
 obtain⟨g1,g2⟩:=h.foot;have hl:=h.le
 cases l with
 |nil=>exact⟨by simp[foot],by simp[foot]⟩
 |cons x r=>
  unfold Qce foot;refine⟨List.nodup_cons.2 ⟨λhm=>?_,g1⟩,λq hq=>?_⟩
  ·have:=(g2 b hm).2;omega
  ·rcases List.mem_cons.1 hq with rfl|hq
   ·exact⟨by omega,by omega⟩
   ·have:=g2 q hq;exact⟨this.1,by omega⟩
def Qdb(l:List An):List Value:=l.flatMap λa=>(Qaa a).toList
def KN{W:World}{b:Nat}:∀(l:List An) (i:Nat),(∀j u,(Qdb l)[j]?=some u->W.cell? ⟨b,i*5+j,none⟩=some u)->(∀a,a∈l->a.At W)->AtL W b i l
 |[],_,_,_=>by unfold AtL;trivial
 |a::l,i,h,hk=>by
  have e:Qdb (a::l)=(Qaa a).toList++Qdb l:=rfl;have hl:(Qaa a).toList.length=5:=by rw[Array.length_toList,J3]
  unfold AtL;refine⟨λj u hu=>h j u ?_,hk a zq,KN l (i+1) (λj u hu=>?_) λx hx=>hk x (List.mem_cons_of_mem _ hx)⟩
  ·rw[e,List.getElem?_append_left (List.getElem?_eq_some_iff.1 hu).1];exact hu
  ·have:=h (5+j) u (by rw[e,List.getElem?_append_right zo,hl,Nat.add_sub_cancel_left];exact hu);rw[show (i+1)*5+j=i*5+(5+j) by omega];exact this
def Qda(t:Tok):Array Value:=#[Iv t.kind,.string (bs t.text),Iv t.n,Iv t.off]
structure PAt(W:World)(p:Nat)(A:Option Addr)(C:Nat)(T:List Tok)(k:Nat):Prop where
 self:W.heap[p]?=some (.cells #[.slice A T.length C,Iv k] 92 (0,0))
 toks:∃b o,A=some ⟨b,o,none⟩/\b≠p/\∀i t,T[i]?=some t->∀j u,(Qda t).toList[j]?=some u->W.cell? ⟨b,o+i*4+j,none⟩=some u
 lt:k<T.length
 fin:∀i t,T[i]?=some t->(t.kind=4↔i+1=T.length)
 room:T.length<=1000000
def PAt.chg{W W':World}{p:Nat}{A:Option Addr}{C:Nat}{T:List Tok}{k:Nat}(h:PAt W p A C T k)(hc:Below W.heap.size W W'):PAt W' p A C T k:=by
 obtain⟨b,o,e,xA,ht⟩:=h.toks;exact⟨(hc.block p (Jb h.self)).trans h.self,⟨b,o,e,xA,λi t hi j u hu=>(hc.cell (World.block_lt_of_cell? W _ (ht i t hi j u hu))).trans (ht i t hi j u hu)⟩,h.lt,h.fin,h.room⟩
def PAt.next{W:World}{p:Nat}{A:Option Addr}{C:Nat}{T:List Tok}{k k':Nat}(h:PAt W p A C T k)(hk:k'<T.length):PAt (W.setCell ⟨p,1,none⟩ (Iv k')) p A C T k':=by
 obtain⟨b,o,e,xA,ht⟩:=h.toks;refine⟨?_,⟨b,o,e,xA,λi t hi j u hu=>?_⟩,hk,h.fin,h.room⟩
 ·rw[Jm h.self];rfl
 ·rw[World.cell?_setCell_other _ _ _ _ (by intro e';first|exact xA (congrArg Addr.block e')|exact xA (congrArg Addr.block e').symm)];exact ht i t hi j u hu
def Jbr{T:List Tok}{k:Nat}(h:k<T.length):T[k]?=some (hd (T.drop k)):=by
 rw[List.drop_eq_getElem_cons h];exact List.getElem?_eq_getElem h
def tail_drop{T:List Tok}{k:Nat}:(T.drop k).tail=T.drop (k+1):=by rw[List.tail_drop]
def PAt.more{W:World}{p:Nat}{A:Option Addr}{C:Nat}{T:List Tok}{k:Nat}(h:PAt W p A C T k)(hk:(hd (T.drop k)).kind≠4):k+1<T.length:=by
 have h1:=(h.fin k _ (Jbr h.lt)).2;have:=h.lt;omega
def Qeo(o:Int):Value:=.iface 88 (.agg #[Iv 2,Iv o])
def QgN(p:Nat)(w:World)(o:Int)(e:Ending)(w':World):Prop:=e=.panicked [{ v:=Qeo o,recovered:=false }]/\Chg [p] w w'
def QgC:(prog.info? 134).map (·.size)=some 4:=zk
def Qau:(prog.info? 127).map (·.size)=some 5:=zk
def QfW:(prog.info? 88).map (·.size)=some 2:=zk
def Qjk{w:World}{T t:Nat}{a0 a1 a2 a3:Value}(v0 v1 v2 v3:Value)(h:w.heap[T]?=some (.cells #[a0,a1,a2,a3] t (0,0))) :
  ((((w.setCell ⟨T,0,none⟩ v0).setCell ⟨T,1,none⟩ v1).setCell ⟨T,2,none⟩ v2).setCell ⟨T,3,none⟩ v3).heap[T]?=some (.cells #[v0,v1,v2,v3] t (0,0)):=by
 exact QhT
def QiU{B:Nat}{w w1:World}{T:Nat}(v0 v1 v2 v3:Value)(h:Below B w w1)(hT:B<=T):Below B w ((((w1.setCell ⟨T,0,none⟩ v0).setCell ⟨T,1,none⟩ v1).setCell ⟨T,2,none⟩ v2).setCell ⟨T,3,none⟩ v3):=
 (((h.setCell hT v0).setCell hT v1).setCell hT v2).setCell hT v3
def PAt.cells{W:World}{p:Nat}{A:Option Addr}{C:Nat}{T:List Tok}{k:Nat}(h:PAt W p A C T k) :
  ∃b o,A=some ⟨b,o,none⟩/\W.cell? ⟨p,0,none⟩=some (.slice A T.length C)/\W.cell? ⟨p,1,none⟩=some (Iv k)/\
   W.cell? ⟨b,o+k*4,none⟩=some (Iv (hd (T.drop k)).kind)/\W.cell? ⟨b,o+k*4+1,none⟩=some (.string (bs (hd (T.drop k)).text))/\
   W.cell? ⟨b,o+k*4+2,none⟩=some (Iv (hd (T.drop k)).n)/\W.cell? ⟨b,o+k*4+3,none⟩=some (Iv (hd (T.drop k)).off):=by
 obtain⟨b,o,e,xA,ht⟩:=h.toks;have g:=ht k _ (Jbr h.lt);exact⟨b,o,e,by rw[Ja h.self];rfl,by rw[Ja h.self];rfl,g 0 _ rfl,g 1 _ rfl,g 2 _ rfl,g 3 _ rfl⟩
def Qfh(w:World)(t:Tok)(e:Ending)(w':World):Prop:=e=.returned (.agg (Qda t))/\Below w.heap.size w w'
def Kp(p:Nat)(A:Option Addr)(C:Nat)(T:List Tok)(k:Nat)(w:World)(h:PAt w p A C T k):Calls prog 92 #[Pt p] w (Qfh w (hd (T.drop k))):=by
 have hZ:=zQ w (.cells #[Iv 0,Em,Iv 0,Iv 0] 134);have hB:=(Below.refl w.heap.size w).alloc (Nat.le_refl _) (.cells #[Iv 0,Em,Iv 0,Iv 0] 134);obtain⟨b,o,rfl,p0,p1,t0,t1,t2,t3⟩:=(h.chg hB).cells;have hlt:=h.lt;generalize hd (T.drop k)=t at *;generalize hn:T.length=n at *;have bk:(k:Int)<(n:Int):=zo
 obtain⟨q0,q1,q2,q3⟩:(w.alloc (.cells #[Iv 0,Em,Iv 0,Iv 0] 134)).cell? ⟨w.heap.size,0,none⟩=some (Iv 0)/\(w.alloc (.cells #[Iv 0,Em,Iv 0,Iv 0] 134)).cell? ⟨w.heap.size,1,none⟩=some Em/\(w.alloc (.cells #[Iv 0,Em,Iv 0,Iv 0] 134)).cell? ⟨w.heap.size,2,none⟩=some (Iv 0)/\(w.alloc (.cells #[Iv 0,Em,Iv 0,Iv 0] 134)).cell? ⟨w.heap.size,3,none⟩=some (Iv 0):=by
  refine⟨?_,?_,?_,?_⟩<;>(rw[Ja hZ];rfl)
 have hf:=λj=>Jc hZ j
 have f0:=hf 0;have f1:=hf 1;have f2:=hf 2;have f3:=hf 3;have HZ:=Zh hZ;have HB:=Zh hB;clear hZ hB hf h hn hlt;go_enter func92,ntmps92;go_wp2;go_region;go_wp2;refine bodyPost_ret (results_cell_row rfl _ _ w.heap.size 134 (Qda t) (0,0) _ rfl (zQ w _) underlying134 rfl QgC) rfl ⟨rfl,((Below.refl w.heap.size w).alloc (Nat.le_refl _) _).drew⟩
def Qjo(p:Nat)(A:Option Addr)(C:Nat)(T:List Tok)(k:Nat)(kd:Int)(s:By)(w:World)(e:Ending)(w':World):Prop:=
 ((hd (T.drop k)).kind=kd/\(hd (T.drop k)).text=s/\e=.returned (.bool true)/\PAt w' p A C T (k+1)/\Chg [p] w w')\/
 (¬((hd (T.drop k)).kind=kd/\(hd (T.drop k)).text=s)/\e=.returned (.bool false)/\Below w.heap.size w w')
def Jt(p:Nat)(A:Option Addr)(C:Nat)(T:List Tok)(k:Nat)(kd:Int)(s:By)(w:World)(h:PAt w p A C T k)(h4:kd≠4):Calls prog 86 #[Pt p,Iv kd,Sv s] w (Qjo p A C T k kd s w):=by
 have HP:=Zh h;have cp:=Kp p A C T k w h;have hm:Hi ((hd (T.drop k)).kind=kd->k+1<T.length):=λe=>h.more (by rw[e];exact h4)
 have xA:Hi (Qjo p A C T k kd s w=λe w'=>((hd (T.drop k)).kind=kd/\(hd (T.drop k)).text=s/\e=.returned (.bool true)/\PAt w' p A C T (k+1)/\Chg [p] w w')\/
 (¬((hd (T.drop k)).kind=kd/\(hd (T.drop k)).text=s)/\e=.returned (.bool false)/\Below w.heap.size w w')):=rfl
 unfold Qfh at cp;generalize hd (T.drop k)=t at *;generalize Qjo p A C T k kd s w=R at *;obtain⟨tk,tx,tn,tf⟩:=t;unfold Qda at cp;simp only at cp;have u1:=Jj tx;have u2:=Jj s;clear h h4;go_enter func86,ntmps86;go_wp2_with fail;refine cp.mono ?_;rintro e w1 ⟨rfl,hbx⟩;have hA:=hbx.alloc hbx.size (.cells #[Iv tk,Sv tx,Iv tn,Iv tf] 134);have yA:=HP.o.chg hA;have hN:=zQ w1 (.cells #[Iv tk,Sv tx,Iv tn,Iv tf] 134);have hk:k<=1000000:=by have:=yA.lt;have:=yA.room;omega
 have wk:=zI k;have pc:=Ja yA.self 1;have pf:=Jc yA.self 1;have c0:(w1.alloc (.cells #[Iv tk,Sv tx,Iv tn,Iv tf] 134)).cell? ⟨w1.heap.size,0,none⟩=some (Iv tk):=by rw[Ja hN];rfl
 have c1:(w1.alloc (.cells #[Iv tk,Sv tx,Iv tn,Iv tf] 134)).cell? ⟨w1.heap.size,1,none⟩=some (Sv tx):=by rw[Ja hN];rfl
 simp only[zW]at pc;have HA:=Zh hA;have HP1:=Zh yA;clear hA yA hN hbx cp hk
 by_cases hkd:tk=kd
 ·subst hkd;have d1:(tk==tk)=true:=zq
  by_cases hts:tx=s
  ·subst hts;have d2:(tx==tx)=true:=zq;have HF:Hi (PAt ((w1.alloc (.cells #[Iv tk,Sv tx,Iv tn,Iv tf] 134)).setCell ⟨p,1,none⟩ (Iv ((k+1:Nat):Int))) p A C T (k+1)):=HP1.o.next (hm.o rfl);go_wp2;rw[xA.o];exact .inl ⟨by first|trivial|rfl,by first|trivial|rfl,rfl,HF.o,(Chg.of_below HA.o [p]).setCell (.inl zq) _⟩
  ·have d2:(tx==s)=false:=zM hts;have HT:=Zh hts;clear hts;go_wp2;rw[xA.o];exact .inr ⟨λh=>HT.o h.2,rfl,HA.o⟩
 ·have d1:(tk==kd)=false:=zM hkd;have HT:=Zh hkd;clear hkd;go_wp2;rw[xA.o];exact .inr ⟨λh=>HT.o h.1,rfl,HA.o⟩
def Qik(w:World)(o:Int)(e:Ending)(w':World):Prop:=e=.returned (.agg #[Iv 2,Iv o])/\Below w.heap.size w w'
def KO(p:Nat)(A:Option Addr)(C:Nat)(T:List Tok)(k:Nat)(w:World)(h:PAt w p A C T k):Calls prog 93 #[Pt p] w (Qik w (hd (T.drop k)).off):=by
 have hZ:=zQ w (.cells #[Iv 0,Iv 0] 88);have hB:=(Below.refl w.heap.size w).alloc (Nat.le_refl _) (.cells #[Iv 0,Iv 0] 88);have cp:=Kp p A C T k _ (h.chg hB);unfold Qfh at cp;generalize hd (T.drop k)=t at *;obtain⟨tk,tx,tn,tf⟩:=t;unfold Qda at cp;simp only at cp |-;have HZ:=Zh hZ;have HB:=Zh hB;have hfl:∀W:World,(Instr.field 134 (.agg #[Iv tk,Sv tx,Iv tn,Iv tf]) 3).run prog W=.ok (Iv tf) W:=λW=>by kernel_rfl
 clear hZ hB h;go_enter func93,ntmps93;go_wp2_with fail;refine cp.mono ?_;rintro e w1 ⟨rfl,hbx⟩;have xA:=(hbx.block _ (Jb HZ.o)).trans HZ.o;have c0:w1.cell? ⟨w.heap.size,0,none⟩=some (Iv 0):=by rw[Ja xA];rfl
 have c1:w1.cell? ⟨w.heap.size,1,none⟩=some (Iv 0):=by rw[Ja xA];rfl
 have f0:=Jc xA 0;have f1:=Jc xA 1;have H1:=Zh xA;have yA:=Zh (HB.o.trans (hbx.mono HB.o.size));clear xA hbx cp;go_wp2;refine bodyPost_ret (results_cell_row rfl _ _ w.heap.size 88 #[Iv 2,Iv tf] (0,0) _ rfl (heap_setCell_same _ _ 1 _ _ _ (heap_setCell_same _ _ 0 _ _ _ H1.o)) underlying88 rfl QfW) rfl ⟨rfl,(yA.o.setCell (Nat.le_refl _) _).setCell (Nat.le_refl _) _⟩
def QeE(p:Nat)(A:Option Addr)(C:Nat)(T:List Tok)(k:Nat)(kd:Int)(s:By)(w:World)(e:Ending)(w':World):Prop:=
 ((hd (T.drop k)).kind=kd/\(hd (T.drop k)).text=s/\e=.returned (.tuple #[])/\PAt w' p A C T (k+1)/\Chg [p] w w')\/
 (¬((hd (T.drop k)).kind=kd/\(hd (T.drop k)).text=s)/\QgN p w (hd (T.drop k)).off e w')
theorem Qjz{P:Prop}(h:P:=by
  have hp1:=HP.o.chg hb1;clear g1 ca HP hb1;go_wp2_with fail;refine(cw _ hp1).mono ?_;rintro e w2 ⟨rfl,hb2⟩;go_wp2;refine⟨rfl,?_⟩;rw[HR.o]
  exact .inr ⟨HF.o.1,rfl,Chg.of_below (HF.o.2.trans (hb2.mono HF.o.2.size)) [p]⟩):P:=h
theorem Qhe{P:Prop}(h:P:=by
  clear g1 g2 hp1 hc1 ca cw HP;go_wp2;go_end0;rw[HR.o]
  exact .inl ⟨HF.o.1.1,HF.o.1.2,rfl,HF.o.2⟩):P:=h
def Jjs(p:Nat)(A:Option Addr)(C:Nat)(T:List Tok)(k:Nat)(s:By)(w:World)(h:PAt w p A C T k):Calls prog 89 #[Pt p,Sv s] w (QeE p A C T k 0 s w):=by
 have ca:=Jt p A C T k 0 s w h zp;have cw:=λW hW=>KO p A C T k W hW
 have HP:=Zh h
 have HR:Hi (∀e w',QeE p A C T k 0 s w e w'=(((hd (T.drop k)).kind=0/\(hd (T.drop k)).text=s/\e=.returned (.tuple #[])/\PAt w' p A C T (k+1)/\Chg [p] w w')\/
 (¬((hd (T.drop k)).kind=0/\(hd (T.drop k)).text=s)/\QgN p w (hd (T.drop k)).off e w'))):=λ_ _=>rfl
 generalize QeE p A C T k 0 s w=R at *;clear h;go_enter func89,ntmps89;go_wp2_with fail;refine ca.mono ?_;rintro e w1 h1
 rcases h1 with⟨g1,g2,rfl,hp1,hc1⟩|⟨g1,rfl,hb1⟩
 ·have HF:Hi (((hd (T.drop k)).kind=0/\(hd (T.drop k)).text=s)/\PAt w1 p A C T (k+1)/\Chg [p] w w1):=⟨⟨g1,g2⟩,hp1,hc1⟩
  exact Qhe
 ·have HF:Hi (¬((hd (T.drop k)).kind=0/\(hd (T.drop k)).text=s)/\Below w.heap.size w w1):=⟨g1,hb1⟩
  exact Qjz
end Go.Proofs.YtfafpklefknomaaGreatDoor
