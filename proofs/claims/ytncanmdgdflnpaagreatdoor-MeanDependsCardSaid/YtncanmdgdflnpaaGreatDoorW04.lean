import Derived.Deep.RegionHeld3
import Derived.Test.YtncanmdgdflnpaaGreatDoorW03
namespace Go.Proofs.YtncanmdgdflnpaaGreatDoor
open _root_.Go.Proofs.Tryz
set_option linter.all false
set_option maxRecDepth 100000
set_option maxHeartbeats 32000000
inductive Nd where
 | mk (kind n:Int) (name:List UInt8) (off:Int) (kids:List Nd)
inductive Exp where
 | mk (kind n:Int) (name:List UInt8) (kids:List Exp)
structure FnM where
 name:List UInt8
 params:List Int
 result:Int
 body:Exp
structure ClM where
 cond:Exp
 action:Int
 reason:List UInt8
structure RuleM where
 funcs:List FnM
 clauses:List ClM
 action:Int
def noRule:RuleM:=⟨[],[],0⟩
def Nd.kind:Nd→Int | .mk k _ _ _ _=>k
def Nd.num:Nd→Int | .mk _ n _ _ _=>n
def Nd.name:Nd→List UInt8 | .mk _ _ s _ _=>s
def Nd.off:Nd→Int | .mk _ _ _ o _=>o
def Nd.kids:Nd→List Nd | .mk _ _ _ _ l=>l
def Exp.kind:Exp→Int | .mk k _ _ _=>k
def Exp.num:Exp→Int | .mk _ n _ _=>n
def Exp.name:Exp→List UInt8 | .mk _ _ s _=>s
def Exp.kids:Exp→List Exp | .mk _ _ _ l=>l
def kAnd:List UInt8:=[97,110,100]
def kBool:List UInt8:=[98,111,111,108]
def kDef:List UInt8:=[100,101,102]
def kDefault:List UInt8:=[100,101,102,97,117,108,116]
def kElse:List UInt8:=[101,108,115,101]
def kFalse:List UInt8:=[102,97,108,115,101]
def kHide:List UInt8:=[104,105,100,101]
def kIf:List UInt8:=[105,102]
def kIn:List UInt8:=[105,110]
def kInt:List UInt8:=[105,110,116]
def kLabel:List UInt8:=[108,97,98,101,108]
def kLet:List UInt8:=[108,101,116]
def kLimit:List UInt8:=[108,105,109,105,116]
def kMedia:List UInt8:=[109,101,100,105,97]
def kNot:List UInt8:=[110,111,116]
def kOr:List UInt8:=[111,114]
def kShow:List UInt8:=[115,104,111,119]
def kThen:List UInt8:=[116,104,101,110]
def kTrue:List UInt8:=[116,114,117,101]
def kWhen:List UInt8:=[119,104,101,110]
def kWord:List UInt8:=[119,111,114,100]
def fLikes:List UInt8:=[108,105,107,101,115]
def fBoosts:List UInt8:=[98,111,111,115,116,115]
def fReplies:List UInt8:=[114,101,112,108,105,101,115]
def fReports:List UInt8:=[114,101,112,111,114,116,115]
def fAge:List UInt8:=[97,103,101]
def fHome:List UInt8:=[104,111,109,101]
def fScope:List UInt8:=[115,99,111,112,101]
def fLength:List UInt8:=[108,101,110,103,116,104]
def fFollows:List UInt8:=[102,111,108,108,111,119,115]
def fReply:List UInt8:=[114,101,112,108,121]
def keywordB (s:List UInt8):Bool:=decide (s∈[kAnd,kBool,kDef,kDefault,kElse,kFalse,kHide,kIf,kIn,kInt,kLabel,kLet,kLimit,kMedia,kNot,kOr,kShow,kThen,kTrue,kWhen,kWord])
def factI (s:List UInt8):Option Int:=
 if s∈[fLikes,fBoosts,fReplies,fReports,fAge,fHome,fScope,fLength] then some 0 else if s∈[fFollows,fReply] then some 1 else none
def identB (s:List UInt8):Bool:=
 match s with
 | []=>false
 | c::r=>decide (s.length≤24)&&isLe c&&(c::r).all isWo&&(factI s).isNone&&!keywordB s
def textB (s:List UInt8):Bool:=s.all (fun c=>decide (32≤c.toNat)&&decide (c.toNat≤126)&&c !=34&&c !=92)&&decide (s.length≤24)
inductive PR (α:Type) where
 | out
 | bad (off:Int)
 | ok (a:α) (r:List Tok)
def endTok:Tok:=⟨4,[],0,0⟩
def hd (r:List Tok):Tok:=r.headD endTok
def acc (k:Int) (s:List UInt8) (r:List Tok):Option (List Tok):=if (hd r).kind=k∧(hd r).text=s then some r.tail else none
def accept (k:Int) (s:List UInt8) (r:List Tok):PR Unit:=match acc k s r with | some r'=>.ok () r' | none=>.bad (hd r).off
def PR.bind {α β:Type} (x:PR α) (f:α→List Tok→PR β):PR β:=match x with | .out=>.out | .bad o=>.bad o | .ok a r=>f a r
def identP (r:List Tok):PR (List UInt8 × Int):=if (hd r).kind=0∧identB (hd r).text=true then .ok ((hd r).text,(hd r).off) r.tail else .bad (hd r).off
def textP (r:List Tok):PR (List UInt8):=if (hd r).kind=2 then .ok (hd r).text r.tail else .bad (hd r).off
def quotedP (r:List Tok):PR (List UInt8):=(accept 3 [40] r).bind fun _ r1=>(textP r1).bind fun s r2=>(accept 3 [41] r2).bind fun _ r3=>.ok s r3
def opK (lv:Nat) (t:Tok):Option Int:=
 if t.kind=0∧lv=1∧t.text=kOr then some 17
 else if t.kind=0∧lv=2∧t.text=kAnd then some 16
 else if t.kind≠3 then none
 else if lv=5∧t.text=[43] then some 8
 else if lv=5∧t.text=[45] then some 9
 else if lv=6∧t.text=[42] then some 10
 else if lv=6∧t.text=[47] then some 11
 else if lv=6∧t.text=[37] then some 12
 else none
def cmpK (t:Tok):Option Int:=
 if t.kind≠3 then none
 else if t.text=[61,61]∨t.text=[33,61] then some 15
 else if t.text=[60]∨t.text=[62] then some 13
 else if t.text=[60,61]∨t.text=[62,61] then some 14
 else none
def cmpN (t:Tok) (k:Int) (a b:Nd):Nd:=
 if t.text=[62]∨t.text=[62,61] then .mk k 0 [] a.off [b,a]
 else if t.text=[33,61] then .mk 7 0 [] a.off [.mk k 0 [] a.off [a,b]]
 else .mk k 0 [] a.off [a,b]
inductive Md where
 | expr
 | level (lv:Nat)
 | loop (lv:Nat) (off:Int) (a:Nd)
 | cmp
 | prim
 | named
 | args (name:List UInt8) (off:Int) (l:List Nd)
def pM:Nat→Md→List Tok→PR Nd
 | 0,_,_=>.out
 | f+1,.expr,r=>
  match acc 0 kLet r with
  | some r1=>(identP r1).bind fun nm r2=>(accept 3 [61] r2).bind fun _ r3=>(pM f .expr r3).bind fun v r4=>(accept 0 kIn r4).bind fun _ r5=>(pM f .expr r5).bind fun b r6=>.ok (.mk 19 0 nm.1 (hd r).off [v,b]) r6
  | none=>
   match acc 0 kIf r with
   | some r1=>(pM f .expr r1).bind fun c r2=>(accept 0 kThen r2).bind fun _ r3=>(pM f .expr r3).bind fun y r4=>(accept 0 kElse r4).bind fun _ r5=>(pM f .expr r5).bind fun z r6=>.ok (.mk 18 0 [] (hd r).off [c,y,z]) r6
   | none=>pM f (.level 1) r
 | f+1,.level lv,r=>
  if lv=3 then
   match acc 0 kNot r with
   | some r1=>(pM f (.level 3) r1).bind fun a r2=>.ok (.mk 7 0 [] (hd r).off [a]) r2
   | none=>pM f .cmp r
  else if lv=7 then
   match acc 3 [45] r with
   | some r1=>(pM f (.level 7) r1).bind fun a r2=>.ok (.mk 6 0 [] (hd r).off [a]) r2
   | none=>pM f .prim r
  else (pM f (.level (lv+1)) r).bind fun a r1=>pM f (.loop lv (hd r).off a) r1
 | f+1,.loop lv o a,r=>
  match opK lv (hd r) with
  | none=>.ok a r
  | some k=>(pM f (.level (lv+1)) r.tail).bind fun b r1=>pM f (.loop lv o (.mk k 0 [] o [a,b])) r1
 | f+1,.cmp,r=>
  (pM f (.level 5) r).bind fun a r1=>
   match cmpK (hd r1) with
   | none=>.ok a r1
   | some k=>(pM f (.level 5) r1.tail).bind fun b r2=>.ok (cmpN (hd r1) k a b) r2
 | f+1,.prim,r=>
  if (hd r).kind=1 then .ok (.mk 0 (hd r).n [] (hd r).off []) r.tail
  else match acc 3 [40] r with
  | some r1=>(pM f .expr r1).bind fun n r2=>(accept 3 [41] r2).bind fun _ r3=>.ok (.mk n.kind n.num n.name (hd r).off n.kids) r3
  | none=>
   match acc 0 kFalse r with
   | some r1=>.ok (.mk 1 0 [] (hd r).off []) r1
   | none=>
    match acc 0 kTrue r with
    | some r1=>.ok (.mk 1 1 [] (hd r).off []) r1
    | none=>
     match acc 0 kLabel r with
     | some r1=>(quotedP r1).bind fun s r2=>.ok (.mk 4 0 s (hd r).off []) r2
     | none=>
      match acc 0 kWord r with
      | some r1=>(quotedP r1).bind fun s r2=>.ok (.mk 5 0 s (hd r).off []) r2
      | none=>if (factI (hd r).text).isSome∧(hd r).kind=0 then .ok (.mk 3 0 (hd r).text (hd r).off []) r.tail else pM f .named r
 | f+1,.named,r=>
  (identP r).bind fun nm r1=>
   match acc 3 [40] r1 with
   | none=>.ok (.mk 2 0 nm.1 nm.2 []) r1
   | some r2=>
    match acc 3 [41] r2 with
    | some r3=>.ok (.mk 20 0 nm.1 nm.2 []) r3
    | none=>pM f (.args nm.1 nm.2 []) r2
 | f+1,.args nm o l,r=>
  (pM f .expr r).bind fun a r1=>
   match acc 3 [44] r1 with
   | some r2=>pM f (.args nm o (l++[a])) r2
   | none=>(accept 3 [41] r1).bind fun _ r2=>.ok (.mk 20 0 nm o (l++[a])) r2
structure FnS where
 name:List UInt8 × Int
 params:List (List UInt8 × Int)
 types:List Int
 result:Int
 body:Nd
structure ClS where
 cond:Nd
 action:Int
 reason:List UInt8
structure Src where
 funcs:List FnS
 clauses:List ClS
 action:Int
def typP (r:List Tok):PR Int:=match acc 0 kInt r with | some r1=>.ok 0 r1 | none=>match acc 0 kBool r with | some r1=>.ok 1 r1 | none=>.bad (hd r).off
def actP (r:List Tok):PR Int:=
 match acc 0 kShow r with
 | some r1=>.ok 0 r1
 | none=>match acc 0 kMedia r with
  | some r1=>.ok 1 r1
  | none=>match acc 0 kLimit r with
   | some r1=>.ok 2 r1
   | none=>match acc 0 kHide r with
    | some r1=>.ok 3 r1
    | none=>.bad (hd r).off
def paramsP:Nat→List (List UInt8 × Int)→List Int→List Tok→PR (List (List UInt8 × Int) × List Int)
 | 0,_,_,_=>.out
 | f+1,ps,ts,r=>(identP r).bind fun nm r1=>(accept 3 [58] r1).bind fun _ r2=>(typP r2).bind fun t r3=>
  match acc 3 [44] r3 with
  | some r4=>paramsP f (ps++[nm]) (ts++[t]) r4
  | none=>(accept 3 [41] r3).bind fun _ r4=>.ok (ps++[nm],ts++[t]) r4
def funP (f:Nat) (r:List Tok):PR FnS:=
 (identP r).bind fun nm r1=>(accept 3 [40] r1).bind fun _ r2=>
  (match acc 3 [41] r2 with
   | some r3=>PR.ok ([],[]) r3
   | none=>paramsP f [] [] r2).bind fun pt r3=>(accept 3 [58] r3).bind fun _ r4=>(typP r4).bind fun t r5=>(accept 3 [61] r5).bind fun _ r6=>(pM f .expr r6).bind fun b r7=>.ok ⟨nm,pt.1,pt.2,t,b⟩ r7
def funsP (g:Nat):Nat→List FnS→List Tok→PR (List FnS)
 | 0,_,_=>.out
 | f+1,l,r=>match acc 0 kDef r with | some r1=>(funP g r1).bind fun x r2=>funsP g f (l++[x]) r2 | none=>.ok l r
def clausesP (g:Nat):Nat→List ClS→List Tok→PR (List ClS)
 | 0,_,_=>.out
 | f+1,l,r=>match acc 0 kWhen r with
  | some r1=>(pM g .expr r1).bind fun c r2=>(accept 0 kThen r2).bind fun _ r3=>(actP r3).bind fun a r4=>(textP r4).bind fun s r5=>clausesP g f (l++[⟨c,a,s⟩]) r5
  | none=>.ok l r
def srcP (f:Nat) (r:List Tok):PR Src:=
 (funsP f f [] r).bind fun fs r1=>(clausesP f f [] r1).bind fun cs r2=>(accept 0 kDefault r2).bind fun _ r3=>(actP r3).bind fun a r4=>if (hd r4).kind=4 then .ok ⟨fs,cs,a⟩ r4 else .bad (hd r4).off
mutual
def nest:Nd→Nat
 | .mk _ _ _ _ l=>nestL l+1
def nestL:List Nd→Nat
 | []=>0
 | a::l=>max (nest a) (nestL l)
end
def Src.roots (s:Src):List Nd:=s.funcs.map (·.body)++s.clauses.map (·.cond)
def limitM (s:Src):Option Int:=(s.roots.find? (fun n=>decide (40<nest n))).map Nd.off
def least:List Int→Option Int
 | []=>none
 | a::l=>some (match least l with | none=>a | some b=>min a b)
def lastIx (vars:List (List UInt8)) (s:List UInt8):Int:=
 (vars.foldl (fun (p:Int × Int) v=>(p.1+1,if v=s then p.1 else p.2)) (0,-1)).2
def firstIx (fs:List (List UInt8)) (s:List UInt8):Option Nat:=fs.findIdx? (fun v=>decide (v=s))
mutual
def resN (fs:List (List UInt8)):List (List UInt8)→Nd→Nd × List Int
 | vars,.mk k n s o l=>
  if k=2 then
   let r:=resL fs vars l
   (.mk k (lastIx vars s) [] o r.1,(if lastIx vars s<0 then [o] else [])++r.2)
  else if k=20 then
   let r:=resL fs vars l
   (.mk k ((firstIx fs s).getD 0) [] o r.1,(if (firstIx fs s).isNone then [o] else [])++r.2)
  else if k=19 then
   match l with
   | [a,b]=>
    let x:=resN fs vars a
    let y:=resN fs (vars++[s]) b
    (.mk k vars.length [] o [x.1,y.1],x.2++y.2)
   | l=>(.mk k n s o l,[])
  else
   let r:=resL fs vars l
   (.mk k n s o r.1,r.2)
def resL (fs:List (List UInt8)):List (List UInt8)→List Nd→List Nd × List Int
 | _,[]=>([],[])
 | vars,a::l=>let x:=resN fs vars a; let y:=resL fs vars l; (x.1::y.1,x.2++y.2)
end
def dupl:List (List UInt8 × Int)→List (List UInt8)→List Int
 | [],_=>[]
 | (s,o)::l,seen=>(if s∈seen then [o] else [])++dupl l (seen++[s])
def resF (fs:List (List UInt8)) (f:FnS):FnS × List Int:=
 let b:=resN fs (f.params.map (·.1)) f.body
 ({ f with body:=b.1 },dupl f.params []++b.2)
def resC (fs:List (List UInt8)) (c:ClS):ClS × List Int:=
 let b:=resN fs [] c.cond
 ({ c with cond:=b.1 },b.2)
def resolveM (s:Src):Src × List Int:=
 let fs:=s.funcs.map (·.name.1)
 let a:=s.funcs.map (resF fs)
 let b:=s.clauses.map (resC fs)
 (⟨a.map (·.1),b.map (·.1),s.action⟩,dupl (s.funcs.map (·.name)) []++(a.map (·.2)).flatten++(b.map (·.2)).flatten)
structure SigM where
 params:List Int
 result:Int
mutual
def ofN (fs:List SigM):List Int→Nd→Int × List Int
 | vars,.mk k n s o l=>
  if k=1∨k=5 then (1,[])
  else if k=2 then (vars.getD n.toNat 0,[])
  else if k=3 then ((factI s).getD 0,[])
  else if k=6∨(8≤k∧k≤12) then (0,needL fs vars 0 l)
  else if k=13∨k=14 then (1,needL fs vars 0 l)
  else if k=15 then
   match l with
   | [a,b]=>let x:=ofN fs vars a; let y:=ofN fs vars b; (1,x.2++y.2++if y.1≠x.1 then [b.off] else [])
   | _=>(1,[])
  else if k=7∨k=16∨k=17 then (1,needL fs vars 1 l)
  else if k=18 then
   match l with
   | [c,a,b]=>let z:=ofN fs vars c; let x:=ofN fs vars a; let y:=ofN fs vars b; (x.1,z.2++(if z.1≠1 then [c.off] else [])++x.2++y.2++if y.1≠x.1 then [b.off] else [])
   | _=>(0,[])
  else if k=19 then
   match l with
   | [a,b]=>let x:=ofN fs vars a; let y:=ofN fs (vars++[x.1]) b; (y.1,x.2++y.2)
   | _=>(0,[])
  else if k=20 then
   let f:=fs.getD n.toNat ⟨[],0⟩
   (f.result,(if l.length≠f.params.length then [o] else [])++argL fs vars (l.length==f.params.length) f.params l)
  else (0,[])
def needL (fs:List SigM):List Int→Int→List Nd→List Int
 | _,_,[]=>[]
 | vars,t,a::l=>let x:=ofN fs vars a; x.2++(if x.1≠t then [a.off] else [])++needL fs vars t l
def argL (fs:List SigM):List Int→Bool→List Int→List Nd→List Int
 | _,_,_,[]=>[]
 | vars,b,ps,a::l=>let x:=ofN fs vars a; x.2++(if b=true∧x.1≠ps.headD 0 then [a.off] else [])++argL fs vars b ps.tail l
end
def needN (fs:List SigM) (vars:List Int) (t:Int) (a:Nd):List Int:=let x:=ofN fs vars a; x.2++if x.1≠t then [a.off] else []
def checkM (s:Src):List Int:=
 let fs:=s.funcs.map fun f=>(⟨f.types,f.result⟩:SigM)
 (s.funcs.map fun f=>needN fs f.types f.result f.body).flatten++(s.clauses.map fun c=>needN fs [] 1 c.cond).flatten
mutual
def treeN:Nd→Exp
 | .mk k n s _ l=>.mk k n s (treeL l)
def treeL:List Nd→List Exp
 | []=>[]
 | a::l=>treeN a::treeL l
end
def ruleOf (s:Src):RuleM:=⟨s.funcs.map fun f=>⟨f.name.1,f.types,f.result,treeN f.body⟩,s.clauses.map fun c=>⟨treeN c.cond,c.action,c.reason⟩,s.action⟩
def parseT (f:Nat) (l:List Tok):Option (RuleM × Int × Int):=
 match srcP f l with
 | .out=>none
 | .bad o=>some (noRule,2,o)
 | .ok s _=>
  match limitM s with
  | some o=>some (noRule,7,o)
  | none=>
   match least (resolveM s).2 with
   | some o=>some (noRule,16,o)
   | none=>
    match least (checkM (resolveM s).1) with
    | some o=>some (noRule,15,o)
    | none=>some (ruleOf (resolveM s).1,0,0)
end Go.Proofs.YtncanmdgdflnpaaGreatDoor
namespace Go.Proofs.YtncanmdgdflnpaaGreatDoor
open Go.ChangeShapes Go.WideShapes Go.ChangeAt Go.RowKit Go.Lib
open _root_.Go.Proofs.Tryz
set_option linter.all false
set_option maxRecDepth 100000
set_option maxHeartbeats 32000000
inductive An where
 | mk (kind n:Int) (name:List UInt8) (off:Int) (blk cap:Nat) (kids:List An)
def An.kind:An→Int | .mk k _ _ _ _ _ _=>k
def An.num:An→Int | .mk _ n _ _ _ _ _=>n
def An.name:An→List UInt8 | .mk _ _ s _ _ _ _=>s
def An.off:An→Int | .mk _ _ _ o _ _ _=>o
def An.blk:An→Nat | .mk _ _ _ _ b _ _=>b
def An.cap:An→Nat | .mk _ _ _ _ _ c _=>c
def An.kids:An→List An | .mk _ _ _ _ _ _ l=>l
def kidsV (b c:Nat) (l:List An):Value:=if l=[] then .slice none 0 0 else .slice (some ⟨b,0,none⟩) l.length c
def cellsN:An→Array Value | .mk k n s o b c l=>#[.int .i64 k,.int .i64 n,.string (bs s),.int .i64 o,kidsV b c l]
mutual
def An.nd:An→Nd
 | .mk k n s o _ _ l=>.mk k n s o (ndL l)
def ndL:List An→List Nd
 | []=>[]
 | a::l=>a.nd::ndL l
end
mutual
def foot:An→List Nat
 | .mk _ _ _ _ b _ l=>match l with | []=>[] | x::r=>b::(foot x++footL r)
def footL:List An→List Nat
 | []=>[]
 | a::l=>foot a++footL l
end
mutual
def An.At (W:World):An→Prop
 | .mk _ _ _ _ b _ l=>(l≠[]→∀ j,W.frozen? ⟨b,j,none⟩=false)∧AtL W b 0 l
def AtL (W:World) (b:Nat):Nat→List An→Prop
 | _,[]=>True
 | i,a::l=>(∀ j u,(cellsN a).toList[j]?=some u→W.cell? ⟨b,i*5+j,none⟩=some u)∧a.At W∧AtL W b (i+1) l
end
theorem JV (a:An):(cellsN a).size=5:=by cases a; rfl
mutual
theorem JE {W W':World}:∀ (a:An),a.At W→(∀ b,b∈foot a→W'.heap[b]?=W.heap[b]?)→a.At W'
 | .mk k n s o b c l,h,hk=>by
  unfold An.At at *
  refine ⟨fun hne j=>?_,Z2 b l 0 h.2 (fun hne=>hk b (by
   unfold foot
   cases l with
   | nil=>exact absurd rfl hne
   | cons x r=>simp)) (fun q hq=>hk q (by
   unfold foot
   cases l with
   | nil=>simp[footL] at hq
   | cons x r=>unfold footL at hq; simp only[List.mem_cons]; exact .inr hq))⟩
  have hb:W'.heap[b]?=W.heap[b]?:=hk b (by
   unfold foot
   cases l with
   | nil=>exact absurd rfl hne
   | cons x r=>simp)
  exact (World.frozen?_of_block (a:=⟨b,j,none⟩) hb).trans (h.1 hne j)
theorem Z2 {W W':World} (b:Nat):∀ (l:List An) (i:Nat),AtL W b i l→(l≠[]→W'.heap[b]?=W.heap[b]?)→(∀ q,q∈footL l→W'.heap[q]?=W.heap[q]?)→AtL W' b i l
 | [],_,_,_,_=>by unfold AtL; trivial
 | a::l,i,h,hb,hk=>by
  unfold AtL at *;refine ⟨fun j u hu=>?_,JE a h.2.1 fun q hq=>hk q (by unfold footL; exact List.mem_append_left _ hq),Z2 b l (i+1) h.2.2 (fun _=>hb (by simp)) fun q hq=>hk q (by unfold footL; exact List.mem_append_right _ hq)⟩;exact (World.cell?_of_block (a:=⟨b,i*5+j,none⟩) (hb (by simp))).trans (h.1 j u hu)
end
def Made (lo hi:Nat) (a:An):Prop:=(foot a).Nodup∧∀ b,b∈foot a→lo≤b∧b<hi
theorem Zf {S:List Nat} {W W':World} {lo hi:Nat} {a:An} (h:a.At W) (hm:Made lo hi a) (hc:Chg S W W') (hh:hi≤W.heap.size) (hs:∀ b,b∈S→b<lo):a.At W':=
 JE a h fun b hb=>hc.block b (by have:=(hm.2 b hb).2; omega) (fun hm'=>by have:=(hm.2 b hb).1; have:=hs b hm'; omega)
theorem Kz {W W':World} {lo hi:Nat} {a:An} (h:a.At W) (hm:Made lo hi a) (hc:Below W.heap.size W W') (hh:hi≤W.heap.size):a.At W':=
 JE a h fun b hb=>hc.block b (by have:=(hm.2 b hb).2; omega)
theorem Made.mono {lo hi lo' hi':Nat} {a:An} (h:Made lo hi a) (h1:lo'≤lo) (h2:hi≤hi'):Made lo' hi' a:=⟨h.1,fun b hb=>⟨Nat.le_trans h1 (h.2 b hb).1,Nat.lt_of_lt_of_le (h.2 b hb).2 h2⟩⟩
def leafA (k n:Int) (s:List UInt8) (o:Int):An:=.mk k n s o 0 0 []
theorem Yz (k n:Int) (s:List UInt8) (o:Int) (lo hi:Nat):Made lo hi (leafA k n s o):=⟨by simp[leafA,foot],by simp[leafA,foot]⟩
theorem JbN (W:World) (k n:Int) (s:List UInt8) (o:Int):(leafA k n s o).At W:=by unfold leafA An.At AtL; exact ⟨fun h=>absurd rfl h,trivial⟩
def MadeL (lo hi:Nat):List An→Prop
 | []=>lo≤hi
 | a::l=>∃ m,lo≤m∧Made lo m a∧MadeL m hi l
theorem MadeL.le {lo hi:Nat}:∀ {l:List An},MadeL lo hi l→lo≤hi
 | [],h=>h
 | a::l,⟨m,h1,_,h3⟩=>Nat.le_trans h1 h3.le
theorem MadeL.foot {lo hi:Nat}:∀ {l:List An},MadeL lo hi l→(footL l).Nodup∧∀ b,b∈footL l→lo≤b∧b<hi
 | [],h=>⟨by simp[footL],by simp[footL]⟩
 | a::l,⟨m,h1,h2,h3⟩=>by
  obtain ⟨g1,g2⟩:=h3.foot;unfold footL;refine ⟨List.nodup_append.2 ⟨h2.1,g1,fun x hx y hy e=>?_⟩,fun b hb=>?_⟩
  ·subst e;have:=(h2.2 x hx).2;have:=(g2 x hy).1;omega
  ·rcases List.mem_append.1 hb with hb | hb
   ·have q1:=h2.2 b hb; have q2:=h3.le; exact ⟨q1.1,by omega⟩
   ·have q1:=g2 b hb; exact ⟨by omega,q1.2⟩
theorem Jas {lo hi b:Nat} {l:List An} (h:MadeL lo hi l) (hb:hi≤b) (k n:Int) (s:List UInt8) (o:Int) (c:Nat):Made lo (b+1) (.mk k n s o b c l):=by
 obtain ⟨g1,g2⟩:=h.foot;have hl:=h.le
 cases l with
 | nil=>exact ⟨by simp[foot],by simp[foot]⟩
 | cons x r=>
  unfold Made foot;refine ⟨List.nodup_cons.2 ⟨fun hm=>?_,g1⟩,fun q hq=>?_⟩
  ·have:=(g2 b hm).2; omega
  ·rcases List.mem_cons.1 hq with rfl | hq
   ·exact ⟨by omega,by omega⟩
   ·have:=g2 q hq; exact ⟨this.1,by omega⟩
def rowN (l:List An):List Value:=l.flatMap fun a=>(cellsN a).toList
theorem Kp {W:World} {b:Nat}:∀ (l:List An) (i:Nat),(∀ j u,(rowN l)[j]?=some u→W.cell? ⟨b,i*5+j,none⟩=some u)→(∀ a,a∈l→a.At W)→AtL W b i l
 | [],_,_,_=>by unfold AtL; trivial
 | a::l,i,h,hk=>by
  have e:rowN (a::l)=(cellsN a).toList++rowN l:=rfl;have hl:(cellsN a).toList.length=5:=by rw[Array.length_toList,JV]
  unfold AtL;refine ⟨fun j u hu=>h j u ?_,hk a (by simp),Kp l (i+1) (fun j u hu=>?_) fun x hx=>hk x (List.mem_cons_of_mem _ hx)⟩
  ·rw[e,List.getElem?_append_left (List.getElem?_eq_some_iff.1 hu).1]; exact hu
  ·have:=h (5+j) u (by rw[e,List.getElem?_append_right (by omega),hl,Nat.add_sub_cancel_left]; exact hu);rw[show (i+1)*5+j=i*5+(5+j) by omega];exact this
def tokZ (t:Tok):Array Value:=#[.int .i64 t.kind,.string (bs t.text),.int .i64 t.n,.int .i64 t.off]
structure PAt (W:World) (p:Nat) (A:Option Addr) (C:Nat) (T:List Tok) (k:Nat):Prop where
 self:W.heap[p]?=some (.cells #[.slice A T.length C,.int .i64 k] 73 (0,0))
 toks:∃ b o,A=some ⟨b,o,none⟩∧b≠p∧∀ i t,T[i]?=some t→∀ j u,(tokZ t).toList[j]?=some u→W.cell? ⟨b,o+i*4+j,none⟩=some u
 lt:k<T.length
 fin:∀ i t,T[i]?=some t→(t.kind=4↔i+1=T.length)
 room:T.length≤1000000
theorem PAt.chg {W W':World} {p:Nat} {A:Option Addr} {C:Nat} {T:List Tok} {k:Nat} (h:PAt W p A C T k) (hc:Below W.heap.size W W'):PAt W' p A C T k:=by
 obtain ⟨b,o,e,hne,ht⟩:=h.toks;exact ⟨(hc.block p (Jb h.self)).trans h.self,⟨b,o,e,hne,fun i t hi j u hu=>(hc.cell (World.block_lt_of_cell? W _ (ht i t hi j u hu))).trans (ht i t hi j u hu)⟩,h.lt,h.fin,h.room⟩
theorem PAt.next {W:World} {p:Nat} {A:Option Addr} {C:Nat} {T:List Tok} {k k':Nat} (h:PAt W p A C T k) (hk:k'<T.length):PAt (W.setCell ⟨p,1,none⟩ (.int .i64 k')) p A C T k':=by
 obtain ⟨b,o,e,hne,ht⟩:=h.toks;refine ⟨?_,⟨b,o,e,hne,fun i t hi j u hu=>?_⟩,hk,h.fin,h.room⟩
 ·rw[JC h.self]; rfl
 ·rw[World.cell?_setCell_other _ _ _ _ (by intro e'; first | exact hne (congrArg Addr.block e') | exact hne (congrArg Addr.block e').symm)];exact ht i t hi j u hu
theorem Z3 {T:List Tok} {k:Nat} (h:k<T.length):T[k]?=some (hd (T.drop k)):=by
 rw[List.drop_eq_getElem_cons h];exact List.getElem?_eq_getElem h
theorem tail_drop {T:List Tok} {k:Nat}:(T.drop k).tail=T.drop (k+1):=by rw[List.tail_drop]
theorem PAt.more {W:World} {p:Nat} {A:Option Addr} {C:Nat} {T:List Tok} {k:Nat} (h:PAt W p A C T k) (hk:(hd (T.drop k)).kind≠4):k+1<T.length:=by
 have h1:=(h.fin k _ (Z3 h.lt)).2;have:=h.lt;omega
def failV (o:Int):Value:=.iface 69 (.agg #[.int .i64 2,.int .i64 o])
def BadP (p:Nat) (w:World) (o:Int) (e:Ending) (w':World):Prop:=e=.panicked [{ v:=failV o,recovered:=false }]∧Chg [p] w w'
theorem infoTok:(prog.info? 105).map (·.size)=some 4:=by kernel_rfl
theorem infoNode:(prog.info? 119).map (·.size)=some 5:=by kernel_rfl
theorem infoFail:(prog.info? 69).map (·.size)=some 2:=by kernel_rfl
theorem blk4Z {w:World} {T t:Nat} {a0 a1 a2 a3:Value} (v0 v1 v2 v3:Value) (h:w.heap[T]?=some (.cells #[a0,a1,a2,a3] t (0,0))) :
  ((((w.setCell ⟨T,0,none⟩ v0).setCell ⟨T,1,none⟩ v1).setCell ⟨T,2,none⟩ v2).setCell ⟨T,3,none⟩ v3).heap[T]?=some (.cells #[v0,v1,v2,v3] t (0,0)):=by
 exact wx94
theorem set4Z {B:Nat} {w w1:World} {T:Nat} (v0 v1 v2 v3:Value) (h:Below B w w1) (hT:B≤T):Below B w ((((w1.setCell ⟨T,0,none⟩ v0).setCell ⟨T,1,none⟩ v1).setCell ⟨T,2,none⟩ v2).setCell ⟨T,3,none⟩ v3):=
 (((h.setCell hT v0).setCell hT v1).setCell hT v2).setCell hT v3
theorem PAt.cells {W:World} {p:Nat} {A:Option Addr} {C:Nat} {T:List Tok} {k:Nat} (h:PAt W p A C T k) :
  ∃ b o,A=some ⟨b,o,none⟩∧W.cell? ⟨p,0,none⟩=some (.slice A T.length C)∧W.cell? ⟨p,1,none⟩=some (.int .i64 k)∧
   W.cell? ⟨b,o+k*4,none⟩=some (.int .i64 (hd (T.drop k)).kind)∧W.cell? ⟨b,o+k*4+1,none⟩=some (.string (bs (hd (T.drop k)).text))∧
   W.cell? ⟨b,o+k*4+2,none⟩=some (.int .i64 (hd (T.drop k)).n)∧W.cell? ⟨b,o+k*4+3,none⟩=some (.int .i64 (hd (T.drop k)).off):=by
 obtain ⟨b,o,e,hne,ht⟩:=h.toks;have g:=ht k _ (Z3 h.lt);exact ⟨b,o,e,by rw[Ja h.self]; rfl,by rw[Ja h.self]; rfl,g 0 _ rfl,g 1 _ rfl,g 2 _ rfl,g 3 _ rfl⟩
def TokP (w:World) (t:Tok) (e:Ending) (w':World):Prop:=e=.returned (.agg (tokZ t))∧Below w.heap.size w w'
theorem Kc (p:Nat) (A:Option Addr) (C:Nat) (T:List Tok) (k:Nat) (w:World) (h:PAt w p A C T k):Calls prog 69 #[.pointer (some ⟨p,0,none⟩)] w (TokP w (hd (T.drop k))):=by
 have hZ:=zzw w (.cells #[.int .i64 0,.string ⟨#[]⟩,.int .i64 0,.int .i64 0] 105);have hB:=(Below.refl w.heap.size w).alloc zzl (.cells #[.int .i64 0,.string ⟨#[]⟩,.int .i64 0,.int .i64 0] 105);obtain ⟨b,o,rfl,p0,p1,t0,t1,t2,t3⟩:=(h.chg hB).cells;have hlt:=h.lt;generalize hd (T.drop k)=t at *;generalize hn:T.length=n at *;have bk:(k:Int)<(n:Int):=by omega
 obtain ⟨q0,q1,q2,q3⟩:(w.alloc (.cells #[.int .i64 0,.string ⟨#[]⟩,.int .i64 0,.int .i64 0] 105)).cell? ⟨w.heap.size,0,none⟩=some (.int .i64 0)∧(w.alloc (.cells #[.int .i64 0,.string ⟨#[]⟩,.int .i64 0,.int .i64 0] 105)).cell? ⟨w.heap.size,1,none⟩=some (.string ⟨#[]⟩)∧(w.alloc (.cells #[.int .i64 0,.string ⟨#[]⟩,.int .i64 0,.int .i64 0] 105)).cell? ⟨w.heap.size,2,none⟩=some (.int .i64 0)∧(w.alloc (.cells #[.int .i64 0,.string ⟨#[]⟩,.int .i64 0,.int .i64 0] 105)).cell? ⟨w.heap.size,3,none⟩=some (.int .i64 0):=by
  refine ⟨?_,?_,?_,?_⟩ <;> (rw[Ja hZ]; rfl)
 have hf:=fun j=>Jc hZ j
 have f0:=hf 0;have f1:=hf 1;have f2:=hf 2;have f3:=hf 3;have HZ:=Zh hZ;have HB:=Zh hB;clear hZ hB hf h hn hlt;go_enter func69,ntmps69;go_wp2;go_region;go_wp2;refine bodyPost_ret (results_cell_row rfl _ _ w.heap.size 105 (tokZ t) (0,0) _ rfl (zzw w _) underlying105 rfl infoTok) rfl ⟨rfl,((Below.refl w.heap.size w).alloc zzl _).drew⟩
def AccP (p:Nat) (A:Option Addr) (C:Nat) (T:List Tok) (k:Nat) (kd:Int) (s:List UInt8) (w:World) (e:Ending) (w':World):Prop:=
 ((hd (T.drop k)).kind=kd∧(hd (T.drop k)).text=s∧e=.returned (.bool true)∧PAt w' p A C T (k+1)∧Chg [p] w w')∨
 (¬ ((hd (T.drop k)).kind=kd∧(hd (T.drop k)).text=s)∧e=.returned (.bool false)∧Below w.heap.size w w')
theorem Jq (p:Nat) (A:Option Addr) (C:Nat) (T:List Tok) (k:Nat) (kd:Int) (s:List UInt8) (w:World) (h:PAt w p A C T k) (h4:kd≠4):Calls prog 63 #[.pointer (some ⟨p,0,none⟩),.int .i64 kd,.string (bs s)] w (AccP p A C T k kd s w):=by
 have HP:=Zh h;have cp:=Kc p A C T k w h;have hm:Hid ((hd (T.drop k)).kind=kd→k+1<T.length):=fun e=>h.more (by rw[e]; exact h4)
 have HAcc:Hid (AccP p A C T k kd s w=fun e w'=>((hd (T.drop k)).kind=kd∧(hd (T.drop k)).text=s∧e=.returned (.bool true)∧PAt w' p A C T (k+1)∧Chg [p] w w')∨
 (¬ ((hd (T.drop k)).kind=kd∧(hd (T.drop k)).text=s)∧e=.returned (.bool false)∧Below w.heap.size w w')):=rfl
 unfold TokP at cp;generalize hd (T.drop k)=t at *;generalize AccP p A C T k kd s w=R at *;obtain ⟨tk,tx,tn,tf⟩:=t;unfold tokZ at cp;simp only at cp;have u1:=Jk tx;have u2:=Jk s;clear h h4;go_enter func63,ntmps63;go_wp2_with fail;refine cp.mono ?_;rintro e w1 ⟨rfl,hbx⟩;have hA:=hbx.alloc hbx.size (.cells #[.int .i64 tk,.string (bs tx),.int .i64 tn,.int .i64 tf] 105);have hP1:=HP.out.chg hA;have hN:=zzw w1 (.cells #[.int .i64 tk,.string (bs tx),.int .i64 tn,.int .i64 tf] 105);have hk:k≤1000000:=by have:=hP1.lt; have:=hP1.room; omega
 have wk:IntKind.i64.wrap ((k:Int)+1)=(k:Int)+1:=IntWalk.i64_in _ (by omega);have pc:=Ja hP1.self 1;have pf:=Jc hP1.self 1;have c0:(w1.alloc (.cells #[.int .i64 tk,.string (bs tx),.int .i64 tn,.int .i64 tf] 105)).cell? ⟨w1.heap.size,0,none⟩=some (.int .i64 tk):=by rw[Ja hN]; rfl
 have c1:(w1.alloc (.cells #[.int .i64 tk,.string (bs tx),.int .i64 tn,.int .i64 tf] 105)).cell? ⟨w1.heap.size,1,none⟩=some (.string (bs tx)):=by rw[Ja hN]; rfl
 simp only[ZD,ZE,ZF] at pc;have HA:=Zh hA;have HP1:=Zh hP1;clear hA hP1 hN hbx cp hk
 by_cases hkd:tk=kd
 ·subst hkd;have d1:(tk==tk)=true:=by simp
  by_cases hts:tx=s
  ·subst hts;have d2:(tx==tx)=true:=by simp
   have HF:Hid (PAt ((w1.alloc (.cells #[.int .i64 tk,.string (bs tx),.int .i64 tn,.int .i64 tf] 105)).setCell ⟨p,1,none⟩ (.int .i64 ((k+1:Nat):Int))) p A C T (k+1)):=HP1.out.next (hm.out rfl);go_wp2;rw[HAcc.out];exact .inl ⟨by first | trivial | rfl,by first | trivial | rfl,rfl,HF.out,(Chg.of_below HA.out [p]).setCell (.inl (by simp)) _⟩
  ·have d2:(tx==s)=false:=zzq hts;have HT:=Zh hts;clear hts;go_wp2;rw[HAcc.out];exact .inr ⟨fun h=>HT.out h.2,rfl,HA.out⟩
 ·have d1:(tk==kd)=false:=zzq hkd;have HT:=Zh hkd;clear hkd;go_wp2;rw[HAcc.out];exact .inr ⟨fun h=>HT.out h.1,rfl,HA.out⟩
def WrongP (w:World) (o:Int) (e:Ending) (w':World):Prop:=e=.returned (.agg #[.int .i64 2,.int .i64 o])∧Below w.heap.size w w'
theorem Kr (p:Nat) (A:Option Addr) (C:Nat) (T:List Tok) (k:Nat) (w:World) (h:PAt w p A C T k):Calls prog 70 #[.pointer (some ⟨p,0,none⟩)] w (WrongP w (hd (T.drop k)).off):=by
 have hZ:=zzw w (.cells #[.int .i64 0,.int .i64 0] 69);have hB:=(Below.refl w.heap.size w).alloc zzl (.cells #[.int .i64 0,.int .i64 0] 69);have cp:=Kc p A C T k _ (h.chg hB);unfold TokP at cp;generalize hd (T.drop k)=t at *;obtain ⟨tk,tx,tn,tf⟩:=t;unfold tokZ at cp;simp only at cp ⊢;have HZ:=Zh hZ;have HB:=Zh hB;have hfl:∀ W:World,(Instr.field 105 (.agg #[.int .i64 tk,.string (bs tx),.int .i64 tn,.int .i64 tf]) 3).run prog W=.ok (.int .i64 tf) W:=fun W=>by kernel_rfl
 clear hZ hB h;go_enter func70,ntmps70;go_wp2_with fail;refine cp.mono ?_;rintro e w1 ⟨rfl,hbx⟩;have hZ1:=(hbx.block _ (Jb HZ.out)).trans HZ.out;have c0:w1.cell? ⟨w.heap.size,0,none⟩=some (.int .i64 0):=by rw[Ja hZ1]; rfl
 have c1:w1.cell? ⟨w.heap.size,1,none⟩=some (.int .i64 0):=by rw[Ja hZ1]; rfl
 have f0:=Jc hZ1 0;have f1:=Jc hZ1 1;have H1:=Zh hZ1;have HB1:=Zh (HB.out.trans (hbx.mono HB.out.size));clear hZ1 hbx cp;go_wp2;refine bodyPost_ret (results_cell_row rfl _ _ w.heap.size 69 #[.int .i64 2,.int .i64 tf] (0,0) _ rfl (heap_setCell_same _ _ 1 _ _ _ (heap_setCell_same _ _ 0 _ _ _ H1.out)) underlying69 rfl infoFail) rfl ⟨rfl,(HB1.out.setCell zzl _).setCell zzl _⟩
def NeedP (p:Nat) (A:Option Addr) (C:Nat) (T:List Tok) (k:Nat) (kd:Int) (s:List UInt8) (w:World) (e:Ending) (w':World):Prop:=
 ((hd (T.drop k)).kind=kd∧(hd (T.drop k)).text=s∧e=.returned (.tuple #[])∧PAt w' p A C T (k+1)∧Chg [p] w w')∨
 (¬ ((hd (T.drop k)).kind=kd∧(hd (T.drop k)).text=s)∧BadP p w (hd (T.drop k)).off e w')
theorem wx67 {P:Prop}(h:P:=by
  have hp1:=HP.out.chg hb1;clear g1 ca HP hb1;go_wp2_with fail;refine (cw _ hp1).mono ?_;rintro e w2 ⟨rfl,hb2⟩;go_wp2;refine ⟨rfl,?_⟩;rw[HR.out]
  exact .inr ⟨HF.out.1,rfl,Chg.of_below (HF.out.2.trans (hb2.mono HF.out.2.size)) [p]⟩):P:=h
theorem wx137 {P:Prop}(h:P:=by
  clear g1 g2 hp1 hc1 ca cw HP;go_wp2;go_end0;rw[HR.out]
  exact .inl ⟨HF.out.1.1,HF.out.1.2,rfl,HF.out.2⟩):P:=h
theorem JgF (p:Nat) (A:Option Addr) (C:Nat) (T:List Tok) (k:Nat) (s:List UInt8) (w:World) (h:PAt w p A C T k):Calls prog 66 #[.pointer (some ⟨p,0,none⟩),.string (bs s)] w (NeedP p A C T k 0 s w):=by
 have ca:=Jq p A C T k 0 s w h (by decide);have cw:=fun W hW=>Kr p A C T k W hW
 have HP:=Zh h
 have HR:Hid (∀ e w',NeedP p A C T k 0 s w e w'=(((hd (T.drop k)).kind=0∧(hd (T.drop k)).text=s∧e=.returned (.tuple #[])∧PAt w' p A C T (k+1)∧Chg [p] w w')∨
 (¬ ((hd (T.drop k)).kind=0∧(hd (T.drop k)).text=s)∧BadP p w (hd (T.drop k)).off e w'))):=fun _ _=>rfl
 generalize NeedP p A C T k 0 s w=R at *;clear h;go_enter func66,ntmps66;go_wp2_with fail;refine ca.mono ?_;rintro e w1 h1
 rcases h1 with ⟨g1,g2,rfl,hp1,hc1⟩ | ⟨g1,rfl,hb1⟩
 ·have HF:Hid (((hd (T.drop k)).kind=0∧(hd (T.drop k)).text=s)∧PAt w1 p A C T (k+1)∧Chg [p] w w1):=⟨⟨g1,g2⟩,hp1,hc1⟩
  exact wx137
 ·have HF:Hid (¬ ((hd (T.drop k)).kind=0∧(hd (T.drop k)).text=s)∧Below w.heap.size w w1):=⟨g1,hb1⟩
  exact wx67
end Go.Proofs.YtncanmdgdflnpaaGreatDoor
