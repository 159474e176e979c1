import Derived.Test.YtdlkcjkjnehnkaaGreatDoorH39
import Derived.Test.YtdlkcjkjnehnkaaGreatDoorH40
open List(cons_append length_append length_cons length_map)
namespace Go.Proofs.YtdlkcjkjnehnkaaGreatDoor
open Go Go.Lib
open Go.ChangeShapes Go.WideShapes Go.ChangeAt Go.RowKit
open Go.ChangeShapes Go.WideShapes Go.ChangeAt Go.RowKit Go.Lib
open Go.RowKit
open Go Go.ChangeShapes Go.WideShapes Go.ChangeAt Go.RowKit Go.Lib
open Go
open _root_.Go.Proofs.Tryz
set_option linter.all false
set_option maxRecDepth 100000
set_option maxHeartbeats 32000000
theorem QhF:∀ (l:List UInt8) (k:Nat) (ts:List Tok),sc k l=.ok ts->∀ j,∃ us,sc j l=.ok us/\us.map er=ts.map er:=by
 refine Jdg (P:=fun k l=>∀ ts,sc k l=.ok ts->∀ j,∃ us,sc j l=.ok us/\us.map er=ts.map er) ?_ ?_ ?_ ?_
 ·intro k ts h j;rw[Jdf]at h;injection h with h;subst h;exact⟨_,rfl,rfl⟩
 ·intro k c r hs ih ts h j;rw[Jhr k r hs]at h;rw[Jhr j r hs];exact ih ts h _
 ·intro k c r hs ht ts h;rw[JbW k r hs ht]at h
  cases h
 ·intro k c r t n hs ht h1 hn ih ts h j;rw[Jak k r hs ht]at h;obtain⟨rs,hr,rfl⟩:=JeV h;obtain⟨us,e1,e2⟩:=ih rs hr (j+n);rw[Jak j r hs ht,e1];refine⟨_,rfl,?_⟩;simp only[List.map_cons,e2];rfl
def SR{α:Type}(suf suf':List Tok)(x x':PR α):Prop:=∀ a r,x=.ok a r->∃ p,r=p++suf/\x'=.ok a (p++suf')
def Gs{α:Type}(suf suf':List Tok)(g g':List Tok->PR α):Prop:=∀ p,SR suf suf' (g (p++suf)) (g' (p++suf'))
def lko{α:Type}(g:Int->List Tok->PR α):List Tok->PR α:=fun r=>g (hd r).off r
section
variable {n1 n2:Int} {q1 q2:List Tok}
abbrev Us1(n1:Int)(q1:List Tok):List Tok:=(⟨0,Qaj,n1,0⟩:Tok)::q1
abbrev Us2(n2:Int)(q2:List Tok):List Tok:=(⟨0,QaR,n2,0⟩:Tok)::q2
theorem Gs.bind{α β:Type}{suf suf':List Tok}{g g':List Tok->PR α}{f f':α->List Tok->PR β}(h:Gs suf suf' g g')(hf:∀ a,Gs suf suf' (f a) (f' a)):Gs suf suf' (fun r=>(g r).bind f) (fun r=>(g' r).bind f'):=by
 intro p b r e;obtain⟨a,r1,h1,h2⟩:=Je e;obtain⟨p1,rfl,h3⟩:=h p a r1 h1;obtain⟨p2,h4,h5⟩:=hf a p1 b r h2;exact⟨p2,h4,by simp only[h3];exact h5⟩
theorem Gs.ok{α:Type}{suf suf':List Tok}(a:α):Gs suf suf' (fun r=>.ok a r) (fun r=>.ok a r):=fun p b r e=>by
 injection e with e1 e2;exact⟨p,e2.symm,by rw[e1]⟩
theorem Gs.bad{α:Type}{suf suf':List Tok}{g':List Tok->PR α}:Gs suf suf' (fun r=>(.bad (hd r).off:PR α)) g':=fun p b r e=>by cases e
theorem Gs.cond{α:Type}{suf suf':List Tok}{c:Prop}[Decidable c]{g g' h h':List Tok->PR α}(hg:Gs suf suf' g g')(hh:Gs suf suf' h h'):Gs suf suf' (fun r=>if c then g r else h r) (fun r=>if c then g' r else h' r):=by
 by_cases q:c
 ·simp only[if_pos q];exact hg
 ·simp only[if_neg q];exact hh
theorem Gs.look{α:Type}{g g':Int->List Tok->PR α}(h:∀ o,Gs (Us1 n1 q1) (Us2 n2 q2) (g o) (g' o)):Gs (Us1 n1 q1) (Us2 n2 q2) (lko g) (lko g'):=fun p=>by
 cases p with
 |nil=>exact h 0 []
 |cons t p=>exact h t.off (t::p)
theorem Gs.pick{α:Type}{k:Int}{s:List UInt8}{g g' h h':List Tok->PR α}(hk:¬ (k=0/\(s=Qaj\/s=QaR)))(hg:Gs (Us1 n1 q1) (Us2 n2 q2) g g')(hh:Gs (Us1 n1 q1) (Us2 n2 q2) h h') :
  Gs (Us1 n1 q1) (Us2 n2 q2) (fun r=>match acc k s r with|some r1=>g r1|none=>h r) (fun r=>match acc k s r with|some r1=>g' r1|none=>h' r):=fun p=>by
 cases p with
 |nil=>
  have e1:acc k s ([]++Us1 n1 q1)=none:=Kn fun e=>hk ⟨e.1.symm,.inl e.2.symm⟩
  have e2:acc k s ([]++Us2 n2 q2)=none:=Kn fun e=>hk ⟨e.1.symm,.inr e.2.symm⟩
  simp only[e1,e2];exact hh []
 |cons t p=>
  have e0:∀ q,acc k s (t::p++q)=if t.kind=k/\t.text=s then some (p++q) else none:=fun q=>rfl
  simp only[e0]
  by_cases q:t.kind=k/\t.text=s
  ·simp only[if_pos q];exact hg p
  ·simp only[if_neg q];exact hh (t::p)
theorem Gs.takes{α:Type}{c:Tok->Prop}[DecidablePred c]{g g':Tok->List Tok->PR α}{h h':List Tok->PR α}(h1:¬ c ⟨0,Qaj,n1,0⟩)(h2:¬ c ⟨0,QaR,n2,0⟩)(hg:∀ t,Gs (Us1 n1 q1) (Us2 n2 q2) (g t) (g' t))(hh:Gs (Us1 n1 q1) (Us2 n2 q2) h h') :
  Gs (Us1 n1 q1) (Us2 n2 q2) (tks c g h) (tks c g' h'):=fun p=>by
 cases p with
 |nil=>
  have e1:tks c g h ([]++Us1 n1 q1)=h ([]++Us1 n1 q1):=if_neg h1;have e2:tks c g' h' ([]++Us2 n2 q2)=h' ([]++Us2 n2 q2):=if_neg h2;rw[e1,e2];exact hh []
 |cons t p=>
  by_cases q:c t
  ·have e1:∀ (g:Tok->List Tok->PR α) h q2,tks c g h (t::p++q2)=g t (p++q2):=fun g h q2=>if_pos q
   rw[e1,e1];exact hg t p
  ·have e1:∀ (g:Tok->List Tok->PR α) h q2,tks c g h (t::p++q2)=h (t::p++q2):=fun g h q2=>if_neg q
   rw[e1,e1];exact hh (t::p)
theorem Gs.opt{α:Type}{c:Tok->Option Int}{g g':Int->Tok->List Tok->PR α}{h h':List Tok->PR α}(h1:c ⟨0,Qaj,n1,0⟩=none)(h2:c ⟨0,QaR,n2,0⟩=none)(hg:∀ k t,Gs (Us1 n1 q1) (Us2 n2 q2) (g k t) (g' k t))(hh:Gs (Us1 n1 q1) (Us2 n2 q2) h h') :
  Gs (Us1 n1 q1) (Us2 n2 q2) (op1 c g h) (op1 c g' h'):=fun p=>by
 cases p with
 |nil=>
  have e1:op1 c g h ([]++Us1 n1 q1)=h ([]++Us1 n1 q1):=by unfold op1;rw[show hd ([]++Us1 n1 q1)=⟨0,Qaj,n1,0⟩ from rfl,h1]
  have e2:op1 c g' h' ([]++Us2 n2 q2)=h' ([]++Us2 n2 q2):=by unfold op1;rw[show hd ([]++Us2 n2 q2)=⟨0,QaR,n2,0⟩ from rfl,h2]
  rw[e1,e2];exact hh []
 |cons t p=>
  cases q:c t with
  |some k=>
   have e1:∀ (g:Int->Tok->List Tok->PR α) h q2,op1 c g h (t::p++q2)=g k t (p++q2):=fun g h q2=>by unfold op1;rw[show hd (t::p++q2)=t from rfl,q];rfl
   rw[e1,e1];exact hg k t p
  |none=>
   have e1:∀ (g:Int->Tok->List Tok->PR α) h q2,op1 c g h (t::p++q2)=h (t::p++q2):=fun g h q2=>by unfold op1;rw[show hd (t::p++q2)=t from rfl,q]
   rw[e1,e1];exact hh (t::p)
theorem QaO{k:Int}{s:List UInt8}(hk:¬ (k=0/\(s=Qaj\/s=QaR))):Gs (Us1 n1 q1) (Us2 n2 q2) (Qaf k s) (Qaf k s):=
 Gs.pick (g:=fun r=>.ok () r) (h:=fun r=>.bad (hd r).off) hk (Gs.ok ()) Gs.bad
theorem QdE:Gs (Us1 n1 q1) (Us2 n2 q2) Qau Qau:=
 Gs.takes (c:=fun t=>t.kind=0/\Qar t.text=true) (g:=fun t r=>.ok (t.text,t.off) r) (h:=fun r=>.bad (hd r).off) (fun h=>absurd h.2 (by change ¬ Qar Qaj=true;decide)) (fun h=>absurd h.2 (by change ¬ Qar QaR=true;decide)) (fun t=>Gs.ok _) Gs.bad
theorem Qhb:Gs (Us1 n1 q1) (Us2 n2 q2) Qbp Qbp:=
 Gs.takes (c:=fun t=>t.kind=2) (g:=fun t r=>.ok t.text r) (h:=fun r=>.bad (hd r).off) (fun h=>absurd h (by change ¬ (0:Int)=2;decide)) (fun h=>absurd h (by change ¬ (0:Int)=2;decide)) (fun t=>Gs.ok _) Gs.bad
theorem QeP:Gs (Us1 n1 q1) (Us2 n2 q2) Qav Qav:=
 (QaO (by decide)).bind fun _=>Qhb.bind fun s=>(QaO (by decide)).bind fun _=>Gs.ok s
theorem QiW(d:Nat):∀ (f:Nat) (md:Md),Gs (Us1 n1 q1) (Us2 n2 q2) (pM f md) (pM (f+d) md)
 |0,md=>fun p a r e=>by rw[pM]at e;cases e
 |f+1,md=>by
  have ih:=QiW d f;rw[show f+1+d=f+d+1 by omega]
  cases md with
  |expr=>
   have e1:∀ f,pM (f+1) .expr=lko (fun (o:Int) r=>match acc 0 QeN r with
    |some r1=>(Qau r1).bind fun nm r2=>(Qaf 3 [61] r2).bind fun _ r3=>(pM f .expr r3).bind fun v r4=>(Qaf 0 kIn r4).bind fun _ r5=>(pM f .expr r5).bind fun b r6=>.ok (.mk 19 0 nm.1 o [v,b]) r6
    |none=>match acc 0 kIf r with
     |some r1=>(pM f .expr r1).bind fun c r2=>(Qaf 0 QbJ r2).bind fun _ r3=>(pM f .expr r3).bind fun y r4=>(Qaf 0 QdP r4).bind fun _ r5=>(pM f .expr r5).bind fun z r6=>.ok (.mk 18 0 [] o [c,y,z]) r6
     |none=>pM f (.level 1) r):=fun f=>by funext r;rw[pM];rfl
   rw[e1,e1];refine Gs.look fun t=>?_
   exact Gs.pick (by decide) (QdE.bind fun nm=>(QaO (by decide)).bind fun _=>(ih .expr).bind fun v=>(QaO (by decide)).bind fun _=>(ih .expr).bind fun b=>Gs.ok _)
    (Gs.pick (by decide) ((ih .expr).bind fun c=>(QaO (by decide)).bind fun _=>(ih .expr).bind fun y=>(QaO (by decide)).bind fun _=>(ih .expr).bind fun z=>Gs.ok _) (ih (.level 1)))
  |level lv=>
   have e1:∀ f,pM (f+1) (.level lv)=lko (fun (o:Int) r=>if lv=3 then match acc 0 Qfn r with
      |some r1=>(pM f (.level 3) r1).bind fun a r2=>.ok (.mk 7 0 [] o [a]) r2
      |none=>pM f .cmp r
     else if lv=7 then match acc 3 [45] r with
      |some r1=>(pM f (.level 7) r1).bind fun a r2=>.ok (.mk 6 0 [] o [a]) r2
      |none=>pM f .prim r
     else (pM f (.level (lv+1)) r).bind fun a r1=>pM f (.loop lv o a) r1):=fun f=>by funext r;rw[pM];rfl
   rw[e1,e1];refine Gs.look fun t=>?_
   exact Gs.cond (Gs.pick (by decide) ((ih (.level 3)).bind fun a=>Gs.ok _) (ih .cmp))
    (Gs.cond (Gs.pick (by decide) ((ih (.level 7)).bind fun a=>Gs.ok _) (ih .prim)) ((ih (.level (lv+1))).bind fun a=>ih _))
  |loop lv o a=>
   have e1:∀ f,pM (f+1) (.loop lv o a)=op1 (opK lv) (fun (k:Int) (t:Tok) r=>(pM f (.level (lv+1)) r).bind fun b r1=>pM f (.loop lv o (.mk k 0 [] o [a,b])) r1) (fun r=>.ok a r):=fun f=>by funext r;rw[pM];unfold op1;cases opK lv (hd r)<;>rfl
   rw[e1,e1];exact Gs.opt (by unfold opK;simp[Qaj,kOr,QgU]) (by unfold opK;simp[QaR,kOr,QgU]) (fun k t=>(ih (.level (lv+1))).bind fun b=>ih _) (Gs.ok a)
  |cmp=>
   have e1:∀ f,pM (f+1) .cmp=fun r=>(pM f (.level 5) r).bind fun a=>op1 QcS (fun (k:Int) (t:Tok) r=>(pM f (.level 5) r).bind fun b r2=>.ok (Qdn t k a b) r2) (fun r1=>.ok a r1):=fun f=>by
    funext r;rw[pM];congr 1;funext a r1;unfold op1;cases QcS (hd r1)<;>rfl
   rw[e1,e1];exact(ih (.level 5)).bind fun a=>Gs.opt rfl rfl (fun k t=>(ih (.level 5)).bind fun b=>Gs.ok _) (Gs.ok a)
  |prim=>
   have e1:∀ f,pM (f+1) .prim=lko (fun (o:Int)=>tks (fun u=>u.kind=1) (fun (u:Tok) r=>PR.ok (Nd.mk 0 u.n [] u.off []) r) fun r=>match acc 3 [40] r with
    |some r1=>(pM f .expr r1).bind fun n r2=>(Qaf 3 [41] r2).bind fun _ r3=>.ok (.mk n.kind n.num n.name o n.kids) r3
    |none=>match acc 0 QbA r with
     |some r1=>.ok (.mk 1 0 [] o []) r1
     |none=>match acc 0 Qcf r with
      |some r1=>.ok (.mk 1 1 [] o []) r1
      |none=>match acc 0 QbW r with
       |some r1=>(Qav r1).bind fun s r2=>.ok (.mk 4 0 s o []) r2
       |none=>match acc 0 QcX r with
        |some r1=>(Qav r1).bind fun s r2=>.ok (.mk 5 0 s o []) r2
        |none=>tks (fun u=>(QaD u.text).isSome/\u.kind=0) (fun (u:Tok) r=>PR.ok (Nd.mk 3 0 u.text u.off []) r) (pM f .named) r):=fun f=>by funext r;rw[pM];rfl
   rw[e1,e1];refine Gs.look fun o=>?_
   exact Gs.takes (c:=fun t=>t.kind=1) (fun h=>absurd h (by change ¬ (0:Int)=1;decide)) (fun h=>absurd h (by change ¬ (0:Int)=1;decide)) (fun t=>Gs.ok _) (Gs.pick (by decide) ((ih .expr).bind fun n=>(QaO (by decide)).bind fun _=>Gs.ok _)
    (Gs.pick (by decide) (Gs.ok _) (Gs.pick (by decide) (Gs.ok _) (Gs.pick (by decide) (QeP.bind fun s=>Gs.ok _) (Gs.pick (by decide) (QeP.bind fun s=>Gs.ok _)
     (Gs.takes (c:=fun t=>(QaD t.text).isSome/\t.kind=0) (fun h=>absurd h.1 (by change ¬ (QaD Qaj).isSome=true;decide)) (fun h=>absurd h.1 (by change ¬ (QaD QaR).isSome=true;decide)) (fun t=>Gs.ok _) (ih .named)))))))
  |named=>
   have e1:∀ f,pM (f+1) .named=fun r=>(Qau r).bind fun nm r1=>match acc 3 [40] r1 with
    |some r2=>(match acc 3 [41] r2 with
     |some r3=>.ok (.mk 20 0 nm.1 nm.2 []) r3
     |none=>pM f (.args nm.1 nm.2 []) r2)
    |none=>.ok (.mk 2 0 nm.1 nm.2 []) r1:=fun f=>by
     funext r;rw[pM];congr 1;funext nm r1;cases acc 3 [40] r1<;>rfl
   rw[e1,e1];exact QdE.bind fun nm=>Gs.pick (by decide) (Gs.pick (by decide) (Gs.ok _) (ih _)) (Gs.ok _)
  |args nm o l=>
   have e1:∀ f,pM (f+1) (.args nm o l)=fun r=>(pM f .expr r).bind fun a r1=>match acc 3 [44] r1 with
    |some r2=>pM f (.args nm o (l++[a])) r2
    |none=>(Qaf 3 [41] r1).bind fun _ r2=>.ok (.mk 20 0 nm o (l++[a])) r2:=fun f=>by funext r;rw[pM];try rfl
   rw[e1,e1];exact(ih .expr).bind fun a=>Gs.pick (by decide) (ih _) ((QaO (by decide)).bind fun _=>Gs.ok _)
theorem Qis:Gs (Us1 n1 q1) (Us2 n2 q2) QcB QcB:=
 Gs.pick (by decide) (Gs.ok 0) (Gs.pick (h:=fun r=>.bad (hd r).off) (by decide) (Gs.ok 1) Gs.bad)
theorem QjS:Gs (Us1 n1 q1) (Us2 n2 q2) Qcj Qcj:=
 Gs.pick (by decide) (Gs.ok 0) (Gs.pick (by decide) (Gs.ok 1) (Gs.pick (by decide) (Gs.ok 2) (Gs.pick (h:=fun r=>.bad (hd r).off) (by decide) (Gs.ok 3) Gs.bad)))
theorem QeQ(d:Nat):∀ (f:Nat) (ps:List (List UInt8 × Int)) (ts:List Int),Gs (Us1 n1 q1) (Us2 n2 q2) (Qak f ps ts) (Qak (f+d) ps ts)
 |0,ps,ts=>fun p a r e=>by rw[Qak]at e;cases e
 |f+1,ps,ts=>by
  rw[show f+1+d=f+d+1 by omega]
  have e1:∀ f,Qak (f+1) ps ts=fun r=>(Qau r).bind fun nm r1=>(Qaf 3 [58] r1).bind fun _ r2=>(QcB r2).bind fun t r3=>
   match acc 3 [44] r3 with
   |some r4=>Qak f (ps++[nm]) (ts++[t]) r4
   |none=>(Qaf 3 [41] r3).bind fun _ r4=>.ok (ps++[nm],ts++[t]) r4:=fun f=>by funext r;rw[Qak];try rfl
  rw[e1,e1];exact QdE.bind fun nm=>(QaO (by decide)).bind fun _=>Qis.bind fun t=>Gs.pick (by decide) (QeQ d f _ _) ((QaO (by decide)).bind fun _=>Gs.ok _)
theorem QjQ(d f:Nat):Gs (Us1 n1 q1) (Us2 n2 q2) (Qdb f) (Qdb (f+d)):=by
 have e1:∀ f,Qdb f=fun r=>(Qau r).bind fun nm r1=>(Qaf 3 [40] r1).bind fun _ r2=>
  (match acc 3 [41] r2 with
   |some r3=>PR.ok ([],[]) r3
   |none=>Qak f [] [] r2).bind fun pt r3=>(Qaf 3 [58] r3).bind fun _ r4=>(QcB r4).bind fun t r5=>(Qaf 3 [61] r5).bind fun _ r6=>(pM f .expr r6).bind fun b r7=>.ok ⟨nm,pt.1,pt.2,t,b⟩ r7:=fun f=>by funext r;unfold Qdb;rfl
 rw[e1,e1]
 exact QdE.bind fun nm=>(QaO (by decide)).bind fun _=>Gs.bind (g:=fun r2=>match acc 3 [41] r2 with
   |some r3=>PR.ok (([],[]):List (List UInt8 × Int) × List Int) r3
   |none=>Qak f [] [] r2) (g':=fun r2=>match acc 3 [41] r2 with
   |some r3=>PR.ok (([],[]):List (List UInt8 × Int) × List Int) r3
   |none=>Qak (f+d) [] [] r2) (Gs.pick (by decide) (Gs.ok _) (QeQ d f _ _)) fun pt=>(QaO (by decide)).bind fun _=>Qis.bind fun t=>(QaO (by decide)).bind fun _=>(QiW d f .expr).bind fun b=>Gs.ok _
theorem Qhc(d g c:Nat):∀ (f:Nat) (l:List FnS),Gs (Us1 n1 q1) (Us2 n2 q2) (Qbc g f l) (Qbc (g+d) (f+c) l)
 |0,l=>fun p a r e=>by rw[Qbc]at e;cases e
 |f+1,l=>by
  rw[show f+1+c=f+c+1 by omega];have e1:∀ g f,Qbc g (f+1) l=fun r=>match acc 0 QdX r with|some r1=>(Qdb g r1).bind fun x r2=>Qbc g f (l++[x]) r2|none=>.ok l r:=fun g f=>by funext r;rw[Qbc];try rfl
  rw[e1,e1];exact Gs.pick (by decide) ((QjQ d g).bind fun x=>Qhc d g c f _) (Gs.ok l)
theorem QjR(d g:Nat):∀ (n:Nat) (l:List ClS),Gs (Us1 n1 q1) (Us2 n2 q2) (clN g n l) (clN (g+d) n l)
 |0,l=>Gs.ok l
 |n+1,l=>fun p=>by
  cases p with
  |nil=>intro a r e;cases e
  |cons t p=>
   have e0:∀ g q,clN g (n+1) l (t::p++q)=if t.kind=0/\t.text=QaR then (QiO g (p++q)).bind fun c r2=>clN g n (l++[c]) r2 else .bad t.off:=fun g q=>by
    rw[clN];have:acc 0 QaR (t::p++q)=if t.kind=0/\t.text=QaR then some (p++q) else none:=rfl;rw[this]
    by_cases z:t.kind=0/\t.text=QaR
    ·rw[if_pos z,if_pos z]
    ·rw[if_neg z,if_neg z];rfl
   rw[e0,e0]
   by_cases z:t.kind=0/\t.text=QaR
   ·rw[if_pos z,if_pos z]
    have h1:Gs (Us1 n1 q1) (Us2 n2 q2) (QiO g) (QiO (g+d)):=by
     have e1:∀ g,QiO g=fun r=>(pM g .expr r).bind fun c r2=>(Qaf 0 QbJ r2).bind fun _ r3=>(Qcj r3).bind fun a r4=>(Qbp r4).bind fun s r5=>.ok ⟨c,a,s⟩ r5:=fun g=>rfl
     rw[e1,e1];exact(QiW d g .expr).bind fun c=>(QaO (by decide)).bind fun _=>QjS.bind fun a=>Qhb.bind fun s=>Gs.ok _
    exact(h1.bind fun c=>QjR d g n _) p
   ·rw[if_neg z];intro a r e
    cases e
end
theorem QjT(g:Nat):∀ (f:Nat) (l l':List ClS) (r r':List Tok),Qad g f l r=.ok l' r'->∃ n,n<f/\clN g n l r=.ok l' r'
 |0,l,l',r,r',h=>by rw[Qad]at h;cases h
 |f+1,l,l',r,r',h=>by
  rw[Qad]at h
  cases e:acc 0 QaR r with
  |none=>
   rw[e]at h;exact⟨0,by omega,h⟩
  |some r1=>
   rw[e]at h;simp only at h;obtain⟨c1,p1,g1,h⟩:=Je h;obtain⟨c2,p2,g2,h⟩:=Je h;obtain⟨c3,p3,g3,h⟩:=Je h;obtain⟨c4,p4,g4,h⟩:=Je h;obtain⟨n,h1,h2⟩:=QjT g f _ _ _ _ h;refine⟨n+1,by omega,?_⟩;rw[clN,e];simp only;unfold QiO;rw[g1,Jj,g2,Jj,g3,Jj,g4,Jj,Jj];exact h2
def xmY:List It:=[.s 32,.t (tW QaR),.s 32,.t (tS [40]),.t (tW Qcf),.t (tS [41]),.s 32,.t (tW QbJ),.s 32,.t (tW QbV),.s 32,.t (tT [109])]
def xmX:List It:=xmY++[.s 32]
theorem Qlt:Ch xmX:=
 KB (JD (J6 (by decide)) (KB (KE (by decide) (JD (J6 (by decide)) (KE (by decide) (KB (JD (J6 (by decide)) (KB (JD (J6 (by decide)) (KB (Jcq (by decide) (KB (by rw[Ch];trivial)))) (JV (by decide) _))) (JV (by decide) _))) (by decide)) (JY (by decide) _)) (by decide))) (JV (by decide) _))
theorem Qjy(g k:Nat)(cs:List ClS)(n1:Int)(q1:List Tok):Qad (g+20) (k+2) cs (tk xmX++Us1 n1 q1)=.ok (cs++[⟨.mk 1 1 [] 0 [],1,[109]⟩]) (Us1 n1 q1):=by kernel_rfl
theorem QhA{f:Nat}{T r':List Tok}{s:Src}(hE:QkF T)(h0:∀ t∈T,t.off=0)(h:QcO f T=.ok s r'){F:Nat}(hF:f+40<=F) :
  ∃ P n1 q1,T=P++Us1 n1 q1/\q1.length=2/\(∀ t∈q1,¬ (t.kind=0/\t.text=Qaj))/\QcO F (P++(tk xmX++Us1 n1 q1))=.ok ⟨s.funcs,s.clauses++[⟨.mk 1 1 [] 0 [],1,[109]⟩],s.action⟩ r':=by
 have hne:T≠[]:=by obtain⟨us,e,rfl,_,_⟩:=hE;simp
 have hT:Lf T T:=⟨List.suffix_refl _,hne⟩
 unfold QcO at h;obtain⟨fs,r1,h1,h⟩:=Je h;have i1:=QfJ hE f f [] T hT (fun x hx=>by simp at hx);rw[h1]at i1;obtain⟨cs,r2,h2,h⟩:=Je h;have i2:=QdU hE f f [] r1 i1.1 (fun x hx=>by simp at hx);rw[h2]at i2;obtain⟨u,r3,h3,h⟩:=Je h;have i3:=QaH hE (k:=0) (s:=Qaj) (by decide) i2.1;rw[h3]at i3;have e3:=Qfu h3;obtain⟨a,r4,h4,h⟩:=Je h;have i4:=Qhn hE i3.1;rw[h4]at i4;have e4:=Qhm h4
 have hk4:(hd r4).kind=4:=by
  by_cases q:(hd r4).kind=4
  ·exact q
  ·rw[if_neg q]at h;cases h
 rw[if_pos hk4]at h;injection h with e5 e6;obtain⟨⟨P,hP⟩,hr2⟩:=i2.1
 cases r2 with
 |nil=>exact absurd rfl hr2
 |cons d q1=>
  have hd1:d.kind=0/\d.text=Qaj:=by
   unfold Qaf at h3
   cases z:acc 0 Qaj (d::q1) with
   |none=>rw[z]at h3;cases h3
   |some r=>
    unfold acc at z;split at z
    ·next g=>exact g
    ·cases z
  have e3:r3=q1:=e3;subst e3;have hdo:d.off=0:=h0 d (by rw[<- hP];simp);obtain⟨dk,dt,dn,dof⟩:=d;obtain⟨rfl,rfl⟩:dk=0/\dt=Qaj:=hd1;obtain rfl:dof=0:=hdo;obtain⟨us,e,hTe,hu,he4⟩:=hE
  have h4l:r4=[e]:=by
   obtain⟨⟨z,hz⟩,hz2⟩:=i4.1
   cases r4 with
   |nil=>exact absurd rfl hz2
   |cons t r5=>
    cases r5 with
    |nil=>
     have:=congrArg List.getLast? (hz.trans hTe);simpa using this
    |cons t2 r6=>
     exfalso
     obtain⟨y,sy,hy⟩:∃ y sy,t2::r6=sy++[y]:=⟨(t2::r6).getLast (by simp),(t2::r6).dropLast,(List.dropLast_concat_getLast (by simp)).symm⟩
     have hz3:=hz.trans hTe;rw[hy]at hz3;have h6:(z++(t::sy))++[y]=us++[e]:=by rw[<- hz3];simp
     have h7:=(List.append_inj' h6 rfl).1;exact hu t (by rw[<- h7];simp) hk4
  have hq1:∃ t,r3=t::[e]/\¬ (t.kind=0/\t.text=Qaj):=by
   cases r3 with
   |nil=>exact absurd rfl i3.1.2
   |cons t r=>
    have:r4=r:=e4;refine⟨t,by rw[<- h4l,this],fun hh=>?_⟩;obtain⟨tk,tt,tn,tof⟩:=t;obtain⟨rfl,rfl⟩:tk=0/\tt=Qaj:=hh
    cases h4
  obtain⟨t,rfl,ht⟩:=hq1;refine⟨P,dn,t::[e],hP.symm,rfl,fun x hx=>?_,?_⟩
  ·rcases List.mem_cons.1 hx with rfl|hx
   ·exact ht
   ·rw[List.mem_singleton.1 hx];intro hh;rw[hh.1]at he4
    cases he4
  ·obtain⟨d,rfl⟩:∃ d,F=f+d:=⟨F-f,by omega⟩
   have eX:tk xmX++Us1 dn (t::[e])=Us2 0 ((tk xmX++Us1 dn (t::[e])).tail):=rfl;rw[eX];rw[<- hP]at h1;obtain⟨p1,g1,g2⟩:=Qhc (n1:=dn) (n2:=0) (q1:=t::[e]) (q2:=(tk xmX++Us1 dn (t::[e])).tail) d f d f [] P fs r1 h1;subst g1;obtain⟨n,hn,h5⟩:=QjT f f _ _ _ _ h2;obtain⟨p2,g3,g4⟩:=QjR (n1:=dn) (n2:=0) (q1:=t::[e]) (q2:=(tk xmX++Us1 dn (t::[e])).tail) d f n [] p1 cs _ h5
   have hp2:p2=[]:=by
    have g3:Us1 dn [t,e]=p2++Us1 dn [t,e]:=g3;have:=congrArg List.length g3;rw[length_append]at this;exact List.eq_nil_of_length_eq_zero (by omega)
   subst hp2;unfold QcO;rw[g2,Jj];obtain⟨m,hm⟩:∃ m,f+d=m+n:=⟨f+d-n,by omega⟩
   have h6:=Qem (f+d) n m [] cs _ _ g4;rw[<- hm]at h6;rw[h6,List.nil_append,<- eX];have h7:=Qjy (f+d-20) (m-2) cs dn (t::[e]);rw[show f+d-20+20=f+d by omega,show m-2+2=m by omega]at h7;rw[h7,Jj];have h8:Qaf 0 Qaj (Us1 dn (t::[e]))=.ok () (t::[e]):=rfl;rw[h8,Jj,h4,Jj,if_pos hk4,<- e6,<- e5]
theorem Qfb:∀ (Y:List It) (k:Nat) (rest:List UInt8),Ch (Y++[.s 32])->sc k (Qae (Y++[.s 32])++rest)=match sc (k+(Qae (Y++[.s 32])).length) rest with
  |.ok r=>.ok (tkO k (Y++[.s 32])++r)
  |.err e=>.err e
 |[],k,rest,h=>by
  rw[List.nil_append,QfK];change sc k (32::rest)=_;rw[Jhr k rest (by decide)];have e1:(32::Qae []).length=1:=rfl;rw[e1]
  cases sc (k+1) rest<;>rfl
 |.s c::Y,k,rest,h=>by
  rw[cons_append,Ch]at h;have ih:=Qfb Y (k+1) rest h.2;rw[cons_append,QfK,cons_append,Jhr k _ h.1,ih,length_cons,tkO];rw[show k+1+(Qae (Y++[.s 32])).length=k+((Qae (Y++[.s 32])).length+1) by omega]
 |.t x::Y,k,rest,h=>by
  rw[cons_append,Ch]at h;have hne:Qae (Y++[It.s 32])≠[]:=by rw[J5];simp[Qae,It.bytes]
  have hnx:Nx x (Qae (Y++[.s 32])++rest):=by
   have hh:(Qae (Y++[It.s 32])++rest).head?=(Qae (Y++[It.s 32])).head?:=by
    cases e:Qae (Y++[It.s 32]) with
    |nil=>exact absurd e hne
    |cons c l=>rfl
   have h2:=h.2.1;unfold Nx QhZ at h2 |-;rw[hh];exact h2
  obtain⟨ht,⟨c,q,hc,hs⟩,ho⟩:=Jlo h.1 hnx;have ih:=Qfb Y (k+(wr x).length) rest h.2.2;rw[cons_append,Qhd,List.append_assoc,length_append,tkO];rw[hc,cons_append]at ht;rw[hc,cons_append,Jak k _ hs ht,<- cons_append,List.drop_left' rfl];rw[hc]at ih;rw[ih,Nat.add_assoc]
  cases sc (k+((c::q).length+(Qae (Y++[It.s 32])).length)) rest<;>rfl
theorem QjE{l:List UInt8}{k:Nat}{ts:List Tok}(h:sc k l=.ok ts){i:Nat}{t:Tok}(ht:ts[i]?=some t):(k:Int)<=t.off:=by
 obtain⟨_,_,_,h2⟩:=Jjy l k ts h;exact(h2 t (List.mem_of_getElem? ht)).1
theorem QjF{Y:List It}(hX:Ch (.s 32::(Y++[.s 32]))):∀ (l:List UInt8) (k:Nat) (ts:List Tok),sc k l=.ok ts->∀ (i:Nat) (t:Tok) (o:Nat),ts[i]?=some t->t.off=((k+o:Nat):Int)->
  ∀ j,∃ us,sc j (l.take o++(Qae (.s 32::(Y++[.s 32]))++l.drop o))=.ok us/\us.map er=(ts.take i).map er++(tk (.s 32::(Y++[.s 32]))++(ts.drop i).map er):=by
 have key:∀ (l:List UInt8) (k:Nat) (ts:List Tok),sc k l=.ok ts->∀ j,∃ us,sc j (Qae (.s 32::(Y++[.s 32]))++l)=.ok us/\us.map er=tk (.s 32::(Y++[.s 32]))++ts.map er:=fun l k ts h j=>by
  have h1:=Qfb (.s 32::Y) j l hX;obtain⟨us,h2,h3⟩:=QhF l k ts h (j+(Qae (.s 32::Y++[.s 32])).length);rw[h2]at h1;exact⟨_,h1,by rw[List.map_append,h3];exact congrArg (·++ts.map er) (Qgv _ j hX)⟩
 refine Jdg (P:=fun k l=>∀ ts,sc k l=.ok ts->∀ (i:Nat) (t:Tok) (o:Nat),ts[i]?=some t->t.off=((k+o:Nat):Int)->
  ∀ j,∃ us,sc j (l.take o++(Qae (.s 32::(Y++[.s 32]))++l.drop o))=.ok us/\us.map er=(ts.take i).map er++(tk (.s 32::(Y++[.s 32]))++(ts.drop i).map er)) ?_ ?_ ?_ ?_
 ·intro k ts h i t o ht ho j;have h':=h;rw[Jdf]at h;injection h with h;subst h
  cases i with
  |zero=>
   rw[List.take_nil,List.drop_nil];exact key [] k _ h' j
  |succ i=>simp at ht
 ·intro k c r hs ih ts h i t o ht ho j;rw[Jhr k r hs]at h;have hlo:=QjE h ht;obtain⟨o,rfl⟩:∃ o',o=o'+1:=⟨o-1,by omega⟩
  obtain⟨us,h1,h2⟩:=ih ts h i t o ht (by rw[ho];omega) (j+1);refine⟨us,?_,h2⟩;rw[List.take_succ_cons,List.drop_succ_cons,cons_append,Jhr j _ hs];exact h1
 ·intro k c r hs hn ts h;rw[JbW k r hs hn]at h
  cases h
 ·intro k c r tt n hs htt h1 hn ih ts h i t o ht ho j;have h':=h;rw[Jak k r hs htt]at h;obtain⟨ts',h2,rfl⟩:=JeV h
  cases i with
  |zero=>
   simp only[List.getElem?_cons_zero,Option.some.injEq]at ht;subst ht;have ho:(k:Int)=((k+o:Nat):Int):=ho;obtain rfl:o=0:=by omega
   exact key (c::r) k _ h' j
  |succ i=>
   simp only[List.getElem?_cons_succ]at ht;have hlo:=QjE h2 ht;obtain⟨o,rfl⟩:∃ o',o=n+o':=⟨o-n,by omega⟩
   obtain⟨us,g1,g2⟩:=ih ts' h2 i t o ht (by rw[ho];omega) (j+n);have hw:=(JaP htt).1;refine⟨{ tt with off:=(j:Int) }::us,?_,?_⟩
   ·rw[List.take_add,<- hw,List.append_assoc,<- List.drop_drop]
    have hst:Stop ((c::r).drop n) (((c::r).drop n).take o++(Qae (.s 32::(Y++[.s 32]))++((c::r).drop n).drop o)):=by
     cases o with
     |zero=>exact .inr (.inr ⟨32,Qae (Y++[.s 32])++(c::r).drop n,rfl,by decide⟩)
     |succ o=>
      cases e:(c::r).drop n with
      |nil=>
       rw[List.take_nil,List.drop_nil];exact .inr (.inr ⟨32,Qae (Y++[.s 32])++[],rfl,by decide⟩)
      |cons d q=>exact .inl rfl
    rw[QgA j hs htt _ hst,g1];rfl
   ·rw[List.map_cons,g2,List.take_succ_cons,List.drop_succ_cons];rfl
theorem QgN{l:List UInt8}{T:List Tok}{r:Qaq}(hs:sc 0 l=.ok T)(hR:QaA l=(T,0,0))(hp:Qbr l=(r,0,0))(hl:l.length<=3000) :
  ∃ p t o,T.length=p+3/\T[p]?=some t/\t.kind=0/\t.text=Qaj/\t.off=((o:Nat):Int)/\o<=l.length/\(∀ i u,p<i->T[i]?=some u->¬ (u.kind=0/\u.text=Qaj))/\
   Qbr (l.take o++(Qae xmX++l.drop o))=(⟨r.funcs,r.clauses++[⟨.mk 1 1 [] [],1,[109]⟩],r.action⟩,0,0):=by
 have hT0:∀ t∈T.map er,t.off=0:=fun t ht=>by
  obtain⟨u,_,rfl⟩:=List.mem_map.1 ht;rfl
 have hE:QkF (T.map er):=by
  obtain⟨us,e,rfl,hu,he⟩:=QiC hs
  exact⟨us.map er,er e,by rw[List.map_append];rfl,fun t ht=>by
   obtain⟨u,hm,rfl⟩:=List.mem_map.1 ht
   exact hu u hm,he⟩
 rw[Qcd hR]at hp;obtain⟨⟨r',e',o'⟩,hpt⟩:=QdN (f:=12*(T.length+1)) (l:=T) (by omega);rw[hpt]at hp;simp only[Option.getD_some,Prod.mk.injEq]at hp;obtain⟨rfl,rfl,rfl⟩:=hp;have hz:=Jiq (12*(T.length+1)) T;rw[hpt]at hz
 cases hsr:QcO (12*(T.length+1)) (T.map er) with
 |out=>unfold QaW at hz;rw[hsr]at hz;cases hz
 |bad o=>unfold QaW at hz;rw[hsr]at hz;simp at hz
 |ok s q=>
  rw[JeF hsr]at hz;have hc:Qcs s=(r',0,0):=Option.some.inj hz;obtain⟨P,n1,q1,hT,hq1,hq2,hsm⟩:=QhA hE hT0 hsr (F:=12*(T.length+8)) (by omega)
  have hlen:T.length=P.length+3:=by
   have:=congrArg List.length hT;rw[length_map,length_append,length_cons,hq1]at this;exact this
  have hget:∀ i,(T.map er)[i]?=(T[i]?).map er:=fun i=>List.getElem?_map ..
  have hPt:T[P.length]?=some (T[P.length]'(by omega)):=List.getElem?_eq_getElem (by omega)
  have hPe:er (T[P.length]'(by omega))=⟨0,Qaj,n1,0⟩:=by
   have h1:=hget P.length;rw[hT,List.getElem?_append_right (Nat.le_refl _),Nat.sub_self,hPt]at h1;exact(Option.some.inj h1).symm
  obtain⟨o,ho1,ho2,_⟩:=QjG l 0 T hs P.length _ hPt;rw[Nat.zero_add]at ho1;refine⟨P.length,_,o,hlen,hPt,congrArg Tok.kind hPe,congrArg Tok.text hPe,ho1,ho2,fun i u hi hu=>?_,?_⟩
  ·have h1:=hget i;rw[hT,hu,List.getElem?_append_right (by omega)]at h1;obtain⟨j,hj⟩:∃ j,i-P.length=j+1:=⟨i-P.length-1,by omega⟩
   rw[hj,List.getElem?_cons_succ]at h1;have:=hq2 (er u) (List.mem_of_getElem? h1);exact this
  ·obtain⟨us,hu1,hu2⟩:=QjF (Y:=xmY.tail) Qlt l 0 T hs P.length _ o hPt (by rw[Nat.zero_add];exact ho1) 0;have ee:(It.s 32::(xmY.tail++[It.s 32]))=xmX:=rfl;rw[ee]at hu1 hu2
   have hP1:(T.take P.length).map er=P:=by
    rw[List.map_take,hT,List.take_left]
   have hP2:(T.drop P.length).map er=Us1 n1 q1:=by
    rw[List.map_drop,hT,List.drop_left]
   rw[hP1,hP2]at hu2
   have hul:us.length=T.length+7:=by
    have:=congrArg List.length hu2;rw[length_map,length_append,length_append,length_cons,hq1,show (tk xmX).length=7 from rfl]at this;omega
   have hus:QaA (l.take o++(Qae xmX++l.drop o))=(us,0,0):=by
    unfold QaA;rw[if_neg,hu1];rw[length_append,length_append,List.length_take,List.length_drop,show (Qae xmX).length=28 from rfl];omega
   rw[Qcd hus,hul];rw[<- hu2]at hsm;have hc2:=Qhj (fs:=s.funcs) (cs:=s.clauses) (act:=s.action) hc ⟨.mk 1 1 [] 0 [],1,[109]⟩ (by rw[Qlp];decide)
   have hrc:resC (s.funcs.map (·.name.1)) ⟨.mk 1 1 [] 0 [],1,[109]⟩=(⟨.mk 1 1 [] 0 [],1,[109]⟩,[]):=by
    unfold resC;simp only[Qlm _ [] 1 1 0 (.inr rfl)]
   have hnd:∀ sg,QcP sg [] 1 (.mk 1 1 [] 0 [])=[]:=fun sg=>by
    unfold QcP;simp only[QhL];rfl
   rw[hrc]at hc2;simp only[QaG,hnd]at hc2;have hz2:=Jiq (12*(T.length+8)) us;rw[JeF hsm,hc2]at hz2
   cases hq:QaW (12*(T.length+8)) us with
   |none=>rw[hq]at hz2;cases hz2
   |some x=>
    obtain⟨r2,e2,o2⟩:=x;rw[hq]at hz2;simp only[Option.map_some,Option.some.injEq,Prod.mk.injEq]at hz2;obtain⟨rfl,rfl,_⟩:=hz2;rw[JeE hq,Qab,QaJ];rfl
theorem QjB{l:List UInt8}{t:Tok}{n:Nat}(h:QaU l=some (t,n)):Tk1 t:=by
 have hb:=Qhy h;have hfx:=JaQ h
 cases l with
 |nil=>cases h
 |cons c r=>
  unfold QaU at h;simp only at h
  by_cases h1:Qci c=true
  ·rw[if_pos h1]at h;split at h
   ·next h2=>
    simp only[Option.some.injEq,Prod.mk.injEq]at h;obtain⟨rfl,_⟩:=h;have hw:QbB c=true:=by unfold QbB;rw[h1];rfl
    refine .inl ⟨_,rfl,h2,⟨c,Qao r,?_,h1⟩,Qep _⟩;unfold Qao;rw[List.takeWhile_cons,if_pos hw]
   ·cases h
  rw[if_neg h1]at h
  by_cases h2:Qdy c=true
  ·rw[if_pos h2]at h
   cases hp:QaE (Qao (c::r)) 0 1125899906842624 with
   |none=>rw[hp]at h;cases h
   |some m=>
    rw[hp]at h;simp only[Option.map_some,Option.some.injEq,Prod.mk.injEq]at h;obtain⟨rfl,_⟩:=h;exact .inr (.inl ⟨m,rfl,hb.1.1,hb.1.2⟩)
  rw[if_neg h2]at h
  by_cases h3:c=34
  ·rw[if_pos h3]at h
   cases hp:Qax 25 r with
   |none=>rw[hp]at h;cases h
   |some m=>
    rw[hp]at h;simp only[Option.map_some,Option.some.injEq,Prod.mk.injEq]at h;obtain⟨rfl,_⟩:=h;exact .inr (.inr (.inl ⟨m,rfl,hb.2 rfl⟩))
  rw[if_neg h3]at h;split at h
  ·cases h
  ·next h4=>
   simp only[Option.some.injEq,Prod.mk.injEq]at h;obtain⟨rfl,_⟩:=h;refine .inr (.inr (.inr ⟨_,rfl,?_⟩))
   rcases Jec (c::r) with⟨q,_⟩|⟨_,c',r',_,hc',e⟩|e
   ·have:∀ x∈Qco,x∈Qes:=by decide
    exact this _ q
   ·rw[e];have:∀ x∈QaF,[x]∈Qes:=by decide
    exact this _ hc'
   ·exact absurd e h4
theorem Qll:∀ (l:List UInt8) (k:Nat) (ts:List Tok),sc k l=.ok ts->∀ t∈ts,t.kind≠4->Tk1 (er t):=by
 refine Jdg (P:=fun k l=>∀ ts,sc k l=.ok ts->∀ t∈ts,t.kind≠4->Tk1 (er t)) ?_ ?_ ?_ ?_
 ·intro k ts h t ht hk;rw[Jdf]at h;injection h with h;subst h;rw[List.mem_singleton.1 ht]at hk;exact absurd rfl hk
 ·intro k c r hs ih ts h;rw[Jhr k r hs]at h;exact ih ts h
 ·intro k c r hs hn ts h;rw[JbW k r hs hn]at h
  cases h
 ·intro k c r t n hs ht h1 hn ih ts h u hu hk;rw[Jak k r hs ht]at h;obtain⟨ts',h2,rfl⟩:=JeV h
  rcases List.mem_cons.1 hu with rfl|hu
  ·have h4:=QjB ht;have h5:=(JaQ ht).2.2.2.2.2
   have:er { t with off:=(k:Int) }=t:=by
    obtain⟨a,b,d,o⟩:=t;simp only at h5;subst h5;rfl
   rw[this];exact h4
  ·exact ih ts' h2 u hu hk
def itl:List Tok->List It
 |[]=>[]
 |[t]=>[.t t]
 |t::u::r=>.t t::.s 32::itl (u::r)
theorem QfF:∀ V:List Tok,Qae (itl V)=QcY (V.map wr)
 |[]=>rfl
 |[t]=>by rw[itl,Qhd];simp[Qae,QcY]
 |t::u::r=>by
  rw[itl,Qhd,QfK,QfF (u::r)];rfl
theorem Qio:∀ V:List Tok,tk (itl V)=V
 |[]=>rfl
 |[t]=>rfl
 |t::u::r=>by rw[itl,Qlf,QlQ,Qio (u::r)]
theorem QiD:QhZ (Qae []):=by unfold QhZ Qae;simp
theorem Qip:∀ V:List Tok,(∀ t∈V,Tk1 t)->Ch (itl V)
 |[],_=>by rw[itl,Ch];trivial
 |[t],h=>by
  rw[itl,Ch,Ch];exact⟨h t (by simp),⟨fun _=>QiD,fun _ _=>by simp[Qae]⟩,trivial⟩
 |t::u::r,h=>by
  rw[itl,Ch,Ch];exact⟨h t (by simp),⟨fun _=>JV (by decide) _,fun _ _=>by rw[QfK];change some (32:UInt8)≠some 61;decide⟩,by decide,Qip (u::r) fun x hx=>h x (by simp[hx])⟩
theorem QiQ{t:Tok}(h:Tk1 t):0<=t.kind/\t.kind<=3:=by
 rcases h with⟨s,rfl,_⟩|⟨n,rfl,_⟩|⟨s,rfl,_⟩|⟨s,rfl,_⟩
 ·exact⟨show (0:Int)<=0 by decide,show (0:Int)<=3 by decide⟩
 ·exact⟨show (0:Int)<=1 by decide,show (1:Int)<=3 by decide⟩
 ·exact⟨show (0:Int)<=2 by decide,show (2:Int)<=3 by decide⟩
 ·exact⟨show (0:Int)<=3 by decide,show (3:Int)<=3 by decide⟩
theorem Qhw{U V:List Tok}(h:U.map er=V++[QdS])(hV:∀ t∈V,Tk1 t):Qcw U=QcY (V.map wr):=by
 have e1:U.filterMap wrO=(U.map er).filterMap wrO:=by
  rw[List.filterMap_map];rfl
 have e2:∀ V:List Tok,(∀ t∈V,Tk1 t)->V.filterMap wrO=V.map wr:=fun V hV=>by
  induction V with
  |nil=>rfl
  |cons t V ih=>
   have hk:=QiQ (hV t (by simp));rw[List.filterMap_cons,Qjz hk.1 hk.2,ih fun x hx=>hV x (by simp[hx])];rfl
 unfold Qcw;rw[e1,h,List.filterMap_append,e2 V hV];have:[QdS].filterMap wrO=[]:=rfl;rw[this,List.append_nil]
section
variable (fr to':List UInt8)
def rnG:Bool->List Tok->List Tok
 |_,[]=>[]
 |d,t::r=>(if t.kind=0/\t.text=fr/\Qch (hd r)=false/\d=false then⟨t.kind,to',t.n,t.off⟩ else t)::rnG (Qdm t) r
theorem Qig:∀ (l:List Tok) (d:Bool),(∀ t∈l,¬ (t.kind=0/\t.text=to'))->rnG fr to' d l=rn fr to' d l
 |[],d,h=>by rw[rnG,rn]
 |t::r,d,h=>by
  rw[rnG,rn,Qig r _ fun x hx=>h x (by simp[hx])]
  congr 1
  have ht:=h t (by simp);unfold rnT sg
  by_cases h1:t.kind=0/\t.text=fr/\Qch (hd r)=false/\d=false
  ·rw[if_pos h1,if_pos ⟨h1.1,h1.2.2.2,h1.2.2.1⟩,if_pos h1.2.1]
  ·rw[if_neg h1];split
   ·next h2=>
    rw[if_neg (fun e=>h1 ⟨h2.1,e,h2.2.2,h2.2.1⟩),if_neg (fun e=>ht ⟨h2.1,e⟩)]
   ·rfl
theorem QgF{e:Tok}(he:e.kind=4):∀ (us:List Tok) (d:Bool),∃ vs,rn fr to' d (us++[e])=vs++[e]/\∀ t∈vs,∃ u∈us,t=u\/(u.kind=0/\t=⟨u.kind,sg fr to' u.text,u.n,u.off⟩)
 |[],d=>by
  refine⟨[],?_,fun t ht=>by cases ht⟩;rw[List.nil_append,rn,rn];change [rnT fr to' d e (hd [])]=[e];unfold rnT;rw[if_neg (fun h=>by rw[he]at h;exact absurd h.1 (by decide))]
 |u::us,d=>by
  obtain⟨vs,h1,h2⟩:=QgF he us (Qdm u);refine⟨rnT fr to' d u (hd (us++[e]))::vs,by rw[cons_append,rn,h1];rfl,fun t ht=>?_⟩
  rcases List.mem_cons.1 ht with rfl|ht
  ·refine⟨u,by simp,?_⟩;unfold rnT;split
   ·next h=>exact .inr ⟨h.1,rfl⟩
   ·exact .inl rfl
  ·obtain⟨x,hx,h3⟩:=h2 t ht;exact⟨x,by simp[hx],h3⟩
theorem Qie:∀ (l:List Tok) (d:Bool),(rn fr to' d l).length=l.length
 |[],d=>by rw[rn]
 |t::r,d=>by rw[rn,length_cons,length_cons,Qie r]
theorem QeL{l:List UInt8}{T:List Tok}{r:Qaq}(hf:Qar fr=true)(ht:Qar to'=true)(hs:sc 0 l=.ok T)(hR:QaA l=(T,0,0))(hp:Qbr l=(r,0,0))(hto:∀ t∈T,¬ (t.kind=0/\t.text=to'))(hw:(Qcw (rnG fr to' false T)).length<=4096) :
  Qbr (Qcw (rnG fr to' false T))=(r,0,0):=by
 rw[Qig fr to' T false hto]at hw |-;rw[Qcd hR]at hp;obtain⟨⟨r',e',o'⟩,hpt⟩:=QdN (f:=12*(T.length+1)) (l:=T) (by omega);rw[hpt]at hp;simp only[Option.getD_some,Prod.mk.injEq]at hp;obtain⟨rfl,rfl,rfl⟩:=hp
 have hSh:Sh T:=fun t h=>by
  obtain⟨us,rfl,hu,_⟩:=Jjy l 0 T hs
  rcases List.mem_append.1 h with g|g
  ·exact Nat.le_trans (hu t g).2.2.1 (by decide)
  ·rw[List.mem_singleton.1 g];exact Nat.zero_le _
 have hk1:=Qll l 0 T hs;have hprn:=QhK fr to' hf ht hSh hpt;obtain⟨us,hT,hu,_⟩:=Jjy l 0 T hs;obtain⟨vs,hv1,hv2⟩:=QgF fr to' (e:=⟨4,[],0,((0+l.length:Nat):Int)⟩) rfl us false;rw[<- hT]at hv1
 have hV:∀ t∈vs.map er,Tk1 t:=fun t h=>by
  obtain⟨v,hv,rfl⟩:=List.mem_map.1 h;obtain⟨u,hmu,h3⟩:=hv2 v hv;have hku:=hk1 u (by rw[hT];simp[hmu]) (by have:=(hu u hmu).2.1;omega)
  rcases h3 with rfl|⟨h0,rfl⟩
  ·exact hku
  ·rcases hku with⟨s,e1,e2⟩|⟨n,e1,_⟩|⟨s,e1,_⟩|⟨s,e1,_⟩
   ·have e3:u.text=s:=congrArg Tok.text e1;have e4:u.n=0:=congrArg Tok.n e1;refine .inl ⟨sg fr to' u.text,?_,?_⟩
    ·unfold er tW;simp only[h0,e4]
    ·unfold sg;split
     ·exact Kh ht
     split
     ·exact Kh hf
     ·rw[e3];exact e2
   ·have:=congrArg Tok.kind e1;exact absurd (h0.symm.trans this) (by change ¬ (0:Int)=1;decide)
   ·have:=congrArg Tok.kind e1;exact absurd (h0.symm.trans this) (by change ¬ (0:Int)=2;decide)
   ·have:=congrArg Tok.kind e1;exact absurd (h0.symm.trans this) (by change ¬ (0:Int)=3;decide)
 have hme:(rn fr to' false T).map er=vs.map er++[QdS]:=by rw[hv1,List.map_append];rfl
 have hwe:=Qhw hme hV;obtain⟨ws,hw1,hw2⟩:=Jcp (itl (vs.map er)) 0 (Qip _ hV);rw[QfF,<- hwe]at hw1;rw[Qio,<- hme]at hw2;have hsw:QaA (Qcw (rn fr to' false T))=(ws,0,0):=by unfold QaA;rw[if_neg (by omega),hw1]
 have hwl:ws.length=T.length:=by
  have:=congrArg List.length hw2;rw[length_map,hme,length_append,length_map]at this;have h2:=congrArg List.length hv1;have h3:(rn fr to' false T).length=T.length:=Qie fr to' T false;rw[h3,length_append]at h2;simp only[length_cons,List.length_nil]at this h2;omega
 rw[Qcd hsw,hwl];have hz:=Jiq (12*(T.length+1)) ws;rw[hw2,Jiq,hprn]at hz
 cases hq:QaW (12*(T.length+1)) ws with
 |none=>rw[hq]at hz;cases hz
 |some x=>
  obtain⟨r2,e2,o2⟩:=x;rw[hq]at hz;simp only[Option.map_some,Option.some.injEq,Prod.mk.injEq]at hz;obtain⟨rfl,rfl,_⟩:=hz;rw[JeE hq];rfl
end
end Go.Proofs.YtdlkcjkjnehnkaaGreatDoor
