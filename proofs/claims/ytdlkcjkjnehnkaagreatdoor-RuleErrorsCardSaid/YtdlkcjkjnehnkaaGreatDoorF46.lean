import Derived.Test.YtdlkcjkjnehnkaaGreatDoorF43
namespace Go.Proofs.YtdlkcjkjnehnkaaGreatDoor
open Go Go.Lib
open Go.ChangeShapes Go.WideShapes Go.ChangeAt Go.RowKit
open Go.ChangeShapes Go.WideShapes Go.ChangeAt Go.RowKit
open Go.ChangeShapes Go.WideShapes Go.ChangeAt Go.RowKit Go.Lib
open Go.RowKit
open Go
open _root_.Go.Proofs.Tryz
set_option linter.all false
set_option maxRecDepth 100000
set_option maxHeartbeats 32000000
theorem Stop.mid {rest sp:List UInt8} {o:Nat} (ho:o≤rest.length) (hb:blankL sp):Stop rest (rest.take o++(sp++rest.drop o)):=by
 cases o with
 | zero=>
  cases sp with
  | nil=>exact .inl (by simp)
  | cons c s=>exact .inr (.inr ⟨c,s++rest,by simp,hb c (by simp)⟩)
 | succ o=>
  cases rest with
  | nil=>simp at ho
  | cons c r=>exact .inl (by simp)
theorem Stop.cut {rest:List UInt8} {o:Nat} (ho:o≤rest.length):Stop rest (rest.take o):=by
 have:=Stop.mid (sp:=[]) ho (fun c h=>by simp at h)
 cases o with
 | zero=>exact .inr (.inl (by simp))
 | succ o=>
  cases rest with
  | nil=>simp at ho
  | cons c r=>exact .inl (by simp)
def EC {α:Type} (e:Tok):PR α→Prop
 | .out=>True
 | .bad o=>o=e.off
 | .ok _ r=>r=[e]
def CR {α:Type} (suf:List Tok) (e:Tok) (x x':PR α):Prop:=EC e x'∨(∀ a r,x≠.ok a r)∨∃ a p,x=.ok a (p++suf)∧x'=.ok a (p++[e])
structure Gd {α:Type} (suf:List Tok) (e:Tok) (g g':List Tok→PR α):Prop where
 fin:EC e (g' [e])
 go:∀ t p,CR suf e (g (t::p++suf)) (g' (t::p++[e]))
def lk {α:Type} (g:Tok→List Tok→PR α):List Tok→PR α:=fun r=>g (hd r) r
def op1 {α:Type} (c:Tok→Option Int) (g:Int→Tok→List Tok→PR α) (h:List Tok→PR α):List Tok→PR α:=fun r=>match c (hd r) with | some k=>g k (hd r) r.tail | none=>h r
def tks {α:Type} (c:Tok→Prop) [DecidablePred c] (g:Tok→List Tok→PR α) (h:List Tok→PR α):List Tok→PR α:=fun r=>if c (hd r) then g (hd r) r.tail else h r
section
variable {suf:List Tok} {e:Tok}
theorem Gd.all {α:Type} {g g':List Tok→PR α} (h:Gd suf e g g') (p:List Tok):CR suf e (g (p++suf)) (g' (p++[e])):=by
 cases p with
 | nil=>exact .inl h.fin
 | cons t p=>exact h.go t p
theorem CR.bind {α β:Type} {x x':PR α} {f f':α→List Tok→PR β} (h:CR suf e x x') (hf:∀ a,Gd suf e (f a) (f' a)):CR suf e (x.bind f) (x'.bind f'):=by
 rcases h with h | h | ⟨a,p,rfl,rfl⟩
 ·cases x' with
  | out=>exact .inl trivial
  | bad o=>exact .inl h
  | ok a r=>
   have h:r=[e]:=h;subst h;exact .inl (hf a).fin
 ·refine .inr (.inl fun a r hx=>?_);obtain ⟨a1,r1,h1,_⟩:=Je hx;exact h a1 r1 h1
 ·exact (hf a).all p
theorem Gd.bind {α β:Type} {g g':List Tok→PR α} {f f':α→List Tok→PR β} (h:Gd suf e g g') (hf:∀ a,Gd suf e (f a) (f' a)):Gd suf e (fun r=>(g r).bind f) (fun r=>(g' r).bind f'):=by
 refine ⟨?_,fun t p=>(h.go t p).bind hf⟩;have:=h.fin
 cases hx:g' [e] with
 | out=>trivial
 | bad o=>rw[hx] at this; exact this
 | ok a r=>
  rw[hx] at this;have this:r=[e]:=this;subst this;exact (hf a).fin
theorem Gd.ok {α:Type} (a:α):Gd suf e (fun r=>.ok a r) (fun r=>.ok a r):=⟨rfl,fun t p=>.inr (.inr ⟨a,t::p,rfl,rfl⟩)⟩
theorem Gd.bad {α:Type}:Gd suf e (fun r=>(.bad (hd r).off:PR α)) (fun r=>.bad (hd r).off):=⟨rfl,fun t p=>.inr (.inl fun a r h=>by cases h)⟩
theorem Gd.look {α:Type} {g g':Tok→List Tok→PR α} (h:∀ t,Gd suf e (g t) (g' t)):Gd suf e (lk g) (lk g'):=
 ⟨(h e).fin,fun t p=>(h t).go t p⟩
theorem Gd.cond {α:Type} {c:Prop} [Decidable c] {g g' h h':List Tok→PR α} (hg:Gd suf e g g') (hh:Gd suf e h h'):Gd suf e (fun r=>if c then g r else h r) (fun r=>if c then g' r else h' r):=by
 by_cases q:c
 ·simp only[if_pos q]; exact hg
 ·simp only[if_neg q]; exact hh
theorem Gd.takes {α:Type} {c:Tok→Prop} [DecidablePred c] {g g':Tok→List Tok→PR α} {h h':List Tok→PR α} (he:¬ c e) (hg:∀ t,Gd suf e (g t) (g' t)) (hh:Gd suf e h h') :
  Gd suf e (tks c g h) (tks c g' h'):=by
 refine ⟨?_,fun t p=>?_⟩
 ·have:hd [e]=e:=rfl;simp only[tks,this,if_neg he];exact hh.fin
 ·have:∀ q,hd (t::p++q)=t:=fun q=>rfl
  have h2:∀ q,(t::p++q).tail=p++q:=fun q=>rfl
  simp only[tks,this,h2]
  by_cases q:c t
  ·simp only[if_pos q]; exact (hg t).all p
  ·simp only[if_neg q]; exact hh.go t p
theorem Gd.pick {α:Type} {k:Int} {s:List UInt8} {g g' h h':List Tok→PR α} (he:e.kind≠k) (hg:Gd suf e g g') (hh:Gd suf e h h') :
  Gd suf e (fun r=>match acc k s r with | some r1=>g r1 | none=>h r) (fun r=>match acc k s r with | some r1=>g' r1 | none=>h' r):=by
 have e1:∀ (g h:List Tok→PR α),(fun r=>match acc k s r with | some r1=>g r1 | none=>h r)=fun r=>if (hd r).kind=k∧(hd r).text=s then g r.tail else h r:=by
  intro g h
  funext r
  unfold acc
  by_cases q:(hd r).kind=k∧(hd r).text=s
  ·simp only[if_pos q]
  ·simp only[if_neg q]
 rw[e1,e1];exact Gd.takes (c:=fun t=>t.kind=k∧t.text=s) (g:=fun _=>g) (g':=fun _=>g') (fun h=>he h.1) (fun _=>hg) hh
theorem Gd.opt {α:Type} {c:Tok→Option Int} {g g':Int→Tok→List Tok→PR α} {h h':List Tok→PR α} (he:c e=none) (hg:∀ k t,Gd suf e (g k t) (g' k t)) (hh:Gd suf e h h') :
  Gd suf e (op1 c g h) (op1 c g' h'):=by
 refine ⟨?_,fun t p=>?_⟩
 ·have:hd [e]=e:=rfl;simp only[op1,this,he];exact hh.fin
 ·have:∀ q,hd (t::p++q)=t:=fun q=>rfl
  have h2:∀ q,(t::p++q).tail=p++q:=fun q=>rfl
  simp only[op1,this,h2]
  cases c t with
  | some k=>exact (hg k t).all p
  | none=>exact hh.go t p
variable (h4:e.kind=4)
include h4
theorem ne4 {k:Int} (h:k≠4):e.kind≠k:=by omega
theorem gd_accept {k:Int} {s:List UInt8} (hk:k≠4):Gd suf e (accept k s) (accept k s):=
 Gd.pick (g:=fun r=>.ok () r) (h:=fun r=>.bad (hd r).off) (ne4 h4 hk) (Gd.ok ()) Gd.bad
theorem gd_ident:Gd suf e identP identP:=
 Gd.takes (c:=fun t=>t.kind=0∧identB t.text=true) (g:=fun t r=>.ok (t.text,t.off) r) (h:=fun r=>.bad (hd r).off) (fun h=>ne4 h4 (by decide) h.1) (fun t=>Gd.ok _) Gd.bad
theorem gd_text:Gd suf e textP textP:=
 Gd.takes (c:=fun t=>t.kind=2) (g:=fun t r=>.ok t.text r) (h:=fun r=>.bad (hd r).off) (fun h=>ne4 h4 (by decide) h) (fun t=>Gd.ok _) Gd.bad
theorem gd_quoted:Gd suf e quotedP quotedP:=
 (gd_accept h4 (by decide)).bind fun _=>(gd_text h4).bind fun s=>(gd_accept h4 (by decide)).bind fun _=>Gd.ok s
theorem opK_end {lv:Nat}:opK lv e=none:=by
 unfold opK;simp[h4]
theorem cmpK_end:cmpK e=none:=by
 unfold cmpK;simp[h4]
theorem gd_pM (d:Nat):∀ (f:Nat) (md:Md),Gd suf e (pM (f+d) md) (pM f md)
 | 0,md=>by
  have:pM 0 md=fun _=>.out:=by funext r; rw[pM]; try rfl
  rw[this];exact ⟨trivial,fun t p=>.inl trivial⟩
 | f+1,md=>by
  have ih:=gd_pM d f;rw[show f+1+d=f+d+1 by omega]
  cases md with
  | expr=>
   have e1:∀ f,pM (f+1) .expr=lk (fun (t:Tok) r=>match acc 0 kLet r with
    | some r1=>(identP r1).bind fun nm r2=>(accept 3 [61] r2).bind fun _ r3=>(pM f .expr r3).bind fun v r4=>(accept 0 kIn r4).bind fun _ r5=>(pM f .expr r5).bind fun b r6=>.ok (.mk 19 0 nm.1 t.off [v,b]) r6
    | none=>match acc 0 kIf r with
     | some r1=>(pM f .expr r1).bind fun c r2=>(accept 0 kThen r2).bind fun _ r3=>(pM f .expr r3).bind fun y r4=>(accept 0 kElse r4).bind fun _ r5=>(pM f .expr r5).bind fun z r6=>.ok (.mk 18 0 [] t.off [c,y,z]) r6
     | none=>pM f (.level 1) r):=fun f=>by funext r; rw[pM]; try rfl
   rw[e1,e1];refine Gd.look fun t=>?_
   exact Gd.pick (ne4 h4 (by decide)) ((gd_ident h4).bind fun nm=>(gd_accept h4 (by decide)).bind fun _=>(ih .expr).bind fun v=>(gd_accept h4 (by decide)).bind fun _=>(ih .expr).bind fun b=>Gd.ok _)
    (Gd.pick (ne4 h4 (by decide)) ((ih .expr).bind fun c=>(gd_accept h4 (by decide)).bind fun _=>(ih .expr).bind fun y=>(gd_accept h4 (by decide)).bind fun _=>(ih .expr).bind fun z=>Gd.ok _) (ih (.level 1)))
  | level lv=>
   have e1:∀ f,pM (f+1) (.level lv)=lk (fun (t:Tok) r=>if lv=3 then match acc 0 kNot r with
      | some r1=>(pM f (.level 3) r1).bind fun a r2=>.ok (.mk 7 0 [] t.off [a]) r2
      | none=>pM f .cmp r
     else if lv=7 then match acc 3 [45] r with
      | some r1=>(pM f (.level 7) r1).bind fun a r2=>.ok (.mk 6 0 [] t.off [a]) r2
      | none=>pM f .prim r
     else (pM f (.level (lv+1)) r).bind fun a r1=>pM f (.loop lv t.off a) r1):=fun f=>by funext r; rw[pM]; try rfl
   rw[e1,e1];refine Gd.look fun t=>?_
   exact Gd.cond (Gd.pick (ne4 h4 (by decide)) ((ih (.level 3)).bind fun a=>Gd.ok _) (ih .cmp))
    (Gd.cond (Gd.pick (ne4 h4 (by decide)) ((ih (.level 7)).bind fun a=>Gd.ok _) (ih .prim)) ((ih (.level (lv+1))).bind fun a=>ih _))
  | loop lv o a=>
   have e1:∀ f,pM (f+1) (.loop lv o a)=op1 (opK lv) (fun (k:Int) (t:Tok) r=>(pM f (.level (lv+1)) r).bind fun b r1=>pM f (.loop lv o (.mk k 0 [] o [a,b])) r1) (fun r=>.ok a r):=fun f=>by funext r; rw[pM]; unfold op1; cases opK lv (hd r) <;> rfl
   rw[e1,e1];exact Gd.opt (opK_end h4) (fun k t=>(ih (.level (lv+1))).bind fun b=>ih _) (Gd.ok a)
  | cmp=>
   have e1:∀ f,pM (f+1) .cmp=fun r=>(pM f (.level 5) r).bind fun a=>op1 cmpK (fun (k:Int) (t:Tok) r=>(pM f (.level 5) r).bind fun b r2=>.ok (cmpN t k a b) r2) (fun r1=>.ok a r1):=fun f=>by
     funext r; rw[pM]; congr 1; funext a r1; unfold op1; cases cmpK (hd r1) <;> rfl
   rw[e1,e1];exact (ih (.level 5)).bind fun a=>Gd.opt (cmpK_end h4) (fun k t=>(ih (.level 5)).bind fun b=>Gd.ok _) (Gd.ok a)
  | prim=>
   have e1:∀ f,pM (f+1) .prim=lk (fun (t:Tok)=>tks (fun u=>u.kind=1) (fun (u:Tok) r=>PR.ok (Nd.mk 0 u.n [] u.off []) r) fun r=>match acc 3 [40] r with
    | some r1=>(pM f .expr r1).bind fun n r2=>(accept 3 [41] r2).bind fun _ r3=>.ok (.mk n.kind n.num n.name t.off n.kids) r3
    | none=>match acc 0 kFalse r with
     | some r1=>.ok (.mk 1 0 [] t.off []) r1
     | none=>match acc 0 kTrue r with
      | some r1=>.ok (.mk 1 1 [] t.off []) r1
      | none=>match acc 0 kLabel r with
       | some r1=>(quotedP r1).bind fun s r2=>.ok (.mk 4 0 s t.off []) r2
       | none=>match acc 0 kWord r with
        | some r1=>(quotedP r1).bind fun s r2=>.ok (.mk 5 0 s t.off []) r2
        | none=>tks (fun u=>(factI u.text).isSome∧u.kind=0) (fun (u:Tok) r=>PR.ok (Nd.mk 3 0 u.text u.off []) r) (pM f .named) r):=fun f=>by funext r; rw[pM]; try rfl
   rw[e1,e1];refine Gd.look fun t=>?_
   exact Gd.takes (c:=fun t=>t.kind=1) (ne4 h4 (by decide)) (fun t=>Gd.ok _) (Gd.pick (ne4 h4 (by decide)) ((ih .expr).bind fun n=>(gd_accept h4 (by decide)).bind fun _=>Gd.ok _)
    (Gd.pick (ne4 h4 (by decide)) (Gd.ok _) (Gd.pick (ne4 h4 (by decide)) (Gd.ok _) (Gd.pick (ne4 h4 (by decide)) ((gd_quoted h4).bind fun s=>Gd.ok _) (Gd.pick (ne4 h4 (by decide)) ((gd_quoted h4).bind fun s=>Gd.ok _)
     (Gd.takes (c:=fun t=>(factI t.text).isSome∧t.kind=0) (fun h=>ne4 h4 (by decide) h.2) (fun t=>Gd.ok _) (ih .named)))))))
  | named=>
   have e1:∀ f,pM (f+1) .named=fun r=>(identP r).bind fun nm r1=>match acc 3 [40] r1 with
    | some r2=>(match acc 3 [41] r2 with
     | some r3=>.ok (.mk 20 0 nm.1 nm.2 []) r3
     | none=>pM f (.args nm.1 nm.2 []) r2)
    | none=>.ok (.mk 2 0 nm.1 nm.2 []) r1:=fun f=>by
     funext r; rw[pM]; congr 1; funext nm r1; cases acc 3 [40] r1 <;> rfl
   rw[e1,e1];exact (gd_ident h4).bind fun nm=>Gd.pick (ne4 h4 (by decide)) (Gd.pick (ne4 h4 (by decide)) (Gd.ok _) (ih _)) (Gd.ok _)
  | args nm o l=>
   have e1:∀ f,pM (f+1) (.args nm o l)=fun r=>(pM f .expr r).bind fun a r1=>match acc 3 [44] r1 with
    | some r2=>pM f (.args nm o (l++[a])) r2
    | none=>(accept 3 [41] r1).bind fun _ r2=>.ok (.mk 20 0 nm o (l++[a])) r2:=fun f=>by funext r; rw[pM]; try rfl
   rw[e1,e1];exact (ih .expr).bind fun a=>Gd.pick (ne4 h4 (by decide)) (ih _) ((gd_accept h4 (by decide)).bind fun _=>Gd.ok _)
theorem gd_typ:Gd suf e typP typP:=
 Gd.pick (ne4 h4 (by decide)) (Gd.ok 0) (Gd.pick (h:=fun r=>.bad (hd r).off) (ne4 h4 (by decide)) (Gd.ok 1) Gd.bad)
theorem gd_act:Gd suf e actP actP:=
 Gd.pick (ne4 h4 (by decide)) (Gd.ok 0) (Gd.pick (ne4 h4 (by decide)) (Gd.ok 1) (Gd.pick (ne4 h4 (by decide)) (Gd.ok 2) (Gd.pick (h:=fun r=>.bad (hd r).off) (ne4 h4 (by decide)) (Gd.ok 3) Gd.bad)))
theorem gd_params (d:Nat):∀ (f:Nat) (ps:List (List UInt8 × Int)) (ts:List Int),Gd suf e (paramsP (f+d) ps ts) (paramsP f ps ts)
 | 0,ps,ts=>by
  have:paramsP 0 ps ts=fun _=>.out:=by funext r; rw[paramsP]; try rfl
  rw[this];exact ⟨trivial,fun t p=>.inl trivial⟩
 | f+1,ps,ts=>by
  rw[show f+1+d=f+d+1 by omega]
  have e1:∀ f,paramsP (f+1) ps ts=fun r=>(identP r).bind fun nm r1=>(accept 3 [58] r1).bind fun _ r2=>(typP r2).bind fun t r3=>
   match acc 3 [44] r3 with
   | some r4=>paramsP f (ps++[nm]) (ts++[t]) r4
   | none=>(accept 3 [41] r3).bind fun _ r4=>.ok (ps++[nm],ts++[t]) r4:=fun f=>by funext r; rw[paramsP]; try rfl
  rw[e1,e1];exact (gd_ident h4).bind fun nm=>(gd_accept h4 (by decide)).bind fun _=>(gd_typ h4).bind fun t=>Gd.pick (ne4 h4 (by decide)) (gd_params d f _ _) ((gd_accept h4 (by decide)).bind fun _=>Gd.ok _)
theorem gd_fun (d f:Nat):Gd suf e (funP (f+d)) (funP f):=by
 have e1:∀ f,funP f=fun r=>(identP r).bind fun nm r1=>(accept 3 [40] r1).bind fun _ r2=>
  (match acc 3 [41] r2 with
   | some r3=>PR.ok ([],[]) r3
   | none=>paramsP f [] [] r2).bind fun pt r3=>(accept 3 [58] r3).bind fun _ r4=>(typP r4).bind fun t r5=>(accept 3 [61] r5).bind fun _ r6=>(pM f .expr r6).bind fun b r7=>.ok ⟨nm,pt.1,pt.2,t,b⟩ r7:=fun f=>by funext r; unfold funP; rfl
 rw[e1,e1]
 exact (gd_ident h4).bind fun nm=>(gd_accept h4 (by decide)).bind fun _=>Gd.bind (g:=fun r2=>match acc 3 [41] r2 with
   | some r3=>PR.ok (([],[]):List (List UInt8 × Int) × List Int) r3
   | none=>paramsP (f+d) [] [] r2) (g':=fun r2=>match acc 3 [41] r2 with
   | some r3=>PR.ok (([],[]):List (List UInt8 × Int) × List Int) r3
   | none=>paramsP f [] [] r2) (Gd.pick (ne4 h4 (by decide)) (Gd.ok _) (gd_params h4 d f _ _)) fun pt=>(gd_accept h4 (by decide)).bind fun _=>(gd_typ h4).bind fun t=>(gd_accept h4 (by decide)).bind fun _=>(gd_pM h4 d f .expr).bind fun b=>Gd.ok _
theorem gd_funs (d g c:Nat):∀ (f:Nat) (l:List FnS),Gd suf e (funsP (g+d) (f+c) l) (funsP g f l)
 | 0,l=>by
  have:funsP g 0 l=fun _=>.out:=by funext r; rw[funsP]; try rfl
  rw[this];exact ⟨trivial,fun t p=>.inl trivial⟩
 | f+1,l=>by
  rw[show f+1+c=f+c+1 by omega];have e1:∀ g f,funsP g (f+1) l=fun r=>match acc 0 kDef r with | some r1=>(funP g r1).bind fun x r2=>funsP g f (l++[x]) r2 | none=>.ok l r:=fun g f=>by funext r; rw[funsP]; try rfl
  rw[e1,e1];exact Gd.pick (ne4 h4 (by decide)) ((gd_fun h4 d g).bind fun x=>gd_funs d g c f _) (Gd.ok l)
theorem gd_cls (d g c:Nat):∀ (f:Nat) (l:List ClS),Gd suf e (clausesP (g+d) (f+c) l) (clausesP g f l)
 | 0,l=>by
  have:clausesP g 0 l=fun _=>.out:=by funext r; rw[clausesP]; try rfl
  rw[this];exact ⟨trivial,fun t p=>.inl trivial⟩
 | f+1,l=>by
  rw[show f+1+c=f+c+1 by omega]
  have e1:∀ g f,clausesP g (f+1) l=fun r=>match acc 0 kWhen r with
   | some r1=>(pM g .expr r1).bind fun c r2=>(accept 0 kThen r2).bind fun _ r3=>(actP r3).bind fun a r4=>(textP r4).bind fun s r5=>clausesP g f (l++[⟨c,a,s⟩]) r5
   | none=>.ok l r:=fun g f=>by funext r; rw[clausesP]; try rfl
  rw[e1,e1];exact Gd.pick (ne4 h4 (by decide)) ((gd_pM h4 d g .expr).bind fun c=>(gd_accept h4 (by decide)).bind fun _=>(gd_act h4).bind fun a=>(gd_text h4).bind fun s=>gd_cls d g _ f _) (Gd.ok l)
omit h4 in
theorem acc_tail {k:Int} {s:List UInt8} {r r':List Tok} (h:acc k s r=some r'):r'=r.tail:=by
 unfold acc at h;split at h
 ·injection h with h; exact h.symm
 ·cases h
omit h4 in
theorem accept_tail {k:Int} {s:List UInt8} {r r':List Tok} {u:Unit} (h:accept k s r=.ok u r'):r'=r.tail:=by
 unfold accept at h
 cases q:acc k s r with
 | some r1=>rw[q] at h; injection h with _ h; rw[← h]; exact acc_tail q
 | none=>rw[q] at h; cases h
omit h4 in
theorem actP_tail {a:Int} {r r':List Tok} (h:actP r=.ok a r'):r'=r.tail:=by
 unfold actP at h
 cases q:acc 0 kShow r with
 | some r1=>rw[q] at h; injection h with _ h; rw[← h]; exact acc_tail q
 | none=>
  rw[q] at h;simp only at h
  cases q:acc 0 kMedia r with
  | some r1=>rw[q] at h; injection h with _ h; rw[← h]; exact acc_tail q
  | none=>
   rw[q] at h;simp only at h
   cases q:acc 0 kLimit r with
   | some r1=>rw[q] at h; injection h with _ h; rw[← h]; exact acc_tail q
   | none=>
    rw[q] at h;simp only at h
    cases q:acc 0 kHide r with
    | some r1=>rw[q] at h; injection h with _ h; rw[← h]; exact acc_tail q
    | none=>rw[q] at h; cases h
theorem accept_end {k:Int} {s:List UInt8} (hk:k≠4):accept k s [e]=.bad e.off:=by
 unfold accept acc;rw[if_neg (fun h=>ne4 h4 hk h.1)];rfl
theorem actP_end:actP [e]=.bad e.off:=by
 have:∀ s,acc 0 s [e]=none:=fun s=>by unfold acc; rw[if_neg (fun h=>ne4 h4 (by decide) h.1)]
 unfold actP;simp only[this];rfl
theorem cls_end {g f:Nat} {l:List ClS}:clausesP g f l [e]=.out∨clausesP g f l [e]=.ok l [e]:=by
 cases f with
 | zero=>exact .inl (by rw[clausesP])
 | succ f=>
  refine .inr ?_;rw[clausesP];have:acc 0 kWhen [e]=none:=by unfold acc; rw[if_neg (fun h=>ne4 h4 (by decide) h.1)]
  rw[this]
theorem src_cut {pre:List Tok} {s:Src} {r':List Tok} {f d:Nat} (he:EndL (pre++suf)) (hsuf:(hd suf).kind≠4) (hn:suf≠[]) (h:srcP (f+d) (pre++suf)=.ok s r'):srcP f (pre++[e])=.out∨srcP f (pre++[e])=.bad e.off:=by
 unfold srcP at h ⊢;obtain ⟨fs,r1,h1,h⟩:=Je h
 have hl1:Lf (pre++suf) r1:=by
  have:=funsP_in he (f+d) (f+d) [] (pre++suf) ⟨List.suffix_refl _,by simp[hn]⟩ (fun x hx=>by simp at hx);rw[h1] at this;exact this.1
 have fin:∀ (cs:List ClS),((accept 0 kDefault [e]).bind fun _ r3=>(actP r3).bind fun a r4=>if (hd r4).kind=4 then PR.ok (⟨fs,cs,a⟩:Src) r4 else .bad (hd r4).off)=.bad e.off:=fun cs=>by rw[accept_end h4 (by decide)]; rfl
 have fin1:∀ (fs:List FnS),((clausesP f f [] [e]).bind fun cs r2=>(accept 0 kDefault r2).bind fun _ r3=>(actP r3).bind fun a r4=>if (hd r4).kind=4 then PR.ok (⟨fs,cs,a⟩:Src) r4 else .bad (hd r4).off)=.out∨((clausesP f f [] [e]).bind fun cs r2=>(accept 0 kDefault r2).bind fun _ r3=>(actP r3).bind fun a r4=>if (hd r4).kind=4 then PR.ok (⟨fs,cs,a⟩:Src) r4 else .bad (hd r4).off)=.bad e.off:=fun fs=>by
  rcases cls_end h4 (g:=f) (f:=f) (l:=[]) with q | q
  ·rw[q]; exact .inl rfl
  ·rw[q];refine .inr ?_;change ((accept 0 kDefault [e]).bind _)=_;rw[accept_end h4 (by decide)];rfl
 have hx:=(gd_funs h4 (suf:=suf) d f d f []).all pre;rw[h1] at hx
 rcases hx with hx | hx | ⟨a,p,hx,hx'⟩
 ·cases q:funsP f f [] (pre++[e]) with
  | out=>exact .inl rfl
  | bad o=>rw[q] at hx; exact .inr (congrArg _ hx)
  | ok a r=>
   rw[q] at hx;have hx:r=[e]:=hx;subst hx;exact fin1 a
 ·exact absurd rfl (hx fs r1)
 injection hx with e1 e2;subst e1 e2;rw[hx'];obtain ⟨cs,r2,h2,h⟩:=Je h
 have hl2:Lf (pre++suf) r2:=by
  have:=clausesP_in he (f+d) (f+d) [] _ hl1 (fun x hx=>by simp at hx);rw[h2] at this;exact this.1
 have hy:=(gd_cls h4 (suf:=suf) d f d f []).all p;rw[h2] at hy;change ((clausesP f f [] (p++[e])).bind _)=_∨((clausesP f f [] (p++[e])).bind _)=_
 rcases hy with hy | hy | ⟨a,p2,hy,hy'⟩
 ·cases q:clausesP f f [] (p++[e]) with
  | out=>exact .inl rfl
  | bad o=>rw[q] at hy; exact .inr (congrArg _ hy)
  | ok a r=>
   rw[q] at hy;have hy:r=[e]:=hy;subst hy;refine .inr ?_;change ((accept 0 kDefault [e]).bind _)=_;rw[accept_end h4 (by decide)];rfl
 ·exact absurd rfl (hy cs r2)
 injection hy with e1 e2;subst e1 e2;rw[hy'];change ((accept 0 kDefault (p2++[e])).bind _)=_∨((accept 0 kDefault (p2++[e])).bind _)=_;obtain ⟨_,r3,h3,h⟩:=Je h;have e3:=accept_tail h3
 cases p2 with
 | nil=>exact .inr (by rw[List.nil_append,accept_end h4 (by decide)]; rfl)
 | cons t p3=>
  have e3:r3=p3++suf:=e3;subst e3
  have g3:accept 0 kDefault (t::p3++[e])=.ok () (p3++[e]):=by
   unfold accept acc at h3 ⊢
   by_cases q:(hd (t::p3++suf)).kind=0∧(hd (t::p3++suf)).text=kDefault
   ·rw[if_pos (show (hd (t::p3++[e])).kind=0∧(hd (t::p3++[e])).text=kDefault from q)];rfl
   ·rw[if_neg q] at h3
    cases h3
  rw[g3];change ((actP (p3++[e])).bind _)=_∨((actP (p3++[e])).bind _)=_
  have hl3:Lf (pre++suf) (p3++suf):=by
   have:=accept_in he (k:=0) (s:=kDefault) (by decide) hl2;rw[h3] at this;exact this.1
  obtain ⟨a,r4,h5,h⟩:=Je h;have e5:=actP_tail h5
  cases p3 with
  | nil=>exact .inr (by rw[List.nil_append,actP_end h4]; rfl)
  | cons t4 p4=>
   have e5:r4=p4++suf:=e5;subst e5
   have hl4:Lf (pre++suf) (p4++suf):=by
    have:=actP_in he hl3;rw[h5] at this;exact this.1
   exfalso
   have hk:(hd (p4++suf)).kind=4:=by
    by_cases q:(hd (p4++suf)).kind=4
    ·exact q
    ·rw[if_neg q] at h; cases h
   obtain ⟨us,e0,h0,hu,he4⟩:=he;rw[h0] at hl4;obtain ⟨⟨q,hq⟩,_⟩:=hl4
   cases p4 with
   | nil=>exact hsuf hk
   | cons t5 p5=>
    have hm:t5∈us:=by
     obtain ⟨z,sz,hz⟩:∃ z sz,suf=sz++[z]:=⟨suf.getLast hn,suf.dropLast,(List.dropLast_concat_getLast hn).symm⟩
     rw[hz] at hq;have h6:(q++(t5::p5++sz))++[z]=us++[e0]:=by rw[← hq]; simp
     have h7:=(List.append_inj' h6 rfl).1;rw[← h7];simp
    exact hu t5 hm hk
end
def tkO:Nat→List It→List Tok
 | _,[]=>[]
 | k,.s _::l=>tkO (k+1) l
 | k,.t x::l=>⟨x.kind,x.text,x.n,(k:Nat)⟩::tkO (k+(wr x).length) l
theorem flat_t (x:Tok) (l:List It):flat (.t x::l)=wr x++flat l:=rfl
theorem flat_s (c:UInt8) (l:List It):flat (.s c::l)=c::flat l:=rfl
theorem tkO_app:∀ (a b:List It) (k:Nat),tkO k (a++b)=tkO k a++tkO (k+(flat a).length) b
 | [],b,k=>rfl
 | .s c::a,b,k=>by
  rw[List.cons_append,tkO,tkO,tkO_app a b,flat_s,List.length_cons,Nat.add_assoc,Nat.add_comm 1]
 | .t x::a,b,k=>by
  rw[List.cons_append,tkO,tkO,tkO_app a b,flat_t,List.length_append,Nat.add_assoc,List.cons_append]
theorem sc_flatO:∀ (l:List It) (k:Nat),Ch l→sc k (flat l)=.ok (tkO k l++[⟨4,[],0,((k+(flat l).length:Nat):Int)⟩])
 | [],k,_=>Jdf k
 | .s c::l,k,h=>by
  rw[Ch] at h;rw[flat_s,Jhr k _ h.1,sc_flatO l (k+1) h.2,tkO,List.length_cons,Nat.add_assoc,Nat.add_comm 1]
 | .t x::l,k,h=>by
  rw[Ch] at h;obtain ⟨ht,⟨c,q,hc,hs⟩,ho⟩:=Jlo h.1 h.2.1;have h1:=sc_flatO l (k+(wr x).length) h.2.2;rw[flat_t,tkO,List.length_append,← Nat.add_assoc];rw[hc,List.cons_append] at ht;rw[hc,List.cons_append,Jak k _ hs ht,← List.cons_append,List.drop_left' rfl];rw[hc] at h1;rw[h1];rfl
theorem tkO_er:∀ (l:List It) (k:Nat),Ch l→(tkO k l).map er=tk l
 | [],k,_=>rfl
 | .s c::l,k,h=>by
  rw[Ch] at h;rw[tkO,tkO_er l (k+1) h.2,tk_s]
 | .t x::l,k,h=>by
  rw[Ch] at h;obtain ⟨_,_,ho⟩:=Jlo h.1 h.2.1;rw[tkO,List.map_cons,tkO_er l _ h.2.2,tk_t];obtain ⟨a,b,d,o⟩:=x;simp only at ho;subst ho;rfl
theorem tkO_len:∀ (l:List It) (k:Nat),(tkO k l).length=(tk l).length
 | [],k=>rfl
 | .s c::l,k=>by rw[tkO,tk_s,tkO_len l]
 | .t x::l,k=>by rw[tkO,tk_t,List.length_cons,List.length_cons,tkO_len l]
theorem tkO_kind:∀ (l:List It) (k:Nat),Ch l→∀ t∈tkO k l,t.kind≠4
 | [],k,_,t,ht=>by cases ht
 | .s c::l,k,h,t,ht=>by
  rw[Ch] at h;rw[tkO] at ht;exact tkO_kind l _ h.2 t ht
 | .t x::l,k,h,t,ht=>by
  rw[Ch] at h;rw[tkO] at ht
  rcases List.mem_cons.1 ht with rfl | ht
  ·rcases h.1 with ⟨s,rfl,_⟩ | ⟨n,rfl,_⟩ | ⟨s,rfl,_⟩ | ⟨s,rfl,_⟩
   ·exact show (0:Int)≠4 by decide
   ·exact show (1:Int)≠4 by decide
   ·exact show (2:Int)≠4 by decide
   ·exact show (3:Int)≠4 by decide
  ·exact tkO_kind l _ h.2.2 t ht
def oneC (g:Nat) (r:List Tok):PR ClS:=(pM g .expr r).bind fun c r2=>(accept 0 kThen r2).bind fun _ r3=>(actP r3).bind fun a r4=>(textP r4).bind fun s r5=>.ok ⟨c,a,s⟩ r5
def clN (g:Nat):Nat→List ClS→List Tok→PR (List ClS)
 | 0,l,r=>.ok l r
 | n+1,l,r=>match acc 0 kWhen r with
  | some r1=>(oneC g r1).bind fun c r2=>clN g n (l++[c]) r2
  | none=>.bad (hd r).off
theorem clausesP_n (g:Nat):∀ (n f:Nat) (l l':List ClS) (r r':List Tok),clN g n l r=.ok l' r'→clausesP g (f+n) l r=clausesP g f l' r'
 | 0,f,l,l',r,r',h=>by rw[clN] at h; injection h with h1 h2; rw[h1,h2]; rfl
 | n+1,f,l,l',r,r',h=>by
  rw[← Nat.add_assoc,clausesP];rw[clN] at h
  cases e:acc 0 kWhen r with
  | none=>rw[e] at h; cases h
  | some r1=>
   rw[e] at h;simp only at h ⊢;obtain ⟨c,r2,h1,h2⟩:=Je h;unfold oneC at h1;obtain ⟨c1,q1,g1,h1⟩:=Je h1;obtain ⟨c2,q2,g2,h1⟩:=Je h1;obtain ⟨c3,q3,g3,h1⟩:=Je h1;obtain ⟨c4,q4,g4,h1⟩:=Je h1;injection h1 with e1 e2;subst e1 e2;rw[g1,Jj,g2,Jj,g3,Jj,g4,Jj];exact clausesP_n g n f _ _ _ _ h2
theorem clN_er (g:Nat):∀ (n:Nat) (l:List ClS) (r:List Tok),clN g n (l.map zC) (r.map er)=(clN g n l r).z (List.map zC)
 | 0,l,r=>rfl
 | n+1,l,r=>by
  rw[clN,clN,Ke]
  cases acc 0 kWhen r with
  | none=>simp only[Option.map_none]; rw[YY]; rfl
  | some r1=>
   simp only[Option.map_some];have h1:oneC g (r1.map er)=(oneC g r1).z zC:=zb (JjS g .expr r1) fun c r2=>zb (JO ..) fun _ r3=>zb (Jfx r3) fun a r4=>zb (Jdv r4) fun s r5=>rfl
   refine zb h1 fun c r2=>?_
   have:=clN_er g n (l++[c]) r2;rw[List.map_append] at this;exact this
theorem clN_in {r0:List Tok} (he:EndL r0) (g:Nat):∀ (n:Nat) (l:List ClS) (r:List Tok),Lf r0 r→PI r0 (fun _=>True) (clN g n l r)
 | 0,l,r,h=>⟨h,trivial⟩
 | n+1,l,r,h=>by
  rw[clN]
  cases e1:acc 0 kWhen r with
  | none=>exact h.off
  | some r1=>
   have h1:PI r0 (fun _=>True) (oneC g r1):=(pM_in he g .expr r1 (acc_lf he (by decide) h e1) trivial).bind fun c r2 h _=>(accept_in he (by decide) h).bind fun _ r3 h _=>(actP_in he h).bind fun a r4 h _=>(textP_in he h).bind fun s r5 h _=>⟨h,trivial⟩
   exact h1.bind fun c r2 h _=>clN_in he g n _ r2 h
theorem clN_hit {fn:Int→List UInt8} {pa:List Nat} (hf:FnOk fn pa.length) {g:Nat}:∀ (l:List ClM) (ac:List ClS) (rest:List Tok),(∀ x∈l,ClFit pa x)→
  12*(tk (iCs fn l)++rest).length+12≤g→clN g l.length ac (tk (iCs fn l)++rest)=.ok (ac++l.map (cS fn)) rest
 | [],ac,rest,_,_=>by rw[List.length_nil,clN]; simp[iCs,tk]
 | x::l,ac,rest,hx,hg=>by
  have e1:tk (iCs fn (x::l))++rest=tW kWhen::(tk (iB fn false x.cond)++tW kThen::actT x.action::tT x.reason::(tk (iCs fn l)++rest)):=by
   rw[iCs];unfold iC;simp only[tk_t,tk_s,KZ,Jdl,List.cons_append,List.append_assoc,List.nil_append]
  rw[e1] at hg ⊢
  have hb:pM g .expr (tk (iB fn false x.cond)++tW kThen::actT x.action::tT x.reason::(tk (iCs fn l)++rest))=.ok (sN fn x.cond) (tW kThen::actT x.action::tT x.reason::(tk (iCs fn l)++rest)):=by
   refine ((KD hf x.cond 0 40 (hx x (by simp)).fits (by decide)).expr (YT 0 _ (by decide) (by decide))).at ?_;simp only[List.length_cons,List.length_append] at hg ⊢;omega
  rw[List.length_cons,clN,show acc 0 kWhen (tW kWhen::(tk (iB fn false x.cond)++tW kThen::actT x.action::tT x.reason::(tk (iCs fn l)++rest)))=some _ from JK ..];simp only
  have h1:oneC g (tk (iB fn false x.cond)++tW kThen::actT x.action::tT x.reason::(tk (iCs fn l)++rest))=.ok (cS fn x) (tk (iCs fn l)++rest):=by
   unfold oneC;rw[hb,Jj,show accept 0 kThen (tW kThen::actT x.action::tT x.reason::(tk (iCs fn l)++rest))=.ok () _ from Jy ..,Jj,Jfm (hx x (by simp)).act,Jj];rw[show textP (tT x.reason::(tk (iCs fn l)++rest))=.ok x.reason (tk (iCs fn l)++rest) from rfl,Jj];rfl
  rw[h1,Jj,clN_hit hf (g:=g) l (ac++[cS fn x]) rest (fun y hy=>hx y (by simp[hy])) (by simp only[List.length_cons,List.length_append] at hg ⊢; omega)];simp
theorem suf_eq {r1 p q:List Tok} (h:r1 <:+ p++q) (hl:r1.length=q.length):r1=q:=by
 obtain ⟨z,hz⟩:=h;exact (List.append_inj' hz hl).2
theorem src_part {r:RuleM} (hr:rightM r=true) (hw:RFew r) {C:List Tok} {s:List UInt8} {q:List Tok} (hC:C.map er=tW s::q) (hs:s=kWhen∨s=kDefault) (he:∃ us e,C=us++[e]∧(∀ t∈us,t.kind≠4)∧e.kind=4)
  (hch:Ch (iFs (fnF r) r.funcs++iCs (fnF r) r.clauses)) {f g:Nat} (hf:12*(tkO 0 (iFs (fnF r) r.funcs++iCs (fnF r) r.clauses)++C).length+12≤f) (hg:f=g+r.clauses.length) :
  ∃ fs cs,fs.map zF=r.funcs.map (fS (fnF r))∧cs.map zC=r.clauses.map (cS (fnF r))∧
   srcP f (tkO 0 (iFs (fnF r) r.funcs++iCs (fnF r) r.clauses)++C)=(clausesP f g cs C).bind fun cs r2=>(accept 0 kDefault r2).bind fun _ r3=>(actP r3).bind fun a r4=>if (hd r4).kind=4 then .ok ⟨fs,cs,a⟩ r4 else .bad (hd r4).off:=by
 obtain ⟨hfn,_⟩:=Jln hr;obtain ⟨hF,hC2⟩:=Jco hr hw;obtain ⟨us,e,rfl,hu,h4⟩:=he;have hA:=tkO_er _ 0 hch;have hkA:=tkO_kind _ 0 hch
 have hE:EndL (tkO 0 (iFs (fnF r) r.funcs++iCs (fnF r) r.clauses)++(us++[e])):=⟨_,e,by rw[List.append_assoc],fun t ht=>by
  rcases List.mem_append.1 ht with g | g
  ·exact hkA t g
  ·exact hu t g,h4⟩
 have hlen:(tkO 0 (iFs (fnF r) r.funcs++iCs (fnF r) r.clauses)).length=(tk (iFs (fnF r) r.funcs)).length+(tk (iCs (fnF r) r.clauses)).length:=by rw[tkO_len,KZ,List.length_append]
 have hCl:((us++[e]).map er).length=(us++[e]).length:=List.length_map _;have hl1:=Jfp (fnF r) r.funcs;have hl2:=Jfq (fnF r) r.clauses;generalize hCC:us++[e]=C at *;have hf2:=hf;rw[List.length_append,hlen] at hf2;have hm:(tkO 0 (iFs (fnF r) r.funcs++iCs (fnF r) r.clauses)++C).map er=tk (iFs (fnF r) r.funcs)++(tk (iCs (fnF r) r.clauses)++C.map er):=by rw[List.map_append,hA,KZ,List.append_assoc]
 have hCne:C≠[]:=by rw[← hCC]; simp
 have e1:=Jdw f f [] (tkO 0 (iFs (fnF r) r.funcs++iCs (fnF r) r.clauses)++C);rw[hm,List.map_nil] at e1
 have hE1:∃ s' r',tk (iCs (fnF r) r.clauses)++C.map er=tW s'::r'∧(s'=kWhen∨s'=kDefault):=by
  cases r.clauses with
  | nil=>exact ⟨s,q,hC,hs⟩
  | cons c l=>exact ⟨kWhen,_,by rw[iCs]; unfold iC; rfl,.inl rfl⟩
 rw[Jdt hfn r.funcs [] _ f hF (fun x hx=>by have:=hl1.2 x hx; omega) (by omega) (by rw[List.length_append,List.length_append,hCl]; omega) hE1] at e1
 cases x1:funsP f f [] (tkO 0 (iFs (fnF r) r.funcs++iCs (fnF r) r.clauses)++C) with
 | out=>rw[x1] at e1; cases e1
 | bad o=>rw[x1] at e1; cases e1
 | ok fs r1=>
  rw[x1] at e1;simp only[PR.z,PR.ok.injEq,List.nil_append] at e1;have hi1:=funsP_in hE f f [] _ ⟨List.suffix_refl _,by simp[hCne]⟩ (fun x hx=>by simp at hx);rw[x1] at hi1;obtain ⟨hlf,_⟩:=hi1
  have hr1:r1=tkO (0+(flat (iFs (fnF r) r.funcs)).length) (iCs (fnF r) r.clauses)++C:=by
   refine suf_eq (p:=tkO 0 (iFs (fnF r) r.funcs)) ?_ ?_
   ·rw[← List.append_assoc,← tkO_app]; exact hlf.1
   ·have:=congrArg List.length e1.2;rw[List.length_map] at this;rw[← this,List.length_append,List.length_append,tkO_len,List.length_map]
  have e2:=clN_er f r.clauses.length [] r1;rw[← e1.2,List.map_nil,clN_hit hfn r.clauses [] _ hC2 (by rw[List.length_append,hCl]; omega)] at e2
  cases x2:clN f r.clauses.length [] r1 with
  | out=>rw[x2] at e2; cases e2
  | bad o=>rw[x2] at e2; cases e2
  | ok cs r2=>
   rw[x2] at e2;simp only[PR.z,PR.ok.injEq,List.nil_append] at e2;have hi2:=clN_in hE f r.clauses.length [] r1 hlf;rw[x2] at hi2
   have hr2:r2=C:=by
    refine suf_eq hi2.1.1 ?_;have:=congrArg List.length e2.2;simpa using this.symm
   subst hr2;refine ⟨fs,cs,e1.1.symm,e2.1.symm,?_⟩;unfold srcP;rw[x1,Jj];have:=clausesP_n f r.clauses.length g [] cs r1 _ x2;rw[hg] at this ⊢;rw[this]
theorem sc_cut:∀ (l:List UInt8) (k:Nat) (ts:List Tok),sc k l=.ok ts→∀ (i:Nat) (t:Tok),ts[i]?=some t→∃ o:Nat,t.off=((k+o:Nat):Int)∧o≤l.length∧sc k (l.take o)=.ok (ts.take i++[⟨4,[],0,((k+o:Nat):Int)⟩]):=by
 refine Jdg (P:=fun k l=>∀ ts,sc k l=.ok ts→∀ (i:Nat) (t:Tok),ts[i]?=some t→∃ o:Nat,t.off=((k+o:Nat):Int)∧o≤l.length∧sc k (l.take o)=.ok (ts.take i++[⟨4,[],0,((k+o:Nat):Int)⟩])) ?_ ?_ ?_ ?_
 ·intro k ts h i t ht;rw[Jdf] at h;injection h with h;subst h
  cases i with
  | zero=>
   simp only[List.getElem?_cons_zero,Option.some.injEq] at ht;subst ht;exact ⟨0,rfl,Nat.le_refl _,rfl⟩
  | succ i=>simp at ht
 ·intro k c r hs ih ts h i t ht;rw[Jhr k r hs] at h;obtain ⟨o,h1,h2,h3⟩:=ih ts h i t ht;have e:k+(o+1)=k+1+o:=by omega
  refine ⟨o+1,by rw[e]; exact h1,by rw[List.length_cons]; omega,?_⟩;rw[List.take_succ_cons,Jhr k _ hs,e];exact h3
 ·intro k c r hs hn ts h;rw[JbW k r hs hn] at h
  cases h
 ·intro k c r t n hs ht h1 hn ih ts h i u hu;rw[Jak k r hs ht] at h;obtain ⟨ts',h2,rfl⟩:=JeV h
  cases i with
  | zero=>
   simp only[List.getElem?_cons_zero,Option.some.injEq] at hu;subst hu;exact ⟨0,rfl,Nat.zero_le _,rfl⟩
  | succ i=>
   simp only[List.getElem?_cons_succ] at hu;obtain ⟨o,g1,g2,g3⟩:=ih ts' h2 i u hu;rw[List.length_drop] at g2;have e:k+(n+o)=k+n+o:=by omega
   refine ⟨n+o,by rw[e]; exact g1,by omega,?_⟩;have hw:=(JaP ht).1;rw[List.take_add,← hw,sc_step k hs ht _ (Stop.cut (by rw[List.length_drop]; omega)),g3,e];rfl
theorem cont_ok {s:Src} {r:RuleM} (h:contM s=(r,0,0)):limitM s=none∧(resolveM s).2=[]∧checkM (resolveM s).1=[]∧ruleOf (resolveM s).1=r:=by
 unfold contM at h
 cases q1:limitM s with
 | some o=>rw[q1] at h; simp at h
 | none=>
  rw[q1] at h;simp only at h
  cases q2:least (resolveM s).2 with
  | some o=>rw[q2] at h; simp at h
  | none=>
   rw[q2] at h;simp only at h
   cases q3:least (checkM (resolveM s).1) with
   | some o=>rw[q3] at h; simp at h
   | none=>
    rw[q3] at h;simp only[Prod.mk.injEq] at h;exact ⟨rfl,JeA q2,JeA q3,h.1⟩
theorem z0_nil {l:List Int} (h:z0 l=[]):l=[]:=by
 cases l with
 | nil=>rfl
 | cons a l=>cases h
theorem cont_z {s:Src} {r:RuleM} (h:contM (zS s)=(r,0,0)):contM s=(r,0,0):=by
 obtain ⟨h1,h2,h3,h4⟩:=cont_ok h;rw[Jkw] at h1
 have h1:limitM s=none:=by
  cases q:limitM s with
  | none=>rfl
  | some o=>rw[q] at h1; cases h1
 rw[Jgm] at h2 h3 h4;simp only[Jkv,Jip] at h2 h3 h4;unfold contM;rw[h1,z0_nil h2];simp only[least];rw[z0_nil h3];simp only[least];rw[h4]
theorem cont_more {fs:List FnS} {cs:List ClS} {act:Int} {r:RuleM} (h:contM ⟨fs,cs,act⟩=(r,0,0)) (x:ClS) (hx:nest x.cond≤40) :
  contM ⟨fs,cs++[x],act⟩=match least (resC (fs.map (·.name.1)) x).2 with
   | some o=>(noRule,16,o)
   | none=>match least (needN (r.funcs.map fun f=>⟨f.params,f.result⟩) [] 1 (resC (fs.map (·.name.1)) x).1.cond) with
    | some o=>(noRule,15,o)
    | none=>(⟨r.funcs,r.clauses++[⟨treeN (resC (fs.map (·.name.1)) x).1.cond,(resC (fs.map (·.name.1)) x).1.action,(resC (fs.map (·.name.1)) x).1.reason⟩],r.action⟩,0,0):=by
 obtain ⟨h1,h2,h3,h4⟩:=cont_ok h
 have g1:limitM ⟨fs,cs++[x],act⟩=none:=by
  unfold limitM Src.roots at h1 ⊢;simp only[Option.map_eq_none_iff] at h1 ⊢;rw[List.map_append,← List.append_assoc,List.find?_append,h1];simp only[List.map_cons,List.map_nil,Option.none_or,List.find?_cons,List.find?_nil];rw[decide_eq_false (by omega)]
 have g2:(resolveM ⟨fs,cs++[x],act⟩).2=(resC (fs.map (·.name.1)) x).2:=by
  unfold resolveM at h2 ⊢;simp only at h2 ⊢;rw[List.map_append,List.map_append,List.flatten_append,← List.append_assoc,h2];simp
 have g3:(resolveM ⟨fs,cs++[x],act⟩).1=⟨(resolveM ⟨fs,cs,act⟩).1.funcs,(resolveM ⟨fs,cs,act⟩).1.clauses++[(resC (fs.map (·.name.1)) x).1],act⟩:=by
  unfold resolveM;simp
 have g4:checkM (resolveM ⟨fs,cs++[x],act⟩).1=needN (r.funcs.map fun f=>⟨f.params,f.result⟩) [] 1 (resC (fs.map (·.name.1)) x).1.cond:=by
  rw[g3];unfold checkM at h3 ⊢;simp only at h3 ⊢;rw[List.map_append,List.flatten_append,← List.append_assoc,h3];rw[← h4];unfold ruleOf;simp only[List.map_map,List.map_cons,List.map_nil,List.flatten_cons,List.flatten_nil,List.nil_append,List.append_nil];rfl
 have ha:(resolveM ⟨fs,cs,act⟩).1.action=act:=rfl
 have g5:ruleOf (resolveM ⟨fs,cs++[x],act⟩).1=⟨r.funcs,r.clauses++[⟨treeN (resC (fs.map (·.name.1)) x).1.cond,(resC (fs.map (·.name.1)) x).1.action,(resC (fs.map (·.name.1)) x).1.reason⟩],r.action⟩:=by
  rw[g3,← h4];unfold ruleOf;simp only[List.map_append,List.map_cons,List.map_nil,ha]
 unfold contM;rw[g1];simp only[g2,g4,g5]
 cases least (resC (fs.map (·.name.1)) x).2 with
 | some o=>rfl
 | none=>
  simp only
  cases least (needN (r.funcs.map fun f=>⟨f.params,f.result⟩) [] 1 (resC (fs.map (·.name.1)) x).1.cond) <;> rfl
theorem cont_src {r:RuleM} (h:rightM r=true) (hw:RFew r):contM (srcO r)=(r,0,0):=by
 obtain ⟨hfn,_⟩:=Jln h;obtain ⟨hF,hC⟩:=Jco h hw;obtain ⟨_,_,h3,_,_⟩:=KA h;have h1:=Jej h hw (e:=endTok) rfl (Nat.le_refl _);rw[JeF (JjN hfn hF hC h3 (e:=endTok) rfl (Nat.le_refl _))] at h1;exact Option.some.inj h1
def kZzz:List UInt8:=[122,122,122]
def xM:Nat→List It
 | 0=>[.t (tW kZzz)]
 | 1=>[.t (tT [120])]
 | 2=>[.t (tI 1)]
 | 3=>[.t (tW kTrue),.s 32,.t (tS [60]),.s 32,.t (tI 1)]
 | 4=>[.t (tI 1),.s 32,.t (tS [60]),.s 32,.t (tI 2),.s 32,.t (tS [60]),.s 32,.t (tI 3)]
 | _=>[.t (tW kZzz),.t (tS [40]),.t (tS [41])]
def xP:List It:=[.s 32,.t (tW kThen),.s 32,.t (tW kShow),.s 32,.t (tT []),.s 32]
def xD (a:Int):List It:=[.t (tW kDefault),.s 32,.t (actT a),.s 10]
def xI (i:Nat):List It:=.t (tW kWhen)::.s 32::(xM i++xP)
def xE (i:Nat):Int:=if i=0∨i=5 then 16 else if i=1∨i=4 then 2 else 15
def xO (i:Nat):Nat:=if i=4 then 11 else 5
theorem ch_xD (a:Int):Ch (xD a):=JD (J6 (by decide)) (KB (JD (Jdu a) (JjQ (by rw[Ch]; trivial)) (JV (by decide) _))) (JV (by decide) _)
theorem ch_int {n:Int} {l:List It} (h0:0≤n) (h1:n≤1125899906842624) (h:Ch l) (hl:Safe (flat l)):Ch (.t (tI n)::l):=by
 rw[Ch];exact ⟨.inr (.inl ⟨n,rfl,h0,h1⟩),⟨fun _=>hl,fun h3=>absurd h3 (by change ¬ (1:Int)=3; decide)⟩,h⟩
theorem ch_xP (a:Int):Ch (xP++xD a):=
 KB (JD (J6 (by decide)) (KB (JD (J6 (by decide)) (KB (Jcq (by decide) (KB (ch_xD a)))) (JV (by decide) _))) (JV (by decide) _))
theorem ch_xI (i:Nat) (hi:i<6) (a:Int):Ch (xI i++xD a):=by
 have hP:=ch_xP a;have sP:Safe (flat (xP++xD a)):=JV (by decide) _;refine JD (J6 (by decide)) (KB ?_) (JV (by decide) _);change Ch (xM i++xP++xD a);rw[List.append_assoc]
 match i,hi with
 | 0,_=>exact JD (J6 (by decide)) hP sP
 | 1,_=>exact Jcq (by decide) hP
 | 2,_=>exact ch_int (by decide) (by decide) hP sP
 | 3,_=>exact JD (J6 (by decide)) (KB (YX (by decide) (ch_int (by decide) (by decide) hP sP))) (JV (by decide) _)
 | 4,_=>exact ch_int (by decide) (by decide) (KB (YX (by decide) (ch_int (by decide) (by decide) (KB (YX (by decide) (ch_int (by decide) (by decide) hP sP))) (JV (by decide) _)))) (JV (by decide) _)
 | 5,_=>exact JD (J6 (by decide)) (KE (by decide) (KE (by decide) hP (by decide)) (by decide)) (JY (by decide) _)
theorem act_at {a:Int} (h:actB a=true) (o:Int) (r:List Tok):actP (⟨0,actName a.toNat,0,o⟩::r)=.ok a r:=by
 have h1:=Jfm h r;have h2:actT a=⟨0,actName a.toNat,0,0⟩:=by unfold actT tW; rfl
 have h3:∀ s,acc 0 s (⟨0,actName a.toNat,0,o⟩::r)=acc 0 s (actT a::r):=fun s=>by rw[h2]; unfold acc; rfl
 unfold actP at h1 ⊢;simp only[h3]
 cases e1:acc 0 kShow (actT a::r) with
 | some q=>rw[e1] at h1; exact h1
 | none=>
  rw[e1] at h1;simp only at h1 ⊢
  cases e2:acc 0 kMedia (actT a::r) with
  | some q=>rw[e2] at h1; exact h1
  | none=>
   rw[e2] at h1;simp only at h1 ⊢
   cases e3:acc 0 kLimit (actT a::r) with
   | some q=>rw[e3] at h1; exact h1
   | none=>
    rw[e3] at h1;simp only at h1 ⊢
    cases e4:acc 0 kHide (actT a::r) with
    | some q=>rw[e4] at h1; exact h1
    | none=>rw[e4] at h1; cases h1
theorem x0 (g k:Nat) (cs:List ClS) (o1 o2 o3 o4 o5 o6:Int) (R:List Tok):clausesP (g+20) (k+2) cs (⟨0,kWhen,0,o1⟩::⟨0,kZzz,0,o2⟩::⟨0,kThen,0,o3⟩::⟨0,kShow,0,o4⟩::⟨2,[],0,o5⟩::⟨0,kDefault,0,o6⟩::R)=.ok (cs++[⟨.mk 2 0 kZzz o2 [],0,[]⟩]) (⟨0,kDefault,0,o6⟩::R):=by kernel_rfl
theorem x1 (g k:Nat) (cs:List ClS) (o1 o2:Int) (R:List Tok):clausesP (g+20) (k+2) cs (⟨0,kWhen,0,o1⟩::⟨2,[120],0,o2⟩::R)=.bad o2:=by kernel_rfl
theorem x2 (g k:Nat) (cs:List ClS) (o1 o2 o3 o4 o5 o6:Int) (R:List Tok):clausesP (g+20) (k+2) cs (⟨0,kWhen,0,o1⟩::⟨1,[],1,o2⟩::⟨0,kThen,0,o3⟩::⟨0,kShow,0,o4⟩::⟨2,[],0,o5⟩::⟨0,kDefault,0,o6⟩::R)=.ok (cs++[⟨.mk 0 1 [] o2 [],0,[]⟩]) (⟨0,kDefault,0,o6⟩::R):=by kernel_rfl
theorem x3 (g k:Nat) (cs:List ClS) (o1 o2 p q o3 o4 o5 o6:Int) (R:List Tok):clausesP (g+20) (k+2) cs (⟨0,kWhen,0,o1⟩::⟨0,kTrue,0,o2⟩::⟨3,[60],0,p⟩::⟨1,[],1,q⟩::⟨0,kThen,0,o3⟩::⟨0,kShow,0,o4⟩::⟨2,[],0,o5⟩::⟨0,kDefault,0,o6⟩::R)=.ok (cs++[⟨.mk 13 0 [] o2 [.mk 1 1 [] o2 [],.mk 0 1 [] q []],0,[]⟩]) (⟨0,kDefault,0,o6⟩::R):=by kernel_rfl
theorem x4 (g k:Nat) (cs:List ClS) (o1 o2 p q o3:Int) (R:List Tok):clausesP (g+20) (k+2) cs (⟨0,kWhen,0,o1⟩::⟨1,[],1,o2⟩::⟨3,[60],0,p⟩::⟨1,[],2,q⟩::⟨3,[60],0,o3⟩::R)=.bad o3:=by kernel_rfl
theorem x5 (g k:Nat) (cs:List ClS) (o1 o2 p q o3 o4 o5 o6:Int) (R:List Tok):clausesP (g+20) (k+2) cs (⟨0,kWhen,0,o1⟩::⟨0,kZzz,0,o2⟩::⟨3,[40],0,p⟩::⟨3,[41],0,q⟩::⟨0,kThen,0,o3⟩::⟨0,kShow,0,o4⟩::⟨2,[],0,o5⟩::⟨0,kDefault,0,o6⟩::R)=.ok (cs++[⟨.mk 20 0 kZzz o2 [],0,[]⟩]) (⟨0,kDefault,0,o6⟩::R):=by kernel_rfl
def rA (r:RuleM):List It:=iFs (fnF r) r.funcs++iCs (fnF r) r.clauses
theorem iR_eq (r:RuleM):iR r=rA r++xD r.action:=by unfold iR rA xD; rw[List.append_assoc]
theorem ch_rA {r:RuleM} (h:rightM r=true) (hw:RFew r) {L:List It} (hL:Ch L):Ch (rA r++L):=by
 obtain ⟨hfn,_⟩:=Jln h;obtain ⟨hF,hC⟩:=Jco h hw;obtain ⟨_,h2,_,_,_⟩:=KA h;unfold clsM at h2;rw[List.all_eq_true] at h2;unfold rA;rw[List.append_assoc];refine Jjb hfn r.funcs hF _ (Jjc hfn r.clauses (fun x hx=>⟨hC x hx,?_⟩) _ hL);have:=h2 x hx;rw[Bool.and_eq_true] at this;exact this.2
theorem scanR_flat {l:List It} (h:Ch l) (hl:(flat l).length≤4096):scanR (flat l)=(tkO 0 l++[⟨4,[],0,(((flat l).length:Nat):Int)⟩],0,0):=by
 unfold scanR;rw[if_neg (by omega),sc_flatO l 0 h,Nat.zero_add]
theorem parse_mid {r:RuleM} (hr:rightM r=true) (hw:RFew r) (X:List It) (hX:Ch (.t (tW kWhen)::X++xD r.action)) (hl:(flat (rA r++(.t (tW kWhen)::X++xD r.action))).length≤4096) :
  ∃ fs cs g k E,fs.map zF=r.funcs.map (fS (fnF r))∧cs.map zC=r.clauses.map (cS (fnF r))∧E.kind=4∧
   parseM (flat (rA r++(.t (tW kWhen)::X++xD r.action)))=match (clausesP (g+20) (k+2) cs (tkO (flat (rA r)).length (.t (tW kWhen)::X)++(tkO ((flat (rA r)).length+(flat (.t (tW kWhen)::X)).length) (xD r.action)++[E]))).bind (fun cs r2=>(accept 0 kDefault r2).bind fun _ r3=>(actP r3).bind fun a r4=>if (hd r4).kind=4 then PR.ok (⟨fs,cs,a⟩:Src) r4 else .bad (hd r4).off) with
    | .out=>(noRule,0,0)
    | .bad o=>(noRule,2,o)
    | .ok s _=>contM s:=by
 have hch:=ch_rA hr hw hX;have hs:=scanR_flat hch hl;generalize hEE:(⟨4,[],0,(((flat (rA r++(.t (tW kWhen)::X++xD r.action))).length:Nat):Int)⟩:Tok)=E at hs;have hE4:E.kind=4:=by rw[← hEE]
 have hA:Ch (rA r):=by have:=ch_rA hr hw (L:=[]) trivial; rwa [List.append_nil] at this
 have hn2:=Jfq (fnF r) r.clauses;rw[tkO_app,Nat.zero_add,List.append_assoc] at hs;have hC0:=tkO_kind _ (flat (rA r)).length hX;have herC:=tkO_er _ (flat (rA r)).length hX;have hCl:=tkO_len (.t (tW kWhen)::X++xD r.action) (flat (rA r)).length;have hlA:(tkO 0 (rA r)).length=(tk (rA r)).length:=tkO_len _ _;have hA2:r.clauses.length≤(tk (rA r)).length:=by unfold rA; rw[KZ,List.length_append]; omega
 have hC3:3≤(tk (.t (tW kWhen)::X++xD r.action)).length:=by
  rw[KZ,List.length_append,tk_t,List.length_cons];have:(tk (xD r.action)).length=2:=rfl;omega
 obtain ⟨F,hF⟩:∃ F,F=12*((tkO 0 (rA r)++(tkO (flat (rA r)).length (.t (tW kWhen)::X++xD r.action)++[E])).length+1):=⟨_,rfl⟩
 have hF2:=hF;simp only[List.length_append,List.length_cons,List.length_nil] at hF2
 obtain ⟨fs,cs,h1,h2,h3⟩:=src_part hr hw (C:=tkO (flat (rA r)).length (.t (tW kWhen)::X++xD r.action)++[E]) (s:=kWhen) (q:=(tk (X++xD r.action))++[er E]) (by rw[List.map_append,herC]; rfl) (.inl rfl)
  ⟨_,E,rfl,hC0,hE4⟩ hA (f:=F) (g:=F-r.clauses.length) (by rw[hF]; exact Nat.le_of_eq (Nat.mul_succ 12 _).symm) (by omega)
 refine ⟨fs,cs,F-20,F-r.clauses.length-2,E,h1,h2,hE4,?_⟩;rw[parseM_ok hs,← hF];change (parseT F (tkO 0 (rA r)++_)).getD _=_;unfold rA at *;unfold parseT;rw[h3];rw[show F-20+20=F by omega,show F-r.clauses.length-2+2=F-r.clauses.length by omega,tkO_app,List.append_assoc];generalize PR.bind _ _=y
 cases y with
 | out=>rfl
 | bad o=>rfl
 | ok s r'=>
  simp only;unfold contM
  cases limitM s with
  | some o=>rfl
  | none=>
   simp only
   cases least (resolveM s).2 with
   | some o=>rfl
   | none=>
    simp only
    cases least (checkM (resolveM s).1) <;> rfl
theorem zF_body {fs:List FnS} {r:RuleM} (h:fs.map zF=r.funcs.map (fS (fnF r))):fs.map (·.name.1)=r.funcs.map (·.name):=by
 have:=congrArg (List.map fun f:FnS=>f.name.1) h;rw[List.map_map,List.map_map] at this;exact this
theorem fin_src {fs:List FnS} {cs:List ClS} {a:Int} (h:actB a=true) (k:Nat) {E:Tok} (hE:E.kind=4) :
  ((accept 0 kDefault (tkO k (xD a)++[E])).bind fun _ r3=>(actP r3).bind fun a r4=>if (hd r4).kind=4 then PR.ok (⟨fs,cs,a⟩:Src) r4 else .bad (hd r4).off)=.ok ⟨fs,cs,a⟩ [E]:=by
 have h1:accept 0 kDefault (tkO k (xD a)++[E])=.ok () (⟨0,actName a.toNat,0,((k+7+1:Nat):Int)⟩::[E]):=by
  unfold xD;simp only[tkO];rfl
 rw[h1,Jj,act_at h,Jj,if_pos (show (hd [E]).kind=4 from hE)]
theorem src_z {fs:List FnS} {cs:List ClS} {r:RuleM} (hr:rightM r=true) (hw:RFew r) (h1:fs.map zF=r.funcs.map (fS (fnF r))) (h2:cs.map zC=r.clauses.map (cS (fnF r))):contM ⟨fs,cs,r.action⟩=(r,0,0):=by
 refine cont_z ?_;have:zS ⟨fs,cs,r.action⟩=srcO r:=by unfold zS srcO; simp only[h1,h2]
 rw[this];exact cont_src hr hw
theorem no_name {fs:List FnS} (h:∀ f∈fs,f.name.1≠kZzz):(firstIx (fs.map (·.name.1)) kZzz).isNone=true:=by
 unfold firstIx;rw[Option.isNone_iff_eq_none,List.findIdx?_eq_none_iff];intro v hv;obtain ⟨f,hf,rfl⟩:=List.mem_map.1 hv;exact decide_eq_false (h f hf)
theorem y0 (g k L k':Nat) (cs:List ClS) (a:Int) (E:Tok):clausesP (g+20) (k+2) cs (tkO L (.t (tW kWhen)::.s 32::(xM 0++xP))++(tkO k' (xD a)++[E]))=.ok (cs++[⟨.mk 2 0 kZzz ((L+5:Nat):Int) [],0,[]⟩]) (tkO k' (xD a)++[E]):=x0 g k cs _ _ _ _ _ _ _
theorem y1 (g k L k':Nat) (cs:List ClS) (a:Int) (E:Tok):clausesP (g+20) (k+2) cs (tkO L (.t (tW kWhen)::.s 32::(xM 1++xP))++(tkO k' (xD a)++[E]))=.bad ((L+5:Nat):Int):=x1 g k cs _ _ _
theorem y2 (g k L k':Nat) (cs:List ClS) (a:Int) (E:Tok):clausesP (g+20) (k+2) cs (tkO L (.t (tW kWhen)::.s 32::(xM 2++xP))++(tkO k' (xD a)++[E]))=.ok (cs++[⟨.mk 0 1 [] ((L+5:Nat):Int) [],0,[]⟩]) (tkO k' (xD a)++[E]):=x2 g k cs _ _ _ _ _ _ _
theorem y3 (g k L k':Nat) (cs:List ClS) (a:Int) (E:Tok):clausesP (g+20) (k+2) cs (tkO L (.t (tW kWhen)::.s 32::(xM 3++xP))++(tkO k' (xD a)++[E]))=.ok (cs++[⟨.mk 13 0 [] ((L+5:Nat):Int) [.mk 1 1 [] ((L+5:Nat):Int) [],.mk 0 1 [] ((L+12:Nat):Int) []],0,[]⟩]) (tkO k' (xD a)++[E]):=x3 g k cs _ _ _ _ _ _ _ _ _
theorem y4 (g k L k':Nat) (cs:List ClS) (a:Int) (E:Tok):clausesP (g+20) (k+2) cs (tkO L (.t (tW kWhen)::.s 32::(xM 4++xP))++(tkO k' (xD a)++[E]))=.bad ((L+11:Nat):Int):=by
 have w1:(wr (tI 1)).length=1:=by kernel_rfl
 have w2:(wr (tI 2)).length=1:=by kernel_rfl
 unfold xM;simp only[List.cons_append,List.nil_append,tkO,w1,w2];exact x4 g k cs _ _ _ _ _ _
theorem y5 (g k L k':Nat) (cs:List ClS) (a:Int) (E:Tok):clausesP (g+20) (k+2) cs (tkO L (.t (tW kWhen)::.s 32::(xM 5++xP))++(tkO k' (xD a)++[E]))=.ok (cs++[⟨.mk 20 0 kZzz ((L+5:Nat):Int) [],0,[]⟩]) (tkO k' (xD a)++[E]):=x5 g k cs _ _ _ _ _ _ _ _ _
theorem nest0 (k n:Int) (s:List UInt8) (o:Int):nest (.mk k n s o [])=1:=by rw[nest,nestL]
theorem nest2 (k n:Int) (s:List UInt8) (o:Int) (a b:Nd) (ha:nest a=1) (hb:nest b=1):nest (.mk k n s o [a,b])=2:=by rw[nest,nestL,nestL,nestL,ha,hb]; rfl
theorem res_0 (ns:List (List UInt8)) (o:Int):(resC ns ⟨.mk 2 0 kZzz o [],0,[]⟩).2=[o]:=by
 unfold resC;simp only;rw[VE,if_pos rfl,Jcn];rfl
theorem res_5 (ns:List (List UInt8)) (h:(firstIx ns kZzz).isNone=true) (o:Int):(resC ns ⟨.mk 20 0 kZzz o [],0,[]⟩).2=[o]:=by
 unfold resC;simp only;rw[VE,if_neg (by decide),if_pos rfl,Jcn,h];rfl
theorem res_c (ns:List (List UInt8)) (vars:List (List UInt8)) (k n o:Int) (h:k=0∨k=1):resN ns vars (.mk k n [] o [])=(.mk k n [] o [],[]):=by
 rw[VE,if_neg (by omega),if_neg (by omega),if_neg (by omega),Jcn]
theorem res_2 (ns:List (List UInt8)) (k n o:Int) (h:k=0∨k=1):resC ns ⟨.mk k n [] o [],0,[]⟩=(⟨.mk k n [] o [],0,[]⟩,[]):=by
 unfold resC;simp only[res_c ns [] k n o h]
theorem res_3 (ns:List (List UInt8)) (o q:Int):resC ns ⟨.mk 13 0 [] o [.mk 1 1 [] o [],.mk 0 1 [] q []],0,[]⟩=(⟨.mk 13 0 [] o [.mk 1 1 [] o [],.mk 0 1 [] q []],0,[]⟩,[]):=by
 unfold resC;simp only;rw[VE,if_neg (by decide),if_neg (by decide),if_neg (by decide),Jaq,Jaq,Jcn,res_c ns [] 1 1 o (.inr rfl),res_c ns [] 0 1 q (.inl rfl)];rfl
theorem ofint_0 (sg:List SigM) (vars:List Int) (n o:Int):ofN sg vars (.mk 0 n [] o [])=(0,[]):=by
 rw[Jlb];rfl
theorem ofbool_1 (sg:List SigM) (vars:List Int) (n o:Int):ofN sg vars (.mk 1 n [] o [])=(1,[]):=by
 rw[Jlb];rfl
theorem need_2 (sg:List SigM) (o:Int):needN sg [] 1 (.mk 0 1 [] o [])=[o]:=by
 unfold needN;simp only[ofint_0];rfl
theorem need_3 (sg:List SigM) (o q:Int):needN sg [] 1 (.mk 13 0 [] o [.mk 1 1 [] o [],.mk 0 1 [] q []])=[o]:=by
 have e:ofN sg [] (.mk 13 0 [] o [.mk 1 1 [] o [],.mk 0 1 [] q []])=(1,[o]):=by
  rw[Jlb,if_neg (by decide),if_neg (by decide),if_neg (by decide),if_neg (by decide),if_pos (by decide),needL_cons',needL_cons',ofint_0,ofbool_1];rw[needL];rfl
 unfold needN;simp only[e];rfl
theorem errors_x {r:RuleM} (hr:rightM r=true) (hw:RFew r) (hz:∀ f∈r.funcs,f.name≠kZzz) (i:Nat) (hi:i<6) (hl:(flat (rA r++(xI i++xD r.action))).length≤4096) :
  parseM (flat (rA r++(xI i++xD r.action)))=(noRule,xE i,(((flat (rA r)).length+xO i:Nat):Int)):=by
 obtain ⟨_,_,hact,_,_⟩:=KA hr;obtain ⟨fs,cs,g,k,E,h1,h2,hE,h3⟩:=parse_mid hr hw (.s 32::(xM i++xP)) (ch_xI i hi r.action) hl;have hc:=src_z hr hw h1 h2
 have hnm:∀ f∈fs,f.name.1≠kZzz:=fun f hf=>by
  have hm:f.name.1∈fs.map (·.name.1):=List.mem_map.2 ⟨f,hf,rfl⟩;rw[zF_body h1] at hm;obtain ⟨f',hf',e⟩:=List.mem_map.1 hm;rw[← e];exact hz f' hf'
 change parseM (flat (rA r++(xI i++xD r.action)))=_ at h3;rw[h3];clear h3 hl;generalize (flat (rA r)).length=L
 match i,hi with
 | 0,_=>
  rw[y0,Jj,fin_src hact _ hE];simp only;rw[cont_more hc _ (by rw[nest0]; decide),res_0];rfl
 | 1,_=>
  rw[y1];rfl
 | 2,_=>
  rw[y2,Jj,fin_src hact _ hE];simp only;rw[cont_more hc _ (by rw[nest0]; decide),res_2 _ _ _ _ (.inl rfl)];simp only[least,need_2];rfl
 | 3,_=>
  rw[y3,Jj,fin_src hact _ hE];simp only;rw[cont_more hc _ (by rw[nest2 _ _ _ _ _ _ (nest0 ..) (nest0 ..)]; decide),res_3];simp only[least,need_3];rfl
 | 4,_=>
  rw[y4];rfl
 | 5,_=>
  rw[y5,Jj,fin_src hact _ hE];simp only;rw[cont_more hc _ (by rw[nest0]; decide),res_5 _ (no_name hnm)];rfl
theorem written_scan {r:RuleM} (hr:rightM r=true) (hw:RFew r) (hl:(flat (iR r)).length≤4096) :
  ∃ T p,scanR (flat (iR r))=(T,0,0)∧sc 0 (flat (iR r))=.ok T∧T.length=p+3∧(∃ t,T[p]?=some t∧t.off=((flat (rA r)).length:Int))∧(flat (iR r)).take (flat (rA r)).length=flat (rA r)∧(flat (iR r)).drop (flat (rA r)).length=flat (xD r.action)∧T.map er=tk (iR r)++[endTok]:=by
 have hch:=Jlp hr hw;refine ⟨tkO 0 (iR r)++[⟨4,[],0,(((flat (iR r)).length:Nat):Int)⟩],(tkO 0 (rA r)).length,scanR_flat hch hl,?_,?_,?_,?_,?_,?_⟩
 ·rw[sc_flatO _ 0 hch,Nat.zero_add]
 ·rw[iR_eq,tkO_app];simp only[List.length_append];rfl
 ·rw[iR_eq,tkO_app,Nat.zero_add,List.append_assoc];exact ⟨_,by rw[List.getElem?_append_right (Nat.le_refl _),Nat.sub_self]; rfl,rfl⟩
 ·rw[iR_eq,J5,List.take_left]
 ·rw[iR_eq,J5,List.drop_left]
 ·rw[List.map_append,tkO_er _ 0 hch];rfl
theorem errors_cut {r:RuleM} (hr:rightM r=true) (hw:RFew r) (hl:(flat (iR r)).length≤4096) {T:List Tok} (hs:sc 0 (flat (iR r))=.ok T) (ht:T.map er=tk (iR r)++[endTok]) {i:Nat} (hi:i+1<T.length) :
  ∃ (t:Tok) (o:Nat),T[i]?=some t∧t.off=(o:Int)∧o≤(flat (iR r)).length∧parseM ((flat (iR r)).take o)=(noRule,2,(o:Int)):=by
 have hg:T[i]?=some (T[i]'(by omega)):=List.getElem?_eq_getElem (by omega);obtain ⟨o,h1,h2,h3⟩:=sc_cut _ 0 T hs i _ hg;rw[Nat.zero_add] at h1 h3;refine ⟨_,o,hg,h1,h2,?_⟩;have hE:=sc_endl hs;obtain ⟨us,e0,hT,hu,h4⟩:=hE
 have hsc:scanR ((flat (iR r)).take o)=(T.take i++[⟨4,[],0,(o:Int)⟩],0,0):=by
  unfold scanR;rw[if_neg (by rw[List.length_take]; omega),h3]
 have hTl:(T.take i++[(⟨4,[],0,(o:Int)⟩:Tok)]).length=i+1:=by
  rw[List.length_append,List.length_take];simp only[List.length_cons,List.length_nil];omega
 rw[parseM_ok hsc,hTl];have hfull:=KX hr hw ht (f:=12*(i+1+1)+12*T.length) (by omega)
 have hsrc:∃ s r',srcP (12*(i+1+1)+12*T.length) T=.ok s r':=by
  cases q:srcP (12*(i+1+1)+12*T.length) T with
  | out=>unfold parseT at hfull; rw[q] at hfull; cases hfull
  | bad o=>unfold parseT at hfull; rw[q] at hfull; simp at hfull
  | ok s r'=>exact ⟨s,r',rfl⟩
 obtain ⟨s,r',hsrc⟩:=hsrc;have hcut:=T.take_append_drop i;have hdl:(T.drop i).length=T.length-i:=List.length_drop;have hne:T.drop i≠[]:=fun h=>by rw[h] at hdl; simp at hdl; omega
 have hhd:(hd (T.drop i)).kind≠4:=by
  have e1:hd (T.drop i)=T[i]'(by omega):=by
   rw[List.drop_eq_getElem_cons (by omega)];rfl
  rw[e1];refine hu _ ?_;have hlen:T.length=us.length+1:=by rw[hT]; simp
  have e2:us[i]?=some (T[i]'(by omega)):=by
   rw[← hg,hT,List.getElem?_append_left (by omega)]
  exact List.mem_of_getElem? e2
 rw[← hcut] at hsrc;have hfin:=src_cut (e:=(⟨4,[],0,(o:Int)⟩:Tok)) rfl (suf:=T.drop i) (pre:=T.take i) (by rw[hcut]; exact ⟨us,e0,hT,hu,h4⟩) hhd hne hsrc
 rcases hfin with h | h
 ·exact absurd h (Jfd (by rw[hTl]; omega))
 ·unfold parseT;rw[h];rfl
end Go.Proofs.YtdlkcjkjnehnkaaGreatDoor
