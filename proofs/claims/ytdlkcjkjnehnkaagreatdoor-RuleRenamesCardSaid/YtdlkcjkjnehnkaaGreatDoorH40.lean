import Derived.Test.YtdlkcjkjnehnkaaGreatDoorH39
open List(map_append map_map)
namespace Go.Proofs.YtdlkcjkjnehnkaaGreatDoor
open Go Go.Lib
open Go.ChangeShapes Go.WideShapes Go.ChangeAt Go.RowKit
open Go.ChangeShapes Go.WideShapes Go.ChangeAt Go.RowKit Go.Lib
open Go.RowKit
open Go Go.ChangeShapes Go.WideShapes Go.ChangeAt Go.RowKit Go.Lib
open Go
open _root_.Go.Proofs.Tryz
set_option linter.all false
set_option maxRecDepth 100000
set_option maxHeartbeats 32000000
section
variable (fr to':List UInt8)
def sg(s:List UInt8):List UInt8:=if s=fr then to' else if s=to' then fr else s
def Qdm(t:Tok):Bool:=decide (t.kind=0/\t.text=QdX)
def Qch(t:Tok):Bool:=decide (t.kind=3/\t.text=[40])
def rnT(d:Bool)(t nx:Tok):Tok:=if t.kind=0/\d=false/\Qch nx=false then⟨t.kind,sg fr to' t.text,t.n,t.off⟩ else t
def rn:Bool->List Tok->List Tok
 |_,[]=>[]
 |d,t::r=>rnT fr to' d t (hd r)::rn (Qdm t) r
mutual
def rhN:Nd->Nd
 |.mk k n s o l=>.mk k n (if k=2\/k=19 then sg fr to' s else s) o (rhL l)
def rhL:List Nd->List Nd
 |[]=>[]
 |a::l=>rhN a::rhL l
end
def rhM:Md->Md
 |.loop lv o a=>.loop lv o (rhN fr to' a)
 |.args nm o l=>.args nm o (rhL fr to' l)
 |m=>m
theorem Qbf(k n:Int)(s:List UInt8)(o:Int)(l:List Nd):rhN fr to' (.mk k n s o l)=.mk k n (if k=2\/k=19 then sg fr to' s else s) o (rhL fr to' l):=by rw[rhN]
theorem QaM:rhL fr to' []=[]:=by rw[rhL]
theorem Qay(a:Nd)(l:List Nd):rhL fr to' (a::l)=rhN fr to' a::rhL fr to' l:=by rw[rhL]
theorem Qfi:∀ (l:List Nd) (a:Nd),rhL fr to' (l++[a])=rhL fr to' l++[rhN fr to' a]
 |[],a=>by rw[List.nil_append,Qay,QaM];rfl
 |b::l,a=>by rw[List.cons_append,Qay,Qay,Qfi l a];rfl
theorem QgK(a:Nd):(rhN fr to' a).off=a.off:=by cases a;rw[Qbf];rfl
theorem QdL(d:Bool)(t:Tok)(r:List Tok):rn fr to' d (t::r)=rnT fr to' d t (hd r)::rn fr to' (Qdm t) r:=by rw[rn]
theorem QhI(d:Bool)(t nx:Tok):(rnT fr to' d t nx).kind=t.kind/\(rnT fr to' d t nx).off=t.off/\(rnT fr to' d t nx).n=t.n:=by
 unfold rnT;split<;>exact⟨rfl,rfl,rfl⟩
theorem Qea(d:Bool)(r:List Tok):(hd (rn fr to' d r)).kind=(hd r).kind/\(hd (rn fr to' d r)).off=(hd r).off/\(hd (rn fr to' d r)).n=(hd r).n:=by
 cases r with
 |nil=>rw[rn];exact⟨rfl,rfl,rfl⟩
 |cons t r=>rw[QdL];exact QhI fr to' d t (hd r)
theorem Qfq(d:Bool)(r:List Tok):(hd (rn fr to' d r)).text=(hd r).text\/((hd r).kind=0/\(hd (rn fr to' d r)).text=sg fr to' (hd r).text):=by
 cases r with
 |nil=>rw[rn];exact .inl rfl
 |cons t r=>
  rw[QdL];change (rnT fr to' d t (hd r)).text=t.text\/(t.kind=0/\(rnT fr to' d t (hd r)).text=sg fr to' t.text);unfold rnT;split
  ·next h=>exact .inr ⟨h.1,rfl⟩
  ·exact .inl rfl
theorem QdI(d:Bool)(r:List Tok):(rn fr to' d r).tail=rn fr to' (Qdm (hd r)) r.tail:=by
 cases r with
 |nil=>rw[rn];rfl
 |cons t r=>rw[QdL];rfl
variable (hf:Qar fr=true) (ht:Qar to'=true)
theorem Qgy{a b:List UInt8}:sg fr to' a=sg fr to' b↔a=b:=by
 unfold sg
 constructor
 ·intro h
  by_cases a1:a=fr
  ·by_cases b1:b=fr
   ·rw[a1,b1]
   ·rw[if_pos a1,if_neg b1]at h
    by_cases b2:b=to'
    ·rw[if_pos b2]at h;rw[a1,b2,h]
    ·rw[if_neg b2]at h;exact absurd h.symm b2
  ·by_cases a2:a=to'
   ·rw[if_neg a1,if_pos a2]at h
    by_cases b1:b=fr
    ·rw[if_pos b1]at h;rw[a2,b1,h]
    ·rw[if_neg b1]at h
     by_cases b2:b=to'
     ·rw[a2,b2]
     ·rw[if_neg b2]at h;exact absurd h.symm b1
   ·rw[if_neg a1,if_neg a2]at h
    by_cases b1:b=fr
    ·rw[if_pos b1]at h;exact absurd h a2
    ·rw[if_neg b1]at h
     by_cases b2:b=to'
     ·rw[if_pos b2]at h;exact absurd h a1
     ·rw[if_neg b2]at h;exact h
 ·intro h;rw[h]
include hf ht in
theorem QhC{s:List UInt8}(h:Qar s=true):Qar (sg fr to' s)=true:=by
 unfold sg;split
 ·exact ht
 split
 ·exact hf
 ·exact h
def QaT(s:List UInt8):Prop:=Qar s=false
include hf ht in
theorem Qlj{s u:List UInt8}(hs:QaT s):sg fr to' u=s↔u=s:=by
 have h1:s≠fr:=fun e=>by rw[e]at hs;exact absurd hf (by rw[hs];decide)
 have h2:s≠to':=fun e=>by rw[e]at hs;exact absurd ht (by rw[hs];decide)
 have h3:sg fr to' s=s:=by unfold sg;rw[if_neg h1,if_neg h2]
 constructor
 ·intro h;rw[<- h3]at h;exact(Qgy fr to').1 h
 ·intro h;rw[h,h3]
include hf ht in
theorem Qha{d:Bool}{r:List Tok}{s:List UInt8}(hs:QaT s):(hd (rn fr to' d r)).text=s↔(hd r).text=s:=by
 rcases Qfq fr to' d r with h|⟨_,h⟩
 ·rw[h]
 ·rw[h];exact Qlj fr to' hf ht hs
include hf ht in
theorem QfN{d:Bool}{r:List Tok}{k:Int}{s:List UInt8}(hs:QaT s):acc k s (rn fr to' d r)=(acc k s r).map (rn fr to' (Qdm (hd r))):=by
 have e1:=(Qea fr to' d r).1;have e2:=@Qha fr to' hf ht d r s hs;unfold acc
 by_cases q:(hd r).kind=k/\(hd r).text=s
 ·rw[if_pos q,if_pos ⟨e1.trans q.1,e2.2 q.2⟩,QdI];rfl
 ·rw[if_neg q,if_neg (fun h=>q ⟨e1.symm.trans h.1,e2.1 h.2⟩)];rfl
theorem Qdd{k:Int}{s:List UInt8}{r r1:List Tok}(h:acc k s r=some r1):(hd r).kind=k/\(hd r).text=s:=by
 unfold acc at h;split at h
 ·next g=>exact g
 ·cases h
theorem Qdx{t:Tok}(h:¬ (t.kind=0/\t.text=QdX)):Qdm t=false:=decide_eq_false h
def Rl{α β:Type}(g:α->β)(x:PR α)(x':PR β):Prop:=∀ a r,x=.ok a r->x'=.ok (g a) (rn fr to' false r)
theorem Rl.bind{α β γ δ:Type}{g:α->β}{h:γ->δ}{x:PR α}{x':PR β}{f:α->List Tok->PR γ}{f':β->List Tok->PR δ}(hx:Rl fr to' g x x')(hf:∀ a r,x=.ok a r->Rl fr to' h (f a r) (f' (g a) (rn fr to' false r))):Rl fr to' h (x.bind f) (x'.bind f'):=by
 intro c r e;obtain⟨a,r1,h1,h2⟩:=Je e;rw[hx a r1 h1];exact hf a r1 h1 c r h2
theorem Rl.ok{α β:Type}{g:α->β}{a:α}{b:β}{r:List Tok}(h:b=g a):Rl fr to' g (.ok a r) (.ok b (rn fr to' false r)):=by
 intro c q e;injection e with e1 e2;rw[h,e1,e2]
theorem Rl.bad{α β:Type}{g:α->β}{o:Int}{x':PR β}:Rl fr to' g (.bad o:PR α) x':=fun _ _ e=>by cases e
include hf ht in
theorem Qbh{d:Bool}{k:Int}{s:List UInt8}(hs:QaT s)(hd':¬ (k=0/\s=QdX))(r:List Tok):Rl fr to' id (Qaf k s r) (Qaf k s (rn fr to' d r)):=by
 intro a r1 h;unfold Qaf at h |-;rw[QfN fr to' hf ht hs]
 cases e:acc k s r with
 |none=>rw[e]at h;cases h
 |some r2=>
  rw[e]at h;injection h with h1 h2;have:=Qdd e;rw[Qdx (fun h=>hd' ⟨this.1.symm.trans h.1,this.2.symm.trans h.2⟩),<- h2];rfl
theorem QdQ{t:Tok}(h:Qar t.text=true):Qdm t=false:=Qdx fun e=>by rw[e.2]at h;exact absurd h (by decide)
include hf ht in
theorem Qej{r r1:List Tok}{nm:List UInt8 × Int}(h:Qau r=.ok nm r1)(h1:Qch (hd r1)=false):Qau (rn fr to' false r)=.ok (sg fr to' nm.1,nm.2) (rn fr to' false r1):=by
 unfold Qau at h |-;split at h
 ·next g=>
  injection h with e1 e2
  cases r with
  |nil=>exact absurd g.2 (by decide)
  |cons t r=>
   have g1:t.kind=0:=g.1;have g2:Qar t.text=true:=g.2;have e2:r=r1:=e2;subst e2;have e3:rnT fr to' false t (hd r)=⟨t.kind,sg fr to' t.text,t.n,t.off⟩:=by unfold rnT;rw[if_pos ⟨g1,rfl,h1⟩]
   rw[QdL,QdQ g2,e3];rw[if_pos ⟨g1,QhC fr to' hf ht g2⟩];rw[<- e1];rfl
 ·cases h
include hf ht in
theorem QeO{d:Bool}{r r1:List Tok}{nm:List UInt8 × Int}(h:Qau r=.ok nm r1)(h1:d=true\/Qch (hd r1)=true):Qau (rn fr to' d r)=.ok nm (rn fr to' false r1):=by
 unfold Qau at h |-;split at h
 ·next g=>
  injection h with e1 e2
  cases r with
  |nil=>exact absurd g.2 (by decide)
  |cons t r=>
   have g1:t.kind=0:=g.1;have g2:Qar t.text=true:=g.2;have e2:r=r1:=e2;subst e2
   have e3:rnT fr to' d t (hd r)=t:=by
    unfold rnT;rw[if_neg];rintro⟨_,q1,q2⟩
    rcases h1 with h1|h1
    ·rw[h1]at q1;cases q1
    ·rw[h1]at q2;cases q2
   rw[QdL,QdQ g2,e3];rw[if_pos ⟨g1,g2⟩];rw[<- e1];rfl
 ·cases h
theorem QiL{k:Int}{s:List UInt8}{r r1:List Tok}(h:acc k s r=some r1)(hn:¬ (k=3/\s=[40])):Qch (hd r)=false:=by
 have:=Qdd h;exact decide_eq_false fun e=>hn ⟨this.1.symm.trans e.1,this.2.symm.trans e.2⟩
theorem QgP{r:List Tok}(h:acc 3 [40] r=none):Qch (hd r)=false:=by
 unfold acc at h;split at h
 ·cases h
 ·next g=>exact decide_eq_false g
theorem QgO{r r1:List Tok}(h:acc 3 [40] r=some r1):Qch (hd r)=true:=decide_eq_true (Qdd h)
theorem QkB{k:Int}{s:List UInt8}{r r1:List Tok}{u:Unit}(h:Qaf k s r=.ok u r1):acc k s r=some r1:=by
 unfold Qaf at h
 cases e:acc k s r with
 |none=>rw[e]at h;cases h
 |some r2=>rw[e]at h;injection h with _ h;rw[h]
include hf ht in
theorem QgI{β γ:Type}{k:Int}{s:List UInt8}(hs:QaT s)(hn:¬ (k=3/\s=[40]))(hd':¬ (k=0/\s=QdX)){g:β->γ}{r:List Tok}{F:List UInt8 × Int->List Tok->PR β}{F':List UInt8 × Int->List Tok->PR γ}
  (h:∀ nm r3,Rl fr to' g (F nm r3) (F' (sg fr to' nm.1,nm.2) (rn fr to' false r3))):Rl fr to' g ((Qau r).bind fun nm r2=>(Qaf k s r2).bind fun _ r3=>F nm r3) ((Qau (rn fr to' false r)).bind fun nm r2=>(Qaf k s r2).bind fun _ r3=>F' nm r3):=by
 intro c q e;obtain⟨nm,r2,h1,h2⟩:=Je e;obtain⟨u,r3,h3,h4⟩:=Je h2;rw[Qej fr to' hf ht h1 (QiL (QkB h3) hn),Jj,Qbh fr to' hf ht hs hd' r2 u r3 h3,Jj];exact h nm r3 c q h4
include hf ht in
theorem QgH{d:Bool}(r:List Tok):Rl fr to' id (Qbp r) (Qbp (rn fr to' d r)):=by
 intro a r1 h;unfold Qbp at h |-;rw[(Qea fr to' d r).1,QdI];split at h
 ·next g=>
  injection h with e1 e2;rw[if_pos g,Qdx (fun e=>by rw[e.1]at g;cases g),<- e1,<- e2]
  rcases Qfq fr to' d r with h|⟨h0,_⟩
  ·rw[h];rfl
  ·rw[h0]at g;cases g
 ·cases h
include hf ht in
theorem QeH(r:List Tok):Rl fr to' id (Qav r) (Qav (rn fr to' false r)):=
 (Qbh fr to' hf ht (by unfold QaT;decide) (by decide) r).bind fr to' fun _ r1 _=>(QgH fr to' hf ht r1).bind fr to' fun s r2 _=>(Qbh fr to' hf ht (by unfold QaT;decide) (by decide) r2).bind fr to' fun _ r3 _=>Rl.ok fr to' rfl
include hf ht in
theorem QjM{d:Bool}{lv:Nat}{r:List Tok}:opK lv (hd (rn fr to' d r))=opK lv (hd r):=by
 have h1:=@Qha fr to' hf ht d r;unfold opK;rw[(Qea fr to' d r).1];simp only[h1 (s:=kOr) (by unfold QaT;decide),h1 (s:=QgU) (by unfold QaT;decide),h1 (s:=[43]) (by unfold QaT;decide),h1 (s:=[45]) (by unfold QaT;decide),h1 (s:=[42]) (by unfold QaT;decide),h1 (s:=[47]) (by unfold QaT;decide),h1 (s:=[37]) (by unfold QaT;decide)]
include hf ht in
theorem Qjg{d:Bool}{r:List Tok}:QcS (hd (rn fr to' d r))=QcS (hd r):=by
 have h1:=@Qha fr to' hf ht d r;unfold QcS;rw[(Qea fr to' d r).1];simp only[h1 (s:=[61,61]) (by unfold QaT;decide),h1 (s:=[33,61]) (by unfold QaT;decide),h1 (s:=[60]) (by unfold QaT;decide),h1 (s:=[62]) (by unfold QaT;decide),h1 (s:=[60,61]) (by unfold QaT;decide),h1 (s:=[62,61]) (by unfold QaT;decide)]
include hf ht in
theorem Qje{d:Bool}{r:List Tok}{k:Int}{a b:Nd}(hk:¬ (k=2\/k=19)):Qdn (hd (rn fr to' d r)) k (rhN fr to' a) (rhN fr to' b)=rhN fr to' (Qdn (hd r) k a b):=by
 have h1:=@Qha fr to' hf ht d r;unfold Qdn;simp only[h1 (s:=[62]) (by unfold QaT;decide),h1 (s:=[62,61]) (by unfold QaT;decide),h1 (s:=[33,61]) (by unfold QaT;decide),QgK];split
 ·rw[Qbf,Qay,Qay,QaM,if_neg hk]
 split
 ·rw[Qbf,Qay,QaM,Qbf,Qay,Qay,QaM,if_neg hk,if_neg (by decide)]
 ·rw[Qbf,Qay,Qay,QaM,if_neg hk]
theorem QhU{t:Tok}{k:Int}(h:QcS t=some k):¬ (k=2\/k=19)/\¬ (t.kind=0/\t.text=QdX):=by
 unfold QcS at h;split at h
 ·cases h
 ·next g=>
  have g:t.kind=3:=by omega
  refine⟨?_,fun e=>by rw[e.1]at g;cases g⟩;split at h
  ·injection h with h;omega
  split at h
  ·injection h with h;omega
  split at h
  ·injection h with h;omega
  ·cases h
theorem QiM{lv:Nat}{t:Tok}{k:Int}(h:opK lv t=some k):¬ (k=2\/k=19)/\¬ (t.kind=0/\t.text=QdX):=by
 refine⟨?_,?_⟩
 ·unfold opK at h
  repeat' split at h
  all_goals first|(injection h with h;omega)|cases h
 ·rintro⟨e1,e2⟩;unfold opK at h;simp[e1,e2]at h
  revert h
  repeat' split
  all_goals simp_all [QdX,kOr,QgU]
include hf ht in
theorem QiZ{d:Bool}{r:List Tok}(h:(QaD (hd r).text).isSome/\(hd r).kind=0):(hd (rn fr to' d r)).text=(hd r).text/\Qdm (hd r)=false:=by
 have hno:QaT (hd r).text:=by
  unfold QaT
  cases q:Qar (hd r).text with
  |false=>rfl
  |true=>
   have h1:=(VI q).2.2.2.2.2.2.2;have h2:=h.1;rw[h1]at h2
   cases h2
 refine⟨?_,Qdx fun e=>by have:=h.1;rw[e.2]at this;exact absurd this (by decide)⟩;exact(Qha fr to' hf ht hno).2 rfl
include hf ht in
theorem QgQ{d:Bool}{r:List Tok}(h:¬ ((QaD (hd r).text).isSome/\(hd r).kind=0)):¬ ((QaD (hd (rn fr to' d r)).text).isSome/\(hd (rn fr to' d r)).kind=0):=by
 rintro⟨h1,h2⟩;rw[(Qea fr to' d r).1]at h2
 rcases Qfq fr to' d r with g|⟨_,g⟩
 ·rw[g]at h1;exact h ⟨h1,h2⟩
 ·rw[g]at h1
  have hid:∀ s,Qar s=true->(QaD s).isSome=true->False:=fun s q1 q2=>by
   have:=(VI q1).2.2.2.2.2.2.2;rw[this]at q2
   cases q2
  unfold sg at h1;split at h1
  ·exact hid to' ht h1
  split at h1
  ·exact hid fr hf h1
  ·exact h ⟨h1,h2⟩
end
section
variable (fr to':List UInt8) (hf:Qar fr=true) (ht:Qar to'=true)
include hf ht
theorem Qaz{d:Bool}{k:Int}{s:List UInt8}{r r1:List Tok}(h:acc k s r=some r1)(hs:QaT s)(hd':¬ (k=0/\s=QdX)):acc k s (rn fr to' d r)=some (rn fr to' false r1):=by
 have h1:=Qdd h;rw[QfN fr to' hf ht hs,h,Qdx (fun e=>hd' ⟨h1.1.symm.trans e.1,h1.2.symm.trans e.2⟩)];rfl
theorem QaS{d:Bool}{k:Int}{s:List UInt8}{r:List Tok}(h:acc k s r=none)(hs:QaT s):acc k s (rn fr to' d r)=none:=by
 rw[QfN fr to' hf ht hs,h];rfl
theorem QiJ:∀ (f:Nat) (md:Md) (r:List Tok),Rl fr to' (rhN fr to') (pM f md r) (pM f (rhM fr to' md) (rn fr to' false r))
 |0,md,r=>fun a q e=>by rw[pM]at e;cases e
 |f+1,md,r=>by
  have ih:=QiJ f;have iE:∀ r,Rl fr to' (rhN fr to') (pM f .expr r) (pM f .expr (rn fr to' false r)):=fun r=>ih .expr r
  have iV:∀ lv r,Rl fr to' (rhN fr to') (pM f (.level lv) r) (pM f (.level lv) (rn fr to' false r)):=fun lv r=>ih (.level lv) r
  have iA:∀ {k:Int} {s:List UInt8} (r:List Tok),QaT s->¬ (k=0/\s=QdX)->Rl fr to' id (Qaf k s r) (Qaf k s (rn fr to' false r)):=fun r h1 h2=>Qbh fr to' hf ht h1 h2 r
  have ho:=(Qea fr to' false r).2.1
  cases md with
  |expr=>
   change Rl fr to' (rhN fr to') _ (pM (f+1) .expr (rn fr to' false r));rw[pM,pM,ho]
   cases e1:acc 0 QeN r with
   |some r1=>
    rw[Qaz fr to' hf ht e1 (by unfold QaT;decide) (by decide)];exact QgI fr to' hf ht (by unfold QaT;decide) (by decide) (by decide) fun nm r3=>(iE r3).bind fr to' fun v r4 _=>(iA r4 (by unfold QaT;decide) (by decide)).bind fr to' fun _ r5 _=>(iE r5).bind fr to' fun b r6 _=>Rl.ok fr to' (by rw[Qbf,Qay,Qay,QaM,if_pos (Or.inr rfl)])
   |none=>
    rw[QaS fr to' hf ht e1 (by unfold QaT;decide)];simp only
    cases e2:acc 0 kIf r with
    |some r1=>
     rw[Qaz fr to' hf ht e2 (by unfold QaT;decide) (by decide)];exact(iE r1).bind fr to' fun c r2 _=>(iA r2 (by unfold QaT;decide) (by decide)).bind fr to' fun _ r3 _=>(iE r3).bind fr to' fun y r4 _=>(iA r4 (by unfold QaT;decide) (by decide)).bind fr to' fun _ r5 _=>(iE r5).bind fr to' fun z r6 _=>Rl.ok fr to' (by rw[Qbf,Qay,Qay,Qay,QaM,if_neg (by decide)])
    |none=>
     rw[QaS fr to' hf ht e2 (by unfold QaT;decide)];exact iV 1 r
  |level lv=>
   change Rl fr to' (rhN fr to') _ (pM (f+1) (.level lv) (rn fr to' false r));rw[pM,pM,ho]
   by_cases h3:lv=3
   ·rw[if_pos h3,if_pos h3]
    cases e1:acc 0 Qfn r with
    |some r1=>
     rw[Qaz fr to' hf ht e1 (by unfold QaT;decide) (by decide)];exact(iV 3 r1).bind fr to' fun a r2 _=>Rl.ok fr to' (by rw[Qbf,Qay,QaM,if_neg (by decide)])
    |none=>
     rw[QaS fr to' hf ht e1 (by unfold QaT;decide)];exact ih .cmp r
   rw[if_neg h3,if_neg h3]
   by_cases h7:lv=7
   ·rw[if_pos h7,if_pos h7]
    cases e1:acc 3 [45] r with
    |some r1=>
     rw[Qaz fr to' hf ht e1 (by unfold QaT;decide) (by decide)];exact(iV 7 r1).bind fr to' fun a r2 _=>Rl.ok fr to' (by rw[Qbf,Qay,QaM,if_neg (by decide)])
    |none=>
     rw[QaS fr to' hf ht e1 (by unfold QaT;decide)];exact ih .prim r
   rw[if_neg h7,if_neg h7];exact(iV (lv+1) r).bind fr to' fun a r1 _=>ih (.loop lv _ a) r1
  |loop lv o a=>
   change Rl fr to' (rhN fr to') _ (pM (f+1) (.loop lv o (rhN fr to' a)) (rn fr to' false r));rw[pM,pM,QjM fr to' hf ht,QdI]
   cases e1:opK lv (hd r) with
   |none=>exact Rl.ok fr to' rfl
   |some k=>
    have hk:=QiM e1;rw[Qdx hk.2];refine(iV (lv+1) r.tail).bind fr to' fun b r1 _=>?_
    have:=ih (.loop lv o (.mk k 0 [] o [a,b])) r1;rw[rhM,Qbf,Qay,Qay,QaM,if_neg hk.1]at this;exact this
  |cmp=>
   change Rl fr to' (rhN fr to') _ (pM (f+1) .cmp (rn fr to' false r));rw[pM,pM];refine(iV 5 r).bind fr to' fun a r1 _=>?_
   simp only[Qjg fr to' hf ht,QdI]
   cases e1:QcS (hd r1) with
   |none=>exact Rl.ok fr to' rfl
   |some k=>
    have hk:=QhU e1;rw[Qdx hk.2];exact(iV 5 r1.tail).bind fr to' fun b r2 _=>Rl.ok fr to' (Qje fr to' hf ht hk.1)
  |prim=>
   change Rl fr to' (rhN fr to') _ (pM (f+1) .prim (rn fr to' false r));rw[pM,pM,ho,(Qea fr to' false r).1,(Qea fr to' false r).2.2,QdI]
   by_cases h1:(hd r).kind=1
   ·rw[if_pos h1,if_pos h1,Qdx (fun e=>by rw[e.1]at h1;cases h1)];exact Rl.ok fr to' (by rw[Qbf,QaM,if_neg (by decide)])
   rw[if_neg h1,if_neg h1]
   cases e1:acc 3 [40] r with
   |some r1=>
    rw[Qaz fr to' hf ht e1 (by unfold QaT;decide) (by decide)];refine(iE r1).bind fr to' fun n r2 _=>(iA r2 (by unfold QaT;decide) (by decide)).bind fr to' fun _ r3 _=>Rl.ok fr to' ?_
    cases n
    simp only[Qbf,Nd.kind,Nd.num,Nd.name,Nd.kids]
   |none=>
    rw[QaS fr to' hf ht e1 (by unfold QaT;decide)];simp only
    cases e2:acc 0 QbA r with
    |some r1=>
     rw[Qaz fr to' hf ht e2 (by unfold QaT;decide) (by decide)];exact Rl.ok fr to' (by rw[Qbf,QaM,if_neg (by decide)])
    |none=>
     rw[QaS fr to' hf ht e2 (by unfold QaT;decide)];simp only
     cases e3:acc 0 Qcf r with
     |some r1=>
      rw[Qaz fr to' hf ht e3 (by unfold QaT;decide) (by decide)];exact Rl.ok fr to' (by rw[Qbf,QaM,if_neg (by decide)])
     |none=>
      rw[QaS fr to' hf ht e3 (by unfold QaT;decide)];simp only
      cases e4:acc 0 QbW r with
      |some r1=>
       rw[Qaz fr to' hf ht e4 (by unfold QaT;decide) (by decide)];exact(QeH fr to' hf ht r1).bind fr to' fun s r2 _=>Rl.ok fr to' (by rw[Qbf,QaM,if_neg (by decide)];rfl)
      |none=>
       rw[QaS fr to' hf ht e4 (by unfold QaT;decide)];simp only
       cases e5:acc 0 QcX r with
       |some r1=>
        rw[Qaz fr to' hf ht e5 (by unfold QaT;decide) (by decide)];exact(QeH fr to' hf ht r1).bind fr to' fun s r2 _=>Rl.ok fr to' (by rw[Qbf,QaM,if_neg (by decide)];rfl)
       |none=>
        rw[QaS fr to' hf ht e5 (by unfold QaT;decide)];simp only
        by_cases h2:(QaD (hd r).text).isSome/\(hd r).kind=0
        ·obtain⟨q1,q2⟩:=QiZ fr to' hf ht (d:=false) h2;rw[if_pos h2,q1,if_pos h2,q2];exact Rl.ok fr to' (by rw[Qbf,QaM,if_neg (by decide)])
        ·have:=QgQ fr to' hf ht (d:=false) h2;rw[(Qea fr to' false r).1]at this;rw[if_neg h2,if_neg this];exact ih .named r
  |named=>
   change Rl fr to' (rhN fr to') _ (pM (f+1) .named (rn fr to' false r));rw[pM,pM];intro c q e;obtain⟨nm,r1,h1,h2⟩:=Je e
   cases e1:acc 3 [40] r1 with
   |none=>
    rw[Qej fr to' hf ht h1 (QgP e1),Jj,QaS fr to' hf ht e1 (by unfold QaT;decide)];rw[e1]at h2;simp only at h2 |-;injection h2 with h3 h4;rw[<- h3,<- h4,Qbf,QaM,if_pos (Or.inl rfl)]
   |some r2=>
    rw[QeO fr to' hf ht h1 (.inr (QgO e1)),Jj,Qaz fr to' hf ht e1 (by unfold QaT;decide) (by decide)];rw[e1]at h2;simp only at h2 |-
    cases e2:acc 3 [41] r2 with
    |some r3=>
     rw[Qaz fr to' hf ht e2 (by unfold QaT;decide) (by decide)];rw[e2]at h2;simp only at h2 |-;injection h2 with h3 h4;rw[<- h3,<- h4,Qbf,QaM,if_neg (by decide)]
    |none=>
     rw[QaS fr to' hf ht e2 (by unfold QaT;decide)];rw[e2]at h2;have:=ih (.args nm.1 nm.2 []) r2;rw[rhM,QaM]at this;exact this c q h2
  |args nm o l=>
   change Rl fr to' (rhN fr to') _ (pM (f+1) (.args nm o (rhL fr to' l)) (rn fr to' false r));rw[pM,pM];refine(iE r).bind fr to' fun a r1 _=>?_
   cases e1:acc 3 [44] r1 with
   |some r2=>
    rw[Qaz fr to' hf ht e1 (by unfold QaT;decide) (by decide)];have:=ih (.args nm o (l++[a])) r2;rw[rhM,Qfi]at this;exact this
   |none=>
    rw[QaS fr to' hf ht e1 (by unfold QaT;decide)];exact(iA r1 (by unfold QaT;decide) (by decide)).bind fr to' fun _ r2 _=>Rl.ok fr to' (by rw[Qbf,Qfi,if_neg (by decide)])
theorem Qih(r:List Tok):Rl fr to' id (QcB r) (QcB (rn fr to' false r)):=by
 unfold QcB
 cases e1:acc 0 Qgg r with
 |some r1=>rw[Qaz fr to' hf ht e1 (by unfold QaT;decide) (by decide)];exact Rl.ok fr to' rfl
 |none=>
  rw[QaS fr to' hf ht e1 (by unfold QaT;decide)];simp only
  cases e1:acc 0 Qdk r with
  |some r1=>rw[Qaz fr to' hf ht e1 (by unfold QaT;decide) (by decide)];exact Rl.ok fr to' rfl
  |none=>exact Rl.bad fr to'
theorem Qij(r:List Tok):Rl fr to' id (Qcj r) (Qcj (rn fr to' false r)):=by
 unfold Qcj
 cases e1:acc 0 Qcx r with
 |some r1=>rw[Qaz fr to' hf ht e1 (by unfold QaT;decide) (by decide)];exact Rl.ok fr to' rfl
 |none=>
  rw[QaS fr to' hf ht e1 (by unfold QaT;decide)];simp only
  cases e1:acc 0 QbV r with
  |some r1=>rw[Qaz fr to' hf ht e1 (by unfold QaT;decide) (by decide)];exact Rl.ok fr to' rfl
  |none=>
   rw[QaS fr to' hf ht e1 (by unfold QaT;decide)];simp only
   cases e1:acc 0 Qcg r with
   |some r1=>rw[Qaz fr to' hf ht e1 (by unfold QaT;decide) (by decide)];exact Rl.ok fr to' rfl
   |none=>
    rw[QaS fr to' hf ht e1 (by unfold QaT;decide)];simp only
    cases e1:acc 0 Qdj r with
    |some r1=>rw[Qaz fr to' hf ht e1 (by unfold QaT;decide) (by decide)];exact Rl.ok fr to' rfl
    |none=>exact Rl.bad fr to'
omit hf ht in
def sgP(p:List UInt8 × Int):List UInt8 × Int:=(sg fr to' p.1,p.2)
def rhF(x:FnS):FnS:=⟨x.name,x.params.map (sgP fr to'),x.types,x.result,rhN fr to' x.body⟩
def rhC(x:ClS):ClS:=⟨rhN fr to' x.cond,x.action,x.reason⟩
def rhS(s:Src):Src:=⟨s.funcs.map (rhF fr to'),s.clauses.map (rhC fr to'),s.action⟩
theorem QeI:∀ (f:Nat) (ps:List (List UInt8 × Int)) (ts:List Int) (r:List Tok),Rl fr to' (fun p=>(p.1.map (sgP fr to'),p.2)) (Qak f ps ts r) (Qak f (ps.map (sgP fr to')) ts (rn fr to' false r))
 |0,ps,ts,r=>fun a q e=>by rw[Qak]at e;cases e
 |f+1,ps,ts,r=>by
  rw[Qak,Qak];refine QgI fr to' hf ht (by unfold QaT;decide) (by decide) (by decide) fun nm r2=>(Qih fr to' hf ht r2).bind fr to' fun t r3 _=>?_
  cases e1:acc 3 [44] r3 with
  |some r4=>
   rw[Qaz fr to' hf ht e1 (by unfold QaT;decide) (by decide)];have:=QeI f (ps++[nm]) (ts++[t]) r4;rw[map_append]at this;exact this
  |none=>
   rw[QaS fr to' hf ht e1 (by unfold QaT;decide)];exact(Qbh fr to' hf ht (by unfold QaT;decide) (by decide) r3).bind fr to' fun _ r4 _=>Rl.ok fr to' (by rw[map_append];rfl)
theorem QjJ(f:Nat)(r:List Tok):Rl fr to' (rhF fr to') (Qdb f r) (Qdb f (rn fr to' true r)):=by
 unfold Qdb;intro c q e;obtain⟨nm,r1,h1,h2⟩:=Je e;rw[QeO fr to' hf ht h1 (.inl rfl),Jj];refine((Qbh fr to' hf ht (by unfold QaT;decide) (by decide) r1).bind fr to' (g:=id) (h:=rhF fr to') fun _ r2 _=>?_) c q h2
 have hq:Rl fr to' (fun p:List (List UInt8 × Int) × List Int=>(p.1.map (sgP fr to'),p.2)) (match acc 3 [41] r2 with
   |some r3=>PR.ok (([],[]):List (List UInt8 × Int) × List Int) r3
   |none=>Qak f [] [] r2) (match acc 3 [41] (rn fr to' false r2) with
   |some r3=>PR.ok (([],[]):List (List UInt8 × Int) × List Int) r3
   |none=>Qak f [] [] (rn fr to' false r2)):=by
  cases e1:acc 3 [41] r2 with
  |some r3=>rw[Qaz fr to' hf ht e1 (by unfold QaT;decide) (by decide)];exact Rl.ok fr to' rfl
  |none=>rw[QaS fr to' hf ht e1 (by unfold QaT;decide)];exact QeI fr to' hf ht f [] [] r2
 exact hq.bind fr to' fun pt r3 _=>(Qbh fr to' hf ht (by unfold QaT;decide) (by decide) r3).bind fr to' fun _ r4 _=>(Qih fr to' hf ht r4).bind fr to' fun t r5 _=>(Qbh fr to' hf ht (by unfold QaT;decide) (by decide) r5).bind fr to' fun _ r6 _=>(QiJ fr to' hf ht f .expr r6).bind fr to' fun b r7 _=>Rl.ok fr to' rfl
theorem QgJ(g:Nat):∀ (f:Nat) (l:List FnS) (r:List Tok),Rl fr to' (List.map (rhF fr to')) (Qbc g f l r) (Qbc g f (l.map (rhF fr to')) (rn fr to' false r))
 |0,l,r=>fun a q e=>by rw[Qbc]at e;cases e
 |f+1,l,r=>by
  rw[Qbc,Qbc]
  cases e1:acc 0 QdX r with
  |some r1=>
   have h1:Qdm (hd r)=true:=decide_eq_true (Qdd e1);rw[QfN fr to' hf ht (by unfold QaT;decide),e1,h1];refine(QjJ fr to' hf ht g r1).bind fr to' fun x r2 _=>?_
   have:=QgJ g f (l++[x]) r2;rw[map_append]at this;exact this
  |none=>
   rw[QaS fr to' hf ht e1 (by unfold QaT;decide)];exact Rl.ok fr to' rfl
theorem Qii(g:Nat):∀ (f:Nat) (l:List ClS) (r:List Tok),Rl fr to' (List.map (rhC fr to')) (Qad g f l r) (Qad g f (l.map (rhC fr to')) (rn fr to' false r))
 |0,l,r=>fun a q e=>by rw[Qad]at e;cases e
 |f+1,l,r=>by
  rw[Qad,Qad]
  cases e1:acc 0 QaR r with
  |some r1=>
   rw[Qaz fr to' hf ht e1 (by unfold QaT;decide) (by decide)];refine(QiJ fr to' hf ht g .expr r1).bind fr to' fun c r2 _=>(Qbh fr to' hf ht (by unfold QaT;decide) (by decide) r2).bind fr to' fun _ r3 _=>(Qij fr to' hf ht r3).bind fr to' fun a r4 _=>(QgH fr to' hf ht r4).bind fr to' fun s r5 _=>?_
   have:=Qii g f (l++[⟨c,a,s⟩]) r5;rw[map_append]at this;exact this
  |none=>
   rw[QaS fr to' hf ht e1 (by unfold QaT;decide)];exact Rl.ok fr to' rfl
theorem QjI(f:Nat)(r:List Tok):Rl fr to' (rhS fr to') (QcO f r) (QcO f (rn fr to' false r)):=by
 unfold QcO;refine(QgJ fr to' hf ht f f [] r).bind fr to' fun fs r1 _=>(Qii fr to' hf ht f f [] r1).bind fr to' fun cs r2 _=>(Qbh fr to' hf ht (by unfold QaT;decide) (by decide) r2).bind fr to' fun _ r3 _=>(Qij fr to' hf ht r3).bind fr to' fun a r4 _=>?_
 rw[(Qea fr to' false r4).1];split
 ·exact Rl.ok fr to' rfl
 ·exact Rl.bad fr to'
omit hf ht
mutual
theorem QgS:∀ a:Nd,QaC (rhN fr to' a)=QaC a
 |.mk k n s o l=>by rw[Qbf,QaC,QaC,QfD l]
theorem QfD:∀ l:List Nd,Qbs (rhL fr to' l)=Qbs l
 |[]=>by rw[QaM]
 |a::l=>by rw[Qay,Qbs,Qbs,QgS a,QfD l]
end
theorem QgT(vars:List (List UInt8))(s:List UInt8):QaQ (vars.map (sg fr to')) (sg fr to' s)=QaQ vars s:=by
 unfold QaQ;rw[List.foldl_map];simp only[Qgy]
mutual
theorem QdM(fs:List (List UInt8)):∀ (vars:List (List UInt8)) (a:Nd),WfN a->Qcl fs (vars.map (sg fr to')) (rhN fr to' a)=Qcl fs vars a
 |vars,.mk k n s o l,h=>by
  rw[Vi]at h;obtain⟨w19,_,_,_,wl⟩:=h;have hl:=QgL fs vars l wl;rw[Qbf,VE,VE,hl]
  by_cases h2:k=2
  ·rw[if_pos h2,if_pos h2,if_pos (Or.inl h2),QgT]
  rw[if_neg h2,if_neg h2]
  by_cases h3:k=20
  ·rw[if_pos h3,if_pos h3,if_neg (by omega)]
  rw[if_neg h3,if_neg h3]
  by_cases h4:k=19
  ·rw[if_pos h4,if_pos h4,if_pos (Or.inr h4)]
   match l,w19 h4,wl with
   |[a,b],_,wl=>
    rw[J2,J2]at wl;have e1:=QdM fs vars a wl.1;have e2:=QdM fs (vars++[s]) b wl.2.1;rw[map_append]at e2;simp only[Qay,QaM,List.length_map,e1];rw[show [sg fr to' s]=[s].map (sg fr to') from rfl,e2]
  rw[if_neg h4,if_neg h4,if_neg (by omega)]
theorem QgL(fs:List (List UInt8)):∀ (vars:List (List UInt8)) (l:List Nd),WfL l->QbE fs (vars.map (sg fr to')) (rhL fr to' l)=QbE fs vars l
 |vars,[],h=>by rw[QaM,Jcn,Jcn]
 |vars,a::l,h=>by
  rw[J2]at h;rw[Qay,Jaq,Jaq,QdM fs vars a h.1,QgL fs vars l h.2]
end
theorem Qhi:∀ (l:List (List UInt8 × Int)) (seen:List (List UInt8)),Qcr (l.map (sgP fr to')) (seen.map (sg fr to'))=Qcr l seen
 |[],seen=>by rw[List.map_nil,Qcr,Qcr]
 |(s,o)::l,seen=>by
  have e1:(sg fr to' s∈seen.map (sg fr to'))↔s∈seen:=by
   rw[List.mem_map];exact⟨fun ⟨a,h1,h2⟩=>(Qgy fr to').1 h2 ▸ h1,fun h=>⟨s,h,rfl⟩⟩
  have e2:=Qhi l (seen++[s]);rw[map_append]at e2;rw[List.map_cons];change Qcr ((sg fr to' s,o)::l.map (sgP fr to')) (seen.map (sg fr to'))=_;rw[Qcr,Qcr];rw[show [sg fr to' s]=[s].map (sg fr to') from rfl,e2]
  by_cases q:s∈seen
  ·rw[if_pos q,if_pos (e1.2 q)]
  ·rw[if_neg q,if_neg (fun h=>q (e1.1 h))]
theorem QiG(fs:List (List UInt8))(x:FnS)(h:WfN x.body):resF fs (rhF fr to' x)=({ (resF fs x).1 with params:=x.params.map (sgP fr to') },(resF fs x).2):=by
 unfold resF rhF;have e1:(x.params.map (sgP fr to')).map (·.1)=(x.params.map (·.1)).map (sg fr to'):=by rw[map_map,map_map];rfl
 have e2:=Qhi fr to' x.params [];simp only[e1,QdM fr to' fs _ x.body h];rw[show ([]:List (List UInt8))=[].map (sg fr to') from rfl,e2];rfl
theorem QiH(fs:List (List UInt8))(x:ClS)(h:WfN x.cond):resC fs (rhC fr to' x)=resC fs x:=by
 unfold resC rhC;have:=QdM fr to' fs [] x.cond h;rw[List.map_nil]at this;simp only[this]
theorem Qjc{s:Src}(h1:∀ x∈s.funcs,WfN x.body)(h2:∀ x∈s.clauses,WfN x.cond):Qcs (rhS fr to' s)=Qcs s:=by
 have hn:(rhS fr to' s).funcs.map (·.name.1)=s.funcs.map (·.name.1):=by unfold rhS;rw[map_map];rfl
 have hl:Qbd (rhS fr to' s)=Qbd s:=by
  have e:(rhS fr to' s).roots=s.roots.map (rhN fr to'):=by
   unfold Src.roots rhS;simp only[map_map,map_append];rfl
  unfold Qbd;rw[e,List.find?_map];have:((fun n=>decide (40<QaC n))∘rhN fr to')=fun n=>decide (40<QaC n):=by funext n;simp only[Function.comp,QgS]
  rw[this]
  cases s.roots.find? (fun n=>decide (40<QaC n)) with
  |none=>rfl
  |some n=>simp only[Option.map_some,QgK]
 have eF:∀ {β:Type} (g:FnS × List Int->β),(∀ x ps,g ({ x.1 with params:=ps },x.2)=g x)->s.funcs.map (fun x=>g (resF (s.funcs.map (·.name.1)) (rhF fr to' x)))=s.funcs.map fun x=>g (resF (s.funcs.map (·.name.1)) x):=fun g hg=>List.map_congr_left fun x hx=>by
  rw[QiG fr to' _ x (h1 x hx)];exact hg _ _
 have eC:∀ {β:Type} (g:ClS × List Int->β),s.clauses.map (fun x=>g (resC (s.funcs.map (·.name.1)) (rhC fr to' x)))=s.clauses.map fun x=>g (resC (s.funcs.map (·.name.1)) x):=fun g=>List.map_congr_left fun x hx=>by rw[QiH fr to' _ x (h2 x hx)]
 have r2:(Qac (rhS fr to' s)).2=(Qac s).2:=by
  unfold Qac;simp only[hn];unfold rhS;simp only[map_map,Function.comp_def];rw[eF (fun x=>x.2) fun _ _=>rfl,eC fun x=>x.2];rfl
 have r3:QaY (Qac (rhS fr to' s)).1=QaY (Qac s).1:=by
  unfold QaY Qac;simp only[hn];unfold rhS;simp only[map_map,Function.comp_def];rw[eF (fun x=>(⟨x.1.types,x.1.result⟩:Qbn)) fun _ _=>rfl];rw[eF (fun x=>QcP (s.funcs.map fun x=>(⟨(resF (s.funcs.map (·.name.1)) x).1.types,(resF (s.funcs.map (·.name.1)) x).1.result⟩:Qbn)) x.1.types x.1.result x.1.body) fun _ _=>rfl];rw[eC fun x=>QcP (s.funcs.map fun x=>(⟨(resF (s.funcs.map (·.name.1)) x).1.types,(resF (s.funcs.map (·.name.1)) x).1.result⟩:Qbn)) [] 1 x.1.cond]
 have r4:QaN (Qac (rhS fr to' s)).1=QaN (Qac s).1:=by
  unfold QaN Qac;simp only[hn];unfold rhS;simp only[map_map,Function.comp_def];rw[eF (fun x=>(⟨x.1.name.1,x.1.types,x.1.result,Qab x.1.body⟩:FnM)) fun _ _=>rfl,eC fun x=>(⟨Qab x.1.cond,x.1.action,x.1.reason⟩:ClM)]
 unfold Qcs;rw[hl,r2,r3,r4]
include hf ht
theorem QhK{f:Nat}{T:List Tok}{r:Qaq}(hT:Sh T)(h:QaW f T=some (r,0,0)):QaW f (rn fr to' false T)=some (r,0,0):=by
 cases q:QcO f T with
 |out=>unfold QaW at h;rw[q]at h;cases h
 |bad o=>unfold QaW at h;rw[q]at h;simp at h
 |ok s r'=>
  obtain⟨w1,w2⟩:=Jkt hT q;rw[JeF q]at h;rw[JeF (QjI fr to' hf ht f T s r' q),Qjc fr to' (fun x hx=>(w1 x hx).1) (fun x hx=>w2 x hx)];exact h
end
end Go.Proofs.YtdlkcjkjnehnkaaGreatDoor
