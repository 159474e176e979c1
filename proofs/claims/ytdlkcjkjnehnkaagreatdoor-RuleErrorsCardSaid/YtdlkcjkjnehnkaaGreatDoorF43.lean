import Derived.Test.YtdlkcjkjnehnkaaGreatDoorF38
import Derived.Test.YtdlkcjkjnehnkaaGreatDoorF19
namespace Go.Proofs.YtdlkcjkjnehnkaaGreatDoor
open Go Go.Lib
open Go.ChangeShapes Go.WideShapes Go.ChangeAt Go.RowKit Go.Lib
open Go.RowKit
open Go
open _root_.Go.Proofs.Tryz
set_option linter.all false
set_option maxRecDepth 100000
set_option maxHeartbeats 32000000
theorem sp_not_short {c:UInt8} (h:isSp c=true):c∉short1∧c≠61∧c≠34:=by
 rcases JbV h with rfl | rfl | rfl | rfl <;> decide
theorem word_all (l:List UInt8):∀ c∈wordL l,isWo c=true:=by
 intro c hc;exact (List.all_eq_true.1 (List.all_takeWhile (p:=isWo) (l:=l))) c hc
theorem word_next {l:List UInt8}:(l.drop (wordL l).length).head?.map isWo≠some true:=by
 unfold wordL
 induction l with
 | nil=>simp
 | cons c l ih=>
  by_cases h:isWo c=true
  ·rw[List.takeWhile_cons_of_pos h];simpa using ih
  ·rw[List.takeWhile_cons_of_neg h];simpa using h
def Stop (r1 r2:List UInt8):Prop:=r1.head?=r2.head?∨r2=[]∨∃ c r,r2=c::r∧isSp c=true
theorem Stop.word {r1 r2:List UInt8} (h:Stop r1 r2) (h1:r1.head?.map isWo≠some true):r2.head?.map isWo≠some true:=by
 rcases h with h | rfl | ⟨c,r,rfl,hc⟩
 ·rw[← h]; exact h1
 ·simp
 ·simp[JeR hc]
theorem tok_stop {w r1 r2:List UInt8} {t:Tok} (h:tokF (w++r1)=some (t,w.length)) (hs:Stop r1 r2):tokF (w++r2)=some (t,w.length):=by
 have h0:=JaP h;have hlen:=h0.2.1
 cases w with
 | nil=>simp at hlen
 | cons c w=>
  simp only[List.cons_append,tokF] at h ⊢;split at h
  ·rename_i hc;rw[if_pos hc];split at h
   ·rename_i h24;injection h with h;injection h with e1 e2;have htw:=JeS (c::(w++r1));have hn:=word_next (l:=c::(w++r1));have ha:=word_all (c::(w++r1));rw[e2] at htw hn;rw[← List.cons_append,List.take_left'] at htw;rw[← List.cons_append,List.drop_left'] at hn;rw[← List.cons_append] at ha e1 e2 h24;rw[← htw] at ha e1 h24
    have hw2:wordL (c::(w++r2))=c::w:=by
     rw[← List.cons_append];exact Vz ha (hs.word hn)
    rw[hw2,if_pos h24,e1]
    all_goals rfl
   ·cases h
  ·rename_i hc;rw[if_neg hc];split at h
   ·rename_i hd;rw[if_pos hd]
    cases hp:parseI (wordL (c::(w++r1))) 0 1125899906842624 with
    | none=>rw[hp] at h; cases h
    | some m=>
     rw[hp] at h;injection h with h;injection h with e1 e2;have htw:=JeS (c::(w++r1));have hn:=word_next (l:=c::(w++r1));have ha:=word_all (c::(w++r1));rw[e2] at htw hn;rw[← List.cons_append,List.take_left'] at htw;rw[← List.cons_append,List.drop_left'] at hn;rw[← List.cons_append] at ha e2 hp;rw[← htw] at ha hp
     have hw2:wordL (c::(w++r2))=c::w:=by
      rw[← List.cons_append];exact Vz ha (hs.word hn)
     rw[hw2,hp,Option.map_some,e1]
     all_goals rfl
   ·rename_i hd;rw[if_neg hd];split at h
    ·rename_i hq;rw[if_pos hq]
     cases hp:textF 25 (w++r1) with
     | none=>rw[hp] at h; cases h
     | some v=>
      rw[hp] at h;injection h with h;injection h with e1 e2;obtain ⟨h2,h3,h4⟩:=V7 _ _ _ hp;have hvl:v.length+1=w.length:=by simp at e2; omega
      rw[hvl,List.take_left'] at h4;rw[h4,List.append_assoc]
      show Option.map _ (textF 25 (v++34::r2))=_
      rw[Jeb 25 _ v r2 hp,Option.map_some,e1]
      ·simp
      ·rfl
    ·rename_i hq;rw[if_neg hq];split at h
     ·cases h
     ·rename_i hne;injection h with h;injection h with e1 e2
      have key:signL (c::(w++r2))=c::w:=by
       rcases Jec (c::(w++r1)) with ⟨hm,e⟩ | ⟨hm,c',r',hcr,hcs,e⟩ | e
       ·have h2:=JeT hm;rw[e2] at h2;rw[← List.cons_append,List.take_append_of_le_length (by omega),List.take_of_length_le (by omega)] at e;rw[← List.cons_append] at e2 hm;unfold signL;rw[← List.cons_append,List.take_append_of_le_length (by omega),List.take_of_length_le (by omega),← e,if_pos hm]
       ·injection hcr with hc1 hc2;subst hc1;rw[e] at e2
        have hw0:w=[]:=by
         cases w with
         | nil=>rfl
         | cons a b=>simp at e2
        subst hw0;simp only[List.nil_append] at hm ⊢
        have hm2:(c::r2).take 2∉long2:=by
         rw[take2] at hm ⊢
         rcases hs with h | rfl | ⟨d,r,rfl,hd⟩
         ·rw[← h]; exact hm
         ·simp[long2]
         ·have:=(sp_not_short hd).2.1;simp[long2,this]
        unfold signL;rw[if_neg hm2];simp[hcs]
       ·exact absurd e hne
      have e3:signL (c::(w++r1))=c::w:=by
       have h3:=(Jaj (c::(w++r1))).2.2;rw[e2,← List.cons_append,List.take_left'] at h3
       ·exact h3.symm
       ·rfl
      rw[key,if_neg (by simp),← e1,e3]
def blankL (l:List UInt8):Prop:=∀ c∈l,isSp c=true
theorem split_at (l:List UInt8) (n:Nat):l=l.take n++l.drop n:=(List.take_append_drop n l).symm
theorem sc_step (k:Nat) {c:UInt8} {r:List UInt8} {t:Tok} {n:Nat} (hs:isSp c=false) (ht:tokF (c::r)=some (t,n)) (r2:List UInt8) (hst:Stop ((c::r).drop n) r2) :
  sc k (wr t++r2)=(sc (k+n) r2).push { t with off:=k }:=by
 have hw:=JaP ht;have hsp:=split_at (c::r) n;rw[← hw.1] at hsp
 have h2:tokF (wr t++r2)=some (t,(wr t).length):=by
  refine tok_stop (r1:=(c::r).drop n) ?_ hst;rw[← hsp,ht,hw.2.2.2]
 cases hwt:wr t with
 | nil=>rw[hwt] at hw; simp at hw; omega
 | cons d w=>
  rw[hwt] at h2 hsp;have hd:d=c:=by rw[List.cons_append] at hsp; injection hsp with h _; exact h.symm
  rw[List.cons_append] at h2 ⊢;have h3:=Jak k (w++r2) (c:=d) (by rw[hd]; exact hs) h2;rw[h3,← List.cons_append,List.drop_left' rfl];rw[← hw.2.2.2,hwt]
def ar0 (k:Int):Nat:=if k≤5 then 0 else if k=6∨k=7 then 1 else if k=18 then 3 else 2
def PrF (k n:Int) (s:List UInt8) (m:Nat):Prop:=0≤k∧k<21∧(k=0→0≤n∧n≤1125899906842624)∧(k=1→n=0∨n=1)∧(k≠0→k≠1→n=0)∧(k=3→(factI s).isSome=true)∧
 (k=4∨k=5→textB s=true)∧(k≠2→k≠3→k≠4→k≠5→k≠19→k≠20→s=[])∧(k≠20→m=ar0 k)
mutual
def PrN:Nd→Prop
 | .mk k n s o l=>PrF k n s l.length∧PrL l
def PrL:List Nd→Prop
 | []=>True
 | a::l=>PrN a∧PrL l
end
def extP:Md→Prop
 | .loop _ _ a=>PrN a
 | .args _ _ l=>PrL l
 | _=>True
def EndL (r0:List Tok):Prop:=∃ us e,r0=us++[e]∧(∀ t∈us,t.kind≠4)∧e.kind=4
def Lf (r0 r:List Tok):Prop:=r <:+ r0∧r≠[]
def offIn (r0:List Tok) (o:Int):Prop:=∃ t∈r0,t.off=o
theorem Lf.off {r0 r:List Tok} (h:Lf r0 r):offIn r0 (hd r).off:=by
 obtain ⟨h1,h2⟩:=h
 cases r with
 | nil=>exact absurd rfl h2
 | cons t r=>exact ⟨t,h1.mem (by simp),rfl⟩
theorem Lf.tail {r0 r:List Tok} (he:EndL r0) (h:Lf r0 r) (hk:(hd r).kind≠4):Lf r0 r.tail:=by
 obtain ⟨h1,h2⟩:=h;obtain ⟨us,e,rfl,hu,h4⟩:=he
 cases r with
 | nil=>exact absurd rfl h2
 | cons t r=>
  refine ⟨(List.suffix_cons t r).trans h1,?_⟩;intro hn;simp only[List.tail_cons] at hn;subst hn
  have h3:t=e:=by
   obtain ⟨p,hp⟩:=h1;have:=congrArg List.getLast? hp;simpa using this
  subst h3;exact hk h4
def PI {α:Type} (r0:List Tok) (P:α→Prop):PR α→Prop
 | .out=>True
 | .bad o=>offIn r0 o
 | .ok a r=>Lf r0 r∧P a
theorem PI.bind {α β:Type} {r0:List Tok} {P:α→Prop} {Q:β→Prop} {x:PR α} {f:α→List Tok→PR β} (h:PI r0 P x) (hf:∀ a r,Lf r0 r→P a→PI r0 Q (f a r)):PI r0 Q (x.bind f):=by
 cases x with
 | out=>trivial
 | bad o=>exact h
 | ok a r=>exact hf a r h.1 h.2
section
variable {r0:List Tok} (he:EndL r0)
include he
theorem acc_lf {k:Int} {s:List UInt8} {r r':List Tok} (hk:k≠4) (h:Lf r0 r) (e:acc k s r=some r'):Lf r0 r':=by
 unfold acc at e;split at e
 ·next g=>injection e with e; subst e; exact h.tail he (by rw[g.1]; exact hk)
 ·cases e
theorem accept_in {k:Int} {s:List UInt8} {r:List Tok} (hk:k≠4) (h:Lf r0 r):PI r0 (fun _=>True) (accept k s r):=by
 unfold accept
 cases e:acc k s r with
 | some r1=>exact ⟨acc_lf he hk h e,trivial⟩
 | none=>exact h.off
theorem identP_in {r:List Tok} (h:Lf r0 r):PI r0 (fun p=>offIn r0 p.2) (identP r):=by
 unfold identP;split
 ·next g=>exact ⟨h.tail he (by omega),h.off⟩
 ·exact h.off
theorem textP_in {r:List Tok} (h:Lf r0 r):PI r0 (fun _=>True) (textP r):=by
 unfold textP;split
 ·next g=>exact ⟨h.tail he (by omega),trivial⟩
 ·exact h.off
theorem quotedP_in {r:List Tok} (h:Lf r0 r):PI r0 (fun _=>True) (quotedP r):=
 (accept_in he (by decide) h).bind fun _ _ h _=>(textP_in he h).bind fun _ _ h _=>(accept_in he (by decide) h).bind fun _ _ h _=>⟨h,trivial⟩
omit he
mutual
def NI (r0:List Tok):Nd→Prop
 | .mk _ _ _ o l=>offIn r0 o∧NIL r0 l
def NIL (r0:List Tok):List Nd→Prop
 | []=>True
 | a::l=>NI r0 a∧NIL r0 l
end
theorem NI_mk {k n:Int} {s:List UInt8} {o:Int} {l:List Nd}:NI r0 (.mk k n s o l)↔offIn r0 o∧NIL r0 l:=by rw[NI]
theorem NIL_nil:NIL r0 []:=by rw[NIL]; trivial
theorem NIL_cons {a:Nd} {l:List Nd}:NIL r0 (a::l)↔NI r0 a∧NIL r0 l:=by rw[NIL]
theorem NIL_app {l:List Nd} {a:Nd} (h:NIL r0 l) (ha:NI r0 a):NIL r0 (l++[a]):=by
 induction l with
 | nil=>exact NIL_cons.2 ⟨ha,NIL_nil⟩
 | cons b l ih=>exact NIL_cons.2 ⟨(NIL_cons.1 h).1,ih (NIL_cons.1 h).2⟩
theorem ni0 {k n:Int} {s:List UInt8} {o:Int} (h:offIn r0 o):NI r0 (.mk k n s o []):=NI_mk.2 ⟨h,NIL_nil⟩
theorem ni1 {k n:Int} {s:List UInt8} {o:Int} {a:Nd} (h:offIn r0 o) (ha:NI r0 a):NI r0 (.mk k n s o [a]):=NI_mk.2 ⟨h,NIL_cons.2 ⟨ha,NIL_nil⟩⟩
theorem ni2 {k n:Int} {s:List UInt8} {o:Int} {a b:Nd} (h:offIn r0 o) (ha:NI r0 a) (hb:NI r0 b):NI r0 (.mk k n s o [a,b]):=NI_mk.2 ⟨h,NIL_cons.2 ⟨ha,NIL_cons.2 ⟨hb,NIL_nil⟩⟩⟩
theorem ni3 {k n:Int} {s:List UInt8} {o:Int} {a b c:Nd} (h:offIn r0 o) (ha:NI r0 a) (hb:NI r0 b) (hc:NI r0 c):NI r0 (.mk k n s o [a,b,c]):=NI_mk.2 ⟨h,NIL_cons.2 ⟨ha,NIL_cons.2 ⟨hb,NIL_cons.2 ⟨hc,NIL_nil⟩⟩⟩⟩
theorem NI.o {a:Nd} (h:NI r0 a):offIn r0 a.off:=by cases a; exact (NI_mk.1 h).1
theorem cmpN_in {t:Tok} {k:Int} {a b:Nd} (ha:NI r0 a) (hb:NI r0 b):NI r0 (cmpN t k a b):=by
 unfold cmpN;split
 ·exact ni2 ha.o hb ha
 split
 ·exact ni1 ha.o (ni2 ha.o ha hb)
 ·exact ni2 ha.o ha hb
def MdI (r0:List Tok):Md→Prop
 | .loop _ o a=>offIn r0 o∧NI r0 a
 | .args _ o l=>offIn r0 o∧NIL r0 l
 | _=>True
theorem opK_nk {lv:Nat} {t:Tok} {k:Int} (h:opK lv t=some k):t.kind≠4:=by
 intro e;unfold opK at h;simp[e] at h
theorem cmpK_nk {t:Tok} {k:Int} (h:cmpK t=some k):t.kind≠4:=by
 intro e;unfold cmpK at h;simp[e] at h
include he
theorem pM_in:∀ (f:Nat) (md:Md) (r:List Tok),Lf r0 r→MdI r0 md→PI r0 (NI r0) (pM f md r)
 | 0,md,r,h,hm=>by rw[pM]; trivial
 | f+1,md,r,h,hm=>by
  have ih:=pM_in f;have iE:∀ r,Lf r0 r→PI r0 (NI r0) (pM f .expr r):=fun r h=>ih .expr r h trivial
  have iV:∀ lv r,Lf r0 r→PI r0 (NI r0) (pM f (.level lv) r):=fun lv r h=>ih (.level lv) r h trivial
  have ho:=h.off
  cases md with
  | expr=>
   rw[pM]
   cases e1:acc 0 kLet r with
   | some r1=>
    exact (identP_in he (acc_lf he (by decide) h e1)).bind fun nm r2 h _=>(accept_in he (by decide) h).bind fun _ r3 h _=>(iE r3 h).bind fun v r4 h hv=>(accept_in he (by decide) h).bind fun _ r5 h _=>(iE r5 h).bind fun b r6 h hb=>⟨h,ni2 ho hv hb⟩
   | none=>
    simp only
    cases e2:acc 0 kIf r with
    | some r1=>exact (iE r1 (acc_lf he (by decide) h e2)).bind fun v r2 h hv=>(accept_in he (by decide) h).bind fun _ r3 h _=>(iE r3 h).bind fun y r4 h hy=>(accept_in he (by decide) h).bind fun _ r5 h _=>(iE r5 h).bind fun b r6 h hb=>⟨h,ni3 ho hv hy hb⟩
    | none=>exact iV 1 r h
  | level lv=>
   rw[pM]
   by_cases h3:lv=3
   ·rw[if_pos h3]
    cases e1:acc 0 kNot r with
    | some r1=>exact (iV 3 r1 (acc_lf he (by decide) h e1)).bind fun a r2 h ha=>⟨h,ni1 ho ha⟩
    | none=>exact ih .cmp r h trivial
   rw[if_neg h3]
   by_cases h7:lv=7
   ·rw[if_pos h7]
    cases e1:acc 3 [45] r with
    | some r1=>exact (iV 7 r1 (acc_lf he (by decide) h e1)).bind fun a r2 h ha=>⟨h,ni1 ho ha⟩
    | none=>exact ih .prim r h trivial
   rw[if_neg h7];exact (iV (lv+1) r h).bind fun a r1 h ha=>ih (.loop lv _ a) r1 h ⟨ho,ha⟩
  | loop lv o a=>
   rw[pM]
   cases e1:opK lv (hd r) with
   | none=>exact ⟨h,hm.2⟩
   | some k=>exact (iV (lv+1) r.tail (h.tail he (opK_nk e1))).bind fun b r1 h hb=>ih (.loop lv o _) r1 h ⟨hm.1,ni2 hm.1 hm.2 hb⟩
  | cmp=>
   rw[pM];refine (iV 5 r h).bind fun a r1 h ha=>?_
   cases e1:cmpK (hd r1) with
   | none=>exact ⟨h,ha⟩
   | some k=>exact (iV 5 r1.tail (h.tail he (cmpK_nk e1))).bind fun b r2 h hb=>⟨h,cmpN_in ha hb⟩
  | prim=>
   rw[pM]
   by_cases h1:(hd r).kind=1
   ·rw[if_pos h1];exact ⟨h.tail he (by omega),ni0 ho⟩
   rw[if_neg h1]
   cases e1:acc 3 [40] r with
   | some r1=>
    refine (iE r1 (acc_lf he (by decide) h e1)).bind fun n r2 h hn=>(accept_in he (by decide) h).bind fun _ r3 h _=>⟨h,?_⟩
    cases n
    exact NI_mk.2 ⟨ho,(NI_mk.1 hn).2⟩
   | none=>
    simp only
    cases e2:acc 0 kFalse r with
    | some r1=>exact ⟨acc_lf he (by decide) h e2,ni0 ho⟩
    | none=>
     simp only
     cases e3:acc 0 kTrue r with
     | some r1=>exact ⟨acc_lf he (by decide) h e3,ni0 ho⟩
     | none=>
      simp only
      cases e4:acc 0 kLabel r with
      | some r1=>exact (quotedP_in he (acc_lf he (by decide) h e4)).bind fun s r2 h _=>⟨h,ni0 ho⟩
      | none=>
       simp only
       cases e5:acc 0 kWord r with
       | some r1=>exact (quotedP_in he (acc_lf he (by decide) h e5)).bind fun s r2 h _=>⟨h,ni0 ho⟩
       | none=>
        simp only
        by_cases h2:(factI (hd r).text).isSome∧(hd r).kind=0
        ·rw[if_pos h2];exact ⟨h.tail he (by omega),ni0 ho⟩
        ·rw[if_neg h2];exact ih .named r h trivial
  | named=>
   rw[pM];refine (identP_in he h).bind fun nm r1 h hn=>?_
   cases e1:acc 3 [40] r1 with
   | none=>exact ⟨h,ni0 hn⟩
   | some r2=>
    have h2:=acc_lf he (by decide) h e1;simp only
    cases e2:acc 3 [41] r2 with
    | some r3=>exact ⟨acc_lf he (by decide) h2 e2,ni0 hn⟩
    | none=>exact ih (.args nm.1 nm.2 []) r2 h2 ⟨hn,NIL_nil⟩
  | args nm o l=>
   rw[pM];refine (iE r h).bind fun a r1 h ha=>?_
   cases e1:acc 3 [44] r1 with
   | some r2=>exact ih (.args nm o (l++[a])) r2 (acc_lf he (by decide) h e1) ⟨hm.1,NIL_app hm.2 ha⟩
   | none=>exact (accept_in he (by decide) h).bind fun _ r2 h _=>⟨h,NI_mk.2 ⟨hm.1,NIL_app hm.2 ha⟩⟩
theorem typP_in {r:List Tok} (h:Lf r0 r):PI r0 (fun _=>True) (typP r):=by
 unfold typP
 cases e1:acc 0 kInt r with
 | some r1=>exact ⟨acc_lf he (by decide) h e1,trivial⟩
 | none=>
  simp only
  cases e2:acc 0 kBool r with
  | some r1=>exact ⟨acc_lf he (by decide) h e2,trivial⟩
  | none=>exact h.off
theorem actP_in {r:List Tok} (h:Lf r0 r):PI r0 (fun _=>True) (actP r):=by
 unfold actP
 cases e1:acc 0 kShow r with
 | some r1=>exact ⟨acc_lf he (by decide) h e1,trivial⟩
 | none=>
  simp only
  cases e1:acc 0 kMedia r with
  | some r1=>exact ⟨acc_lf he (by decide) h e1,trivial⟩
  | none=>
   simp only
   cases e1:acc 0 kLimit r with
   | some r1=>exact ⟨acc_lf he (by decide) h e1,trivial⟩
   | none=>
    simp only
    cases e1:acc 0 kHide r with
    | some r1=>exact ⟨acc_lf he (by decide) h e1,trivial⟩
    | none=>exact h.off
omit he
def PrOf (r0:List Tok) (l:List (List UInt8 × Int)):Prop:=∀ p∈l,offIn r0 p.2
theorem PrOf.app {l:List (List UInt8 × Int)} {p:List UInt8 × Int} (h:PrOf r0 l) (hp:offIn r0 p.2):PrOf r0 (l++[p]):=fun q hq=>by
 rcases List.mem_append.1 hq with g | g
 ·exact h q g
 ·rw[List.mem_singleton.1 g]; exact hp
structure FnOf (r0:List Tok) (x:FnS):Prop where
 nm:offIn r0 x.name.2
 ps:PrOf r0 x.params
 bd:NI r0 x.body
include he
theorem paramsP_in:∀ (f:Nat) (ps:List (List UInt8 × Int)) (ts:List Int) (r:List Tok),Lf r0 r→PrOf r0 ps→PI r0 (fun p=>PrOf r0 p.1) (paramsP f ps ts r)
 | 0,ps,ts,r,h,hp=>by rw[paramsP]; trivial
 | f+1,ps,ts,r,h,hp=>by
  rw[paramsP];refine (identP_in he h).bind fun nm r1 h hn=>(accept_in he (by decide) h).bind fun _ r2 h _=>(typP_in he h).bind fun t r3 h _=>?_
  cases e1:acc 3 [44] r3 with
  | some r4=>exact paramsP_in f _ _ r4 (acc_lf he (by decide) h e1) (hp.app hn)
  | none=>exact (accept_in he (by decide) h).bind fun _ r4 h _=>⟨h,hp.app hn⟩
theorem funP_in {f:Nat} {r:List Tok} (h:Lf r0 r):PI r0 (FnOf r0) (funP f r):=by
 unfold funP;refine (identP_in he h).bind fun nm r1 h hn=>(accept_in he (by decide) h).bind fun _ r2 h _=>?_
 have hq:PI r0 (fun p=>PrOf r0 p.1) (match acc 3 [41] r2 with
   | some r3=>PR.ok (([],[]):List (List UInt8 × Int) × List Int) r3
   | none=>paramsP f [] [] r2):=by
  cases e1:acc 3 [41] r2 with
  | some r3=>exact ⟨acc_lf he (by decide) h e1,fun p hp=>by simp at hp⟩
  | none=>exact paramsP_in he f _ _ r2 h (fun p hp=>by simp at hp)
 exact hq.bind fun pt r3 h hp=>(accept_in he (by decide) h).bind fun _ r4 h _=>(typP_in he h).bind fun t r5 h _=>(accept_in he (by decide) h).bind fun _ r6 h _=>(pM_in he f .expr r6 h trivial).bind fun b r7 h hb=>⟨h,⟨hn,hp,hb⟩⟩
theorem funsP_in (g:Nat):∀ (f:Nat) (l:List FnS) (r:List Tok),Lf r0 r→(∀ x∈l,FnOf r0 x)→PI r0 (fun l=>∀ x∈l,FnOf r0 x) (funsP g f l r)
 | 0,l,r,h,hl=>by rw[funsP]; trivial
 | f+1,l,r,h,hl=>by
  rw[funsP]
  cases e1:acc 0 kDef r with
  | some r1=>
   refine (funP_in he (acc_lf he (by decide) h e1)).bind fun x r2 h hx=>funsP_in g f _ r2 h fun y hy=>?_
   rcases List.mem_append.1 hy with q | q
   ·exact hl y q
   ·rw[List.mem_singleton.1 q]; exact hx
  | none=>exact ⟨h,hl⟩
theorem clausesP_in (g:Nat):∀ (f:Nat) (l:List ClS) (r:List Tok),Lf r0 r→(∀ x∈l,NI r0 x.cond)→PI r0 (fun l=>∀ x∈l,NI r0 x.cond) (clausesP g f l r)
 | 0,l,r,h,hl=>by rw[clausesP]; trivial
 | f+1,l,r,h,hl=>by
  rw[clausesP]
  cases e1:acc 0 kWhen r with
  | some r1=>
   refine (pM_in he g .expr r1 (acc_lf he (by decide) h e1) trivial).bind fun c r2 h hc=>(accept_in he (by decide) h).bind fun _ r3 h _=>(actP_in he h).bind fun a r4 h _=>(textP_in he h).bind fun s r5 h _=>clausesP_in g f _ r5 h fun y hy=>?_
   rcases List.mem_append.1 hy with q | q
   ·exact hl y q
   ·rw[List.mem_singleton.1 q]; exact hc
  | none=>exact ⟨h,hl⟩
end
theorem sc_endl {l:List UInt8} {k:Nat} {ts:List Tok} (h:sc k l=.ok ts):EndL ts:=by
 obtain ⟨us,rfl,hu,_⟩:=Jjy l k ts h;exact ⟨us,_,rfl,fun t ht=>by have:=(hu t ht).2.1; omega,rfl⟩
theorem parseM_ok {l:List UInt8} {ts:List Tok} (h:scanR l=(ts,0,0)):parseM l=(parseT (12*(ts.length+1)) ts).getD (noRule,0,0):=by
 unfold parseM; rw[h]; rfl
end Go.Proofs.YtdlkcjkjnehnkaaGreatDoor
