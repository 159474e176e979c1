import Derived.Shelf.Strings.OnBuilder
import Derived.Shelf.LaysM
import Derived.Test.YtdlkcjkjnehnkaaGreatDoorProg
import Derived.Test.YtdlkcjkjnehnkaaGreatDoorH27
import Derived.Test.YtdlkcjkjnehnkaaGreatDoorH30
open List(cons_append mem_singleton take_left')
open Nat(le_trans zero_add)
namespace Go.Proofs.YtdlkcjkjnehnkaaGreatDoor
open Go Go.Lib
open Go.ChangeShapes Go.WideShapes Go.ChangeAt Go.RowKit Go.Lib
open Go.RowKit
open Go
open _root_.Go.Proofs.Tryz
set_option linter.all false
set_option maxRecDepth 100000
set_option maxHeartbeats 32000000
theorem QeC{c:UInt8}(h:Qcp c=true):c∉QaF/\c≠61/\c≠34:=by
 rcases JbV h with rfl|rfl|rfl|rfl<;>decide
theorem Qep(l:List UInt8):∀ c∈Qao l,QbB c=true:=by
 intro c hc;exact(List.all_eq_true.1 (List.all_takeWhile (p:=QbB) (l:=l))) c hc
theorem QeA{l:List UInt8}:(l.drop (Qao l).length).head?.map QbB≠some true:=by
 unfold Qao
 induction l with
 |nil=>simp
 |cons c l ih=>
  by_cases h:QbB c=true
  ·rw[List.takeWhile_cons_of_pos h];simpa using ih
  ·rw[List.takeWhile_cons_of_neg h];simpa using h
def Stop(r1 r2:List UInt8):Prop:=r1.head?=r2.head?\/r2=[]\/∃ c r,r2=c::r/\Qcp c=true
theorem Stop.word{r1 r2:List UInt8}(h:Stop r1 r2)(h1:r1.head?.map QbB≠some true):r2.head?.map QbB≠some true:=by
 rcases h with h|rfl|⟨c,r,rfl,hc⟩
 ·rw[<- h];exact h1
 ·simp
 ·simp[JeR hc]
theorem Qhz{w r1 r2:List UInt8}{t:Tok}(h:QaU (w++r1)=some (t,w.length))(hs:Stop r1 r2):QaU (w++r2)=some (t,w.length):=by
 have h0:=JaP h;have hlen:=h0.2.1
 cases w with
 |nil=>simp at hlen
 |cons c w=>
  simp only[cons_append,QaU]at h |-;split at h
  ·rename_i hc;rw[if_pos hc];split at h
   ·rename_i h24;injection h with h;injection h with e1 e2;have htw:=JeS (c::(w++r1));have hn:=QeA (l:=c::(w++r1));have ha:=Qep (c::(w++r1));rw[e2]at htw hn;rw[<- cons_append,take_left']at htw;rw[<- cons_append,List.drop_left']at hn;rw[<- cons_append]at ha e1 e2 h24;rw[<- htw]at ha e1 h24
    have hw2:Qao (c::(w++r2))=c::w:=by
     rw[<- cons_append];exact Vz ha (hs.word hn)
    rw[hw2,if_pos h24,e1]
    all_goals rfl
   ·cases h
  ·rename_i hc;rw[if_neg hc];split at h
   ·rename_i hd;rw[if_pos hd]
    cases hp:QaE (Qao (c::(w++r1))) 0 1125899906842624 with
    |none=>rw[hp]at h;cases h
    |some m=>
     rw[hp]at h;injection h with h;injection h with e1 e2;have htw:=JeS (c::(w++r1));have hn:=QeA (l:=c::(w++r1));have ha:=Qep (c::(w++r1));rw[e2]at htw hn;rw[<- cons_append,take_left']at htw;rw[<- cons_append,List.drop_left']at hn;rw[<- cons_append]at ha e2 hp;rw[<- htw]at ha hp
     have hw2:Qao (c::(w++r2))=c::w:=by
      rw[<- cons_append];exact Vz ha (hs.word hn)
     rw[hw2,hp,Option.map_some,e1]
     all_goals rfl
   ·rename_i hd;rw[if_neg hd];split at h
    ·rename_i hq;rw[if_pos hq]
     cases hp:Qax 25 (w++r1) with
     |none=>rw[hp]at h;cases h
     |some v=>
      rw[hp]at h;injection h with h;injection h with e1 e2;obtain⟨h2,h3,h4⟩:=V7 _ _ _ hp;have hvl:v.length+1=w.length:=by simp at e2;omega
      rw[hvl,take_left']at h4;rw[h4,List.append_assoc]
      show Option.map _ (Qax 25 (v++34::r2))=_
      rw[Jeb 25 _ v r2 hp,Option.map_some,e1]
      ·simp
      ·rfl
    ·rename_i hq;rw[if_neg hq];split at h
     ·cases h
     ·rename_i hne;injection h with h;injection h with e1 e2
      have key:Qat (c::(w++r2))=c::w:=by
       rcases Jec (c::(w++r1)) with⟨hm,e⟩|⟨hm,c',r',hcr,hcs,e⟩|e
       ·have h2:=JeT hm;rw[e2]at h2;rw[<- cons_append,List.take_append_of_le_length (by omega),List.take_of_length_le (by omega)]at e;rw[<- cons_append]at e2 hm;unfold Qat;rw[<- cons_append,List.take_append_of_le_length (by omega),List.take_of_length_le (by omega),<- e,if_pos hm]
       ·injection hcr with hc1 hc2;subst hc1;rw[e]at e2
        have hw0:w=[]:=by
         cases w with
         |nil=>rfl
         |cons a b=>simp at e2
        subst hw0;simp only[List.nil_append]at hm |-
        have hm2:(c::r2).take 2∉Qco:=by
         rw[QjC]at hm |-
         rcases hs with h|rfl|⟨d,r,rfl,hd⟩
         ·rw[<- h];exact hm
         ·simp[Qco]
         ·have:=(QeC hd).2.1;simp[Qco,this]
        unfold Qat;rw[if_neg hm2];simp[hcs]
       ·exact absurd e hne
      have e3:Qat (c::(w++r1))=c::w:=by
       have h3:=(Jaj (c::(w++r1))).2.2;rw[e2,<- cons_append,take_left']at h3
       ·exact h3.symm
       ·rfl
      rw[key,if_neg (by simp),<- e1,e3]
def Qkz(l:List UInt8):Prop:=∀ c∈l,Qcp c=true
theorem QhB(l:List UInt8)(n:Nat):l=l.take n++l.drop n:=(List.take_append_drop n l).symm
def QcY:List (List UInt8)->List UInt8
 |[]=>[]
 |[a]=>a
 |a::b::r=>a++32::QcY (b::r)
def wrO(t:Tok):Option (List UInt8):=
 if t.kind=4 then none else if t.kind=0\/t.kind=3 then some t.text else if t.kind=1 then some (itoa t.n) else if t.kind=2 then some (34::(t.text++[34])) else some []
def Qcw(l:List Tok):List UInt8:=QcY (l.filterMap wrO)
theorem Qjz{t:Tok}(h:0<=t.kind)(h3:t.kind<=3):wrO t=some (wr t):=by
 unfold wrO wr;rw[if_neg (by omega)]
 by_cases h1:t.kind=1
 ·rw[if_neg (by omega),if_pos h1,if_pos h1]
 ·rw[if_neg h1,if_neg h1]
  by_cases h2:t.kind=2
  ·rw[if_neg (by omega),if_pos h2,if_pos h2]
  ·rw[if_pos (by omega),if_neg h2]
theorem QgA(k:Nat){c:UInt8}{r:List UInt8}{t:Tok}{n:Nat}(hs:Qcp c=false)(ht:QaU (c::r)=some (t,n))(r2:List UInt8)(hst:Stop ((c::r).drop n) r2) :
  sc k (wr t++r2)=(sc (k+n) r2).push { t with off:=k }:=by
 have hw:=JaP ht;have hsp:=QhB (c::r) n;rw[<- hw.1]at hsp
 have h2:QaU (wr t++r2)=some (t,(wr t).length):=by
  refine Qhz (r1:=(c::r).drop n) ?_ hst;rw[<- hsp,ht,hw.2.2.2]
 cases hwt:wr t with
 |nil=>rw[hwt]at hw;simp at hw;omega
 |cons d w=>
  rw[hwt]at h2 hsp;have hd:d=c:=by rw[cons_append]at hsp;injection hsp with h _;exact h.symm
  rw[cons_append]at h2 |-;have h3:=Jak k (w++r2) (c:=d) (by rw[hd];exact hs) h2;rw[h3,<- cons_append,List.drop_left' rfl];rw[<- hw.2.2.2,hwt]
def TkB(t:Tok):Prop:=(0<=t.n/\t.n<=1125899906842624)/\(t.kind=2->QcN t.text=true)
theorem QeB:∀ (f:Nat) (l w:List UInt8),Qax f l=some w->w.all (fun c=>decide (32<=c.toNat)&&decide (c.toNat<=126)&&c !=34&&c !=92)=true
 |0,l,w,h=>by cases h
 |f+1,[],w,h=>by cases h
 |f+1,c::r,w,h=>by
  rw[Qax]at h;split at h
  ·injection h with h;subst h;rfl
  ·rename_i hc;split at h
   ·cases h
   ·rename_i hd
    cases hr:Qax f r with
    |none=>rw[hr]at h;cases h
    |some v=>
     rw[hr]at h;injection h with h;subst h;have ih:=QeB f r v hr;simp only[not_or]at hd;rw[List.all_cons,ih];simp[hc,hd.2.2];omega
theorem Qhy{l:List UInt8}{t:Tok}{n:Nat}(h:QaU l=some (t,n)):TkB t:=by
 have hf:=JaQ h;refine⟨⟨hf.2.2.2.1,hf.2.2.2.2.1⟩,fun hk=>?_⟩
 cases l with
 |nil=>cases h
 |cons c r=>
  simp only[QaU]at h;split at h
  ·split at h
   ·injection h with h;injection h with h1 h2;subst h1;simp at hk
   ·cases h
  ·split at h
   ·cases hp:QaE (Qao (c::r)) 0 1125899906842624 with
    |none=>rw[hp]at h;cases h
    |some m=>
     rw[hp]at h;injection h with h;injection h with h1 h2;subst h1;simp at hk
   ·split at h
    ·cases hp:Qax 25 r with
     |none=>rw[hp]at h;cases h
     |some w=>
      rw[hp]at h;injection h with h;injection h with h1 h2;subst h1;have h3:=QeB _ _ _ hp;have h4:=(V7 _ _ _ hp).1;unfold QcN;rw[h3];simp;omega
    ·split at h
     ·cases h
     ·injection h with h;injection h with h1 h2;subst h1;simp at hk
mutual
theorem Qgs:∀ (a:Nd),siz (utN (Qab a))=siz a
 |.mk k n s o l=>by rw[Qab,utN,JG,JG,Qgt l]
theorem Qgt:∀ (l:List Nd),Qbq (utL (QaJ l))=Qbq l
 |[]=>by rw[QaJ,utL]
 |a::l=>by rw[QaJ,utL,Ju,Ju,Qgs a,Qgt l]
end
mutual
theorem Qix:∀ (a:Nd),WfN a->NmN (Qab a)
 |.mk k n s o l,h=>by
  rw[Vi]at h;rw[Qab];unfold NmN;exact⟨by omega,Qic l h.2.2.2.2⟩
theorem Qic:∀ (l:List Nd),WfL l->NmL (QaJ l)
 |[],h=>by rw[QaJ];unfold NmL;trivial
 |a::l,h=>by
  rw[J2]at h;rw[QaJ];unfold NmL;exact⟨Qix a h.1,Qic l h.2⟩
end
theorem QgR:RSz Qag:=⟨by decide,by decide,by simp[Qag],by simp[Qag]⟩
def QkF(r0:List Tok):Prop:=∃ us e,r0=us++[e]/\(∀ t∈us,t.kind≠4)/\e.kind=4
def Lf(r0 r:List Tok):Prop:=r <:+ r0/\r≠[]
def QcQ(r0:List Tok)(o:Int):Prop:=∃ t∈r0,t.off=o
theorem Lf.off{r0 r:List Tok}(h:Lf r0 r):QcQ r0 (hd r).off:=by
 obtain⟨h1,h2⟩:=h
 cases r with
 |nil=>exact absurd rfl h2
 |cons t r=>exact⟨t,h1.mem (by simp),rfl⟩
theorem Lf.tail{r0 r:List Tok}(he:QkF r0)(h:Lf r0 r)(hk:(hd r).kind≠4):Lf r0 r.tail:=by
 obtain⟨h1,h2⟩:=h;obtain⟨us,e,rfl,hu,h4⟩:=he
 cases r with
 |nil=>exact absurd rfl h2
 |cons t r=>
  refine⟨(List.suffix_cons t r).trans h1,?_⟩;intro hn;simp only[List.tail_cons]at hn;subst hn
  have h3:t=e:=by
   obtain⟨p,hp⟩:=h1;have:=congrArg List.getLast? hp;simpa using this
  subst h3;exact hk h4
def PI{α:Type}(r0:List Tok)(P:α->Prop):PR α->Prop
 |.out=>True
 |.bad o=>QcQ r0 o
 |.ok a r=>Lf r0 r/\P a
theorem PI.bind{α β:Type}{r0:List Tok}{P:α->Prop}{Q:β->Prop}{x:PR α}{f:α->List Tok->PR β}(h:PI r0 P x)(hf:∀ a r,Lf r0 r->P a->PI r0 Q (f a r)):PI r0 Q (x.bind f):=by
 cases x with
 |out=>trivial
 |bad o=>exact h
 |ok a r=>exact hf a r h.1 h.2
section
variable {r0:List Tok} (he:QkF r0)
include he
theorem Qbe{k:Int}{s:List UInt8}{r r':List Tok}(hk:k≠4)(h:Lf r0 r)(e:acc k s r=some r'):Lf r0 r':=by
 unfold acc at e;split at e
 ·next g=>injection e with e;subst e;exact h.tail he (by rw[g.1];exact hk)
 ·cases e
theorem QaH{k:Int}{s:List UInt8}{r:List Tok}(hk:k≠4)(h:Lf r0 r):PI r0 (fun _=>True) (Qaf k s r):=by
 unfold Qaf
 cases e:acc k s r with
 |some r1=>exact⟨Qbe he hk h e,trivial⟩
 |none=>exact h.off
theorem Qda{r:List Tok}(h:Lf r0 r):PI r0 (fun p=>QcQ r0 p.2) (Qau r):=by
 unfold Qau;split
 ·next g=>exact⟨h.tail he (by omega),h.off⟩
 ·exact h.off
theorem Qfy{r:List Tok}(h:Lf r0 r):PI r0 (fun _=>True) (Qbp r):=by
 unfold Qbp;split
 ·next g=>exact⟨h.tail he (by omega),trivial⟩
 ·exact h.off
theorem Qeg{r:List Tok}(h:Lf r0 r):PI r0 (fun _=>True) (Qav r):=
 (QaH he (by decide) h).bind fun _ _ h _=>(Qfy he h).bind fun _ _ h _=>(QaH he (by decide) h).bind fun _ _ h _=>⟨h,trivial⟩
omit he
mutual
def NI(r0:List Tok):Nd->Prop
 |.mk _ _ _ o l=>QcQ r0 o/\NIL r0 l
def NIL(r0:List Tok):List Nd->Prop
 |[]=>True
 |a::l=>NI r0 a/\NIL r0 l
end
theorem QeW{k n:Int}{s:List UInt8}{o:Int}{l:List Nd}:NI r0 (.mk k n s o l)↔QcQ r0 o/\NIL r0 l:=by rw[NI]
theorem Qds:NIL r0 []:=by rw[NIL];trivial
theorem Qby{a:Nd}{l:List Nd}:NIL r0 (a::l)↔NI r0 a/\NIL r0 l:=by rw[NIL]
theorem Qho{l:List Nd}{a:Nd}(h:NIL r0 l)(ha:NI r0 a):NIL r0 (l++[a]):=by
 induction l with
 |nil=>exact Qby.2 ⟨ha,Qds⟩
 |cons b l ih=>exact Qby.2 ⟨(Qby.1 h).1,ih (Qby.1 h).2⟩
theorem ni0{k n:Int}{s:List UInt8}{o:Int}(h:QcQ r0 o):NI r0 (.mk k n s o []):=QeW.2 ⟨h,Qds⟩
theorem ni1{k n:Int}{s:List UInt8}{o:Int}{a:Nd}(h:QcQ r0 o)(ha:NI r0 a):NI r0 (.mk k n s o [a]):=QeW.2 ⟨h,Qby.2 ⟨ha,Qds⟩⟩
theorem ni2{k n:Int}{s:List UInt8}{o:Int}{a b:Nd}(h:QcQ r0 o)(ha:NI r0 a)(hb:NI r0 b):NI r0 (.mk k n s o [a,b]):=QeW.2 ⟨h,Qby.2 ⟨ha,Qby.2 ⟨hb,Qds⟩⟩⟩
theorem ni3{k n:Int}{s:List UInt8}{o:Int}{a b c:Nd}(h:QcQ r0 o)(ha:NI r0 a)(hb:NI r0 b)(hc:NI r0 c):NI r0 (.mk k n s o [a,b,c]):=QeW.2 ⟨h,Qby.2 ⟨ha,Qby.2 ⟨hb,Qby.2 ⟨hc,Qds⟩⟩⟩⟩
theorem NI.o{a:Nd}(h:NI r0 a):QcQ r0 a.off:=by cases a;exact(QeW.1 h).1
theorem Qjf{t:Tok}{k:Int}{a b:Nd}(ha:NI r0 a)(hb:NI r0 b):NI r0 (Qdn t k a b):=by
 unfold Qdn;split
 ·exact ni2 ha.o hb ha
 split
 ·exact ni1 ha.o (ni2 ha.o ha hb)
 ·exact ni2 ha.o ha hb
def MdI(r0:List Tok):Md->Prop
 |.loop _ o a=>QcQ r0 o/\NI r0 a
 |.args _ o l=>QcQ r0 o/\NIL r0 l
 |_=>True
theorem QjN{lv:Nat}{t:Tok}{k:Int}(h:opK lv t=some k):t.kind≠4:=by
 intro e;unfold opK at h;simp[e]at h
theorem Qjh{t:Tok}{k:Int}(h:QcS t=some k):t.kind≠4:=by
 intro e;unfold QcS at h;simp[e]at h
include he
theorem QiK:∀ (f:Nat) (md:Md) (r:List Tok),Lf r0 r->MdI r0 md->PI r0 (NI r0) (pM f md r)
 |0,md,r,h,hm=>by rw[pM];trivial
 |f+1,md,r,h,hm=>by
  have ih:=QiK f;have iE:∀ r,Lf r0 r->PI r0 (NI r0) (pM f .expr r):=fun r h=>ih .expr r h trivial
  have iV:∀ lv r,Lf r0 r->PI r0 (NI r0) (pM f (.level lv) r):=fun lv r h=>ih (.level lv) r h trivial
  have ho:=h.off
  cases md with
  |expr=>
   rw[pM]
   cases e1:acc 0 QeN r with
   |some r1=>
    exact(Qda he (Qbe he (by decide) h e1)).bind fun nm r2 h _=>(QaH he (by decide) h).bind fun _ r3 h _=>(iE r3 h).bind fun v r4 h hv=>(QaH he (by decide) h).bind fun _ r5 h _=>(iE r5 h).bind fun b r6 h hb=>⟨h,ni2 ho hv hb⟩
   |none=>
    simp only
    cases e2:acc 0 kIf r with
    |some r1=>exact(iE r1 (Qbe he (by decide) h e2)).bind fun v r2 h hv=>(QaH he (by decide) h).bind fun _ r3 h _=>(iE r3 h).bind fun y r4 h hy=>(QaH he (by decide) h).bind fun _ r5 h _=>(iE r5 h).bind fun b r6 h hb=>⟨h,ni3 ho hv hy hb⟩
    |none=>exact iV 1 r h
  |level lv=>
   rw[pM]
   by_cases h3:lv=3
   ·rw[if_pos h3]
    cases e1:acc 0 Qfn r with
    |some r1=>exact(iV 3 r1 (Qbe he (by decide) h e1)).bind fun a r2 h ha=>⟨h,ni1 ho ha⟩
    |none=>exact ih .cmp r h trivial
   rw[if_neg h3]
   by_cases h7:lv=7
   ·rw[if_pos h7]
    cases e1:acc 3 [45] r with
    |some r1=>exact(iV 7 r1 (Qbe he (by decide) h e1)).bind fun a r2 h ha=>⟨h,ni1 ho ha⟩
    |none=>exact ih .prim r h trivial
   rw[if_neg h7];exact(iV (lv+1) r h).bind fun a r1 h ha=>ih (.loop lv _ a) r1 h ⟨ho,ha⟩
  |loop lv o a=>
   rw[pM]
   cases e1:opK lv (hd r) with
   |none=>exact⟨h,hm.2⟩
   |some k=>exact(iV (lv+1) r.tail (h.tail he (QjN e1))).bind fun b r1 h hb=>ih (.loop lv o _) r1 h ⟨hm.1,ni2 hm.1 hm.2 hb⟩
  |cmp=>
   rw[pM];refine(iV 5 r h).bind fun a r1 h ha=>?_
   cases e1:QcS (hd r1) with
   |none=>exact⟨h,ha⟩
   |some k=>exact(iV 5 r1.tail (h.tail he (Qjh e1))).bind fun b r2 h hb=>⟨h,Qjf ha hb⟩
  |prim=>
   rw[pM]
   by_cases h1:(hd r).kind=1
   ·rw[if_pos h1];exact⟨h.tail he (by omega),ni0 ho⟩
   rw[if_neg h1]
   cases e1:acc 3 [40] r with
   |some r1=>
    refine(iE r1 (Qbe he (by decide) h e1)).bind fun n r2 h hn=>(QaH he (by decide) h).bind fun _ r3 h _=>⟨h,?_⟩
    cases n
    exact QeW.2 ⟨ho,(QeW.1 hn).2⟩
   |none=>
    simp only
    cases e2:acc 0 QbA r with
    |some r1=>exact⟨Qbe he (by decide) h e2,ni0 ho⟩
    |none=>
     simp only
     cases e3:acc 0 Qcf r with
     |some r1=>exact⟨Qbe he (by decide) h e3,ni0 ho⟩
     |none=>
      simp only
      cases e4:acc 0 QbW r with
      |some r1=>exact(Qeg he (Qbe he (by decide) h e4)).bind fun s r2 h _=>⟨h,ni0 ho⟩
      |none=>
       simp only
       cases e5:acc 0 QcX r with
       |some r1=>exact(Qeg he (Qbe he (by decide) h e5)).bind fun s r2 h _=>⟨h,ni0 ho⟩
       |none=>
        simp only
        by_cases h2:(QaD (hd r).text).isSome/\(hd r).kind=0
        ·rw[if_pos h2];exact⟨h.tail he (by omega),ni0 ho⟩
        ·rw[if_neg h2];exact ih .named r h trivial
  |named=>
   rw[pM];refine(Qda he h).bind fun nm r1 h hn=>?_
   cases e1:acc 3 [40] r1 with
   |none=>exact⟨h,ni0 hn⟩
   |some r2=>
    have h2:=Qbe he (by decide) h e1;simp only
    cases e2:acc 3 [41] r2 with
    |some r3=>exact⟨Qbe he (by decide) h2 e2,ni0 hn⟩
    |none=>exact ih (.args nm.1 nm.2 []) r2 h2 ⟨hn,Qds⟩
  |args nm o l=>
   rw[pM];refine(iE r h).bind fun a r1 h ha=>?_
   cases e1:acc 3 [44] r1 with
   |some r2=>exact ih (.args nm o (l++[a])) r2 (Qbe he (by decide) h e1) ⟨hm.1,Qho hm.2 ha⟩
   |none=>exact(QaH he (by decide) h).bind fun _ r2 h _=>⟨h,QeW.2 ⟨hm.1,Qho hm.2 ha⟩⟩
theorem Qgu{r:List Tok}(h:Lf r0 r):PI r0 (fun _=>True) (QcB r):=by
 unfold QcB
 cases e1:acc 0 Qgg r with
 |some r1=>exact⟨Qbe he (by decide) h e1,trivial⟩
 |none=>
  simp only
  cases e2:acc 0 Qdk r with
  |some r1=>exact⟨Qbe he (by decide) h e2,trivial⟩
  |none=>exact h.off
theorem Qhn{r:List Tok}(h:Lf r0 r):PI r0 (fun _=>True) (Qcj r):=by
 unfold Qcj
 cases e1:acc 0 Qcx r with
 |some r1=>exact⟨Qbe he (by decide) h e1,trivial⟩
 |none=>
  simp only
  cases e1:acc 0 QbV r with
  |some r1=>exact⟨Qbe he (by decide) h e1,trivial⟩
  |none=>
   simp only
   cases e1:acc 0 Qcg r with
   |some r1=>exact⟨Qbe he (by decide) h e1,trivial⟩
   |none=>
    simp only
    cases e1:acc 0 Qdj r with
    |some r1=>exact⟨Qbe he (by decide) h e1,trivial⟩
    |none=>exact h.off
omit he
def Qjo(r0:List Tok)(l:List (List UInt8 × Int)):Prop:=∀ p∈l,QcQ r0 p.2
theorem Qjo.app{l:List (List UInt8 × Int)}{p:List UInt8 × Int}(h:Qjo r0 l)(hp:QcQ r0 p.2):Qjo r0 (l++[p]):=fun q hq=>by
 rcases List.mem_append.1 hq with g|g
 ·exact h q g
 ·rw[List.mem_singleton.1 g];exact hp
structure QlL(r0:List Tok)(x:FnS):Prop where
 nm:QcQ r0 x.name.2
 ps:Qjo r0 x.params
 bd:NI r0 x.body
include he
theorem Qeh:∀ (f:Nat) (ps:List (List UInt8 × Int)) (ts:List Int) (r:List Tok),Lf r0 r->Qjo r0 ps->PI r0 (fun p=>Qjo r0 p.1) (Qak f ps ts r)
 |0,ps,ts,r,h,hp=>by rw[Qak];trivial
 |f+1,ps,ts,r,h,hp=>by
  rw[Qak];refine(Qda he h).bind fun nm r1 h hn=>(QaH he (by decide) h).bind fun _ r2 h _=>(Qgu he h).bind fun t r3 h _=>?_
  cases e1:acc 3 [44] r3 with
  |some r4=>exact Qeh f _ _ r4 (Qbe he (by decide) h e1) (hp.app hn)
  |none=>exact(QaH he (by decide) h).bind fun _ r4 h _=>⟨h,hp.app hn⟩
theorem QiY{f:Nat}{r:List Tok}(h:Lf r0 r):PI r0 (QlL r0) (Qdb f r):=by
 unfold Qdb;refine(Qda he h).bind fun nm r1 h hn=>(QaH he (by decide) h).bind fun _ r2 h _=>?_
 have hq:PI r0 (fun p=>Qjo r0 p.1) (match acc 3 [41] r2 with
   |some r3=>PR.ok (([],[]):List (List UInt8 × Int) × List Int) r3
   |none=>Qak f [] [] r2):=by
  cases e1:acc 3 [41] r2 with
  |some r3=>exact⟨Qbe he (by decide) h e1,fun p hp=>by simp at hp⟩
  |none=>exact Qeh he f _ _ r2 h (fun p hp=>by simp at hp)
 exact hq.bind fun pt r3 h hp=>(QaH he (by decide) h).bind fun _ r4 h _=>(Qgu he h).bind fun t r5 h _=>(QaH he (by decide) h).bind fun _ r6 h _=>(QiK he f .expr r6 h trivial).bind fun b r7 h hb=>⟨h,⟨hn,hp,hb⟩⟩
theorem QfJ(g:Nat):∀ (f:Nat) (l:List FnS) (r:List Tok),Lf r0 r->(∀ x∈l,QlL r0 x)->PI r0 (fun l=>∀ x∈l,QlL r0 x) (Qbc g f l r)
 |0,l,r,h,hl=>by rw[Qbc];trivial
 |f+1,l,r,h,hl=>by
  rw[Qbc]
  cases e1:acc 0 QdX r with
  |some r1=>
   refine(QiY he (Qbe he (by decide) h e1)).bind fun x r2 h hx=>QfJ g f _ r2 h fun y hy=>?_
   rcases List.mem_append.1 hy with q|q
   ·exact hl y q
   ·rw[List.mem_singleton.1 q];exact hx
  |none=>exact⟨h,hl⟩
theorem QdU(g:Nat):∀ (f:Nat) (l:List ClS) (r:List Tok),Lf r0 r->(∀ x∈l,NI r0 x.cond)->PI r0 (fun l=>∀ x∈l,NI r0 x.cond) (Qad g f l r)
 |0,l,r,h,hl=>by rw[Qad];trivial
 |f+1,l,r,h,hl=>by
  rw[Qad]
  cases e1:acc 0 QaR r with
  |some r1=>
   refine(QiK he g .expr r1 (Qbe he (by decide) h e1) trivial).bind fun c r2 h hc=>(QaH he (by decide) h).bind fun _ r3 h _=>(Qhn he h).bind fun a r4 h _=>(Qfy he h).bind fun s r5 h _=>QdU g f _ r5 h fun y hy=>?_
   rcases List.mem_append.1 hy with q|q
   ·exact hl y q
   ·rw[List.mem_singleton.1 q];exact hc
  |none=>exact⟨h,hl⟩
end
theorem QiC{l:List UInt8}{k:Nat}{ts:List Tok}(h:sc k l=.ok ts):QkF ts:=by
 obtain⟨us,rfl,hu,_⟩:=Jjy l k ts h;exact⟨us,_,rfl,fun t ht=>by have:=(hu t ht).2.1;omega,rfl⟩
theorem Qfa(l:List UInt8):(∃ ts,sc 0 l=.ok ts/\QaA l=(ts,0,0)/\l.length<=4096)\/((QaA l).2.1≠0/\(QaA l).1=[]):=by
 unfold QaA
 by_cases h:4096<l.length
 ·rw[if_pos h];exact .inr ⟨by decide,rfl⟩
 ·rw[if_neg h]
  cases sc 0 l with
  |ok ts=>exact .inl ⟨ts,rfl,rfl,by omega⟩
  |err k=>exact .inr ⟨show (2:Int)≠0 by decide,rfl⟩
theorem Qfl{l:List UInt8}(h:(QaA l).2.1≠0):Qbr l=(Qag,(QaA l).2.1,(QaA l).2.2):=by
 unfold Qbr;rw[if_neg h]
theorem Qcd{l:List UInt8}{ts:List Tok}(h:QaA l=(ts,0,0)):Qbr l=(QaW (12*(ts.length+1)) ts).getD (Qag,0,0):=by
 unfold Qbr;rw[h];rfl
theorem QdN{f:Nat}{l:List Tok}(hf:12*l.length+12<=f):∃ p,QaW f l=some p:=by
 cases h:QcO f l with
 |out=>exact absurd h (Jfd hf)
 |bad o=>exact⟨_,by unfold QaW;rw[h]⟩
 |ok s r=>exact⟨_,JeF h⟩
end Go.Proofs.YtdlkcjkjnehnkaaGreatDoor
namespace Go.Proofs
open Go.Shelf
def Tryz.lays156_ren:Go.Shelf.Ren:=⟨fun|156=>48|165=>80|166=>57|169=>33|240=>86|241=>99|276=>108|277=>117|n=>n,fun|31=>47|9=>9|3=>3|4=>4|0=>0|20=>20|72=>64|76=>107|70=>61|37=>62|75=>106|127=>111|164=>164|5=>5|80=>70|n=>n,fun|n=>n⟩
theorem Tryz.lays156:Go.Proofs.Lays.n156 Tryz.prog Tryz.lays156_ren:={
 mixed:=by kernel_rfl
 f156:=Tryz.func48.trans (congrArg some (by kernel_rfl))
 f165:=Tryz.func80.trans (congrArg some (by kernel_rfl))
 f166:=Tryz.func57.trans (congrArg some (by kernel_rfl))
 f169:=Tryz.func33.trans (congrArg some (by kernel_rfl))
 f240:=Tryz.func86.trans (congrArg some (by kernel_rfl))
 f241:=Tryz.func99.trans (congrArg some (by kernel_rfl))
 f276:=Tryz.func108.trans (congrArg some (by kernel_rfl))
 f277:=Tryz.func117.trans (congrArg some (by kernel_rfl))
 t0:=Tryz.underlying0
 a0:=Tryz.isAgg0
 z0:=Tryz.sizeOf0
 v0:=Tryz.zeroValue0
 t3:=Tryz.underlying3
 a3:=Tryz.isAgg3
 z3:=Tryz.sizeOf3
 v3:=Tryz.zeroValue3
 t4:=Tryz.underlying4
 a4:=Tryz.isAgg4
 z4:=Tryz.sizeOf4
 v4:=Tryz.zeroValue4
 t9:=Tryz.underlying9
 a9:=Tryz.isAgg9
 z9:=Tryz.sizeOf9
 v9:=Tryz.zeroValue9
 t20:=Tryz.underlying20
 a20:=Tryz.isAgg20
 z20:=Tryz.sizeOf20
 v20:=Tryz.zeroValue20
 t31:=Tryz.underlying47
 a31:=Tryz.isAgg47
 z31:=Tryz.sizeOf47
 v31:=Tryz.zeroValue47
 t37:=Tryz.underlying62
 a37:=Tryz.isAgg62
 z37:=Tryz.sizeOf62
 v37:=Tryz.zeroValue62
 t70:=Tryz.underlying61
 a70:=Tryz.isAgg61
 z70:=Tryz.sizeOf61
 v70:=Tryz.zeroValue61
 t72:=Tryz.underlying64
 a72:=Tryz.isAgg64
 z72:=Tryz.sizeOf64
 v72:=Tryz.zeroValue64
 t75:=Tryz.underlying106
 a75:=Tryz.isAgg106
 z75:=Tryz.sizeOf106
 v75:=Tryz.zeroValue106
 t76:=Tryz.underlying107
 a76:=Tryz.isAgg107
 z76:=Tryz.sizeOf107
 v76:=Tryz.zeroValue107
 t127:=Tryz.underlying111
 a127:=Tryz.isAgg111
 z127:=Tryz.sizeOf111
 v127:=Tryz.zeroValue111
 t164:=Tryz.underlying164
 a164:=Tryz.isAgg164
 z164:=Tryz.sizeOf164
 v164:=Tryz.zeroValue164 }
theorem Tryz.Builder_Extra_156:Builder.Extra Tryz.prog Tryz.lays156_ren:={
 sizeBuilder:=by kernel_rfl
 liesBuilder:=by kernel_rfl
 t5:=Tryz.underlying5
 a5:=Tryz.isAgg5
 z5:=Tryz.sizeOf5
 v5:=Tryz.zeroValue5
 infoByte:=by kernel_rfl
 cellsByte:=by kernel_rfl
 sizeByte:=by kernel_rfl
 neB5:=by decide }
open Go.RowKit in
theorem Tryz.strings_Join_none(a:Option Addr)(c:Nat)(sep:ByteArray)(w:World) :
  Calls Tryz.prog 48 #[.slice a 0 c,.string sep] w fun e w'=>e=.returned (.string ⟨#[]⟩)/\w'=w:=Any.strings_Join_none Tryz.lays156 Tryz.Builder_Extra_156 a c sep w
open Go.RowKit in
theorem Tryz.strings_Join(bk o c:Nat)(xs:List ByteArray)(sep:ByteArray)(w:World)(hcells:∀ (j:Nat) x,xs[j]?=some x->w.cell? ⟨bk,o+j,none⟩=some (.string x))(hbk:bk<w.heap.size)(hN:xs.length<=140737488355328)(hcap:xs.length<=c)(hlen:(Lib.join (xs.map (·.data.toList)) sep.data.toList).length<=140737488355328) :
  Calls Tryz.prog 48 #[.slice (some ⟨bk,o,none⟩) xs.length c,.string sep] w fun e w'=>e=.returned (.string ⟨(Lib.join (xs.map (·.data.toList)) sep.data.toList).toArray⟩)/\Below w.heap.size w w':=Any.strings_Join Tryz.lays156 Tryz.Builder_Extra_156 bk o c xs sep w hcells hbk hN hcap hlen
end Go.Proofs
namespace Go.Proofs.YtdlkcjkjnehnkaaGreatDoor
open Go Go.Lib
open Go.ChangeShapes Go.WideShapes Go.ChangeAt Go.RowKit Go.Lib
open Go.RowKit
open Go
open _root_.Go.Proofs.Tryz
set_option linter.all false
set_option maxRecDepth 100000
set_option maxHeartbeats 32000000
theorem Qfo(n:Int):itoa n≠[]:=by
 rcases V6 n with⟨_,h⟩|⟨_,h⟩<;>rw[h]
 ·exact V5 _
 ·simp
theorem Qfp{n:Int}(h1:-9223372036854775808<=n)(h2:n<=9223372036854775807):(itoa n).length<=20/\1<=(itoa n).length:=by
 have hp:(10:Nat) ^ 19=10000000000000000000:=by decide
 have:=Qfo n
 have h0:1<=(itoa n).length:=by
  cases h:itoa n with
  |nil=>exact absurd h this
  |cons c r=>simp
 refine⟨?_,h0⟩
 rcases V6 n with⟨_,h⟩|⟨_,h⟩<;>rw[h]
 ·have:=ZJ n.toNat 19 (by omega) (by omega);omega
 ·have:=ZJ n.natAbs 19 (by omega) (by omega);simp;omega
theorem QbP(a b:List UInt8):bs a++bs b=bs (a++b):=by
 apply ByteArray.ext;simp[bs]
def Qgq(w:World)(A:Option Addr)(ts:List Tok):Prop:=
 ∀ (i:Nat) (t:Tok),ts[i]?=some t->∃ g o,A=some ⟨g,o,none⟩/\g<w.heap.size/\w.cell? ⟨g,o+i*4,none⟩=some (.int .i64 t.kind)/\w.cell? ⟨g,o+i*4+1,none⟩=some (.string (bs t.text))/\w.cell? ⟨g,o+i*4+2,none⟩=some (.int .i64 t.n)/\w.cell? ⟨g,o+i*4+3,none⟩=some (.int .i64 t.off)
theorem Qgq.below{w w':World}{A:Option Addr}{ts:List Tok}(h:Qgq w A ts)(hb:Below w.heap.size w w'):Qgq w' A ts:=by
 intro i t hi;obtain⟨g,o,rfl,hg,h0,h1,h2,h3⟩:=h i t hi;exact⟨g,o,rfl,Nat.lt_of_lt_of_le hg hb.size,by rw[hb.cell (p:=⟨g,_,none⟩) hg,h0],by rw[hb.cell (p:=⟨g,_,none⟩) hg,h1],by rw[hb.cell (p:=⟨g,_,none⟩) hg,h2],by rw[hb.cell (p:=⟨g,_,none⟩) hg,h3]⟩
theorem QeZ:∀ (ts:List Tok) (i:Nat) (t:Tok),ts[i]?=some t->(Qan ts)[i*4]?=some (.int .i64 t.kind)/\(Qan ts)[i*4+1]?=some (.string (bs t.text))/\(Qan ts)[i*4+2]?=some (.int .i64 t.n)/\(Qan ts)[i*4+3]?=some (.int .i64 t.off):=by
 intro ts
 induction ts with
 |nil=>intro i t h;simp at h
 |cons u ts ih=>
  intro i t h
  cases i with
  |zero=>
   simp at h;subst h;simp[Qan]
  |succ i=>
   have:=ih i t (by simpa using h);rw[show (i+1)*4=i*4+4 by omega];simpa[Qan,Nat.add_right_comm] using this
theorem Qgq.of_own{w:World}{base e:Nat}{a:Option Addr}{c:Nat}{ts:List Tok}(h:w.ownsRow base e 4 (.slice a ts.length c) ts.length (Qan ts)):Qgq w a ts:=by
 intro i t hi;have hlt:i<ts.length:=(List.getElem?_eq_some_iff.1 hi).1
 rcases h.2 with⟨_,h0⟩|⟨g,cap,cur,hv,hg,hh,_⟩
 ·omega
 ·have ha:a=some ⟨g,0,none⟩:=by injection hv
  have hc:∀ j u,(Qan ts)[j]?=some u->w.cell? ⟨g,j,none⟩=some u:=by
   intro j u hu;have:=World.ownsRow.cells h (g:=g) (by rw[ha];rfl) j u hu;have hadd:(⟨g,0,none⟩:Addr).add j=⟨g,j,none⟩:=by unfold Addr.add;split<;>simp_all
   rwa [hadd]at this
  obtain⟨h0,h1,h2,h3⟩:=QeZ ts i t hi;refine⟨g,0,ha,(Array.getElem?_eq_some_iff.1 hh).1,?_,?_,?_,?_⟩
  ·rw[zero_add];exact hc _ _ h0
  ·rw[zero_add];exact hc _ _ h1
  ·rw[zero_add];exact hc _ _ h2
  ·rw[zero_add];exact hc _ _ h3
theorem Qgz{R:List Tok × Int × Int}{w w':World}{e:Ending}(h:Qcu R w e w'):∃ a c,e=.returned (.tuple #[.slice a R.1.length c,.int .i64 R.2.1,.int .i64 R.2.2])/\Qgq w' a R.1/\Below w.heap.size w w':=by
 obtain⟨v,rfl,ho,hb⟩:=h;obtain⟨a,c,rfl⟩:=Jan ho;exact⟨a,c,rfl,Qgq.of_own ho,hb⟩
def QkK(l:List UInt8):Value:=.string (bs l)
theorem Qei(a:List UInt8)(r:List (List UInt8)):QcY (a::r)=a++(r.map ([32]++·)).flatten:=by
 induction r generalizing a with
 |nil=>simp[QcY]
 |cons b r ih=>rw[QcY,ih b];simp
theorem Qgh(a:List UInt8)(r:List (List UInt8)):[32].intercalate (a::r)=a++(r.map (([32]:List UInt8)++·)).flatten:=by
 induction r generalizing a with
 |nil=>simp[List.intercalate]
 |cons b r ih=>
  have h:=ih b;simp only[List.intercalate,List.intersperse]at h |-;simp[h]
theorem QiR(l:List (List UInt8)):Lib.join l [32]=QcY l:=by
 cases l with
 |nil=>rfl
 |cons a r=>rw[Qei,Lib.join,Qgh]
theorem QhO:(Tryz.prog.info? 9).map (fun i=>(i.zero,i.size,i.bytes))=some (some (.string ⟨#[]⟩),1,16):=by kernel_rfl
theorem Qiy{ts:List Tok}{k:Nat}{t:Tok}(h:ts[k]?=some t):(ts.take (k+1)).filterMap wrO=(ts.take k).filterMap wrO++(wrO t).toList:=by
 rw[List.take_add_one,h,List.filterMap_append]
 cases hw:wrO t<;>simp[hw]
structure WrR(w:World)(xs:List (List UInt8))(v:Value)(wr:World):Prop where
 own:wr.ownsRow w.heap.size 9 1 v xs.length (xs.map QkK)
 below:Below w.heap.size w wr
theorem WrR.add{w wr W w':World}{xs:List (List UInt8)}{v v':Value}{x:List UInt8}(h:WrR w xs v wr)(hW:Below w.heap.size w W)(hown:w'.ownsRow w.heap.size 9 1 v' (xs.length+1) (xs.map QkK++[.string (bs x)]))(hg:W.grownBy w' v.ownBlock) :
  WrR w (xs++[x]) v' w':=by
 refine⟨?_,hW.grown hg hW.size (JdE h.own)⟩;rw[List.length_append,List.map_append];exact hown
set_option maxRecDepth 100000 in
set_option maxHeartbeats 4000000 in
theorem Qfm(A:Option Addr)(n c:Nat)(ts:List Tok)(w:World)(hA:Qgq w A ts)(hn:ts.length=n)(hlim:n<=100000)(hw:∀ t∈ts,QcA t.n/\t.text.length<=1000000)(hL:Laid w)
  (hj:∀ v W,WrR w (ts.filterMap wrO) v W->Calls Tryz.prog 48 #[v,.string { data:=#[32] }] W (Qdq W (QcY (ts.filterMap wrO)))) :
  Calls Tryz.prog 18 #[.slice A n c] w (Qdq w (Qcw ts)):=by
 obtain⟨i0,hi,hz0,hz1,hz2⟩:=info_parts QhO;have HW:=Lib.hid hw;have HJ:=Lib.hid hj;have HN:=Lib.hid hn;have HA:=Lib.hid hA;clear hw hj hA;go_enter Tryz.func18,Tryz.ntmps18;go_wp2;go_loopw [3,8] (fun v3 v8 wr=>∃ k:Nat,k<=n/\v8=.int .i64 k/\WrR w ((ts.take k).filterMap wrO) v3 wr) (fun _ v8 _=>n-(intOf v8).toNat)
 case atStart=>exact⟨0,by omega,rfl,⟨World.ownsRow_nil _ _ _ _,Below.refl _ _⟩⟩
 case round=>
  obtain⟨k,hk,rfl,hR⟩:=hrel
  by_cases hlt:k<n
  ·obtain⟨t,ht⟩:∃ t,ts[k]?=some t:=⟨_,List.getElem?_eq_getElem (by omega)⟩
   obtain⟨wt,wl⟩:=HW.out t (List.mem_of_getElem? ht);obtain⟨g,o,rfl,hg,a0,a1,a2,a3⟩:=(HA.out.below hR.below) k t ht;have HT:=Lib.hid (Qiy ht);have hlen:((ts.take k).filterMap wrO).length<=k:=le_trans (List.length_filterMap_le _ _) (by simp;omega);have HR:=Lib.hid hR;obtain⟨va,vc,rfl⟩:=Jan hR.own;have hLr:=hL.below hR.below;clear ht hR hn;obtain⟨tk,tt,tn,tof⟩:=t;have htl:=JF tt;have wl':tt.length<=1000000:=wl;clear wl;generalize hxs:(ts.take k).filterMap wrO=xs at *;clear hxs;have hb1:=HR.out.below.alloc HR.out.below.size (.cells #[.int .i64 tk,.string (bs tt),.int .i64 tn,.int .i64 tof] 46)
   by_cases h4:tk=4
   ·subst h4;have H:Hid (((ts.take (k+1)).filterMap wrO)=xs):=by unfold Hid;rw[HT.out];simp[wrO]
    clear HT;go_wp2;go_roundw
    case rel=>exact⟨k+1,by omega,by go_num,by rw[H.out];exact⟨HR.out.own.alloc _,hb1⟩⟩
    case measure=>simp[intOf];omega
   have b4:((tk:Int)==4)=false:=beq_eq_false_iff_ne.2 h4
   by_cases h0:tk=0
   ·subst h0;have H:Hid (((ts.take (k+1)).filterMap wrO)=xs++[tt]):=by unfold Hid;rw[HT.out];simp[wrO]
    clear HT h4;go_wp2_with (at_builtin;refine wpList_append_own _ rfl _ _ 47 rfl w.heap.size 9 i0 (.string ⟨#[]⟩) 1 16 Tryz.underlying47 hi hz0 hz1 hz2 rfl (by decide) _ _ _ rfl ((HR.out.own.alloc _).alloc _) ⟨wr.heap.size+1,0,none⟩ 1 1 [.string (bs tt)] rfl rfl (fun j u hj=>by rw[ZI];simpa using hj) (fun u hu=>by rw[mem_singleton]at hu;rw[hu];rfl) (by unfold maxLen;omega) (by omega) (by simp;exact le_trans HR.out.below.size (by omega)) ?_);intro v' w' hown' hgrow _;have HX:Hid (WrR w ((ts.take (k+1)).filterMap wrO) v' w'):=by unfold Hid;rw[H.out];exact HR.out.add (hb1.alloc hb1.size _) hown' hgrow
    clear hown' hgrow;go_wp2;go_roundw
    case rel=>exact⟨k+1,by omega,by go_num,HX.out⟩
    case measure=>simp[intOf];omega
   have b0:((tk:Int)==0)=false:=beq_eq_false_iff_ne.2 h0
   by_cases h3:tk=3
   ·subst h3;have H:Hid (((ts.take (k+1)).filterMap wrO)=xs++[tt]):=by unfold Hid;rw[HT.out];simp[wrO]
    clear HT h4 h0;go_wp2_with (at_builtin;refine wpList_append_own _ rfl _ _ 47 rfl w.heap.size 9 i0 (.string ⟨#[]⟩) 1 16 Tryz.underlying47 hi hz0 hz1 hz2 rfl (by decide) _ _ _ rfl ((HR.out.own.alloc _).alloc _) ⟨wr.heap.size+1,0,none⟩ 1 1 [.string (bs tt)] rfl rfl (fun j u hj=>by rw[ZI];simpa using hj) (fun u hu=>by rw[mem_singleton]at hu;rw[hu];rfl) (by unfold maxLen;omega) (by omega) (by simp;exact le_trans HR.out.below.size (by omega)) ?_);intro v' w' hown' hgrow _;have HX:Hid (WrR w ((ts.take (k+1)).filterMap wrO) v' w'):=by unfold Hid;rw[H.out];exact HR.out.add (hb1.alloc hb1.size _) hown' hgrow
    clear hown' hgrow;go_wp2;go_roundw
    case rel=>exact⟨k+1,by omega,by go_num,HX.out⟩
    case measure=>simp[intOf];omega
   have b3:((tk:Int)==3)=false:=beq_eq_false_iff_ne.2 h3
   by_cases h1:tk=1
   ·subst h1;have H:Hid (((ts.take (k+1)).filterMap wrO)=xs++[itoa tn]):=by unfold Hid;rw[HT.out];simp[wrO]
    clear HT h4 h0 h3;have hL1:Laid (wr.alloc (.cells #[.int .i64 1,.string (bs tt),.int .i64 tn,.int .i64 tof] 46)):=hLr.below ((Below.refl _ _).alloc (Nat.le_refl _) _);have cT:=Vm tn _ wt hL1;go_wp2_with fail;refine(Calls.mono cT ?_);rintro e w2 ⟨rfl,hb2⟩;have HO2:=Lib.hid (JfH (HR.out.own.alloc (.cells #[.int .i64 1,.string (bs tt),.int .i64 tn,.int .i64 tof] 46)) hb2);have hb2:=hb1.trans (hb2.mono hb1.size);clear cT hL1;go_wp2_with (at_builtin;refine wpList_append_own _ rfl _ _ 47 rfl w.heap.size 9 i0 (.string ⟨#[]⟩) 1 16 Tryz.underlying47 hi hz0 hz1 hz2 rfl (by decide) _ _ _ rfl (HO2.out.alloc _) ⟨w2.heap.size,0,none⟩ 1 1 [.string (bs (itoa tn))] rfl rfl (fun j u hj=>by rw[KV];simpa using hj) (fun u hu=>by rw[mem_singleton]at hu;rw[hu];rfl) (by unfold maxLen;omega) (by omega) (by simp;exact le_trans hb2.size (by omega)) ?_);intro v' w' hown' hgrow _;have HX:Hid (WrR w ((ts.take (k+1)).filterMap wrO) v' w'):=by unfold Hid;rw[H.out];exact HR.out.add (hb2.alloc hb2.size _) hown' hgrow
    clear hown' hgrow;go_wp2;go_roundw
    case rel=>exact⟨k+1,by omega,by go_num,HX.out⟩
    case measure=>simp[intOf];omega
   have b1:((tk:Int)==1)=false:=beq_eq_false_iff_ne.2 h1
   by_cases h2:tk=2
   ·subst h2;have H:Hid (((ts.take (k+1)).filterMap wrO)=xs++[34::(tt++[34])]):=by unfold Hid;rw[HT.out];simp[wrO]
    have q1:(⟨#[34]⟩:ByteArray)++bs tt=bs (34::tt):=QbP [34] tt;have q2:bs (34::tt)++(⟨#[34]⟩:ByteArray)=bs (34::(tt++[34])):=QbP (34::tt) [34];have q3:=JF (34::tt);rw[List.length_cons]at q3;clear HT h4 h0 h3 h1;go_wp2_with (at_builtin;refine wpList_append_own _ rfl _ _ 47 rfl w.heap.size 9 i0 (.string ⟨#[]⟩) 1 16 Tryz.underlying47 hi hz0 hz1 hz2 rfl (by decide) _ _ _ rfl ((HR.out.own.alloc _).alloc _) ⟨wr.heap.size+1,0,none⟩ 1 1 [.string (bs (34::(tt++[34])))] rfl rfl (fun j u hj=>by rw[ZI];simpa using hj) (fun u hu=>by rw[mem_singleton]at hu;rw[hu];rfl) (by unfold maxLen;omega) (by omega) (by simp;exact le_trans HR.out.below.size (by omega)) ?_);intro v' w' hown' hgrow _;have HX:Hid (WrR w ((ts.take (k+1)).filterMap wrO) v' w'):=by unfold Hid;rw[H.out];exact HR.out.add (hb1.alloc hb1.size _) hown' hgrow
    clear hown' hgrow;go_wp2;go_roundw
    case rel=>exact⟨k+1,by omega,by go_num,HX.out⟩
    case measure=>simp[intOf];omega
   have b2:((tk:Int)==2)=false:=beq_eq_false_iff_ne.2 h2;have H:Hid (((ts.take (k+1)).filterMap wrO)=xs++[[]]):=by unfold Hid;rw[HT.out];simp[wrO,h4,h0,h3,h1,h2]
   clear HT h4 h0 h3 h1 h2;go_wp2_with (at_builtin;refine wpList_append_own _ rfl _ _ 47 rfl w.heap.size 9 i0 (.string ⟨#[]⟩) 1 16 Tryz.underlying47 hi hz0 hz1 hz2 rfl (by decide) _ _ _ rfl ((HR.out.own.alloc _).alloc _) ⟨wr.heap.size+1,0,none⟩ 1 1 [.string ⟨#[]⟩] rfl rfl (fun j u hj=>by rw[ZI];simpa using hj) (fun u hu=>by rw[mem_singleton]at hu;rw[hu];rfl) (by unfold maxLen;omega) (by omega) (by simp;exact le_trans HR.out.below.size (by omega)) ?_);intro v' w' hown' hgrow _;have HX:Hid (WrR w ((ts.take (k+1)).filterMap wrO) v' w'):=by unfold Hid;rw[H.out];exact HR.out.add (hb1.alloc hb1.size _) hown' hgrow
   clear hown' hgrow;go_wp2;go_roundw
   case rel=>exact⟨k+1,by omega,by go_num,HX.out⟩
   case measure=>simp[intOf];omega
  ·have hkn:k=n:=by omega
   subst hkn;have hfin:ts.take k=ts:=List.take_of_length_le (by rw[HN.out];omega);rw[hfin]at hR;have cJ:=HJ.out _ _ hR;have HR:=Lib.hid hR;clear hR hn hfin;go_wp2_with fail;refine(Calls.mono cJ ?_);rintro e w2 ⟨rfl,hb2⟩;have hbx:=HR.out.below.trans (hb2.mono HR.out.below.size);clear hb2;go_wp2_with fail;go_ret;exact⟨rfl,hbx⟩
theorem Qgf(A:Option Addr)(n c:Nat)(ts:List Tok)(w:World)(hA:Qgq w A ts)(hn:ts.length=n)(hlim:n<=100000)(hw:∀ t∈ts,QcA t.n/\t.text.length<=1000000)(hL:Laid w)(hsum:(Qcw ts).length<=140737488355328) :
  Calls Tryz.prog 18 #[.slice A n c] w (Qdq w (Qcw ts)):=by
 refine Qfm A n c ts w hA hn hlim hw hL fun v W hR=>?_
 have hlen:(ts.filterMap wrO).length<=n:=by rw[<- hn];exact List.length_filterMap_le _ _
 cases hxs:ts.filterMap wrO with
 |nil=>
  rw[hxs]at hR;obtain⟨va,vc,rfl⟩:=Jan hR.own;refine(Tryz.strings_Join_none va vc { data:=#[32] } W).mono ?_;rintro e w' ⟨rfl,rfl⟩;exact⟨rfl,Below.refl _ _⟩
 |cons a r=>
  rw[hxs]at hR hlen;have hsum':(QcY (a::r)).length<=140737488355328:=by unfold Qcw at hsum;rw[hxs]at hsum;exact hsum
  rcases hR.own.2 with⟨_,h0⟩|⟨g,cap,cur,rfl,hg,hh,hcap,hmax,hcs,htk⟩
  ·simp at h0
  ·have hcells:∀ (j:Nat) (x:ByteArray),((a::r).map bs)[j]?=some x->W.cell? ⟨g,0+j,none⟩=some (.string x):=by
    intro j x hj;rw[zero_add]
    have hj2:((a::r).map QkK)[j]?=some (.string x):=by
     rw[List.getElem?_map]at hj |-
     cases hq:(a::r)[j]? with
     |none=>rw[hq]at hj;simp at hj
     |some y=>rw[hq]at hj;simp at hj;simp[QkK,hj]
    have:=World.ownsRow.cells hR.own (g:=g) rfl j _ hj2;have hadd:(⟨g,0,none⟩:Addr).add j=⟨g,j,none⟩:=by unfold Addr.add;split<;>simp_all
    rwa [hadd]at this
   have hmap:((a::r).map bs).map (·.data.toList)=a::r:=by
    rw[List.map_map]
    conv=>rhs;rw[<- List.map_id (a::r)]
    apply List.map_congr_left;intro x _;exact Vy x
   have hjn:Lib.join (((a::r).map bs).map (·.data.toList)) [32]=QcY (a::r):=by rw[hmap,QiR]
   have hl2:((a::r).map bs).length=(a::r).length:=List.length_map _
   have c:=Tryz.strings_Join g 0 cap ((a::r).map bs) { data:=#[32] } W hcells (Array.getElem?_eq_some_iff.1 hh).1 (by rw[hl2];omega) (by rw[hl2];exact hcap) (by
    show (Lib.join _ [32]).length<=_
    rw[hjn];exact hsum')
   rw[hl2]at c;refine c.mono ?_;rintro e w' ⟨rfl,hb⟩;refine⟨?_,hb⟩
   show Ending.returned (.string (bs (Lib.join (((a::r).map bs).map (·.data.toList)) [32])))=_
   rw[hjn]
theorem QgV(l:List (List UInt8)):(QcY l).length<=(l.map (fun x=>x.length+1)).sum:=by
 cases l with
 |nil=>simp[QcY]
 |cons a r=>
  rw[Qei];simp only[List.length_append,List.length_flatten,List.map_map,List.map_cons,List.sum_cons]
  have:(List.map (List.length∘fun x=>([32]:List UInt8)++x) r)=r.map (fun x=>x.length+1):=by
   apply List.map_congr_left;intro x _;simp
  rw[this];omega
theorem Qiw{t:Tok}(h1:QcA t.n)(h2:t.text.length<=50):∀ x,wrO t=some x->x.length+1<=60:=by
 intro x hx;have:=(Qfp h1.1 h1.2).1;unfold wrO at hx;split at hx
 ·cases hx
 ·split at hx
  ·injection hx with hx;subst hx;omega
  ·split at hx
   ·injection hx with hx;subst hx;omega
   ·split at hx
    ·injection hx with hx;subst hx;simp;omega
    ·injection hx with hx;subst hx;simp
theorem QfS(ts:List Tok)(h:∀ t∈ts,QcA t.n/\t.text.length<=50):(Qcw ts).length<=ts.length*60:=by
 unfold Qcw;refine le_trans (QgV _) ?_
 induction ts with
 |nil=>simp
 |cons t ts ih=>
  have ih:=ih (fun t h'=>h t (by simp[h']));have ht:=h t (by simp)
  cases hw:wrO t with
  |none=>rw[List.filterMap_cons_none hw];simp only[List.length_cons];omega
  |some x=>
   have:=Qiw ht.1 ht.2 x hw;rw[List.filterMap_cons_some hw];simp only[List.map_cons,List.sum_cons,List.length_cons];omega
end Go.Proofs.YtdlkcjkjnehnkaaGreatDoor
