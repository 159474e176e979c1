import Derived.Test.YtfafpklefknomaaGreatDoorM11
import Derived.Test.YtfafpklefknomaaGreatDoorM08
import Derived.Test.YtfafpklefknomaaGreatDoorM09
import Derived.Test.YtfafpklefknomaaGreatDoorM10
open List(getElem?_cons_succ getElem?_cons_zero getElem?_toArray)
open Nat(le_refl le_trans lt_of_lt_of_le)
namespace Go.Proofs.YtfafpklefknomaaGreatDoor
open Go Go.ChangeShapes Go.WideShapes Go.ChangeAt Go.RowKit Go.Lib
open _root_.Go.Proofs.Tryz
set_option linter.all false
set_option maxRecDepth 100000
set_option maxHeartbeats 32000000
def InR.wf{x:Int}(h:InR x):Qbc x:=by unfold Qbc;unfold InR at h;omega
structure QcY(K:MK)(c:Qaf)(w:World)(p:Nat):Prop where
 r1:QbX w (p-1) K.o1 c.starts
 r2:QbX w (p-1) K.o2 c.params
 r3:QbX w (p-1) K.o3 c.slots
 labs:Qdq w (p-1) K.la K.F.labels
 words:QcB w (p-1) K.wa K.F.words
 nl:K.F.labels.length<=200000000000000
 nw:K.F.words.length<=200000000000000
 starts:∀x∈c.starts,0<=x
 params:∀x∈c.params,0<=x
 slots:∀x∈c.slots,x<=1000000000
 slots0:∀x∈c.slots,0<=x
def QcY.up{K:MK}{c:Qaf}{w W:World}{p:Nat}(h:QcY K c w p)(hb:Below (p-1) w W):QcY K c W p:=
 ⟨h.r1.up hb,h.r2.up hb,h.r3.up hb,h.labs.up hb,h.words.up hb,h.nl,h.nw,h.starts,h.params,h.slots,h.slots0⟩
def QcY.forms{K:MK}{c:Qaf}{w:World}{p:Nat}(h:QcY K c w p):(∃a n c,K.la=.slice a n c)/\∃a n c,K.wa=.slice a n c:=by
 obtain⟨a,c1,h1,_⟩:=h.labs.get;obtain⟨b,c2,h2,_⟩:=h.words.get;exact⟨⟨_,_,_,h1⟩,⟨_,_,_,h2⟩⟩
section
variable (K:MK)(c:Qaf)(w:World)(p:Nat)(s s':StM)(o:OpM)(h:MAt K w p s)(hE:QcY K c w p)(he:Qbg c K.F o s=some s')(hl:s.st.length<=1000000000000)(hin:∀x∈s.st,InR x)(hu:s.used<=10000)(hc:s.calls.length<=100)(hj:isJ o->0<=o.n)(hcl:o.code=19->0<=o.n/\o.n.toNat<c.params.length/\o.n.toNat<c.slots.length/\o.n.toNat<c.starts.length)
include K c w p s s' o h hE he hl hin hu hc hj hcl
theorem JiM(hk:o.code=0):Calls prog 61 #[Pt p,.agg (yu o)] w (Qav K w p s' (.tuple #[])):=by
 unfold Qbg at he;rw[if_pos zo]at he;obtain rfl:=Option.some.inj he;exact JkF K w p s o h hl
theorem JmS(hk:o.code=1):Calls prog 62 #[Pt p,.agg (yu o)] w (Qav K w p s' (.tuple #[])):=by
 unfold Qbg at he;rw[if_neg zo,if_pos zo]at he;split at he
 ·rename_i hb;obtain rfl:=Option.some.inj he;have hlt:o.n.toNat<s.vars.length:=zo;rw[List.getD_eq_getElem?_getD,List.getElem?_eq_getElem hlt];exact JnT K w p s o _ h hl o.n.toNat zo (List.getElem?_eq_getElem hlt)
 ·cases he
theorem JkQ(hk:o.code=2):Calls prog 63 #[Pt p,.agg (yu o)] w (Qav K w p s' (.tuple #[])):=by
 unfold Qbg at he;rw[if_neg zo,if_neg zo,if_pos zo]at he;split at he
 ·rename_i v l hsl;have hv:InR v:=hin v (by rw[hsl];simp);split at he
  ·obtain rfl:=Option.some.inj he;exact JmE K w p s o v l o.n.toNat h hsl hl zo zo
  ·cases he
 ·cases he
theorem JmT(hk:o.code=3):Calls prog 64 #[Pt p,.agg (yu o)] w (Qav K w p s' (.tuple #[])):=by
 unfold Qbg at he;rw[if_neg zo,if_neg zo,if_neg zo,if_pos zo]at he;obtain rfl:=Option.some.inj he;exact JnV K w p s o h hl hE.forms
theorem JkR(hk:o.code=4):Calls prog 65 #[Pt p,.agg (yu o)] w (Qav K w p s' (.tuple #[])):=by
 unfold Qbg at he;(iterate 4 rw[if_neg zo]at he);rw[if_pos zo]at he;obtain rfl:=Option.some.inj he;exact JmF K w p s o h hl hE.labs hE.nl
theorem JmU(hk:o.code=5):Calls prog 66 #[Pt p,.agg (yu o)] w (Qav K w p s' (.tuple #[])):=by
 unfold Qbg at he;(iterate 5 rw[if_neg zo]at he);rw[if_pos zo]at he;obtain rfl:=Option.some.inj he;exact JnU K w p s o h hl hE.words (zu hE.nw)
theorem Jof(hk:o.code=6):Calls prog 67 #[Pt p,.agg (yu o)] w (Qav K w p s' (.tuple #[])):=by
 unfold Qbg at he;(iterate 6 rw[if_neg zo]at he);rw[if_pos zo]at he;split at he
 ·rename_i v l hsl;have hv:InR v:=hin v (by rw[hsl];simp);obtain rfl:=Option.some.inj he;rw[if_pos hk];exact JoO K w p s o v l h hsl hl hv.wf
 ·cases he
theorem Jog(hk:o.code=7):Calls prog 68 #[Pt p,.agg (yu o)] w (Qav K w p s' (.tuple #[])):=by
 unfold Qbg at he;(iterate 6 rw[if_neg zo]at he);rw[if_pos zo]at he;split at he
 ·rename_i v l hsl;have hv:InR v:=hin v (by rw[hsl];simp);obtain rfl:=Option.some.inj he;rw[if_neg zo];exact JoG K w p s o v l h hsl hl
 ·cases he
theorem Joh(hk:o.code=8):Calls prog 69 #[Pt p,.agg (yu o)] w (Qav K w p s' (.tuple #[])):=by
 unfold Qbg at he;(iterate 7 rw[if_neg zo]at he);rw[if_pos zo]at he;split at he
 ·rename_i b a l hsl;have hb:InR b:=hin b (by rw[hsl];simp);have ha:InR a:=hin a (by rw[hsl];simp);have G5:=Option.some.inj he;unfold Qax at G5;rw[hk]at G5;simp at G5;subst G5;exact JoI K w p s o a b l h hsl hl ha.wf hb.wf
 ·cases he
theorem Joi(hk:o.code=9):Calls prog 70 #[Pt p,.agg (yu o)] w (Qav K w p s' (.tuple #[])):=by
 unfold Qbg at he;(iterate 7 rw[if_neg zo]at he);rw[if_pos zo]at he;split at he
 ·rename_i b a l hsl;have hb:InR b:=hin b (by rw[hsl];simp);have ha:InR a:=hin a (by rw[hsl];simp);have G5:=Option.some.inj he;unfold Qax at G5;rw[hk]at G5;simp at G5;subst G5;exact JoJ K w p s o a b l h hsl hl ha.wf hb.wf
 ·cases he
theorem Joj(hk:o.code=10):Calls prog 71 #[Pt p,.agg (yu o)] w (Qav K w p s' (.tuple #[])):=by
 unfold Qbg at he;(iterate 7 rw[if_neg zo]at he);rw[if_pos zo]at he;split at he
 ·rename_i b a l hsl;have hb:InR b:=hin b (by rw[hsl];simp);have ha:InR a:=hin a (by rw[hsl];simp);have G5:=Option.some.inj he;unfold Qax at G5;rw[hk]at G5;simp at G5;subst G5;exact JoK K w p s o a b l h hsl hl ha.wf hb.wf
 ·cases he
end
def Qhf{P:Prop}(h:P:=by
  by_cases e:b=0
  ·rw[if_pos e]at hh G5;subst G5;exact hh
  ·rw[if_neg e]at hh G5;subst G5
   exact hh):P:=h
section
variable (K:MK)(c:Qaf)(w:World)(p:Nat)(s s':StM)(o:OpM)(h:MAt K w p s)(hE:QcY K c w p)(he:Qbg c K.F o s=some s')(hl:s.st.length<=1000000000000)(hin:∀x∈s.st,InR x)(hu:s.used<=10000)(hc:s.calls.length<=100)(hj:isJ o->0<=o.n)(hcl:o.code=19->0<=o.n/\o.n.toNat<c.params.length/\o.n.toNat<c.slots.length/\o.n.toNat<c.starts.length)
include K c w p s s' o h hE he hl hin hu hc hj hcl
theorem Jok(hk:o.code=11):Calls prog 72 #[Pt p,.agg (yu o)] w (Qav K w p s' (.tuple #[])):=by
 unfold Qbg at he;(iterate 7 rw[if_neg zo]at he);rw[if_pos zo]at he;split at he
 ·rename_i b a l hsl;have hb:InR b:=hin b (by rw[hsl];simp);have ha:InR a:=hin a (by rw[hsl];simp);have G5:=Option.some.inj he;unfold Qax at G5;rw[hk]at G5;simp at G5;have hh:=JoL K w p s o a b l h hsl hl ha.wf hb.wf;exact Qhf
 ·cases he
theorem Jol(hk:o.code=12):Calls prog 73 #[Pt p,.agg (yu o)] w (Qav K w p s' (.tuple #[])):=by
 unfold Qbg at he;(iterate 7 rw[if_neg zo]at he);rw[if_pos zo]at he;split at he
 ·rename_i b a l hsl;have hb:InR b:=hin b (by rw[hsl];simp);have ha:InR a:=hin a (by rw[hsl];simp);have G5:=Option.some.inj he;unfold Qax at G5;rw[hk]at G5;simp at G5;have hh:=JoM K w p s o a b l h hsl hl ha.wf hb.wf;exact Qhf
 ·cases he
theorem JmV(hk:o.code=13):Calls prog 74 #[Pt p,.agg (yu o)] w (Qav K w p s' (.tuple #[])):=by
 unfold Qbg at he;(iterate 7 rw[if_neg zo]at he);rw[if_pos zo]at he;split at he
 ·rename_i b a l hsl;have hb:InR b:=hin b (by rw[hsl];simp);have ha:InR a:=hin a (by rw[hsl];simp);have G5:=Option.some.inj he;unfold Qax at G5;rw[hk]at G5;simp at G5;subst G5;exact JnS K w p s o a b l h hsl hl
 ·cases he
theorem Jom(hk:o.code=14):Calls prog 75 #[Pt p,.agg (yu o)] w (Qav K w p s' (.tuple #[])):=by
 unfold Qbg at he;(iterate 7 rw[if_neg zo]at he);rw[if_pos zo]at he;split at he
 ·rename_i b a l hsl;have hb:InR b:=hin b (by rw[hsl];simp);have ha:InR a:=hin a (by rw[hsl];simp);have G5:=Option.some.inj he;unfold Qax at G5;rw[hk]at G5;simp at G5;subst G5;exact JoH K w p s o a b l h hsl hl
 ·cases he
theorem JoP(hk:o.code=15):Calls prog 76 #[Pt p,.agg (yu o)] w (Qav K w p s' (.tuple #[])):=by
 unfold Qbg at he;(iterate 7 rw[if_neg zo]at he);rw[if_pos zo]at he;split at he
 ·rename_i b a l hsl;have hb:InR b:=hin b (by rw[hsl];simp);have ha:InR a:=hin a (by rw[hsl];simp);have G5:=Option.some.inj he;unfold Qax at G5;rw[hk]at G5;simp at G5;subst G5;exact QkG K w p s o a b l h hsl hl
 ·cases he
theorem JmW(hk:o.code=16):Calls prog 77 #[Pt p,.agg (yu o)] w (Qav K w p s' (.tuple #[])):=by
 unfold Qbg at he;(iterate 8 rw[if_neg zo]at he);rw[if_pos zo]at he;obtain rfl:=Option.some.inj he;exact JnQ K w p s o h (hj (.inl hk))
theorem Jgy(hk:o.code=17):Calls prog 78 #[Pt p,.agg (yu o)] w (Qav K w p s' (.tuple #[])):=by
 unfold Qbg at he;(iterate 9 rw[if_neg zo]at he);rw[if_pos zo]at he;split at he
 ·rename_i v l hsl;have hv:InR v:=hin v (by rw[hsl];simp);obtain rfl:=Option.some.inj he;exact JmD K w p s o v l h hsl hl (hj (by unfold isJ;omega))
 ·cases he
theorem JiN(hk:o.code=18):Calls prog 79 #[Pt p,.agg (yu o)] w (Qav K w p s' (.tuple #[])):=by
 unfold Qbg at he;(iterate 10 rw[if_neg zo]at he);rw[if_pos zo]at he;split at he
 ·rename_i v l hsl;have hv:InR v:=hin v (by rw[hsl];simp);obtain rfl:=Option.some.inj he;exact JnR K w p s o v l h hsl hl (hj (by unfold isJ;omega))
 ·cases he
theorem JmX(hk:o.code=19):Calls prog 80 #[Pt p,.agg (yu o)] w (Qav K w p s' (.tuple #[])):=by
 unfold Qbg at he;(iterate 11 rw[if_neg zo]at he);rw[if_pos zo]at he;obtain⟨n0,n1,n2,n3⟩:=hcl hk;have g1:c.starts[o.n.toNat]?=some (c.starts.getD o.n.toNat 0):=by rw[List.getD_eq_getElem?_getD,List.getElem?_eq_getElem zo];rfl
 have g2:c.params[o.n.toNat]?=some (c.params.getD o.n.toNat 0):=by rw[List.getD_eq_getElem?_getD,List.getElem?_eq_getElem zo];rfl
 have g3:c.slots[o.n.toNat]?=some (c.slots.getD o.n.toNat 0):=by rw[List.getD_eq_getElem?_getD,List.getElem?_eq_getElem zo];rfl
 have i1:=hE.starts _ (List.mem_of_getElem? g1);have i2:=hE.params _ (List.mem_of_getElem? g2);have i3:=hE.slots _ (List.mem_of_getElem? g3);have i4:=hE.slots0 _ (List.mem_of_getElem? g3)
 have hh:(s.used≠10000->s.calls.length≠100->(c.params.getD o.n.toNat 0).toNat<=s.st.length/\(c.params.getD o.n.toNat 0).toNat<=(c.slots.getD o.n.toNat 0).toNat)->Calls prog 80 #[Pt p,.agg (yu o)] w (Qav K w p (Qfg s (c.starts.getD o.n.toNat 0).toNat (c.params.getD o.n.toNat 0).toNat (c.slots.getD o.n.toNat 0).toNat) (.tuple #[])):=λsG=>
  Jod K w p s o h o.n.toNat zo _ _ _ c.starts c.params c.slots hE.r1 hE.r2 hE.r3 (by rw[g1];congr 1;omega) (by rw[g2];congr 1;omega) (by rw[g3];congr 1;omega) sG zo hl hu hc
 unfold Qfg at hh
 by_cases e1:s.used=10000
 ·rw[if_pos e1]at he hh;obtain rfl:=Option.some.inj he;exact hh λh=>absurd e1 h
 rw[if_neg e1]at he hh
 by_cases e2:s.calls.length=100
 ·rw[if_pos e2]at he hh;obtain rfl:=Option.some.inj he;exact hh λ_ h=>absurd e2 h
 rw[if_neg e2]at he hh;simp only[]at he;split at he
 ·rename_i hb;obtain rfl:=Option.some.inj he;exact hh λ_ _=>⟨hb.2.2.2.2.1,by omega⟩
 ·cases he
theorem JmY(hk:o.code=20):Calls prog 81 #[Pt p,.agg (yu o)] w (Qav K w p s' (.tuple #[])):=by
 unfold Qbg at he;(iterate 12 rw[if_neg zo]at he);rw[if_pos zo]at he;split at he
 ·rename_i q vs l hcl;obtain rfl:=Option.some.inj he;exact JnW K w p s o q vs l h hcl hc
 ·cases he
theorem JiO(hk:o.code=21):Calls prog 82 #[Pt p,.agg (yu o)] w (Qav K w p s' (.tuple #[])):=by
 unfold Qbg at he;(iterate 13 rw[if_neg zo]at he);rw[if_pos zo]at he;obtain rfl:=Option.some.inj he;exact JkG K w p s o h hu
theorem Jon(hk:o.code=22):Calls prog 83 #[Pt p,.agg (yu o)] w (Qav K w p s' (.tuple #[])):=by
 unfold Qbg at he;(iterate 14 rw[if_neg zo]at he);rw[if_pos zo]at he;obtain rfl:=Option.some.inj he;exact JoN K w p s o h
theorem Jep(k:Nat)(hk:o.code=(k:Int))(h23:k<23):Calls prog (hdl.getD k 0) #[Pt p,.agg (yu o)] w (Qav K w p s' (.tuple #[])):=by
 have xA:k=0\/k=1\/k=2\/k=3\/k=4\/k=5\/k=6\/k=7\/k=8\/k=9\/k=10\/k=11\/k=12\/k=13\/k=14\/k=15\/k=16\/k=17\/k=18\/k=19\/k=20\/k=21\/k=22:=zo
 rcases xA with rfl|rfl|rfl|rfl|rfl|rfl|rfl|rfl|rfl|rfl|rfl|rfl|rfl|rfl|rfl|rfl|rfl|rfl|rfl|rfl|rfl|rfl|rfl
 ·exact JiM K c w p s s' o h hE he hl hin hu hc hj hcl hk
 ·exact JmS K c w p s s' o h hE he hl hin hu hc hj hcl hk
 ·exact JkQ K c w p s s' o h hE he hl hin hu hc hj hcl hk
 ·exact JmT K c w p s s' o h hE he hl hin hu hc hj hcl hk
 ·exact JkR K c w p s s' o h hE he hl hin hu hc hj hcl hk
 ·exact JmU K c w p s s' o h hE he hl hin hu hc hj hcl hk
 ·exact Jof K c w p s s' o h hE he hl hin hu hc hj hcl hk
 ·exact Jog K c w p s s' o h hE he hl hin hu hc hj hcl hk
 ·exact Joh K c w p s s' o h hE he hl hin hu hc hj hcl hk
 ·exact Joi K c w p s s' o h hE he hl hin hu hc hj hcl hk
 ·exact Joj K c w p s s' o h hE he hl hin hu hc hj hcl hk
 ·exact Jok K c w p s s' o h hE he hl hin hu hc hj hcl hk
 ·exact Jol K c w p s s' o h hE he hl hin hu hc hj hcl hk
 ·exact JmV K c w p s s' o h hE he hl hin hu hc hj hcl hk
 ·exact Jom K c w p s s' o h hE he hl hin hu hc hj hcl hk
 ·exact JoP K c w p s s' o h hE he hl hin hu hc hj hcl hk
 ·exact JmW K c w p s s' o h hE he hl hin hu hc hj hcl hk
 ·exact Jgy K c w p s s' o h hE he hl hin hu hc hj hcl hk
 ·exact JiN K c w p s s' o h hE he hl hin hu hc hj hcl hk
 ·exact JmX K c w p s s' o h hE he hl hin hu hc hj hcl hk
 ·exact JmY K c w p s s' o h hE he hl hin hu hc hj hcl hk
 ·exact JiO K c w p s s' o h hE he hl hin hu hc hj hcl hk
 ·exact Jon K c w p s s' o h hE he hl hin hu hc hj hcl hk
end
structure QeH(r:Qah):Prop where
 right:Qat r=true
 ops:(Qac r).ops.length<=40000000
 fn:r.funcs.length<=1000000
 par:∀f∈r.funcs,f.params.length<=1000000
variable{p i ob pm u q:Nat}{r:Qah}
def YH(hi:i<r.funcs.length):∃f,r.funcs[i]?=some f/\(Qac r).params[i]?=some (f.params.length:Int)/\(Qac r).slots[i]?=some (QbK (Qac r) (i+1))/\(f.params.length:Int)<=QbK (Qac r) (i+1)/\(Qac r).starts[i]?=some ((bnd (Qac r) i:Nat):Int):=by
 obtain⟨f,hf⟩:∃f,r.funcs[i]?=some f:=⟨_,List.getElem?_eq_getElem hi⟩
 obtain⟨q,g1,g2,_,_,_⟩:=Jeg r hf;obtain⟨_,_,_,g3,g4⟩:=(VV r).fn i f hf;have h1:QbK (Qac r) (i+1)=max (f.params.length:Int) (QaD f.body):=by unfold QbK;rw[if_neg zo,Nat.add_sub_cancel,List.getD_eq_getElem?_getD,g4];rfl
 exact⟨f,hf,g3,by rw[h1];exact g4,by rw[h1];omega,by rw[g1,g2]⟩
def YI(r:Qah):(Qac r).slots[r.funcs.length]?=some (QbK (Qac r) 0)/\0<=QbK (Qac r) 0:=by
 have h1:QbK (Qac r) 0=Qbv r.clauses:=by unfold QbK;rw[if_pos rfl,VW]
 rw[h1];refine⟨?_,KE _⟩;unfold Qac;simp
def JbR(hk:QeH r){k:Nat}(h:k<=r.funcs.length):0<=QbK (Qac r) k/\QbK (Qac r) k<=1000100:=by
 obtain⟨ht,_,_,_,_⟩:=KS hk.right
 cases k with
 |zero=>
  have h1:QbK (Qac r) 0=Qbv r.clauses:=by unfold QbK;rw[if_pos rfl,VW]
  rw[h1];refine⟨KE _,?_⟩
  have:∀l:List ClM,(∀x∈l,x∈r.clauses)->Qbv l<=1000100:=by
   intro l
   induction l with
   |nil=>intro _;rw[Qbv];omega
   |cons x l ih=>
    intro hx;rw[Qbv];have h1:=ih (λy hy=>hx y (by simp[hy]));have h2:=JbK x.cond 0 40 (YY ht (hx x zq));omega
  exact this _ (λ_ h=>h)
 |succ i=>
  obtain⟨f,hf,_,_,h3,_⟩:=YH (r:=r) (i:=i) zo;obtain⟨_,_,_,g3,g4⟩:=(VV r).fn i f hf;have h1:QbK (Qac r) (i+1)=max (f.params.length:Int) (QaD f.body):=by unfold QbK;rw[if_neg zo,Nat.add_sub_cancel,List.getD_eq_getElem?_getD,g4];rfl
  have hm:f∈r.funcs:=List.mem_of_getElem? hf;have h2:=JbK f.body f.params.length 40 (YX ht hm);have h4:=hk.par f hm;omega
def JkS(hr:Qat r=true)(hi:i<r.funcs.length):QcG (Qac r) i<bnd (Qac r) i/\bnd (Qac r) i<(Qac r).ops.length/\QcG (Qac r) (i+1)=bnd (Qac r) i:=by
 have h1:=(VX hr i zo).1;have h2:=VX hr (i+1) zo;have h3:QcG (Qac r) (i+1)=bnd (Qac r) i:=by unfold QcG;rw[if_neg zo,Nat.add_sub_cancel]
 rw[h3]at h2;exact⟨h1,by have:=h2.1;have:=h2.2.1;omega,h3⟩
def Qhx{P:Prop}(h:P:=by
  have C0:Hi (yr w wl):=HB.o.trans (G1.o.mono HB.o.size);clear hi hg;go_wp2;go_ret
  exact⟨rfl,C0.o⟩):P:=h
def JiP(r:Qah)(hk:QeH r)(p:Nat)(w:World)(hp:p<=w.heap.size)(d:Array Value)(h:CV w p (Qac r) d):Calls prog 39 #[.agg d] w (Qbj w (.bool true)):=by
 obtain⟨a0,c0,a1,c1,a2,c2,a3,c3,rfl,g0,g1,g2,g3⟩:=h.g;obtain⟨l1,l2,l3,l4⟩:=JL r;obtain⟨n0,R4⟩:=yt ((Qac r).ops.length)
 obtain⟨nf,zA⟩:=yt r.funcs.length
 have hN:=hk.ops;have hF:=hk.fn;rw[zA]at l1 l2 l3 hF;rw[R4]at hN l4;rw[l1,l2,l3,R4];obtain⟨sl,vA⟩:=YI r;rw[zA]at sl;obtain⟨b3,o3,rfl,k3⟩:=g3 nf _ sl;obtain⟨Z,hZ⟩:=yt (QbK (Qac r) 0)
 rw[hZ]at k3 vA;have HK:=Zh hk;have O5:=Zh g1;have U9:=Zh g2;have gA:=Zh g3;have eA:=Zh k3;have iA:=Zh zA;have dA:=Zh R4;have hb:=(Below.refl w.heap.size w).alloc (Nat.le_refl _) (.cells (zm a0 n0 c0 a1 nf c1 a2 nf c2 (some ⟨b3,o3,none⟩) (nf+1) c3) 31);have HB:=Zh hb;have aA:=Zh (hb.mono hp);have L4:=Zh hp;have HX:=Zh (BxB.of (zQ w (.cells (zm a0 n0 c0 a1 nf c1 a2 nf c2 (some ⟨b3,o3,none⟩) (nf+1) c3) 31)));have qA:1<=n0:=zo;clear h g0 g1 g2 g3 k3 sl hb hp hk hZ zA l1 l2 l3 l4 R4;go_enter func39,ntmps39;go_upto_region 1 with fail;obtain⟨eb,cA⟩:=yt w.heap.size
 rw[cA]at HX |-;clear cA;generalize World.alloc w _=w1 at*;obtain⟨x0,x1,x2,x3⟩:=Qao (HX.o _ zO);have z3:=eA.o _ aA.o;have wk:IntKind.i64.wrap ((nf:Int)+1)=((nf+1:Nat):Int):=by rw[IntWalk.i64_in _ zo];omega
 have q0:((n0:Int)==0)=false:=zr;have q1:decide (Z<0)=false:=zH zo;have q2:(nf:Int)<((nf+1:Nat):Int):=zo;have q3:(nf:Int)<(nf:Int)+1:=zo;go_wp2_with fail;clear x0 x1 x2 x3 z3 q2 q3;go_loopg [4,40] nf λg v4 v40 wr=>∃i:Nat,g+i=nf/\v40=Iv (i:Int)/\v4=Iv ((QcG (Qac r) i:Nat):Int)/\Hi (yr w1 wr)
 case atStart=>exact⟨0,rfl,rfl,rfl,zO⟩
 case round=>
  obtain⟨wl,rfl⟩:=zJ wr;obtain⟨i,hg,rfl,rfl,G1⟩:=hrel
  by_cases hi:i<nf
  ·have dil:decide ((i:Int)<(nf:Int))=true:=zG zo;have diN:decide (i<nf)=true:=zG hi;have uA:i<r.funcs.length:=by rw[iA.o];exact hi
   obtain⟨f,hf,e2,e3,e4,e1⟩:=YH uA;obtain⟨s1,s2,s3⟩:=JkS HK.o.right uA;rw[dA.o]at s2;have yA:Below p w wl:=aA.o.trans (G1.o.mono (zv HB.o.size L4.o));obtain⟨b1,o1,rfl,k1⟩:=O5.o i _ e1;obtain⟨b2,o2,rfl,k2⟩:=U9.o i _ e2;obtain⟨b4,o4,xA,k4⟩:=gA.o i _ e3;have xA:=Option.some.inj xA;simp only[Addr.mk.injEq]at xA;obtain⟨rfl,rfl,_⟩:=xA;obtain⟨x0,x1,x2,x3⟩:=Qao (HX.o _ G1.o);have z1:=k1 _ yA;have z2:=k2 _ yA;have z4:=k4 _ yA;obtain⟨A,hA⟩:=yt (bnd (Qac r) i)
   obtain⟨Bf,bA⟩:=yt (QcG (Qac r) i)
   obtain⟨S,hS⟩:=yt (QbK (Qac r) (i+1))
   obtain⟨m,hm⟩:=yt f.params.length
   rw[hA]at s1 s2 z1;rw[bA]at s1 |-;rw[hS]at e4 z4;rw[hm]at e4 z2;have HA:Hi (QcG (Qac r) (i+1)=A):=s3.trans hA;have P2:Hi (gk+i=nf/\i<nf):=⟨hg,hi⟩
   have k0:0<=(i:Int):=zo;have kn:(i:Int)<(nf:Int):=zo;have pA:(i:Int)<(nf:Int)+1:=zo;have rA:(i:Int)<((nf+1:Nat):Int):=zo;have t1:decide ((A:Int)<=(Bf:Int))=false:=zH zo;have t2:decide ((n0:Int)<=(A:Int))=false:=zH zo;have jA:decide ((A:Int)>=(n0:Int))=false:=zH zo;have sA:decide (A<=Bf)=false:=zH zo;have mA:decide (n0<=A)=false:=zH zo;have t3:decide ((m:Int)<0)=false:=zH zo;have t4:decide (S<(m:Int))=false:=zH zo;have nA:decide ((m:Int)>S)=false:=zH zo;have kA:IntKind.i64.wrap ((i:Int)+1)=((i+1:Nat):Int):=by rw[IntWalk.i64_in _ zo];omega
   clear hA bA hS hm s1 s2 s3 e1 e2 e3 e4 k1 k2 k4 hf uA hg hi yA wk q0 q1;go_upto_region 8 with fail;go_region;clear x0 x1 x2 x3 z1 z2 z4;go_wp2_with fail;go_roundg (nf-(i+1))
   case measure=>have:=P2.o;omega
   case rel=>exact⟨i+1,by have:=P2.o;omega,rfl,by rw[HA.o],G1.o.drew⟩
  ·have dil:decide ((i:Int)<(nf:Int))=false:=zH zo;have diN:decide (i<nf)=false:=zH hi;exact Qhx
def QkF(x0 x1 x2 x3 x4 x5 x6 x7:Int):∀(i:Nat)(v:Int),[x0,x1,x2,x3,x4,x5,x6,x7][i]?=some v->∀W:World,(Instr.index 80 (.agg #[Iv x0,Iv x1,Iv x2,Iv x3,Iv x4,Iv x5,Iv x6,Iv x7]) (Iv (i:Int))).run prog W=.ok (Iv v) W
 |0,v,h,W=>by obtain rfl:=Option.some.inj h;kernel_rfl
 |1,v,h,W=>by obtain rfl:=Option.some.inj h;kernel_rfl
 |2,v,h,W=>by obtain rfl:=Option.some.inj h;kernel_rfl
 |3,v,h,W=>by obtain rfl:=Option.some.inj h;kernel_rfl
 |4,v,h,W=>by obtain rfl:=Option.some.inj h;kernel_rfl
 |5,v,h,W=>by obtain rfl:=Option.some.inj h;kernel_rfl
 |6,v,h,W=>by obtain rfl:=Option.some.inj h;kernel_rfl
 |7,v,h,W=>by obtain rfl:=Option.some.inj h;kernel_rfl
 |i+8,v,h,W=>by simp at h
def QcE(l:List (By×Int))(i:Nat):Option By:=if i=0 then none else (l[i-1]?).map (·.1)
def Qdm(l:List By)(i:Nat):Option By:=if i=0 then none else l[i-1]?
def Jde(p:Option By)(c:By×Int)(l:List (By×Int)):Qba p (c::l)=(decide (1<=c.2)&&decide (c.2<=1125899906842624)&&(match p with|none=>true|some q=>ltB q c.1)&&Qba (some c.1) l):=by
 cases p<;>rfl
def Jeq(p:Option By)(c:By)(l:List By):Qcz p (c::l)=((match p with|none=>true|some q=>ltB q c)&&Qcz (some c) l):=by
 cases p<;>rfl
def JiQ{l:List (By×Int)}{a:By×Int}{b:Bool}(h:Qba (QcE l i) (l.drop i)=b)(hi:l[i]?=some a):
  (decide (1<=a.2)&&decide (a.2<=1125899906842624)&&(match QcE l i with|none=>true|some q=>ltB q a.1)&&Qba (QcE l (i+1)) (l.drop (i+1)))=b:=by
 obtain⟨hlt,he⟩:=List.getElem?_eq_some_iff.1 hi;rw[List.drop_eq_getElem_cons hlt,he,Jde]at h;have:QcE l (i+1)=some a.1:=by unfold QcE;rw[if_neg zo,Nat.add_sub_cancel,hi];rfl
 rw[this];exact h
def Jgz{l:List By}{a:By}{b:Bool}(h:Qcz (Qdm l i) (l.drop i)=b)(hi:l[i]?=some a):
  ((match Qdm l i with|none=>true|some q=>ltB q a)&&Qcz (Qdm l (i+1)) (l.drop (i+1)))=b:=by
 obtain⟨hlt,he⟩:=List.getElem?_eq_some_iff.1 hi;rw[List.drop_eq_getElem_cons hlt,he,Jeq]at h;have:Qdm l (i+1)=some a:=by unfold Qdm;rw[if_neg zo,Nat.add_sub_cancel,hi]
 rw[this];exact h
def QhQ{P:Prop}(h:P:=by
  go_wp2;go_roundg (F.labels.length-(i+1))
  case measure=>have:=HG.o;have:=A5.o;omega
  case rel=>exact⟨i+1,by have:=A5.o;omega,by go_num,IA,D2⟩):P:=h
def QgW{P:Prop}(h:P:=by
  go_region;clear b0 b1 b2 b3 b4 b5 b6 b7 b8 b9 b10 b11 c0 c1;go_wp2;go_ret
  exact⟨rfl,C0.o⟩):P:=h
def zBd{P:Prop}(h:P:=by
  go_wp2;go_ret;exact⟨rfl,C0.o⟩):P:=h
def zBe{P:Prop}(h:P:=by
  go_wp2;go_round
  case rel=>exact⟨j+1,by go_num,fB,D2⟩
  case measure=>simp[intOf];omega):P:=h
def Y3(F:Qaj)(lv wv:Value)(w:World)(hz:FSz F)(hl:Qbx w lv F.labels)(hw:QaT w wv F.words):Calls prog 13 #[.agg (QaI F lv wv)] w (Qbj w (.bool (QaF F))):=by
 obtain⟨la,lc,rfl,_⟩:=hl.form;obtain⟨wa,wc,rfl,_⟩:=hw.form;obtain⟨q,hq⟩:=yt (QaF F)
 rw[hq];have HQ:Hi ((F.nums.all QfR&&Qba none F.labels&&Qcz none F.words)=q):=hq;unfold QaI;have cA:yr w (w.alloc (.cells (zV la F.labels.length lc F.likes F.boosts F.replies F.reports F.age F.home F.scope F.length F.follows F.reply wa F.words.length wc) 45)):=zO.alloc (Nat.le_refl _) _;have A0:=Zh (zQ w (.cells (zV la F.labels.length lc F.likes F.boosts F.replies F.reports F.age F.home F.scope F.length F.follows F.reply wa F.words.length wc) 45));have O2:Hi (∀W,Below (w.alloc (.cells (zV la F.labels.length lc F.likes F.boosts F.replies F.reports F.age F.home F.scope F.length F.follows F.reply wa F.words.length wc) 45)).heap.size (w.alloc (.cells (zV la F.labels.length lc F.likes F.boosts F.replies F.reports F.age F.home F.scope F.length F.follows F.reply wa F.words.length wc) 45)) W->Bel w W):=λW hW=>Jd cA hW
 have aA:Qbx (w.alloc (.cells (zV la F.labels.length lc F.likes F.boosts F.replies F.reports F.age F.home F.scope F.length F.follows F.reply wa F.words.length wc) 45)) (.slice la F.labels.length lc) F.labels:=hl.up cA;have vA:QaT (w.alloc (.cells (zV la F.labels.length lc F.likes F.boosts F.replies F.reports F.age F.home F.scope F.length F.follows F.reply wa F.words.length wc) 45)) (.slice wa F.words.length wc) F.words:=hw.up cA;have mA:=Zh aA;have jA:=Zh vA;have cB:=hz.nl;have dB:=hz.nw;have rA:=Zh (QkF F.likes F.boosts F.replies F.reports F.age F.home F.scope F.length);have hA:Hi (F.nums=[F.likes,F.boosts,F.replies,F.reports,F.age,F.home,F.scope,F.length]):=rfl;clear cA hl hw hq hz aA vA;go_enter func13,ntmps13;go_upto_region 1 with fail;have I9:Hi (w.heap.size<(w.alloc (.cells (zV la F.labels.length lc F.likes F.boosts F.replies F.reports F.age F.home F.scope F.length F.follows F.reply wa F.words.length wc) 45)).heap.size):=Jb A0.o;generalize World.alloc w _=w1 at*;generalize w.heap.size=eb at*
 have FF:Hi (∀W,yr w1 W->xd W eb (.slice la F.labels.length lc) (Iv F.likes) (Iv F.boosts) (Iv F.replies) (Iv F.reports) (Iv F.age) (Iv F.home) (Iv F.scope) (Iv F.length) (.bool F.follows) (.bool F.reply) (.slice wa F.words.length wc)):=by
  intro W hW;have hh:=(hW.block _ I9.o).trans A0.o;refine⟨?_,?_,?_,?_,?_,?_,?_,?_,?_,?_,?_,?_⟩<;>(rw[Ja hh];rfl)
 obtain⟨b0,b1,b2,b3,b4,b5,b6,b7,b8,b9,b10,b11⟩:=FF.o _ zO;go_wp2_with fail;clear b0 b1 b2 b3 b4 b5 b6 b7 b8 b9 b10 b11;go_loop [26] (λv=>∃k:Nat,v=Iv k/\k<=8/\Hi ((F.nums.take k).all QfR=true)) λv=>8-(intOf v).toNat
 case atStart=>exact⟨0,rfl,by omega,rfl⟩
 case round=>
 obtain⟨k,rfl,hk,uA⟩:=hrel;have wk:=zI k
 by_cases tG:k<8
 ·have pA:(k:Int)<8:=zo;obtain⟨x,hx⟩:∃x,F.nums[k]?=some x:=⟨F.nums[k]'(by rw[hA.o];exact tG),List.getElem?_eq_getElem _⟩
  have aB:=rA.o k x (by rw[<-hA.o];exact hx);have N6:=Zh hx;clear hx
  by_cases h0:0<=x
  ·have d0:decide (x<0)=false:=zH zo
   by_cases hM:x<=1125899906842624
   ·have dM:decide (1125899906842624<x)=false:=zH zo;have xB:=Zh (Vc uA.o N6.o (by unfold QfR;rw[zG h0,zG hM];rfl));clear uA N6 h0 hM;go_wp2;go_round
    case rel=>exact⟨k+1,by go_num,tG,xB⟩
    case measure=>simp[intOf];omega
   ·have dM:decide (1125899906842624<x)=true:=zG zo;have A3:q=false:=by rw[<-HQ.o,Vk N6.o (by unfold QfR;rw[zH hM];simp)];rfl
    subst A3;have C0:=Zh (O2.o _ zO);clear uA N6 h0 hM;exact zBd
  ·have d0:decide (x<0)=true:=zG zo;have A3:q=false:=by rw[<-HQ.o,Vk N6.o (by unfold QfR;rw[zH h0];rfl)];rfl
   subst A3;have C0:=Zh (O2.o _ zO);clear uA N6 h0;exact zBd
 have pA:¬(k:Int)<8:=zo;have dA:k=8:=zo;subst dA
 replace HQ:Hi ((Qba (QcE F.labels 0) (F.labels.drop 0)&&Qcz none F.words)=q):=by
  have h1:=HQ.o;have h2:=uA.o;rw[show F.nums.take 8=F.nums from rfl]at h2;rw[h2]at h1;exact h1
 clear uA tG hk rA hA;obtain⟨b0,b1,b2,b3,b4,b5,b6,b7,b8,b9,b10,b11⟩:=FF.o _ zO;have qA:Hi (yr w1 w1):=zO;go_wp2_with fail;clear b0 b1 b2 b3 b4 b5 b6 b7 b8 b9 b10 b11 pA wk;obtain⟨lb,iA⟩:=yt (Qba (QcE F.labels 0) (F.labels.drop 0))
 have nA:=Zh iA;rw[iA]at HQ;clear iA;go_loopg [39] F.labels.length λg v39 wr=>∃i:Nat,g+i=F.labels.length/\v39=Iv i/\Hi (yr w1 wr)/\Hi (Qba (QcE F.labels i) (F.labels.drop i)=lb)
 case atStart=>exact⟨0,rfl,rfl,qA,nA⟩
 case round=>
 clear nA qA;obtain⟨wl,rfl⟩:=zJ wr;obtain⟨i,hg,rfl,G1,xA⟩:=hrel
 by_cases hi:i<F.labels.length
 ·have hil:(i:Int)<(F.labels.length:Int):=zo;have wk:=zI i;obtain⟨a,ha⟩:∃a,F.labels[i]?=some a:=⟨F.labels[i],List.getElem?_eq_getElem hi⟩
  have gA:=mA.o.up G1.o;obtain⟨b,o,yA,_,c0,c1⟩:=gA.get ha;have hst:=JiQ xA.o ha;obtain⟨nm,ct⟩:=a;dsimp only at c0 c1 hst;have D2:=Zh hst;have I0:yr wl (wl.alloc (.cells #[Sv nm,Iv ct] 82)):=zO.alloc (Nat.le_refl _) _;have N2:=Zh (Jd G1.o I0);have T2:=Zh (zQ wl (.cells #[Sv nm,Iv ct] 82));have A8:=Zh (gA.up I0);have HG:=Zh hg;have A5:=Zh hi;have tA:=Zh yA;have E4:=yA;subst E4;clear hst gA I0 G1 hg ha xA hi yA;go_upto_region 10 with fail;clear c0 c1;have bB:Hi (wl.heap.size<(wl.alloc (.cells #[Sv nm,Iv ct] 82)).heap.size):=Jb T2.o;generalize World.alloc wl _=w3 at*;generalize wl.heap.size=cb at*;have c0:=Ja T2.o 0;have c1:=Ja T2.o 1;simp only[zW]at c0 c1;obtain⟨b0,b1,b2,b3,b4,b5,b6,b7,b8,b9,b10,b11⟩:=FF.o _ N2.o;have C0:Hi (Bel w w3.drew):=O2.o _ N2.o.drew;have IA:Hi (yr w1 w3.drew):=N2.o.drew;have u1:=Jj nm
  by_cases h1:1<=ct
  ·have d1:decide (ct<1)=false:=zH zo
   replace D2:Hi ((decide (ct<=1125899906842624)&&(match QcE F.labels i with|none=>true|some q=>ltB q nm)&&Qba (QcE F.labels (i+1)) (F.labels.drop (i+1)))=lb):=by
    have h2:=D2.o;rw[zG h1,Bool.true_and]at h2;exact h2
   by_cases hM:ct<=1125899906842624
   ·have dM:decide (1125899906842624<ct)=false:=zH zo
    replace D2:Hi (((match QcE F.labels i with|none=>true|some q=>ltB q nm)&&Qba (QcE F.labels (i+1)) (F.labels.drop (i+1)))=lb):=by
     have h2:=D2.o;rw[zG hM,Bool.true_and]at h2;exact h2
    clear h1 hM
    by_cases MG:i=0
    ·have di:decide ((0:Int)<(i:Int))=false:=zH zo;have diN:decide (0<i)=false:=zH zo
     replace D2:Hi (Qba (QcE F.labels (i+1)) (F.labels.drop (i+1))=lb):=by
      have h2:=D2.o;rw[show QcE F.labels i=none by unfold QcE;rw[if_pos MG]]at h2;exact h2
     clear MG;go_region;clear b0 b1 b2 b3 b4 b5 b6 b7 b8 b9 b10 b11 c0 c1;exact QhQ
    ·have di:decide ((0:Int)<(i:Int))=true:=zG zo;have diN:decide (0<i)=true:=zG zo;obtain⟨p,hp⟩:∃p,F.labels[i-1]?=some p:=⟨F.labels[i-1]'(zu A5.o),List.getElem?_eq_getElem _⟩
     obtain⟨b',o',X3,_,p0,_⟩:=A8.o.get hp;injection X3 with X3;injection X3 with e1 e2 e3;subst e1 e2;obtain⟨pn,pc⟩:=p;dsimp only at p0;have wm:IntKind.i64.wrap ((i:Int)-1)=(i:Int)-1:=IntWalk.i64_in _ zo;have vB:((i:Int)-1).toNat=i-1:=zo;have uB:(0:Int)<=(i:Int)-1:=zo;have zB:(1:Int)<=(i:Int):=zo;have eA:1<=i:=zo;have yB:(i:Int)-1<(F.labels.length:Int):=zo;have u2:=Jj pn;have bA:QcE F.labels i=some pn:=by unfold QcE;rw[if_neg MG,hp];rfl
     rw[bA]at D2;clear MG hp bA
     cases hlt:ltB pn nm with
     |true=>
      have zA:Op.bytesLess pn nm=true:=hlt
      replace D2:Hi (Qba (QcE F.labels (i+1)) (F.labels.drop (i+1))=lb):=by
       have h2:=D2.o;simp only[hlt,Bool.true_and]at h2;exact h2
      clear hlt;go_region;clear b0 b1 b2 b3 b4 b5 b6 b7 b8 b9 b10 b11 c0 c1 p0;exact QhQ
     |false=>
      have zA:Op.bytesLess pn nm=false:=hlt
      have A3:q=false:=by
       have h2:=D2.o;simp only[hlt,Bool.false_and]at h2;rw[<-HQ.o,<-h2];rfl
      subst A3;clear hlt D2;go_region;clear b0 b1 b2 b3 b4 b5 b6 b7 b8 b9 b10 b11 c0 c1 p0;exact zBd
   ·have dM:decide (1125899906842624<ct)=true:=zG zo
    have A3:q=false:=by
     have h2:=D2.o;rw[zH hM,Bool.false_and,Bool.false_and]at h2;rw[<-HQ.o,<-h2];rfl
    subst A3;clear h1 hM D2;exact QgW
  ·have d1:decide (ct<1)=true:=zG zo
   have A3:q=false:=by
    have h2:=D2.o;rw[zH h1,Bool.false_and,Bool.false_and,Bool.false_and]at h2;rw[<-HQ.o,<-h2];rfl
   subst A3;clear h1 D2;exact QgW
 have hil:¬(i:Int)<(F.labels.length:Int):=zo;obtain rfl:i=F.labels.length:=zo;have hlt:lb=true:=by rw[<-xA.o,List.drop_length];rfl
 subst hlt;replace HQ:Hi (Qcz (Qdm F.words 0) (F.words.drop 0)=q):=HQ.o;obtain⟨b0,b1,b2,b3,b4,b5,b6,b7,b8,b9,b10,b11⟩:=FF.o _ G1.o;have C0:Hi (Bel w wl):=O2.o _ G1.o;have kA:Hi (QaT wl (.slice wa F.words.length wc) F.words):=jA.o.up G1.o;have U2:=Zh G1.o;clear xA hg hi G1 jA mA;go_wp2_with fail;clear b0 b1 b2 b3 b4 b5 b6 b7 b8 b9 b10 b11 hil;go_loop [72] (λv=>∃j:Nat,v=Iv j/\j<=F.words.length/\Hi (Qcz (Qdm F.words j) (F.words.drop j)=q)) λv=>F.words.length-(intOf v).toNat
 case atStart=>exact⟨0,rfl,Nat.zero_le _,HQ⟩
 case round=>
 clear HQ;obtain⟨j,rfl,hj,xA⟩:=hrel;have wk:=zI j
 by_cases fB:j<F.words.length
 ·have hil:(j:Int)<(F.words.length:Int):=zo;obtain⟨a,ha⟩:∃a,F.words[j]?=some a:=⟨F.words[j],List.getElem?_eq_getElem fB⟩
  obtain⟨b,o,yA,_,c0⟩:=kA.o.get ha;have hst:=Jgz xA.o ha;have D2:=Zh hst;obtain⟨b0,b1,b2,b3,b4,b5,b6,b7,b8,b9,b10,b11⟩:=FF.o _ U2.o;have u1:=Jj a
  by_cases NG:j=0
  ·have di:decide ((0:Int)<(j:Int))=false:=zH zo;have diN:decide (0<j)=false:=zH zo
   replace D2:Hi (Qcz (Qdm F.words (j+1)) (F.words.drop (j+1))=q):=by
    have h2:=D2.o;rw[show Qdm F.words j=none by unfold Qdm;rw[if_pos NG]]at h2;exact h2
   subst yA;clear NG hst ha xA;exact zBe
  ·have di:decide ((0:Int)<(j:Int))=true:=zG zo;have diN:decide (0<j)=true:=zG zo;obtain⟨p,hp⟩:∃p,F.words[j-1]?=some p:=⟨F.words[j-1]'(by omega),List.getElem?_eq_getElem _⟩
   obtain⟨b',o',X3,_,p0⟩:=kA.o.get hp;rw[yA]at X3;injection X3 with X3;injection X3 with e1 e2 e3;subst e1 e2;have wm:IntKind.i64.wrap ((j:Int)-1)=(j:Int)-1:=IntWalk.i64_in _ zo;have vB:((j:Int)-1).toNat=j-1:=zo;have uB:(0:Int)<=(j:Int)-1:=zo;have zB:(1:Int)<=(j:Int):=zo;have eA:1<=j:=zo;have yB:(j:Int)-1<(F.words.length:Int):=zo;have u2:=Jj p;have bA:Qdm F.words j=some p:=by unfold Qdm;rw[if_neg NG,hp]
   rw[bA]at D2;subst yA;clear NG hp bA hst ha xA
   cases hlt:ltB p a with
   |true=>
    have zA:Op.bytesLess p a=true:=hlt
    replace D2:Hi (Qcz (Qdm F.words (j+1)) (F.words.drop (j+1))=q):=by
     have h2:=D2.o;simp only[hlt,Bool.true_and]at h2;exact h2
    clear hlt;exact zBe
   |false=>
    have zA:Op.bytesLess p a=false:=hlt
    have A3:q=false:=by
     have h2:=D2.o;simp only[hlt,Bool.false_and]at h2;exact h2.symm
    subst A3;clear hlt D2;exact zBd
 ·have hil:¬(j:Int)<(F.words.length:Int):=zo;obtain rfl:j=F.words.length:=zo;have sA:q=true:=by rw[<-xA.o,List.drop_length];rfl
  subst sA;clear xA fB hj;exact zBd
def Qkt(w:World)(b:Nat):Prop:=w.heap.size<=b
def Qex(X:QeD):Array Value:=(yd X.action X.reason X.used X.fault)
def Qfk(w:World)(X:QeD)(e:Ending)(w':World):Prop:=e=.returned (.agg (Qex X))/\yr w w'
def QdG:(prog.info? 48).map (·.size)=some 4:=zk
def Qer{w:World}{T t:Nat}{a0 a1 a2 a3:Value}(v0 v1 v2 v3:Value)(h:w.heap[T]?=some (.cells #[a0,a1,a2,a3] t (0,0))):
  ((((w.setCell ⟨T,0,none⟩ v0).setCell ⟨T,1,none⟩ v1).setCell ⟨T,2,none⟩ v2).setCell ⟨T,3,none⟩ v3).heap[T]?=some (.cells #[v0,v1,v2,v3] t (0,0)):=by
 rw[Jm (Jm (Jm (Jm h 0 v0) 1 v1) 2 v2) 3 v3];rfl
def Vo{W:World}{cs:Array Value}(h:W.heap[ob]?=some (.cells cs 48 (0,0)))(hs:cs.size=4)(tmps:Array Value)(h4:tmps.getD 4 undef=Pt ob):
  (results f17 tmps).run prog W=.ok (.agg cs) W:=by
 have q4:tmps[4]?.getD undef=Pt ob:=by simpa using h4
 have l1:=run_loadVar_row (P:=prog) W ob 48 48 cs (0,0) _ h underlying48 rfl (by rw[hs];exact QdG);simp[results,results17,q4,asAddr,l1]
def Jer(p q:Addr)(w:World):
  CallsD prog 42 #[.pointer (some p),.pointer (some q)] .returning w λe u' w'=>e=.returned (.tuple #[])/\u'=.returning/\yr w w':=by
 have ta:∀w,(Instr.typeAssert .nilIface 20 101 true).run prog w=.ok (.tuple #[Iv 0,.bool false]) w:=λ_=>by kernel_rfl
 refine callsD_of_wpS func42 rfl λc₀ cs hu=>?_
 apply wpS_seq;apply wpS_region;simp[wpOpsS,go_sem,recoverD,hu,ntmps42,Exit.thenS,ta];apply wpS_seq;apply wpS_region;simp[wpOpsS,go_sem,Exit.thenS];refine wpS_cond (t:=false) (by simp[Act.eval,Array.replicate]) ?_;simp only[Bool.false_eq_true,if_false];refine wpS_of_wp (wp_skip ?_)
 cases c₀
 simp only[bodyPostS,results,results42];refine⟨by simp,.returning,by simp_all,.tuple #[],by simp[go_sem],rfl,rfl,zO⟩
def Zf(K:Qbw)(u c pm ob:Nat)(er:Int)(older:List PanicEntry)(w:World)(hm:Qcw K w u c)(hp:w.heap[pm]?=some (.cells #[Pt K.p] 98 (0,0)))(ho:w.heap[ob]?=some (.cells (yh 0 Em 0 0) 48 (0,0))):
  CallsD prog 42 #[Pt pm,Pt ob] (.panicking ({v:=.iface 101 (Iv er),recovered:=false}::older)) w λen u' w'=>
   en=.returned (.tuple #[])/\u'=.panicking ({v:=.iface 101 (Iv er),recovered:=true}::older)/\w'.heap[ob]?=some (.cells (Qex ⟨0,[],u,er⟩) 48 (0,0))/\Chg [ob] w w':=by
 have ta:∀w,(Instr.typeAssert (.iface 101 (Iv er)) 20 101 true).run prog w=.ok (.tuple #[Iv er,.bool true]) w:=λ_=>by kernel_rfl
 refine callsD_of_wpS func42 rfl λc₀ cs hu=>?_
 apply wpS_seq;apply wpS_region;simp[wpOpsS,go_sem,recoverD,hu,ntmps42,Exit.thenS,ta];apply wpS_seq;apply wpS_region;simp[wpOpsS,go_sem,Exit.thenS];refine wpS_cond (t:=true) (by simp[Act.eval,Array.replicate]) ?_;simp only[if_true];refine wpS_of_wp ?_;have p0:=Ja hp 0;have yA:w.cell? ⟨K.p,15,none⟩=some (Iv u):=Ja hm.self 15;have o0:=Ja ho 0;have o1:=Ja ho 1;have o2:=Ja ho 2;have o3:=Ja ho 3;have f0:=Jc ho 0;have f1:=Jc ho 1;have f2:=Jc ho 2;have f3:=Jc ho 3;have hlo:=Jb ho;simp only[zW]at p0 o0 o1 o2 o3;have L1:=Qer (Iv 0) Em (Iv u) (Iv er) ho;have Q4:Chg [ob] w ((((w.setCell ⟨ob,0,none⟩ (Iv 0)).setCell ⟨ob,1,none⟩ Em).setCell ⟨ob,2,none⟩ (Iv u)).setCell ⟨ob,3,none⟩ (Iv er)):=((((Chg.refl _ _).setCell (.inl zq) _).setCell (.inl zq) _).setCell (.inl zq) _).setCell (.inl zq) _;have xA:=Zh L1;have j9:=Zh Q4;clear L1 Q4 hm hp ho;go_wp2
 cases c₀
 simp only[bodyPostS,results,results42];exact⟨by trivial,_,rfl,.tuple #[],by simp[go_sem],rfl,rfl,xA.o,j9.o⟩
structure RrI(K:Qbw)(ob pm:Nat)(W:World)(u:Nat):Prop where
 mr:Qcw K W u 0
 pmb:W.heap[pm]?=some (.cells #[Pt K.p] 98 (0,0))
 res:W.heap[ob]?=some (.cells (yh 0 Em 0 0) 48 (0,0))
 low:K.w0.heap.size<=ob/\K.w0.heap.size<=pm/\ob≠K.p/\pm≠K.p
variable{K:Qbw}{W':World}
def RrI.on{W:World}{u' c:Nat}(h:RrI K ob pm W u)(hc:Chg [K.p] W W')(hm:Qcw K W' u' 0):RrI K ob pm W' u':=
 ⟨hm,hc.heap_some (by simpa using h.low.2.2.2) h.pmb,hc.heap_some (by simpa using h.low.2.2.1) h.res,h.low⟩
def Jdf{W:World}(er:Int){u' c:Nat}(h:RrI K ob pm W u)(hc:Chg [K.p] W W')(hm:Qcw K W' u' c)(tmps:Array Value)(h4:tmps.getD 4 undef=Pt ob):
  Leaves prog f17 tmps (Qfk K.w0 ⟨0,[],u',er⟩) [{target:=.fn (.func 42) #[Pt pm,Pt ob],args:=#[]}] (.panicking [{v:=.iface 101 (Iv er),recovered:=false}]) W':=by
 refine leaves_cons (f:=42) (args:=#[Pt pm,Pt ob]) zq (by simp[go_sem]) ?_;refine(Zf K u' c pm ob er [] W' hm (hc.heap_some (by simpa using h.low.2.2.2) h.pmb) (hc.heap_some (by simpa using h.low.2.2.1) h.res)).mono ?_;rintro e u2 xA ⟨rfl,rfl,g1,S1⟩;exact⟨_,Vo g1 rfl tmps h4,rfl,Qfb hm.bel h.low.1 S1⟩
def JkT{W:World}{X:QeD}(h:W.heap[ob]?=some (.cells (Qex X) 48 (0,0)))(hb:Bel K.w0 W)(tmps:Array Value)(h4:tmps.getD 4 undef=Pt ob):
  Leaves prog f17 tmps (Qfk K.w0 X) [{target:=.fn (.func 42) #[Pt pm,Pt ob],args:=#[]}] .returning W:=by
 refine leaves_cons (f:=42) (args:=#[Pt pm,Pt ob]) zq (by simp[go_sem]) ?_;refine(Jer _ _ W).mono ?_;rintro e u' xA ⟨rfl,rfl,I0⟩;exact⟨_,Vo ((I0.block _ (Jb h)).trans h) rfl tmps h4,rfl,Jd hb I0⟩
def RrI.o{W:World}(h:RrI K ob pm W u)(X:QeD):(∀j,W.frozen? ⟨ob,j,none⟩=false)/\ob<W.heap.size/\
  (((((W.setCell ⟨ob,0,none⟩ (Iv X.action)).setCell ⟨ob,1,none⟩ (Sv X.reason)).setCell ⟨ob,2,none⟩ (Iv X.used)).setCell ⟨ob,3,none⟩ (Iv X.fault)).heap[ob]?=some (.cells (Qex X) 48 (0,0)))/\
  Bel K.w0 ((((W.setCell ⟨ob,0,none⟩ (Iv X.action)).setCell ⟨ob,1,none⟩ (Sv X.reason)).setCell ⟨ob,2,none⟩ (Iv X.used)).setCell ⟨ob,3,none⟩ (Iv X.fault)):=
 ⟨λj=>Jc h.res j,Jb h.res,Qer _ _ _ _ h.res,Below.setCell (Below.setCell (Below.setCell (Below.setCell h.mr.bel h.low.1 _) h.low.1 _) h.low.1 _) h.low.1 _⟩
def Qhw{P:Prop}(h:P:=by
  clear O0;go_region;clear f0 f1 f2 f3 o0 o1 o2 o3 hlo;go_wp2;rw[<-IB.o.1]
  exact JkT TE.o.2.2.1 TE.o.2.2.2 _ rfl):P:=h
def Jes(r:Qah)(F:Qaj)(c:Array Value)(lv wv:Value)(w:World)(hx:QaV w (In w) r c)(hz:RSz r)(hF:FSz F)(hl:Qbx w lv F.labels)(hw:QaT w wv F.words):
  Calls prog 17 #[.agg c,.agg (QaI F lv wv)] w (Qfk w (QdM r F)):=by
 obtain⟨fa,fc,ca,cc,rfl,vC,hcl⟩:=hx.parts;obtain⟨la,lc,rfl,_⟩:=hl.form;obtain⟨wa,wc,rfl,_⟩:=hw.form;obtain⟨X,hX⟩:=yt (QdM r F)
 rw[hX];have hq:X=if Qat r=true/\QaF F=true then Qfc r F 0 r.clauses else⟨0,[],0,1⟩:=hX.symm;have HX:=Zh hq;have sB:yr w (((w.alloc (.cells (zY fa r.funcs.length fc ca r.clauses.length cc r.action) 25)).alloc (.cells (zV la F.labels.length lc F.likes F.boosts F.replies F.reports F.age F.home F.scope F.length F.follows F.reply wa F.words.length wc) 45)).alloc (.cells (yh 0 Em 0 0) 48)):=((zO.alloc (Nat.le_refl _) _).alloc zq _).alloc zr _;have O2:Hi (∀W,Below (((w.alloc (.cells (zY fa r.funcs.length fc ca r.clauses.length cc r.action) 25)).alloc (.cells (zV la F.labels.length lc F.likes F.boosts F.replies F.reports F.age F.home F.scope F.length F.follows F.reply wa F.words.length wc) 45)).alloc (.cells (yh 0 Em 0 0) 48)).heap.size (((w.alloc (.cells (zY fa r.funcs.length fc ca r.clauses.length cc r.action) 25)).alloc (.cells (zV la F.labels.length lc F.likes F.boosts F.replies F.reports F.age F.home F.scope F.length F.follows F.reply wa F.words.length wc) 45)).alloc (.cells (yh 0 Em 0 0) 48)) W->Bel w W):=λW hW=>Jd sB hW
 have nC:Hi ((((w.alloc (.cells (zY fa r.funcs.length fc ca r.clauses.length cc r.action) 25)).alloc (.cells (zV la F.labels.length lc F.likes F.boosts F.replies F.reports F.age F.home F.scope F.length F.follows F.reply wa F.words.length wc) 45)).alloc (.cells (yh 0 Em 0 0) 48)).heap[w.heap.size]?=some (.cells (zY fa r.funcs.length fc ca r.clauses.length cc r.action) 25 (0,0))):=Jf (Jf (zQ _ _))
 have A1:Hi ((((w.alloc (.cells (zY fa r.funcs.length fc ca r.clauses.length cc r.action) 25)).alloc (.cells (zV la F.labels.length lc F.likes F.boosts F.replies F.reports F.age F.home F.scope F.length F.follows F.reply wa F.words.length wc) 45)).alloc (.cells (yh 0 Em 0 0) 48)).heap[w.heap.size+1]?=some (.cells (zV la F.labels.length lc F.likes F.boosts F.replies F.reports F.age F.home F.scope F.length F.follows F.reply wa F.words.length wc) 45 (0,0))):=by
  have e1:=zQ (w.alloc (.cells (zY fa r.funcs.length fc ca r.clauses.length cc r.action) 25)) (.cells (zV la F.labels.length lc F.likes F.boosts F.replies F.reports F.age F.home F.scope F.length F.follows F.reply wa F.words.length wc) 45);simp only[World.size_alloc]at e1;exact Jf e1
 have A9:Hi ((((w.alloc (.cells (zY fa r.funcs.length fc ca r.clauses.length cc r.action) 25)).alloc (.cells (zV la F.labels.length lc F.likes F.boosts F.replies F.reports F.age F.home F.scope F.length F.follows F.reply wa F.words.length wc) 45)).alloc (.cells (yh 0 Em 0 0) 48)).heap[w.heap.size+1+1]?=some (.cells (yh 0 Em 0 0) 48 (0,0))):=by
  have e2:=zQ ((w.alloc (.cells (zY fa r.funcs.length fc ca r.clauses.length cc r.action) 25)).alloc (.cells (zV la F.labels.length lc F.likes F.boosts F.replies F.reports F.age F.home F.scope F.length F.follows F.reply wa F.words.length wc) 45)) (.cells (yh 0 Em 0 0) 48);simp only[World.size_alloc]at e2;exact e2
 have N6:=Zh hx;have aD:=Zh vC;have hC:=Zh hcl;have bC:=Zh hl;have pB:=Zh hw;have HZ:=Zh hz;have nB:=Zh hF;have Q6:Hi ((((w.alloc (.cells (zY fa r.funcs.length fc ca r.clauses.length cc r.action) 25)).alloc (.cells (zV la F.labels.length lc F.likes F.boosts F.replies F.reports F.age F.home F.scope F.length F.follows F.reply wa F.words.length wc) 45)).alloc (.cells (yh 0 Em 0 0) 48)).heap.size=w.heap.size+1+1+1):=by unfold Hi;simp
 have eD:=hz.nc;have yB:∀(fn:Fn)(first cap:Array Value)(w:World),(Instr.makeFunc fn first cap).run prog w=.ok (.func fn first cap) w:=λ_ _ _ _=>rfl
 have xC:=Zh yB;unfold QaI;clear sB hx vC hcl hl hw hz hF hX hq yB;go_enter_defers func17,ntmps17;go_upto_region 1 with fail
 have T2:Hi (Qkt w (w.heap.size+1+1)/\w.heap.size+1+1<(((w.alloc (.cells (zY fa r.funcs.length fc ca r.clauses.length cc r.action) 25)).alloc (.cells (zV la F.labels.length lc F.likes F.boosts F.replies F.reports F.age F.home F.scope F.length F.follows F.reply wa F.words.length wc) 45)).alloc (.cells (yh 0 Em 0 0) 48)).heap.size/\w.heap.size+1<(((w.alloc (.cells (zY fa r.funcs.length fc ca r.clauses.length cc r.action) 25)).alloc (.cells (zV la F.labels.length lc F.likes F.boosts F.replies F.reports F.age F.home F.scope F.length F.follows F.reply wa F.words.length wc) 45)).alloc (.cells (yh 0 Em 0 0) 48)).heap.size/\w.heap.size<(((w.alloc (.cells (zY fa r.funcs.length fc ca r.clauses.length cc r.action) 25)).alloc (.cells (zV la F.labels.length lc F.likes F.boosts F.replies F.reports F.age F.home F.scope F.length F.follows F.reply wa F.words.length wc) 45)).alloc (.cells (yh 0 Em 0 0) 48)).heap.size):=by
  have:=Q6.o;unfold Hi Qkt;omega
 clear Q6;generalize World.alloc (World.alloc (World.alloc w _) _) _=w1 at*;generalize w.heap.size+1+1=ob at*;generalize w.heap.size+1=fb at*;generalize w.heap.size=eb at*
 have FF:Hi (∀W,yr w1 W->(yY W eb (.slice fa r.funcs.length fc) (.slice ca r.clauses.length cc) (Iv r.action))/\xd W fb (.slice la F.labels.length lc) (Iv F.likes) (Iv F.boosts) (Iv F.replies) (Iv F.reports) (Iv F.age) (Iv F.home) (Iv F.scope) (Iv F.length) (.bool F.follows) (.bool F.reply) (.slice wa F.words.length wc)):=by
  intro W hW;have hr:=(hW.block _ T2.o.2.2.2).trans nC.o;have hf:=(hW.block _ T2.o.2.2.1).trans A1.o;refine⟨⟨?_,?_,?_⟩,?_,?_,?_,?_,?_,?_,?_,?_,?_,?_,?_,?_⟩
  all_goals first|(rw[Ja hr];rfl)|(rw[Ja hf];rfl)
 obtain⟨⟨r0,r1,r2⟩,b0,b1,b2,b3,b4,b5,b6,b7,b8,b9,b10,b11⟩:=FF.o _ zO;have cr:=KR r _ w1 (N6.o.up (O2.o _ zO)) HZ.o;go_wp2_with fail;refine cr.mono ?_;rintro e w2 ⟨rfl,I0⟩;clear cr r0 r1 r2 b0 b1 b2 b3 b4 b5 b6 b7 b8 b9 b10 b11;have A6:=Zh I0;clear I0
 cases BD:Qat r with
 |false=>
  have jA:X=⟨0,[],0,1⟩:=by rw[HX.o,if_neg λh=>by rw[BD]at h;exact absurd h.1 zq]
  subst jA;have xA:=(A6.o.block _ T2.o.2.1).trans A9.o;have f0:=Jc xA 0;have f1:=Jc xA 1;have f2:=Jc xA 2;have f3:=Jc xA 3;have o0:=Ja xA 0;have o1:=Ja xA 1;have o2:=Ja xA 2;have o3:=Ja xA 3;simp only[zW]at o0 o1 o2 o3;have hlo:=Jb xA;have iA:=Zh (Qer (Iv 0) Em (Iv 0) (Iv 1) xA);have eA:Hi (Bel w (((((w2.setCell ⟨ob,0,none⟩ (Iv 0)).setCell ⟨ob,1,none⟩ Em).setCell ⟨ob,2,none⟩ (Iv 0)).setCell ⟨ob,3,none⟩ (Iv 1)))):=Below.setCell (p:=⟨ob,3,none⟩) (Below.setCell (p:=⟨ob,2,none⟩) (Below.setCell (p:=⟨ob,1,none⟩) (Below.setCell (p:=⟨ob,0,none⟩) (O2.o _ A6.o) T2.o.1 _) T2.o.1 _) T2.o.1 _) T2.o.1 _;clear xA BD;go_wp2;exact⟨_,Vo iA.o rfl _ rfl,rfl,eA.o⟩
 |true=>
 obtain⟨⟨r0,r1,r2⟩,b0,b1,b2,b3,b4,b5,b6,b7,b8,b9,b10,b11⟩:=FF.o _ A6.o;have cf:=Y3 F (.slice la F.labels.length lc) (.slice wa F.words.length wc) w2 nB.o (bC.o.up (O2.o _ A6.o)) (pB.o.up (O2.o _ A6.o));unfold QaI at cf;go_wp2_with fail;refine cf.mono ?_;rintro e w3 ⟨rfl,tB⟩;clear cf r0 r1 r2 b0 b1 b2 b3 b4 b5 b6 b7 b8 b9 b10 b11;have cA:=Zh (Jd A6.o tB);clear tB
 cases QE:QaF F with
 |false=>
  have jA:X=⟨0,[],0,1⟩:=by rw[HX.o,if_neg λh=>by rw[QE]at h;exact absurd h.2 zq]
  subst jA;have xA:=(cA.o.block _ T2.o.2.1).trans A9.o;have f0:=Jc xA 0;have f1:=Jc xA 1;have f2:=Jc xA 2;have f3:=Jc xA 3;have o0:=Ja xA 0;have o1:=Ja xA 1;have o2:=Ja xA 2;have o3:=Ja xA 3;simp only[zW]at o0 o1 o2 o3;have hlo:=Jb xA;have iA:=Zh (Qer (Iv 0) Em (Iv 0) (Iv 1) xA);have eA:Hi (Bel w (((((w3.setCell ⟨ob,0,none⟩ (Iv 0)).setCell ⟨ob,1,none⟩ Em).setCell ⟨ob,2,none⟩ (Iv 0)).setCell ⟨ob,3,none⟩ (Iv 1)))):=Below.setCell (p:=⟨ob,3,none⟩) (Below.setCell (p:=⟨ob,2,none⟩) (Below.setCell (p:=⟨ob,1,none⟩) (Below.setCell (p:=⟨ob,0,none⟩) (O2.o _ cA.o) T2.o.1 _) T2.o.1 _) T2.o.1 _) T2.o.1 _;clear xA BD QE;go_wp2;exact⟨_,Vo iA.o rfl _ rfl,rfl,eA.o⟩
 |true=>
 replace HX:Hi (X=Qfc r F 0 (r.clauses.drop 0)):=by rw[Hi,HX.o,if_pos ⟨BD,QE⟩];rfl
 obtain⟨qB,rB,_⟩:=KS BD;have nA:=Zh (And.intro qB (And.intro rB QE));clear BD QE qB rB;obtain⟨⟨r0,r1,r2⟩,b0,b1,b2,b3,b4,b5,b6,b7,b8,b9,b10,b11⟩:=FF.o _ cA.o;have R7:Hi (w1.heap.size<=w3.heap.size):=cA.o.size;obtain⟨K,hK⟩:∃K:Qbw,K=⟨w,w3.heap.size,fa,fc,ca,cc,la,lc,wa,wc,r,F⟩:=⟨_,rfl⟩
 have yB:=xC.o;have zB:yr w3 ((w3.alloc (.cells (K.cells 0 0) 100)).alloc (.cells #[Pt w3.heap.size] 98)):=(zO.alloc (Nat.le_refl _) _).alloc zq _;have hB:=Zh (Jd cA.o zB);have rA:Bel w w3:=O2.o _ cA.o
 have dB:Hi K.Ok:=by
  subst hK;exact⟨aD.o,hC.o,bC.o,pB.o,HZ.o,nB.o,nA.o.1,nA.o.2.1,nA.o.2.2,rA.size⟩
 have zA:Hi (RrI K ob (w3.heap.size+1) ((w3.alloc (.cells (K.cells 0 0) 100)).alloc (.cells #[Pt w3.heap.size] 98)) 0):=by
  have pA:=(cA.o.block _ T2.o.2.1).trans A9.o;have e1:=zQ (w3.alloc (.cells (K.cells 0 0) 100)) (.cells #[Pt w3.heap.size] 98);simp only[World.size_alloc]at e1;have hlt:=Jb pA;have A2:w.heap.size<=w3.heap.size:=rA.size;have bA:K.p=w3.heap.size:=by rw[hK]
  have mA:K.w0=w:=by rw[hK]
  refine⟨⟨by rw[bA];exact Jf (zQ _ _),by rw[mA];exact Jd rA zB⟩,by rw[bA];exact e1,(zB.block _ hlt).trans pA,?_,?_,?_,?_⟩
  ·rw[mA];exact T2.o.1
  ·rw[mA];omega
  ·rw[bA];omega
  ·rw[bA];omega
 have qA:=Zh hK;have aC:K.cells 0 0=#[.slice fa r.funcs.length fc,.slice ca r.clauses.length cc,Iv r.action,.slice la F.labels.length lc,Iv F.likes,Iv F.boosts,Iv F.replies,Iv F.reports,Iv F.age,Iv F.home,Iv F.scope,Iv F.length,.bool F.follows,.bool F.reply,.slice wa F.words.length wc,Iv 0,Iv 0]:=by rw[hK];rfl
 rw[aC]at hB zA;clear zB rA hK aC;go_upto_region 5 with fail;clear r0 r1 r2 b0 b1 b2 b3 b4 b5 b6 b7 b8 b9 b10 b11 yB xC cA A6
 (try simp only[World.size_alloc])
 generalize World.alloc (World.alloc w3 _) _=w4 at*;obtain⟨pm,vB⟩:=yt (w3.heap.size+1)
 rw[vB]at zA;simp only[vB];clear vB;have bA:w3.heap.size=K.p:=by rw[qA.o]
 have mA:K.w0=w:=by rw[qA.o]
 have zC:K.r=r:=by rw[qA.o]
 have iC:K.F=F:=by rw[qA.o]
 have IB:=Zh (And.intro mA (And.intro zC iC))
 have I9:Hi (eb≠K.p/\eb<w4.heap.size):=by
  have h1:=T2.o.2.2.2;have h2:=hB.o.size;unfold Hi;refine⟨?_,by omega⟩;rw[<-bA];have h3:=R7.o;omega
 simp only[bA];clear bA mA zC iC O2 A1 A9
 have dC:Hi (∀W,Chg [K.p] w4 W->W.cell? ⟨eb,1,none⟩=some (.slice ca r.clauses.length cc)/\W.cell? ⟨eb,2,none⟩=some (Iv r.action)):=by
  intro W hW;obtain⟨⟨_,q1,q2⟩,_⟩:=FF.o _ hB.o;exact⟨hW.cell_some (p:=⟨eb,1,none⟩) (by simpa using I9.o.1) q1,hW.cell_some (p:=⟨eb,2,none⟩) (by simpa using I9.o.1) q2⟩
 obtain⟨q1,q2⟩:=dC.o _ (Chg.refl _ _);go_wp2_with fail;clear q1 q2;go_loopg [25] r.clauses.length λg v25 wr=>∃i u:Nat,g+i=r.clauses.length/\v25=Iv i/\Hi (RrI K ob pm wr u)/\Hi (Chg [K.p] w4 wr)/\Hi (u<=10000)/\Hi (X=Qfc r F u (r.clauses.drop i))
 case atStart=>exact⟨0,0,rfl,rfl,zA,Chg.refl _ _,by unfold Hi;omega,HX⟩
 case round=>
 clear zA HX;obtain⟨wl,rfl⟩:=zJ wr;obtain⟨i,u,hg,rfl,uA,tA,hu,xB⟩:=hrel
 by_cases hi:i<r.clauses.length
 ·have hil:(i:Int)<(r.clauses.length:Int):=zo;have wk:=zI i;obtain⟨m,hm⟩:∃m,r.clauses[i]?=some m:=⟨r.clauses[i],List.getElem?_eq_getElem hi⟩
  have hmem:=List.mem_of_getElem? hm;obtain⟨b,o,da,dc,jC,vA⟩:=hC.o.get hm;obtain⟨T4,hsz,_⟩:=HZ.o.cl m hmem;have G1:Bel w wl:=by have:=uA.o.mr.bel;rw[IB.o.1]at this;exact this
  have hA:∀j v,w.cell? ⟨b,o+i*6+j,none⟩=some v->wl.cell? ⟨b,o+i*6+j,none⟩=some v:=λj v hv=>(G1.cell (p:=⟨b,o+i*6+j,none⟩) vA.blt).trans hv
  have c0:=hA 0 _ vA.c0;have c1:=hA 1 _ vA.c1;have c2:=hA 2 _ vA.c2;have c3:=hA 3 _ vA.c3;have c4:=hA 4 _ vA.c4;have c5:=hA 5 _ vA.c5;rw[Nat.add_zero]at c0
  have eC:X=if u=10000 then⟨0,[],u,14⟩ else match evN (Qcb r.funcs F 100) F [] (u+1) m.cond with|.fault e u'=>⟨0,[],u',e⟩|.val v u'=>if v=0 then Qfc r F u' (r.clauses.drop (i+1)) else⟨m.action,m.reason,u',0⟩:=by
   have h1:=xB.o;have h2:r.clauses[i]=m:=(List.getElem?_eq_some_iff.1 hm).2;rw[List.drop_eq_getElem_cons hi,h2,Qfc]at h1;exact h1
  have dA:=Zh eC;have I3:yr wl (wl.alloc (.cells (yg m.cond.kind m.cond.num m.cond.name da m.cond.kids.length dc m.action m.reason) 39)):=zO.alloc (Nat.le_refl _) _;have mB:=Zh (uA.o.mr.up I3);have yC:Hi (Chg [K.p] wl (wl.alloc (.cells (yg m.cond.kind m.cond.num m.cond.name da m.cond.kids.length dc m.action m.reason) 39))):=Chg.of_below I3 [K.p];have aB:=Zh (zQ wl (.cells (yg m.cond.kind m.cond.num m.cond.name da m.cond.kids.length dc m.action m.reason) 39));have zA:=uA;have bD:=tA;have HU:=hu;have HG:=Zh hg;have A5:=Zh hi
  have jB:(wl.alloc (.cells (yg m.cond.kind m.cond.num m.cond.name da m.cond.kids.length dc m.action m.reason) 39)).cell? ⟨pm,0,none⟩=some (Pt K.p):=by
   have:=(I3.block _ (Jb uA.o.pmb)).trans uA.o.pmb;rw[Ja this];rfl
  have aA:∀W',Qcw K W' (u+1) 0->u+1<=10000->EvH K 0 m.cond (zg m.cond.kind m.cond.num m.cond.name da m.cond.kids.length dc) [] [] Nl 40 1 W' (u+1):=λW' h1 h2=>by
   have hr:=IB.o;refine⟨T4,by simp;omega,by rw[hr.1];exact vA.cond,?_,?_,QdC.nil,h2,h1,.inl ⟨rfl,none,0,rfl⟩⟩
   ·rw[hr.2.1];exact YY nA.o.1 hmem
   ·rw[hr.2.1];exact JbJ nA.o.2.1 hmem
  have gC:=Zh aA;have cD:Hi (w.heap.size<=wl.heap.size):=G1.size;subst jC;clear I3 hmem vA G1 hA eC xB uA tA hu hg hi hm aA T4 hsz;go_upto_region 8 with fail;clear c0 c1 c2 c3 c4 c5;have Y6:Hi (wl.heap.size≠K.p/\wl.heap.size<(wl.alloc (.cells (yg m.cond.kind m.cond.num m.cond.name da m.cond.kids.length dc m.action m.reason) 39)).heap.size):=⟨by have:=zA.o.mr.lt;omega,by simp⟩
  generalize World.alloc wl _=w5 at*;generalize wl.heap.size=cb at*;have cs:=Jaj K dB.o w5 u 0 mB.o HU.o;go_wp2_with fail;refine cs.mono ?_;intro e w6 h6;unfold Qes at h6;clear cs jB
  by_cases hu1:u=10000
  ·rw[if_pos hu1]at h6;obtain⟨rfl,rfl⟩:=h6;have jA:X=⟨0,[],u,14⟩:=by rw[dA.o,if_pos hu1]
   rw[jA];rw[<-IB.o.1];exact Jdf 14 zA.o yC.o mB.o _ rfl
  rw[if_neg hu1]at h6;obtain⟨rfl,j7,O1⟩:=h6;have dD:=Zh j7;have G6:=Zh (yC.o.trans O1)
  have uB:∀W,Chg [K.p] w5 W->yZ W cb (Iv m.cond.kind) (Iv m.cond.num) (Sv m.cond.name) (.slice da m.cond.kids.length dc) (Iv m.action) (Sv m.reason):=by
   intro W hW;have hh:=hW.heap_some (by simpa using Y6.o.1) aB.o;refine⟨?_,?_,?_,?_,?_,?_⟩<;>(rw[Ja hh];rfl)
  have vD:=Zh uB;have cB:=Zh O1
  have gA:∀W,Chg [K.p] wl W->W.cell? ⟨pm,0,none⟩=some (Pt K.p):=λW hW=>by
   have:=hW.heap_some (by simpa using zA.o.low.2.2.2) zA.o.pmb;rw[Ja this];rfl
  have uD:=Zh gA;obtain⟨k0,k1,k2,k3,k4,k5⟩:=uB _ O1;have xD:=gA _ G6.o;have kB:u+1<=10000:=by have:=HU.o;omega
  have hH:=gC.o w6 j7 kB;have eB:=Zh (hH.ok dB.o 100);have ci:=JiI K dB.o m.cond _ [] [] _ _ _ w6 (u+1) hH;rw[IB.o.2.1,IB.o.2.2]at ci;replace dA:Hi (X=match evN (Qcb r.funcs F 100) F [] (u+1) m.cond with|.fault e u'=>⟨0,[],u',e⟩|.val v u'=>if v=0 then Qfc r F u' (r.clauses.drop (i+1)) else⟨m.action,m.reason,u',0⟩):=by rw[Hi,dA.o,if_neg hu1]
  clear j7 O1 uB gA hu1 kB hH gC;go_wp2_with fail;refine ci.mono ?_;clear ci k0 k1 k2 k3 k4 k5 xD;have sA:=eB.o;unfold evK at sA;rw[IB.o.2.1,IB.o.2.2]at sA
  cases aA:evN (Qcb r.funcs F 100) F [] (u+1) m.cond with
  |fault er u'=>
   rintro e w7 ⟨rfl,⟨c7,kA⟩,I4⟩;have jA:X=⟨0,[],u',er⟩:=by rw[dA.o,aA]
   rw[jA];rw[<-IB.o.1];exact Jdf er zA.o (G6.o.trans I4) kA _ rfl
  |val v u'=>
   rw[aA]at sA;obtain⟨_,bB,uC⟩:=sA;rintro e w7 ⟨rfl,kA,I4⟩;have yA:=Zh (RrI.on (c:=0) zA.o (G6.o.trans I4) kA);have iB:Hi (Chg [K.p] w4 w7):=bD.o.trans (G6.o.trans I4);have kC:=Zh bB;obtain⟨k0,k1,k2,k3,k4,k5⟩:=vD.o _ (cB.o.trans I4);have rC:=uD.o _ (G6.o.trans I4)
   by_cases hv:v=0
   ·have yD:Hi (X=Qfc r F u' (r.clauses.drop (i+1))):=by rw[Hi,dA.o,aA];dsimp only;rw[if_pos hv]
    subst hv;clear aA bB uC kA I4 eB dA;go_wp2;go_roundg (r.clauses.length-(i+1))
    case measure=>have:=HG.o;have:=A5.o;omega
    case rel=>exact⟨i+1,u',by have:=A5.o;omega,by go_num,yA,iB,kC,yD⟩
   ·have pC:X=⟨m.action,m.reason,u',0⟩:=by rw[dA.o,aA];dsimp only;rw[if_neg hv]
    subst pC;have e0:(v==0)=false:=zM hv;have e1:(v !=0)=true:=by rw[bne,e0];rfl
    have tC:w7.cell? ⟨K.p,15,none⟩=some (Iv u'):=Ja kA.self 15;have zD:=yA.o.res;clear aA bB uC kA I4 eB dA hv;go_upto_region 10 with fail;have O0:=yA.o.res;have f0:=Jc O0 0;have f1:=Jc O0 1;have f2:=Jc O0 2;have f3:=Jc O0 3;have o0:=Ja O0 0;have o1:=Ja O0 1;have o2:=Ja O0 2;have o3:=Ja O0 3;simp only[zW]at o0 o1 o2 o3;have hlo:=Jb O0;have gB:=Zh (RrI.on (c:=0) yA.o (Chg.of_below (Below.refl w7.heap.size w7).drew [K.p]) yA.o.mr.drew);have TE:=Zh (gB.o.o ⟨m.action,m.reason,u',0⟩);exact Qhw
 have hil:¬(i:Int)<(r.clauses.length:Int):=zo;obtain rfl:i=r.clauses.length:=zo
 have qC:X=⟨r.action,[],u,0⟩:=by
  have h1:=xB.o;rw[List.drop_length,Qfc]at h1;exact h1
 subst qC;obtain⟨q1,q2⟩:=dC.o _ tA.o
 have rC:wl.cell? ⟨pm,0,none⟩=some (Pt K.p):=by
  rw[Ja uA.o.pmb];rfl
 have tC:wl.cell? ⟨K.p,15,none⟩=some (Iv u):=Ja uA.o.mr.self 15;have yA:=uA;clear xB hg hi tA hu uA;go_upto_region 12 with fail;have O0:=yA.o.res;have f0:=Jc O0 0;have f1:=Jc O0 1;have f2:=Jc O0 2;have f3:=Jc O0 3;have o0:=Ja O0 0;have o1:=Ja O0 1;have o2:=Ja O0 2;have o3:=Ja O0 3;simp only[zW]at o0 o1 o2 o3;have hlo:=Jb O0;have gB:=Zh (RrI.on (c:=0) yA.o (Chg.of_below (Below.refl wl.heap.size wl).drew [K.p]) yA.o.mr.drew);have TE:=Zh (gB.o.o ⟨r.action,[],u,0⟩);exact Qhw
def Jas{c:Qaf}{F:Qaj}:∀(i j:Nat)(s a b:StM),Qaw c F i s=some a->a.fin=true->Qaw c F j s=some b->b.fin=true->a=b
 |0,0,s,a,b,h1,_,h2,_=>by rw[Qaw]at h1 h2;exact(Option.some.inj h1).symm.trans (Option.some.inj h2)
 |0,j+1,s,a,b,h1,hf,h2,_=>by
  simp only[Qaw]at h1 h2;obtain rfl:=Option.some.inj h1;unfold QbZ at h2;rw[if_pos hf]at h2
  cases h2
 |i+1,0,s,a,b,h1,_,h2,hf=>by
  simp only[Qaw]at h1 h2;obtain rfl:=Option.some.inj h2;unfold QbZ at h1;rw[if_pos hf]at h1
  cases h1
 |i+1,j+1,s,a,b,h1,ha,h2,hb=>by
  rw[Qaw]at h1 h2
  cases hx:QbZ c F s with
  |none=>rw[hx]at h1;cases h1
  |some s1=>
   rw[hx]at h1 h2;exact Jas i j s1 a b h1 ha h2 hb
def Jdg{c:Qaf}{F:Qaj}:∀(j k:Nat)(s a b:StM),Qaw c F j s=some a->Qaw c F (j+k) s=some b->Qaw c F k a=some b
 |0,k,s,a,b,h1,h2=>by
  rw[Qaw]at h1;obtain rfl:=Option.some.inj h1;rw[Nat.zero_add]at h2;exact h2
 |j+1,k,s,a,b,h1,h2=>by
  rw[Nat.add_right_comm,Qaw]at h2;rw[Qaw]at h1
  cases hx:QbZ c F s with
  |none=>rw[hx]at h1;cases h1
  |some s1=>
   rw[hx]at h1 h2;exact Jdg j k s1 a b h1 h2
def Jbf{c:Qaf}{F:Qaj}:∀(j:Nat)(s a b:StM),Qaw c F j s=some a->QbZ c F a=some b->Qaw c F (j+1) s=some b
 |0,s,a,b,h1,h2=>by
  rw[Qaw]at h1;obtain rfl:=Option.some.inj h1;rw[Qaw,h2];rfl
 |j+1,s,a,b,h1,h2=>by
  rw[Qaw]at h1
  cases hx:QbZ c F s with
  |none=>rw[hx]at h1;cases h1
  |some s1=>
   rw[hx]at h1;rw[Qaw,hx];exact Jbf j s1 a b h1 h2
structure Qjm(c:Qaf)(o:OpM)(s:StM):Prop where
 pc:s.pc<c.ops.length
 at':c.ops[s.pc]?=some o
 len:s.st.length<=1000000000000
 inr:∀x∈s.st,InR x
 used:s.used<=10000
 calls:s.calls.length<=100
 jump:isJ o->0<=o.n
 call:o.code=19->0<=o.n/\o.n.toNat<c.params.length/\o.n.toNat<c.slots.length/\o.n.toNat<c.starts.length
 code:∃k:Nat,k<23/\o.code=(k:Int)
def JkU{F:Qaj}(hr:Qat r=true)(hF:QaF F=true)(hlen:(Qac r).ops.length<=40000000){j kT:Nat}{s sE:StM}(hT:Qaw (Qac r) F kT (Qbf (Qac r))=some sE)(hE:sE.fin=true)(hs:Qaw (Qac r) F j (Qbf (Qac r))=some s)(hj:j<=kT)(hf:s.fin=false):
  j+1<=kT/\∃o s',Qjm (Qac r) o s/\Qbg (Qac r) F o {s with pc:=s.pc+1}=some s'/\Qaw (Qac r) F (j+1) (Qbf (Qac r))=some s':=by
 obtain⟨k,rfl⟩:∃k,kT=j+k:=⟨kT-j,by omega⟩
 have hc:=Jdg j k _ s sE hs hT
 cases k with
 |zero=>
  rw[Qaw]at hc;obtain rfl:=Option.some.inj hc;rw[hE]at hf
  cases hf
 |succ k=>
  refine⟨by omega,?_⟩;rw[Qaw]at hc
  cases hx:QbZ (Qac r) F s with
  |none=>rw[hx]at hc;cases hc
  |some s1=>
   have yA:=hx;unfold QbZ at hx;rw[if_neg (by rw[hf];simp)]at hx
   cases ho:(Qac r).ops[s.pc]? with
   |none=>rw[ho]at hx;cases hx
   |some o=>
    rw[ho]at hx;have xA:=(List.getElem?_eq_some_iff.1 ho).1
    have h0:QgL (Qac r) (Qbf (Qac r)):=by
     unfold Qbf
     exact⟨Nat.zero_le _,λx hx=>by simp at hx,λx hx=>by
      obtain⟨_,rfl⟩:=List.mem_replicate.1 hx;unfold InR
      omega,λx hx=>by simp at hx,by simp,by simp⟩
    obtain⟨h1,h2,h3⟩:=JcK (JaV hr) hF j _ s h0 hs
    have zA:phi (Qac r) (Qbf (Qac r))<=1000000000000:=by
     unfold phi Qbf;simp only[frW];omega
    have hst:(Qbf (Qac r)).st.length=0:=rfl;obtain⟨i,q1,q2,q3⟩:=Jie r xA;obtain⟨_,uA,_,dep,_,h5⟩:=VX hr i q1;obtain⟨o',g1,g2,_⟩:=h5 _ q2 q3;rw[ho]at g1;obtain rfl:=Option.some.inj g1;obtain⟨l1,l2,l3,l4⟩:=JL r;refine⟨o,s1,⟨xA,ho,by omega,h1.st,h1.used,h1.many,λe=>by have:=(g2.nj e).1;omega,λe=>?_,?_⟩,hx,Jbf j _ s s1 hs yA⟩
    ·have:=g2.nc e;rw[l1,l3];rw[l2]at this |-;omega
    ·have:=g2.code;exact⟨o.code.toNat,by omega,by omega⟩
def zR{P:Prop}(h:P:=by exact ⟨Ja (zA.o _ HD.o) 0,Ja (zA.o _ HD.o) 1,Ja (zA.o _ HD.o) 2,Ja (yA.o _ HD.o) 0,Ja (yA.o _ HD.o) 1,Ja (yA.o _ HD.o) 2,Ja (yA.o _ HD.o) 3,Ja (xA.o _ HD.o) 0,Ja (xA.o _ HD.o) 1,Ja (xA.o _ HD.o) 2,Ja (xA.o _ HD.o) 3,Ja (xA.o _ HD.o) 4,Ja (xA.o _ HD.o) 5,Ja (xA.o _ HD.o) 6,Ja (xA.o _ HD.o) 7,Ja (xA.o _ HD.o) 8,Ja (xA.o _ HD.o) 9,Ja (xA.o _ HD.o) 10,Ja (xA.o _ HD.o) 11⟩):P:=h
def zS{P:Prop}(h:P:=by exact ⟨Ja (zA.o _ HA.o) 0,Ja (zA.o _ HA.o) 1,Ja (zA.o _ HA.o) 2,Ja (yA.o _ HA.o) 0,Ja (yA.o _ HA.o) 1,Ja (yA.o _ HA.o) 2,Ja (yA.o _ HA.o) 3,Ja (xA.o _ HA.o) 0,Ja (xA.o _ HA.o) 1,Ja (xA.o _ HA.o) 2,Ja (xA.o _ HA.o) 3,Ja (xA.o _ HA.o) 4,Ja (xA.o _ HA.o) 5,Ja (xA.o _ HA.o) 6,Ja (xA.o _ HA.o) 7,Ja (xA.o _ HA.o) 8,Ja (xA.o _ HA.o) 9,Ja (xA.o _ HA.o) 10,Ja (xA.o _ HA.o) 11⟩):P:=h
def zT{P:Prop}(h:P:=by exact ⟨Ja (zA.o _ A4.o) 0,Ja (zA.o _ A4.o) 1,Ja (zA.o _ A4.o) 2,Ja (yA.o _ A4.o) 0,Ja (yA.o _ A4.o) 1,Ja (yA.o _ A4.o) 2,Ja (yA.o _ A4.o) 3,Ja (xA.o _ A4.o) 0,Ja (xA.o _ A4.o) 1,Ja (xA.o _ A4.o) 2,Ja (xA.o _ A4.o) 3,Ja (xA.o _ A4.o) 4,Ja (xA.o _ A4.o) 5,Ja (xA.o _ A4.o) 6,Ja (xA.o _ A4.o) 7,Ja (xA.o _ A4.o) 8,Ja (xA.o _ A4.o) 9,Ja (xA.o _ A4.o) 10,Ja (xA.o _ A4.o) 11⟩):P:=h
def zd{P:Prop}(h:P:=by exact ⟨Ja (zA.o _ Q1.o) 0,Ja (zA.o _ Q1.o) 1,Ja (zA.o _ Q1.o) 2,Ja (yA.o _ Q1.o) 0,Ja (yA.o _ Q1.o) 1,Ja (yA.o _ Q1.o) 2,Ja (yA.o _ Q1.o) 3,Ja (xA.o _ Q1.o) 0,Ja (xA.o _ Q1.o) 1,Ja (xA.o _ Q1.o) 2,Ja (xA.o _ Q1.o) 3,Ja (xA.o _ Q1.o) 4,Ja (xA.o _ Q1.o) 5,Ja (xA.o _ Q1.o) 6,Ja (xA.o _ Q1.o) 7,Ja (xA.o _ Q1.o) 8,Ja (xA.o _ Q1.o) 9,Ja (xA.o _ Q1.o) 10,Ja (xA.o _ Q1.o) 11⟩):P:=h
def ze{P:Prop}(h:P:=by exact ⟨Ja (zA.o _ uA.o) 0,Ja (zA.o _ uA.o) 1,Ja (zA.o _ uA.o) 2,Ja (yA.o _ uA.o) 0,Ja (yA.o _ uA.o) 1,Ja (yA.o _ uA.o) 2,Ja (yA.o _ uA.o) 3,Ja (xA.o _ uA.o) 0,Ja (xA.o _ uA.o) 1,Ja (xA.o _ uA.o) 2,Ja (xA.o _ uA.o) 3,Ja (xA.o _ uA.o) 4,Ja (xA.o _ uA.o) 5,Ja (xA.o _ uA.o) 6,Ja (xA.o _ uA.o) 7,Ja (xA.o _ uA.o) 8,Ja (xA.o _ uA.o) 9,Ja (xA.o _ uA.o) 10,Ja (xA.o _ uA.o) 11⟩):P:=h
def CV.mono{W:World}{c:Qaf}{d:Array Value}(h:CV W p c d)(hq:p<=q):CV W q c d:=by
 obtain⟨v0,v1,v2,v3,h0,h1,h2,h3,h4⟩:=h;exact⟨v0,v1,v2,v3,h0,Qan.keep (λ_ _=>rfl) (λb hb=>lt_of_lt_of_le hb hq) (λ_ _ h=>h) h1,Qan.keep (λ_ _=>rfl) (λb hb=>lt_of_lt_of_le hb hq) (λ_ _ h=>h) h2,Qan.keep (λ_ _=>rfl) (λb hb=>lt_of_lt_of_le hb hq) (λ_ _ h=>h) h3,Qan.keep (λ_ _=>rfl) (λb hb=>lt_of_lt_of_le hb hq) (λ_ _ h=>h) h4⟩
def VJ(hz:RSz r)(h:(Qac r).ops.length<=40000000):QbI (Qac r):=by
 obtain⟨l1,l2,l3,_⟩:=JL r;have:=hz.nf;exact⟨by omega,by omega,by omega,by omega⟩
def CV.rows{W:World}{c:Qaf}{x0 x1 x2 x3:Value}(h:CV W p c #[x0,x1,x2,x3]):Qgc W p x0 c.ops/\QbX W p x1 c.starts/\QbX W p x2 c.params/\QbX W p x3 c.slots:=by
 obtain⟨v0,v1,v2,v3,h0,h1,h2,h3,h4⟩:=h;simp at h0;obtain⟨rfl,rfl,rfl,rfl⟩:=h0;exact⟨h1,h2,h3,h4⟩
variable{v:Value}
def QbX.mono{W:World}{l:List Int}(h:QbX W p v l)(hq:p<=q):QbX W q v l:=Qan.keep (λ_ _=>rfl) (λb hb=>lt_of_lt_of_le hb hq) (λ_ _ h=>h) h
def Qdq.mono{W:World}{l:List (By×Int)}(h:Qdq W p v l)(hq:p<=q):Qdq W q v l:=Qan.keep (λ_ _=>rfl) (λb hb=>lt_of_lt_of_le hb hq) (λ_ _ h=>h) h
def QcB.mono{W:World}{l:List By}(h:QcB W p v l)(hq:p<=q):QcB W q v l:=Qan.keep (λ_ _=>rfl) (λb hb=>lt_of_lt_of_le hb hq) (λ_ _ h=>h) h
def JiS(hk:QeH r):(∀x∈(Qac r).starts,0<=x)/\(∀x∈(Qac r).params,0<=x)/\∀x∈(Qac r).slots,0<=x/\x<=1000000000:=by
 refine⟨λx hx=>((JaV hk.right).starts x hx).1,λx hx=>?_,λx hx=>?_⟩
 ·rw[K7]at hx;obtain⟨n,_,rfl⟩:=List.mem_map.1 hx;omega
 ·obtain⟨i,hi⟩:=List.getElem?_of_mem hx;have hlt:=(List.getElem?_eq_some_iff.1 hi).1;rw[(JL r).2.2.1]at hlt
  by_cases e:i<r.funcs.length
  ·obtain⟨_,_,_,h2,_,_⟩:=YH e;rw[h2]at hi;have:=JbR hk (k:=i+1) zo;rw[Option.some.inj hi]at this;omega
  ·have e2:i=r.funcs.length:=zo;subst e2;have h2:=(YI r).1;rw[h2]at hi;have:=JbR hk (k:=0) (Nat.zero_le _);rw[Option.some.inj hi]at this;omega
def JmZ:hdl.all (λf=>match prog.funcs[f]? with|some fn=>!(fn.name=="runtime.NumGoroutine")&&!fn.body.isNone|none=>false)=true:=zk
def JkV{k:Nat}(hk:k<23)(args:Array Value)(w:World):(callFunc (hdl.getD k 0) args).run prog w=.ok (.enter (hdl.getD k 0) args) w:=by
 have hl:k<hdl.length:=hk
 have hm:hdl.getD k 0∈hdl:=by
  rw[List.getD_eq_getElem?_getD,List.getElem?_eq_getElem hl];exact List.getElem_mem hl
 have h:=List.all_eq_true.1 JmZ _ hm;generalize hdl.getD k 0=f at*
 cases hf:prog.funcs[f]? with
 |none=>rw[hf]at h;cases h
 |some fn=>
  rw[hf]at h;simp only[Bool.and_eq_true,Bool.not_eq_true']at h;unfold callFunc;have h1:¬fn.name="runtime.NumGoroutine":=by simpa using h.1
  have h2:¬fn.body=none:=by
   have:=h.2
   cases hb:fn.body with
   |none=>rw[hb]at this;cases this
   |some b=>simp
  simp[Sem.run_bind,Result.andThen,hf];rw[if_neg h1,if_neg h2]
def QbB(r:Qah)(q:Qaf)(F:Qaj):QeD:=if q=Qai r then QdM r F else⟨0,[],0,1⟩
def Joo(w:World)(o0 o1 o2 o3:Obj):yr w ((((w.alloc o0).alloc o1).alloc o2).alloc o3)/\((((w.alloc o0).alloc o1).alloc o2).alloc o3).heap[w.heap.size]?=some o0/\((((w.alloc o0).alloc o1).alloc o2).alloc o3).heap[w.heap.size+1]?=some o1/\
  ((((w.alloc o0).alloc o1).alloc o2).alloc o3).heap[w.heap.size+1+1]?=some o2/\((((w.alloc o0).alloc o1).alloc o2).alloc o3).heap[w.heap.size+1+1+1]?=some o3:=by
 have h0:=zQ w o0;have h1:=zQ (w.alloc o0) o1;have h2:=zQ ((w.alloc o0).alloc o1) o2;have h3:=zQ (((w.alloc o0).alloc o1).alloc o2) o3;simp only[World.size_alloc]at h1 h2 h3;exact⟨(((zO.alloc zP _).alloc (by simp only[World.size_alloc];omega) _).alloc (by simp only[World.size_alloc];omega) _).alloc (by simp only[World.size_alloc];omega) _,Jf (Jf (Jf h0)),Jf (Jf h1),Jf h2,h3⟩
def Qiw{P:Prop}(h:P:=by
  exact(((hb.setCell (by simpa using A9.o) _).setCell (by simpa using A9.o) _).setCell (by simpa using A9.o) _).setCell (by simpa using A9.o) _):P:=h
def KM(r:Qah)(F:Qaj)(q:Qaf)(rc d:Array Value)(lv wv:Value)(p:Nat)(w:World)(hx:QaV w (In w) r rc)(hz:RSz r)(hsh:Qat r=true->(Qac r).ops.length<=40000000)(hF:FSz F)(hl:Qbx w lv F.labels)(hw:QaT w wv F.words)(hp:p<=w.heap.size)(hd:CV w p q d)(hq:QbI q):
  Calls prog 12 #[.agg rc,.agg d,.agg (QaI F lv wv)] w (Qfk w (QbB r q F)):=by
 obtain⟨R,hR⟩:=yt (Qfk w (QbB r q F))
 rw[hR];have HR:Hi (R=Qfk w (QbB r q F)):=hR.symm;have eC:=hd;have rB:=hx;obtain⟨a0,c0,a1,c1,a2,c2,a3,c3,rfl,g0,g1,g2,g3⟩:=hd.g;obtain⟨fa,fc,ca,cc,rfl,_,_⟩:=hx.parts;obtain⟨la,lc,rfl,_⟩:=hl.form;obtain⟨wa,wc,rfl,_⟩:=hw.form;obtain⟨n0,R4⟩:∃n,q.ops.length=n:=⟨_,rfl⟩
 obtain⟨n1,P4⟩:∃n,q.starts.length=n:=⟨_,rfl⟩
 obtain⟨n2,iC⟩:∃n,q.params.length=n:=⟨_,rfl⟩
 obtain⟨n3,uC⟩:∃n,q.slots.length=n:=⟨_,rfl⟩
 obtain⟨nf,uD⟩:∃n,r.funcs.length=n:=⟨_,rfl⟩
 obtain⟨nc,eD⟩:∃n,r.clauses.length=n:=⟨_,rfl⟩
 obtain⟨ln,qB⟩:∃n,F.labels.length=n:=⟨_,rfl⟩
 obtain⟨wn,tB⟩:∃n,F.words.length=n:=⟨_,rfl⟩
 rw[R4,P4,iC,uC]at eC |-;rw[uD,eD]at rB |-;rw[qB]at hl |-;rw[tB]at hw |-;unfold QaI;have R0:=Joo w (.cells (zY fa nf fc ca nc cc r.action) 25) (.cells (zm a0 n0 c0 a1 n1 c1 a2 n2 c2 a3 n3 c3) 31) (.cells (zV la ln lc F.likes F.boosts F.replies F.reports F.age F.home F.scope F.length F.follows F.reply wa wn wc) 45) (.cells (yh 0 Em 0 0) 48);have HB:=Zh R0.1;have zA:=Zh (BxB.of R0.2.1);have yA:=Zh (BxB.of R0.2.2.1);have xA:=Zh (BxB.of R0.2.2.2.1);have rA:=Zh (BxB.of R0.2.2.2.2);have qC:=Zh rB;have HZ:=Zh hz;have bD:=Zh hsh;have pB:=Zh hF;have gD:=Zh hl;have pD:=Zh hw;have E6:=Zh eC;have rD:=Zh hq;have L4:=Zh hp;have eE:=Zh g0;have iE:=Zh g3;have HN:=Zh (And.intro R4 (And.intro P4 (And.intro iC uC)));have pE:=Zh (And.intro qB tB);clear hR hd eC hx rB hl hw hz hsh hF hp hq g0 g1 g2 g3 R4 P4 iC uC uD eD qB tB R0;go_enter func12,ntmps12;go_upto_region 1 with fail
 try simp only[World.size_alloc]
 obtain⟨ob,vD⟩:=yt (w.heap.size+1+1+1)
 obtain⟨fb,jD⟩:=yt (w.heap.size+1+1)
 obtain⟨cb,C3⟩:=yt (w.heap.size+1)
 obtain⟨rb,nD⟩:=yt w.heap.size
 rw[vD]at rA |-;rw[jD]at xA |-;rw[C3]at yA |-;rw[nD]at zA |-;have A9:Hi (w.heap.size<=ob):=by unfold Hi;omega
 clear vD jD C3 nD;generalize World.alloc (World.alloc (World.alloc (World.alloc w _) _) _) _=w1 at*;have HD:Hi (yr w1 w1.drew):=zO.drew;have CR:=Zh λW (hb:yr w1 W)=>KR r _ W (qC.o.up' (HB.o.trans (hb.mono HB.o.size))) HZ.o;have CF:=Zh λW (hb:yr w1 W)=>Y3 F (.slice la ln lc) (.slice wa wn wc) W pB.o (gD.o.up (HB.o.trans (hb.mono HB.o.size))) (pD.o.up (HB.o.trans (hb.mono HB.o.size)));have CO:=Zh λW (hb:yr w1 W)=>Ki r _ W (qC.o.up' (HB.o.trans (hb.mono HB.o.size))) HZ.o bD.o
 cases d7:Qat r with
 |false=>
  have cr:=CR.o w1.drew HD.o;rw[d7]at cr
  have HV:Hi (QbB r q F=⟨0,[],0,1⟩):=by
   unfold Hi QbB QdM;rw[d7];split
   ·rw[if_neg zq]
   ·rfl
  clear d7 CR CF CO;refine wp_region_held_drew (S:=(λW=>xg W rb (.slice fa nf fc) (.slice ca nc cc) (Iv r.action) (xe W cb (.slice a0 n0 c0) (.slice a1 n1 c1) (.slice a2 n2 c2) (.slice a3 n3 c3) (xd W fb (.slice la ln lc) (Iv F.likes) (Iv F.boosts) (Iv F.replies) (Iv F.reports) (Iv F.age) (Iv F.home) (Iv F.scope) (Iv F.length) (.bool F.follows) (.bool F.reply) (.slice wa wn wc))))) zk zR λhH=>?_;refine zK 0 ?_
  try simp only[zX]
  refine ZS 1 rfl λK hK=>?_
  (go_simp;go_at_call 11;refine(cr).mono ?_;rintro e wA ⟨rfl,dA⟩)
  have HA:Hi (yr w1 wA):=HD.o.trans (dA.mono HD.o.size);clear dA;refine zU hK zS λhH=>?_;clear hK K
  try simp only[zX]
  refine zK 2 ?_;refine zK 3 ?_;refine zL 4 ?_;try simp only[zX];refine zL 5 ?_;refine zL 6 ?_;refine zK 7 ?_;try simp only[zX];refine zK 8 ?_;refine zL 9 ?_;refine zL 10 ?_;try simp only[zX];refine zL 11 ?_;refine zL 12 ?_;refine zL 13 ?_;try simp only[zX];refine zK 14 ?_;try simp only[zX]
  refine wpAnyH_done zk ?_ _;have HQ:=Zh (rA.o _ HA.o);have q0:=Ja HQ.o 0;have q1:=Ja HQ.o 1;have q2:=Ja HQ.o 2;have q3:=Ja HQ.o 3;have f0:=Jc HQ.o 0;have f1:=Jc HQ.o 1;have f2:=Jc HQ.o 2;have f3:=Jc HQ.o 3;simp only[zW]at q0 q1 q2 q3;go_wp2;clear q0 q1 q2 q3 f0 f1 f2 f3;refine bodyPost_ret (v:=.agg (yh 0 Em 0 1)) (results_cell_row rfl _ _ ob 48 _ (0,0) _ rfl (Qer _ _ _ _ HQ.o) underlying48 rfl QdG) rfl ?_;rw[HR.o,HV.o];refine⟨rfl,?_⟩;have hb:=HB.o.trans (HA.o.mono HB.o.size);exact Qiw
 |true=>
 cases CD:QaF F with
 |false=>
  have cr:=CR.o w1.drew HD.o;rw[d7]at cr
  have HV:Hi (QbB r q F=⟨0,[],0,1⟩):=by
   unfold Hi QbB QdM;rw[CD];split
   ·rw[if_neg zq]
   ·rfl
  clear d7 CR CO;refine wp_region_held_drew (S:=(λW=>xg W rb (.slice fa nf fc) (.slice ca nc cc) (Iv r.action) (xe W cb (.slice a0 n0 c0) (.slice a1 n1 c1) (.slice a2 n2 c2) (.slice a3 n3 c3) (xd W fb (.slice la ln lc) (Iv F.likes) (Iv F.boosts) (Iv F.replies) (Iv F.reports) (Iv F.age) (Iv F.home) (Iv F.scope) (Iv F.length) (.bool F.follows) (.bool F.reply) (.slice wa wn wc))))) zk zR λhH=>?_;refine zK 0 ?_
  try simp only[zX]
  refine ZS 1 rfl λK hK=>?_
  (go_simp;go_at_call 11;refine(cr).mono ?_;rintro e wA ⟨rfl,dA⟩)
  have HA:Hi (yr w1 wA):=HD.o.trans (dA.mono HD.o.size);clear dA;refine zU hK zS λhH=>?_;clear hK K
  try simp only[zX]
  refine zK 2 ?_;refine zK 3 ?_;refine zK 4 ?_;try simp only[zX]
  refine ZS 5 rfl λK hK=>?_;have cf:=CF.o wA HA.o;unfold QaI at cf;rw[CD]at cf
  (go_simp;go_at_call 13;refine cf.mono ?_;clear cf;rintro e wB ⟨rfl,jA⟩)
  have A4:Hi (yr w1 wB):=HA.o.trans (jA.mono HA.o.size);clear jA;refine zU hK zT λhH=>?_;clear hK K
  try simp only[zX]
  refine zK 6 ?_;refine zK 7 ?_;refine zK 8 ?_;try simp only[zX];refine zL 9 ?_;refine zL 10 ?_;refine zL 11 ?_;try simp only[zX];refine zL 12 ?_;refine zL 13 ?_;refine zK 14 ?_;try simp only[zX]
  refine wpAnyH_done zk ?_ _;have HQ:=Zh (rA.o _ A4.o);have q0:=Ja HQ.o 0;have q1:=Ja HQ.o 1;have q2:=Ja HQ.o 2;have q3:=Ja HQ.o 3;have f0:=Jc HQ.o 0;have f1:=Jc HQ.o 1;have f2:=Jc HQ.o 2;have f3:=Jc HQ.o 3;simp only[zW]at q0 q1 q2 q3;go_wp2;clear q0 q1 q2 q3 f0 f1 f2 f3;refine bodyPost_ret (v:=.agg (yh 0 Em 0 1)) (results_cell_row rfl _ _ ob 48 _ (0,0) _ rfl (Qer _ _ _ _ HQ.o) underlying48 rfl QdG) rfl ?_;rw[HR.o,HV.o];refine⟨rfl,?_⟩;have hb:=HB.o.trans (A4.o.mono HB.o.size);exact Qiw
 |true=>
 have l9:Hi (Qai r=Qac r):=by unfold Hi Qai;rw[if_pos d7]
 have eA:=bD.o d7
 by_cases GD:q=Qai r
 rotate_left
 ·have cr:=CR.o w1.drew HD.o;rw[d7]at cr
  have HV:Hi (QbB r q F=⟨0,[],0,1⟩):=by
   unfold Hi QbB;rw[if_neg GD]
  have gB:decide (q=Qai r)=false:=zH GD;clear d7 CR GD;refine wp_region_held_drew (S:=(λW=>xg W rb (.slice fa nf fc) (.slice ca nc cc) (Iv r.action) (xe W cb (.slice a0 n0 c0) (.slice a1 n1 c1) (.slice a2 n2 c2) (.slice a3 n3 c3) (xd W fb (.slice la ln lc) (Iv F.likes) (Iv F.boosts) (Iv F.replies) (Iv F.reports) (Iv F.age) (Iv F.home) (Iv F.scope) (Iv F.length) (.bool F.follows) (.bool F.reply) (.slice wa wn wc))))) zk zR λhH=>?_;refine zK 0 ?_
  try simp only[zX]
  refine ZS 1 rfl λK hK=>?_
  (go_simp;go_at_call 11;refine(cr).mono ?_;rintro e wA ⟨rfl,dA⟩)
  have HA:Hi (yr w1 wA):=HD.o.trans (dA.mono HD.o.size);clear dA;refine zU hK zS λhH=>?_;clear hK K
  try simp only[zX]
  refine zK 2 ?_;refine zK 3 ?_;refine zK 4 ?_;try simp only[zX]
  refine ZS 5 rfl λK hK=>?_;have cf:=CF.o wA HA.o;unfold QaI at cf;rw[CD]at cf
  (go_simp;go_at_call 13;refine cf.mono ?_;clear cf;rintro e wB ⟨rfl,jA⟩)
  have A4:Hi (yr w1 wB):=HA.o.trans (jA.mono HA.o.size);clear jA;refine zU hK zT λhH=>?_;clear hK K
  try simp only[zX]
  refine zK 6 ?_;refine zK 7 ?_;refine zK 8 ?_;try simp only[zX];refine zK 9 ?_;refine zK 10 ?_;try simp only[zX]
  refine ZS 11 rfl λK hK=>?_;have bB:=CO.o wB A4.o
  (go_simp;go_at_call 10;refine bB.mono ?_;clear bB;rintro e wC ⟨dd,rfl,zB,mA⟩)
  have Q1:Hi (yr w1 wC):=A4.o.trans (mA.mono A4.o.size);have kB:=Zh zB;clear mA zB;refine zU hK zd λhH=>?_;clear hK K
  try simp only[zX]
  refine ZS 12 rfl λK hK=>?_;have cs:=JcT q (Qai r) rD.o (by rw[l9.o];exact VJ HZ.o eA) wC.heap.size wC zP _ dd ((E6.o.up (HB.o.mono L4.o |>.trans (Q1.o.mono (le_trans L4.o HB.o.size)))).mono (le_trans L4.o (le_trans HB.o.size Q1.o.size))) kB.o;rw[gB]at cs
  (go_simp;go_at_call 29;refine cs.mono ?_;clear cs;rintro e wE ⟨rfl,vB⟩)
  have uA:Hi (yr w1 wE):=Q1.o.trans (vB.mono Q1.o.size);clear vB;refine zU hK ze λhH=>?_;clear hK K
  try simp only[zX]
  refine zK 13 ?_;refine zK 14 ?_;try simp only[zX]
  refine wpAnyH_done zk ?_ _;have HQ:=Zh (rA.o _ uA.o);have q0:=Ja HQ.o 0;have q1:=Ja HQ.o 1;have q2:=Ja HQ.o 2;have q3:=Ja HQ.o 3;have f0:=Jc HQ.o 0;have f1:=Jc HQ.o 1;have f2:=Jc HQ.o 2;have f3:=Jc HQ.o 3;simp only[zW]at q0 q1 q2 q3;go_wp2;clear q0 q1 q2 q3 f0 f1 f2 f3;refine bodyPost_ret (v:=.agg (yh 0 Em 0 1)) (results_cell_row rfl _ _ ob 48 _ (0,0) _ rfl (Qer _ _ _ _ HQ.o) underlying48 rfl QdG) rfl ?_;rw[HR.o,HV.o];refine⟨rfl,?_⟩;have hb:=HB.o.trans (uA.o.mono HB.o.size);exact Qiw
 ·have cr:=CR.o w1.drew HD.o;rw[d7]at cr
  have HV:Hi (QbB r q F=QdM r F):=by
   unfold Hi QbB;rw[if_pos GD]
  have gB:decide (q=Qai r)=true:=zG GD;have qA:Hi (q=Qac r):=GD.trans l9.o;have xC:=Zh d7;have NC:=Zh CD;clear d7 CR GD;refine wp_region_held_drew (S:=(λW=>xg W rb (.slice fa nf fc) (.slice ca nc cc) (Iv r.action) (xe W cb (.slice a0 n0 c0) (.slice a1 n1 c1) (.slice a2 n2 c2) (.slice a3 n3 c3) (xd W fb (.slice la ln lc) (Iv F.likes) (Iv F.boosts) (Iv F.replies) (Iv F.reports) (Iv F.age) (Iv F.home) (Iv F.scope) (Iv F.length) (.bool F.follows) (.bool F.reply) (.slice wa wn wc))))) zk zR λhH=>?_;refine zK 0 ?_
  try simp only[zX]
  refine ZS 1 rfl λK hK=>?_
  (go_simp;go_at_call 11;refine(cr).mono ?_;rintro e wA ⟨rfl,dA⟩)
  have HA:Hi (yr w1 wA):=HD.o.trans (dA.mono HD.o.size);clear dA;refine zU hK zS λhH=>?_;clear hK K
  try simp only[zX]
  refine zK 2 ?_;refine zK 3 ?_;refine zK 4 ?_;try simp only[zX]
  refine ZS 5 rfl λK hK=>?_;have cf:=CF.o wA HA.o;unfold QaI at cf;rw[CD]at cf
  (go_simp;go_at_call 13;refine cf.mono ?_;clear cf;rintro e wB ⟨rfl,jA⟩)
  have A4:Hi (yr w1 wB):=HA.o.trans (jA.mono HA.o.size);clear jA;refine zU hK zT λhH=>?_;clear hK K
  try simp only[zX]
  refine zK 6 ?_;refine zK 7 ?_;refine zK 8 ?_;try simp only[zX];refine zK 9 ?_;refine zK 10 ?_;try simp only[zX]
  refine ZS 11 rfl λK hK=>?_;have bB:=CO.o wB A4.o
  (go_simp;go_at_call 10;refine bB.mono ?_;clear bB;rintro e wC ⟨dd,rfl,zB,mA⟩)
  have Q1:Hi (yr w1 wC):=A4.o.trans (mA.mono A4.o.size);have kB:=Zh zB;clear mA zB;refine zU hK zd λhH=>?_;clear hK K
  try simp only[zX]
  refine ZS 12 rfl λK hK=>?_;have cs:=JcT q (Qai r) rD.o (by rw[l9.o];exact VJ HZ.o eA) wC.heap.size wC zP _ dd ((E6.o.up (HB.o.mono L4.o |>.trans (Q1.o.mono (le_trans L4.o HB.o.size)))).mono (le_trans L4.o (le_trans HB.o.size Q1.o.size))) kB.o;rw[gB]at cs
  (go_simp;go_at_call 29;refine cs.mono ?_;clear cs;rintro e wE ⟨rfl,vB⟩)
  have uA:Hi (yr w1 wE):=Q1.o.trans (vB.mono Q1.o.size);clear vB;refine zU hK ze λhH=>?_;clear hK K
  try simp only[zX]
  refine zK 13 ?_;refine zK 14 ?_;try simp only[zX]
  refine wpAnyH_done zk ?_ _;clear gB CD cr CF CO kB;obtain⟨l1,l2,l3,l4⟩:=JL r;obtain⟨nz,rfl⟩:∃nz,n3=nz+1:=⟨r.funcs.length,by have h:=HN.o.2.2.2;rw[qA.o,l3]at h;omega⟩
  have UA:nz=r.funcs.length:=by have h:=HN.o.2.2.2;rw[qA.o,l3]at h;omega
  obtain⟨sl,_⟩:=YI r;have sB:QeH r:=⟨xC.o,eA,HZ.o.nf,λf hf=>(HZ.o.fn f hf).2.1⟩
  have yC:=JbR sB (k:=0) (Nat.zero_le _);obtain⟨z,hz⟩:∃z:Nat,QbK (Qac r) 0=(z:Int):=⟨(QbK (Qac r) 0).toNat,by omega⟩
  rw[hz]at sl yC;rw[<-UA,<-qA.o]at sl;obtain⟨b3,o3,rfl,k3⟩:=iE.o nz _ sl;have KZ:Hi (∀W,yr w1 W->W.cell? ⟨b3,o3+nz,none⟩=some (Iv (z:Nat))):=λW hW=>k3 _ (HB.o.mono L4.o |>.trans (hW.mono (le_trans L4.o HB.o.size)))
  have mB:=HZ.o.nf;have tE:IntKind.i64.wrap ((nz:Int)+1-1)=(nz:Int):=by rw[IntWalk.i64_in _ zo];omega
  have rE:IntKind.i64.wrap (((nz+1:Nat):Int)-1)=(nz:Int):=by rw[IntWalk.i64_in _ zo];omega
  have nE:IntKind.i64.wrap (nz:Int)=(nz:Int):=IntWalk.i64_in _ zo;have mE:wrap64 (nz:Int)=(nz:Int):=IntWalk.wrap64_in _ zo;have j0:0<=(nz:Int):=Int.natCast_nonneg nz;have j1:(nz:Int)<((nz+1:Nat):Int):=Int.ofNat_lt.2 (Nat.lt_succ_self nz);have j2:(nz:Int)<(nz:Int)+1:=Int.lt_add_one_of_le (Int.le_refl _);have vE:=QdZ z zo;have mD:=Zh (And.intro hz yC);have nB:=Zh sB;have AH:=Zh UA;clear hz yC sB UA k3 l1 l2 l3 l4 sl mB eA;go_upto_region 3 with fail;have vA:Hi (yr w1 wE.drew):=uA.o.drew;refine LB (λW=>xe W cb (.slice a0 n0 c0) (.slice a1 n1 c1) (.slice a2 n2 c2) (.slice (some ⟨b3,o3,none⟩) (nz+1) c3) (xh W fb (.slice la ln lc) (Iv F.likes) (Iv F.boosts) (Iv F.replies) (Iv F.reports) (Iv F.age) (Iv F.home) (Iv F.scope) (Iv F.length) (.bool F.follows) (.bool F.reply) (.slice wa wn wc) (W.cell? ⟨b3,o3+nz,none⟩=some (Iv (z:Nat))))) 13 ⟨Ja (yA.o _ vA.o) 0,Ja (yA.o _ vA.o) 1,Ja (yA.o _ vA.o) 2,Ja (yA.o _ vA.o) 3,Ja (xA.o _ vA.o) 0,Ja (xA.o _ vA.o) 1,Ja (xA.o _ vA.o) 2,Ja (xA.o _ vA.o) 3,Ja (xA.o _ vA.o) 4,Ja (xA.o _ vA.o) 5,Ja (xA.o _ vA.o) 6,Ja (xA.o _ vA.o) 7,Ja (xA.o _ vA.o) 8,Ja (xA.o _ vA.o) 9,Ja (xA.o _ vA.o) 10,Ja (xA.o _ vA.o) 11,KZ.o _ vA.o⟩ λhH=>?_
  clear uA;generalize wE.drew=wD at*;refine LK 0 rfl ?_;refine LK 1 rfl ?_;refine LK 2 rfl ?_;refine LK 3 rfl ?_;refine LK 4 rfl ?_;refine LK 5 rfl ?_;refine LK 6 rfl ?_;refine LK 7 rfl ?_;refine LK 8 rfl ?_;refine LK 9 rfl ?_;refine LO 10 rfl λKK hK=>?_
  go_simp;clear vE;have aA:Hi (yr w1 (wD.alloc (.cells (madeCells #[Iv 0] z) 3))):=vA.o.alloc vA.o.size _;refine zU hK ⟨Ja (yA.o _ aA.o) 0,Ja (yA.o _ aA.o) 1,Ja (yA.o _ aA.o) 2,Ja (yA.o _ aA.o) 3,Ja (xA.o _ aA.o) 0,Ja (xA.o _ aA.o) 1,Ja (xA.o _ aA.o) 2,Ja (xA.o _ aA.o) 3,Ja (xA.o _ aA.o) 4,Ja (xA.o _ aA.o) 5,Ja (xA.o _ aA.o) 6,Ja (xA.o _ aA.o) 7,Ja (xA.o _ aA.o) 8,Ja (xA.o _ aA.o) 9,Ja (xA.o _ aA.o) 10,Ja (xA.o _ aA.o) 11,KZ.o _ aA.o⟩ λhH=>?_
  clear hK KK;refine LK 11 rfl ?_;refine LO 12 rfl λKK hK=>?_
  go_simp;have bA:Hi (yr w1 ((wD.alloc (.cells (madeCells #[Iv 0] z) 3)).alloc (.cells #[.slice a0 n0 c0,.slice a1 n1 c1,.slice a2 n2 c2,.slice (some ⟨b3,o3,none⟩) (nz+1) c3,.slice la ln lc,Iv F.likes,Iv F.boosts,Iv F.replies,Iv F.reports,Iv F.age,Iv F.home,Iv F.scope,Iv F.length,.bool F.follows,.bool F.reply,.slice wa wn wc,Iv 0,Nl,.slice (some ⟨wD.heap.size,0,none⟩) z z,Nl,Iv 0,Iv 0,Em,Iv 0,Iv 0,.bool false] 76))):=aA.o.alloc aA.o.size _;refine zU hK ⟨Ja (yA.o _ bA.o) 0,Ja (yA.o _ bA.o) 1,Ja (yA.o _ bA.o) 2,Ja (yA.o _ bA.o) 3,Ja (xA.o _ bA.o) 0,Ja (xA.o _ bA.o) 1,Ja (xA.o _ bA.o) 2,Ja (xA.o _ bA.o) 3,Ja (xA.o _ bA.o) 4,Ja (xA.o _ bA.o) 5,Ja (xA.o _ bA.o) 6,Ja (xA.o _ bA.o) 7,Ja (xA.o _ bA.o) 8,Ja (xA.o _ bA.o) 9,Ja (xA.o _ bA.o) 10,Ja (xA.o _ bA.o) 11,KZ.o _ bA.o⟩ λhH=>?_
  clear hK KK;refine LZ 13 rfl λKK hK=>?_
  go_simp;refine hK.out _ _ ?_;clear hK KK hH;obtain⟨r0,r1,r2,r3⟩:=E6.o.rows;have aB:w.heap.size<=wD.heap.size:=le_trans HB.o.size vA.o.size;have pA:yr w wD:=HB.o.trans (vA.o.mono HB.o.size);have jC:=Yc wD (.cells (madeCells #[Iv 0] z) 3) (.cells #[.slice a0 n0 c0,.slice a1 n1 c1,.slice a2 n2 c2,.slice (some ⟨b3,o3,none⟩) (nz+1) c3,.slice la ln lc,Iv F.likes,Iv F.boosts,Iv F.replies,Iv F.reports,Iv F.age,Iv F.home,Iv F.scope,Iv F.length,.bool F.follows,.bool F.reply,.slice wa wn wc,Iv 0,Nl,.slice (some ⟨wD.heap.size,0,none⟩) z z,Nl,Iv 0,Iv 0,Em,Iv 0,Iv 0,.bool false] 76);have hC:=Jaa wD (.cells (madeCells #[Iv 0] z) 3) (.cells #[.slice a0 n0 c0,.slice a1 n1 c1,.slice a2 n2 c2,.slice (some ⟨b3,o3,none⟩) (nz+1) c3,.slice la ln lc,Iv F.likes,Iv F.boosts,Iv F.replies,Iv F.reports,Iv F.age,Iv F.home,Iv F.scope,Iv F.length,.bool F.follows,.bool F.reply,.slice wa wn wc,Iv 0,Nl,.slice (some ⟨wD.heap.size,0,none⟩) z z,Nl,Iv 0,Iv 0,Em,Iv 0,Iv 0,.bool false] 76);obtain⟨K,hK⟩:∃K:MK,K=⟨.slice a0 n0 c0,.slice a1 n1 c1,.slice a2 n2 c2,.slice (some ⟨b3,o3,none⟩) (nz+1) c3,F,.slice la ln lc,.slice wa wn wc⟩:=⟨_,rfl⟩
  have sD:K.F=F:=by rw[hK]
  obtain⟨g1,g2,g3⟩:=JiS nB.o;rw[qA.o]at r0 r1 r2 r3;have dB:p<=wD.heap.size:=le_trans L4.o aB
  have tA:QcY K (Qac r) _ (wD.heap.size+1):=QcY.up (w:=wD) (W:=(wD.alloc (.cells (madeCells #[Iv 0] z) 3)).alloc (.cells #[.slice a0 n0 c0,.slice a1 n1 c1,.slice a2 n2 c2,.slice (some ⟨b3,o3,none⟩) (nz+1) c3,.slice la ln lc,Iv F.likes,Iv F.boosts,Iv F.replies,Iv F.reports,Iv F.age,Iv F.home,Iv F.scope,Iv F.length,.bool F.follows,.bool F.reply,.slice wa wn wc,Iv 0,Nl,.slice (some ⟨wD.heap.size,0,none⟩) z z,Nl,Iv 0,Iv 0,Em,Iv 0,Iv 0,.bool false] 76)) (by
   subst hK
   exact⟨(r1.up (pA.mono L4.o)).mono dB,(r2.up (pA.mono L4.o)).mono dB,(r3.up (pA.mono L4.o)).mono dB,(Qdq.up (p:=w.heap.size) gD.o pA).mono aB,(QcB.up (p:=w.heap.size) pD.o pA).mono aB,pB.o.nl,pB.o.nw,g1,g2,λx hx=>(g3 x hx).2,λx hx=>(g3 x hx).1⟩) (by rw[Nat.add_sub_cancel];exact jC)
  have hat:MAt K ((wD.alloc (.cells (madeCells #[Iv 0] z) 3)).alloc (.cells #[.slice a0 n0 c0,.slice a1 n1 c1,.slice a2 n2 c2,.slice (some ⟨b3,o3,none⟩) (nz+1) c3,.slice la ln lc,Iv F.likes,Iv F.boosts,Iv F.replies,Iv F.reports,Iv F.age,Iv F.home,Iv F.scope,Iv F.length,.bool F.follows,.bool F.reply,.slice wa wn wc,Iv 0,Nl,.slice (some ⟨wD.heap.size,0,none⟩) z z,Nl,Iv 0,Iv 0,Em,Iv 0,Iv 0,.bool false] 76)) (wD.heap.size+1) (Qbf (Qac r)):=by
   have uE:(Qac r).slots.getLastD 0=(z:Int):=mD.o.1;have iD:(Qbf (Qac r)).vars=List.replicate z 0:=by unfold Qbf;rw[uE,Int.toNat_natCast]
   have hsz:(Qbf (Qac r)).vars.length=z:=by rw[iD,List.length_replicate]
   refine⟨Nl,.slice (some ⟨wD.heap.size,0,none⟩) z z,Nl,[],?_,?_⟩
   ·subst hK;exact hC.2
   ·refine⟨⟨by simp[Qbf,Qad],.inl ⟨rfl,rfl⟩⟩,⟨by simp[Qbf,Qad],.inr ⟨wD.heap.size,z,madeCells #[Iv 0] z,?_,by omega,hC.1,?_,by unfold maxLen;have:=mD.o.2;omega,by rw[size_madeCells,Nat.mul_one],?_⟩⟩,⟨by simp[Qbf,Qdf],.inl ⟨rfl,rfl⟩⟩,trivial,?_⟩
    ·rw[hsz]
    ·rw[hsz];exact le_refl _
    ·rw[toList_madeCells_one,iD];simp[Qad]
    ·exact List.pairwise_cons.2 ⟨λv hv k h=>by simp[Value.ownBlock]at h,List.pairwise_cons.2 ⟨λv hv=>by simp at hv,List.Pairwise.nil⟩⟩
  have zC:Hi (OpG w p (Qac r).ops a0):=by
   have h:=eE.o;rw[qA.o]at h;exact h
  have mA:BxB 31 w1 cb _:=yA.o;have iB:Hi (yr w1 ((wD.alloc (.cells (madeCells #[Iv 0] z) 3)).alloc (.cells #[.slice a0 n0 c0,.slice a1 n1 c1,.slice a2 n2 c2,.slice (some ⟨b3,o3,none⟩) (nz+1) c3,.slice la ln lc,Iv F.likes,Iv F.boosts,Iv F.replies,Iv F.reports,Iv F.age,Iv F.home,Iv F.scope,Iv F.length,.bool F.follows,.bool F.reply,.slice wa wn wc,Iv 0,Nl,.slice (some ⟨wD.heap.size,0,none⟩) z z,Nl,Iv 0,Iv 0,Em,Iv 0,Iv 0,.bool false] 76))):=vA.o.trans (jC.mono vA.o.size);have cA:=Zh hat;have hB:=Zh tA;have gE:=Zh sD;have hE:Hi (p<=wD.heap.size/\w.heap.size<=wD.heap.size/\w1.heap.size<=wD.heap.size):=⟨dB,aB,vA.o.size⟩
  obtain⟨sE,⟨kT,aD⟩,yD,kA⟩:=VC xC.o NC.o;have cB:=Zh (And.intro aD (And.intro yD kA));have R4:=HN.o.1;have vC:Hi ((Qac r).ops.length=n0):=by rw[<-qA.o];exact R4
  clear aB pA jC hC hK sD g1 g2 g3 r0 r1 r2 r3 dB tA hat aD yD kA R4 mA aA bA vA;generalize World.alloc (World.alloc wD _) _=w4 at*;obtain⟨pm,tC⟩:=yt (wD.heap.size+1)
  have dE:Hi (wD.heap.size=pm-1/\1<=pm):=by unfold Hi;omega
  rw[tC]at cA hB |-;clear tC;go_wp2_with fail;refine(Jdd w4).mono ?_;rintro e w5 ⟨hb,rfl,aE,yB,i6⟩;replace hB:=Zh (hB.o.up (i6.mono (zu cA.o.lt)));replace cA:=Zh (cA.o.up i6);replace iB:=Zh (iB.o.trans (i6.mono iB.o.size));have hA:=Zh yB;clear aE yB i6;go_wp2_with fail;go_loopg [9] kT λg v9 wr=>Hi (∃s j,g+j=kT/\Qaw (Qac r) F j (Qbf (Qac r))=some s/\MAt K wr pm s/\QfK wr hb/\Below (pm-1) w5 wr)
  case atStart=>exact⟨Qbf (Qac r),0,Nat.add_zero _,rfl,cA.o,hA.o,zO⟩
  case round=>
  have m8:Hi (w1.heap.size<=pm-1/\pm-1<=w5.heap.size):=⟨by have:=hE.o;have:=dE.o;omega,by have:=cA.o.lt;omega⟩
  clear cA hA;obtain⟨wl,rfl⟩:=zJ wr;obtain⟨s,j,xD,hst,hat,gC,G1⟩:=hrel.o;clear hrel;have cA:=Zh hat;have hA:=Zh gC;have U2:=Zh G1;have A8:Hi (yr w1 wl):=iB.o.trans (G1.mono m8.o.1);obtain⟨sv,vv,cv,fr,R0,_⟩:=hat
  cases hfin:s.fin with
  |true=>
   have kD:s=sE:=Jas j kT _ s sE hst hfin cB.o.1 cB.o.2.1;have C0:Hi (s.fin=true):=hfin;have HO:Hi (({s.o with used:=s.used}:QeD)=QdM r F):=by rw[kD];exact cB.o.2.2
   have uB:=Ja R0 25;simp only[mC,getElem?_toArray,getElem?_cons_succ,getElem?_cons_zero,hfin]at uB;clear kD hst xD gC G1 hfin;have cD:=Ja R0 20;have eB:=Ja R0 23;have yE:=Jc R0 23;simp only[mC,getElem?_toArray,getElem?_cons_succ,getElem?_cons_zero]at cD eB;go_upto_region 10 with fail;clear uB cD eB yE R0;have bC:Hi (MAt K (wl.setCell ⟨pm,23,none⟩ (Iv (s.used:Nat))) pm {s with o:={s.o with used:=s.used} }):=cA.o.set (λ_ _ _=>rfl) rfl rfl rfl;have pC:Hi (yr w1 (wl.setCell ⟨pm,23,none⟩ (Iv (s.used:Nat)))):=A8.o.setCell (by have:=m8.o;simp;omega) _;clear cA A8;generalize World.setCell wl _ _=w9 at*;obtain⟨sv,vv,cv,fr,R0,_⟩:=bC.o;have zD:=Ja R0 21;have kC:=Ja R0 22;have eB:=Ja R0 23;have nC:=Ja R0 24;simp only[mC,getElem?_toArray,getElem?_cons_succ,getElem?_cons_zero]at zD kC eB nC;clear R0;have HQ:=Zh (rA.o _ pC.o);have q0:=Ja HQ.o 0;have q1:=Ja HQ.o 1;have q2:=Ja HQ.o 2;have q3:=Ja HQ.o 3;have f0:=Jc HQ.o 0;have f1:=Jc HQ.o 1;have f2:=Jc HQ.o 2;have f3:=Jc HQ.o 3;simp only[zW]at q0 q1 q2 q3;go_wp2;clear q0 q1 q2 q3 f0 f1 f2 f3 zD kC eB nC;refine bodyPost_ret (v:=.agg (yd s.o.action s.o.reason (s.used:Nat) s.o.fault)) (results_cell_row rfl _ _ ob 48 _ (0,0) _ rfl (Qer _ _ _ _ HQ.o) underlying48 rfl QdG) rfl ?_;rw[HR.o,HV.o,<-HO.o];refine⟨rfl,?_⟩;have hb:=HB.o.trans (pC.o.mono HB.o.size);exact Qiw
  |false=>
   obtain⟨zE,o,s',hG,qD,hs'⟩:=JkU xC.o NC.o nB.o.ops cB.o.1 cB.o.2.1 hst zo hfin;obtain⟨g,rfl⟩:∃g,gk=g+1:=⟨gk-1,by omega⟩
   have HJ:Hi (g+(j+1)=kT):=by unfold Hi;omega
   have HG:=Zh hG;have bE:=Zh qD;have xE:=Zh hs';have uB:=Ja R0 25;simp only[mC,getElem?_toArray,getElem?_cons_succ,getElem?_cons_zero,hfin]at uB;have b16:=Ja R0 16;simp only[mC,getElem?_toArray,getElem?_cons_succ,getElem?_cons_zero]at b16;clear qD hs' hst xD gC G1 zE hfin R0;have x0:=Ja (yA.o _ A8.o) 0;obtain⟨b0,o0,rfl,k0⟩:=zC.o _ _ hG.at';obtain⟨p0,p1,p2⟩:=k0 wl (HB.o.mono L4.o |>.trans (A8.o.mono (le_trans L4.o HB.o.size)));obtain⟨pc,dC⟩:=yt s.pc
   have j0:0<=(pc:Int):=Int.natCast_nonneg pc;have j1:(pc:Int)<(n0:Int):=by have:=hG.pc;have:=vC.o;omega
   rw[dC]at b16 p0 p1 p2;have G3:=Zh dC;have qE:=Zh k0;have aC:pc<40000001:=by have:=hG.pc;have:=nB.o.ops;omega
   have kE:IntKind.i64.wrap ((pc:Int)+1)=(pc:Int)+1:=by rw[IntWalk.i64_in _ zo]
   clear dC k0 hG aC;go_upto_region 6 with fail;clear uB;go_region_held (λW=>W.cell? ⟨cb,0,none⟩=some (.slice (some ⟨b0,o0,none⟩) n0 c0)/\W.cell? ⟨pm,16,none⟩=some (Iv (pc:Nat))/\W.cell? ⟨b0,o0+pc*3,none⟩=some (Iv o.code)/\W.cell? ⟨b0,o0+pc*3+1,none⟩=some (Iv o.n)/\W.cell? ⟨b0,o0+pc*3+2,none⟩=some (Sv o.name)) (go_keep) (fail);obtain⟨yb,rC⟩:=yt wl.heap.size
   have X7:=Zh (zQ wl (.cells (yu o) 34));have jB:yr wl (wl.alloc (.cells (yu o) 34)).drew:=(zO.alloc zP _).drew;rw[rC]at X7 |-;replace U2:=Zh (U2.o.trans (jB.mono (zu cA.o.lt)));replace cA:=Zh (cA.o.up jB);replace hA:Hi (QfK _ hb):=(jB.block _ (Jb hA.o)).trans hA.o;replace X7:Hi ((wl.alloc (.cells (yu o) 34)).drew.heap[yb]?=_):=X7.o;clear rC jB b16 x0 p0 p1 p2 A8;generalize (wl.alloc (.cells (yu o) 34)).drew=w6 at*;obtain⟨sv,vv,cv,fr,R0,_⟩:=cA.o;have b16:=Ja R0 16;have f16:=Jc R0 16;simp only[mC,getElem?_toArray,getElem?_cons_succ,getElem?_cons_zero]at b16;rw[G3.o]at b16;go_upto_region 8 with fail;clear b16 f16 R0;have sA:Hi (MAt K (w6.setCell ⟨pm,16,none⟩ (Iv ((pc:Int)+1))) pm {s with pc:=s.pc+1}):=cA.o.set (λ_ _ _=>by rw[<-G3.o];rfl) rfl rfl rfl;have XB:=(cA.o.tset (j:=16) (u:=Iv ((pc:Int)+1)))
   have gA:Hi (QfK (w6.setCell ⟨pm,16,none⟩ (Iv ((pc:Int)+1))) hb):=(XB.1 hb _ hA.o (by intro cs fr;simp)).trans hA.o;have X9:=Zh (KU X7.o XB.1);have nA:=Zh (U2.o.trans XB.2);clear cA hA X7 U2 XB;generalize World.setCell w6 _ _=w7 at*;obtain⟨y0,y1,y2⟩:=Jh X9.o;obtain⟨k,iA,hk⟩:=HG.o.code;have hh:=Jep K (Qac r) w7 pm {s with pc:=s.pc+1} s' o sA.o (hB.o.up nA.o) (by rw[gE.o];exact bE.o) HG.o.len HG.o.inr HG.o.used HG.o.calls HG.o.jump HG.o.call k hk iA;have lk:=gA.o.look iA;unfold hV at lk;rw[<-hk]at lk;obtain⟨tD,hD⟩:=yt (hdl.getD k 0)
   have T1:=JkV iA #[Pt pm,.agg (yu o)] w7;rw[hD]at hh lk T1;clear hk iA hD;go_wp2_with fail;refine hh.mono ?_;clear hh lk T1 y0 y1 y2;rintro e w8 ⟨rfl,xB,L5,dD⟩;have jE:Hi (∃s j,g+j=kT/\Qaw (Qac r) F j (Qbf (Qac r))=some s/\MAt K w8 pm s/\QfK w8 hb/\Below (pm-1) w5 w8):=⟨s',j+1,HJ.o,xE.o,xB,(dD hb _ gA.o (by intro cs fr;simp)).trans gA.o,nA.o.trans L5⟩
   clear xB L5 dD gA nA sA X9;go_wp2;go_roundg g
   case measure=>omega
   case rel=>exact jE
def Qcq(l:List Bool):List Value:=l.map Value.bool
structure QdO(W:World)(gd gk:Nat)(m:Nat)(ds:List Int)(ks:List Bool):Prop where
 hd:W.heap[gd]?=some (.cells (Qad ds).toArray 3 (0,0))
 hk:W.heap[gk]?=some (.cells (Qcq ks).toArray 4 (0,0))
 ld:ds.length=m
 lk:ks.length=m
def Jet{l:List Int}{x:Int}(h:l[i]?=some x):(Qad l).toArray[i]?=some (Iv x):=by
 unfold Qad;rw[List.getElem?_toArray,List.getElem?_map,h];rfl
def Jdh{l:List Bool}{x:Bool}(h:l[i]?=some x):(Qcq l).toArray[i]?=some (.bool x):=by
 unfold Qcq;rw[List.getElem?_toArray,List.getElem?_map,h];rfl
section
variable {W:World}{gd gk m:Nat}{ds:List Int}{ks:List Bool}(h:QdO W gd gk m ds ks)
include W gd gk m ds ks h
theorem QdO.d(hi:i<m):W.cell? ⟨gd,i,none⟩=some (Iv (ds.getD i 0))/\W.frozen? ⟨gd,i,none⟩=false:=by
 refine⟨?_,Jc h.hd i⟩;rw[Ja h.hd];exact Jet (by rw[List.getD_eq_getElem?_getD,List.getElem?_eq_getElem (by rw[h.ld];exact hi)];rfl)
theorem QdO.k(hi:i<m):W.cell? ⟨gk,i,none⟩=some (.bool (ks.getD i false))/\W.frozen? ⟨gk,i,none⟩=false:=by
 refine⟨?_,Jc h.hk i⟩;rw[Ja h.hk];exact Jdh (by rw[List.getD_eq_getElem?_getD,List.getElem?_eq_getElem (by rw[h.lk];exact hi)];rfl)
theorem QdO.setd(hne:gd≠gk)(i:Nat)(x:Int):QdO (W.setCell ⟨gd,i,none⟩ (Iv x)) gd gk m (ds.set i x) ks:=by
 refine⟨?_,?_,by rw[List.length_set];exact h.ld,h.lk⟩
 ·have:=Jm h.hd i (Iv x);rw[this]
  congr 2
  unfold Qad;rw[List.setIfInBounds_toArray,List.map_set]
 ·rw[heap_setCell_other _ _ _ _ (by simpa using hne.symm)];exact h.hk
theorem QdO.setk(hne:gd≠gk)(i:Nat)(x:Bool):QdO (W.setCell ⟨gk,i,none⟩ (.bool x)) gd gk m ds (ks.set i x):=by
 refine⟨?_,?_,h.ld,by rw[List.length_set];exact h.lk⟩
 ·rw[heap_setCell_other _ _ _ _ (by simpa using hne)];exact h.hd
 ·have:=Jm h.hk i (.bool x);rw[this]
  congr 2
  unfold Qcq;rw[List.setIfInBounds_toArray,List.map_set]
end
variable{W:World}
def QdO.up{gd gk m:Nat}{ds:List Int}{ks:List Bool}(h:QdO W gd gk m ds ks)(hb:yr W W'):QdO W' gd gk m ds ks:=
 ⟨(hb.block _ (Jb h.hd)).trans h.hd,(hb.block _ (Jb h.hk)).trans h.hk,h.ld,h.lk⟩
structure Qfa(W:World)(bt bk bf bd fr te gd gk:Nat):Prop where
 t:W.heap[bt]?=some (.cells #[Iv (te:Nat)] 3 (0,0))
 k:W.heap[bk]?=some (.cells #[.slice (some ⟨gk,0,none⟩) (te-fr) (te-fr)] 168 (0,0))
 f:W.heap[bf]?=some (.cells #[Iv (fr:Nat)] 3 (0,0))
 d:W.heap[bd]?=some (.cells #[.slice (some ⟨gd,0,none⟩) (te-fr) (te-fr)] 29 (0,0))
def Qfa.keep{bt bk bf bd fr te gd gk:Nat}(h:Qfa W bt bk bf bd fr te gd gk)(hk:∀b,b=bt\/b=bk\/b=bf\/b=bd->W'.heap[b]?=W.heap[b]?):Qfa W' bt bk bf bd fr te gd gk:=
 ⟨(hk _ (.inl rfl)).trans h.t,(hk _ (.inr (.inl rfl))).trans h.k,(hk _ (.inr (.inr (.inl rfl)))).trans h.f,(hk _ (.inr (.inr (.inr rfl)))).trans h.d⟩
def JV{b t:Nat}{a0:Value}{fr:Nat×Nat}(h:W.heap[b]?=some (.cells #[a0] t fr)):W.cell? ⟨b,0,none⟩=some a0:=Ja h 0
def Qkk{P:Prop}(h:P:=by
  go_enter func101,ntmps101;go_upto_region 3 with fail;replace HC:Hi (Qfa W.drew bt bk bf bd fr te gd gk):=Zh ⟨HC.o.t,HC.o.k,HC.o.f,HC.o.d⟩;replace RC:Hi (QdO W.drew gd gk m ds ks):=Zh ⟨RC.o.hd,RC.o.hk,RC.o.ld,RC.o.lk⟩;have t1:=JV HC.o.k;have t2:=JV HC.o.f;have t3:=JV HC.o.d;rw[HM.o]at t1 t3;refine LB (λW'=>W'.cell? ⟨bf,0,none⟩=some (Iv (fr:Nat))/\W'.cell? ⟨bk,0,none⟩=some (.slice (some ⟨gk,0,none⟩) m m)/\W'.cell? ⟨bd,0,none⟩=some (.slice (some ⟨gd,0,none⟩) m m)) 12 ⟨t2,t1,t3⟩ λhH=>?_
  clear t0 t1 t2 t3 d0 d1 k0 k1;have L9:Hi (Chg [gd,gk] W W.drew):=(Chg.of_below (Below.refl W.heap.size W).drew [gd,gk])
  generalize W.drew=w2 at*;refine LK 0 rfl ?_;refine LK 1 rfl ?_;refine LK 2 rfl ?_;refine LK 3 rfl ?_;refine LK 4 rfl ?_;refine LK 5 rfl ?_;refine LK 6 rfl ?_;refine LK 7 rfl ?_;refine LK 8 rfl ?_;refine LK 9 rfl ?_;refine LO 10 rfl λKK hK=>?_
  obtain⟨d0,d1⟩:=RC.o.d HI.o;go_simp;clear d0 d1;have CB:=Zh (RC.o.setd N3.o i x);have I7:Hi (Qfa (w2.setCell ⟨gd,i,none⟩ (Iv x)) bt bk bf bd fr te gd gk):=HC.o.keep λb hb=>heap_setCell_other _ _ _ _ (by have:=(lE.o b hb).1;simpa using this)
  have oE:Hi (Chg [gd,gk] W (w2.setCell ⟨gd,i,none⟩ (Iv x))):=L9.o.setCell (.inl (by simp)) _;have t1:=JV I7.o.k;have t2:=JV I7.o.f;have t3:=JV I7.o.d;rw[HM.o]at t1 t3;refine hK.out _ _ ⟨t2,t1,t3⟩ λhH=>?_
  clear hK KK t1 t2 t3 HC RC L9;generalize w2.setCell _ _=w3 at*;refine LK 11 rfl ?_;refine LZ 12 rfl λKK hK=>?_
  obtain⟨k0,k1⟩:=CB.o.k HI.o;go_simp;refine hK.out _ _ ?_;clear hK KK hH k0 k1
  have C0:Hi (R (.returned (.bool true)) (w3.setCell ⟨gk,i,none⟩ (.bool true))):=by
   rw[HR.o];exact⟨rfl,I7.o.keep λb hb=>heap_setCell_other _ _ _ _ (by have:=(lE.o b hb).2;simpa using this),CB.o.setk N3.o i true,oE.o.setCell (.inl (by simp)) _⟩
  clear I7 CB oE HR;go_wp2
  exact C0.o):P:=h
def VK(W:World)(bt bk bf bd fr te gd gk:Nat)(ds:List Int)(ks:List Bool)(at':Nat)(x:Int)(h:Qfa W bt bk bf bd fr te gd gk)(hD:QdO W gd gk (te-fr) ds ks)(hne:gd≠gk)(h1:fr<=at')(h2:at'<te)(hte:te<=40000000)
  (D4:∀b,b=bt\/b=bk\/b=bf\/b=bd->b≠gd/\b≠gk) (hok:ks.getD (at'-fr) false=true->ds.getD (at'-fr) 0=x):
  Calls prog 101 #[Iv (at':Nat),Iv x,Pt bt,Pt bk,Pt bf,Pt bd] W
   (λe W'=>e=.returned (.bool true)/\Qfa W' bt bk bf bd fr te gd gk/\QdO W' gd gk (te-fr) (ds.set (at'-fr) x) (ks.set (at'-fr) true)/\Chg [gd,gk] W W'):=by
 obtain⟨R,hR⟩:∃R:Ending->World->Prop,(λe W'=>e=.returned (.bool true)/\Qfa W' bt bk bf bd fr te gd gk/\QdO W' gd gk (te-fr) (ds.set (at'-fr) x) (ks.set (at'-fr) true)/\Chg [gd,gk] W W')=R:=⟨_,rfl⟩
 rw[hR];have HR:Hi (R=λe W'=>e=.returned (.bool true)/\Qfa W' bt bk bf bd fr te gd gk/\QdO W' gd gk (te-fr) (ds.set (at'-fr) x) (ks.set (at'-fr) true)/\Chg [gd,gk] W W'):=hR.symm;obtain⟨m,hm⟩:=yt (te-fr)
 obtain⟨i,hi⟩:=yt (at'-fr)
 have xA:i<m:=zo;rw[hm]at hD;rw[hi]at hok;rw[hi,hm]at HR;have t0:=JV h.t;have t1:=JV h.k;have t2:=JV h.f;have t3:=JV h.d;rw[hm]at t1 t3;obtain⟨d0,d1⟩:=hD.d xA;obtain⟨k0,k1⟩:=hD.k xA;have q0:decide ((at':Int)>=(te:Int))=false:=zH zo;have yA:decide (at'>=te)=false:=zH zo;have zA:decide (te<=at')=false:=zH zo;have wk:IntKind.i64.wrap ((at':Int)-(fr:Int))=(i:Int):=by rw[IntWalk.i64_in _ zo];omega
 have j0:(i:Int)<(m:Int):=zo;have HC:=Zh h;have RC:=Zh hD;have N3:=Zh hne;have lE:=Zh D4;have HM:=Zh hm;clear hR h hD hne D4 hm hi h1 h2 hte;have HI:=Zh xA;clear xA
 cases hkk:ks.getD i false with
 |false=>
  rw[hkk]at k0;clear hkk hok;exact Qkk
 |true=>
  rw[hkk]at k0 hok;have hx:=hok rfl;rw[hx]at d0;clear hkk hok hx;exact Qkk
end Go.Proofs.YtfafpklefknomaaGreatDoor



