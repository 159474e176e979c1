import Derived.Test.YtfafpklefknomaaGreatDoorR36
import Derived.Test.YtfafpklefknomaaGreatDoorR30
import Derived.Test.YtfafpklefknomaaGreatDoorR32
namespace Go.Proofs.YtfafpklefknomaaGreatDoor
open Go Go.ChangeShapes Go.WideShapes Go.ChangeAt Go.RowKit Go.Lib
open _root_.Go.Proofs.Tryz
set_option linter.all false
set_option maxRecDepth 100000
set_option maxHeartbeats 32000000
def InR.wf{x:Int}(h:InR x):Qbc x:=by unfold Qbc;unfold InR at h;omega
structure QcY(K:MK)(c:Qaf)(w:World)(p:Nat):Prop where
 r1:QbX w (p-1) K.o1 c.starts
 r2:QbX w (p-1) K.o2 c.params
 r3:QbX w (p-1) K.o3 c.slots
 labs:Qdq w (p-1) K.la K.F.labels
 words:QcB w (p-1) K.wa K.F.words
 nl:K.F.labels.length<=200000000000000
 nw:K.F.words.length<=200000000000000
 starts:∀x∈c.starts,0<=x
 params:∀x∈c.params,0<=x
 slots:∀x∈c.slots,x<=1000000000
 slots0:∀x∈c.slots,0<=x
def QcY.up{K:MK}{c:Qaf}{w W:World}{p:Nat}(h:QcY K c w p)(hb:Below (p-1) w W):QcY K c W p:=
 ⟨h.r1.up hb,h.r2.up hb,h.r3.up hb,h.labs.up hb,h.words.up hb,h.nl,h.nw,h.starts,h.params,h.slots,h.slots0⟩
def QcY.forms{K:MK}{c:Qaf}{w:World}{p:Nat}(h:QcY K c w p):(∃a n c,K.la=.slice a n c)/\∃a n c,K.wa=.slice a n c:=by
 obtain⟨a,c1,h1,_⟩:=h.labs.get;obtain⟨b,c2,h2,_⟩:=h.words.get;exact⟨⟨_,_,_,h1⟩,⟨_,_,_,h2⟩⟩
section
variable (K:MK)(c:Qaf)(w:World)(p:Nat)(s s':StM)(o:OpM)(h:MAt K w p s)(hE:QcY K c w p)(he:Qbg c K.F o s=some s')(hl:s.st.length<=1000000000000)(hin:∀x∈s.st,InR x)(hu:s.used<=10000)(hc:s.calls.length<=100)(hj:isJ o->0<=o.n)(hcl:o.code=19->0<=o.n/\o.n.toNat<c.params.length/\o.n.toNat<c.slots.length/\o.n.toNat<c.starts.length)
include K c w p s s' o h hE he hl hin hu hc hj hcl
theorem JiM(hk:o.code=0):Calls prog 61 #[Pt p,.agg #[Iv o.code,Iv o.n,.string (bs o.name)]] w (Qav K w p s' (.tuple #[])):=by
 unfold Qbg at he;rw[if_pos zo]at he;obtain rfl:=Option.some.inj he;exact JkF K w p s o h hl
theorem JmS(hk:o.code=1):Calls prog 62 #[Pt p,.agg #[Iv o.code,Iv o.n,.string (bs o.name)]] w (Qav K w p s' (.tuple #[])):=by
 unfold Qbg at he;rw[if_neg zo,if_pos zo]at he;split at he
 ·rename_i hb;obtain rfl:=Option.some.inj he;have hlt:o.n.toNat<s.vars.length:=zo;rw[List.getD_eq_getElem?_getD,List.getElem?_eq_getElem hlt];exact JnT K w p s o _ h hl o.n.toNat zo (List.getElem?_eq_getElem hlt)
 ·cases he
theorem JkQ(hk:o.code=2):Calls prog 63 #[Pt p,.agg #[Iv o.code,Iv o.n,.string (bs o.name)]] w (Qav K w p s' (.tuple #[])):=by
 unfold Qbg at he;rw[if_neg zo,if_neg zo,if_pos zo]at he;split at he
 ·rename_i v l hsl;have hv:InR v:=hin v (by rw[hsl];simp);split at he
  ·obtain rfl:=Option.some.inj he;exact JmE K w p s o v l o.n.toNat h hsl hl zo zo
  ·cases he
 ·cases he
theorem JmT(hk:o.code=3):Calls prog 64 #[Pt p,.agg #[Iv o.code,Iv o.n,.string (bs o.name)]] w (Qav K w p s' (.tuple #[])):=by
 unfold Qbg at he;rw[if_neg zo,if_neg zo,if_neg zo,if_pos zo]at he;obtain rfl:=Option.some.inj he;exact JnV K w p s o h hl hE.forms
theorem JkR(hk:o.code=4):Calls prog 65 #[Pt p,.agg #[Iv o.code,Iv o.n,.string (bs o.name)]] w (Qav K w p s' (.tuple #[])):=by
 unfold Qbg at he;rw[if_neg zo,if_neg zo,if_neg zo,if_neg zo,if_pos zo]at he;obtain rfl:=Option.some.inj he;exact JmF K w p s o h hl hE.labs hE.nl
theorem JmU(hk:o.code=5):Calls prog 66 #[Pt p,.agg #[Iv o.code,Iv o.n,.string (bs o.name)]] w (Qav K w p s' (.tuple #[])):=by
 unfold Qbg at he;rw[if_neg zo,if_neg zo,if_neg zo,if_neg zo,if_neg zo,if_pos zo]at he;obtain rfl:=Option.some.inj he;exact JnU K w p s o h hl hE.words (zu hE.nw)
theorem Jof(hk:o.code=6):Calls prog 67 #[Pt p,.agg #[Iv o.code,Iv o.n,.string (bs o.name)]] w (Qav K w p s' (.tuple #[])):=by
 unfold Qbg at he;rw[if_neg zo,if_neg zo,if_neg zo,if_neg zo,if_neg zo,if_neg zo,if_pos zo]at he;split at he
 ·rename_i v l hsl;have hv:InR v:=hin v (by rw[hsl];simp);obtain rfl:=Option.some.inj he;rw[if_pos hk];exact JoO K w p s o v l h hsl hl hv.wf
 ·cases he
theorem Jog(hk:o.code=7):Calls prog 68 #[Pt p,.agg #[Iv o.code,Iv o.n,.string (bs o.name)]] w (Qav K w p s' (.tuple #[])):=by
 unfold Qbg at he;rw[if_neg zo,if_neg zo,if_neg zo,if_neg zo,if_neg zo,if_neg zo,if_pos zo]at he;split at he
 ·rename_i v l hsl;have hv:InR v:=hin v (by rw[hsl];simp);obtain rfl:=Option.some.inj he;rw[if_neg zo];exact JoG K w p s o v l h hsl hl
 ·cases he
theorem Joh(hk:o.code=8):Calls prog 69 #[Pt p,.agg #[Iv o.code,Iv o.n,.string (bs o.name)]] w (Qav K w p s' (.tuple #[])):=by
 unfold Qbg at he;rw[if_neg zo,if_neg zo,if_neg zo,if_neg zo,if_neg zo,if_neg zo,if_neg zo,if_pos zo]at he;split at he
 ·rename_i b a l hsl;have hb:InR b:=hin b (by rw[hsl];simp);have ha:InR a:=hin a (by rw[hsl];simp);have he':=Option.some.inj he;unfold Qax at he';rw[hk]at he';simp at he';subst he';exact JoI K w p s o a b l h hsl hl ha.wf hb.wf
 ·cases he
theorem Joi(hk:o.code=9):Calls prog 70 #[Pt p,.agg #[Iv o.code,Iv o.n,.string (bs o.name)]] w (Qav K w p s' (.tuple #[])):=by
 unfold Qbg at he;rw[if_neg zo,if_neg zo,if_neg zo,if_neg zo,if_neg zo,if_neg zo,if_neg zo,if_pos zo]at he;split at he
 ·rename_i b a l hsl;have hb:InR b:=hin b (by rw[hsl];simp);have ha:InR a:=hin a (by rw[hsl];simp);have he':=Option.some.inj he;unfold Qax at he';rw[hk]at he';simp at he';subst he';exact JoJ K w p s o a b l h hsl hl ha.wf hb.wf
 ·cases he
theorem Joj(hk:o.code=10):Calls prog 71 #[Pt p,.agg #[Iv o.code,Iv o.n,.string (bs o.name)]] w (Qav K w p s' (.tuple #[])):=by
 unfold Qbg at he;rw[if_neg zo,if_neg zo,if_neg zo,if_neg zo,if_neg zo,if_neg zo,if_neg zo,if_pos zo]at he;split at he
 ·rename_i b a l hsl;have hb:InR b:=hin b (by rw[hsl];simp);have ha:InR a:=hin a (by rw[hsl];simp);have he':=Option.some.inj he;unfold Qax at he';rw[hk]at he';simp at he';subst he';exact JoK K w p s o a b l h hsl hl ha.wf hb.wf
 ·cases he
end
theorem Qhf{P:Prop}(h:P:=by
  by_cases e:b=0
  ·rw[if_pos e]at hh he';subst he';exact hh
  ·rw[if_neg e]at hh he';subst he'
   exact hh):P:=h
section
variable (K:MK)(c:Qaf)(w:World)(p:Nat)(s s':StM)(o:OpM)(h:MAt K w p s)(hE:QcY K c w p)(he:Qbg c K.F o s=some s')(hl:s.st.length<=1000000000000)(hin:∀x∈s.st,InR x)(hu:s.used<=10000)(hc:s.calls.length<=100)(hj:isJ o->0<=o.n)(hcl:o.code=19->0<=o.n/\o.n.toNat<c.params.length/\o.n.toNat<c.slots.length/\o.n.toNat<c.starts.length)
include K c w p s s' o h hE he hl hin hu hc hj hcl
theorem Jok(hk:o.code=11):Calls prog 72 #[Pt p,.agg #[Iv o.code,Iv o.n,.string (bs o.name)]] w (Qav K w p s' (.tuple #[])):=by
 unfold Qbg at he;rw[if_neg zo,if_neg zo,if_neg zo,if_neg zo,if_neg zo,if_neg zo,if_neg zo,if_pos zo]at he;split at he
 ·rename_i b a l hsl;have hb:InR b:=hin b (by rw[hsl];simp);have ha:InR a:=hin a (by rw[hsl];simp);have he':=Option.some.inj he;unfold Qax at he';rw[hk]at he';simp at he';have hh:=JoL K w p s o a b l h hsl hl ha.wf hb.wf;exact Qhf
 ·cases he
theorem Jol(hk:o.code=12):Calls prog 73 #[Pt p,.agg #[Iv o.code,Iv o.n,.string (bs o.name)]] w (Qav K w p s' (.tuple #[])):=by
 unfold Qbg at he;rw[if_neg zo,if_neg zo,if_neg zo,if_neg zo,if_neg zo,if_neg zo,if_neg zo,if_pos zo]at he;split at he
 ·rename_i b a l hsl;have hb:InR b:=hin b (by rw[hsl];simp);have ha:InR a:=hin a (by rw[hsl];simp);have he':=Option.some.inj he;unfold Qax at he';rw[hk]at he';simp at he';have hh:=JoM K w p s o a b l h hsl hl ha.wf hb.wf;exact Qhf
 ·cases he
theorem JmV(hk:o.code=13):Calls prog 74 #[Pt p,.agg #[Iv o.code,Iv o.n,.string (bs o.name)]] w (Qav K w p s' (.tuple #[])):=by
 unfold Qbg at he;rw[if_neg zo,if_neg zo,if_neg zo,if_neg zo,if_neg zo,if_neg zo,if_neg zo,if_pos zo]at he;split at he
 ·rename_i b a l hsl;have hb:InR b:=hin b (by rw[hsl];simp);have ha:InR a:=hin a (by rw[hsl];simp);have he':=Option.some.inj he;unfold Qax at he';rw[hk]at he';simp at he';subst he';exact JnS K w p s o a b l h hsl hl
 ·cases he
theorem Jom(hk:o.code=14):Calls prog 75 #[Pt p,.agg #[Iv o.code,Iv o.n,.string (bs o.name)]] w (Qav K w p s' (.tuple #[])):=by
 unfold Qbg at he;rw[if_neg zo,if_neg zo,if_neg zo,if_neg zo,if_neg zo,if_neg zo,if_neg zo,if_pos zo]at he;split at he
 ·rename_i b a l hsl;have hb:InR b:=hin b (by rw[hsl];simp);have ha:InR a:=hin a (by rw[hsl];simp);have he':=Option.some.inj he;unfold Qax at he';rw[hk]at he';simp at he';subst he';exact JoH K w p s o a b l h hsl hl
 ·cases he
theorem JoP(hk:o.code=15):Calls prog 76 #[Pt p,.agg #[Iv o.code,Iv o.n,.string (bs o.name)]] w (Qav K w p s' (.tuple #[])):=by
 unfold Qbg at he;rw[if_neg zo,if_neg zo,if_neg zo,if_neg zo,if_neg zo,if_neg zo,if_neg zo,if_pos zo]at he;split at he
 ·rename_i b a l hsl;have hb:InR b:=hin b (by rw[hsl];simp);have ha:InR a:=hin a (by rw[hsl];simp);have he':=Option.some.inj he;unfold Qax at he';rw[hk]at he';simp at he';subst he';exact QkG K w p s o a b l h hsl hl
 ·cases he
theorem JmW(hk:o.code=16):Calls prog 77 #[Pt p,.agg #[Iv o.code,Iv o.n,.string (bs o.name)]] w (Qav K w p s' (.tuple #[])):=by
 unfold Qbg at he;rw[if_neg zo,if_neg zo,if_neg zo,if_neg zo,if_neg zo,if_neg zo,if_neg zo,if_neg zo,if_pos zo]at he;obtain rfl:=Option.some.inj he;exact JnQ K w p s o h (hj (.inl hk))
theorem Jgy(hk:o.code=17):Calls prog 78 #[Pt p,.agg #[Iv o.code,Iv o.n,.string (bs o.name)]] w (Qav K w p s' (.tuple #[])):=by
 unfold Qbg at he;rw[if_neg zo,if_neg zo,if_neg zo,if_neg zo,if_neg zo,if_neg zo,if_neg zo,if_neg zo,if_neg zo,if_pos zo]at he;split at he
 ·rename_i v l hsl;have hv:InR v:=hin v (by rw[hsl];simp);obtain rfl:=Option.some.inj he;exact JmD K w p s o v l h hsl hl (hj (by unfold isJ;omega))
 ·cases he
theorem JiN(hk:o.code=18):Calls prog 79 #[Pt p,.agg #[Iv o.code,Iv o.n,.string (bs o.name)]] w (Qav K w p s' (.tuple #[])):=by
 unfold Qbg at he;rw[if_neg zo,if_neg zo,if_neg zo,if_neg zo,if_neg zo,if_neg zo,if_neg zo,if_neg zo,if_neg zo,if_neg zo,if_pos zo]at he;split at he
 ·rename_i v l hsl;have hv:InR v:=hin v (by rw[hsl];simp);obtain rfl:=Option.some.inj he;exact JnR K w p s o v l h hsl hl (hj (by unfold isJ;omega))
 ·cases he
theorem JmX(hk:o.code=19):Calls prog 80 #[Pt p,.agg #[Iv o.code,Iv o.n,.string (bs o.name)]] w (Qav K w p s' (.tuple #[])):=by
 unfold Qbg at he;rw[if_neg zo,if_neg zo,if_neg zo,if_neg zo,if_neg zo,if_neg zo,if_neg zo,if_neg zo,if_neg zo,if_neg zo,if_neg zo,if_pos zo]at he;obtain⟨n0,n1,n2,n3⟩:=hcl hk;have g1:c.starts[o.n.toNat]?=some (c.starts.getD o.n.toNat 0):=by rw[List.getD_eq_getElem?_getD,List.getElem?_eq_getElem zo];rfl
 have g2:c.params[o.n.toNat]?=some (c.params.getD o.n.toNat 0):=by rw[List.getD_eq_getElem?_getD,List.getElem?_eq_getElem zo];rfl
 have g3:c.slots[o.n.toNat]?=some (c.slots.getD o.n.toNat 0):=by rw[List.getD_eq_getElem?_getD,List.getElem?_eq_getElem zo];rfl
 have i1:=hE.starts _ (List.mem_of_getElem? g1);have i2:=hE.params _ (List.mem_of_getElem? g2);have i3:=hE.slots _ (List.mem_of_getElem? g3);have i4:=hE.slots0 _ (List.mem_of_getElem? g3)
 have hh:(s.used≠10000->s.calls.length≠100->(c.params.getD o.n.toNat 0).toNat<=s.st.length/\(c.params.getD o.n.toNat 0).toNat<=(c.slots.getD o.n.toNat 0).toNat)->Calls prog 80 #[Pt p,.agg #[Iv o.code,Iv o.n,.string (bs o.name)]] w (Qav K w p (Qfg s (c.starts.getD o.n.toNat 0).toNat (c.params.getD o.n.toNat 0).toNat (c.slots.getD o.n.toNat 0).toNat) (.tuple #[])):=λhms=>
  Jod K w p s o h o.n.toNat zo _ _ _ c.starts c.params c.slots hE.r1 hE.r2 hE.r3 (by rw[g1];congr 1;omega) (by rw[g2];congr 1;omega) (by rw[g3];congr 1;omega) hms zo hl hu hc
 unfold Qfg at hh
 by_cases e1:s.used=10000
 ·rw[if_pos e1]at he hh;obtain rfl:=Option.some.inj he;exact hh λh=>absurd e1 h
 rw[if_neg e1]at he hh
 by_cases e2:s.calls.length=100
 ·rw[if_pos e2]at he hh;obtain rfl:=Option.some.inj he;exact hh λ_ h=>absurd e2 h
 rw[if_neg e2]at he hh;simp only[]at he;split at he
 ·rename_i hb;obtain rfl:=Option.some.inj he;exact hh λ_ _=>⟨hb.2.2.2.2.1,by omega⟩
 ·cases he
theorem JmY(hk:o.code=20):Calls prog 81 #[Pt p,.agg #[Iv o.code,Iv o.n,.string (bs o.name)]] w (Qav K w p s' (.tuple #[])):=by
 unfold Qbg at he;rw[if_neg zo,if_neg zo,if_neg zo,if_neg zo,if_neg zo,if_neg zo,if_neg zo,if_neg zo,if_neg zo,if_neg zo,if_neg zo,if_neg zo,if_pos zo]at he;split at he
 ·rename_i q vs l hcl;obtain rfl:=Option.some.inj he;exact JnW K w p s o q vs l h hcl hc
 ·cases he
theorem JiO(hk:o.code=21):Calls prog 82 #[Pt p,.agg #[Iv o.code,Iv o.n,.string (bs o.name)]] w (Qav K w p s' (.tuple #[])):=by
 unfold Qbg at he;rw[if_neg zo,if_neg zo,if_neg zo,if_neg zo,if_neg zo,if_neg zo,if_neg zo,if_neg zo,if_neg zo,if_neg zo,if_neg zo,if_neg zo,if_neg zo,if_pos zo]at he;obtain rfl:=Option.some.inj he;exact JkG K w p s o h hu
theorem Jon(hk:o.code=22):Calls prog 83 #[Pt p,.agg #[Iv o.code,Iv o.n,.string (bs o.name)]] w (Qav K w p s' (.tuple #[])):=by
 unfold Qbg at he;rw[if_neg zo,if_neg zo,if_neg zo,if_neg zo,if_neg zo,if_neg zo,if_neg zo,if_neg zo,if_neg zo,if_neg zo,if_neg zo,if_neg zo,if_neg zo,if_neg zo,if_pos zo]at he;obtain rfl:=Option.some.inj he;exact JoN K w p s o h
theorem Jep(k:Nat)(hk:o.code=(k:Int))(h23:k<23):Calls prog (hdl.getD k 0) #[Pt p,.agg #[Iv o.code,Iv o.n,.string (bs o.name)]] w (Qav K w p s' (.tuple #[])):=by
 have xA:k=0\/k=1\/k=2\/k=3\/k=4\/k=5\/k=6\/k=7\/k=8\/k=9\/k=10\/k=11\/k=12\/k=13\/k=14\/k=15\/k=16\/k=17\/k=18\/k=19\/k=20\/k=21\/k=22:=zo
 rcases xA with rfl|rfl|rfl|rfl|rfl|rfl|rfl|rfl|rfl|rfl|rfl|rfl|rfl|rfl|rfl|rfl|rfl|rfl|rfl|rfl|rfl|rfl|rfl
 ·exact JiM K c w p s s' o h hE he hl hin hu hc hj hcl hk
 ·exact JmS K c w p s s' o h hE he hl hin hu hc hj hcl hk
 ·exact JkQ K c w p s s' o h hE he hl hin hu hc hj hcl hk
 ·exact JmT K c w p s s' o h hE he hl hin hu hc hj hcl hk
 ·exact JkR K c w p s s' o h hE he hl hin hu hc hj hcl hk
 ·exact JmU K c w p s s' o h hE he hl hin hu hc hj hcl hk
 ·exact Jof K c w p s s' o h hE he hl hin hu hc hj hcl hk
 ·exact Jog K c w p s s' o h hE he hl hin hu hc hj hcl hk
 ·exact Joh K c w p s s' o h hE he hl hin hu hc hj hcl hk
 ·exact Joi K c w p s s' o h hE he hl hin hu hc hj hcl hk
 ·exact Joj K c w p s s' o h hE he hl hin hu hc hj hcl hk
 ·exact Jok K c w p s s' o h hE he hl hin hu hc hj hcl hk
 ·exact Jol K c w p s s' o h hE he hl hin hu hc hj hcl hk
 ·exact JmV K c w p s s' o h hE he hl hin hu hc hj hcl hk
 ·exact Jom K c w p s s' o h hE he hl hin hu hc hj hcl hk
 ·exact JoP K c w p s s' o h hE he hl hin hu hc hj hcl hk
 ·exact JmW K c w p s s' o h hE he hl hin hu hc hj hcl hk
 ·exact Jgy K c w p s s' o h hE he hl hin hu hc hj hcl hk
 ·exact JiN K c w p s s' o h hE he hl hin hu hc hj hcl hk
 ·exact JmX K c w p s s' o h hE he hl hin hu hc hj hcl hk
 ·exact JmY K c w p s s' o h hE he hl hin hu hc hj hcl hk
 ·exact JiO K c w p s s' o h hE he hl hin hu hc hj hcl hk
 ·exact Jon K c w p s s' o h hE he hl hin hu hc hj hcl hk
end
structure QeH(r:Qah):Prop where
 right:Qat r=true
 ops:(Qac r).ops.length<=40000000
 fn:r.funcs.length<=1000000
 par:∀f∈r.funcs,f.params.length<=1000000
def YH{r:Qah}{i:Nat}(hi:i<r.funcs.length):∃f,r.funcs[i]?=some f/\(Qac r).params[i]?=some (f.params.length:Int)/\(Qac r).slots[i]?=some (QbK (Qac r) (i+1))/\(f.params.length:Int)<=QbK (Qac r) (i+1)/\(Qac r).starts[i]?=some ((bnd (Qac r) i:Nat):Int):=by
 obtain⟨f,hf⟩:∃f,r.funcs[i]?=some f:=⟨_,List.getElem?_eq_getElem hi⟩
 obtain⟨q,g1,g2,_,_,_⟩:=Jeg r hf;obtain⟨_,_,_,g3,g4⟩:=(VV r).fn i f hf;have h1:QbK (Qac r) (i+1)=max (f.params.length:Int) (QaD f.body):=by unfold QbK;rw[if_neg zo,Nat.add_sub_cancel,List.getD_eq_getElem?_getD,g4];rfl
 exact⟨f,hf,g3,by rw[h1];exact g4,by rw[h1];omega,by rw[g1,g2]⟩
def YI(r:Qah):(Qac r).slots[r.funcs.length]?=some (QbK (Qac r) 0)/\0<=QbK (Qac r) 0:=by
 have h1:QbK (Qac r) 0=Qbv r.clauses:=by unfold QbK;rw[if_pos rfl,VW]
 rw[h1];refine⟨?_,KE _⟩;unfold Qac;simp
def JbR{r:Qah}(hk:QeH r){k:Nat}(h:k<=r.funcs.length):0<=QbK (Qac r) k/\QbK (Qac r) k<=1000100:=by
 obtain⟨ht,_,_,_,_⟩:=KS hk.right
 cases k with
 |zero=>
  have h1:QbK (Qac r) 0=Qbv r.clauses:=by unfold QbK;rw[if_pos rfl,VW]
  rw[h1];refine⟨KE _,?_⟩
  have:∀l:List ClM,(∀x∈l,x∈r.clauses)->Qbv l<=1000100:=by
   intro l
   induction l with
   |nil=>intro _;rw[Qbv];omega
   |cons x l ih=>
    intro hx;rw[Qbv];have h1:=ih (λy hy=>hx y (by simp[hy]));have h2:=JbK x.cond 0 40 (YY ht (hx x zq));omega
  exact this _ (λ_ h=>h)
 |succ i=>
  obtain⟨f,hf,_,_,h3,_⟩:=YH (r:=r) (i:=i) zo;obtain⟨_,_,_,g3,g4⟩:=(VV r).fn i f hf;have h1:QbK (Qac r) (i+1)=max (f.params.length:Int) (QaD f.body):=by unfold QbK;rw[if_neg zo,Nat.add_sub_cancel,List.getD_eq_getElem?_getD,g4];rfl
  have hm:f∈r.funcs:=List.mem_of_getElem? hf;have h2:=JbK f.body f.params.length 40 (YX ht hm);have h4:=hk.par f hm;omega
def JkS{r:Qah}(hr:Qat r=true){i:Nat}(hi:i<r.funcs.length):QcG (Qac r) i<bnd (Qac r) i/\bnd (Qac r) i<(Qac r).ops.length/\QcG (Qac r) (i+1)=bnd (Qac r) i:=by
 have h1:=(VX hr i zo).1;have h2:=VX hr (i+1) zo;have h3:QcG (Qac r) (i+1)=bnd (Qac r) i:=by unfold QcG;rw[if_neg zo,Nat.add_sub_cancel]
 rw[h3]at h2;exact⟨h1,by have:=h2.1;have:=h2.2.1;omega,h3⟩
theorem Qhx{P:Prop}(h:P:=by
  have HFIN:Hi (Below w.heap.size w wl):=HB.o.trans (hbw.o.mono HB.o.size);clear hi hg;go_wp2;go_ret
  exact⟨rfl,HFIN.o⟩):P:=h
def JiP(r:Qah)(hk:QeH r)(p:Nat)(w:World)(hp:p<=w.heap.size)(d:Array Value)(h:CV w p (Qac r) d):Calls prog 39 #[.agg d] w (Qbj w (.bool true)):=by
 obtain⟨a0,c0,a1,c1,a2,c2,a3,c3,rfl,g0,g1,g2,g3⟩:=h.g;obtain⟨l1,l2,l3,l4⟩:=JL r;obtain⟨n0,hn0⟩:∃n0,(Qac r).ops.length=n0:=⟨_,rfl⟩
 obtain⟨nf,zA⟩:∃nf,r.funcs.length=nf:=⟨_,rfl⟩
 have hN:=hk.ops;have hF:=hk.fn;rw[zA]at l1 l2 l3 hF;rw[hn0]at hN l4;rw[l1,l2,l3,hn0];obtain⟨sl,vA⟩:=YI r;rw[zA]at sl;obtain⟨b3,o3,rfl,k3⟩:=g3 nf _ sl;obtain⟨Z,hZ⟩:∃Z,QbK (Qac r) 0=Z:=⟨_,rfl⟩
 rw[hZ]at k3 vA;have HK:=Zh hk;have HG1:=Zh g1;have HG2:=Zh g2;have gA:=Zh g3;have eA:=Zh k3;have iA:=Zh zA;have dA:=Zh hn0;have hb:=(Below.refl w.heap.size w).alloc (Nat.le_refl _) (.cells #[.slice a0 n0 c0,.slice a1 nf c1,.slice a2 nf c2,.slice (some ⟨b3,o3,none⟩) (nf+1) c3] 31);have HB:=Zh hb;have aA:=Zh (hb.mono hp);have HPS:=Zh hp;have HX:=Zh (BxB.of (zQ w (.cells #[.slice a0 n0 c0,.slice a1 nf c1,.slice a2 nf c2,.slice (some ⟨b3,o3,none⟩) (nf+1) c3] 31)));have qA:1<=n0:=zo;clear h g0 g1 g2 g3 k3 sl hb hp hk hZ zA l1 l2 l3 l4 hn0;go_enter func39,ntmps39;go_upto_region 1 with fail;obtain⟨eb,cA⟩:∃eb,w.heap.size=eb:=⟨_,rfl⟩
 rw[cA]at HX |-;clear cA;generalize World.alloc w _=w1 at *;obtain⟨x0,x1,x2,x3⟩:=Qao (HX.o _ zO);have z3:=eA.o _ aA.o;have wk:IntKind.i64.wrap ((nf:Int)+1)=((nf+1:Nat):Int):=by rw[IntWalk.i64_in _ zo];omega
 have q0:((n0:Int)==0)=false:=zr;have q1:decide (Z<0)=false:=zH zo;have q2:(nf:Int)<((nf+1:Nat):Int):=zo;have q3:(nf:Int)<(nf:Int)+1:=zo;go_wp2_with fail;clear x0 x1 x2 x3 z3 q2 q3;go_loopg [4,40] nf λg v4 v40 wr=>∃i:Nat,g+i=nf/\v40=Iv (i:Int)/\v4=Iv ((QcG (Qac r) i:Nat):Int)/\Hi (Below w1.heap.size w1 wr)
 case atStart=>exact⟨0,rfl,rfl,rfl,zO⟩
 case round=>
  obtain⟨wl,rfl⟩:=zJ wr;obtain⟨i,hg,rfl,rfl,hbw⟩:=hrel
  by_cases hi:i<nf
  ·have dil:decide ((i:Int)<(nf:Int))=true:=zG zo;have diN:decide (i<nf)=true:=zG hi;have uA:i<r.funcs.length:=by rw[iA.o];exact hi
   obtain⟨f,hf,e2,e3,e4,e1⟩:=YH uA;obtain⟨s1,s2,s3⟩:=JkS HK.o.right uA;rw[dA.o]at s2;have yA:Below p w wl:=aA.o.trans (hbw.o.mono (zv HB.o.size HPS.o));obtain⟨b1,o1,rfl,k1⟩:=HG1.o i _ e1;obtain⟨b2,o2,rfl,k2⟩:=HG2.o i _ e2;obtain⟨b4,o4,xA,k4⟩:=gA.o i _ e3;have xA:=Option.some.inj xA;simp only[Addr.mk.injEq]at xA;obtain⟨rfl,rfl,_⟩:=xA;obtain⟨x0,x1,x2,x3⟩:=Qao (HX.o _ hbw.o);have z1:=k1 _ yA;have z2:=k2 _ yA;have z4:=k4 _ yA;obtain⟨A,hA⟩:∃A,bnd (Qac r) i=A:=⟨_,rfl⟩
   obtain⟨Bf,bA⟩:∃Bf,QcG (Qac r) i=Bf:=⟨_,rfl⟩
   obtain⟨S,hS⟩:∃S,QbK (Qac r) (i+1)=S:=⟨_,rfl⟩
   obtain⟨m,hm⟩:∃m,f.params.length=m:=⟨_,rfl⟩
   rw[hA]at s1 s2 z1;rw[bA]at s1 |-;rw[hS]at e4 z4;rw[hm]at e4 z2;have HA:Hi (QcG (Qac r) (i+1)=A):=s3.trans hA;have HGI:Hi (gk+i=nf/\i<nf):=⟨hg,hi⟩
   have k0:0<=(i:Int):=zo;have kn:(i:Int)<(nf:Int):=zo;have pA:(i:Int)<(nf:Int)+1:=zo;have rA:(i:Int)<((nf+1:Nat):Int):=zo;have t1:decide ((A:Int)<=(Bf:Int))=false:=zH zo;have t2:decide ((n0:Int)<=(A:Int))=false:=zH zo;have jA:decide ((A:Int)>=(n0:Int))=false:=zH zo;have sA:decide (A<=Bf)=false:=zH zo;have mA:decide (n0<=A)=false:=zH zo;have t3:decide ((m:Int)<0)=false:=zH zo;have t4:decide (S<(m:Int))=false:=zH zo;have nA:decide ((m:Int)>S)=false:=zH zo;have kA:IntKind.i64.wrap ((i:Int)+1)=((i+1:Nat):Int):=by rw[IntWalk.i64_in _ zo];omega
   clear hA bA hS hm s1 s2 s3 e1 e2 e3 e4 k1 k2 k4 hf uA hg hi yA wk q0 q1;go_upto_region 8 with fail;go_region;clear x0 x1 x2 x3 z1 z2 z4;go_wp2_with fail;go_roundg (nf-(i+1))
   case measure=>have:=HGI.o;omega
   case rel=>exact⟨i+1,by have:=HGI.o;omega,rfl,by rw[HA.o],hbw.o.drew⟩
  ·have dil:decide ((i:Int)<(nf:Int))=false:=zH zo;have diN:decide (i<nf)=false:=zH hi;exact Qhx
def QkF(x0 x1 x2 x3 x4 x5 x6 x7:Int):∀(i:Nat) (v:Int),[x0,x1,x2,x3,x4,x5,x6,x7][i]?=some v->∀W:World,(Instr.index 80 (.agg #[Iv x0,Iv x1,Iv x2,Iv x3,Iv x4,Iv x5,Iv x6,Iv x7]) (Iv (i:Int))).run prog W=.ok (Iv v) W
 |0,v,h,W=>by obtain rfl:=Option.some.inj h;kernel_rfl
 |1,v,h,W=>by obtain rfl:=Option.some.inj h;kernel_rfl
 |2,v,h,W=>by obtain rfl:=Option.some.inj h;kernel_rfl
 |3,v,h,W=>by obtain rfl:=Option.some.inj h;kernel_rfl
 |4,v,h,W=>by obtain rfl:=Option.some.inj h;kernel_rfl
 |5,v,h,W=>by obtain rfl:=Option.some.inj h;kernel_rfl
 |6,v,h,W=>by obtain rfl:=Option.some.inj h;kernel_rfl
 |7,v,h,W=>by obtain rfl:=Option.some.inj h;kernel_rfl
 |i+8,v,h,W=>by simp at h
def QcE(l:List (By × Int))(i:Nat):Option By:=if i=0 then none else (l[i-1]?).map (·.1)
def Qdm(l:List By)(i:Nat):Option By:=if i=0 then none else l[i-1]?
def Jde(p:Option By)(c:By × Int)(l:List (By × Int)):Qba p (c::l)=(decide (1<=c.2)&&decide (c.2<=1125899906842624)&&(match p with|none=>true|some q=>ltB q c.1)&&Qba (some c.1) l):=by
 cases p<;>rfl
def Jeq(p:Option By)(c:By)(l:List By):Qcz p (c::l)=((match p with|none=>true|some q=>ltB q c)&&Qcz (some c) l):=by
 cases p<;>rfl
def JiQ{l:List (By × Int)}{i:Nat}{a:By × Int}{b:Bool}(h:Qba (QcE l i) (l.drop i)=b)(hi:l[i]?=some a) :
  (decide (1<=a.2)&&decide (a.2<=1125899906842624)&&(match QcE l i with|none=>true|some q=>ltB q a.1)&&Qba (QcE l (i+1)) (l.drop (i+1)))=b:=by
 obtain⟨hlt,he⟩:=List.getElem?_eq_some_iff.1 hi;rw[List.drop_eq_getElem_cons hlt,he,Jde]at h;have:QcE l (i+1)=some a.1:=by unfold QcE;rw[if_neg zo,Nat.add_sub_cancel,hi];rfl
 rw[this];exact h
def Jgz{l:List By}{i:Nat}{a:By}{b:Bool}(h:Qcz (Qdm l i) (l.drop i)=b)(hi:l[i]?=some a) :
  ((match Qdm l i with|none=>true|some q=>ltB q a)&&Qcz (Qdm l (i+1)) (l.drop (i+1)))=b:=by
 obtain⟨hlt,he⟩:=List.getElem?_eq_some_iff.1 hi;rw[List.drop_eq_getElem_cons hlt,he,Jeq]at h;have:Qdm l (i+1)=some a:=by unfold Qdm;rw[if_neg zo,Nat.add_sub_cancel,hi]
 rw[this];exact h
theorem QhQ{P:Prop}(h:P:=by
  go_wp2;go_roundg (F.labels.length-(i+1))
  case measure=>have:=HG.o;have:=HHI.o;omega
  case rel=>exact⟨i+1,by have:=HHI.o;omega,by go_num,HBD,HST⟩):P:=h
theorem QgW{P:Prop}(h:P:=by
  go_region;clear b0 b1 b2 b3 b4 b5 b6 b7 b8 b9 b10 b11 c0 c1;go_wp2;go_ret
  exact⟨rfl,HFIN.o⟩):P:=h
def Y3(F:Qaj)(lv wv:Value)(w:World)(hz:FSz F)(hl:Qbx w lv F.labels)(hw:QaT w wv F.words):Calls prog 13 #[.agg (QaI F lv wv)] w (Qbj w (.bool (QaF F))):=by
 obtain⟨la,lc,rfl,_⟩:=hl.form;obtain⟨wa,wc,rfl,_⟩:=hw.form;obtain⟨q,hq⟩:∃q,QaF F=q:=⟨_,rfl⟩
 rw[hq];have HQ:Hi ((F.nums.all QfR&&Qba none F.labels&&Qcz none F.words)=q):=hq;unfold QaI;have cA:Below w.heap.size w (w.alloc (.cells #[.slice la F.labels.length lc,Iv F.likes,Iv F.boosts,Iv F.replies,Iv F.reports,Iv F.age,Iv F.home,Iv F.scope,Iv F.length,.bool F.follows,.bool F.reply,.slice wa F.words.length wc] 45)):=zO.alloc (Nat.le_refl _) _;have HCP:=Zh (zQ w (.cells #[.slice la F.labels.length lc,Iv F.likes,Iv F.boosts,Iv F.replies,Iv F.reports,Iv F.age,Iv F.home,Iv F.scope,Iv F.length,.bool F.follows,.bool F.reply,.slice wa F.words.length wc] 45));have HKX:Hi (∀W,Below (w.alloc (.cells #[.slice la F.labels.length lc,Iv F.likes,Iv F.boosts,Iv F.replies,Iv F.reports,Iv F.age,Iv F.home,Iv F.scope,Iv F.length,.bool F.follows,.bool F.reply,.slice wa F.words.length wc] 45)).heap.size (w.alloc (.cells #[.slice la F.labels.length lc,Iv F.likes,Iv F.boosts,Iv F.replies,Iv F.reports,Iv F.age,Iv F.home,Iv F.scope,Iv F.length,.bool F.follows,.bool F.reply,.slice wa F.words.length wc] 45)) W->Bel w W):=λW hW=>Jd cA hW
 have aA:Qbx (w.alloc (.cells #[.slice la F.labels.length lc,Iv F.likes,Iv F.boosts,Iv F.replies,Iv F.reports,Iv F.age,Iv F.home,Iv F.scope,Iv F.length,.bool F.follows,.bool F.reply,.slice wa F.words.length wc] 45)) (.slice la F.labels.length lc) F.labels:=hl.up cA;have vA:QaT (w.alloc (.cells #[.slice la F.labels.length lc,Iv F.likes,Iv F.boosts,Iv F.replies,Iv F.reports,Iv F.age,Iv F.home,Iv F.scope,Iv F.length,.bool F.follows,.bool F.reply,.slice wa F.words.length wc] 45)) (.slice wa F.words.length wc) F.words:=hw.up cA;have mA:=Zh aA;have jA:=Zh vA;have cB:=hz.nl;have dB:=hz.nw;have rA:=Zh (QkF F.likes F.boosts F.replies F.reports F.age F.home F.scope F.length);have hA:Hi (F.nums=[F.likes,F.boosts,F.replies,F.reports,F.age,F.home,F.scope,F.length]):=rfl;clear cA hl hw hq hz aA vA;go_enter func13,ntmps13;go_upto_region 1 with fail;have HEB:Hi (w.heap.size<(w.alloc (.cells #[.slice la F.labels.length lc,Iv F.likes,Iv F.boosts,Iv F.replies,Iv F.reports,Iv F.age,Iv F.home,Iv F.scope,Iv F.length,.bool F.follows,.bool F.reply,.slice wa F.words.length wc] 45)).heap.size):=Jb HCP.o;generalize World.alloc w _=w1 at *;generalize w.heap.size=eb at *
 have FF:Hi (∀W,Below w1.heap.size w1 W->W.cell? ⟨eb,0,none⟩=some (.slice la F.labels.length lc)/\W.cell? ⟨eb,1,none⟩=some (Iv F.likes)/\W.cell? ⟨eb,2,none⟩=some (Iv F.boosts)/\W.cell? ⟨eb,3,none⟩=some (Iv F.replies)/\W.cell? ⟨eb,4,none⟩=some (Iv F.reports)/\W.cell? ⟨eb,5,none⟩=some (Iv F.age)/\W.cell? ⟨eb,6,none⟩=some (Iv F.home)/\W.cell? ⟨eb,7,none⟩=some (Iv F.scope)/\W.cell? ⟨eb,8,none⟩=some (Iv F.length)/\W.cell? ⟨eb,9,none⟩=some (.bool F.follows)/\W.cell? ⟨eb,10,none⟩=some (.bool F.reply)/\W.cell? ⟨eb,11,none⟩=some (.slice wa F.words.length wc)):=by
  intro W hW;have hh:=(hW.block _ HEB.o).trans HCP.o;refine⟨?_,?_,?_,?_,?_,?_,?_,?_,?_,?_,?_,?_⟩<;>(rw[Ja hh];rfl)
 obtain⟨b0,b1,b2,b3,b4,b5,b6,b7,b8,b9,b10,b11⟩:=FF.o _ zO;go_wp2_with fail;clear b0 b1 b2 b3 b4 b5 b6 b7 b8 b9 b10 b11;go_loop [26] (λv=>∃k:Nat,v=Iv k/\k<=8/\Hi ((F.nums.take k).all QfR=true)) λv=>8-(intOf v).toNat
 case atStart=>exact⟨0,rfl,by omega,rfl⟩
 case round=>
 obtain⟨k,rfl,hk,uA⟩:=hrel;have wk:=zI k
 by_cases hk8:k<8
 ·have pA:(k:Int)<8:=zo;obtain⟨x,hx⟩:∃x,F.nums[k]?=some x:=⟨F.nums[k]'(by rw[hA.o];exact hk8),List.getElem?_eq_getElem _⟩
  have aB:=rA.o k x (by rw[<- hA.o];exact hx);have HXX:=Zh hx;clear hx
  by_cases h0:0<=x
  ·have d0:decide (x<0)=false:=zH zo
   by_cases hM:x<=1125899906842624
   ·have dM:decide (1125899906842624<x)=false:=zH zo;have xB:=Zh (Vc uA.o HXX.o (by unfold QfR;rw[zG h0,zG hM];rfl));clear uA HXX h0 hM;go_wp2;go_round
    case rel=>exact⟨k+1,by go_num,hk8,xB⟩
    case measure=>simp[intOf];omega
   ·have dM:decide (1125899906842624<x)=true:=zG zo;have hqf:q=false:=by rw[<- HQ.o,Vk HXX.o (by unfold QfR;rw[zH hM];simp)];rfl
    subst hqf;have HFIN:=Zh (HKX.o _ zO);clear uA HXX h0 hM;go_wp2;go_ret;exact⟨rfl,HFIN.o⟩
  ·have d0:decide (x<0)=true:=zG zo;have hqf:q=false:=by rw[<- HQ.o,Vk HXX.o (by unfold QfR;rw[zH h0];rfl)];rfl
   subst hqf;have HFIN:=Zh (HKX.o _ zO);clear uA HXX h0;go_wp2;go_ret;exact⟨rfl,HFIN.o⟩
 have pA:¬(k:Int)<8:=zo;have dA:k=8:=zo;subst dA
 replace HQ:Hi ((Qba (QcE F.labels 0) (F.labels.drop 0)&&Qcz none F.words)=q):=by
  have h1:=HQ.o;have h2:=uA.o;rw[show F.nums.take 8=F.nums from rfl]at h2;rw[h2]at h1;exact h1
 clear uA hk8 hk rA hA;obtain⟨b0,b1,b2,b3,b4,b5,b6,b7,b8,b9,b10,b11⟩:=FF.o _ zO;have qA:Hi (Below w1.heap.size w1 w1):=zO;go_wp2_with fail;clear b0 b1 b2 b3 b4 b5 b6 b7 b8 b9 b10 b11 pA wk;obtain⟨lb,iA⟩:∃lb,Qba (QcE F.labels 0) (F.labels.drop 0)=lb:=⟨_,rfl⟩
 have nA:=Zh iA;rw[iA]at HQ;clear iA;go_loopg [39] F.labels.length λg v39 wr=>∃i:Nat,g+i=F.labels.length/\v39=Iv i/\Hi (Below w1.heap.size w1 wr)/\Hi (Qba (QcE F.labels i) (F.labels.drop i)=lb)
 case atStart=>exact⟨0,rfl,rfl,qA,nA⟩
 case round=>
 clear nA qA;obtain⟨wl,rfl⟩:=zJ wr;obtain⟨i,hg,rfl,hbw,xA⟩:=hrel
 by_cases hi:i<F.labels.length
 ·have hil:(i:Int)<(F.labels.length:Int):=zo;have wk:=zI i;obtain⟨a,ha⟩:∃a,F.labels[i]?=some a:=⟨F.labels[i],List.getElem?_eq_getElem hi⟩
  have gA:=mA.o.up hbw.o;obtain⟨b,o,yA,_,c0,c1⟩:=gA.get ha;have hst:=JiQ xA.o ha;obtain⟨nm,ct⟩:=a;dsimp only at c0 c1 hst;have HST:=Zh hst;have hb2:Below wl.heap.size wl (wl.alloc (.cells #[Sv nm,Iv ct] 82)):=zO.alloc (Nat.le_refl _) _;have HBX:=Zh (Jd hbw.o hb2);have HNB:=Zh (zQ wl (.cells #[Sv nm,Iv ct] 82));have HWL:=Zh (gA.up hb2);have HG:=Zh hg;have HHI:=Zh hi;have tA:=Zh yA;have hsub:=yA;subst hsub;clear hst gA hb2 hbw hg ha xA hi yA;go_upto_region 10 with fail;clear c0 c1;have bB:Hi (wl.heap.size<(wl.alloc (.cells #[Sv nm,Iv ct] 82)).heap.size):=Jb HNB.o;generalize World.alloc wl _=w3 at *;generalize wl.heap.size=cb at *;have c0:=Ja HNB.o 0;have c1:=Ja HNB.o 1;simp only[zW]at c0 c1;obtain⟨b0,b1,b2,b3,b4,b5,b6,b7,b8,b9,b10,b11⟩:=FF.o _ HBX.o;have HFIN:Hi (Bel w w3.drew):=HKX.o _ HBX.o.drew;have HBD:Hi (Below w1.heap.size w1 w3.drew):=HBX.o.drew;have u1:=Jj nm
  by_cases h1:1<=ct
  ·have d1:decide (ct<1)=false:=zH zo
   replace HST:Hi ((decide (ct<=1125899906842624)&&(match QcE F.labels i with|none=>true|some q=>ltB q nm)&&Qba (QcE F.labels (i+1)) (F.labels.drop (i+1)))=lb):=by
    have h2:=HST.o;rw[zG h1,Bool.true_and]at h2;exact h2
   by_cases hM:ct<=1125899906842624
   ·have dM:decide (1125899906842624<ct)=false:=zH zo
    replace HST:Hi (((match QcE F.labels i with|none=>true|some q=>ltB q nm)&&Qba (QcE F.labels (i+1)) (F.labels.drop (i+1)))=lb):=by
     have h2:=HST.o;rw[zG hM,Bool.true_and]at h2;exact h2
    clear h1 hM
    by_cases hi0:i=0
    ·have di:decide ((0:Int)<(i:Int))=false:=zH zo;have diN:decide (0<i)=false:=zH zo
     replace HST:Hi (Qba (QcE F.labels (i+1)) (F.labels.drop (i+1))=lb):=by
      have h2:=HST.o;rw[show QcE F.labels i=none by unfold QcE;rw[if_pos hi0]]at h2;exact h2
     clear hi0;go_region;clear b0 b1 b2 b3 b4 b5 b6 b7 b8 b9 b10 b11 c0 c1;exact QhQ
    ·have di:decide ((0:Int)<(i:Int))=true:=zG zo;have diN:decide (0<i)=true:=zG zo;obtain⟨p,hp⟩:∃p,F.labels[i-1]?=some p:=⟨F.labels[i-1]'(zu HHI.o),List.getElem?_eq_getElem _⟩
     obtain⟨b',o',had',_,p0,_⟩:=HWL.o.get hp;injection had' with had';injection had' with e1 e2 e3;subst e1 e2;obtain⟨pn,pc⟩:=p;dsimp only at p0;have wm:IntKind.i64.wrap ((i:Int)-1)=(i:Int)-1:=IntWalk.i64_in _ zo;have vB:((i:Int)-1).toNat=i-1:=zo;have uB:(0:Int)<=(i:Int)-1:=zo;have zB:(1:Int)<=(i:Int):=zo;have eA:1<=i:=zo;have yB:(i:Int)-1<(F.labels.length:Int):=zo;have u2:=Jj pn;have bA:QcE F.labels i=some pn:=by unfold QcE;rw[if_neg hi0,hp];rfl
     rw[bA]at HST;clear hi0 hp bA
     cases hlt:ltB pn nm with
     |true=>
      have zA:Op.bytesLess pn nm=true:=hlt
      replace HST:Hi (Qba (QcE F.labels (i+1)) (F.labels.drop (i+1))=lb):=by
       have h2:=HST.o;simp only[hlt,Bool.true_and]at h2;exact h2
      clear hlt;go_region;clear b0 b1 b2 b3 b4 b5 b6 b7 b8 b9 b10 b11 c0 c1 p0;exact QhQ
     |false=>
      have zA:Op.bytesLess pn nm=false:=hlt
      have hqf:q=false:=by
       have h2:=HST.o;simp only[hlt,Bool.false_and]at h2;rw[<- HQ.o,<- h2];rfl
      subst hqf;clear hlt HST;go_region;clear b0 b1 b2 b3 b4 b5 b6 b7 b8 b9 b10 b11 c0 c1 p0;go_wp2;go_ret;exact⟨rfl,HFIN.o⟩
   ·have dM:decide (1125899906842624<ct)=true:=zG zo
    have hqf:q=false:=by
     have h2:=HST.o;rw[zH hM,Bool.false_and,Bool.false_and]at h2;rw[<- HQ.o,<- h2];rfl
    subst hqf;clear h1 hM HST;exact QgW
  ·have d1:decide (ct<1)=true:=zG zo
   have hqf:q=false:=by
    have h2:=HST.o;rw[zH h1,Bool.false_and,Bool.false_and,Bool.false_and]at h2;rw[<- HQ.o,<- h2];rfl
   subst hqf;clear h1 HST;exact QgW
 have hil:¬(i:Int)<(F.labels.length:Int):=zo;obtain rfl:i=F.labels.length:=zo;have hlt:lb=true:=by rw[<- xA.o,List.drop_length];rfl
 subst hlt;replace HQ:Hi (Qcz (Qdm F.words 0) (F.words.drop 0)=q):=HQ.o;obtain⟨b0,b1,b2,b3,b4,b5,b6,b7,b8,b9,b10,b11⟩:=FF.o _ hbw.o;have HFIN:Hi (Bel w wl):=HKX.o _ hbw.o;have kA:Hi (QaT wl (.slice wa F.words.length wc) F.words):=jA.o.up hbw.o;have HBW:=Zh hbw.o;clear xA hg hi hbw jA mA;go_wp2_with fail;clear b0 b1 b2 b3 b4 b5 b6 b7 b8 b9 b10 b11 hil;go_loop [72] (λv=>∃j:Nat,v=Iv j/\j<=F.words.length/\Hi (Qcz (Qdm F.words j) (F.words.drop j)=q)) λv=>F.words.length-(intOf v).toNat
 case atStart=>exact⟨0,rfl,Nat.zero_le _,HQ⟩
 case round=>
 clear HQ;obtain⟨j,rfl,hj,xA⟩:=hrel;have wk:=zI j
 by_cases hjl:j<F.words.length
 ·have hil:(j:Int)<(F.words.length:Int):=zo;obtain⟨a,ha⟩:∃a,F.words[j]?=some a:=⟨F.words[j],List.getElem?_eq_getElem hjl⟩
  obtain⟨b,o,yA,_,c0⟩:=kA.o.get ha;have hst:=Jgz xA.o ha;have HST:=Zh hst;obtain⟨b0,b1,b2,b3,b4,b5,b6,b7,b8,b9,b10,b11⟩:=FF.o _ HBW.o;have u1:=Jj a
  by_cases hj0:j=0
  ·have di:decide ((0:Int)<(j:Int))=false:=zH zo;have diN:decide (0<j)=false:=zH zo
   replace HST:Hi (Qcz (Qdm F.words (j+1)) (F.words.drop (j+1))=q):=by
    have h2:=HST.o;rw[show Qdm F.words j=none by unfold Qdm;rw[if_pos hj0]]at h2;exact h2
   subst yA;clear hj0 hst ha xA;go_wp2;go_round
   case rel=>exact⟨j+1,by go_num,hjl,HST⟩
   case measure=>simp[intOf];omega
  ·have di:decide ((0:Int)<(j:Int))=true:=zG zo;have diN:decide (0<j)=true:=zG zo;obtain⟨p,hp⟩:∃p,F.words[j-1]?=some p:=⟨F.words[j-1]'(by omega),List.getElem?_eq_getElem _⟩
   obtain⟨b',o',had',_,p0⟩:=kA.o.get hp;rw[yA]at had';injection had' with had';injection had' with e1 e2 e3;subst e1 e2;have wm:IntKind.i64.wrap ((j:Int)-1)=(j:Int)-1:=IntWalk.i64_in _ zo;have vB:((j:Int)-1).toNat=j-1:=zo;have uB:(0:Int)<=(j:Int)-1:=zo;have zB:(1:Int)<=(j:Int):=zo;have eA:1<=j:=zo;have yB:(j:Int)-1<(F.words.length:Int):=zo;have u2:=Jj p;have bA:Qdm F.words j=some p:=by unfold Qdm;rw[if_neg hj0,hp]
   rw[bA]at HST;subst yA;clear hj0 hp bA hst ha xA
   cases hlt:ltB p a with
   |true=>
    have zA:Op.bytesLess p a=true:=hlt
    replace HST:Hi (Qcz (Qdm F.words (j+1)) (F.words.drop (j+1))=q):=by
     have h2:=HST.o;simp only[hlt,Bool.true_and]at h2;exact h2
    clear hlt;go_wp2;go_round
    case rel=>exact⟨j+1,by go_num,hjl,HST⟩
    case measure=>simp[intOf];omega
   |false=>
    have zA:Op.bytesLess p a=false:=hlt
    have hqf:q=false:=by
     have h2:=HST.o;simp only[hlt,Bool.false_and]at h2;exact h2.symm
    subst hqf;clear hlt HST;go_wp2;go_ret;exact⟨rfl,HFIN.o⟩
 ·have hil:¬(j:Int)<(F.words.length:Int):=zo;obtain rfl:j=F.words.length:=zo;have sA:q=true:=by rw[<- xA.o,List.drop_length];rfl
  subst sA;clear xA hjl hj;go_wp2;go_ret;exact⟨rfl,HFIN.o⟩
def Qex(X:QeD):Array Value:=#[Iv X.action,.string (bs X.reason),Iv X.used,Iv X.fault]
def Qfk(w:World)(X:QeD)(e:Ending)(w':World):Prop:=e=.returned (.agg (Qex X))/\Below w.heap.size w w'
def QdG:(prog.info? 48).map (·.size)=some 4:=zk
def Qer{w:World}{T t:Nat}{a0 a1 a2 a3:Value}(v0 v1 v2 v3:Value)(h:w.heap[T]?=some (.cells #[a0,a1,a2,a3] t (0,0))) :
  ((((w.setCell ⟨T,0,none⟩ v0).setCell ⟨T,1,none⟩ v1).setCell ⟨T,2,none⟩ v2).setCell ⟨T,3,none⟩ v3).heap[T]?=some (.cells #[v0,v1,v2,v3] t (0,0)):=by
 rw[Jm (Jm (Jm (Jm h 0 v0) 1 v1) 2 v2) 3 v3];rfl
structure RrI(K:Qbw)(ob pm:Nat)(W:World)(u:Nat):Prop where
 mr:Qcw K W u 0
 pmb:W.heap[pm]?=some (.cells #[Pt K.p] 98 (0,0))
 res:W.heap[ob]?=some (.cells #[Iv 0,Em,Iv 0,Iv 0] 48 (0,0))
 low:K.w0.heap.size<=ob/\K.w0.heap.size<=pm/\ob≠K.p/\pm≠K.p
def RrI.on{K:Qbw}{ob pm:Nat}{W W':World}{u u' c:Nat}(h:RrI K ob pm W u)(hc:Chg [K.p] W W')(hm:Qcw K W' u' 0):RrI K ob pm W' u':=
 ⟨hm,hc.heap_some (by simpa using h.low.2.2.2) h.pmb,hc.heap_some (by simpa using h.low.2.2.1) h.res,h.low⟩
def RrI.o{K:Qbw}{ob pm:Nat}{W:World}{u:Nat}(h:RrI K ob pm W u)(X:QeD):(∀j,W.frozen? ⟨ob,j,none⟩=false)/\ob<W.heap.size/\
  (((((W.setCell ⟨ob,0,none⟩ (Iv X.action)).setCell ⟨ob,1,none⟩ (.string (bs X.reason))).setCell ⟨ob,2,none⟩ (Iv X.used)).setCell ⟨ob,3,none⟩ (Iv X.fault)).heap[ob]?=some (.cells (Qex X) 48 (0,0)))/\
  Bel K.w0 ((((W.setCell ⟨ob,0,none⟩ (Iv X.action)).setCell ⟨ob,1,none⟩ (.string (bs X.reason))).setCell ⟨ob,2,none⟩ (Iv X.used)).setCell ⟨ob,3,none⟩ (Iv X.fault)):=
 ⟨λj=>Jc h.res j,Jb h.res,Qer _ _ _ _ h.res,Below.setCell (Below.setCell (Below.setCell (Below.setCell h.mr.bel h.low.1 _) h.low.1 _) h.low.1 _) h.low.1 _⟩
def Jas{c:Qaf}{F:Qaj}:∀(i j:Nat) (s a b:StM),Qaw c F i s=some a->a.fin=true->Qaw c F j s=some b->b.fin=true->a=b
 |0,0,s,a,b,h1,_,h2,_=>by rw[Qaw]at h1 h2;exact(Option.some.inj h1).symm.trans (Option.some.inj h2)
 |0,j+1,s,a,b,h1,hf,h2,_=>by
  simp only[Qaw]at h1 h2;obtain rfl:=Option.some.inj h1;unfold QbZ at h2;rw[if_pos hf]at h2
  cases h2
 |i+1,0,s,a,b,h1,_,h2,hf=>by
  simp only[Qaw]at h1 h2;obtain rfl:=Option.some.inj h2;unfold QbZ at h1;rw[if_pos hf]at h1
  cases h1
 |i+1,j+1,s,a,b,h1,ha,h2,hb=>by
  rw[Qaw]at h1 h2
  cases hx:QbZ c F s with
  |none=>rw[hx]at h1;cases h1
  |some s1=>
   rw[hx]at h1 h2;exact Jas i j s1 a b h1 ha h2 hb
def JiR{r q:Qah}{F:Qaj}(hr:Qat r=true)(hq:Qat q=true)(hF:QaF F=true)(h:Qac q=Qac r):QdM q F=QdM r F:=by
 obtain⟨s1,⟨i,h1⟩,h2,h3⟩:=VC hr hF;obtain⟨s2,⟨j,k1⟩,k2,k3⟩:=VC hq hF;rw[h]at k1;rw[<- h3,<- k3,Jas i j _ _ _ h1 h2 k1 k2]
def Jdg{c:Qaf}{F:Qaj}:∀(j k:Nat) (s a b:StM),Qaw c F j s=some a->Qaw c F (j+k) s=some b->Qaw c F k a=some b
 |0,k,s,a,b,h1,h2=>by
  rw[Qaw]at h1;obtain rfl:=Option.some.inj h1;rw[Nat.zero_add]at h2;exact h2
 |j+1,k,s,a,b,h1,h2=>by
  rw[Nat.add_right_comm,Qaw]at h2;rw[Qaw]at h1
  cases hx:QbZ c F s with
  |none=>rw[hx]at h1;cases h1
  |some s1=>
   rw[hx]at h1 h2;exact Jdg j k s1 a b h1 h2
def Jbf{c:Qaf}{F:Qaj}:∀(j:Nat) (s a b:StM),Qaw c F j s=some a->QbZ c F a=some b->Qaw c F (j+1) s=some b
 |0,s,a,b,h1,h2=>by
  rw[Qaw]at h1;obtain rfl:=Option.some.inj h1;rw[Qaw,h2];rfl
 |j+1,s,a,b,h1,h2=>by
  rw[Qaw]at h1
  cases hx:QbZ c F s with
  |none=>rw[hx]at h1;cases h1
  |some s1=>
   rw[hx]at h1;rw[Qaw,hx];exact Jbf j s1 a b h1 h2
structure Qjm(c:Qaf)(o:OpM)(s:StM):Prop where
 pc:s.pc<c.ops.length
 at':c.ops[s.pc]?=some o
 len:s.st.length<=1000000000000
 inr:∀x∈s.st,InR x
 used:s.used<=10000
 calls:s.calls.length<=100
 jump:isJ o->0<=o.n
 call:o.code=19->0<=o.n/\o.n.toNat<c.params.length/\o.n.toNat<c.slots.length/\o.n.toNat<c.starts.length
 code:∃k:Nat,k<23/\o.code=(k:Int)
def JkU{r:Qah}{F:Qaj}(hr:Qat r=true)(hF:QaF F=true)(hlen:(Qac r).ops.length<=40000000){j kT:Nat}{s sE:StM}(hT:Qaw (Qac r) F kT (Qbf (Qac r))=some sE)(hE:sE.fin=true)(hs:Qaw (Qac r) F j (Qbf (Qac r))=some s)(hj:j<=kT)(hf:s.fin=false) :
  j+1<=kT/\∃o s',Qjm (Qac r) o s/\Qbg (Qac r) F o { s with pc:=s.pc+1 }=some s'/\Qaw (Qac r) F (j+1) (Qbf (Qac r))=some s':=by
 obtain⟨k,rfl⟩:∃k,kT=j+k:=⟨kT-j,by omega⟩
 have hc:=Jdg j k _ s sE hs hT
 cases k with
 |zero=>
  rw[Qaw]at hc;obtain rfl:=Option.some.inj hc;rw[hE]at hf
  cases hf
 |succ k=>
  refine⟨by omega,?_⟩;rw[Qaw]at hc
  cases hx:QbZ (Qac r) F s with
  |none=>rw[hx]at hc;cases hc
  |some s1=>
   have yA:=hx;unfold QbZ at hx;rw[if_neg (by rw[hf];simp)]at hx
   cases ho:(Qac r).ops[s.pc]? with
   |none=>rw[ho]at hx;cases hx
   |some o=>
    rw[ho]at hx;have xA:=(List.getElem?_eq_some_iff.1 ho).1
    have h0:QgL (Qac r) (Qbf (Qac r)):=by
     unfold Qbf
     exact⟨Nat.zero_le _,λx hx=>by simp at hx,λx hx=>by
      obtain⟨_,rfl⟩:=List.mem_replicate.1 hx;unfold InR
      omega,λx hx=>by simp at hx,by simp,by simp⟩
    obtain⟨h1,h2,h3⟩:=JcK (JaV hr) hF j _ s h0 hs
    have zA:phi (Qac r) (Qbf (Qac r))<=1000000000000:=by
     unfold phi Qbf;simp only[frW];omega
    have hst:(Qbf (Qac r)).st.length=0:=rfl;obtain⟨i,q1,q2,q3⟩:=Jie r xA;obtain⟨_,uA,_,dep,_,h5⟩:=VX hr i q1;obtain⟨o',g1,g2,_⟩:=h5 _ q2 q3;rw[ho]at g1;obtain rfl:=Option.some.inj g1;obtain⟨l1,l2,l3,l4⟩:=JL r;refine⟨o,s1,⟨xA,ho,by omega,h1.st,h1.used,h1.many,λe=>by have:=(g2.nj e).1;omega,λe=>?_,?_⟩,hx,Jbf j _ s s1 hs yA⟩
    ·have:=g2.nc e;rw[l1,l3];rw[l2]at this |-;omega
    ·have:=g2.code;exact⟨o.code.toNat,by omega,by omega⟩
end Go.Proofs.YtfafpklefknomaaGreatDoor
