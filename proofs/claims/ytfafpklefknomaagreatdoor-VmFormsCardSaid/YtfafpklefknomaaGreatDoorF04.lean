import Derived.Test.YtfafpklefknomaaGreatDoorF03
namespace Go.Proofs.YtfafpklefknomaaGreatDoor
open _root_.Go.Proofs.Tryz
set_option linter.all false
set_option maxRecDepth 100000
set_option maxHeartbeats 40000000
def fp_next{c:Qaf}{p:Nat}:QcG c (p+1)=bnd c p:=by unfold QcG;rw[if_neg zo,Nat.add_sub_cancel]
def fp_start{r:Qah}(hr:Qat r=true){p:Nat}(hp:p<r.funcs.length):(Qac r).starts[p]?=some ((bnd (Qac r) p:Nat):Int)/\bnd (Qac r) p<(Qac r).ops.length:=by
 obtain⟨f,hf⟩:∃f,r.funcs[p]?=some f:=⟨_,List.getElem?_eq_getElem hp⟩
 obtain⟨q,g1,g2,_⟩:=Jeg r hf;obtain⟨k1,k2,_⟩:=VX hr (p+1) zo;rw[fp_next]at k1;exact⟨by rw[g2];exact g1,by omega⟩
def fp_all(r:Qah):bnd (Qac r) r.funcs.length=(Qac r).ops.length:=by
 have:=(JL r).1;unfold bnd;rw[if_neg zo]
def FpI(r:Qah)(i p:Nat):Prop:=p<=r.funcs.length/\QcG (Qac r) p<=i/\i<=bnd (Qac r) p
def fpN(r:Qah)(i p:Nat):Nat:=if p<r.funcs.length/\bnd (Qac r) p=i then p+1 else p
def FpI.zero(r:Qah):FpI r 0 0:=⟨Nat.zero_le _,Nat.le_refl _,Nat.zero_le _⟩
def FpI.step{r:Qah}(hr:Qat r=true){i p:Nat}(h:FpI r i p)(hi:i<(Qac r).ops.length):fpN r i p<=r.funcs.length/\QcG (Qac r) (fpN r i p)<=i/\i<bnd (Qac r) (fpN r i p)/\FpI r (i+1) (fpN r i p):=by
 obtain⟨h1,h2,h3⟩:=h;unfold fpN
 by_cases e:p<r.funcs.length/\bnd (Qac r) p=i
 ·rw[if_pos e];obtain⟨k1,k2,_⟩:=VX hr (p+1) zo;unfold FpI;rw[fp_next]at k1 |-;refine⟨by omega,by omega,by omega,by omega,by omega,by omega⟩
 ·rw[if_neg e]
  have h4:i<bnd (Qac r) p:=by
   by_cases e2:p<r.funcs.length
   ·have:=λx=>e ⟨e2,x⟩
    omega
   ·obtain rfl:p=r.funcs.length:=zo
    rw[fp_all];exact hi
  exact⟨h1,h2,h4,h1,by omega,h4⟩
def FpI.last{r:Qah}(hr:Qat r=true){i p:Nat}(hp:p<=r.funcs.length)(hb:i<bnd (Qac r) p):(i+1=bnd (Qac r) p)↔(i+1=(Qac r).ops.length\/(p<r.funcs.length/\bnd (Qac r) p=i+1)):=by
 by_cases e:p<r.funcs.length
 ·have:=(fp_start hr e).2
  constructor
  ·exact λh=>.inr ⟨e,h.symm⟩
  ·rintro (h|⟨_,h⟩)
   ·omega
   ·exact h.symm
 ·obtain rfl:p=r.funcs.length:=zo
  rw[fp_all]
  constructor
  ·exact .inl
  ·rintro (h|⟨h,_⟩)
   ·exact h
   ·exact absurd h zo
def FpI.done{r:Qah}(hr:Qat r=true){i p:Nat}(h:FpI r i p)(hi:i=(Qac r).ops.length):p=r.funcs.length:=by
 obtain⟨h1,h2,h3⟩:=h
 by_cases e:p<r.funcs.length
 ·have:=(fp_start hr e).2;omega
 ·omega
def cnt_snoc{k:Int}{l:List OpM}{i:Nat}{o:OpM}(h:l[i]?=some o):cnt k (l.take (i+1))=cnt k (l.take i)+(if o.code=k then 1 else 0):=by
 rw[List.take_add_one,h,Option.toList_some,cnt_append,cnt_cons,cnt_nil,Nat.zero_add]
structure FpO(r:Qah)(i p:Nat)(o:OpM):Prop where
 ret:o.code=20->i+1=bnd (Qac r) p
 fin:o.code=22->(∃x,r.clauses[cnt 22 ((Qac r).ops.take i)]?=some x/\o.n=x.action/\o.name=x.reason)\/(cnt 22 ((Qac r).ops.take i)=r.clauses.length/\o.n=r.action/\o.name=[]/\i+1=bnd (Qac r) p)
 jmp:isJ o->(i:Int)<o.n/\o.n<(bnd (Qac r) p:Int)
 var:o.code=1\/o.code=2->0<=o.n/\o.n<QbK (Qac r) p
def FpO.of{r:Qah}(hr:Qat r=true){i p:Nat}(hp:p<=r.funcs.length)(ha:QcG (Qac r) p<=i)(hb:i<bnd (Qac r) p){o:OpM}(ho:(Qac r).ops[i]?=some o):FpO r i p o:=by
 obtain⟨_,_,_,dep,_,h5⟩:=VX hr p hp;obtain⟨o',g1,g2,g3⟩:=h5 i ha hb;rw[ho]at g1;obtain rfl:=Option.some.inj g1;refine⟨λhc=>ret_last hr hp ha hb ho hc,λhc=>?_,λhj=>?_,g2.nv⟩
 ·rcases end_at hr ho hc with h|⟨h1,h2,h3,h4⟩
  ·exact .inl h
  ·have:p=0:=by simpa using g2.pl.2 (.inr hc)
   rw[this];exact .inr ⟨h1,h2,h3,h4⟩
 ·have:=g2.nj hj;omega
end Go.Proofs.YtfafpklefknomaaGreatDoor


