import Derived.Test.YtfafpklefknomaaGreatDoorR23
import Derived.Test.YtfafpklefknomaaGreatDoorR27
open List(length_append)
open Nat(add_assoc)
namespace Go.Proofs.YtfafpklefknomaaGreatDoor
open _root_.Go.Proofs.Tryz
set_option linter.all false
set_option maxRecDepth 100000
set_option maxHeartbeats 32000000
def AtC(c:Qaf)(p:Nat)(l:List OpM):Prop:=∀(j:Nat) (o:OpM),l[j]?=some o->c.ops[p+j]?=some o
def AtC.left{c:Qaf}{p:Nat}{x y:List OpM}(h:AtC c p (x++y)):AtC c p x:=λj o hj=>h j o (by rw[List.getElem?_append_left (List.getElem?_eq_some_iff.1 hj).1];exact hj)
def AtC.right{c:Qaf}{p:Nat}{x y:List OpM}(h:AtC c p (x++y)):AtC c (p+x.length) y:=λj o hj=>by
 have:=h (x.length+j) o (by rw[List.getElem?_append_right zo];simpa using hj)
 rwa [show p+(x.length+j)=p+x.length+j by omega]at this
def AtC.head{c:Qaf}{p:Nat}{o:OpM}{l:List OpM}(h:AtC c p (o::l)):c.ops[p]?=some o:=h 0 o rfl
def AtC.tail{c:Qaf}{p:Nat}{o:OpM}{l:List OpM}(h:AtC c p (o::l)):AtC c (p+1) l:=λj o' hj=>by
 have:=h (j+1) o' hj
 rwa [show p+(j+1)=p+1+j by omega]at this
def AtC.cast{c:Qaf}{p q:Nat}{l:List OpM}(h:AtC c p l)(e:p=q):AtC c q l:=e ▸ h
def Qck(c:Qaf)(F:Qaj)(s s':StM):Prop:=∃k,Qaw c F k s=some s'
def JaT(c:Qaf)(F:Qaj):∀(j k:Nat) (s:StM),Qaw c F (j+k) s=(Qaw c F j s).bind (Qaw c F k)
 |0,k,s=>by rw[Nat.zero_add,Qaw];rfl
 |j+1,k,s=>by
  rw[show j+1+k=(j+k)+1 by omega,Qaw,Qaw]
  cases QbZ c F s with
  |none=>rfl
  |some s'=>exact JaT c F j k s'
def Qck.refl(c:Qaf)(F:Qaj)(s:StM):Qck c F s s:=⟨0,rfl⟩
def Qck.trans{c:Qaf}{F:Qaj}{s s1 s2:StM}(h:Qck c F s s1)(k:Qck c F s1 s2):Qck c F s s2:=by
 obtain⟨i,hi⟩:=h;obtain⟨j,hj⟩:=k;exact⟨i+j,by rw[JaT,hi];exact hj⟩
def Qck.one{c:Qaf}{F:Qaj}{s s':StM}(h:QbZ c F s=some s'):Qck c F s s':=⟨1,by rw[Qaw,h];rfl⟩
def Kc{c:Qaf}{F:Qaj}{s:StM}{o:OpM}(hf:s.fin=false)(ho:c.ops[s.pc]?=some o):QbZ c F s=Qbg c F o { s with pc:=s.pc+1 }:=by
 unfold QbZ;rw[hf,ho];rfl
def Qby(c:Qaf)(F:Qaj)(s:StM)(st:List Int)(q m:Nat):RN Int->Prop
 |.val v u=>∃vs,Qck c F s { s with pc:=q,st:=v::st,vars:=vs,used:=u }/\vs.length=s.vars.length/\∀i,i<m->vs[i]?=s.vars[i]?
 |.fault e u=>∃s',Qck c F s s'/\s'.fin=true/\s'.o=⟨0,[],0,e⟩/\s'.used=u
def Qee(c:Qaf)(F:Qaj)(s:StM)(st:List Int)(q m:Nat):RN (List Int)->Prop
 |.val l u=>∃vs,Qck c F s { s with pc:=q,st:=l.reverse++st,vars:=vs,used:=u }/\vs.length=s.vars.length/\∀i,i<m->vs[i]?=s.vars[i]?
 |.fault e u=>∃s',Qck c F s s'/\s'.fin=true/\s'.o=⟨0,[],0,e⟩/\s'.used=u
section
variable {c:Qaf} {F:Qaj} {s:StM} {st st1 vs1:List Int} {q m p1 u1:Nat} {X:RN Int}
theorem Qjr{P:Prop}(h:P:=by
  cases X with
  |val v u=>
   obtain⟨vs,h1,h2,h3⟩:=he;exact⟨vs,h.trans h1,h2.trans hl,λi hi=>(h3 i hi).trans (hv i hi)⟩
  |fault e u=>
   obtain⟨s',h1,h2⟩:=he
   exact⟨s',h.trans h1,h2⟩):P:=h
def Qby.after(h:Qck c F s { s with pc:=p1,st:=st1,vars:=vs1,used:=u1 })(hl:vs1.length=s.vars.length)(hv:∀i,i<m->vs1[i]?=s.vars[i]?)
  (he:Qby c F { s with pc:=p1,st:=st1,vars:=vs1,used:=u1 } st q m X):Qby c F s st q m X:=by
 exact Qjr
def Qee.after{X:RN (List Int)}(h:Qck c F s { s with pc:=p1,st:=st1,vars:=vs1,used:=u1 })(hl:vs1.length=s.vars.length)(hv:∀i,i<m->vs1[i]?=s.vars[i]?)
  (he:Qee c F { s with pc:=p1,st:=st1,vars:=vs1,used:=u1 } st q m X):Qee c F s st q m X:=by
 exact Qjr
def Qby.jump{q2:Nat}(h:Qby c F s st q m X)(hs:∀v vs u,Qck c F { s with pc:=q,st:=v::st,vars:=vs,used:=u } { s with pc:=q2,st:=v::st,vars:=vs,used:=u }):Qby c F s st q2 m X:=by
 cases X with
 |val v u=>
  obtain⟨vs,h1,h2,h3⟩:=h;exact⟨vs,h1.trans (hs v vs u),h2,h3⟩
 |fault e u=>exact h
def Qby.less{m2:Nat}(h:Qby c F s st q m2 X)(hm:m<=m2):Qby c F s st q m X:=by
 cases X with
 |val v u=>
  obtain⟨vs,h1,h2,h3⟩:=h;exact⟨vs,h1,h2,λi hi=>h3 i zo⟩
 |fault e u=>exact h
theorem Qhp{P:Prop}(h:P:=by
  cases Y with
  |val v u=>
   obtain⟨vs,h1,h2,h3⟩:=h;exact Qby.after h1 h2 h3 (k v u vs rfl h2 h3)
  |fault e u=>exact h):P:=h
def Qby.bind{Y:RN Int}{f:Int->Nat->RN Int}{q0:Nat}{st0:List Int}(h:Qby c F s st0 q0 m Y)
  (k:∀v u vs,Y=.val v u->vs.length=s.vars.length->(∀i,i<m->vs[i]?=s.vars[i]?)->Qby c F { s with pc:=q0,st:=v::st0,vars:=vs,used:=u } st q m (f v u)):Qby c F s st q m (Y.bind f):=by
 exact Qhp
end
def QeI(c:Qaf)(F:Qaj)(fs:List QaN)(call:Int->List Int->Nat->RN Int)(D:Nat):Prop:=
 ∀(n:Int) (args:List Int) (s:StM) (st:List Int) (f:QaN),0<=n->fs[n.toNat]?=some f->QdC f.params args->s.used<=10000->s.fin=false->s.calls.length=D->c.ops[s.pc]?=some ⟨19,n,[]⟩->s.st=args.reverse++st->
  Qby c F s st (s.pc+1) s.vars.length (call n args s.used)
def Qcr(p:Nat)(k n:Int)(s:By)(l:List Exp):cE p (.mk k n s l) =
  if k=0\/k=1 then [⟨0,n,[]⟩]
  else if k=2 then [⟨1,n,[]⟩]
  else if k=3 then [⟨3,0,s⟩]
  else if k=4 then [⟨4,0,s⟩]
  else if k=5 then [⟨5,0,s⟩]
  else if k=16 then
   match l with
   |[a,b]=>cE p a++⟨17,((p+(cE p a).length+(cE (p+(cE p a).length+1) b).length+2:Nat):Int),[]⟩::(cE (p+(cE p a).length+1) b ++
     [⟨16,((p+(cE p a).length+(cE (p+(cE p a).length+1) b).length+3:Nat):Int),[]⟩,⟨0,0,[]⟩])
   |_=>[]
  else if k=17 then
   match l with
   |[a,b]=>cE p a++⟨18,((p+(cE p a).length+(cE (p+(cE p a).length+1) b).length+2:Nat):Int),[]⟩::(cE (p+(cE p a).length+1) b ++
     [⟨16,((p+(cE p a).length+(cE (p+(cE p a).length+1) b).length+3:Nat):Int),[]⟩,⟨0,1,[]⟩])
   |_=>[]
  else if k=18 then
   match l with
   |[c,a,b]=>cE p c++⟨17,((p+(cE p c).length+(cE (p+(cE p c).length+1) a).length+2:Nat):Int),[]⟩::(cE (p+(cE p c).length+1) a ++
     ⟨16,((p+(cE p c).length+(cE (p+(cE p c).length+1) a).length+2+(cE (p+(cE p c).length+(cE (p+(cE p c).length+1) a).length+2) b).length:Nat):Int),[]⟩ ::
     cE (p+(cE p c).length+(cE (p+(cE p c).length+1) a).length+2) b)
   |_=>[]
  else if k=19 then
   match l with
   |[a,b]=>cE p a++⟨2,n,[]⟩::cE (p+(cE p a).length+1) b
   |_=>[]
  else cL p l++[if k=20 then⟨19,n,[]⟩ else op0 (QbT k)]:=by
 conv=>lhs;unfold cE
 rfl
def Vd{k n:Int}{s:By}{l:List Exp}:QbG l<=QaD (.mk k n s l):=by rw[QaD];omega
def JE:∀{l:List Exp} {a:Exp},a∈l->QaD a<=QbG l
 |x::l,a,h=>by
  rw[QbG]
  rcases List.mem_cons.1 h with rfl|h
  ·omega
  ·have:=JE h;omega
section
variable {c:Qaf} {F:Qaj} {s:StM} {m:Nat}
def Jac{o:OpM}{v:Int}{p:Nat}(hp:s.pc=p)(hf:s.fin=false)(ho:c.ops[p]?=some o)(he:∀s':StM,s'.vars=s.vars->Qbg c F o s'=some (s'.push v)):Qby c F s s.st (p+1) m (.val v s.used):=by
 subst hp;refine⟨s.vars,Qck.one ?_,rfl,λ_ _=>rfl⟩;rw[Kc hf ho];exact he _ rfl
end
structure Qfz(s:StM)(p D:Nat)(vals:List Int)(L:Int):Prop where
 pc:s.pc=p
 fin:s.fin=false
 calls:s.calls.length=D
 used:s.used<=10000
 lets:L<=(s.vars.length:Int)
 vars:vals.length<=s.vars.length
 eq:∀i,i<vals.length->s.vars[i]?=vals[i]?
def Qfz.next{s:StM}{p D q u:Nat}{vals vs st:List Int}{L L2:Int}(h:Qfz s p D vals L)(hl:vs.length=s.vars.length)(hv:∀i,i<vals.length->vs[i]?=s.vars[i]?)(hu:u<=10000)(hL:L2<=L) :
  Qfz { s with pc:=q,st:=st,vars:=vs,used:=u } q D vals L2:=
 ⟨rfl,h.fin,h.calls,hu,by have:=h.lets;simp only[hl];omega,by simp only[hl];exact h.vars,λi hi=>(hv i hi).trans (h.eq i hi)⟩
def Qfz.less{s:StM}{p D:Nat}{vals:List Int}{L L2:Int}(h:Qfz s p D vals L)(hL:L2<=L):Qfz s p D vals L2:=⟨h.pc,h.fin,h.calls,h.used,by have:=h.lets;omega,h.vars,h.eq⟩
def Jkm(k a b:Int)(u:Nat):Qax k a b u=match Qax k a b 0 with|.val v _=>.val v u|.fault e _=>.fault e u:=by
 unfold Qax;split
 ·rfl
 split
 ·rfl
 split
 ·rfl
 split
 ·rfl
 split
 ·rfl
 split
 ·split<;>rfl
 split
 ·split<;>rfl
 split
 ·rfl
 split<;>rfl
section
variable {c:Qaf} {F:Qaj} {s:StM} {st:List Int} {q m:Nat}
def Jfe{k a b:Int}(hk:8<=k/\k<=15)(hf:s.fin=false)(hst:s.st=b::a::st)(ho:c.ops[s.pc]?=some (op0 k)):Qby c F s st (s.pc+1) m (Qax k a b s.used):=by
 have he:QbZ c F s=some (match Qax k a b 0 with|.val v _=>{ s with pc:=s.pc+1,st:=v::st }|.fault e _=>StM.fail { s with pc:=s.pc+1,st:=st } e):=by
  rw[Kc hf ho];unfold Qbg op0;rw[if_neg zr,if_neg zr,if_neg zr,if_neg zr,if_neg zr,if_neg zr,if_neg zr,if_pos zr];simp only[hst]
  cases Qax k a b 0<;>rfl
 rw[Jkm]
 cases hv:Qax k a b 0 with
 |val v _=>
  rw[hv]at he;exact⟨s.vars,Qck.one he,rfl,λ_ _=>rfl⟩
 |fault e _=>
  rw[hv]at he;exact⟨_,Qck.one he,rfl,rfl,rfl⟩
def Jff{k a:Int}{t:Int}(hk:k=6\/k=7)(ha:VOk (if k=7 then 1 else 0) a)(hf:s.fin=false)(hst:s.st=a::st)(ho:c.ops[s.pc]?=some (op0 k))(b:Int):Qby c F s st (s.pc+1) m (Qax k a b s.used):=by
 have he:QbZ c F s=some { s with pc:=s.pc+1,st:=(if k=6 then clI (0-a) else Qcs (decide (a=0)))::st }:=by
  rw[Kc hf ho];unfold Qbg op0;rw[if_neg zr,if_neg zr,if_neg zr,if_neg zr,if_neg zr,if_neg zr,if_pos (by simpa using hk)];simp only[hst]
 have hv:Qax k a b s.used=.val (if k=6 then clI (0-a) else Qcs (decide (a=0))) s.used:=by
  unfold Qax
  rcases hk with rfl|rfl
  ·rfl
  ·rcases ha with⟨h,_⟩|⟨_,rfl|rfl⟩
   ·exact absurd h zp
   ·rfl
   ·rfl
 rw[hv];exact⟨s.vars,Qck.one he,rfl,λ_ _=>rfl⟩
end
section
variable {c:Qaf}{F:Qaj}{s:StM}
include c F s
theorem Qee.bindQ{st st0:List Int}{q q0 m:Nat}{Y:RN (List Int)}{f:List Int->Nat->RN Int}(h:Qee c F s st0 q0 m Y)
  (k:∀l u vs,Y=.val l u->vs.length=s.vars.length->(∀i,i<m->vs[i]?=s.vars[i]?)->Qby c F { s with pc:=q0,st:=l.reverse++st0,vars:=vs,used:=u } st q m (f l u)):Qby c F s st q m (Y.bind f):=by
 exact Qhp
theorem Qby.bindL{st st0:List Int}{q q0 m:Nat}{Y:RN Int}{f:Int->Nat->RN (List Int)}(h:Qby c F s st0 q0 m Y)
  (k:∀v u vs,Y=.val v u->vs.length=s.vars.length->(∀i,i<m->vs[i]?=s.vars[i]?)->Qee c F { s with pc:=q0,st:=v::st0,vars:=vs,used:=u } st q m (f v u)):Qee c F s st q m (Y.bind f):=by
 cases Y with
 |val v u=>
  obtain⟨vs,h1,h2,h3⟩:=h;exact Qee.after h1 h2 h3 (k v u vs rfl h2 h3)
 |fault e u=>exact h
theorem Jad{v:Int}{st:List Int}{n:Nat}(hf:s.fin=false)(hst:s.st=v::st)(ho:c.ops[s.pc]?=some ⟨17,(n:Int),[]⟩) :
  Qck c F s { s with pc:=if v=0 then n else s.pc+1,st:=st }:=by
 refine Qck.one ?_;rw[Kc hf ho];unfold Qbg;simp only[hst]
 by_cases hv:v=0
 ·subst hv;simp[StM.go]
 ·simp[hv]
theorem Jkn{v:Int}{st:List Int}{n:Nat}(hf:s.fin=false)(hst:s.st=v::st)(ho:c.ops[s.pc]?=some ⟨18,(n:Int),[]⟩) :
  Qck c F s { s with pc:=if v=1 then n else s.pc+1,st:=st }:=by
 refine Qck.one ?_;rw[Kc hf ho];unfold Qbg;simp only[hst]
 by_cases hv:v=1
 ·subst hv;simp[StM.go]
 ·simp[hv]
theorem Jfg{n:Nat}(hf:s.fin=false)(ho:c.ops[s.pc]?=some ⟨16,(n:Int),[]⟩):Qck c F s { s with pc:=n }:=by
 refine Qck.one ?_;rw[Kc hf ho];unfold Qbg StM.go;simp
theorem Jib{v:Int}{st:List Int}{n:Int}(hf:s.fin=false)(hst:s.st=v::st)(ho:c.ops[s.pc]?=some ⟨2,n,[]⟩)(h0:0<=n)(h1:n<(s.vars.length:Int)) :
  Qck c F s { s with pc:=s.pc+1,st:=st,vars:=s.vars.set n.toNat v }:=by
 refine Qck.one ?_;rw[Kc hf ho];unfold Qbg;simp[hst,h0,h1]
end
def Jic{pa:List Nat}{k n:Int}(h:8<=k/\k<=17\/k=19):QaM pa k n=2:=by
 unfold QaM;rw[if_neg zo,if_neg zo,if_neg zo,if_neg zo]
theorem QjN{P:Prop}(h:P:=by
  refine Qby.after r rfl (λ_ _=>rfl) ?_
  exact Jac (F:=F) (c:=c) (s:={ s with pc:=p+(cE p a).length+(cE (p+(cE p a).length+1) b).length+2,st:=s.st,vars:=vs1,used:=u' }) rfl hS.fin (by
   have:=h4.tail.head
   rwa [show p+(cE p a).length+1+(cE (p+(cE p a).length+1) b).length+1=p+(cE p a).length+(cE (p+(cE p a).length+1) b).length+2 by omega]at this) (λs' _=>by unfold Qbg;rfl)):P:=h
theorem QgV{P:Prop}(h:P:=by
  rw[Qcr]at ha |-;simp at ha |-
  exact Jac hS.pc hS.fin ha.head (λs' _=>by unfold Qbg;rfl)):P:=h
theorem QjA{P:Prop}(h:P:=by
  refine(Jae hF hc hs b vars vals _ (p+(cE p a).length+1) 1 _ fb tb hv h1.tail.left hS2).jump λv2 vs2 u2=>?_
  exact Jfg (s:={ s with pc:=p+(cE p a).length+1+(cE (p+(cE p a).length+1) b).length,st:=v2::s.st,vars:=vs2,used:=u2 }) hS.fin h4.head):P:=h
theorem Qgs{P:Prop}(h:P:=by
  simp only[List.length_append,List.length_cons,List.length_nil];omega):P:=h
mutual
def Jae{c:Qaf}{fs:List QaN}{F:Qaj}{call:Int->List Int->Nat->RN Int}{D:Nat}(hF:QaF F=true)(hc:Qet fs call)(hs:QeI c F fs call D) :
  ∀(e:Exp) (vars vals:List Int) (Qag p:Nat) (t:Int) (s:StM),QaK (QbP fs) vars.length Qag e=true->ofN fs vars (utN e)=(t,[])->QdC vars vals->AtC c p (cE p e)->Qfz s p D vals (QaD e)->
   Qby c F s s.st (p+(cE p e).length) vals.length (evN call F vals s.used e)
 |.mk k n nm l,vars,vals,Qag,p,t,s,hf,ht,hv,ha,hS=>by
  obtain⟨_,hfi,har,hk⟩:=JI hf;have hkind:=Yy hfi;unfold Qam at hfi;rw[K5]at hfi;simp only[Bool.and_eq_true,decide_eq_true_eq]at hfi;obtain⟨⟨⟨hn,hs'⟩,_⟩,_⟩:=hfi;rw[utN,Zd]at ht;have hlk:=hS.less (Vd (k:=k) (n:=n) (s:=nm) (l:=l));have hvl:=hv.1
  rcases hkind with rfl|rfl|rfl|rfl|rfl|rfl|rfl|rfl|h8|rfl|rfl|rfl|rfl|rfl|rfl
  ·rw[J5];exact QgV
  ·rw[J5];exact QgV
  ·rw[J5];rw[Qcr]at ha |-;simp at ha hn |-;have h1:n.toNat<vals.length:=by omega
   have h2:=hS.eq n.toNat h1;have h3:=hS.vars;refine Jac hS.pc hS.fin ha.head λs' hs2=>?_;unfold Qbg;simp only[hs2];rw[if_neg (by decide),if_pos trivial,if_pos ⟨hn.1,by omega⟩]
   congr 2
   rw[List.getD_eq_getElem?_getD,h2]
  ·rw[J5];exact QgV
  ·rw[J5];exact QgV
  ·rw[J5];exact QgV
  ·
   rw[J5];rw[Qcr]at ha |-;simp at ha ht |-;obtain⟨rfl,ht⟩:=ht;have hl:l.length=1:=har;have hty:=J9 ht;rw[Jz,hl]at hty;have hok:=VB hF hc l vars vals (Qag-1) s.used [0] 6 0 (by decide) hk hty hv hS.used;refine(Jgd hF hc hs l vars vals (Qag-1) p [0] 6 0 s (by decide) hk hty hv ha.left hlk).bindQ λvs u' vs1 hX h2 h3=>?_
   rw[hX]at hok;obtain⟨_,hu',h5⟩:=hok;have h0:vs.length=1:=h5.1.symm
   match vs,h0,h5 with
   |[a],_,h5=>
    have:=Jff (F:=F) (c:=c) (m:=vals.length) (s:={ s with pc:=p+(cL p l).length,st:=[a].reverse++s.st,vars:=vs1,used:=u' }) (t:=0) (k:=6) (.inl rfl) (a:=a) (by simpa using h5.2 0 0 a rfl rfl) hS.fin rfl ha.right.head ([a].getD 1 0);exact this
  ·
   rw[J5];rw[Qcr]at ha |-;simp at ha ht |-;obtain⟨rfl,ht⟩:=ht;have hl:l.length=1:=har;have hty:=J9 ht;rw[Jz,hl]at hty;have hok:=VB hF hc l vars vals (Qag-1) s.used [1] 7 0 (by decide) hk hty hv hS.used;refine(Jgd hF hc hs l vars vals (Qag-1) p [1] 7 0 s (by decide) hk hty hv ha.left hlk).bindQ λvs u' vs1 hX h2 h3=>?_
   rw[hX]at hok;obtain⟨_,hu',h5⟩:=hok;have h0:vs.length=1:=h5.1.symm
   match vs,h0,h5 with
   |[a],_,h5=>
    have:=Jff (F:=F) (c:=c) (m:=vals.length) (s:={ s with pc:=p+(cL p l).length,st:=[a].reverse++s.st,vars:=vs1,used:=u' }) (t:=0) (k:=7) (.inr rfl) (a:=a) (by simpa using h5.2 0 1 a rfl rfl) hS.fin rfl ha.right.head ([a].getD 1 0);exact this
  ·
   have hl:l.length=2:=by rw[har];exact Jic (by omega)
   obtain⟨h81,h82⟩:=h8
   have hty:TyL fs vars [0,0] (utL l):=by
    by_cases h13:13<=k
    ·rw[if_neg (by omega),if_neg (by omega),if_neg (by omega),if_neg (by omega),if_pos (by omega)]at ht;simp at ht;have hty:=J9 ht.2;rw[Jz,hl]at hty;exact hty
    ·rw[if_neg (by omega),if_neg (by omega),if_neg (by omega),if_pos (by omega)]at ht;simp at ht;have hty:=J9 ht.2;rw[Jz,hl]at hty;exact hty
   rw[J5];rw[Qcr]at ha |-;have hkc:QbT k=k:=by unfold QbT;rw[if_pos (by omega)]
   rw[if_neg (by omega),if_neg (by omega),if_neg (by omega),if_neg (by omega),if_neg (by omega),if_neg (by omega),if_neg (by omega),if_neg (by omega),if_neg (by omega),if_neg (by omega),hkc]at ha;rw[if_neg (by omega),if_neg (by omega),if_neg (by omega),if_neg (by omega),if_neg (by omega),if_neg (by omega),if_neg (by omega),if_neg (by omega),if_neg (by omega)];rw[if_neg (by omega),if_neg (by omega),if_neg (by omega),if_neg (by omega),if_neg (by omega),if_neg (by omega),if_neg (by omega),if_neg (by omega),if_neg (by omega),if_neg (by omega),hkc];have hok:=VB hF hc l vars vals (Qag-1) s.used [0,0] k 0 (by omega) hk hty hv hS.used;rw[length_append,List.length_singleton,<- add_assoc];refine(Jgd hF hc hs l vars vals (Qag-1) p [0,0] k 0 s (by omega) hk hty hv ha.left hlk).bindQ λvs u' vs1 hX h2 h3=>?_
   rw[hX]at hok;obtain⟨_,hu',h5⟩:=hok;have h0:vs.length=2:=h5.1.symm;rw[if_neg (by omega)]
   match vs,h0,h5 with
   |[a,b],_,h5=>
    have:=Jfe (F:=F) (c:=c) (m:=vals.length) (st:=s.st) (s:={ s with pc:=p+(cL p l).length,st:=[a,b].reverse++s.st,vars:=vs1,used:=u' }) (k:=k) (a:=a) (b:=b) (by omega) hS.fin rfl ha.right.head;exact this
  ·
   have hl:l.length=2:=har;obtain⟨a,b,rfl⟩:=JT hl;simp[utL]at ht;obtain⟨rfl,h1,h2,h3⟩:=ht;have hty:TyL fs vars [(ofN fs vars (utN a)).1,(ofN fs vars (utN b)).1] (utL [a,b]):=by rw[utL,utL,utL];exact⟨Prod.ext rfl h1,Prod.ext rfl h2,trivial⟩
   rw[J5];rw[Qcr]at ha |-;simp at ha |-;have hok:=VB hF hc [a,b] vars vals (Qag-1) s.used _ 15 0 (by decide) hk hty hv hS.used;rw[<- add_assoc];refine(Jgd hF hc hs [a,b] vars vals (Qag-1) p _ 15 0 s (by decide) hk hty hv ha.left hlk).bindQ λvs u' vs1 hX h2 h3=>?_
   rw[hX]at hok;obtain⟨_,hu',h5⟩:=hok;have h0:vs.length=2:=h5.1.symm
   match vs,h0,h5 with
   |[x,y],_,h5=>
    have:=Jfe (F:=F) (c:=c) (m:=vals.length) (st:=s.st) (s:={ s with pc:=p+(cL p [a,b]).length,st:=[x,y].reverse++s.st,vars:=vs1,used:=u' }) (k:=15) (a:=x) (b:=y) (by omega) hS.fin rfl ha.right.head;exact this
  ·
   have hl:l.length=2:=har;obtain⟨a,b,rfl⟩:=JT hl;simp at ht;obtain⟨rfl,ht⟩:=ht;have hty:=J9 ht;rw[Jz,hl,utL,utL,utL]at hty;obtain⟨ta,tb⟩:=TyL.two hty;obtain⟨fa,fb⟩:=Kb hk;simp at fb;rw[show evN call F vals s.used (.mk 16 n nm [a,b])=(evN call F vals s.used a).bind λv u'=>if v=0 then .val 0 u' else evN call F vals u' b by rw[J5];simp];rw[Qcr]at ha |-;simp only[show ¬((16:Int)=0\/(16:Int)=1) by decide,show ¬(16:Int)=2 by decide,show ¬(16:Int)=3 by decide,show ¬(16:Int)=4 by decide,show ¬(16:Int)=5 by decide,if_false,if_true]at ha |-;have hLa:=hlk.less (JE (l:=[a,b]) (a:=a) (by simp));have hLb:=JE (l:=[a,b]) (a:=b) (by simp);have hok:=KA hF hc a vars vals _ s.used 1 fa ta hv hS.used;have h1:=ha.right;have h4:=h1.tail.right;refine(Jae hF hc hs a vars vals _ p 1 s fa ta hv ha.left hLa).bind λv u' vs1 hX h2 h3=>?_
   rw[hX]at hok;obtain⟨_,hu',hvo⟩:=hok;have r:=Jad (F:=F) (c:=c) (s:={ s with pc:=p+(cE p a).length,st:=v::s.st,vars:=vs1,used:=u' }) hS.fin rfl h1.head
   have hlen:p+(cE p a++(⟨17,((p+(cE p a).length+(cE (p+(cE p a).length+1) b).length+2:Nat):Int),[]⟩:OpM)::(cE (p+(cE p a).length+1) b++[⟨16,((p+(cE p a).length+(cE (p+(cE p a).length+1) b).length+3:Nat):Int),[]⟩,⟨0,0,[]⟩])).length=p+(cE p a).length+(cE (p+(cE p a).length+1) b).length+3:=by
    exact Qgs
   rw[hlen]
   by_cases hv0:v=0
   ·rw[if_pos hv0]at r |-;exact QjN
   ·rw[if_neg hv0]at r |-;refine Qby.after r rfl (λ_ _=>rfl) ?_;have hS2:=hS.next (q:=p+(cE p a).length+1) (st:=s.st) h2 h3 hu' (L2:=QaD b) (by have:=Vd (k:=16) (n:=n) (s:=nm) (l:=[a,b]);omega);exact QjA
  ·
   have hl:l.length=2:=har;obtain⟨a,b,rfl⟩:=JT hl;simp at ht;obtain⟨rfl,ht⟩:=ht;have hty:=J9 ht;rw[Jz,hl,utL,utL,utL]at hty;obtain⟨ta,tb⟩:=TyL.two hty;obtain⟨fa,fb⟩:=Kb hk;simp at fb;rw[show evN call F vals s.used (.mk 17 n nm [a,b])=(evN call F vals s.used a).bind λv u'=>if v=0 then evN call F vals u' b else .val 1 u' by rw[J5];simp];rw[Qcr]at ha |-;simp only[show ¬((17:Int)=0\/(17:Int)=1) by decide,show ¬(17:Int)=2 by decide,show ¬(17:Int)=3 by decide,show ¬(17:Int)=4 by decide,show ¬(17:Int)=5 by decide,show ¬(17:Int)=16 by decide,if_false,if_true]at ha |-;have hLa:=hlk.less (JE (l:=[a,b]) (a:=a) (by simp));have hLb:=JE (l:=[a,b]) (a:=b) (by simp);have hok:=KA hF hc a vars vals _ s.used 1 fa ta hv hS.used;have h1:=ha.right;have h4:=h1.tail.right;refine(Jae hF hc hs a vars vals _ p 1 s fa ta hv ha.left hLa).bind λv u' vs1 hX h2 h3=>?_
   rw[hX]at hok;obtain⟨_,hu',hvo⟩:=hok;have r:=Jkn (F:=F) (c:=c) (s:={ s with pc:=p+(cE p a).length,st:=v::s.st,vars:=vs1,used:=u' }) hS.fin rfl h1.head
   have hlen:p+(cE p a++(⟨18,((p+(cE p a).length+(cE (p+(cE p a).length+1) b).length+2:Nat):Int),[]⟩:OpM)::(cE (p+(cE p a).length+1) b++[⟨16,((p+(cE p a).length+(cE (p+(cE p a).length+1) b).length+3:Nat):Int),[]⟩,⟨0,1,[]⟩])).length=p+(cE p a).length+(cE (p+(cE p a).length+1) b).length+3:=by
    exact Qgs
   rw[hlen]
   have hv01:v=0\/v=1:=by
    rcases hvo with⟨h,_⟩|⟨_,h⟩
    ·exact absurd h (by decide)
    ·exact h
   by_cases hv0:v=0
   ·rw[if_pos hv0];rw[if_neg (by omega)]at r;refine Qby.after r rfl (λ_ _=>rfl) ?_;have hS2:=hS.next (q:=p+(cE p a).length+1) (st:=s.st) h2 h3 hu' (L2:=QaD b) (by have:=Vd (k:=17) (n:=n) (s:=nm) (l:=[a,b]);omega);exact QjA
   ·rw[if_neg hv0];rw[if_pos (by omega)]at r;exact QjN
  ·
   have hl:l.length=3:=har;obtain⟨e,a,b,rfl⟩:=Vb hl;simp[utL]at ht;obtain⟨g0,g1,g2,g3,g4,g5⟩:=ht;obtain⟨fe,fa,fb⟩:=Yb (by decide) hk;have te:ofN fs vars (utN e)=(1,[]):=Prod.ext g2 g1;have ta:ofN fs vars (utN a)=(t,[]):=Prod.ext g0 g3;have tb:ofN fs vars (utN b)=(t,[]):=Prod.ext (g5.trans g0) g4;rw[show evN call F vals s.used (.mk 18 n nm [e,a,b])=(evN call F vals s.used e).bind λv u'=>if v=0 then evN call F vals u' b else evN call F vals u' a by rw[J5];simp];rw[Qcr]at ha |-;simp only[show ¬((18:Int)=0\/(18:Int)=1) by decide,show ¬(18:Int)=2 by decide,show ¬(18:Int)=3 by decide,show ¬(18:Int)=4 by decide,show ¬(18:Int)=5 by decide,show ¬(18:Int)=16 by decide,show ¬(18:Int)=17 by decide,if_false,if_true]at ha |-;have hLe:=hlk.less (JE (l:=[e,a,b]) (a:=e) (by simp));have hLa:=JE (l:=[e,a,b]) (a:=a) (by simp);have hLb:=JE (l:=[e,a,b]) (a:=b) (by simp);have hkd:=Vd (k:=18) (n:=n) (s:=nm) (l:=[e,a,b]);have hok:=KA hF hc e vars vals _ s.used 1 fe te hv hS.used;have h1:=ha.right;have h4:=h1.tail.right;generalize hx:(cE p e).length=x at *;generalize hA:cE (p+x+1) a=A at *;generalize hB:cE (p+x+A.length+2) b=B at *;refine(Jae hF hc hs e vars vals _ p 1 s fe te hv ha.left hLe).bind λv u' vs1 hX h2 h3=>?_
   rw[hX]at hok;obtain⟨_,hu',hvo⟩:=hok;have r:=Jad (F:=F) (c:=c) (s:={ s with pc:=p+(cE p e).length,st:=v::s.st,vars:=vs1,used:=u' }) hS.fin rfl (by rw[hx];exact h1.head)
   have hlen:p+(cE p e++⟨17,((p+x+A.length+2:Nat):Int),[]⟩::(A++⟨16,((p+x+A.length+2+B.length:Nat):Int),[]⟩::B)).length=p+x+A.length+2+B.length:=by
    simp only[length_append,List.length_cons,hx];omega
   rw[hlen]
   by_cases hv0:v=0
   ·rw[if_pos hv0]at r |-;refine Qby.after r rfl (λ_ _=>rfl) ?_;have hS2:=hS.next (q:=p+x+A.length+2) (st:=s.st) h2 h3 hu' (L2:=QaD b) (by omega)
    have:=Jae hF hc hs b vars vals _ (p+x+A.length+2) t _ fb tb hv (by
     rw[hB]
     exact h4.tail.cast (by omega)) hS2
    rw[hB]at this;exact this
   ·rw[if_neg hv0]at r |-;have r2:Qck c F { s with pc:=p+(cE p e).length,st:=v::s.st,vars:=vs1,used:=u' } { s with pc:=p+x+1,st:=s.st,vars:=vs1,used:=u' }:=by rw[<- hx];exact r
    refine Qby.after r2 rfl (λ_ _=>rfl) ?_;have hS2:=hS.next (q:=p+x+1) (st:=s.st) h2 h3 hu' (L2:=QaD a) (by omega);have:=Jae hF hc hs a vars vals _ (p+x+1) t _ fa ta hv (by rw[hA];exact h1.tail.left) hS2;rw[hA]at this;refine this.jump λv2 vs2 u2=>?_
    exact Jfg (s:={ s with pc:=p+x+1+A.length,st:=v2::s.st,vars:=vs2,used:=u2 }) hS.fin h4.head
  ·
   have hl:l.length=2:=har;obtain⟨a,b,rfl⟩:=JT hl;simp[utL]at ht hn;obtain⟨g1,g2,g3⟩:=ht;obtain⟨fa,fb⟩:=Kb hk;simp at fb;have ta:ofN fs vars (utN a)=((ofN fs vars (utN a)).1,[]):=Prod.ext rfl g2;have tb:ofN fs (vars++[(ofN fs vars (utN a)).1]) (utN b)=(t,[]):=Prod.ext g1 g3;rw[show evN call F vals s.used (.mk 19 n nm [a,b])=(evN call F vals s.used a).bind λv u'=>evN call F (vals++[v]) u' b by rw[J5];simp];rw[Qcr]at ha |-;simp only[show ¬((19:Int)=0\/(19:Int)=1) by decide,show ¬(19:Int)=2 by decide,show ¬(19:Int)=3 by decide,show ¬(19:Int)=4 by decide,show ¬(19:Int)=5 by decide,show ¬(19:Int)=16 by decide,show ¬(19:Int)=17 by decide,show ¬(19:Int)=18 by decide,if_false,if_true]at ha |-;have hLa:=hlk.less (JE (l:=[a,b]) (a:=a) (by simp));have hLb:=JE (l:=[a,b]) (a:=b) (by simp);have hkd:=Vd (k:=19) (n:=n) (s:=nm) (l:=[a,b]);have hkn:n+1<=QaD (.mk 19 n nm [a,b]):=by rw[QaD,if_pos rfl];omega
   have hsl:=hS.lets;have hok:=KA hF hc a vars vals _ s.used _ fa ta hv hS.used;have h1:=ha.right;refine(Jae hF hc hs a vars vals _ p _ s fa ta hv ha.left hLa).bind λv u' vs1 hX h2 h3=>?_
   rw[hX]at hok;obtain⟨_,hu',hvo⟩:=hok;have r:=Jib (F:=F) (c:=c) (s:={ s with pc:=p+(cE p a).length,st:=v::s.st,vars:=vs1,used:=u' }) hS.fin rfl h1.head (by omega) (by simp only[h2];omega);refine Qby.after r (by simp) (λi hi=>by simp only[];rw[List.getElem?_set_ne (by omega)]) ?_
   have hS2:Qfz { s with pc:=p+(cE p a).length+1,st:=s.st,vars:=vs1.set n.toNat v,used:=u' } (p+(cE p a).length+1) D (vals++[v]) (QaD b):=
    ⟨rfl,hS.fin,hS.calls,hu',by simp only[List.length_set,h2];omega,by simp only[List.length_set,h2,length_append,List.length_singleton];omega,λi hi=>by
     simp only[length_append,List.length_singleton]at hi
     by_cases hin:i<vals.length
     ·rw[List.getElem?_append_left hin];simp only[];rw[List.getElem?_set_ne (by omega)];exact(h3 i hin).trans (hS.eq i hin)
     ·obtain rfl:i=vals.length:=by omega
      have hnt:n.toNat=vals.length:=by omega
      simp only[hnt];rw[List.getElem?_set_self (by rw[h2];omega)]
      simp⟩
   have:=Jae hF hc hs b (vars++[(ofN fs vars (utN a)).1]) (vals++[v]) _ (p+(cE p a).length+1) t _ (by rw[length_append];exact fb) tb (hv.snoc hvo) h1.tail hS2
   have hlen:p+(cE p a++⟨2,n,[]⟩::cE (p+(cE p a).length+1) b).length=p+(cE p a).length+1+(cE (p+(cE p a).length+1) b).length:=by
    simp only[length_append,List.length_cons];omega
   rw[hlen];exact this.less (by simp)
  ·
   simp at ht hn;obtain⟨f,hf'⟩:=JdX hn.1 hn.2;rw[hf']at ht;simp at ht;obtain⟨rfl,g1,g2⟩:=ht;have g1':(utL l).length=f.params.length:=g1;rw[g1']at g2;simp at g2;have hty:=JbE g1' g2;rw[show evN call F vals s.used (.mk 20 n nm l)=(evL call F vals s.used l).bind λvs u'=>call n vs u' by rw[J5];simp];rw[Qcr]at ha |-;simp only[show ¬((20:Int)=0\/(20:Int)=1) by decide,show ¬(20:Int)=2 by decide,show ¬(20:Int)=3 by decide,show ¬(20:Int)=4 by decide,show ¬(20:Int)=5 by decide,show ¬(20:Int)=16 by decide,show ¬(20:Int)=17 by decide,show ¬(20:Int)=18 by decide,show ¬(20:Int)=19 by decide,if_false,if_true]at ha |-;have hok:=VB hF hc l vars vals (Qag-1) s.used f.params 20 0 (by decide) hk hty hv hS.used;rw[length_append,List.length_singleton,<- add_assoc];refine(Jgd hF hc hs l vars vals (Qag-1) p f.params 20 0 s (by decide) hk hty hv ha.left hlk).bindQ λvs u' vs1 hX h2 h3=>?_
   rw[hX]at hok;obtain⟨_,hu',h5⟩:=hok;have:=hs n vs { s with pc:=p+(cL p l).length,st:=vs.reverse++s.st,vars:=vs1,used:=u' } s.st f hn.1 hf' h5 hu' hS.fin hS.calls ha.right.head rfl;exact this.less (by simp only[h2];exact hS.vars)
def Jgd{c:Qaf}{fs:List QaN}{F:Qaj}{call:Int->List Int->Nat->RN Int}{D:Nat}(hF:QaF F=true)(hc:Qet fs call)(hs:QeI c F fs call D) :
  ∀(l:List Exp) (vars vals:List Int) (Qag p:Nat) (ts:List Int) (k:Int) (i:Nat) (s:StM),k≠19->QaB (QbP fs) vars.length Qag k i l=true->TyL fs vars ts (utL l)->QdC vars vals->AtC c p (cL p l)->Qfz s p D vals (QbG l)->
   Qee c F s s.st (p+(cL p l).length) vals.length (evL call F vals s.used l)
 |[],vars,vals,Qag,p,ts,k,i,s,hk,hf,ht,hv,ha,hS=>by
  rw[evL,cL];refine⟨s.vars,?_,rfl,λ_ _=>rfl⟩
  have:({ s with pc:=p+([]:List OpM).length,st:=([]:List Int).reverse++s.st,vars:=s.vars,used:=s.used }:StM)=s:=by
   have:=hS.pc
   cases s
   simp at this |-;exact this.symm
  rw[this];exact Qck.refl _ _ _
 |a::l,vars,vals,Qag,p,ts,k,i,s,hk,hf,ht,hv,ha,hS=>by
  rw[utL]at ht;rw[evL];rw[cL]at ha |-;rw[QaB]at hf;simp only[Bool.and_eq_true]at hf;rw[if_neg λh=>hk h.1]at hf
  cases ts with
  |nil=>exact ht.elim
  |cons t ts=>
   have hL:=hS.less (L2:=QaD a) (by rw[QbG];omega);have hok:=KA hF hc a vars vals Qag s.used t hf.1 ht.1 hv hS.used;refine(Jae hF hc hs a vars vals Qag p t s hf.1 ht.1 hv ha.left hL).bindL λv u' vs1 hX h2 h3=>?_
   rw[hX]at hok;obtain⟨_,hu',h5⟩:=hok;have hS2:=hS.next (q:=p+(cE p a).length) (st:=v::s.st) h2 h3 hu' (L2:=QbG l) (by rw[QbG];omega);have h:=Jgd hF hc hs l vars vals Qag (p+(cE p a).length) ts k (i+1) _ hk hf.2 ht.2 hv ha.right hS2;rw[length_append,<- add_assoc]
   cases hY:evL call F vals u' l with
   |val l2 u2=>
    rw[hY]at h;obtain⟨vs2,g1,g2,g3⟩:=h;exact⟨vs2,by simpa[RN.bind] using g1,g2,g3⟩
   |fault e u2=>
    rw[hY]at h;exact h
end
def AtC.app{c:Qaf}{p:Nat}{x y:List OpM}(h:AtC c p x)(k:AtC c (p+x.length) y):AtC c p (x++y):=λj o hj=>by
 by_cases hx:j<x.length
 ·rw[List.getElem?_append_left hx]at hj;exact h j o hj
 ·rw[List.getElem?_append_right zo]at hj;have:=k (j-x.length) o hj
  rwa [show p+x.length+(j-x.length)=p+j by omega]at this
def AtC.one{c:Qaf}{p:Nat}{o:OpM}(h:c.ops[p]?=some o):AtC c p [o]:=λj o' hj=>by
 cases j with
 |zero=>simp at hj;subst hj;exact h
 |succ j=>simp at hj
def JnH{c:Qaf}:∀(l:List FnM) (p i:Nat) (f:FnM),AtC c p (cF p l)->l[i]?=some f->∃q:Nat,(QaC p l)[i]?=some (q:Int)/\AtC c q (cE q f.body++[op0 20])
 |[],p,i,f,_,h=>by simp at h
 |g::l,p,i,f,ha,h=>by
  rw[cF]at ha;rw[QaC]
  cases i with
  |zero=>
   simp at h;subst h;exact⟨p,rfl,ha.left.app (AtC.one ha.right.head)⟩
  |succ i=>
   simp at h |-;exact JnH l _ i f (ha.right.tail.cast zo) h
structure QfB(c:Qaf)(r:Qah):Prop where
 fn:∀(i:Nat) (f:FnM),r.funcs[i]?=some f->∃q:Nat,c.starts[i]?=some (q:Int)/\AtC c q (cE q f.body++[op0 20])/\c.params[i]?=some (f.params.length:Int)/\c.slots[i]?=some (max (f.params.length:Int) (QaD f.body))
 cl:AtC c 0 (cC 0 r.clauses++[⟨22,r.action,[]⟩])
def AtC.self(c:Qaf):AtC c 0 c.ops:=λj o h=>by rw[Nat.zero_add];exact h
def VV(r:Qah):QfB (Qac r) r:=by
 have h0:=AtC.self (Qac r);have h1:AtC (Qac r) 0 (cC 0 r.clauses++⟨22,r.action,[]⟩::cF ((cC 0 r.clauses).length+1) r.funcs):=h0;have h2:=h1.right;refine⟨λi f hf=>?_,h1.left.app (AtC.one h2.head)⟩;obtain⟨q,g1,g2⟩:=JnH r.funcs ((cC 0 r.clauses).length+1) i f (h2.tail.cast zo) hf;refine⟨q,g1,g2,?_,?_⟩
 ·unfold Qac;simp only[];rw[List.getElem?_map,hf];rfl
 ·unfold Qac;simp only[];rw[List.getElem?_append_left (by simp;exact(List.getElem?_eq_some_iff.1 hf).1),List.getElem?_map,hf];rfl
def JcJ{c:Qaf}{r:Qah}{F:Qaj}(hc:QfB c r)(ht:Qbq r=true)(hy:Qbz r=true)(hF:QaF F=true):∀d,d<=100->QeI c F r.sigs (Qcb r.funcs F d) (100-d)
 |0,_=>λn args s st sg h0 hsg ha hu hf hcl hop hst=>by
  have hl:s.calls.length=100:=hcl;unfold Qcb
  have he:QbZ c F s=some (if s.used=10000 then StM.fail { s with pc:=s.pc+1 } 14 else StM.fail { s with pc:=s.pc+1,used:=s.used+1 } 7):=by
   rw[Kc hf hop];unfold Qbg;simp[hl];split<;>rfl
  split
  ·rename_i h;rw[if_pos h]at he;exact⟨_,Qck.one he,rfl,rfl,rfl⟩
  ·rename_i h;rw[if_neg h]at he;exact⟨_,Qck.one he,rfl,rfl,rfl⟩
 |d+1,hd=>λn args s st sg h0 hsg ha hu hf hcl hop hst=>by
  have hl:s.calls.length≠100:=zo;obtain⟨f,yA,hm,e1,e2⟩:=Jia hsg;obtain⟨q,g1,g2,g3,g4⟩:=hc.fn _ _ yA;have bA:args.length=f.params.length:=by rw[<- e1];exact ha.1.symm
  unfold Qcb
  by_cases h:s.used=10000
  ·rw[if_pos h]
   have he:QbZ c F s=some (StM.fail { s with pc:=s.pc+1 } 14):=by
    rw[Kc hf hop];unfold Qbg;simp[h]
   exact⟨_,Qck.one he,rfl,rfl,rfl⟩
  rw[if_neg h,List.getD_eq_getElem?_getD,yA];simp only[Option.getD_some];have vA:=(List.getElem?_eq_some_iff.1 g1).1;have cA:=(List.getElem?_eq_some_iff.1 g3).1;have uA:=(List.getElem?_eq_some_iff.1 g4).1;generalize hZ:(max (f.params.length:Int) (QaD f.body))=Z at *;have zA:(f.params.length:Int)<=Z:=zo;have aA:QaD f.body<=Z:=zo
  have he:QbZ c F s=some { s with pc:=q,st:=st,vars:=args++List.replicate (Z.toNat-f.params.length) 0,calls:=(s.pc+1,s.vars)::s.calls,used:=s.used+1 }:=by
   rw[Kc hf hop];unfold Qbg;simp only[show ¬(19:Int)=0 by decide,show ¬(19:Int)=1 by decide,show ¬(19:Int)=2 by decide,show ¬(19:Int)=3 by decide,show ¬(19:Int)=4 by decide,show ¬(19:Int)=5 by decide,show ¬((19:Int)=6\/(19:Int)=7) by decide,show ¬((19:Int)<=15/\(8:Int)<=19) by decide,show ¬(19:Int)=16 by decide,show ¬(19:Int)=17 by decide,show ¬(19:Int)=18 by decide,if_false,if_true,h,hl];rw[List.getD_eq_getElem?_getD,List.getD_eq_getElem?_getD,List.getD_eq_getElem?_getD,g1,g3,g4];simp only[Option.getD_some,Int.toNat_natCast];rw[if_pos ⟨h0,by omega,by omega,by omega,by rw[hst];simp;omega,zA⟩,hst]
   congr 2
   ·rw[List.drop_append_of_le_length zr];rw[List.drop_of_length_le zr];rfl
   ·rw[List.take_append_of_le_length zr,List.take_of_length_le zr,List.reverse_reverse]
  have hS:Qfz { s with pc:=q,st:=st,vars:=args++List.replicate (Z.toNat-f.params.length) 0,calls:=(s.pc+1,s.vars)::s.calls,used:=s.used+1 } q (100-d) args (QaD f.body):=
   ⟨rfl,hf,by simp only[List.length_cons];omega,by simp only[];omega,by simp only[List.length_append,List.length_replicate];omega,by simp,λi hi=>by simp only[];rw[List.getElem?_append_left hi]⟩
  have xA:=Jae hF (YB ht hy hF d) (JcJ hc ht hy hF d zo) f.body f.params args 40 q f.result _ (YX ht hm) (JbI hy hm) (by rw[<- e1];exact ha) g2.left hS;have hr:=g2.right.head
  cases hX:evN (Qcb r.funcs F d) F args (s.used+1) f.body with
  |fault e u=>
   rw[hX]at xA;obtain⟨s',k1,k2⟩:=xA;exact⟨s',(Qck.one he).trans k1,k2⟩
  |val v u=>
   rw[hX]at xA;obtain⟨vs,k1,_,_⟩:=xA;refine⟨s.vars,((Qck.one he).trans k1).trans (Qck.one ?_),rfl,λ_ _=>rfl⟩;refine(Kc (c:=c) (F:=F) (o:=op0 20) (by exact hf) (by exact hr)).trans ?_;unfold Qbg op0;simp
def Qbf(c:Qaf):StM:=⟨0,[],List.replicate ((c.slots.getLastD 0).toNat) 0,[],0,Qkw,false⟩
def KE:∀l:List ClM,0<=Qbv l
 |[]=>by rw[Qbv];omega
 |c::l=>by rw[Qbv];have:=KE l;omega
def Jfh{c:Qaf}{r:Qah}{F:Qaj}(hc:QfB c r)(ht:Qbq r=true)(hy:Qbz r=true)(hF:QaF F=true):∀(l:List ClM) (p:Nat) (s:StM),(∀x∈l,x∈r.clauses)->AtC c p (cC p l++[⟨22,r.action,[]⟩])->
  s.pc=p->s.fin=false->s.calls=[]->s.st=[]->s.used<=10000->Qbv l<=(s.vars.length:Int)->∃s',Qck c F s s'/\s'.fin=true/\({ s'.o with used:=s'.used }:QeD)=Qfc r F s.used l
 |[],p,s,_,ha,hp,hf,hcl,hst,hu,hL=>by
  subst hp;rw[cC]at ha;refine⟨_,Qck.one (by rw[Kc hf ha.head];unfold Qbg;simp;rfl),rfl,?_⟩;rw[Qfc]
 |x::l,p,s,hm,ha,hp,hf,hcl,hst,hu,hL=>by
  subst hp;rw[cC]at ha;rw[Qbv]at hL;rw[Qfc]
  have h1:AtC c s.pc (op0 21::(cE (s.pc+1) x.cond++(⟨17,((s.pc+(cE (s.pc+1) x.cond).length+3:Nat):Int),[]⟩:OpM)::⟨22,x.action,x.reason⟩::(cC (s.pc+(cE (s.pc+1) x.cond).length+3) l++[⟨22,r.action,[]⟩]))):=by
   have:=ha;simpa using this
  clear ha;generalize hn:(cE (s.pc+1) x.cond).length=n at *
  have he:QbZ c F s=some (if s.used=10000 then StM.fail { s with pc:=s.pc+1 } 14 else { s with pc:=s.pc+1,used:=s.used+1 }):=by
   rw[Kc hf h1.head];unfold Qbg op0;simp
  by_cases h:s.used=10000
  ·rw[if_pos h]at he |-;exact⟨_,Qck.one he,rfl,rfl⟩
  rw[if_neg h]at he |-;have h2:=h1.tail;have h3:=h2.right;rw[hn]at h3;have yA:=hm x zq;have hS:Qfz { s with pc:=s.pc+1,used:=s.used+1 } (s.pc+1) 0 [] (QaD x.cond):=⟨rfl,hf,by simp[hcl],by simp only[];omega,by simp only[];omega,by simp,λi hi=>by simp at hi⟩
  have xA:=Jae hF (YB ht hy hF 100) (JcJ hc ht hy hF 100 zo) x.cond [] [] 40 (s.pc+1) 1 _ (YY ht yA) (JbJ hy yA) QdC.nil h2.left hS;have zA:=Jmp ht hy hF yA (u:=s.used+1) zo;rw[hn]at xA
  cases hX:evN (Qcb r.funcs F 100) F [] (s.used+1) x.cond with
  |fault e u=>
   rw[hX]at xA;obtain⟨s',k1,k2,k3,k4⟩:=xA;exact⟨s',(Qck.one he).trans k1,k2,by rw[k3,k4]⟩
  |val v u=>
   rw[hX]at xA zA;obtain⟨vs,k1,k2,_⟩:=xA;obtain⟨_,uA,_⟩:=zA;have r2:=(Qck.one he).trans k1
   have r3:=r2.trans (Jad (s:={ s with pc:=s.pc+1+n,st:=v::s.st,vars:=vs,used:=u }) hf rfl (by
    have:=h3.head
    exact this))
   simp only[]
   by_cases hv:v=0
   ·rw[if_pos hv]at r3 |-;have ih:=Jfh hc ht hy hF l (s.pc+n+3) { s with pc:=s.pc+n+3,st:=s.st,vars:=vs,used:=u } (λy hy=>hm y (by simp[hy])) (h3.tail.tail.cast zo) rfl hf hcl hst uA (by simp only[k2];omega);obtain⟨s',g1,g2,g3⟩:=ih;exact⟨s',r3.trans g1,g2,g3⟩
   ·rw[if_neg hv]at r3 |-;refine⟨_,r3.trans (Qck.one (by rw[Kc (s:={ s with pc:=s.pc+1+n+1,st:=s.st,vars:=vs,used:=u }) hf h3.tail.head];unfold Qbg;simp;rfl)),rfl,rfl⟩
def VW(r:Qah):(Qac r).slots.getLastD 0=Qbv r.clauses:=by
 unfold Qac;simp
def VC{r:Qah}{F:Qaj}(hr:Qat r=true)(hF:QaF F=true):∃s',Qck (Qac r) F (Qbf (Qac r)) s'/\s'.fin=true/\({ s'.o with used:=s'.used }:QeD)=QdM r F:=by
 obtain⟨ht,hy,_⟩:=KS hr
 have h:=Jfh (VV r) ht hy hF r.clauses 0 (Qbf (Qac r)) (λ_ h=>h) (VV r).cl rfl rfl rfl rfl (by simp[Qbf]) (by
  unfold Qbf;have:=KE r.clauses;simp only[List.length_replicate,VW]
  omega)
 rw[QdM,if_pos ⟨hr,hF⟩];exact h
end Go.Proofs.YtfafpklefknomaaGreatDoor
