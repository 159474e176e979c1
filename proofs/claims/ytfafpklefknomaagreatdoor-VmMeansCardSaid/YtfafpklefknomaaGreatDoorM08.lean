import Derived.Test.YtfafpklefknomaaGreatDoorM07
import Derived.Test.YtfafpklefknomaaGreatDoorM06
import Derived.Test.YtfafpklefknomaaGreatDoorM03
open List(all_eq_true length_append length_cons length_nil)
open Nat(add_assoc le_refl lt_succ_self)
namespace Go.Proofs.YtfafpklefknomaaGreatDoor
open Go Go.ChangeShapes Go.WideShapes Go.ChangeAt Go.RowKit Go.Lib
open _root_.Go.Proofs.Tryz
set_option linter.all false
set_option maxRecDepth 100000
set_option maxHeartbeats 32000000
def QbX(W:World)(p:Nat)(v:Value)(l:List Int):Prop:=Qan W (·<p) (λa c=>c=[Iv a]) l v
def Qgc(W:World)(p:Nat)(v:Value)(l:List OpM):Prop:=Qan W (·<p) (λ(a:OpM) c=>c=[Iv a.code,Iv a.n,Sv a.name]) l v
def Qdq(W:World)(p:Nat)(v:Value)(l:List (By×Int)):Prop:=Qan W (·<p) (λa c=>c=[.string (bs a.1),Iv a.2]) l v
def QcB(W:World)(p:Nat)(v:Value)(l:List By):Prop:=Qan W (·<p) (λa c=>c=[Sv a]) l v
variable{l x y:List OpM}
section
variable {W W':World}{p:Nat}{v:Value}
def QbX.up{l:List Int}(h:QbX W p v l)(hb:Below p W W'):QbX W' p v l:=Qan.keep (λb hP=>hb.block b hP) (λb hP=>hP) (λa c h=>h) h
def Qgc.up(h:Qgc W p v l)(hb:Below p W W'):Qgc W' p v l:=Qan.keep (λb hP=>hb.block b hP) (λb hP=>hP) (λa c h=>h) h
def Qdq.up{l:List (By×Int)}(h:Qdq W p v l)(hb:Below p W W'):Qdq W' p v l:=Qan.keep (λb hP=>hb.block b hP) (λb hP=>hP) (λa c h=>h) h
def QcB.up{l:List By}(h:QcB W p v l)(hb:Below p W W'):QcB W' p v l:=Qan.keep (λb hP=>hb.block b hP) (λb hP=>hP) (λa c h=>h) h
def QjH{P:Prop}(h:P:=by
  obtain⟨b,o,h4,h5,h6⟩:=h3 (List.ne_nil_of_mem (List.mem_of_getElem? hi));obtain⟨c,rfl,C2⟩:=h6 i a hi;have:=C2 0 _ rfl;rw[Nat.mul_one]at this
  exact⟨b,o,h4,h5,this⟩):P:=h
def Qhv{P:Prop}(h:P:=by
  obtain⟨ad,cc,h1,h2,h3⟩:=Qan.get (m:=1) (λa c h=>by rw[h];rfl) h;refine⟨ad,cc,h1,h2,λi a hi=>?_⟩
  exact QjH):P:=h
def QbX.get{l:List Int}(h:QbX W p v l):∃ad cc,v=.slice ad l.length cc/\l.length<=cc/\∀(i:Nat)(a:Int),l[i]?=some a->∃b o,ad=some ⟨b,o,none⟩/\b<p/\W.cell? ⟨b,o+i,none⟩=some (Iv a):=by
 exact Qhv
def QcB.get{l:List By}(h:QcB W p v l):∃ad cc,v=.slice ad l.length cc/\l.length<=cc/\∀(i:Nat)(a:By),l[i]?=some a->∃b o,ad=some ⟨b,o,none⟩/\b<p/\W.cell? ⟨b,o+i,none⟩=some (Sv a):=by
 exact Qhv
def QhP{P:Prop}(h:P:=by
  obtain⟨b,o,h4,h5,h6⟩:=h3 (List.ne_nil_of_mem (List.mem_of_getElem? hi));obtain⟨c,rfl,C2⟩:=h6 i a hi
  exact⟨b,o,h4,h5,C2 0 _ rfl,C2 1 _ rfl⟩):P:=h
def Qdq.get{l:List (By×Int)}(h:Qdq W p v l):∃ad cc,v=.slice ad l.length cc/\l.length<=cc/\∀(i:Nat)(a:By×Int),l[i]?=some a->∃b o,ad=some ⟨b,o,none⟩/\b<p/\W.cell? ⟨b,o+i*2,none⟩=some (.string (bs a.1))/\W.cell? ⟨b,o+i*2+1,none⟩=some (Iv a.2):=by
 obtain⟨ad,cc,h1,h2,h3⟩:=Qan.get (m:=2) (λa c h=>by rw[h];rfl) h;refine⟨ad,cc,h1,h2,λi a hi=>?_⟩;exact QhP
def Qgc.get(h:Qgc W p v l):∃ad cc,v=.slice ad l.length cc/\l.length<=cc/\∀(i:Nat)(a:OpM),l[i]?=some a->∃b o,ad=some ⟨b,o,none⟩/\b<p/\W.cell? ⟨b,o+i*3,none⟩=some (Iv a.code)/\W.cell? ⟨b,o+i*3+1,none⟩=some (Iv a.n)/\W.cell? ⟨b,o+i*3+2,none⟩=some (Sv a.name):=by
 obtain⟨ad,cc,h1,h2,h3⟩:=Qan.get (m:=3) (λa c h=>by rw[h];rfl) h;refine⟨ad,cc,h1,h2,λi a hi=>?_⟩;obtain⟨b,o,h4,h5,h6⟩:=h3 (List.ne_nil_of_mem (List.mem_of_getElem? hi));obtain⟨c,rfl,C2⟩:=h6 i a hi;exact⟨b,o,h4,h5,C2 0 _ rfl,C2 1 _ rfl,C2 2 _ rfl⟩
end
def VU(r:Qah):QbP r.sigs=r.pa:=by
 unfold QbP Qah.sigs Qah.pa;rw[List.map_map];rfl
variable{r:Qah}
def KS(h:Qat r=true):Qbq r=true/\Qbz r=true/\QbU [] r.funcs=true/\QgH r.clauses=true/\QdR r.action=true:=by
 unfold Qat at h;simp only[Bool.and_eq_true]at h;exact⟨h.1.2,h.2,h.1.1.1.1,h.1.1.1.2,h.1.1.2⟩
variable{f:FnM}
def YX(h:Qbq r=true)(hf:f∈r.funcs):QaK (QbP r.sigs) f.params.length 40 f.body=true:=by
 unfold Qbq at h;simp only[Bool.and_eq_true,all_eq_true]at h;rw[VU];exact h.1 f hf
def YY(h:Qbq r=true){c:ClM}(hc:c∈r.clauses):QaK (QbP r.sigs) 0 40 c.cond=true:=by
 unfold Qbq at h;simp only[Bool.and_eq_true,all_eq_true]at h;rw[VU];exact h.2 c hc
def JbI(h:Qbz r=true)(hf:f∈r.funcs):ofN r.sigs f.params (utN f.body)=(f.result,[]):=by
 unfold Qbz at h;simp only[Bool.and_eq_true,all_eq_true,beq_iff_eq]at h;exact V9 (h.1 f hf)
def JbJ(h:Qbz r=true){c:ClM}(hc:c∈r.clauses):ofN r.sigs [] (utN c.cond)=(1,[]):=by
 unfold Qbz at h;simp only[Bool.and_eq_true,all_eq_true,beq_iff_eq]at h;exact V9 (h.2 c hc)
variable{i p q q0 n a q' base e size:Nat}
def Jia{s:QaN}(h:r.sigs[i]?=some s):∃f,r.funcs[i]?=some f/\f∈r.funcs/\s.params=f.params/\s.result=f.result:=by
 unfold Qah.sigs at h;rw[List.getElem?_map]at h
 cases hf:r.funcs[i]? with
 |none=>rw[hf]at h;cases h
 |some f=>
  rw[hf]at h;injection h with h;subst h;exact⟨f,rfl,List.mem_of_getElem? hf,rfl,rfl⟩
def YB{r:Qah}{F:Qaj}(ht:Qbq r=true)(hy:Qbz r=true)(hF:QaF F=true):∀d,Qet r.sigs (Qcb r.funcs F d)
 |0=>λn args u f h0 hf ha hu=>by
  unfold Qcb;split
  ·rename_i h;exact⟨Nat.le_refl _,hu,.inr (.inr ⟨rfl,h⟩)⟩
  ·exact⟨by omega,by omega,.inr (.inl rfl)⟩
 |d+1=>λn args u s h0 hs ha hu=>by
  unfold Qcb;split
  ·rename_i h;exact⟨Nat.le_refl _,hu,.inr (.inr ⟨rfl,h⟩)⟩
  ·obtain⟨f,hf,hm,e1,e2⟩:=Jia hs;rw[List.getD_eq_getElem?_getD,hf,e2];rw[e1]at ha;exact(KA hF (YB ht hy hF d) f.body f.params args 40 (u+1) f.result (YX ht hm) (JbI hy hm) ha zo).le zo
def Jmp{F:Qaj}(ht:Qbq r=true)(hy:Qbz r=true)(hF:QaF F=true){c:ClM}(hc:c∈r.clauses){u:Nat}(hu:u<=10000):Qev (VOk 1) u (evN (Qcb r.funcs F 100) F [] u c.cond):=
 KA hF (YB ht hy hF 100) c.cond [] [] 40 u 1 (YY ht hc) (JbJ hy hc) QdC.nil hu
def AtC(c:Qaf)(p:Nat)(l:List OpM):Prop:=∀(j:Nat)(o:OpM),l[j]?=some o->c.ops[p+j]?=some o
def AtC.left{c:Qaf}(h:AtC c p (x++y)):AtC c p x:=λj o hj=>h j o (by rw[List.getElem?_append_left (List.getElem?_eq_some_iff.1 hj).1];exact hj)
def AtC.right{c:Qaf}(h:AtC c p (x++y)):AtC c (p+x.length) y:=λj o hj=>by
 have:=h (x.length+j) o (by rw[List.getElem?_append_right zo];simpa using hj)
 rwa [show p+(x.length+j)=p+x.length+j by omega]at this
variable{o:OpM}
def AtC.head{c:Qaf}(h:AtC c p (o::l)):c.ops[p]?=some o:=h 0 o rfl
def AtC.tail{c:Qaf}(h:AtC c p (o::l)):AtC c (p+1) l:=λj o' hj=>by
 have:=h (j+1) o' hj
 rwa [show p+(j+1)=p+1+j by omega]at this
def AtC.cast{c:Qaf}(h:AtC c p l)(e:p=q):AtC c q l:=e ▸ h
def Qck(c:Qaf)(F:Qaj)(s s':StM):Prop:=∃k,Qaw c F k s=some s'
def JaT(c:Qaf)(F:Qaj):∀(j k:Nat)(s:StM),Qaw c F (j+k) s=(Qaw c F j s).bind (Qaw c F k)
 |0,k,s=>by rw[Nat.zero_add,Qaw];rfl
 |j+1,k,s=>by
  rw[show j+1+k=(j+k)+1 by omega,Qaw,Qaw]
  cases QbZ c F s with
  |none=>rfl
  |some s'=>exact JaT c F j k s'
def Qck.refl(c:Qaf)(F:Qaj)(s:StM):Qck c F s s:=⟨0,rfl⟩
def Qck.trans{c:Qaf}{F:Qaj}{s s1 s2:StM}(h:Qck c F s s1)(k:Qck c F s1 s2):Qck c F s s2:=by
 obtain⟨i,hi⟩:=h;obtain⟨j,hj⟩:=k;exact⟨i+j,by rw[JaT,hi];exact hj⟩
variable{s':StM}
def Qck.one{c:Qaf}{F:Qaj}{s:StM}(h:QbZ c F s=some s'):Qck c F s s':=⟨1,by rw[Qaw,h];rfl⟩
def Kc{c:Qaf}{F:Qaj}{s:StM}(hf:s.fin=false)(ho:c.ops[s.pc]?=some o):QbZ c F s=Qbg c F o {s with pc:=s.pc+1}:=by
 unfold QbZ;rw[hf,ho];rfl
def Qby(c:Qaf)(F:Qaj)(s:StM)(st:List Int)(q m:Nat):RN Int->Prop
 |.val v u=>∃vs,Qck c F s {s with pc:=q,st:=v::st,vars:=vs,used:=u}/\vs.length=s.vars.length/\∀i,i<m->vs[i]?=s.vars[i]?
 |.fault e u=>∃s',Qck c F s s'/\s'.fin=true/\s'.o=⟨0,[],0,e⟩/\s'.used=u
def Qee(c:Qaf)(F:Qaj)(s:StM)(st:List Int)(q m:Nat):RN (List Int)->Prop
 |.val l u=>∃vs,Qck c F s {s with pc:=q,st:=l.reverse++st,vars:=vs,used:=u}/\vs.length=s.vars.length/\∀i,i<m->vs[i]?=s.vars[i]?
 |.fault e u=>∃s',Qck c F s s'/\s'.fin=true/\s'.o=⟨0,[],0,e⟩/\s'.used=u
variable{st0 st:List Int}
section
variable {c:Qaf}{F:Qaj}{s:StM}{st st1 vs1:List Int}{q m p1 u1:Nat}{X:RN Int}
def Qjr{P:Prop}(h:P:=by
  cases X with
  |val v u=>
   obtain⟨vs,h1,h2,h3⟩:=he;exact⟨vs,h.trans h1,h2.trans hl,λi hi=>(h3 i hi).trans (hv i hi)⟩
  |fault e u=>
   obtain⟨s',h1,h2⟩:=he
   exact⟨s',h.trans h1,h2⟩):P:=h
def Qby.after(h:Qck c F s {s with pc:=p1,st:=st1,vars:=vs1,used:=u1})(hl:vs1.length=s.vars.length)(hv:∀i,i<m->vs1[i]?=s.vars[i]?)
  (he:Qby c F {s with pc:=p1,st:=st1,vars:=vs1,used:=u1} st q m X):Qby c F s st q m X:=by
 exact Qjr
def Qee.after{X:RN (List Int)}(h:Qck c F s {s with pc:=p1,st:=st1,vars:=vs1,used:=u1})(hl:vs1.length=s.vars.length)(hv:∀i,i<m->vs1[i]?=s.vars[i]?)
  (he:Qee c F {s with pc:=p1,st:=st1,vars:=vs1,used:=u1} st q m X):Qee c F s st q m X:=by
 exact Qjr
def Qby.jump{q2:Nat}(h:Qby c F s st q m X)(hs:∀v vs u,Qck c F {s with pc:=q,st:=v::st,vars:=vs,used:=u} {s with pc:=q2,st:=v::st,vars:=vs,used:=u}):Qby c F s st q2 m X:=by
 cases X with
 |val v u=>
  obtain⟨vs,h1,h2,h3⟩:=h;exact⟨vs,h1.trans (hs v vs u),h2,h3⟩
 |fault e u=>exact h
def Qby.less{m2:Nat}(h:Qby c F s st q m2 X)(hm:m<=m2):Qby c F s st q m X:=by
 cases X with
 |val v u=>
  obtain⟨vs,h1,h2,h3⟩:=h;exact⟨vs,h1,h2,λi hi=>h3 i zo⟩
 |fault e u=>exact h
def Qhp{P:Prop}(h:P:=by
  cases Y with
  |val v u=>
   obtain⟨vs,h1,h2,h3⟩:=h;exact Qby.after h1 h2 h3 (k v u vs rfl h2 h3)
  |fault e u=>exact h):P:=h
def Qby.bind{Y:RN Int}{f:Int->Nat->RN Int}(h:Qby c F s st0 q0 m Y)
  (k:∀v u vs,Y=.val v u->vs.length=s.vars.length->(∀i,i<m->vs[i]?=s.vars[i]?)->Qby c F {s with pc:=q0,st:=v::st0,vars:=vs,used:=u} st q m (f v u)):Qby c F s st q m (Y.bind f):=by
 exact Qhp
end
def QeI(c:Qaf)(F:Qaj)(fs:List QaN)(call:Int->List Int->Nat->RN Int)(D:Nat):Prop:=
 ∀(n:Int)(args:List Int)(s:StM)(st:List Int)(f:QaN),0<=n->fs[n.toNat]?=some f->QdC f.params args->s.used<=10000->s.fin=false->s.calls.length=D->c.ops[s.pc]?=some ⟨19,n,[]⟩->s.st=args.reverse++st->
  Qby c F s st (s.pc+1) s.vars.length (call n args s.used)
def Qcr(p:Nat)(k n:Int)(s:By)(l:List Exp):cE p (.mk k n s l) =
  if k=0\/k=1 then [⟨0,n,[]⟩]
  else if k=2 then [⟨1,n,[]⟩]
  else if k=3 then [⟨3,0,s⟩]
  else if k=4 then [⟨4,0,s⟩]
  else if k=5 then [⟨5,0,s⟩]
  else if k=16 then
   match l with
   |[a,b]=>cE p a++⟨17,((p+(cE p a).length+(cE (p+(cE p a).length+1) b).length+2:Nat):Int),[]⟩::(cE (p+(cE p a).length+1) b ++
     [⟨16,((p+(cE p a).length+(cE (p+(cE p a).length+1) b).length+3:Nat):Int),[]⟩,⟨0,0,[]⟩])
   |_=>[]
  else if k=17 then
   match l with
   |[a,b]=>cE p a++⟨18,((p+(cE p a).length+(cE (p+(cE p a).length+1) b).length+2:Nat):Int),[]⟩::(cE (p+(cE p a).length+1) b ++
     [⟨16,((p+(cE p a).length+(cE (p+(cE p a).length+1) b).length+3:Nat):Int),[]⟩,⟨0,1,[]⟩])
   |_=>[]
  else if k=18 then
   match l with
   |[c,a,b]=>cE p c++⟨17,((p+(cE p c).length+(cE (p+(cE p c).length+1) a).length+2:Nat):Int),[]⟩::(cE (p+(cE p c).length+1) a ++
     ⟨16,((p+(cE p c).length+(cE (p+(cE p c).length+1) a).length+2+(cE (p+(cE p c).length+(cE (p+(cE p c).length+1) a).length+2) b).length:Nat):Int),[]⟩ ::
     cE (p+(cE p c).length+(cE (p+(cE p c).length+1) a).length+2) b)
   |_=>[]
  else if k=19 then
   match l with
   |[a,b]=>cE p a++⟨2,n,[]⟩::cE (p+(cE p a).length+1) b
   |_=>[]
  else cL p l++[if k=20 then⟨19,n,[]⟩ else op0 (QbT k)]:=by
 conv=>lhs;unfold cE
 rfl
variable{k v L d d':Int}
def Vd{n:Int}{s:By}{l:List Exp}:QbG l<=QaD (.mk k n s l):=by rw[QaD];omega
def JE:∀{l:List Exp}{a:Exp},a∈l->QaD a<=QbG l
 |x::l,a,h=>by
  rw[QbG]
  rcases List.mem_cons.1 h with rfl|h
  ·omega
  ·have:=JE h;omega
section
variable {c:Qaf}{F:Qaj}{s:StM}{m:Nat}
def Jac(hp:s.pc=p)(hf:s.fin=false)(ho:c.ops[p]?=some o)(he:∀s':StM,s'.vars=s.vars->Qbg c F o s'=some (s'.push v)):Qby c F s s.st (p+1) m (.val v s.used):=by
 subst hp;refine⟨s.vars,Qck.one ?_,rfl,λ_ _=>rfl⟩;rw[Kc hf ho];exact he _ rfl
end
structure Qfz(s:StM)(p D:Nat)(vals:List Int)(L:Int):Prop where
 pc:s.pc=p
 fin:s.fin=false
 calls:s.calls.length=D
 used:s.used<=10000
 lets:L<=(s.vars.length:Int)
 vars:vals.length<=s.vars.length
 eq:∀i,i<vals.length->s.vars[i]?=vals[i]?
def Qfz.next{s:StM}{D u:Nat}{vals vs:List Int}{L2:Int}(h:Qfz s p D vals L)(hl:vs.length=s.vars.length)(hv:∀i,i<vals.length->vs[i]?=s.vars[i]?)(hu:u<=10000)(hL:L2<=L):
  Qfz {s with pc:=q,st:=st,vars:=vs,used:=u} q D vals L2:=
 ⟨rfl,h.fin,h.calls,hu,by have:=h.lets;simp only[hl];omega,by simp only[hl];exact h.vars,λi hi=>(hv i hi).trans (h.eq i hi)⟩
def Qfz.less{s:StM}{D:Nat}{vals:List Int}{L2:Int}(h:Qfz s p D vals L)(hL:L2<=L):Qfz s p D vals L2:=⟨h.pc,h.fin,h.calls,h.used,by have:=h.lets;omega,h.vars,h.eq⟩
def Jkm(k a b:Int)(u:Nat):Qax k a b u=match Qax k a b 0 with|.val v _=>.val v u|.fault e _=>.fault e u:=by
 unfold Qax;split
 ·rfl
 split
 ·rfl
 split
 ·rfl
 split
 ·rfl
 split
 ·rfl
 split
 ·split<;>rfl
 split
 ·split<;>rfl
 split
 ·rfl
 split<;>rfl
section
variable {c:Qaf}{F:Qaj}{s:StM}{st:List Int}{q m:Nat}
def Jfe{a b:Int}(hk:8<=k/\k<=15)(hf:s.fin=false)(hst:s.st=b::a::st)(ho:c.ops[s.pc]?=some (op0 k)):Qby c F s st (s.pc+1) m (Qax k a b s.used):=by
 have he:QbZ c F s=some (match Qax k a b 0 with|.val v _=>{s with pc:=s.pc+1,st:=v::st}|.fault e _=>StM.fail {s with pc:=s.pc+1,st:=st} e):=by
  rw[Kc hf ho];unfold Qbg op0;rw[if_neg zr,if_neg zr,if_neg zr,if_neg zr,if_neg zr,if_neg zr,if_neg zr,if_pos zr];simp only[hst]
  cases Qax k a b 0<;>rfl
 rw[Jkm]
 cases hv:Qax k a b 0 with
 |val v _=>
  rw[hv]at he;exact⟨s.vars,Qck.one he,rfl,λ_ _=>rfl⟩
 |fault e _=>
  rw[hv]at he;exact⟨_,Qck.one he,rfl,rfl,rfl⟩
def Jff{a:Int}{t:Int}(hk:k=6\/k=7)(ha:VOk (if k=7 then 1 else 0) a)(hf:s.fin=false)(hst:s.st=a::st)(ho:c.ops[s.pc]?=some (op0 k))(b:Int):Qby c F s st (s.pc+1) m (Qax k a b s.used):=by
 have he:QbZ c F s=some {s with pc:=s.pc+1,st:=(if k=6 then clI (0-a) else Qcs (decide (a=0)))::st}:=by
  rw[Kc hf ho];unfold Qbg op0;rw[if_neg zr,if_neg zr,if_neg zr,if_neg zr,if_neg zr,if_neg zr,if_pos (by simpa using hk)];simp only[hst]
 have hv:Qax k a b s.used=.val (if k=6 then clI (0-a) else Qcs (decide (a=0))) s.used:=by
  unfold Qax
  rcases hk with rfl|rfl
  ·rfl
  ·rcases ha with⟨h,_⟩|⟨_,rfl|rfl⟩
   ·exact absurd h zp
   ·rfl
   ·rfl
 rw[hv];exact⟨s.vars,Qck.one he,rfl,λ_ _=>rfl⟩
end
section
variable {c:Qaf}{F:Qaj}{s:StM}
include c F s
theorem Qee.bindQ{m:Nat}{Y:RN (List Int)}{f:List Int->Nat->RN Int}(h:Qee c F s st0 q0 m Y)
  (k:∀l u vs,Y=.val l u->vs.length=s.vars.length->(∀i,i<m->vs[i]?=s.vars[i]?)->Qby c F {s with pc:=q0,st:=l.reverse++st0,vars:=vs,used:=u} st q m (f l u)):Qby c F s st q m (Y.bind f):=by
 exact Qhp
theorem Qby.bindL{m:Nat}{Y:RN Int}{f:Int->Nat->RN (List Int)}(h:Qby c F s st0 q0 m Y)
  (k:∀v u vs,Y=.val v u->vs.length=s.vars.length->(∀i,i<m->vs[i]?=s.vars[i]?)->Qee c F {s with pc:=q0,st:=v::st0,vars:=vs,used:=u} st q m (f v u)):Qee c F s st q m (Y.bind f):=by
 cases Y with
 |val v u=>
  obtain⟨vs,h1,h2,h3⟩:=h;exact Qee.after h1 h2 h3 (k v u vs rfl h2 h3)
 |fault e u=>exact h
theorem Jad(hf:s.fin=false)(hst:s.st=v::st)(ho:c.ops[s.pc]?=some ⟨17,(n:Int),[]⟩):
  Qck c F s {s with pc:=if v=0 then n else s.pc+1,st:=st}:=by
 refine Qck.one ?_;rw[Kc hf ho];unfold Qbg;simp only[hst]
 by_cases hv:v=0
 ·subst hv;simp[StM.go]
 ·simp[hv]
theorem Jkn(hf:s.fin=false)(hst:s.st=v::st)(ho:c.ops[s.pc]?=some ⟨18,(n:Int),[]⟩):
  Qck c F s {s with pc:=if v=1 then n else s.pc+1,st:=st}:=by
 refine Qck.one ?_;rw[Kc hf ho];unfold Qbg;simp only[hst]
 by_cases hv:v=1
 ·subst hv;simp[StM.go]
 ·simp[hv]
theorem Jfg(hf:s.fin=false)(ho:c.ops[s.pc]?=some ⟨16,(n:Int),[]⟩):Qck c F s {s with pc:=n}:=by
 refine Qck.one ?_;rw[Kc hf ho];unfold Qbg StM.go;simp
theorem Jib{n:Int}(hf:s.fin=false)(hst:s.st=v::st)(ho:c.ops[s.pc]?=some ⟨2,n,[]⟩)(h0:0<=n)(h1:n<(s.vars.length:Int)):
  Qck c F s {s with pc:=s.pc+1,st:=st,vars:=s.vars.set n.toNat v}:=by
 refine Qck.one ?_;rw[Kc hf ho];unfold Qbg;simp[hst,h0,h1]
end
def Jic{pa:List Nat}{n:Int}(h:8<=k/\k<=17\/k=19):QaM pa k n=2:=by
 unfold QaM;(iterate 4 rw[if_neg zo])
def QjN{P:Prop}(h:P:=by
  refine Qby.after r rfl (λ_ _=>rfl) ?_
  exact Jac (F:=F) (c:=c) (s:={s with pc:=p+(cE p a).length+(cE (p+(cE p a).length+1) b).length+2,st:=s.st,vars:=vs1,used:=u' }) rfl hS.fin (by
   have:=h4.tail.head
   rwa [show p+(cE p a).length+1+(cE (p+(cE p a).length+1) b).length+1=p+(cE p a).length+(cE (p+(cE p a).length+1) b).length+2 by omega]at this) (λs' _=>by unfold Qbg;rfl)):P:=h
def QgV{P:Prop}(h:P:=by
  rw[Qcr]at ha |-;simp at ha |-
  exact Jac hS.pc hS.fin ha.head (λs' _=>by unfold Qbg;rfl)):P:=h
def QjA{P:Prop}(h:P:=by
  refine(Jae hF hc hs b M0 vals _ (p+(cE p a).length+1) 1 _ fb tb hv h1.tail.left F9).jump λv2 vs2 u2=>?_
  exact Jfg (s:={s with pc:=p+(cE p a).length+1+(cE (p+(cE p a).length+1) b).length,st:=v2::s.st,vars:=vs2,used:=u2}) hS.fin h4.head):P:=h
def Qgs{P:Prop}(h:P:=by
  simp only[List.length_append,List.length_cons,List.length_nil];omega):P:=h
mutual
def Jae{c:Qaf}{fs:List QaN}{F:Qaj}{call:Int->List Int->Nat->RN Int}{D:Nat}(hF:QaF F=true)(hc:Qet fs call)(hs:QeI c F fs call D):
  ∀(e:Exp)(M0 vals:List Int)(Qag p:Nat)(t:Int)(s:StM),QaK (QbP fs) M0.length Qag e=true->ofN fs M0 (utN e)=(t,[])->QdC M0 vals->AtC c p (cE p e)->Qfz s p D vals (QaD e)->
   Qby c F s s.st (p+(cE p e).length) vals.length (evN call F vals s.used e)
 |.mk k n nm l,M0,vals,Qag,p,t,s,hf,ht,hv,ha,hS=>by
  obtain⟨_,hfi,har,hk⟩:=JI hf;have s8:=Yy hfi;unfold Qam at hfi;rw[K5]at hfi;simp only[Bool.and_eq_true,decide_eq_true_eq]at hfi;obtain⟨⟨⟨hn,hs'⟩,_⟩,_⟩:=hfi;rw[utN,Zd]at ht;have hlk:=hS.less (Vd (k:=k) (n:=n) (s:=nm) (l:=l));have hvl:=hv.1
  rcases s8 with rfl|rfl|rfl|rfl|rfl|rfl|rfl|rfl|h8|rfl|rfl|rfl|rfl|rfl|rfl
  ·rw[J5];exact QgV
  ·rw[J5];exact QgV
  ·rw[J5];rw[Qcr]at ha |-;simp at ha hn |-;have h1:n.toNat<vals.length:=by omega
   have h2:=hS.eq n.toNat h1;have h3:=hS.vars;refine Jac hS.pc hS.fin ha.head λs' hs2=>?_;unfold Qbg;simp only[hs2];rw[if_neg (by decide),if_pos trivial,if_pos ⟨hn.1,by omega⟩]
   congr 2
   rw[List.getD_eq_getElem?_getD,h2]
  ·rw[J5];exact QgV
  ·rw[J5];exact QgV
  ·rw[J5];exact QgV
  ·
   rw[J5];rw[Qcr]at ha |-;simp at ha ht |-;obtain⟨rfl,ht⟩:=ht;have hl:l.length=1:=har;have hty:=J9 ht;rw[Jz,hl]at hty;have hok:=VB hF hc l M0 vals (Qag-1) s.used [0] 6 0 (by decide) hk hty hv hS.used;refine(Jgd hF hc hs l M0 vals (Qag-1) p [0] 6 0 s (by decide) hk hty hv ha.left hlk).bindQ λvs u' vs1 hX h2 h3=>?_
   rw[hX]at hok;obtain⟨_,hu',h5⟩:=hok;have h0:vs.length=1:=h5.1.symm
   match vs,h0,h5 with
   |[a],_,h5=>
    have:=Jff (F:=F) (c:=c) (m:=vals.length) (s:={s with pc:=p+(cL p l).length,st:=[a].reverse++s.st,vars:=vs1,used:=u' }) (t:=0) (k:=6) (.inl rfl) (a:=a) (by simpa using h5.2 0 0 a rfl rfl) hS.fin rfl ha.right.head ([a].getD 1 0);exact this
  ·
   rw[J5];rw[Qcr]at ha |-;simp at ha ht |-;obtain⟨rfl,ht⟩:=ht;have hl:l.length=1:=har;have hty:=J9 ht;rw[Jz,hl]at hty;have hok:=VB hF hc l M0 vals (Qag-1) s.used [1] 7 0 (by decide) hk hty hv hS.used;refine(Jgd hF hc hs l M0 vals (Qag-1) p [1] 7 0 s (by decide) hk hty hv ha.left hlk).bindQ λvs u' vs1 hX h2 h3=>?_
   rw[hX]at hok;obtain⟨_,hu',h5⟩:=hok;have h0:vs.length=1:=h5.1.symm
   match vs,h0,h5 with
   |[a],_,h5=>
    have:=Jff (F:=F) (c:=c) (m:=vals.length) (s:={s with pc:=p+(cL p l).length,st:=[a].reverse++s.st,vars:=vs1,used:=u' }) (t:=0) (k:=7) (.inr rfl) (a:=a) (by simpa using h5.2 0 1 a rfl rfl) hS.fin rfl ha.right.head ([a].getD 1 0);exact this
  ·
   have hl:l.length=2:=by rw[har];exact Jic (by omega)
   obtain⟨h81,h82⟩:=h8
   have hty:TyL fs M0 [0,0] (utL l):=by
    by_cases m6:13<=k
    ·(iterate 4 rw[if_neg (by omega)]at ht);rw[if_pos (by omega)]at ht;simp at ht;have hty:=J9 ht.2;rw[Jz,hl]at hty;exact hty
    ·rw[if_neg (by omega),if_neg (by omega),if_neg (by omega),if_pos (by omega)]at ht;simp at ht;have hty:=J9 ht.2;rw[Jz,hl]at hty;exact hty
   rw[J5];rw[Qcr]at ha |-;have U8:QbT k=k:=by unfold QbT;rw[if_pos (by omega)]
   (iterate 10 rw[if_neg (by omega)]at ha);rw[U8]at ha;(iterate 9 rw[if_neg (by omega)]);(iterate 10 rw[if_neg (by omega)]);rw[U8];have hok:=VB hF hc l M0 vals (Qag-1) s.used [0,0] k 0 (by omega) hk hty hv hS.used;rw[length_append,List.length_singleton,<-add_assoc];refine(Jgd hF hc hs l M0 vals (Qag-1) p [0,0] k 0 s (by omega) hk hty hv ha.left hlk).bindQ λvs u' vs1 hX h2 h3=>?_
   rw[hX]at hok;obtain⟨_,hu',h5⟩:=hok;have h0:vs.length=2:=h5.1.symm;rw[if_neg (by omega)]
   match vs,h0,h5 with
   |[a,b],_,h5=>
    have:=Jfe (F:=F) (c:=c) (m:=vals.length) (st:=s.st) (s:={s with pc:=p+(cL p l).length,st:=[a,b].reverse++s.st,vars:=vs1,used:=u' }) (k:=k) (a:=a) (b:=b) (by omega) hS.fin rfl ha.right.head;exact this
  ·
   have hl:l.length=2:=har;obtain⟨a,b,rfl⟩:=JT hl;simp[utL]at ht;obtain⟨rfl,h1,h2,h3⟩:=ht;have hty:TyL fs M0 [(ofN fs M0 (utN a)).1,(ofN fs M0 (utN b)).1] (utL [a,b]):=by rw[utL,utL,utL];exact⟨Prod.ext rfl h1,Prod.ext rfl h2,trivial⟩
   rw[J5];rw[Qcr]at ha |-;simp at ha |-;have hok:=VB hF hc [a,b] M0 vals (Qag-1) s.used _ 15 0 (by decide) hk hty hv hS.used;rw[<-add_assoc];refine(Jgd hF hc hs [a,b] M0 vals (Qag-1) p _ 15 0 s (by decide) hk hty hv ha.left hlk).bindQ λvs u' vs1 hX h2 h3=>?_
   rw[hX]at hok;obtain⟨_,hu',h5⟩:=hok;have h0:vs.length=2:=h5.1.symm
   match vs,h0,h5 with
   |[x,y],_,h5=>
    have:=Jfe (F:=F) (c:=c) (m:=vals.length) (st:=s.st) (s:={s with pc:=p+(cL p [a,b]).length,st:=[x,y].reverse++s.st,vars:=vs1,used:=u' }) (k:=15) (a:=x) (b:=y) (by omega) hS.fin rfl ha.right.head;exact this
  ·
   have hl:l.length=2:=har;obtain⟨a,b,rfl⟩:=JT hl;simp at ht;obtain⟨rfl,ht⟩:=ht;have hty:=J9 ht;rw[Jz,hl,utL,utL,utL]at hty;obtain⟨ta,tb⟩:=TyL.two hty;obtain⟨fa,fb⟩:=Kb hk;simp at fb;rw[show evN call F vals s.used (.mk 16 n nm [a,b])=(evN call F vals s.used a).bind λv u'=>if v=0 then .val 0 u' else evN call F vals u' b by rw[J5];simp];rw[Qcr]at ha |-;simp only[show ¬((16:Int)=0\/(16:Int)=1) by decide,show ¬(16:Int)=2 by decide,show ¬(16:Int)=3 by decide,show ¬(16:Int)=4 by decide,show ¬(16:Int)=5 by decide,if_false,if_true]at ha |-;have NB:=hlk.less (JE (l:=[a,b]) (a:=a) (by simp));have QC:=JE (l:=[a,b]) (a:=b) (by simp);have hok:=KA hF hc a M0 vals _ s.used 1 fa ta hv hS.used;have h1:=ha.right;have h4:=h1.tail.right;refine(Jae hF hc hs a M0 vals _ p 1 s fa ta hv ha.left NB).bind λv u' vs1 hX h2 h3=>?_
   rw[hX]at hok;obtain⟨_,hu',AE⟩:=hok;have r:=Jad (F:=F) (c:=c) (s:={s with pc:=p+(cE p a).length,st:=v::s.st,vars:=vs1,used:=u' }) hS.fin rfl h1.head
   have hlen:p+(cE p a++(⟨17,((p+(cE p a).length+(cE (p+(cE p a).length+1) b).length+2:Nat):Int),[]⟩:OpM)::(cE (p+(cE p a).length+1) b++[⟨16,((p+(cE p a).length+(cE (p+(cE p a).length+1) b).length+3:Nat):Int),[]⟩,⟨0,0,[]⟩])).length=p+(cE p a).length+(cE (p+(cE p a).length+1) b).length+3:=by
    exact Qgs
   rw[hlen]
   by_cases hv0:v=0
   ·rw[if_pos hv0]at r |-;exact QjN
   ·rw[if_neg hv0]at r |-;refine Qby.after r rfl (λ_ _=>rfl) ?_;have F9:=hS.next (q:=p+(cE p a).length+1) (st:=s.st) h2 h3 hu' (L2:=QaD b) (by have:=Vd (k:=16) (n:=n) (s:=nm) (l:=[a,b]);omega);exact QjA
  ·
   have hl:l.length=2:=har;obtain⟨a,b,rfl⟩:=JT hl;simp at ht;obtain⟨rfl,ht⟩:=ht;have hty:=J9 ht;rw[Jz,hl,utL,utL,utL]at hty;obtain⟨ta,tb⟩:=TyL.two hty;obtain⟨fa,fb⟩:=Kb hk;simp at fb;rw[show evN call F vals s.used (.mk 17 n nm [a,b])=(evN call F vals s.used a).bind λv u'=>if v=0 then evN call F vals u' b else .val 1 u' by rw[J5];simp];rw[Qcr]at ha |-;simp only[show ¬((17:Int)=0\/(17:Int)=1) by decide,show ¬(17:Int)=2 by decide,show ¬(17:Int)=3 by decide,show ¬(17:Int)=4 by decide,show ¬(17:Int)=5 by decide,show ¬(17:Int)=16 by decide,if_false,if_true]at ha |-;have NB:=hlk.less (JE (l:=[a,b]) (a:=a) (by simp));have QC:=JE (l:=[a,b]) (a:=b) (by simp);have hok:=KA hF hc a M0 vals _ s.used 1 fa ta hv hS.used;have h1:=ha.right;have h4:=h1.tail.right;refine(Jae hF hc hs a M0 vals _ p 1 s fa ta hv ha.left NB).bind λv u' vs1 hX h2 h3=>?_
   rw[hX]at hok;obtain⟨_,hu',AE⟩:=hok;have r:=Jkn (F:=F) (c:=c) (s:={s with pc:=p+(cE p a).length,st:=v::s.st,vars:=vs1,used:=u' }) hS.fin rfl h1.head
   have hlen:p+(cE p a++(⟨18,((p+(cE p a).length+(cE (p+(cE p a).length+1) b).length+2:Nat):Int),[]⟩:OpM)::(cE (p+(cE p a).length+1) b++[⟨16,((p+(cE p a).length+(cE (p+(cE p a).length+1) b).length+3:Nat):Int),[]⟩,⟨0,1,[]⟩])).length=p+(cE p a).length+(cE (p+(cE p a).length+1) b).length+3:=by
    exact Qgs
   rw[hlen]
   have hv01:v=0\/v=1:=by
    rcases AE with⟨h,_⟩|⟨_,h⟩
    ·exact absurd h (by decide)
    ·exact h
   by_cases hv0:v=0
   ·rw[if_pos hv0];rw[if_neg (by omega)]at r;refine Qby.after r rfl (λ_ _=>rfl) ?_;have F9:=hS.next (q:=p+(cE p a).length+1) (st:=s.st) h2 h3 hu' (L2:=QaD b) (by have:=Vd (k:=17) (n:=n) (s:=nm) (l:=[a,b]);omega);exact QjA
   ·rw[if_neg hv0];rw[if_pos (by omega)]at r;exact QjN
  ·
   have hl:l.length=3:=har;obtain⟨e,a,b,rfl⟩:=Vb hl;simp[utL]at ht;obtain⟨g0,g1,g2,g3,g4,g5⟩:=ht;obtain⟨fe,fa,fb⟩:=Yb (by decide) hk;have te:ofN fs M0 (utN e)=(1,[]):=Prod.ext g2 g1;have ta:ofN fs M0 (utN a)=(t,[]):=Prod.ext g0 g3;have tb:ofN fs M0 (utN b)=(t,[]):=Prod.ext (g5.trans g0) g4;rw[show evN call F vals s.used (.mk 18 n nm [e,a,b])=(evN call F vals s.used e).bind λv u'=>if v=0 then evN call F vals u' b else evN call F vals u' a by rw[J5];simp];rw[Qcr]at ha |-;simp only[show ¬((18:Int)=0\/(18:Int)=1) by decide,show ¬(18:Int)=2 by decide,show ¬(18:Int)=3 by decide,show ¬(18:Int)=4 by decide,show ¬(18:Int)=5 by decide,show ¬(18:Int)=16 by decide,show ¬(18:Int)=17 by decide,if_false,if_true]at ha |-;have hLe:=hlk.less (JE (l:=[e,a,b]) (a:=e) (by simp));have NB:=JE (l:=[e,a,b]) (a:=a) (by simp);have QC:=JE (l:=[e,a,b]) (a:=b) (by simp);have T8:=Vd (k:=18) (n:=n) (s:=nm) (l:=[e,a,b]);have hok:=KA hF hc e M0 vals _ s.used 1 fe te hv hS.used;have h1:=ha.right;have h4:=h1.tail.right;generalize hx:(cE p e).length=x at*;generalize hA:cE (p+x+1) a=A at*;generalize hB:cE (p+x+A.length+2) b=B at*;refine(Jae hF hc hs e M0 vals _ p 1 s fe te hv ha.left hLe).bind λv u' vs1 hX h2 h3=>?_
   rw[hX]at hok;obtain⟨_,hu',AE⟩:=hok;have r:=Jad (F:=F) (c:=c) (s:={s with pc:=p+(cE p e).length,st:=v::s.st,vars:=vs1,used:=u' }) hS.fin rfl (by rw[hx];exact h1.head)
   have hlen:p+(cE p e++⟨17,((p+x+A.length+2:Nat):Int),[]⟩::(A++⟨16,((p+x+A.length+2+B.length:Nat):Int),[]⟩::B)).length=p+x+A.length+2+B.length:=by
    simp only[length_append,List.length_cons,hx];omega
   rw[hlen]
   by_cases hv0:v=0
   ·rw[if_pos hv0]at r |-;refine Qby.after r rfl (λ_ _=>rfl) ?_;have F9:=hS.next (q:=p+x+A.length+2) (st:=s.st) h2 h3 hu' (L2:=QaD b) (by omega)
    have:=Jae hF hc hs b M0 vals _ (p+x+A.length+2) t _ fb tb hv (by
     rw[hB]
     exact h4.tail.cast (by omega)) F9
    rw[hB]at this;exact this
   ·rw[if_neg hv0]at r |-;have r2:Qck c F {s with pc:=p+(cE p e).length,st:=v::s.st,vars:=vs1,used:=u' } {s with pc:=p+x+1,st:=s.st,vars:=vs1,used:=u' }:=by rw[<-hx];exact r
    refine Qby.after r2 rfl (λ_ _=>rfl) ?_;have F9:=hS.next (q:=p+x+1) (st:=s.st) h2 h3 hu' (L2:=QaD a) (by omega);have:=Jae hF hc hs a M0 vals _ (p+x+1) t _ fa ta hv (by rw[hA];exact h1.tail.left) F9;rw[hA]at this;refine this.jump λv2 vs2 u2=>?_
    exact Jfg (s:={s with pc:=p+x+1+A.length,st:=v2::s.st,vars:=vs2,used:=u2}) hS.fin h4.head
  ·
   have hl:l.length=2:=har;obtain⟨a,b,rfl⟩:=JT hl;simp[utL]at ht hn;obtain⟨g1,g2,g3⟩:=ht;obtain⟨fa,fb⟩:=Kb hk;simp at fb;have ta:ofN fs M0 (utN a)=((ofN fs M0 (utN a)).1,[]):=Prod.ext rfl g2;have tb:ofN fs (M0++[(ofN fs M0 (utN a)).1]) (utN b)=(t,[]):=Prod.ext g1 g3;rw[show evN call F vals s.used (.mk 19 n nm [a,b])=(evN call F vals s.used a).bind λv u'=>evN call F (vals++[v]) u' b by rw[J5];simp];rw[Qcr]at ha |-;simp only[show ¬((19:Int)=0\/(19:Int)=1) by decide,show ¬(19:Int)=2 by decide,show ¬(19:Int)=3 by decide,show ¬(19:Int)=4 by decide,show ¬(19:Int)=5 by decide,show ¬(19:Int)=16 by decide,show ¬(19:Int)=17 by decide,show ¬(19:Int)=18 by decide,if_false,if_true]at ha |-;have NB:=hlk.less (JE (l:=[a,b]) (a:=a) (by simp));have QC:=JE (l:=[a,b]) (a:=b) (by simp);have T8:=Vd (k:=19) (n:=n) (s:=nm) (l:=[a,b]);have hkn:n+1<=QaD (.mk 19 n nm [a,b]):=by rw[QaD,if_pos rfl];omega
   have hsl:=hS.lets;have hok:=KA hF hc a M0 vals _ s.used _ fa ta hv hS.used;have h1:=ha.right;refine(Jae hF hc hs a M0 vals _ p _ s fa ta hv ha.left NB).bind λv u' vs1 hX h2 h3=>?_
   rw[hX]at hok;obtain⟨_,hu',AE⟩:=hok;have r:=Jib (F:=F) (c:=c) (s:={s with pc:=p+(cE p a).length,st:=v::s.st,vars:=vs1,used:=u' }) hS.fin rfl h1.head (by omega) (by simp only[h2];omega);refine Qby.after r (by simp) (λi hi=>by simp only[];rw[List.getElem?_set_ne (by omega)]) ?_
   have F9:Qfz {s with pc:=p+(cE p a).length+1,st:=s.st,vars:=vs1.set n.toNat v,used:=u' } (p+(cE p a).length+1) D (vals++[v]) (QaD b):=
    ⟨rfl,hS.fin,hS.calls,hu',by simp only[List.length_set,h2];omega,by simp only[List.length_set,h2,length_append,List.length_singleton];omega,λi hi=>by
     simp only[length_append,List.length_singleton]at hi
     by_cases hin:i<vals.length
     ·rw[List.getElem?_append_left hin];simp only[];rw[List.getElem?_set_ne (by omega)];exact(h3 i hin).trans (hS.eq i hin)
     ·obtain rfl:i=vals.length:=by omega
      have hnt:n.toNat=vals.length:=by omega
      simp only[hnt];rw[List.getElem?_set_self (by rw[h2];omega)]
      simp⟩
   have:=Jae hF hc hs b (M0++[(ofN fs M0 (utN a)).1]) (vals++[v]) _ (p+(cE p a).length+1) t _ (by rw[length_append];exact fb) tb (hv.snoc AE) h1.tail F9
   have hlen:p+(cE p a++⟨2,n,[]⟩::cE (p+(cE p a).length+1) b).length=p+(cE p a).length+1+(cE (p+(cE p a).length+1) b).length:=by
    simp only[length_append,List.length_cons];omega
   rw[hlen];exact this.less (by simp)
  ·
   simp at ht hn;obtain⟨f,hf'⟩:=JdX hn.1 hn.2;rw[hf']at ht;simp at ht;obtain⟨rfl,g1,g2⟩:=ht;have g1':(utL l).length=f.params.length:=g1;rw[g1']at g2;simp at g2;have hty:=JbE g1' g2;rw[show evN call F vals s.used (.mk 20 n nm l)=(evL call F vals s.used l).bind λvs u'=>call n vs u' by rw[J5];simp];rw[Qcr]at ha |-;simp only[show ¬((20:Int)=0\/(20:Int)=1) by decide,show ¬(20:Int)=2 by decide,show ¬(20:Int)=3 by decide,show ¬(20:Int)=4 by decide,show ¬(20:Int)=5 by decide,show ¬(20:Int)=16 by decide,show ¬(20:Int)=17 by decide,show ¬(20:Int)=18 by decide,show ¬(20:Int)=19 by decide,if_false,if_true]at ha |-;have hok:=VB hF hc l M0 vals (Qag-1) s.used f.params 20 0 (by decide) hk hty hv hS.used;rw[length_append,List.length_singleton,<-add_assoc];refine(Jgd hF hc hs l M0 vals (Qag-1) p f.params 20 0 s (by decide) hk hty hv ha.left hlk).bindQ λvs u' vs1 hX h2 h3=>?_
   rw[hX]at hok;obtain⟨_,hu',h5⟩:=hok;have:=hs n vs {s with pc:=p+(cL p l).length,st:=vs.reverse++s.st,vars:=vs1,used:=u' } s.st f hn.1 hf' h5 hu' hS.fin hS.calls ha.right.head rfl;exact this.less (by simp only[h2];exact hS.vars)
def Jgd{c:Qaf}{fs:List QaN}{F:Qaj}{call:Int->List Int->Nat->RN Int}{D:Nat}(hF:QaF F=true)(hc:Qet fs call)(hs:QeI c F fs call D):
  ∀(l:List Exp)(M0 vals:List Int)(Qag p:Nat)(ts:List Int)(k:Int)(i:Nat)(s:StM),k≠19->QaB (QbP fs) M0.length Qag k i l=true->TyL fs M0 ts (utL l)->QdC M0 vals->AtC c p (cL p l)->Qfz s p D vals (QbG l)->
   Qee c F s s.st (p+(cL p l).length) vals.length (evL call F vals s.used l)
 |[],M0,vals,Qag,p,ts,k,i,s,hk,hf,ht,hv,ha,hS=>by
  rw[evL,cL];refine⟨s.vars,?_,rfl,λ_ _=>rfl⟩
  have:({s with pc:=p+([]:List OpM).length,st:=([]:List Int).reverse++s.st,vars:=s.vars,used:=s.used}:StM)=s:=by
   have:=hS.pc
   cases s
   simp at this |-;exact this.symm
  rw[this];exact Qck.refl _ _ _
 |a::l,M0,vals,Qag,p,ts,k,i,s,hk,hf,ht,hv,ha,hS=>by
  rw[utL]at ht;rw[evL];rw[cL]at ha |-;rw[QaB]at hf;simp only[Bool.and_eq_true]at hf;rw[if_neg λh=>hk h.1]at hf
  cases ts with
  |nil=>exact ht.elim
  |cons t ts=>
   have hL:=hS.less (L2:=QaD a) (by rw[QbG];omega);have hok:=KA hF hc a M0 vals Qag s.used t hf.1 ht.1 hv hS.used;refine(Jae hF hc hs a M0 vals Qag p t s hf.1 ht.1 hv ha.left hL).bindL λv u' vs1 hX h2 h3=>?_
   rw[hX]at hok;obtain⟨_,hu',h5⟩:=hok;have F9:=hS.next (q:=p+(cE p a).length) (st:=v::s.st) h2 h3 hu' (L2:=QbG l) (by rw[QbG];omega);have h:=Jgd hF hc hs l M0 vals Qag (p+(cE p a).length) ts k (i+1) _ hk hf.2 ht.2 hv ha.right F9;rw[length_append,<-add_assoc]
   cases hY:evL call F vals u' l with
   |val l2 u2=>
    rw[hY]at h;obtain⟨vs2,g1,g2,g3⟩:=h;exact⟨vs2,by simpa[RN.bind] using g1,g2,g3⟩
   |fault e u2=>
    rw[hY]at h;exact h
end
variable{c:Qaf}
def AtC.app(h:AtC c p x)(k:AtC c (p+x.length) y):AtC c p (x++y):=λj o hj=>by
 by_cases hx:j<x.length
 ·rw[List.getElem?_append_left hx]at hj;exact h j o hj
 ·rw[List.getElem?_append_right zo]at hj;have:=k (j-x.length) o hj
  rwa [show p+x.length+(j-x.length)=p+j by omega]at this
def AtC.one{c:Qaf}{p:Nat}{o:OpM}(h:c.ops[p]?=some o):AtC c p [o]:=λj o' hj=>by
 cases j with
 |zero=>simp at hj;subst hj;exact h
 |succ j=>simp at hj
def JnH{c:Qaf}:∀(l:List FnM)(p i:Nat)(f:FnM),AtC c p (cF p l)->l[i]?=some f->∃q:Nat,(QaC p l)[i]?=some (q:Int)/\AtC c q (cE q f.body++[op0 20])
 |[],p,i,f,_,h=>by simp at h
 |g::l,p,i,f,ha,h=>by
  rw[cF]at ha;rw[QaC]
  cases i with
  |zero=>
   simp at h;subst h;exact⟨p,rfl,ha.left.app (AtC.one ha.right.head)⟩
  |succ i=>
   simp at h |-;exact JnH l _ i f (ha.right.tail.cast zo) h
structure QfB(c:Qaf)(r:Qah):Prop where
 fn:∀(i:Nat)(f:FnM),r.funcs[i]?=some f->∃q:Nat,c.starts[i]?=some (q:Int)/\AtC c q (cE q f.body++[op0 20])/\c.params[i]?=some (f.params.length:Int)/\c.slots[i]?=some (max (f.params.length:Int) (QaD f.body))
 cl:AtC c 0 (cC 0 r.clauses++[⟨22,r.action,[]⟩])
def AtC.self(c:Qaf):AtC c 0 c.ops:=λj o h=>by rw[Nat.zero_add];exact h
def VV(r:Qah):QfB (Qac r) r:=by
 have h0:=AtC.self (Qac r);have h1:AtC (Qac r) 0 (cC 0 r.clauses++⟨22,r.action,[]⟩::cF ((cC 0 r.clauses).length+1) r.funcs):=h0;have h2:=h1.right;refine⟨λi f hf=>?_,h1.left.app (AtC.one h2.head)⟩;obtain⟨q,g1,g2⟩:=JnH r.funcs ((cC 0 r.clauses).length+1) i f (h2.tail.cast zo) hf;refine⟨q,g1,g2,?_,?_⟩
 ·unfold Qac;simp only[];rw[List.getElem?_map,hf];rfl
 ·unfold Qac;simp only[];rw[List.getElem?_append_left (by simp;exact(List.getElem?_eq_some_iff.1 hf).1),List.getElem?_map,hf];rfl
def JcJ{c:Qaf}{r:Qah}{F:Qaj}(hc:QfB c r)(ht:Qbq r=true)(hy:Qbz r=true)(hF:QaF F=true):∀d,d<=100->QeI c F r.sigs (Qcb r.funcs F d) (100-d)
 |0,_=>λn args s st sg h0 UH ha hu hf hcl hop hst=>by
  have hl:s.calls.length=100:=hcl;unfold Qcb
  have he:QbZ c F s=some (if s.used=10000 then StM.fail {s with pc:=s.pc+1} 14 else StM.fail {s with pc:=s.pc+1,used:=s.used+1} 7):=by
   rw[Kc hf hop];unfold Qbg;simp[hl];split<;>rfl
  split
  ·rename_i h;rw[if_pos h]at he;exact⟨_,Qck.one he,rfl,rfl,rfl⟩
  ·rename_i h;rw[if_neg h]at he;exact⟨_,Qck.one he,rfl,rfl,rfl⟩
 |d+1,hd=>λn args s st sg h0 UH ha hu hf hcl hop hst=>by
  have hl:s.calls.length≠100:=zo;obtain⟨f,yA,hm,e1,e2⟩:=Jia UH;obtain⟨q,g1,g2,g3,g4⟩:=hc.fn _ _ yA;have bA:args.length=f.params.length:=by rw[<-e1];exact ha.1.symm
  unfold Qcb
  by_cases h:s.used=10000
  ·rw[if_pos h]
   have he:QbZ c F s=some (StM.fail {s with pc:=s.pc+1} 14):=by
    rw[Kc hf hop];unfold Qbg;simp[h]
   exact⟨_,Qck.one he,rfl,rfl,rfl⟩
  rw[if_neg h,List.getD_eq_getElem?_getD,yA];simp only[Option.getD_some];have vA:=(List.getElem?_eq_some_iff.1 g1).1;have cA:=(List.getElem?_eq_some_iff.1 g3).1;have uA:=(List.getElem?_eq_some_iff.1 g4).1;generalize hZ:(max (f.params.length:Int) (QaD f.body))=Z at*;have zA:(f.params.length:Int)<=Z:=zo;have aA:QaD f.body<=Z:=zo
  have he:QbZ c F s=some {s with pc:=q,st:=st,vars:=args++List.replicate (Z.toNat-f.params.length) 0,calls:=(s.pc+1,s.vars)::s.calls,used:=s.used+1}:=by
   rw[Kc hf hop];unfold Qbg;simp only[show ¬(19:Int)=0 by decide,show ¬(19:Int)=1 by decide,show ¬(19:Int)=2 by decide,show ¬(19:Int)=3 by decide,show ¬(19:Int)=4 by decide,show ¬(19:Int)=5 by decide,show ¬((19:Int)=6\/(19:Int)=7) by decide,show ¬((19:Int)<=15/\(8:Int)<=19) by decide,show ¬(19:Int)=16 by decide,show ¬(19:Int)=17 by decide,show ¬(19:Int)=18 by decide,if_false,if_true,h,hl];rw[List.getD_eq_getElem?_getD,List.getD_eq_getElem?_getD,List.getD_eq_getElem?_getD,g1,g3,g4];simp only[Option.getD_some,Int.toNat_natCast];rw[if_pos ⟨h0,by omega,by omega,by omega,by rw[hst];simp;omega,zA⟩,hst]
   congr 2
   ·rw[List.drop_append_of_le_length zr];rw[List.drop_of_length_le zr];rfl
   ·rw[List.take_append_of_le_length zr,List.take_of_length_le zr,List.reverse_reverse]
  have hS:Qfz {s with pc:=q,st:=st,vars:=args++List.replicate (Z.toNat-f.params.length) 0,calls:=(s.pc+1,s.vars)::s.calls,used:=s.used+1} q (100-d) args (QaD f.body):=
   ⟨rfl,hf,by simp only[List.length_cons];omega,by simp only[];omega,by simp only[List.length_append,List.length_replicate];omega,by simp,λi hi=>by simp only[];rw[List.getElem?_append_left hi]⟩
  have xA:=Jae hF (YB ht hy hF d) (JcJ hc ht hy hF d zo) f.body f.params args 40 q f.result _ (YX ht hm) (JbI hy hm) (by rw[<-e1];exact ha) g2.left hS;have hr:=g2.right.head
  cases hX:evN (Qcb r.funcs F d) F args (s.used+1) f.body with
  |fault e u=>
   rw[hX]at xA;obtain⟨s',k1,k2⟩:=xA;exact⟨s',(Qck.one he).trans k1,k2⟩
  |val v u=>
   rw[hX]at xA;obtain⟨vs,k1,_,_⟩:=xA;refine⟨s.vars,((Qck.one he).trans k1).trans (Qck.one ?_),rfl,λ_ _=>rfl⟩;refine(Kc (c:=c) (F:=F) (o:=op0 20) (by exact hf) (by exact hr)).trans ?_;unfold Qbg op0;simp
def Qbf(c:Qaf):StM:=⟨0,[],List.replicate ((c.slots.getLastD 0).toNat) 0,[],0,Qkw,false⟩
def KE:∀l:List ClM,0<=Qbv l
 |[]=>by rw[Qbv];omega
 |c::l=>by rw[Qbv];have:=KE l;omega
def Jfh{c:Qaf}{r:Qah}{F:Qaj}(hc:QfB c r)(ht:Qbq r=true)(hy:Qbz r=true)(hF:QaF F=true):∀(l:List ClM)(p:Nat)(s:StM),(∀x∈l,x∈r.clauses)->AtC c p (cC p l++[⟨22,r.action,[]⟩])->
  s.pc=p->s.fin=false->s.calls=[]->s.st=[]->s.used<=10000->Qbv l<=(s.vars.length:Int)->∃s',Qck c F s s'/\s'.fin=true/\({s'.o with used:=s'.used}:QeD)=Qfc r F s.used l
 |[],p,s,_,ha,hp,hf,hcl,hst,hu,hL=>by
  subst hp;rw[cC]at ha;refine⟨_,Qck.one (by rw[Kc hf ha.head];unfold Qbg;simp;rfl),rfl,?_⟩;rw[Qfc]
 |x::l,p,s,hm,ha,hp,hf,hcl,hst,hu,hL=>by
  subst hp;rw[cC]at ha;rw[Qbv]at hL;rw[Qfc]
  have h1:AtC c s.pc (op0 21::(cE (s.pc+1) x.cond++(⟨17,((s.pc+(cE (s.pc+1) x.cond).length+3:Nat):Int),[]⟩:OpM)::⟨22,x.action,x.reason⟩::(cC (s.pc+(cE (s.pc+1) x.cond).length+3) l++[⟨22,r.action,[]⟩]))):=by
   have:=ha;simpa using this
  clear ha;generalize hn:(cE (s.pc+1) x.cond).length=n at*
  have he:QbZ c F s=some (if s.used=10000 then StM.fail {s with pc:=s.pc+1} 14 else {s with pc:=s.pc+1,used:=s.used+1}):=by
   rw[Kc hf h1.head];unfold Qbg op0;simp
  by_cases h:s.used=10000
  ·rw[if_pos h]at he |-;exact⟨_,Qck.one he,rfl,rfl⟩
  rw[if_neg h]at he |-;have h2:=h1.tail;have h3:=h2.right;rw[hn]at h3;have yA:=hm x zq;have hS:Qfz {s with pc:=s.pc+1,used:=s.used+1} (s.pc+1) 0 [] (QaD x.cond):=⟨rfl,hf,by simp[hcl],by simp only[];omega,by simp only[];omega,by simp,λi hi=>by simp at hi⟩
  have xA:=Jae hF (YB ht hy hF 100) (JcJ hc ht hy hF 100 zo) x.cond [] [] 40 (s.pc+1) 1 _ (YY ht yA) (JbJ hy yA) QdC.nil h2.left hS;have zA:=Jmp ht hy hF yA (u:=s.used+1) zo;rw[hn]at xA
  cases hX:evN (Qcb r.funcs F 100) F [] (s.used+1) x.cond with
  |fault e u=>
   rw[hX]at xA;obtain⟨s',k1,k2,k3,k4⟩:=xA;exact⟨s',(Qck.one he).trans k1,k2,by rw[k3,k4]⟩
  |val v u=>
   rw[hX]at xA zA;obtain⟨vs,k1,k2,_⟩:=xA;obtain⟨_,uA,_⟩:=zA;have r2:=(Qck.one he).trans k1
   have r3:=r2.trans (Jad (s:={s with pc:=s.pc+1+n,st:=v::s.st,vars:=vs,used:=u}) hf rfl (by
    have:=h3.head
    exact this))
   simp only[]
   by_cases hv:v=0
   ·rw[if_pos hv]at r3 |-;have ih:=Jfh hc ht hy hF l (s.pc+n+3) {s with pc:=s.pc+n+3,st:=s.st,vars:=vs,used:=u} (λy hy=>hm y (by simp[hy])) (h3.tail.tail.cast zo) rfl hf hcl hst uA (by simp only[k2];omega);obtain⟨s',g1,g2,g3⟩:=ih;exact⟨s',r3.trans g1,g2,g3⟩
   ·rw[if_neg hv]at r3 |-;refine⟨_,r3.trans (Qck.one (by rw[Kc (s:={s with pc:=s.pc+1+n+1,st:=s.st,vars:=vs,used:=u}) hf h3.tail.head];unfold Qbg;simp;rfl)),rfl,rfl⟩
def VW(r:Qah):(Qac r).slots.getLastD 0=Qbv r.clauses:=by
 unfold Qac;simp
variable{F:Qaj}
def VC(hr:Qat r=true)(hF:QaF F=true):∃s',Qck (Qac r) F (Qbf (Qac r)) s'/\s'.fin=true/\({s'.o with used:=s'.used}:QeD)=QdM r F:=by
 obtain⟨ht,hy,_⟩:=KS hr
 have h:=Jfh (VV r) ht hy hF r.clauses 0 (Qbf (Qac r)) (λ_ h=>h) (VV r).cl rfl rfl rfl rfl (by simp[Qbf]) (by
  unfold Qbf;have:=KE r.clauses;simp only[List.length_replicate,VW]
  omega)
 rw[QdM,if_pos ⟨hr,hF⟩];exact h
def QaA(c:Qaf)(o:OpM):Int:=
 if o.code=0\/o.code=1\/o.code=3\/o.code=4\/o.code=5 then 0
 else if o.code=2\/o.code=17\/o.code=18\/o.code=20 then 1
 else if o.code=6\/o.code=7 then 1
 else if o.code=16\/o.code=21\/o.code=22 then 0
 else if o.code=19 then c.params.getD o.n.toNat 0
 else 2
def Qbl(o:OpM):Int:=
 if o.code=2\/o.code=17\/o.code=18\/o.code=20 then 0
 else if o.code=16\/o.code=21\/o.code=22 then 0
 else 1
def isJ(o:OpM):Prop:=o.code=16\/o.code=17\/o.code=18
structure EOk(c:Qaf)(dep:Nat->Int)(L:Int)(q a:Nat)(o:OpM):Prop where
 code:0<=o.code/\o.code<=19
 n0:o.code=0->0<=o.n/\o.n<=1125899906842624
 nv:o.code=1\/o.code=2->0<=o.n/\o.n<L
 nj:isJ o->(a:Int)<o.n/\o.n<=(q:Int)
 nc:o.code=19->0<=o.n/\o.n<(c.params.length:Int)
 nz:o.code≠0->o.code≠1->o.code≠2->¬isJ o->o.code≠19->o.n=0
 nm:o.code=3->(QaU o.name).isSome=true
 nn:o.code≠3->o.code≠4->o.code≠5->o.name=[]
 pops:QaA c o<=dep a
 jump:isJ o->dep o.n.toNat=dep a+Qbl o-QaA c o
 next:o.code≠16->dep (a+1)=dep a+Qbl o-QaA c o
variable{dep:Nat->Int}
def EOk.congr{dep':Nat->Int}(h:EOk c dep L q a o)(haq:a<q)(hq:q<=q')(he:∀t,a<=t->t<=q->dep' t=dep t):EOk c dep' L q' a o:=
 ⟨h.code,h.n0,h.nv,λhj=>⟨(h.nj hj).1,by have:=(h.nj hj).2;omega⟩,h.nc,h.nz,h.nm,h.nn,by rw[he a zP zo];exact h.pops,
  λhj=>by rw[he _ (zu (h.nj hj)) (zu (h.nj hj)),he a zP zo];exact h.jump hj,
  λhn=>by rw[he _ zo zo,he a zP zo];exact h.next hn⟩
def Qgl(c:Qaf)(p q:Nat):Prop:=∀t,p<t->t<=q->∃(a:Nat) (o:OpM),p<=a/\a<t/\c.ops[a]?=some o/\((o.code≠16/\o.code≠20/\o.code≠22/\t=a+1)\/(isJ o/\o.n=(t:Int)))
def Seg(c:Qaf)(L:Int)(p q:Nat)(d d':Int):Prop:=p<=q/\Qgl c p q/\∃dep:Nat->Int,dep p=d/\dep q=d'/\∀a,p<=a->a<q->∃o,c.ops[a]?=some o/\EOk c dep L q a o
def Seg.nil(c:Qaf)(L:Int)(p:Nat)(d:Int):Seg c L p p d d:=⟨le_refl _,λt h1 h2=>by omega,λ_=>d,rfl,rfl,λa h1 h2=>by omega⟩
def Qkb{P:Prop}(h:P:=by
  obtain⟨h1,h2,dep1,h3,h4,h5⟩:=h;obtain⟨k1,k2,dep2,k3,k4,k5⟩:=k;refine⟨by omega,λt MB D8=>?_,λt=>if t<q then dep1 t else dep2 t,?_,?_,λa E7 d8=>?_⟩
  ·by_cases htq:t<=q
   ·exact h2 t MB htq
   ·obtain⟨a,o,g1,g2,g3⟩:=k2 t (by omega) D8;exact⟨a,o,by omega,g2,g3⟩
  ·by_cases e:p<q
   ·simp[e,h3]
   ·obtain rfl:p=q:=by omega
    simp[k3,<-h4,h3]
  ·by_cases e:r<q
   ·omega
   ·simp[e,k4]
  ·by_cases e:a<q
   ·obtain⟨o,g1,g2⟩:=h5 a E7 e;refine⟨o,g1,g2.congr e k1 λt t1 t2=>?_⟩
    by_cases e2:t<q
    ·simp[e2]
    ·obtain rfl:t=q:=by omega
     simp[k3,h4]
   ·obtain⟨o,g1,g2⟩:=k5 a (by omega) d8;refine⟨o,g1,g2.congr d8 (Nat.le_refl _) λt t1 t2=>?_⟩
    rw[if_neg (by omega)]):P:=h
def Seg.trans{r:Nat}{d1 d2:Int}(h:Seg c L p q d d1)(k:Seg c L q r d1 d2):Seg c L p r d d2:=by
 exact Qkb
def Seg.cast'(h:Seg c L p q d d')(e:q=q'):Seg c L p q' d d':=e ▸ h
def Seg.one(ho:c.ops[p]?=some o)(hc:0<=o.code/\o.code<=19)(hj:¬isJ o)(h0:o.code=0->0<=o.n/\o.n<=1125899906842624)(hv:o.code=1\/o.code=2->0<=o.n/\o.n<L)
  (hcc:o.code=19->0<=o.n/\o.n<(c.params.length:Int)) (hz:o.code≠0->o.code≠1->o.code≠2->o.code≠19->o.n=0) (hm:o.code=3->(QaU o.name).isSome=true) (hn:o.code≠3->o.code≠4->o.code≠5->o.name=[])
  (hd:QaA c o<=d) (hd':d'=d+Qbl o-QaA c o):Seg c L p (p+1) d d':=by
 refine⟨by omega,λt h1 h2=>⟨p,o,le_refl _,h1,ho,.inl ⟨λe=>hj (.inl e),by omega,by omega,by omega⟩⟩,λt=>if t=p then d else d',by simp,by simp,λa h1 h2=>?_⟩;obtain rfl:a=p:=zo;exact⟨o,ho,hc,h0,hv,λe=>absurd e hj,hcc,λa b cc _ e=>hz a b cc e,hm,hn,by simpa using hd,λe=>absurd e hj,λ_=>by simp[hd']⟩
def Qgy(n:Nat):¬n+1<=n:=zo
def Qjc(n:Nat):¬n+2<=n:=zo
def zA3{P:Prop}(h:P:=by
  obtain⟨o,g1,g2⟩:=h5 a E7 e1;refine⟨o,g1,g2.congr e1 zo λt t1 t2=>?_⟩;simp[t2]):P:=h
def Jfi{a1 b1:Nat}{J:Int}(hJ:J=17\/J=18)(hA:Seg c L p a1 d (d+1))(H6:c.ops[a1]?=some ⟨J,((b1+1:Nat):Int),[]⟩)(hB:Seg c L (a1+1) b1 d (d+1))
  (hj:c.ops[b1]?=some ⟨16,((b1+2:Nat):Int),[]⟩) (hp:c.ops[b1+1]?=some ⟨0,v,[]⟩) (hv:0<=v/\v<=1125899906842624) (h0:0<=d):Seg c L p (b1+2) d (d+1):=by
 obtain⟨h1,h2,dep1,h3,h4,h5⟩:=hA;obtain⟨k1,k2,dep2,k3,k4,k5⟩:=hB;have yA:Qbl ⟨J,((b1+1:Nat):Int),[]⟩=0:=by unfold Qbl;rcases hJ with rfl|rfl<;>simp
 have xA:QaA c ⟨J,((b1+1:Nat):Int),[]⟩=1:=by unfold QaA;rcases hJ with rfl|rfl<;>simp
 refine⟨by omega,λt MB D8=>?_,λt=>if t<=a1 then dep1 t else if t<=b1 then dep2 t else if t=b1+1 then d else d+1,?_,?_,λa E7 d8=>?_⟩
 ·by_cases e1:t<=a1
  ·exact h2 t MB e1
  by_cases e2:t=a1+1
  ·exact⟨a1,_,h1,by omega,H6,.inl ⟨by rcases hJ with rfl|rfl<;>simp,by rcases hJ with rfl|rfl<;>simp,by rcases hJ with rfl|rfl<;>simp,e2⟩⟩
  by_cases e3:t<=b1
  ·obtain⟨a,o,g1,g2,g3⟩:=k2 t zo e3;exact⟨a,o,by omega,g2,g3⟩
  by_cases e4:t=b1+1
  ·exact⟨a1,_,h1,by omega,H6,.inr ⟨by unfold isJ;rcases hJ with rfl|rfl<;>simp,by rw[e4]⟩⟩
  ·exact⟨b1+1,_,by omega,by omega,hp,.inl ⟨by simp,by simp,by simp,by omega⟩⟩
 ·simp[h1,h3]
 ·have e1:¬b1+2<=a1:=zo;have e2:¬b1+2<=b1:=zo;simp[e1,e2]
 ·by_cases e1:a<a1
  ·exact zA3
  by_cases e2:a=a1
  ·subst e2;refine⟨_,H6,?_,?_,?_,?_,?_,?_,?_,?_,?_,?_,?_⟩
   ·simp only[];omega
   ·intro h;simp only[]at h;omega
   ·intro h;simp only[]at h;omega
   ·intro h;simp only[];omega
   ·intro h;simp only[]at h;omega
   ·intro h1 h2 h3 h4 h5;exact absurd (show isJ _ by unfold isJ;rcases hJ with rfl|rfl<;>simp) h4
   ·intro h;simp only[]at h;omega
   ·intro _ _ _;rfl
   ·rw[xA];simp only[le_refl,if_true,h4];omega
   ·intro _;rw[yA,xA];have e3:¬b1+1<=a:=zo;have e4:¬b1+1<=b1:=zo;simp[h4,e3,e4]
   ·intro _;rw[yA,xA];have e3:¬a+1<=a:=zo;simp[h4,e3,k1,k3]
  by_cases e3:a<b1
  ·obtain⟨o,g1,g2⟩:=k5 a zo e3;refine⟨o,g1,g2.congr e3 zo λt t1 t2=>?_⟩;have e4:¬t<=a1:=zo;simp[e4,t2]
  by_cases e4:a=b1
  ·subst e4;have e5:¬a<=a1:=zo;have e6:¬a+2<=a1:=zo;refine⟨_,hj,by simp,λh=>by simp at h,λh=>by simp at h,λ_=>by simp only[];omega,λh=>by simp at h,λ_ _ _ h=>absurd (.inl rfl) h,λh=>by simp at h,λ_ _ _=>rfl,?_,?_,λh=>absurd rfl h⟩
   ·simp[QaA,e5,k4];omega
   ·intro _;have e7:((a:Int)+2).toNat=a+2:=zo;simp[QaA,Qbl,e5,e6,k4,e7,Qjc]
  ·obtain rfl:a=b1+1:=zo;have e5:¬b1+1<=a1:=zo;have e6:¬b1+1+1<=a1:=zo;refine⟨_,hp,by simp,λ_=>hv,λh=>by simp at h,λh=>by simp[isJ]at h,λh=>by simp at h,λh=>absurd rfl h,λh=>by simp at h,λ_ _ _=>rfl,?_,λh=>by simp[isJ]at h,λ_=>?_⟩
   ·simp[QaA,e5,h0,Qgy]
   ·have e7:¬b1+1+1<=b1:=zo;simp[QaA,Qbl,e5,e6,e7,Qgy]
def JnI{c1 a1:Nat}(hC:Seg c L p c1 d (d+1))(H6:c.ops[c1]?=some ⟨17,((a1+1:Nat):Int),[]⟩)(hA:Seg c L (c1+1) a1 d (d+1))
  (hj:c.ops[a1]?=some ⟨16,((q:Nat):Int),[]⟩) (hB:Seg c L (a1+1) q d (d+1)) (h0:0<=d):Seg c L p q d (d+1):=by
 obtain⟨h1,h2,dep1,h3,h4,h5⟩:=hC;obtain⟨k1,k2,dep2,k3,k4,k5⟩:=hA;obtain⟨l1,l2,xA,l3,l4,l5⟩:=hB;refine⟨by omega,λt MB D8=>?_,λt=>if t<=c1 then dep1 t else if t<=a1 then dep2 t else xA t,?_,?_,λa E7 d8=>?_⟩
 ·by_cases e1:t<=c1
  ·exact h2 t MB e1
  by_cases e2:t=c1+1
  ·exact⟨c1,_,h1,by omega,H6,.inl ⟨by simp,by simp,by simp,e2⟩⟩
  by_cases e3:t<=a1
  ·obtain⟨a,o,g1,g2,g3⟩:=k2 t zo e3;exact⟨a,o,by omega,g2,g3⟩
  by_cases e4:t=a1+1
  ·exact⟨c1,_,h1,by omega,H6,.inr ⟨by simp[isJ],by rw[e4]⟩⟩
  ·obtain⟨a,o,g1,g2,g3⟩:=l2 t zo D8;exact⟨a,o,by omega,g2,g3⟩
 ·simp[h1,h3]
 ·have e1:¬q<=c1:=zo;have e2:¬q<=a1:=zo;simp[e1,e2,l4]
 ·by_cases e1:a<c1
  ·exact zA3
  by_cases e2:a=c1
  ·subst e2;have e3:¬a1+1<=a:=zo;have e4:¬a+1<=a:=zo;refine⟨_,H6,by simp,λh=>by simp at h,λh=>by simp at h,λ_=>by simp only[];omega,λh=>by simp at h,λ_ _ _ h=>absurd (.inr (.inl rfl)) h,λh=>by simp at h,λ_ _ _=>rfl,?_,?_,λ_=>?_⟩
   ·simp[QaA,h4];omega
   ·intro _;simp[QaA,Qbl,h4,e3,l3,Qgy]
   ·simp[QaA,Qbl,h4,e4,k1,k3]
  by_cases e3:a<a1
  ·obtain⟨o,g1,g2⟩:=k5 a zo e3;refine⟨o,g1,g2.congr e3 zo λt t1 t2=>?_⟩;have e4:¬t<=c1:=zo;simp[e4,t2]
  by_cases e4:a=a1
  ·subst e4;have e5:¬a<=c1:=zo;have e6:¬q<=c1:=zo;have e7:¬q<=a:=zo;refine⟨_,hj,by simp,λh=>by simp at h,λh=>by simp at h,λ_=>by simp only[];omega,λh=>by simp at h,λ_ _ _ h=>absurd (.inl rfl) h,λh=>by simp at h,λ_ _ _=>rfl,?_,?_,λh=>absurd rfl h⟩
   ·simp[QaA,e5,k4];omega
   ·intro _;simp[QaA,Qbl,e5,e6,e7,k4,l4]
  ·obtain⟨o,g1,g2⟩:=l5 a zo d8;refine⟨o,g1,g2.congr d8 zP λt t1 t2=>?_⟩;have e5:¬t<=c1:=zo;have e6:¬t<=a1:=zo;simp[e5,e6]
mutual
def Ze{c:Qaf}{pa:List Nat}(U5:c.params=pa.map λn:Nat=>(n:Int)){L:Int}:∀(e:Exp)(M0 Qag p:Nat)(d:Int),QaK pa M0 Qag e=true->AtC c p (cE p e)->(M0:Int)<=L->QaD e<=L->0<=d->Seg c L p (p+(cE p e).length) d (d+1)
 |.mk k n nm l,M0,Qag,p,d,hf,ha,O9,CE,h0=>by
  obtain⟨_,hfi,har,hk⟩:=JI hf;have s8:=Yy hfi;unfold Qam at hfi;simp only[Bool.and_eq_true,decide_eq_true_eq]at hfi;obtain⟨⟨⟨hn,hs'⟩,_⟩,_⟩:=hfi;have hlk:QbG l<=L:=by have:=Vd (k:=k) (n:=n) (s:=nm) (l:=l);omega
  have two:∀k',k'=k->6<=k'/\k'<=15->Seg c L p (p+(cL p l++[op0 k']).length) d (d+1):=by
   intro k' hk' hr;subst hk';rw[Qcr]at ha;(iterate 10 rw[if_neg (by omega)]at ha);have U8:QbT k'=k':=by unfold QbT;split<;>omega
   rw[U8]at ha;have hs:=Jmq U5 l M0 (Qag-1) p k' 0 d (by omega) hk ha.left O9 hlk h0;rw[length_append,List.length_singleton,<-Nat.add_assoc]
   have hop:QaA c (op0 k')=(l.length:Int)/\Qbl (op0 k')=1:=by
    rw[har];unfold QaA Qbl op0 QaM;simp only[];have q1:¬(k'=0\/k'=1\/k'=3\/k'=4\/k'=5):=by omega
    have q2:¬(k'=2\/k'=17\/k'=18\/k'=20):=by omega
    have q3:¬(k'=16\/k'=21\/k'=22):=by omega
    have q4:¬k'=19:=by omega
    have q5:¬(k'=0\/k'=1\/k'=2\/k'=3\/k'=4\/k'=5):=by omega
    have q6:¬k'=18:=by omega
    have q7:¬k'=20:=by omega
    rw[if_neg q1,if_neg q2,if_neg q2,if_neg q3,if_neg q3,if_neg q4,if_neg q5,if_neg q6,if_neg q7]
    by_cases e:k'=6\/k'=7
    ·rw[if_pos e,if_pos e];exact⟨rfl,rfl⟩
    ·rw[if_neg e,if_neg e];exact⟨rfl,rfl⟩
   refine hs.trans (Seg.one ha.right.head ⟨by unfold op0;simp only[];omega,by unfold op0;simp only[];omega⟩ (by unfold isJ op0;simp only[];omega) (λh=>by simp[op0]at h;omega) (λh=>by simp[op0]at h;omega) (λh=>by simp[op0]at h;omega) (λ_ _ _ _=>rfl) (λh=>by simp[op0]at h;omega) (λ_ _ _=>rfl) ?_ ?_)
   ·rw[hop.1];omega
   ·rw[hop.1,hop.2];omega
  rcases s8 with rfl|rfl|rfl|rfl|rfl|rfl|rfl|rfl|h8|rfl|rfl|rfl|rfl|rfl|rfl
  ·rw[Qcr]at ha |-;simp at ha hn |-;exact Seg.one ha.head (by simp) (by simp[isJ]) (λ_=>hn) (λh=>by simp at h) (λh=>by simp at h) (λh=>absurd rfl h) (λh=>by simp at h) (λ_ _ _=>rfl) (by simp[QaA];omega) (by simp[QaA,Qbl])
  ·rw[Qcr]at ha |-;simp at ha hn |-;exact Seg.one ha.head (by simp) (by simp[isJ]) (λ_=>by simp only[];omega) (λh=>by simp at h) (λh=>by simp at h) (λh=>absurd rfl h) (λh=>by simp at h) (λ_ _ _=>rfl) (by simp[QaA];omega) (by simp[QaA,Qbl])
  ·rw[Qcr]at ha |-;simp at ha hn |-;exact Seg.one ha.head (by simp) (by simp[isJ]) (λh=>by simp at h) (λ_=>by simp only[];omega) (λh=>by simp at h) (λ_ h=>absurd rfl h) (λh=>by simp at h) (λ_ _ _=>rfl) (by simp[QaA];omega) (by simp[QaA,Qbl])
  ·rw[Qcr]at ha |-;simp at ha hn hs' |-;exact Seg.one ha.head (by simp) (by simp[isJ]) (λh=>by simp at h) (λh=>by simp at h) (λh=>by simp at h) (λ_ _ _ _=>rfl) (λ_=>hs') (λh=>absurd rfl h) (by simp[QaA];omega) (by simp[QaA,Qbl])
  ·rw[Qcr]at ha |-;simp at ha hn hs' |-;exact Seg.one ha.head (by simp) (by simp[isJ]) (λh=>by simp at h) (λh=>by simp at h) (λh=>by simp at h) (λ_ _ _ _=>rfl) (λh=>by simp at h) (λ_ h=>absurd rfl h) (by simp[QaA];omega) (by simp[QaA,Qbl])
  ·rw[Qcr]at ha |-;simp at ha hn hs' |-;exact Seg.one ha.head (by simp) (by simp[isJ]) (λh=>by simp at h) (λh=>by simp at h) (λh=>by simp at h) (λ_ _ _ _=>rfl) (λh=>by simp at h) (λ_ _ h=>absurd rfl h) (by simp[QaA];omega) (by simp[QaA,Qbl])
  ·have:=two 6 rfl (by omega);rw[Qcr];exact this
  ·have:=two 7 rfl (by omega);rw[Qcr];exact this
  ·have:=two k rfl (by omega);have U8:QbT k=k:=by unfold QbT;split<;>omega
   rw[Qcr];(iterate 10 rw[if_neg (by omega)]);rw[U8];exact this
  ·have:=two 15 rfl (by omega);rw[Qcr];exact this
  ·have hl:l.length=2:=har;obtain⟨a,b,rfl⟩:=JT hl;obtain⟨fa,fb⟩:=Kb hk;simp at fb;have NB:=JE (l:=[a,b]) (a:=a) (by simp);have QC:=JE (l:=[a,b]) (a:=b) (by simp);rw[Qcr]at ha |-;simp only[show ¬((16:Int)=0\/(16:Int)=1) by decide,show ¬(16:Int)=2 by decide,show ¬(16:Int)=3 by decide,show ¬(16:Int)=4 by decide,show ¬(16:Int)=5 by decide,if_false,if_true]at ha |-;have h1:=ha.right;have h4:=h1.tail.right;have s1:=Ze U5 a M0 _ p d fa ha.left O9 (by omega) h0;have s2:=Ze U5 b M0 _ (p+(cE p a).length+1) d fb h1.tail.left O9 (by omega) h0;refine(Jfi (J:=17) (v:=0) (a1:=p+(cE p a).length) (b1:=p+(cE p a).length+1+(cE (p+(cE p a).length+1) b).length) (.inl rfl) s1 ?_ s2 ?_ h4.tail.head (by omega) h0).cast' ?_
   ·have:=h1.head;rw[this]
    congr 3
    omega
   ·have:=h4.head;rw[this]
    congr 3
    omega
   ·simp only[length_append,length_cons,List.length_nil];omega
  ·have hl:l.length=2:=har;obtain⟨a,b,rfl⟩:=JT hl;obtain⟨fa,fb⟩:=Kb hk;simp at fb;have NB:=JE (l:=[a,b]) (a:=a) (by simp);have QC:=JE (l:=[a,b]) (a:=b) (by simp);rw[Qcr]at ha |-;simp only[show ¬((17:Int)=0\/(17:Int)=1) by decide,show ¬(17:Int)=2 by decide,show ¬(17:Int)=3 by decide,show ¬(17:Int)=4 by decide,show ¬(17:Int)=5 by decide,show ¬(17:Int)=16 by decide,if_false,if_true]at ha |-;have h1:=ha.right;have h4:=h1.tail.right;have s1:=Ze U5 a M0 _ p d fa ha.left O9 (by omega) h0;have s2:=Ze U5 b M0 _ (p+(cE p a).length+1) d fb h1.tail.left O9 (by omega) h0;refine(Jfi (J:=18) (v:=1) (a1:=p+(cE p a).length) (b1:=p+(cE p a).length+1+(cE (p+(cE p a).length+1) b).length) (.inr rfl) s1 ?_ s2 ?_ h4.tail.head (by omega) h0).cast' ?_
   ·have:=h1.head;rw[this]
    congr 3
    omega
   ·have:=h4.head;rw[this]
    congr 3
    omega
   ·simp only[length_append,length_cons,List.length_nil];omega
  ·have hl:l.length=3:=har;obtain⟨x,a,b,rfl⟩:=Vb hl;obtain⟨fx,fa,fb⟩:=Yb (by decide) hk;have hLx:=JE (l:=[x,a,b]) (a:=x) (by simp);have NB:=JE (l:=[x,a,b]) (a:=a) (by simp);have QC:=JE (l:=[x,a,b]) (a:=b) (by simp);rw[Qcr]at ha |-;simp only[show ¬((18:Int)=0\/(18:Int)=1) by decide,show ¬(18:Int)=2 by decide,show ¬(18:Int)=3 by decide,show ¬(18:Int)=4 by decide,show ¬(18:Int)=5 by decide,show ¬(18:Int)=16 by decide,show ¬(18:Int)=17 by decide,if_false,if_true]at ha |-;have h1:=ha.right;have h4:=h1.tail.right;have s1:=Ze U5 x M0 _ p d fx ha.left O9 (by omega) h0;have s2:=Ze U5 a M0 _ (p+(cE p x).length+1) d fa h1.tail.left O9 (by omega) h0;have e5:p+(cE p x).length+1+(cE (p+(cE p x).length+1) a).length+1=p+(cE p x).length+(cE (p+(cE p x).length+1) a).length+2:=by omega
   have h6:=h4.tail.cast e5;have s3:=Ze U5 b M0 _ _ d fb h6 O9 (by omega) h0;refine(JnI (c1:=p+(cE p x).length) (a1:=p+(cE p x).length+1+(cE (p+(cE p x).length+1) a).length) (q:=p+(cE p x).length+(cE (p+(cE p x).length+1) a).length+2+(cE (p+(cE p x).length+(cE (p+(cE p x).length+1) a).length+2) b).length) s1 ?_ s2 ?_ (by rw[e5];exact s3) h0).cast' ?_
   ·have:=h1.head;rw[this]
    congr 3
    omega
   ·exact h4.head
   ·simp only[length_append,length_cons,List.length_nil];omega
  ·have hl:l.length=2:=har;obtain⟨a,b,rfl⟩:=JT hl;obtain⟨fa,fb⟩:=Kb hk;simp at fb;have NB:=JE (l:=[a,b]) (a:=a) (by simp);have QC:=JE (l:=[a,b]) (a:=b) (by simp);have hnv:n=(M0:Int):=by simpa using hn
   have oG:n+1<=L:=by rw[QaD]at CE;simp at CE;omega
   rw[Qcr]at ha |-;simp only[show ¬((19:Int)=0\/(19:Int)=1) by decide,show ¬(19:Int)=2 by decide,show ¬(19:Int)=3 by decide,show ¬(19:Int)=4 by decide,show ¬(19:Int)=5 by decide,show ¬(19:Int)=16 by decide,show ¬(19:Int)=17 by decide,show ¬(19:Int)=18 by decide,if_false,if_true]at ha |-;have h1:=ha.right;have s1:=Ze U5 a M0 _ p d fa ha.left O9 (by omega) h0;have hv1:((M0+1:Nat):Int)<=L:=by omega
   have s2:Seg c L (p+(cE p a).length+1) (p+(cE p a).length+1+(cE (p+(cE p a).length+1) b).length) d (d+1):=Ze U5 b (M0+1) (Qag-1) (p+(cE p a).length+1) d fb h1.tail hv1 (by omega) h0;have s3:Seg c L (p+(cE p a).length) (p+(cE p a).length+1) (d+1) d:=Seg.one h1.head (by simp) (by simp[isJ]) (λh=>by simp at h) (λ_=>by simp only[];omega) (λh=>by simp at h) (λ_ _ h=>absurd rfl h) (λh=>by simp at h) (λ_ _ _=>rfl) (by simp[QaA];omega) (by simp[QaA,Qbl]);refine((s1.trans s3).trans s2).cast' ?_;exact Qgs
  ·rw[Qcr]at ha |-;simp only[show ¬((20:Int)=0\/(20:Int)=1) by decide,show ¬(20:Int)=2 by decide,show ¬(20:Int)=3 by decide,show ¬(20:Int)=4 by decide,show ¬(20:Int)=5 by decide,show ¬(20:Int)=16 by decide,show ¬(20:Int)=17 by decide,show ¬(20:Int)=18 by decide,show ¬(20:Int)=19 by decide,if_false,if_true]at ha |-;simp at hn;have hs:=Jmq U5 l M0 (Qag-1) p 20 0 d (by omega) hk ha.left O9 hlk h0;rw[length_append,List.length_singleton,<-Nat.add_assoc];have hpl:c.params.length=pa.length:=by rw[U5,List.length_map]
   have WH:c.params.getD n.toNat 0=(l.length:Int):=by
    have h1:n.toNat<pa.length:=by omega
    rw[har,U5];unfold QaM;simp[List.getD_eq_getElem?_getD,List.getElem?_map,h1]
   refine hs.trans (Seg.one ha.right.head (by simp) (by simp[isJ]) (λh=>by simp at h) (λh=>by simp at h) (λ_=>by simp only[];omega) (λ_ _ _ h=>absurd rfl h) (λh=>by simp at h) (λ_ _ _=>rfl) ?_ ?_)
   ·simp only[QaA];simp;rw[<-List.getD_eq_getElem?_getD,WH];omega
   ·simp only[QaA,Qbl];simp;rw[<-List.getD_eq_getElem?_getD,WH];omega
def Jmq{c:Qaf}{pa:List Nat}(U5:c.params=pa.map λn:Nat=>(n:Int)){L:Int}:∀(l:List Exp)(M0 Qag p:Nat)(k:Int)(i:Nat)(d:Int),k≠19->QaB pa M0 Qag k i l=true->AtC c p (cL p l)->(M0:Int)<=L->QbG l<=L->0<=d->Seg c L p (p+(cL p l).length) d (d+l.length)
 |[],M0,Qag,p,k,i,d,hk,hf,ha,O9,CE,h0=>by
  have:(cL p []).length=0:=by rw[cL];rfl
  rw[this];simpa using Seg.nil c L p d
 |a::l,M0,Qag,p,k,i,d,hk,hf,ha,O9,CE,h0=>by
  rw[QaB,if_neg (by omega)]at hf;simp only[Bool.and_eq_true]at hf;rw[QbG]at CE;rw[cL]at ha |-;have s1:=Ze U5 a M0 Qag p d hf.1 ha.left O9 (by omega) h0;have s2:=Jmq U5 l M0 Qag _ k (i+1) (d+1) hk hf.2 ha.right O9 (by omega) (by omega);have s3:=s1.trans s2;rw[length_append,<-Nat.add_assoc,length_cons];have e:d+1+(l.length:Int)=d+((l.length+1:Nat):Int):=by omega
  rw[<-e];exact s3
end
def InR(x:Int):Prop:=-1125899906842624<=x/\x<=1125899906842624
def VOk.inR{t:Int}(h:VOk t v):InR v:=by
 unfold InR
 rcases h with⟨_,h1,h2⟩|⟨_,h|h⟩<;>omega
structure Qim(c:Qaf)(a:Nat)(o:OpM):Prop where
 push:o.code=0->InR o.n
 jump:isJ o->(a:Int)<o.n/\o.n<=(c.ops.length:Int)
structure QgM(c:Qaf):Prop where
 ops:∀a o,c.ops[a]?=some o->Qim c a o
 starts:∀x∈c.starts,0<=x/\x<=(c.ops.length:Int)
structure QgL(c:Qaf)(s:StM):Prop where
 pc:s.pc<=c.ops.length
 st:∀x∈s.st,InR x
 vars:∀x∈s.vars,InR x
 calls:∀f∈s.calls,f.1<=c.ops.length/\∀x∈f.2,InR x
 many:s.calls.length<=100
 used:s.used<=10000
def frW(N:Nat):List (Nat×List Int)->Nat
 |[]=>0
 |f::l=>(N-f.1)+frW N l
def phi(c:Qaf)(s:StM):Nat:=(10000-s.used)*(2*c.ops.length+2)+(c.ops.length-s.pc)+frW c.ops.length s.calls
def Jko(h:QaF F=true)(s:By):InR (QcM F s):=by
 have hb:∀b:Bool,InR (Qcs b):=λb=>(Ya b).inR
 have hn:∀n∈F.nums,InR n:=λn hn=>by
  have h1:F.nums.all QfR=true:=by unfold QaF at h;simp only[Bool.and_eq_true]at h;exact h.1.1
  exact(Jlg (List.all_eq_true.1 h1 n hn)).inR
 unfold QcM;unfold Qaj.nums at hn
 repeat' split
 all_goals first|exact hb _|exact hn _ zq
def Jlk(n:Int):InR (clI n):=(JhK n).inR
def Jef(b:Bool):InR (Qcs b):=(Ya b).inR
def Jkp(k a b:Int)(hk:k≠7):∀v u,Qax k a b 0=.val v u->InR v:=by
 intro v u h;unfold Qax at h;rw[if_neg hk]at h
 repeat' split at h
 all_goals first|(simp only[RN.val.injEq]at h;obtain⟨rfl,_⟩:=h;first|exact Jlk _|exact Jef _)|cases h
def Qfi(c:Qaf)(s s':StM):Prop:=QgL c s'/\s'.st.length<=s.st.length+1/\phi c s'<phi c s
def QgL.next{s:StM}(h:QgL c s)(MH:s.pc<c.ops.length)(h1:s.pc<s'.pc)(h2:s'.pc<=c.ops.length)(h3:∀x∈s'.st,InR x)(h4:∀x∈s'.vars,InR x)(h5:s'.calls=s.calls)(h6:s.used<=s'.used/\s'.used<=10000)(h7:s'.st.length<=s.st.length+1):Qfi c s s':=by
 refine⟨⟨h2,h3,h4,by rw[h5];exact h.calls,by rw[h5];exact h.many,h6.2⟩,h7,?_⟩;unfold phi;rw[h5];have:(10000-s'.used)*(2*c.ops.length+2)<=(10000-s.used)*(2*c.ops.length+2):=Nat.mul_le_mul_right _ zo;omega
def Jkq{s:StM}(hc:QgM c)(hF:QaF F=true)(h:QgL c s)(hs:QbZ c F s=some s'):Qfi c s s':=by
 unfold QbZ at hs;split at hs
 ·cases hs
 split at hs
 ·cases hs
 rename_i o ho;have yA:=(List.getElem?_eq_some_iff.1 ho).1;have hg:=hc.ops _ _ ho;have xA:∀v,InR v->Qfi c s {s with pc:=s.pc+1,st:=v::s.st}:=λv hv=>h.next yA (lt_succ_self _) yA (λx hx=>(List.mem_cons.1 hx).elim (λe=>e ▸ hv) (h.st x)) h.vars rfl ⟨le_refl _,h.used⟩ zq
 have hL:=hg.jump
 have zA:∀(e:Int)(l:List Int)(u:Nat),(∀x∈l,x∈s.st)->l.length<=s.st.length->s.used<=u->u<=10000->Qfi c s (StM.fail {s with pc:=s.pc+1,st:=l,used:=u} e):=λe l u h1 h2 h3 h4=>
  h.next yA (lt_succ_self _) yA (λx hx=>h.st x (h1 x hx)) h.vars rfl ⟨h3,h4⟩ (by simp[StM.fail];omega)
 have uA:∀v l,s.st=v::l->(∀x∈l,x∈s.st)/\l.length+1=s.st.length/\InR v:=λv l e=>⟨λx hx=>by rw[e];simp[hx],by rw[e];rfl,h.st v (by rw[e];simp)⟩
 have vA:∀(l:List Int)(n:Int),(∀x∈l,x∈s.st)->l.length<=s.st.length->(s.pc:Int)<n->n<=(c.ops.length:Int)->Qfi c s (StM.go {s with pc:=s.pc+1,st:=l} n):=λl n h1 h2 h3 h4=>
  h.next yA (by simp[StM.go];omega) (by simp[StM.go];omega) (λx hx=>h.st x (h1 x hx)) h.vars rfl ⟨le_refl _,h.used⟩ (by simp[StM.go];omega)
 have hst:∀(l:List Int),(∀x∈l,InR x)->l.length<=s.st.length->Qfi c s {s with pc:=s.pc+1,st:=l}:=λl h1 h2=>
  h.next yA (lt_succ_self _) yA h1 h.vars rfl ⟨le_refl _,h.used⟩ (by simp only[];omega)
 unfold Qbg at hs
 by_cases e0:o.code=0
 ·rw[if_pos e0]at hs;obtain rfl:=Option.some.inj hs;exact xA _ (hg.push e0)
 rw[if_neg e0]at hs
 by_cases e1:o.code=1
 ·rw[if_pos e1]at hs;split at hs
  ·rename_i hb;obtain rfl:=Option.some.inj hs;refine xA _ ?_;simp only[]at hb |-;rw[List.getD_eq_getElem?_getD];have hlt:o.n.toNat<s.vars.length:=zo;rw[List.getElem?_eq_getElem hlt];exact h.vars _ (List.getElem_mem hlt)
  ·cases hs
 rw[if_neg e1]at hs
 by_cases e2:o.code=2
 ·rw[if_pos e2]at hs;simp only[]at hs;split at hs
  ·rename_i v l hsl;split at hs
   ·obtain rfl:=Option.some.inj hs;obtain⟨a1,a2,a3⟩:=uA v l hsl;refine h.next yA (lt_succ_self _) yA (λx hx=>h.st x (a1 x hx)) (λx hx=>?_) rfl ⟨le_refl _,h.used⟩ (by simp only[];omega)
    rcases List.mem_or_eq_of_mem_set hx with hx|rfl
    ·exact h.vars x hx
    ·exact a3
   ·cases hs
  ·cases hs
 rw[if_neg e2]at hs
 by_cases e3:o.code=3
 ·rw[if_pos e3]at hs;obtain rfl:=Option.some.inj hs;exact xA _ (Jko hF _)
 rw[if_neg e3]at hs
 by_cases e4:o.code=4
 ·rw[if_pos e4]at hs;obtain rfl:=Option.some.inj hs;refine xA _ ?_;unfold QaF at hF;simp only[Bool.and_eq_true]at hF;exact(JbF _ hF.1.2).inR
 rw[if_neg e4]at hs
 by_cases e5:o.code=5
 ·rw[if_pos e5]at hs;obtain rfl:=Option.some.inj hs;exact xA _ (Jef _)
 rw[if_neg e5]at hs
 by_cases e6:o.code=6\/o.code=7
 ·rw[if_pos e6]at hs;simp only[]at hs;split at hs
  ·rename_i v l hsl;obtain rfl:=Option.some.inj hs;obtain⟨a1,a2,a3⟩:=uA v l hsl;refine hst _ (λx hx=>?_) (by simp only[List.length_cons];omega)
   rcases List.mem_cons.1 hx with rfl|hx
   ·split
    ·exact Jlk _
    ·exact Jef _
   ·exact h.st x (a1 x hx)
  ·cases hs
 rw[if_neg e6]at hs
 by_cases e8:o.code<=15/\8<=o.code
 ·rw[if_pos e8]at hs;simp only[]at hs;split at hs
  ·rename_i b a l hsl;have hs':=Option.some.inj hs;clear hs;have a1:∀x∈l,x∈s.st:=λx hx=>by rw[hsl];simp[hx]
   have a2:l.length+2=s.st.length:=by rw[hsl];rfl
   split at hs'
   ·rename_i v u hv;subst hs';refine hst _ (λx hx=>?_) (by simp only[List.length_cons];omega)
    rcases List.mem_cons.1 hx with rfl|hx
    ·exact Jkp _ _ _ zo _ _ hv
    ·exact h.st x (a1 x hx)
   ·subst hs';exact zA _ l s.used a1 zo zP h.used
  ·cases hs
 rw[if_neg e8]at hs
 by_cases e16:o.code=16
 ·rw[if_pos e16]at hs;obtain rfl:=Option.some.inj hs;exact vA s.st o.n (λ_ h=>h) zP (hL (.inl e16)).1 (hL (.inl e16)).2
 rw[if_neg e16]at hs
 by_cases e17:o.code=17
 ·rw[if_pos e17]at hs;simp only[]at hs;split at hs
  ·rename_i v l hsl;have hs':=Option.some.inj hs;obtain⟨a1,a2,a3⟩:=uA v l hsl;split at hs'
   ·subst hs';exact vA l o.n a1 zo (hL (.inr (.inl e17))).1 (hL (.inr (.inl e17))).2
   ·subst hs';exact hst l (λx hx=>h.st x (a1 x hx)) zo
  ·cases hs
 rw[if_neg e17]at hs
 by_cases e18:o.code=18
 ·rw[if_pos e18]at hs;simp only[]at hs;split at hs
  ·rename_i v l hsl;have hs':=Option.some.inj hs;obtain⟨a1,a2,a3⟩:=uA v l hsl;split at hs'
   ·subst hs';exact vA l o.n a1 zo (hL (.inr (.inr e18))).1 (hL (.inr (.inr e18))).2
   ·subst hs';exact hst l (λx hx=>h.st x (a1 x hx)) zo
  ·cases hs
 rw[if_neg e18]at hs
 by_cases e19:o.code=19
 ·rw[if_pos e19]at hs;simp only[]at hs;split at hs
  ·obtain rfl:=Option.some.inj hs;exact zA 14 s.st s.used (λ_ h=>h) zP zP h.used
  split at hs
  ·obtain rfl:=Option.some.inj hs;have:=h.used;exact zA 7 s.st (s.used+1) (λ_ h=>h) zP zo zo
  split at hs
  ·rename_i hu hm hb;obtain rfl:=Option.some.inj hs;have cA:=h.many;have bA:=h.used
   have aA:(c.starts.getD o.n.toNat 0).toNat<=c.ops.length:=by
    have hlt:o.n.toNat<c.starts.length:=zo;rw[List.getD_eq_getElem?_getD,List.getElem?_eq_getElem hlt];have:=hc.starts _ (List.getElem_mem hlt);simp only[Option.getD_some];omega
   refine⟨⟨aA,λx hx=>h.st x (List.mem_of_mem_drop hx),λx hx=>?_,λf hf=>?_,?_,?_⟩,?_,?_⟩
   ·rcases List.mem_append.1 hx with hx|hx
    ·exact h.st x (List.mem_of_mem_take (List.mem_reverse.1 hx))
    ·rw[List.eq_of_mem_replicate hx];unfold InR;omega
   ·rcases List.mem_cons.1 hf with rfl|hf
    ·exact⟨yA,h.vars⟩
    ·exact h.calls f hf
   ·simp only[List.length_cons];omega
   ·simp only[];omega
   ·simp only[List.length_drop];omega
   ·unfold phi;simp only[frW]
    have e:(10000-s.used)*(2*c.ops.length+2)=(10000-(s.used+1))*(2*c.ops.length+2)+(2*c.ops.length+2):=by
     rw[<-Nat.succ_mul];congr 1;omega
    omega
  ·cases hs
 rw[if_neg e19]at hs
 by_cases e20:o.code=20
 ·rw[if_pos e20]at hs;simp only[]at hs;split at hs
  ·rename_i q vs l hcl;obtain rfl:=Option.some.inj hs;have O0:=h.calls (q,vs) (by rw[hcl];simp);refine⟨⟨O0.1,h.st,O0.2,λf hf=>h.calls f (by rw[hcl];simp[hf]),?_,h.used⟩,by simp,?_⟩
   ·have:=h.many;rw[hcl]at this;simp at this |-;omega
   ·unfold phi;rw[hcl];simp only[frW];omega
  ·cases hs
 rw[if_neg e20]at hs
 by_cases e21:o.code=21
 ·rw[if_pos e21]at hs;have hs':=Option.some.inj hs;have bA:=h.used;split at hs'
  ·subst hs';exact zA 14 s.st s.used (λ_ h=>h) zP zP h.used
  ·subst hs';rename_i hu;simp only[]at hu;exact h.next yA (lt_succ_self _) yA h.st h.vars rfl ⟨by simp only[];omega,by simp only[];omega⟩ zq
 rw[if_neg e21]at hs
 by_cases e22:o.code=22
 ·rw[if_pos e22]at hs;obtain rfl:=Option.some.inj hs;exact h.next yA (lt_succ_self _) yA h.st h.vars rfl ⟨le_refl _,h.used⟩ zq
 rw[if_neg e22]at hs
 cases hs
def JcK{c:Qaf}{F:Qaj}(hc:QgM c)(hF:QaF F=true):∀(j:Nat)(s s':StM),QgL c s->Qaw c F j s=some s'->QgL c s'/\s'.st.length<=s.st.length+j/\phi c s'+j<=phi c s
 |0,s,s',h,hs=>by
  rw[Qaw]at hs;obtain rfl:=Option.some.inj hs;exact⟨h,by omega,by omega⟩
 |j+1,s,s',h,hs=>by
  rw[Qaw]at hs
  cases hx:QbZ c F s with
  |none=>rw[hx]at hs;cases hs
  |some s1=>
   rw[hx]at hs;obtain⟨h1,h2,h3⟩:=Jkq hc hF h hx;obtain⟨k1,k2,k3⟩:=JcK hc hF j s1 s' h1 hs;exact⟨k1,by omega,by omega⟩
structure MOk(c:Qaf)(dep:Nat->Int)(L:Int)(main:Bool)(q a:Nat)(o:OpM):Prop where
 code:0<=o.code/\o.code<=22
 n0:o.code=0->0<=o.n/\o.n<=1125899906842624
 nv:o.code=1\/o.code=2->0<=o.n/\o.n<L
 nj:isJ o->(a:Int)<o.n/\o.n<=(q:Int)
 nc:o.code=19->0<=o.n/\o.n<(c.params.length:Int)
 ne:o.code=22->0<=o.n/\o.n<=3
 nz:o.code≠0->o.code≠1->o.code≠2->¬isJ o->o.code≠19->o.code≠22->o.n=0
 nm:o.code=3->(QaU o.name).isSome=true
 nn:o.code≠3->o.code≠4->o.code≠5->o.code≠22->o.name=[]
 pl:(o.code=20->main=false)/\(o.code=21\/o.code=22->main=true)
 pops:QaA c o<=dep a
 ret:o.code=20->dep a=1
 cl:o.code=21\/o.code=22->dep a=0
 jump:isJ o->dep o.n.toNat=dep a+Qbl o-QaA c o
 next:o.code≠16->o.code≠20->o.code≠22->dep (a+1)=dep a+Qbl o-QaA c o
variable{main:Bool}
def MOk.congr{dep':Nat->Int}(h:MOk c dep L main q a o)(haq:a<q)(hq:q<=q')(he:∀t,a<=t->t<=q->dep' t=dep t):MOk c dep' L main q' a o:=by
 have ha:=he a (Nat.le_refl _) zo
 exact⟨h.code,h.n0,h.nv,λhj=>⟨(h.nj hj).1,by have:=(h.nj hj).2;omega⟩,h.nc,h.ne,h.nz,h.nm,h.nn,h.pl,by rw[ha];exact h.pops,by rw[ha];exact h.ret,by rw[ha];exact h.cl,
  λhj=>by rw[he _ (zu (h.nj hj)) (zu (h.nj hj)),ha];exact h.jump hj,
  λh1 h2 h3=>by rw[he _ zo zo,ha];exact h.next h1 h2 h3⟩
def EOk.m(h:EOk c dep L q a o)(main:Bool):MOk c dep L main q a o:=
 ⟨⟨h.code.1,by have:=h.code;omega⟩,h.n0,h.nv,h.nj,h.nc,λe=>by have:=h.code;omega,λa b c d e _=>h.nz a b c d e,h.nm,λa b c _=>h.nn a b c,⟨λe=>by have:=h.code;omega,λe=>by have:=h.code;omega⟩,h.pops,λe=>by have:=h.code;omega,λe=>by have:=h.code;omega,h.jump,λa _ _=>h.next a⟩
def Qgm(c:Qaf)(L:Int)(main:Bool)(p q:Nat)(d d':Int):Prop:=p<=q/\Qgl c p q/\∃dep:Nat->Int,dep p=d/\dep q=d'/\∀a,p<=a->a<q->∃o,c.ops[a]?=some o/\MOk c dep L main q a o
def Seg.m(h:Seg c L p q d d')(main:Bool):Qgm c L main p q d d':=by
 obtain⟨h1,h2,dep,h3,h4,h5⟩:=h;exact⟨h1,h2,dep,h3,h4,λa a1 a2=>by obtain⟨o,g1,g2⟩:=h5 a a1 a2;exact⟨o,g1,g2.m main⟩⟩
def Qgm.trans{r:Nat}{d1 d2:Int}(h:Qgm c L main p q d d1)(k:Qgm c L main q r d1 d2):Qgm c L main p r d d2:=by
 exact Qkb
def Jge{act:Nat}{nm:By}(XH:c.ops[p]?=some (op0 21))(hE:Seg c L (p+1) q 0 1)(H6:c.ops[q]?=some ⟨17,((q+2:Nat):Int),[]⟩)(PB:c.ops[q+1]?=some ⟨22,(act:Int),nm⟩)(ha:act<=3):Qgm c L true p (q+2) 0 0:=by
 obtain⟨h1,h2,dep,h3,h4,h5⟩:=hE;refine⟨by omega,λt MB D8=>?_,λt=>if t<=p then 0 else if t<=q then dep t else 0,by simp,?_,λa E7 d8=>?_⟩
 ·by_cases e1:t=p+1
  ·exact⟨p,_,Nat.le_refl _,MB,XH,.inl ⟨by simp[op0],by simp[op0],by simp[op0],e1⟩⟩
  by_cases e2:t<=q
  ·obtain⟨a,o,g1,g2,g3⟩:=h2 t zo e2;exact⟨a,o,by omega,g2,g3⟩
  by_cases e3:t=q+1
  ·exact⟨q,_,by omega,by omega,H6,.inl ⟨by simp,by simp,by simp,e3⟩⟩
  ·exact⟨q,_,by omega,by omega,H6,.inr ⟨by simp[isJ],by simp only[];omega⟩⟩
 ·have e1:¬q+2<=p:=zo;simp[e1,Qjc]
 ·by_cases e1:a=p
  ·subst e1;refine⟨_,XH,by simp[op0],λh=>by simp[op0]at h,λh=>by simp[op0]at h,λh=>by simp[op0,isJ]at h,λh=>by simp[op0]at h,λh=>by simp[op0]at h,λ_ _ _ _ _ _=>rfl,λh=>by simp[op0]at h,λ_ _ _ _=>rfl,⟨λh=>by simp[op0]at h,λ_=>rfl⟩,by simp[op0,QaA],λh=>by simp[op0]at h,λ_=>by simp,λh=>by simp[op0,isJ]at h,λ_ _ _=>?_⟩;simp[op0,QaA,Qbl,Qgy,h1,h3]
  by_cases e2:a<q
  ·obtain⟨o,g1,g2⟩:=h5 a zo e2;refine⟨o,g1,(g2.m true).congr e2 zo λt t1 t2=>?_⟩;have e3:¬t<=p:=zo;simp[e3,t2]
  by_cases e3:a=q
  ·subst e3;have e4:¬a<=p:=zo;have e5:¬a+1<=p:=zo;have e6:((a:Int)+2).toNat=a+2:=zo;have e7:¬a+2<=p:=zo;refine⟨_,H6,by simp,λh=>by simp at h,λh=>by simp at h,λ_=>by simp only[];omega,λh=>by simp at h,λh=>by simp at h,λ_ _ _ h=>absurd (.inr (.inl rfl)) h,λh=>by simp at h,λ_ _ _ _=>rfl,⟨λh=>by simp at h,λ_=>rfl⟩,by simp[QaA,e4,h4],λh=>by simp at h,λh=>by simp at h,λ_=>?_,λ_ _ _=>?_⟩
   ·simp[QaA,Qbl,e4,h4,e6,e7,Qjc]
   ·simp[QaA,Qbl,e4,h4,e5,Qgy]
  ·obtain rfl:a=q+1:=zo;have e4:¬q+1<=p:=zo;refine⟨_,PB,by simp,λh=>by simp at h,λh=>by simp at h,λh=>by simp[isJ]at h,λh=>by simp at h,λ_=>by simp only[];omega,λ_ _ _ _ _ h=>absurd rfl h,λh=>by simp at h,λ_ _ _ h=>absurd rfl h,⟨λh=>by simp at h,λ_=>rfl⟩,by simp[QaA,e4,Qgy],λh=>by simp at h,λ_=>by simp[e4,Qgy],λh=>by simp[isJ]at h,λ_ _ h=>absurd rfl h⟩
def Jaf{c:Qaf}{pa:List Nat}(U5:c.params=pa.map λn:Nat=>(n:Int)){L:Int}(hL0:0<=L):∀(l:List ClM)(p:Nat),AtC c p (cC p l)->(∀x∈l,QaK pa 0 40 x.cond=true/\QdR x.action=true)->Qbv l<=L->Qgm c L true p (p+(cC p l).length) 0 0
 |[],p,ha,hx,hl=>by
  have:(cC p []).length=0:=by rw[cC];rfl
  rw[this];exact(Seg.nil c L p 0).m true
 |x::l,p,ha,hx,hl=>by
  rw[cC]at ha |-;rw[Qbv]at hl;obtain⟨zA,xA⟩:=hx x zq;unfold QdR at xA;simp only[Bool.and_eq_true,decide_eq_true_eq]at xA;have h3:=ha.tail.right;have yA:x.action=((x.action.toNat:Nat):Int):=zo;have PB:=h3.tail.head;have s1:=Ze U5 x.cond 0 40 (p+1) 0 zA ha.tail.left zo zo (Int.le_refl _)
  have k1:=Jge (q:=p+1+(cE (p+1) x.cond).length) (act:=x.action.toNat) (nm:=x.reason) ha.head s1 (by
   have:=h3.head;rw[this]
   congr 3
   omega) (by rw[PB];congr 2) zo
  have e:p+1+(cE (p+1) x.cond).length+2=p+(cE (p+1) x.cond).length+3:=zo;rw[e]at k1;have k2:=Jaf U5 hL0 l (p+(cE (p+1) x.cond).length+3) (h3.tail.tail.cast zo) (λy hy=>hx y (by simp[hy])) zo;have k3:=k1.trans k2
  have e2:p+(cE (p+1) x.cond).length+3+(cC (p+(cE (p+1) x.cond).length+3) l).length=p+(op0 21::(cE (p+1) x.cond++⟨17,((p+(cE (p+1) x.cond).length+3:Nat):Int),[]⟩::⟨22,x.action,x.reason⟩::cC (p+(cE (p+1) x.cond).length+3) l)).length:=by
   simp only[length_append,length_cons];omega
  rw[e2]at k3;exact k3
def QeC(c:Qaf)(L:Int)(main:Bool)(fr tQ:Nat):Prop:=fr<tQ/\tQ<=c.ops.length/\(∀t,fr<t->t<tQ->∃(a:Nat) (o:OpM),fr<=a/\a<t/\c.ops[a]?=some o/\((o.code≠16/\o.code≠20/\o.code≠22/\t=a+1)\/(isJ o/\o.n=(t:Int))))/\
 ∃dep:Nat->Int,dep fr=0/\∀a,fr<=a->a<tQ->∃o,c.ops[a]?=some o/\MOk c dep L main (tQ-1) a o/\(o.code≠16->o.code≠20->o.code≠22->a+1<tQ)
def QeC.of(h:Qgm c L main p q 0 d)(ho:c.ops[q]?=some o)(hl:(o.code=20/\main=false/\d=1/\o.n=0/\o.name=[])\/(o.code=22/\main=true/\d=0/\0<=o.n/\o.n<=3)):QeC c L main p (q+1):=by
 obtain⟨h1,h2,dep,h3,h4,h5⟩:=h;have hlt:=(List.getElem?_eq_some_iff.1 ho).1;refine⟨by omega,hlt,λt t1 t2=>h2 t t1 zo,dep,h3,λa a1 a2=>?_⟩
 by_cases e:a<q
 ·obtain⟨o',g1,g2⟩:=h5 a a1 e;exact⟨o',g1,g2,λ_ _ _=>by omega⟩
 ·obtain rfl:a=q:=zo;have hd:0<=d:=zo;refine⟨o,ho,?_,λ_ T3 PB=>by omega⟩
  have hp:QaA c o<=d:=by
   unfold QaA
   rcases hl with⟨e,_,e2,_⟩|⟨e,_,e2,_⟩<;>rw[e,e2]<;>simp
  refine⟨by omega,λh=>by omega,λh=>by omega,λh=>by unfold isJ at h;omega,λh=>by omega,λh=>by omega,λ_ _ _ _ _ _=>by omega,λh=>by omega,λ_ _ _ _=>?_,⟨λh=>?_,λh=>?_⟩,by rw[h4];exact hp,λh=>by omega,λh=>by omega,λh=>by unfold isJ at h;omega,λ_ _ _=>by omega⟩
  ·rcases hl with⟨_,_,_,_,h⟩|⟨h,_⟩
   ·exact h
   ·omega
  ·rcases hl with⟨_,h,_⟩|⟨h,_⟩
   ·exact h
   ·omega
  ·rcases hl with⟨h,_⟩|⟨_,h,_⟩
   ·omega
   ·exact h
def bnd(c:Qaf)(k:Nat):Nat:=if k<c.starts.length then (c.starts.getD k 0).toNat else c.ops.length
def QcG(c:Qaf)(k:Nat):Nat:=if k=0 then 0 else bnd c (k-1)
def QbK(c:Qaf)(k:Nat):Int:=if k=0 then c.slots.getLastD 0 else c.slots.getD (k-1) 0
def Jid{c:Qaf}:∀(l:List FnM)(p i:Nat)(f:FnM),l[i]?=some f->∃q:Nat,(QaC p l)[i]?=some (q:Int)/\p<=q/\(i=0->q=p)/\q+(cE q f.body).length+1<=p+(cF p l).length/\(AtC c p (cF p l)->AtC c q (cE q f.body++[op0 20]))/\
  ((i+1<l.length/\(QaC p l)[i+1]?=some ((q+(cE q f.body).length+1:Nat):Int))\/(i+1=l.length/\q+(cE q f.body).length+1=p+(cF p l).length))
 |[],p,i,f,h=>by simp at h
 |g::l,p,i,f,h=>by
  rw[QaC,cF]
  cases i with
  |zero=>
   simp at h;subst h;refine⟨p,rfl,Nat.le_refl _,λ_=>rfl,by simp only[length_append,length_cons];omega,λha=>ha.left.app (AtC.one ha.right.head),?_⟩
   cases l with
   |nil=>exact .inr ⟨rfl,by rw[cF];simp;omega⟩
   |cons b l=>exact .inl ⟨by simp,by rw[QaC];simp⟩
  |succ i=>
   simp at h;obtain⟨q,g1,g2,_,g3,g4,g5⟩:=Jid (c:=c) l (p+(cE p g.body).length+1) i f h;refine⟨q,by simpa using g1,by omega,by omega,?_,λha=>g4 (ha.right.tail.cast zo),?_⟩
   ·simp only[length_append,length_cons];omega
   ·rcases g5 with⟨g5,g6⟩|⟨g5,g6⟩
    ·exact .inl ⟨by simp;omega,by simpa using g6⟩
    ·refine .inr ⟨by simp;omega,?_⟩;simp only[length_append,length_cons];omega
def K8:∀(l:List FnM)(p:Nat),(QaC p l).length=l.length
 |[],p=>rfl
 |f::l,p=>by rw[QaC,length_cons,K8 l,length_cons]
def K7(r:Qah):(Qac r).params=r.pa.map (λn:Nat=>(n:Int)):=by
 unfold Qac Qah.pa;simp
def JL(r:Qah):(Qac r).starts.length=r.funcs.length/\(Qac r).params.length=r.funcs.length/\(Qac r).slots.length=r.funcs.length+1/\(Qac r).ops.length=(cC 0 r.clauses).length+1+(cF ((cC 0 r.clauses).length+1) r.funcs).length:=by
 unfold Qac;refine⟨K8 _ _,by simp,by simp,by simp;omega⟩
def Jeg(r:Qah)(hf:r.funcs[i]?=some f):∃q:Nat,(Qac r).starts[i]?=some (q:Int)/\bnd (Qac r) i=q/\AtC (Qac r) q (cE q f.body++[op0 20])/\bnd (Qac r) (i+1)=q+(cE q f.body).length+1/\(cC 0 r.clauses).length+1<=q:=by
 obtain⟨q,g1,g2,_,g3,g4,g5⟩:=Jid (c:=Qac r) r.funcs ((cC 0 r.clauses).length+1) i f hf;obtain⟨l1,l2,l3,l4⟩:=JL r;have hi:=(List.getElem?_eq_some_iff.1 hf).1;have hs:(Qac r).starts=QaC ((cC 0 r.clauses).length+1) r.funcs:=rfl;have h0:AtC (Qac r) 0 (cC 0 r.clauses++⟨22,r.action,[]⟩::cF ((cC 0 r.clauses).length+1) r.funcs):=AtC.self (Qac r);have h2:=h0.right;refine⟨q,by rw[hs];exact g1,?_,g4 (h2.tail.cast zo),?_,g2⟩
 ·unfold bnd;rw[if_pos zo,hs,List.getD_eq_getElem?_getD,g1];rfl
 ·unfold bnd
  rcases g5 with⟨g5,g6⟩|⟨g5,g6⟩
  ·rw[if_pos zo,hs,List.getD_eq_getElem?_getD,g6];rfl
  ·rw[if_neg zo,l4];omega
def Jkr(r:Qah):bnd (Qac r) 0=(cC 0 r.clauses).length+1:=by
 obtain⟨l1,l2,l3,l4⟩:=JL r;unfold bnd
 cases hr:r.funcs with
 |nil=>
  rw[hr]at l1 l4;rw[if_neg (by rw[l1];simp),l4];simp[cF]
 |cons f l=>
  rw[hr]at l1;rw[if_pos (by rw[l1];simp)];have hs:(Qac r).starts=QaC ((cC 0 r.clauses).length+1) r.funcs:=rfl;rw[hs,hr,QaC];simp
def VX(hr:Qat r=true):∀k,k<=r.funcs.length->QeC (Qac r) (QbK (Qac r) k) (decide (k=0)) (QcG (Qac r) k) (bnd (Qac r) k):=by
 obtain⟨ht,hy,hn,hcl,xA⟩:=KS hr;obtain⟨l1,l2,l3,l4⟩:=JL r;intro k hk;have yA:=VU r
 cases k with
 |zero=>
  have zA:=KE r.clauses;have h1:QbK (Qac r) 0=Qbv r.clauses:=by unfold QbK;rw[if_pos rfl,VW]
  have h0:=(VV r).cl
  have hs:=Jaf (c:=Qac r) (K7 r) (L:=Qbv r.clauses) zA r.clauses 0 h0.left (λx hx=>⟨by rw[<-yA];exact YY ht hx,by
   unfold QgH at hcl;have:=List.all_eq_true.1 hcl x hx;simp only[Bool.and_eq_true]at this
   exact this.1⟩) (Int.le_refl _)
  have hb:bnd (Qac r) 0=(cC 0 r.clauses).length+1:=Jkr r;rw[h1,hb,show QcG (Qac r) 0=0 from rfl];unfold QdR at xA;simp only[Bool.and_eq_true,decide_eq_true_eq]at xA;rw[Nat.zero_add]at hs;have h9:=h0.right.head;rw[Nat.zero_add]at h9;exact QeC.of hs h9 (.inr ⟨rfl,by simp,rfl,by simp only[];omega⟩)
 |succ i=>
  obtain⟨f,hf⟩:∃f,r.funcs[i]?=some f:=⟨_,List.getElem?_eq_getElem zo⟩
  obtain⟨q,g1,g2,g3,g4,g5⟩:=Jeg r hf;obtain⟨_,_,_,_,g7⟩:=(VV r).fn i f hf;have h1:QbK (Qac r) (i+1)=max (f.params.length:Int) (QaD f.body):=by unfold QbK;rw[if_neg zo,Nat.add_sub_cancel,List.getD_eq_getElem?_getD,g7];rfl
  have h2:QcG (Qac r) (i+1)=q:=by unfold QcG;rw[if_neg zo,Nat.add_sub_cancel];exact g2
  rw[h1,h2,g4];have hm:f∈r.funcs:=List.mem_of_getElem? hf;have hs:=Ze (c:=Qac r) (K7 r) (L:=max (f.params.length:Int) (QaD f.body)) f.body f.params.length 40 q 0 (by rw[<-yA];exact YX ht hm) g3.left zo zo (Int.le_refl _);exact QeC.of (hs.m false) g3.right.head (.inl ⟨rfl,rfl,by omega,rfl,rfl⟩)
def JaU(r:Qah):∀k,k<=r.funcs.length->∀a,a<bnd (Qac r) k->∃j,j<=k/\QcG (Qac r) j<=a/\a<bnd (Qac r) j
 |0,_,a,h=>⟨0,Nat.le_refl _,Nat.zero_le _,h⟩
 |k+1,hk,a,h=>by
  by_cases e:a<bnd (Qac r) k
  ·obtain⟨j,h1,h2⟩:=JaU r k zo a e;exact⟨j,by omega,h2⟩
  ·refine⟨k+1,Nat.le_refl _,?_,h⟩;unfold QcG;rw[if_neg zo,Nat.add_sub_cancel];omega
def Jfj(r:Qah):bnd (Qac r) r.funcs.length=(Qac r).ops.length:=by
 unfold bnd;rw[if_neg (by rw[(JL r).1];omega)]
def Jie(r:Qah)(h:a<(Qac r).ops.length):∃j,j<=r.funcs.length/\QcG (Qac r) j<=a/\a<bnd (Qac r) j:=
 JaU r _ (Nat.le_refl _) a (by rw[Jfj];exact h)
def JnJ(hr:Qat r=true){k:Nat}(hk:k<=r.funcs.length):bnd (Qac r) k<=(Qac r).ops.length:=(VX hr k hk).2.1
def JaV(hr:Qat r=true):QgM (Qac r):=by
 refine⟨λa o ho=>?_,λx hx=>?_⟩
 ·obtain⟨j,h1,h2,h3⟩:=Jie r (List.getElem?_eq_some_iff.1 ho).1;obtain⟨_,xA,_,dep,_,h5⟩:=VX hr j h1;obtain⟨o',g1,g2,_⟩:=h5 a h2 h3;rw[ho]at g1;obtain rfl:=Option.some.inj g1;refine⟨λe=>?_,λhj=>⟨(g2.nj hj).1,by have:=(g2.nj hj).2;omega⟩⟩;have:=g2.n0 e;unfold InR;omega
 ·obtain⟨i,hi⟩:=List.getElem?_of_mem hx;have hlt:=(List.getElem?_eq_some_iff.1 hi).1;rw[(JL r).1]at hlt;obtain⟨f,hf⟩:∃f,r.funcs[i]?=some f:=⟨_,List.getElem?_eq_getElem hlt⟩
  obtain⟨q,g1,g2,g3,g4,g5⟩:=Jeg r hf;rw[hi]at g1;obtain rfl:=Option.some.inj g1;have:=JnJ hr (k:=i+1) zo;rw[g4]at this;omega
mutual
def JbK{pa:List Nat}:∀(e:Exp)(M0 Qag:Nat),QaK pa M0 Qag e=true->QaD e<=((M0+Qag:Nat):Int)
 |.mk k n s l,M0,Qag,hf=>by
  obtain⟨h1,hfi,har,hk⟩:=JI hf;rw[QaD];have hl:=Jfk l M0 (Qag-1) k 0 hk
  by_cases e:k=19
  ·unfold Qam at hfi;simp[e]at hfi;rw[if_pos e];have:=hfi.1;omega
  ·rw[if_neg e];omega
def Jfk{pa:List Nat}:∀(l:List Exp)(M0 Qag:Nat)(k:Int)(i:Nat),QaB pa M0 Qag k i l=true->QbG l<=((M0+1+Qag:Nat):Int)
 |[],M0,Qag,k,i,hf=>by rw[QbG];omega
 |a::l,M0,Qag,k,i,hf=>by
  rw[QaB]at hf;simp only[Bool.and_eq_true]at hf;rw[QbG];have h2:=Jfk l M0 Qag k (i+1) hf.2;have h1:=JbK a _ Qag hf.1;have h3:((if k=19/\i=1 then M0+1 else M0)+Qag:Nat)<=M0+1+Qag:=by split<;>omega
  omega
end
def QiI{P:Prop}(h:P:=by
  have h1:=V2 a p;have h2:=V2 b (p+(cE p a).length+1);simp only[utL,Ju,JG,List.length_cons,List.length_nil,List.length_append]
  omega):P:=h
mutual
def V2:∀(e:Exp)(p:Nat),(cE p e).length<=4*siz (utN e)
 |.mk k n s l,p=>by
  rw[utN,JD,Qcr];have hl:=Jll l p
  repeat' split
  all_goals try (simp only[length_cons,List.length_nil,length_append];omega)
  ·rename_i a b;exact QiI
  ·rename_i a b;exact QiI
  ·rename_i x a b;have h1:=V2 x p;have h2:=V2 a (p+(cE p x).length+1);have h3:=V2 b (p+(cE p x).length+(cE (p+(cE p x).length+1) a).length+2);simp only[utL,Ju,JG,length_cons,List.length_nil,length_append];omega
  ·rename_i a b;exact QiI
def Jll:∀(l:List Exp)(p:Nat),(cL p l).length<=4*Qbd (utL l)
 |[],p=>by rw[cL];simp
 |a::l,p=>by
  rw[cL,utL,Ju,length_append];have h1:=V2 a p;have h2:=Jll l (p+(cE p a).length);omega
end
def Qht{P:Prop}(h:P:=by
  have h4:(l.length+1)*(4*B+3)=l.length*(4*B+3)+(4*B+3):=Nat.succ_mul _ _;simp only[List.length_cons,List.length_append]
  omega):P:=h
def Jlm{B:Nat}:∀(l:List ClM)(p:Nat),(∀x∈l,siz (utN x.cond)<=B)->(cC p l).length<=l.length*(4*B+3)
 |[],p,h=>by rw[cC];simp
 |x::l,p,h=>by
  rw[cC];have h1:=V2 x.cond (p+1);have h2:=h x zq;have h3:=Jlm l (p+(cE (p+1) x.cond).length+3) (λy hy=>h y (by simp[hy]));exact Qht
def Jln{B:Nat}:∀(l:List FnM)(p:Nat),(∀x∈l,siz (utN x.body)<=B)->(cF p l).length<=l.length*(4*B+3)
 |[],p,h=>by rw[cF];simp
 |x::l,p,h=>by
  rw[cF];have h1:=V2 x.body p;have h2:=h x zq;have h3:=Jln l (p+(cE p x.body).length+1) (λy hy=>h y (by simp[hy]));exact Qht
def Jeh{A B:Nat}(hf:r.funcs.length<=A)(hc:r.clauses.length<=A)(h1:∀f∈r.funcs,siz (utN f.body)<=B)(h2:∀c∈r.clauses,siz (utN c.cond)<=B):(Qac r).ops.length<=2*(A*(4*B+3))+1:=by
 rw[(JL r).2.2.2];have a1:=Jlm r.clauses 0 h2;have a2:=Jln r.funcs ((cC 0 r.clauses).length+1) h1;have b1:r.clauses.length*(4*B+3)<=A*(4*B+3):=Nat.mul_le_mul_right _ hc;have b2:r.funcs.length*(4*B+3)<=A*(4*B+3):=Nat.mul_le_mul_right _ hf;omega
def QfJ(W:World)(p:Nat)(l:List Int)(ad:Option Addr):Prop:=∀(i:Nat)(x:Int),l[i]?=some x->∃b o,ad=some ⟨b,o,none⟩/\∀W',Below p W W'->W'.cell? ⟨b,o+i,none⟩=some (Iv x)
def OpG(W:World)(p:Nat)(l:List OpM)(ad:Option Addr):Prop:=∀(i:Nat)(x:OpM),l[i]?=some x->∃b o,ad=some ⟨b,o,none⟩/\∀W',Below p W W'->W'.cell? ⟨b,o+i*3,none⟩=some (Iv x.code)/\W'.cell? ⟨b,o+i*3+1,none⟩=some (Iv x.n)/\W'.cell? ⟨b,o+i*3+2,none⟩=some (Sv x.name)
variable{W W' w w1 w0:World}
def QbX.g{v:Value}{l:List Int}(h:QbX W p v l):∃ad cc,v=.slice ad l.length cc/\QfJ W p l ad:=by
 obtain⟨ad,cc,h1,_,h3⟩:=h.get;refine⟨ad,cc,h1,λi x hi=>?_⟩;obtain⟨b,o,g1,g2,g3⟩:=h3 i x hi;exact⟨b,o,g1,λW' hW=>(World.cell?_of_block (a:=⟨b,o+i,none⟩) (hW.block _ g2)).trans g3⟩
def Qgc.g{v:Value}(h:Qgc W p v l):∃ad cc,v=.slice ad l.length cc/\OpG W p l ad:=by
 obtain⟨ad,cc,h1,_,h3⟩:=h.get;refine⟨ad,cc,h1,λi x hi=>?_⟩;obtain⟨b,o,g1,g2,g3,g4,g5⟩:=h3 i x hi;exact⟨b,o,g1,λW' hW=>⟨(World.cell?_of_block (a:=⟨b,o+i*3,none⟩) (hW.block _ g2)).trans g3,(World.cell?_of_block (a:=⟨b,o+i*3+1,none⟩) (hW.block _ g2)).trans g4,(World.cell?_of_block (a:=⟨b,o+i*3+2,none⟩) (hW.block _ g2)).trans g5⟩⟩
def CV(W:World)(p:Nat)(c:Qaf)(d:Array Value):Prop:=∃v0 v1 v2 v3,d=#[v0,v1,v2,v3]/\Qgc W p v0 c.ops/\QbX W p v1 c.starts/\QbX W p v2 c.params/\QbX W p v3 c.slots
def CV.up{d:Array Value}(h:CV W p c d)(hb:Below p W W'):CV W' p c d:=by
 obtain⟨v0,v1,v2,v3,h0,h1,h2,h3,h4⟩:=h;exact⟨v0,v1,v2,v3,h0,h1.up hb,h2.up hb,h3.up hb,h4.up hb⟩
def CV.g{d:Array Value}(h:CV W p c d):∃a0 c0 a1 c1 a2 c2 a3 c3,d=(zm a0 c.ops.length c0 a1 c.starts.length c1 a2 c.params.length c2 a3 c.slots.length c3)/\OpG W p c.ops a0/\QfJ W p c.starts a1/\QfJ W p c.params a2/\QfJ W p c.slots a3:=by
 obtain⟨v0,v1,v2,v3,h0,h1,h2,h3,h4⟩:=h;obtain⟨a0,c0,rfl,g0⟩:=h1.g;obtain⟨a1,c1,rfl,g1⟩:=h2.g;obtain⟨a2,c2,rfl,g2⟩:=h3.g;obtain⟨a3,c3,rfl,g3⟩:=h4.g;exact⟨a0,c0,a1,c1,a2,c2,a3,c3,h0,g0,g1,g2,g3⟩
def QfD{P:Prop}(h:P:=by
  go_enter func100,ntmps100;go_wp2;go_ret
  exact⟨rfl,rfl⟩):P:=h
def Jgf(s:By)(w:World)(hs:(QaU s).isSome=true):Calls prog 100 #[Sv s] w (λe w'=>e=.returned (.bool true)/\w'=w):=by
 have u1:=Jj s
 by_cases h0:s=Qco
 ·have e0:(s==[108,105,107,101,115])=true:=zN h0;clear h0 hs;exact QfD
 have e0:(s==[108,105,107,101,115])=false:=zM h0
 by_cases h1:s=Qch
 ·have e1:(s==[98,111,111,115,116,115])=true:=zN h1;clear h0 h1 hs;exact QfD
 have e1:(s==[98,111,111,115,116,115])=false:=zM h1
 by_cases h2:s=QbD
 ·have e2:(s==[114,101,112,108,105,101,115])=true:=zN h2;clear h0 h1 h2 hs;exact QfD
 have e2:(s==[114,101,112,108,105,101,115])=false:=zM h2
 by_cases h3:s=QbC
 ·have e3:(s==[114,101,112,111,114,116,115])=true:=zN h3;clear h0 h1 h2 h3 hs;exact QfD
 have e3:(s==[114,101,112,111,114,116,115])=false:=zM h3
 by_cases h4:s=QfI
 ·have e4:(s==[97,103,101])=true:=zN h4;clear h0 h1 h2 h3 h4 hs;exact QfD
 have e4:(s==[97,103,101])=false:=zM h4
 by_cases h5:s=QdQ
 ·have e5:(s==[104,111,109,101])=true:=zN h5;clear h0 h1 h2 h3 h4 h5 hs;exact QfD
 have e5:(s==[104,111,109,101])=false:=zM h5
 by_cases h6:s=QcS
 ·have e6:(s==[115,99,111,112,101])=true:=zN h6;clear h0 h1 h2 h3 h4 h5 h6 hs;exact QfD
 have e6:(s==[115,99,111,112,101])=false:=zM h6
 by_cases h7:s=Qcg
 ·have e7:(s==[108,101,110,103,116,104])=true:=zN h7;clear h0 h1 h2 h3 h4 h5 h6 h7 hs;exact QfD
 have e7:(s==[108,101,110,103,116,104])=false:=zM h7
 by_cases h8:s=QbE
 ·have e8:(s==[102,111,108,108,111,119,115])=true:=zN h8;clear h0 h1 h2 h3 h4 h5 h6 h7 h8 hs;exact QfD
 have e8:(s==[102,111,108,108,111,119,115])=false:=zM h8
 by_cases h9:s=Qep
 ·have e9:(s==[114,101,112,108,121])=true:=zN h9;clear h0 h1 h2 h3 h4 h5 h6 h7 h8 h9 hs;exact QfD
 have e9:(s==[114,101,112,108,121])=false:=zM h9
 exfalso
 unfold QaU at hs;simp[h0,h1,h2,h3,h4,h5,h6,h7,h8,h9]at hs
def Jgg(c:Qaf)(o:OpM)(p:Nat)(w:World)(hp:p<=w.heap.size)(d:Array Value)(h:CV w p c d)(DE:0<=o.code/\o.code<=22)(hcall:o.code=19->0<=o.n/\o.n<(c.params.length:Int))(hl:c.params.length<=1000000000):
  Calls prog 102 #[.agg d,.agg (ye o.code o.n o.name)] w (Qbj w (.tuple (yq (QaA c o) (Qbl o)))):=by
 obtain⟨a0,c0,a1,c1,a2,c2,a3,c3,rfl,g0,g1,g2,g3⟩:=h.g;obtain⟨n0,R4⟩:=yt c.ops.length
 obtain⟨n1,P4⟩:=yt c.starts.length
 obtain⟨n2,zA⟩:=yt c.params.length
 obtain⟨n3,vA⟩:=yt c.slots.length
 rw[R4,P4,zA,vA];rw[zA]at hcall hl;obtain⟨P,hP⟩:=yt (QaA c o)
 obtain⟨U,hU⟩:=yt (Qbl o)
 rw[hP,hU];obtain⟨R,hR⟩:=yt (Qbj w (.tuple (yq P U)))
 rw[hR];have HR:Hi (Qbj w (.tuple (yq P U))=R):=hR;clear hR;have C0:Hi (∀o1 o2,yr w ((w.alloc o1).alloc o2)):=λo1 o2=>Yc w o1 o2
 have hr:=Jaa w (.cells (zm a0 n0 c0 a1 n1 c1 a2 n2 c2 a3 n3 c3) 31) (.cells (ye o.code o.n o.name) 34);have U9:=Zh g2;have yA:=Zh hr.1;have xA:=Zh hr.2;have dA:=Zh hp;clear h g0 g1 g2 g3 hr hp;obtain⟨kc,U8⟩:=yt o.code
 have bA:kc=0\/kc=1\/kc=2\/kc=3\/kc=4\/kc=5\/kc=6\/kc=7\/kc=8\/kc=9\/kc=10\/kc=11\/kc=12\/kc=13\/kc=14\/kc=15\/kc=16\/kc=17\/kc=18\/kc=20\/kc=21\/kc=22\/kc=19:=zo;unfold QaA at hP;unfold Qbl at hU;rw[U8]at hP hU hcall yA xA |-;clear DE
 rcases bA with rfl|rfl|rfl|rfl|rfl|rfl|rfl|rfl|rfl|rfl|rfl|rfl|rfl|rfl|rfl|rfl|rfl|rfl|rfl|rfl|rfl|rfl|rfl
 rotate_right
 ·obtain⟨cA,aA⟩:=hcall rfl;obtain⟨j,hj⟩:∃j:Nat,o.n=(j:Int):=⟨o.n.toNat,by omega⟩
  have hx:c.params[j]?=some (c.params.getD j 0):=by rw[List.getD_eq_getElem?_getD,List.getElem?_eq_getElem zo];rfl
  obtain⟨b,of,rfl,hcl⟩:=U9.o j _ hx;simp at hP hU;rw[hj]at hP yA xA |-;simp only[Int.toNat_natCast]at hP;rw[<-List.getD_eq_getElem?_getD]at hP;rw[hP]at hcl;subst hU;have eA:(j:Int)<(n2:Int):=zo;have q0:=hcl _ ((C0.o (.cells (zm a0 n0 c0 a1 n1 c1 (some ⟨b,of,none⟩) n2 c2 a3 n3 c3) 31) (.cells (ye 19 (j:Int) o.name) 34)).mono dA.o);obtain⟨x0,x1,x2,x3⟩:=Qao yA.o;obtain⟨y0,y1,y2⟩:=Qay xA.o;have uA:Qbj w (.tuple (yq P 1)) (.returned (.tuple (yq P 1))) _:=⟨rfl,C0.o (.cells (zm a0 n0 c0 a1 n1 c1 (some ⟨b,of,none⟩) n2 c2 a3 n3 c3) 31) (.cells (ye 19 (j:Int) o.name) 34)⟩
  rw[HR.o]at uA;have HF:=Zh uA;clear HR uA;clear hP hx hcl hj cA aA U8 hcall C0 yA xA hl R4 P4 zA vA;go_enter func102,ntmps102;go_upto_region 1 with fail
  try simp only[World.size_alloc]
  generalize (World.alloc (World.alloc w _) _)=w2 at*;generalize w.heap.size+1=ob at*;generalize w.heap.size=cb at*;go_wp2;exact HF.o
 all_goals
  simp at hP hU;subst hP;subst hU;obtain⟨y0,y1,y2⟩:=Qay xA.o;have HF:=Zh (C0.o (.cells (zm a0 n0 c0 a1 n1 c1 a2 n2 c2 a3 n3 c3) 31));clear U8 hcall C0 yA xA hl R4 P4 zA vA;go_enter func102,ntmps102;go_wp2;rw[<-HR.o];exact⟨rfl,HF.o _⟩
def opC(o:OpM):List Value:=[Iv o.code,Iv o.n,Sv o.name]
def Qfd(l:List OpM):List Value:=l.flatMap opC
def Jif(l:List OpM)(o:OpM):Qfd (l++[o])=Qfd l++opC o:=by unfold Qfd;rw[List.flatMap_append];simp
def Qii:(prog.info? 34).map (λi=>(i.zero,i.size,i.bytes))=some (some (.agg #[Iv 0,Iv 0,Em]),3,32):=zk
def BAt(w:World)(p:Nat)(l:List OpM):Prop:=∃v,w.heap[p]?=some (.cells #[v] 65 (0,0))/\w.ownsRow (p+1) 34 3 v l.length (Qfd l)
variable{xs:List Value}
def Jfl{v:Value}(h:w.ownsRow base e size v n xs){p:Addr}(hp:p.block<base)(u:Value):(w.setCell p u).ownsRow base e size v n xs:=by
 refine⟨h.1,?_⟩
 rcases h.2 with hn|⟨g,cap,cur,rfl,hb,hg,rest⟩
 ·exact .inl hn
 ·exact .inr ⟨g,cap,cur,rfl,hb,Ji hg zo u,rest⟩
def QfG(w:World)(p:Nat):Option Nat:=match w.heap[p]? with|some (.cells #[v] _ _)=>v.ownBlock|_=>none
def Vl{t:Nat}{v:Value}{fr:Nat×Nat}(h:w.heap[p]?=some (.cells #[v] t fr)):QfG w p=v.ownBlock:=by unfold QfG;rw[h];rfl
structure BFr(p:Nat)(w w':World):Prop where
 below:Below p w w'
 keep:∀k,k<w.heap.size->k≠p->QfG w p≠some k->w'.heap[k]?=w.heap[k]?
 row:∀k,QfG w' p=some k->QfG w p=some k\/w.heap.size<=k
def BFr.refl(p:Nat)(w:World):BFr p w w:=⟨zO,λ_ _ _ _=>rfl,λ_ h=>.inl h⟩
def BFr.trans{w2:World}(h:BFr p w w1)(k:BFr p w1 w2):BFr p w w2:=
 ⟨h.below.trans k.below,λj hj hp hr=>(k.keep j (Nat.lt_of_lt_of_le hj h.below.size) hp λe=>by rcases h.row j e with e|e;exact hr e;omega).trans (h.keep j hj hp hr),λj hj=>by
  have hs:=h.below.size
  rcases k.row j hj with e|e
  ·exact h.row j e
  ·exact .inr zo⟩
def BFr.alloc(hp:p<w.heap.size)(o:Obj):BFr p w (w.alloc o):=
 ⟨zO.alloc (Nat.le_of_lt hp) _,λj hj _ _=>heap_alloc_old _ _ hj,λj hj=>.inl (by unfold QfG at hj |-;rwa [heap_alloc_old _ _ hp]at hj)⟩
def BFr.drew(h:BFr p w w1):BFr p w w1.drew:=⟨h.below.drew,h.keep,h.row⟩
def BAt.lt(h:BAt w p l):p<w.heap.size:=by
 obtain⟨v,hb,_⟩:=h;exact Jb hb
def BAt.up(h:BAt w p l)(hb:yr w W):BAt W p l:=by
 obtain⟨v,h1,h2⟩:=h;exact⟨v,(hb.block _ (Jb h1)).trans h1,JX h2 hb⟩
def QdA(w:World)(p k:Nat):Prop:=k<w.heap.size/\k≠p/\QfG w p≠some k
def QdA.on{k:Nat}(h:QdA w p k)(hf:BFr p w w1):QdA w1 p k/\w1.heap[k]?=w.heap[k]?:=
 ⟨⟨Nat.lt_of_lt_of_le h.1 hf.below.size,h.2.1,λe=>by rcases hf.row k e with e|e;exact h.2.2 e;have:=h.1;omega⟩,hf.keep k h.1 h.2.1 h.2.2⟩
def QdA.new(h:BAt w p l)(o:Obj):QdA (w.alloc o) p w.heap.size:=by
 have hp:=h.lt;obtain⟨v,h1,h2⟩:=h;refine⟨by simp,by omega,λe=>?_⟩;have:=Vl (w:=w.alloc o) (by rw[heap_alloc_old _ _ hp];exact h1);rw[this]at e
 rcases h2.2 with⟨rfl,_⟩|⟨g,cap,cur,rfl,_,hg,_⟩
 ·simp[Value.ownBlock]at e
 ·simp[Value.ownBlock]at e;have:=Jb hg;omega
def Ka{P:Program}{ops:Array Oper}{rest:List Oper}{o:Oper}{a:Act}{Q:Exit->Act->World->Prop}(w:World)(hgd:o.guard=none)(s x:Operand)(t:TypeId)
  (ho:o.op=.call {callee:=.builtin .append,args:=#[s,x],argTypes:=#[t,t]})
  (base:Nat) (e:TypeId) (i:TypeInfo) (z:Value) (size bytes:Nat) (ht:P.underlying t=some (.slice e)) (hi:P.info? e=some i) (hz:i.zero=some z)
  (hsize:i.size=size) (hby:i.bytes=bytes) (hzs:z.cells.size=size) (hsz:0<size)
  (v:Value) (n:Nat) (xs:List Value) (hs:a.eval s=v) (hown:w.ownsRow base e size v n xs)
  (ad:Addr) (m c:Nat) (news:List Value) (hx:a.eval x=.slice (some ad) m c) (hl:news.length=m*size) (hnews:∀j u,news[j]?=some u->w.cell? (ad.add j)=some u) (h1:∀u∈news,u.oneCell'=true)
  (h0:0<m) (h63:n+m<=maxLen) (hbytes:(n+m)*bytes<=140737488355328) (hbase:base<=w.heap.size)
  (h:∀v' w',w'.ownsRow base e size v' (n+m) (xs++news)->w.grownBy w' v.ownBlock->(v'.ownBlock=v.ownBlock\/v'.ownBlock=some w.heap.size)->wpList P ops Q rest (a.put o.dst v') w'):wpList P ops Q (o::rest) a w:=by
 refine wpList_plain hgd λK hK=>?_
 obtain⟨v',w',hr,h2,h3,h4⟩:=KI (P:=P) w base t o.type e i z size bytes ht hi hz hsize hby hzs hsz v n xs hown ad m c news hl hnews h1 h0 h63 hbytes hbase;unfold Oper.wp execOp;simp only[ho,resolve,invoke,builtin,Sem.run_bind,Sem.run_pure,Result.andThen_ok,List.map_toArray,List.map_cons,List.map_nil,hs,hx,hr];exact hK _ _ (h v' w' h2 h3 h4)
def BAt.drew(h:BAt w p l):BAt w.drew p l:=h
def Qjn(w:World)(p:Nat)(l:List OpM)(r:Value)(e:Ending)(w':World):Prop:=e=.returned r/\BAt w' p l/\BFr p w w'
def JU(w:World)(p:Nat)(l:List OpM)(code n:Int)(nm:By)(h:BAt w p l)(hl:l.length<=1000000000000):
  Calls prog 20 #[Pt p,Iv code,Iv n,Sv nm] w (Qjn w p (l++[⟨code,n,nm⟩]) (Iv (l.length:Nat))):=by
 obtain⟨v,hb,xA⟩:=h;obtain⟨R,hR⟩:=yt (Qjn w p (l++[⟨code,n,nm⟩]) (Iv (l.length:Nat)))
 rw[hR];have HR:Hi (R=Qjn w p (l++[⟨code,n,nm⟩]) (Iv (l.length:Nat))):=hR.symm;obtain⟨i0,hi,vA,bA,dA⟩:=info_parts Qii;have hp:=Jb hb;obtain⟨a,c,rfl⟩:=Jv xA;have b0:w.cell? ⟨p,0,none⟩=some (.slice a l.length c):=Ja hb 0;have HB:=Zh hb;have HO:=Zh xA;have HP:=Zh hp;have HL:=Zh hl;clear hR hb xA hp;go_enter func20,ntmps20;go_wp2_with (at_builtin;go_loud (refine Ka _ rfl _ _ 28 rfl (p+1) 34 i0 (.agg #[Iv 0,Iv 0,Em]) 3 32 underlying28 hi vA bA dA rfl zp _ _ _ rfl (HO.o.alloc _) ⟨w.heap.size,0,none⟩ 1 1 [Iv code,Iv n,Sv nm] rfl rfl ?d1 ?d2 zp ?d3 ?d4 ?d5 ?d6))
 case d1=>
  intro j u hj;rw[Kw];simpa using hj
 case d2=>intro u hu;simp at hu;rcases hu with rfl|rfl|rfl<;>rfl
 case d3=>unfold maxLen;have:=HL.o;omega
 case d4=>have:=HL.o;omega
 case d5=>simp;have:=HP.o;omega
 intro v' w' Q0 hgrow O0;have eA:(w.alloc (.cells (ye code n nm) 34)).heap[p]?=some (.cells #[.slice a l.length c] 65 (0,0)):=by rw[heap_alloc_old _ _ HP.o];exact HB.o
 have zA:∀k,(Value.slice a l.length c).ownBlock=some k->p+1<=k:=ZG HO.o;have yA:=(hgrow.block p (by simp;have:=HP.o;omega) λe=>by have:=zA p e.symm;omega).trans eA;have aA:Below p w (w.alloc (.cells (ye code n nm) 34)):=zO.alloc (Nat.le_of_lt HP.o) _;have cA:=aA.grown hgrow (by simp;have:=HP.o;omega) (λk hk=>by have:=zA k hk;omega);obtain⟨a',c',rfl⟩:=Jv Q0;have b1:w'.cell? ⟨p,0,none⟩=some (.slice a l.length c):=Ja yA 0;have f1:w'.frozen? ⟨p,0,none⟩=false:=Jc yA 0
 have C0:Hi (BAt (w'.setCell ⟨p,0,none⟩ (.slice a' (l.length+1) c')) p (l++[⟨code,n,nm⟩])/\BFr p w (w'.setCell ⟨p,0,none⟩ (.slice a' (l.length+1) c'))):=by
  refine⟨⟨_,Jm yA 0 _,?_⟩,cA.setCell zq _,λk hk hkp EE=>?_,λk hk=>?_⟩;rotate_left
  ·rw[Vl HB.o]at EE;rw[heap_setCell_other _ _ _ _ zr];exact(hgrow.block k zr λe=>EE e.symm).trans (heap_alloc_old _ _ hk)
  ·rw[Vl (Jm yA 0 (.slice a' (l.length+1) c'))]at hk;rw[Vl HB.o];have uA:(Value.slice a' (l.length+1) c').ownBlock=some k:=hk
   rcases O0 with e|e
   ·exact .inl (e.symm.trans uA)
   ·rw[uA]at e;simp at e;exact .inr zo
  rw[List.length_append,Jif];exact Jfl Q0 zq _
 have wk:IntKind.i64.wrap (((l.length+1:Nat):Int)-1)=(l.length:Nat):=by rw[IntWalk.i64_in _ zo];omega
 have gA:IntKind.i64.wrap ((l.length:Int)+1-1)=(l.length:Nat):=by rw[IntWalk.i64_in _ zo];omega
 clear Q0 hgrow eA zA yA aA cA HO HP HB hi vA bA dA b0;go_wp2;rw[HR.o];exact⟨rfl,C0.o⟩
def Jfm:∀(l:List OpM)(j:Nat)(o:OpM)(z:Int),l[j]?=some o->Qfd (l.set j {o with n:=z})=(Qfd l).set (j*3+1) (Iv z)
 |[],j,o,z,h=>by simp at h
 |a::l,0,o,z,h=>by
  simp at h;subst h;rfl
 |a::l,j+1,o,z,h=>by
  simp at h;have ih:=Jfm l j o z h
  show opC a++Qfd (l.set j {o with n:=z})=_
  rw[ih];rw[show (j+1)*3+1=(j*3+1)+1+1+1 by omega];rfl
def Jfn:∀(l:List OpM)(j:Nat)(o:OpM),l[j]?=some o->(Qfd l)[j*3]?=some (Iv o.code)/\(Qfd l)[j*3+1]?=some (Iv o.n)/\(Qfd l)[j*3+2]?=some (Sv o.name)
 |[],j,o,h=>by simp at h
 |a::l,0,o,h=>by
  simp at h;subst h;exact⟨rfl,rfl,rfl⟩
 |a::l,j+1,o,h=>by
  simp at h;have ih:=Jfn l j o h;rw[show (j+1)*3=(j*3)+1+1+1 by omega];exact ih
def Jfo{m c:Nat}{g:Addr}(h:w.ownsRow base e size (.slice (some g) m c) n xs)(hi:i<n*size)(u:Value):
  (w.setCell ⟨g.block,i,none⟩ u).ownsRow base e size (.slice (some g) m c) n (xs.set i u):=by
 refine⟨by rw[List.length_set];exact h.1,?_⟩
 rcases h.2 with⟨hn,_⟩|⟨b,cap,cur,hv,hb,hg,h1,h2,h3,h4⟩
 ·cases hn
 ·simp only[Value.slice.injEq,Option.some.injEq]at hv;obtain⟨rfl,rfl,rfl⟩:=hv;refine .inr ⟨b,c,cur.setIfInBounds i u,rfl,hb,?_,h1,h2,by simpa using h3,?_⟩
  ·exact Jm hg i u
  ·rw[<-h4];simp only[Array.toList_setIfInBounds];rw[List.take_set]
def YC{m c:Nat}{g:Addr}(h:w.ownsRow base e size (.slice (some g) m c) n xs){u:Value}(hi:xs[i]?=some u):g.off=0/\g.spot=none/\base<=g.block/\w.cell? ⟨g.block,i,none⟩=some u/\w.frozen? ⟨g.block,i,none⟩=false:=by
 rcases h.2 with⟨hn,_⟩|⟨b,cap,cur,hv,hb,hg,h1,h2,h3,h4⟩
 ·cases hn
 ·simp only[Value.slice.injEq,Option.some.injEq]at hv;obtain⟨rfl,rfl,rfl⟩:=hv;refine⟨rfl,rfl,hb,?_,Jc hg i⟩;rw[Ja hg i];rw[<-h4,List.getElem?_take]at hi;split at hi
  ·simpa using hi
  ·cases hi
def Qbe(w:World)(p:Nat)(l:List OpM)(e:Ending)(w':World):Prop:=e=.returned (.tuple #[])/\BAt w' p l/\BFr p w w'
def VD(w:World)(p:Nat)(l:List OpM)(j:Nat)(o:OpM)(h:BAt w p l)(hl:l.length<=1000000000000)(hj:l[j]?=some o):
  Calls prog 22 #[Pt p,Iv (j:Nat)] w (Qbe w p (l.set j {o with n:=(l.length:Nat)})):=by
 obtain⟨v,hb,xA⟩:=h;obtain⟨R,hR⟩:=yt (Qbe w p (l.set j {o with n:=(l.length:Nat)}))
 rw[hR];have HR:Hi (R=Qbe w p (l.set j {o with n:=(l.length:Nat)})):=hR.symm;obtain⟨a,c,rfl⟩:=Jv xA;have yA:=(List.getElem?_eq_some_iff.1 hj).1;have b0:w.cell? ⟨p,0,none⟩=some (.slice a l.length c):=Ja hb 0
 obtain⟨g,rfl⟩:∃g,a=some g:=by
  rcases xA.2 with⟨hn,h0⟩|⟨b,cap,cur,hv,_⟩
  ·omega
  ·simp only[Value.slice.injEq]at hv;exact⟨_,hv.1⟩
 obtain⟨g0,g1,g2,g3,g4⟩:=YC xA (Jfn l j o hj).2.1;obtain⟨gb,go,gt⟩:=g;simp only at g0 g1 g2 g3 g4;subst g0 g1;have k1:(j:Int)<(l.length:Int):=zo
 have C0:Hi (BAt (w.setCell ⟨gb,j*3+1,none⟩ (Iv (l.length:Nat))).drew p (l.set j {o with n:=(l.length:Nat)})/\BFr p w (w.setCell ⟨gb,j*3+1,none⟩ (Iv (l.length:Nat))).drew):=by
  refine⟨BAt.drew ⟨_,Ji hb zr _,?_⟩,BFr.drew ⟨zO.setCell zr _,λk hk hkp EE=>?_,λk hk=>?_⟩⟩;rotate_left
  ·rw[Vl hb]at EE;rw[heap_setCell_other _ _ _ _ (by intro e;exact EE (by simp at e;simp[Value.ownBlock,e]))]
  ·rw[Vl (Ji hb zr _)]at hk;rw[Vl hb];exact .inl hk
  rw[List.length_set,Jfm l j o _ hj];exact Jfo xA zo _
 clear hR hb xA hj;go_enter func22,ntmps22;go_region;go_wp2;go_end0;rw[HR.o];exact⟨rfl,C0.o⟩
mutual
def ArN:Exp->Prop
 |.mk k n s l=>(k=16\/k=17\/k=19->l.length=2)/\(k=18->l.length=3)/\l.length<=1000000000/\ArL l
def ArL:List Exp->Prop
 |[]=>True
 |a::l=>ArN a/\ArL l
end
def ArL.mem:∀{l:List Exp}{a:Exp},ArL l->a∈l->ArN a
 |x::l,a,h,hm=>by
  rw[ArL]at h
  rcases List.mem_cons.1 hm with rfl|hm
  ·exact h.1
  ·exact ArL.mem h.2 hm
def Jag(h:Bel w0 W)(hp:w0.heap.size<=p)(hf:BFr p W W'):Bel w0 W':=Below.trans h (hf.below.mono hp)
def ExB(w0:World)(p:Nat)(e:Exp):Prop:=∀(d:List Value)(l:List OpM)(W:World),QcC w0 e d->Bel w0 W->BAt W p l->l.length+(cE l.length e).length<=1000000000000->
 Calls prog 21 #[Pt p,.agg d.toArray] W (Qbe W p (l++cE l.length e))
def Jig:∀(l:List Exp)(q:Nat)(a:Exp),cL q (l++[a])=cL q l++cE (q+(cL q l).length) a
 |[],q,a=>by rw[List.nil_append,cL,cL,cL];simp
 |x::l,q,a=>by
  rw[List.cons_append,cL,cL,Jig l];simp[Nat.add_assoc]
def JaW:∀(l:List Exp)(q i:Nat),(cL q (l.take i)).length<=(cL q l).length
 |[],q,i=>by simp
 |x::l,q,0=>by simp[cL]
 |x::l,q,i+1=>by
  rw[List.take_succ_cons,cL,cL,length_append,length_append];have:=JaW l (q+(cE q x).length) i;omega
def JcL{α:Type}(x:List α)(o:α)(y:List α):(x++o::y)[x.length]?=some o:=zq
def JcM{α:Type}(x:List α)(o o':α)(y:List α):(x++o::y).set x.length o'=x++o'::y:=zq
structure BSt(w0 w:World)(p eb:Nat)(cs:Array Value)(l:List OpM)(W:World):Prop where
 at':BAt W p l
 fr:BFr p w W
 aside:QdA W p eb
 box:W.heap[eb]?=some (.cells cs 37 (0,0))
 bel:Bel w0 W
def BSt.next{eb:Nat}{cs:Array Value}{l':List OpM}(h:BSt w0 w p eb cs l W)(hp:w0.heap.size<=p)(ha:BAt W' p l')(hf:BFr p W W'):BSt w0 w p eb cs l' W':=
 ⟨ha,h.fr.trans hf,(h.aside.on hf).1,(h.aside.on hf).2.trans h.box,Jag h.bel hp hf⟩
def BSt.first{cs:Array Value}(h:BAt w p l)(hp:w0.heap.size<=p)(hb:Bel w0 w):BSt w0 w p w.heap.size cs l (w.alloc (.cells cs 37)):=
 ⟨h.up (zO.alloc (Nat.le_refl _) _),BFr.alloc h.lt _,QdA.new h _,zQ w _,Jag hb hp (BFr.alloc h.lt _)⟩
def QcW(q:Nat)(J v:Int)(a b:Exp):List OpM:=cE q a++⟨J,((q+(cE q a).length+(cE (q+(cE q a).length+1) b).length+2:Nat):Int),[]⟩::(cE (q+(cE q a).length+1) b ++
 [⟨16,((q+(cE q a).length+(cE (q+(cE q a).length+1) b).length+3:Nat):Int),[]⟩,⟨0,v,[]⟩])
def KG{b1 o1 xc:Nat}{xa:Option Addr}{x:Exp}(hc:∀W,Bel w0 W->∀j u,([Iv x.kind,Iv x.num,Sv x.name,.slice xa x.kids.length xc]:List Value)[j]?=some u->W.cell? ⟨b1,o1+i*4+j,none⟩=some u)(hW:Bel w0 W):
  W.cell? ⟨b1,o1+i*4,none⟩=some (Iv x.kind)/\W.cell? ⟨b1,o1+i*4+1,none⟩=some (Iv x.num)/\W.cell? ⟨b1,o1+i*4+2,none⟩=some (Sv x.name)/\W.cell? ⟨b1,o1+i*4+3,none⟩=some (.slice xa x.kids.length xc):=
 ⟨hc W hW 0 _ rfl,hc W hW 1 _ rfl,hc W hW 2 _ rfl,hc W hW 3 _ rfl⟩
def Jfp(k n:Int)(s:By)(a b:Exp)(J v:Int)(hp:w0.heap.size<=p)(ea:ExB w0 p a)(eb':ExB w0 p b)(d:List Value)(l:List OpM)(W:World)(hx:QcC w0 (.mk k n s [a,b]) d)(hb:Bel w0 W)(ha:BAt W p l)
  (hl:l.length+(QcW l.length J v a b).length<=1000000000000):Calls prog 51 #[Pt p,.agg d.toArray,Iv J,Iv v] W (Qbe W p (l++QcW l.length J v a b)):=by
 obtain⟨R,hR⟩:=yt (Qbe W p (l++QcW l.length J v a b))
 rw[hR];have HR:Hi (R=Qbe W p (l++QcW l.length J v a b)):=hR.symm;obtain⟨a1,c1,e1,g1⟩:=Qdy.kids hx;rw[e1];obtain⟨b1,o1,rfl,hk1⟩:=g1 zq;obtain⟨d0,bA,eA⟩:=hk1 0 a rfl;obtain⟨d1,T5,hc1⟩:=hk1 1 b rfl;have aA:=bA;have D5:=T5;obtain⟨jA,nA,rfl⟩:=bA.form;obtain⟨kA,mA,rfl⟩:=T5.form;have HS:=Zh (BSt.first (cs:=(yp k n s (.slice (some ⟨b1,o1,none⟩) [a,b].length c1))) ha hp hb);generalize hA:cE l.length a=A at*
 have Q7:(QcW l.length J v a b).length=A.length+(cE (l.length+A.length+1) b).length+3:=by
  unfold QcW;rw[hA];simp only[length_append,length_cons,length_nil];omega
 generalize hB:cE (l.length+A.length+1) b=B at*;rw[Q7]at hl;have HL:=Zh hl
 have HE:Hi (l++QcW l.length J v a b=(l++A)++(⟨J,((l.length+A.length+B.length+2:Nat):Int),[]⟩:OpM)::(B++[⟨16,((l.length+A.length+B.length+3:Nat):Int),[]⟩,⟨0,v,[]⟩])):=by
  unfold Hi QcW;rw[hA,hB];simp
 have HA:=Zh hA;have HB:=Zh hB;have gA:=Zh ea;have I9:=Zh eb';have H0:=Zh aA;have H1:=Zh D5;have iA:=Zh eA;have Q3:=Zh hc1;have HP:=Zh hp;clear hR hx hb ha bA T5 aA D5 eA hc1 hk1 g1 e1 hl Q7 hA hB ea eb' hp;go_enter func51,ntmps51;go_upto_region 1 with fail;generalize World.alloc W _=w1 at*;generalize W.heap.size=eb at*;obtain⟨x0,x1,x2,x3⟩:=Qao HS.o.box;have yA:=Zh HS.o.bel;obtain⟨k0,k1,k2,k3⟩:=KG iA.o yA.o;simp only[Nat.zero_mul,Nat.add_zero,Nat.one_mul]at k0 k1 k2 k3;go_wp2_with fail;refine(gA.o _ l w1 H0.o yA.o HS.o.at' (by rw[HA.o];have:=HL.o;omega)).mono ?_;rintro e w2 ⟨rfl,hat,O0⟩;rw[HA.o]at hat;replace HS:=Zh (HS.o.next HP.o hat O0);clear hat O0 k0 k1 k2 k3 x0 x1 x2 x3 yA;obtain⟨l1,dA⟩:=yt (l++A)
 have uA:l1.length=l.length+A.length:=by rw[<-dA,length_append]
 rw[dA]at HS HE;have zA:=Zh uA;clear dA uA;go_wp2_with fail;refine(JU w2 p l1 J 0 [] HS.o.at' (zv HL.o zA.o)).mono ?_;rintro e w3 ⟨rfl,hat,O0⟩;replace HS:=Zh (HS.o.next HP.o hat O0);clear hat O0;obtain⟨x0,x1,x2,x3⟩:=Qao HS.o.box;have yA:=Zh HS.o.bel;obtain⟨k0,k1,k2,k3⟩:=KG Q3.o yA.o;simp only[Nat.zero_mul,Nat.add_zero,Nat.one_mul]at k0 k1 k2 k3;have vA:(l1++[(⟨J,0,[]⟩:OpM)]).length=l.length+A.length+1:=by rw[length_append,zA.o];rfl
 have xA:=Zh vA;clear vA;go_wp2_with fail;refine(I9.o _ _ w3 H1.o yA.o HS.o.at' (by rw[xA.o,HB.o];have:=HL.o;omega)).mono ?_;rintro e w4 ⟨rfl,hat,O0⟩;rw[xA.o,HB.o]at hat;replace HS:=Zh (HS.o.next HP.o hat O0);clear hat O0 k0 k1 k2 k3 x0 x1 x2 x3 yA;go_wp2_with fail;refine(JU w4 p _ 16 0 [] HS.o.at' (by rw[length_append,xA.o];have:=HL.o;omega)).mono ?_;rintro e w5 ⟨rfl,hat,O0⟩;replace HS:=Zh (HS.o.next HP.o hat O0);have e1:l1++[(⟨J,0,[]⟩:OpM)]++B++[⟨16,0,[]⟩]=l1++(⟨J,0,[]⟩:OpM)::(B++[⟨16,0,[]⟩]):=zq;rw[e1]at HS;clear hat O0 e1;go_wp2_with fail;refine(VD w5 p _ l1.length ⟨J,0,[]⟩ HS.o.at' (by simp only[length_append,length_cons,length_nil,zA.o];have:=HL.o;omega) (JcL _ _ _)).mono ?_;rintro e w6 ⟨rfl,hat,O0⟩;rw[JcM]at hat;replace HS:=Zh (HS.o.next HP.o hat O0);clear hat O0;go_wp2_with fail;refine(JU w6 p _ 0 v [] HS.o.at' (by simp only[length_append,length_cons,length_nil,zA.o];have:=HL.o;omega)).mono ?_;rintro e w7 ⟨rfl,hat,O0⟩;replace HS:=Zh (HS.o.next HP.o hat O0);clear hat O0;obtain⟨Z,hZ⟩:=yt (((l1++(⟨J,0,[]⟩:OpM)::(B++[⟨16,0,[]⟩])).length:Nat))
 rw[hZ]at HS;have e2:l1++(⟨J,Z,[]⟩:OpM)::(B++[⟨16,0,[]⟩])++[⟨0,v,[]⟩]=(l1++(⟨J,Z,[]⟩:OpM)::B)++(⟨16,0,[]⟩:OpM)::[⟨0,v,[]⟩]:=zq;have cA:=Zh (e2 ▸ HS.o);have ej:((l1.length:Int)+((B.length:Int)+1))=(((l1++(⟨J,Z,[]⟩:OpM)::B).length:Nat):Int):=by simp only[length_append,length_cons];omega
 have c:=VD w7 p _ (l1++(⟨J,Z,[]⟩:OpM)::B).length ⟨16,0,[]⟩ cA.o.at' (by simp only[length_append,length_cons,length_nil,zA.o];have:=HL.o;omega) (JcL _ _ _);rw[<-ej,JcM]at c;have HZ:=Zh hZ;clear e2 ej hZ HS;go_wp2_with fail;refine c.mono ?_;rintro e w8 ⟨rfl,hat,O0⟩;have HS:=Zh (cA.o.next HP.o hat O0);clear hat O0 c cA
 have C0:Hi (BAt w8 p (l++QcW l.length J v a b)/\BFr p W w8):=by
  refine⟨?_,HS.o.fr⟩;rw[HE.o];have h:=HS.o.at';have hz:=HZ.o;simp only[length_append,length_cons,length_nil,zA.o]at h hz;have z1:Z=((l.length+A.length+B.length+2:Nat):Int):=zo;have z2:l.length+A.length+(B.length+1)+(0+1+1)=l.length+A.length+B.length+3:=zo;rw[z1,z2]at h;simpa using h
 clear HS HE HZ;go_wp2;go_end0;rw[HR.o];exact⟨rfl,C0.o⟩
def Jfq(k n:Int)(s:By)(es:List Exp)(hp:w0.heap.size<=p)(hel:∀a∈es,ExB w0 p a)(d:List Value)(l:List OpM)(W:World)(hx:QcC w0 (.mk k n s es) d)(hb:Bel w0 W)(ha:BAt W p l)
  (hl:l.length+(cL l.length es).length<=1000000000000) (PC:es.length<=1000000000):Calls prog 52 #[Pt p,.agg d.toArray] W (Qbe W p (l++cL l.length es)):=by
 obtain⟨R,hR⟩:=yt (Qbe W p (l++cL l.length es))
 rw[hR];have HR:Hi (R=Qbe W p (l++cL l.length es)):=hR.symm;obtain⟨a1,c1,e1,g1⟩:=Qdy.kids hx;rw[e1];have xA:=Zh (BSt.first (cs:=(zg k n s a1 es.length c1)) ha hp hb);obtain⟨m,hm⟩:=yt es.length
 have HM:=Zh hm;have pG:Hi (m<=1000000000):=hm ▸ PC;have O5:=Zh g1;have U6:=Zh hel;have HL:=Zh hl;have HP:=Zh hp;rw[hm]at xA |-;clear hR hx hb ha e1 g1 hm hel hl hp PC;go_enter func52,ntmps52;go_upto_region 1 with fail;generalize World.alloc W _=w1 at*;generalize W.heap.size=eb at*;obtain⟨x0,x1,x2,x3⟩:=Qao xA.o.box;go_wp2_with fail;go_loopg [9] m λg v9 wr=>∃i:Nat,g+i=m/\v9=Iv (i:Int)/\Hi (BAt wr p (l++cL l.length (es.take i))/\BFr p W wr/\Bel w0 wr)
 case atStart=>exact⟨0,rfl,rfl,by rw[List.take_zero,cL,List.append_nil];exact xA.o.at',xA.o.fr,xA.o.bel⟩
 case round=>
  clear xA x0 x1 x2 x3;obtain⟨wl,rfl⟩:=zJ wr;obtain⟨i,hg,rfl,A2⟩:=hrel;have HA:=Zh A2.o.1;have HF:=Zh A2.o.2.1;have HB:=Zh A2.o.2.2;clear A2
  by_cases hi:i<m
  ·have dil:decide ((i:Int)<(m:Int))=true:=zG zo;have diN:decide (i<m)=true:=zG hi;obtain⟨x,hx⟩:∃x,es[i]?=some x:=⟨_,List.getElem?_eq_getElem (by rw[HM.o];exact hi)⟩
   obtain⟨b1,o1,E7,hk1⟩:=O5.o (List.ne_nil_of_mem (List.mem_of_getElem? hx));subst E7;obtain⟨d1,T5,hc1⟩:=hk1 i x hx;have D5:=T5;obtain⟨xa,xc,rfl⟩:=T5.form;obtain⟨p0,p1,p2,p3⟩:=KG hc1 HB.o;have k0:0<=(i:Int):=zo;have k1:(i:Int)<(m:Int):=zo;have qG:=pG.o;have wk:IntKind.i64.wrap ((i:Int)+1)=((i+1:Nat):Int):=by rw[IntWalk.i64_in _ zo];omega
   have zA:cL l.length (es.take (i+1))=cL l.length (es.take i)++cE (l.length+(cL l.length (es.take i)).length) x:=by
    rw[List.take_add_one,hx,Option.toList_some,Jig]
   have uA:=JaW es l.length (i+1);rw[zA,length_append]at uA;have yA:(l++cL l.length (es.take i)).length=l.length+(cL l.length (es.take i)).length:=length_append;have bA:=Zh zA;have cc:=λW1 (hB:Bel w0 W1) (hA:BAt W1 p (l++cL l.length (es.take i)))=>U6.o x (List.mem_of_getElem? hx) _ _ W1 D5 hB hA (by rw[yA];have:=HL.o;omega)
   rw[yA]at cc;have CC:=Zh cc;have HG:Hi (gk+i=m/\i<m):=⟨hg,hi⟩
   clear hx hk1 T5 D5 hg hi hc1 cc qG zA uA yA;go_upto_region 4 with fail;have HY:=Zh (zQ wl (.cells (zg x.kind x.num x.name xa x.kids.length xc) 37));have cA:=Zh (HA.o.up (zO.alloc (Nat.le_refl _) (.cells (zg x.kind x.num x.name xa x.kids.length xc) 37)));have j8:=Zh (HF.o.trans (BFr.alloc HA.o.lt (.cells (zg x.kind x.num x.name xa x.kids.length xc) 37)));have T6:=Zh (Jag HB.o HP.o (BFr.alloc HA.o.lt (.cells (zg x.kind x.num x.name xa x.kids.length xc) 37)));clear p0 p1 p2 p3 HA HF HB;generalize World.alloc wl _=w5 at*;generalize wl.heap.size=yb at*;obtain⟨p0,p1,p2,p3⟩:=Qao HY.o;go_wp2_with fail;refine(CC.o w5 T6.o cA.o).mono ?_;rintro e w8 ⟨rfl,hat,O0⟩;rw[List.append_assoc,<-bA.o]at hat;have vA:=Zh hat;have aA:=Zh (j8.o.trans O0);have UE:=Zh (Jag T6.o HP.o O0);clear CC p0 p1 p2 p3 hat O0;go_wp2;go_roundg (m-(i+1))
   case measure=>have:=HG.o;omega
   case rel=>exact⟨i+1,by have:=HG.o;omega,rfl,vA.o,aA.o,UE.o⟩
  ·have dil:decide ((i:Int)<(m:Int))=false:=zH zo;have diN:decide (i<m)=false:=zH hi
   have C0:Hi (BAt wl p (l++cL l.length es)/\BFr p W wl):=by
    have h:=HA.o;rw[List.take_of_length_le (by rw[HM.o];omega)]at h;exact⟨h,HF.o⟩
   clear hi hg HA HF HB;go_wp2;go_end0;rw[HR.o];exact⟨rfl,C0.o⟩
end Go.Proofs.YtfafpklefknomaaGreatDoor



