import Derived.Test.YtfafpklefknomaaGreatDoorR29
import Derived.Test.YtfafpklefknomaaGreatDoorR13
import Derived.Test.YtfafpklefknomaaGreatDoorR27
import Derived.Test.YtfafpklefknomaaGreatDoorR28
open List(length_append length_cons length_nil)
namespace Go.Proofs.YtfafpklefknomaaGreatDoor
open _root_.Go.Proofs.Tryz
set_option linter.all false
set_option maxRecDepth 100000
set_option maxHeartbeats 32000000
def JaU(r:Qah):∀k,k<=r.funcs.length->∀a,a<bnd (Qac r) k->∃j,j<=k/\QcG (Qac r) j<=a/\a<bnd (Qac r) j
 |0,_,a,h=>⟨0,Nat.le_refl _,Nat.zero_le _,h⟩
 |k+1,hk,a,h=>by
  by_cases e:a<bnd (Qac r) k
  ·obtain⟨j,h1,h2⟩:=JaU r k zo a e;exact⟨j,by omega,h2⟩
  ·refine⟨k+1,Nat.le_refl _,?_,h⟩;unfold QcG;rw[if_neg zo,Nat.add_sub_cancel];omega
def Jfj(r:Qah):bnd (Qac r) r.funcs.length=(Qac r).ops.length:=by
 unfold bnd;rw[if_neg (by rw[(JL r).1];omega)]
def Jie(r:Qah){a:Nat}(h:a<(Qac r).ops.length):∃j,j<=r.funcs.length/\QcG (Qac r) j<=a/\a<bnd (Qac r) j:=
 JaU r _ (Nat.le_refl _) a (by rw[Jfj];exact h)
def JnJ{r:Qah}(hr:Qat r=true){k:Nat}(hk:k<=r.funcs.length):bnd (Qac r) k<=(Qac r).ops.length:=(VX hr k hk).2.1
def JaV{r:Qah}(hr:Qat r=true):QgM (Qac r):=by
 refine⟨λa o ho=>?_,λx hx=>?_⟩
 ·obtain⟨j,h1,h2,h3⟩:=Jie r (List.getElem?_eq_some_iff.1 ho).1;obtain⟨_,xA,_,dep,_,h5⟩:=VX hr j h1;obtain⟨o',g1,g2,_⟩:=h5 a h2 h3;rw[ho]at g1;obtain rfl:=Option.some.inj g1;refine⟨λe=>?_,λhj=>⟨(g2.nj hj).1,by have:=(g2.nj hj).2;omega⟩⟩;have:=g2.n0 e;unfold InR;omega
 ·obtain⟨i,hi⟩:=List.getElem?_of_mem hx;have hlt:=(List.getElem?_eq_some_iff.1 hi).1;rw[(JL r).1]at hlt;obtain⟨f,hf⟩:∃f,r.funcs[i]?=some f:=⟨_,List.getElem?_eq_getElem hlt⟩
  obtain⟨q,g1,g2,g3,g4,g5⟩:=Jeg r hf;rw[hi]at g1;obtain rfl:=Option.some.inj g1;have:=JnJ hr (k:=i+1) zo;rw[g4]at this;omega
mutual
def JbK{pa:List Nat}:∀(e:Exp) (vars Qag:Nat),QaK pa vars Qag e=true->QaD e<=((vars+Qag:Nat):Int)
 |.mk k n s l,vars,Qag,hf=>by
  obtain⟨h1,hfi,har,hk⟩:=JI hf;rw[QaD];have hl:=Jfk l vars (Qag-1) k 0 hk
  by_cases e:k=19
  ·unfold Qam at hfi;simp[e]at hfi;rw[if_pos e];have:=hfi.1;omega
  ·rw[if_neg e];omega
def Jfk{pa:List Nat}:∀(l:List Exp) (vars Qag:Nat) (k:Int) (i:Nat),QaB pa vars Qag k i l=true->QbG l<=((vars+1+Qag:Nat):Int)
 |[],vars,Qag,k,i,hf=>by rw[QbG];omega
 |a::l,vars,Qag,k,i,hf=>by
  rw[QaB]at hf;simp only[Bool.and_eq_true]at hf;rw[QbG];have h2:=Jfk l vars Qag k (i+1) hf.2;have h1:=JbK a _ Qag hf.1;have h3:((if k=19/\i=1 then vars+1 else vars)+Qag:Nat)<=vars+1+Qag:=by split<;>omega
  omega
end
theorem QiI{P:Prop}(h:P:=by
  have h1:=V2 a p;have h2:=V2 b (p+(cE p a).length+1);simp only[utL,Ju,JG,List.length_cons,List.length_nil,List.length_append]
  omega):P:=h
mutual
def V2:∀(e:Exp) (p:Nat),(cE p e).length<=4*siz (utN e)
 |.mk k n s l,p=>by
  rw[utN,JD,Qcr];have hl:=Jll l p
  repeat' split
  all_goals try (simp only[length_cons,List.length_nil,length_append];omega)
  ·rename_i a b;exact QiI
  ·rename_i a b;exact QiI
  ·rename_i x a b;have h1:=V2 x p;have h2:=V2 a (p+(cE p x).length+1);have h3:=V2 b (p+(cE p x).length+(cE (p+(cE p x).length+1) a).length+2);simp only[utL,Ju,JG,length_cons,List.length_nil,length_append];omega
  ·rename_i a b;exact QiI
def Jll:∀(l:List Exp) (p:Nat),(cL p l).length<=4*Qbd (utL l)
 |[],p=>by rw[cL];simp
 |a::l,p=>by
  rw[cL,utL,Ju,length_append];have h1:=V2 a p;have h2:=Jll l (p+(cE p a).length);omega
end
theorem Qht{P:Prop}(h:P:=by
  have h4:(l.length+1)*(4*B+3)=l.length*(4*B+3)+(4*B+3):=Nat.succ_mul _ _;simp only[List.length_cons,List.length_append]
  omega):P:=h
def Jlm{B:Nat}:∀(l:List ClM) (p:Nat),(∀x∈l,siz (utN x.cond)<=B)->(cC p l).length<=l.length*(4*B+3)
 |[],p,h=>by rw[cC];simp
 |x::l,p,h=>by
  rw[cC];have h1:=V2 x.cond (p+1);have h2:=h x zq;have h3:=Jlm l (p+(cE (p+1) x.cond).length+3) (λy hy=>h y (by simp[hy]));exact Qht
def Jln{B:Nat}:∀(l:List FnM) (p:Nat),(∀x∈l,siz (utN x.body)<=B)->(cF p l).length<=l.length*(4*B+3)
 |[],p,h=>by rw[cF];simp
 |x::l,p,h=>by
  rw[cF];have h1:=V2 x.body p;have h2:=h x zq;have h3:=Jln l (p+(cE p x.body).length+1) (λy hy=>h y (by simp[hy]));exact Qht
def Jeh{r:Qah}{A B:Nat}(hf:r.funcs.length<=A)(hc:r.clauses.length<=A)(h1:∀f∈r.funcs,siz (utN f.body)<=B)(h2:∀c∈r.clauses,siz (utN c.cond)<=B):(Qac r).ops.length<=2*(A*(4*B+3))+1:=by
 rw[(JL r).2.2.2];have a1:=Jlm r.clauses 0 h2;have a2:=Jln r.funcs ((cC 0 r.clauses).length+1) h1;have b1:r.clauses.length*(4*B+3)<=A*(4*B+3):=Nat.mul_le_mul_right _ hc;have b2:r.funcs.length*(4*B+3)<=A*(4*B+3):=Nat.mul_le_mul_right _ hf;omega
open Go Go.ChangeShapes Go.WideShapes Go.ChangeAt Go.RowKit Go.Lib
def QfJ(W:World)(p:Nat)(l:List Int)(ad:Option Addr):Prop:=∀(i:Nat) (x:Int),l[i]?=some x->∃b o,ad=some ⟨b,o,none⟩/\∀W',Below p W W'->W'.cell? ⟨b,o+i,none⟩=some (Iv x)
def OpG(W:World)(p:Nat)(l:List OpM)(ad:Option Addr):Prop:=∀(i:Nat) (x:OpM),l[i]?=some x->∃b o,ad=some ⟨b,o,none⟩/\∀W',Below p W W'->W'.cell? ⟨b,o+i*3,none⟩=some (Iv x.code)/\W'.cell? ⟨b,o+i*3+1,none⟩=some (Iv x.n)/\W'.cell? ⟨b,o+i*3+2,none⟩=some (.string (bs x.name))
def QbX.g{W:World}{p:Nat}{v:Value}{l:List Int}(h:QbX W p v l):∃ad cc,v=.slice ad l.length cc/\QfJ W p l ad:=by
 obtain⟨ad,cc,h1,_,h3⟩:=h.get;refine⟨ad,cc,h1,λi x hi=>?_⟩;obtain⟨b,o,g1,g2,g3⟩:=h3 i x hi;exact⟨b,o,g1,λW' hW=>(World.cell?_of_block (a:=⟨b,o+i,none⟩) (hW.block _ g2)).trans g3⟩
def Qgc.g{W:World}{p:Nat}{v:Value}{l:List OpM}(h:Qgc W p v l):∃ad cc,v=.slice ad l.length cc/\OpG W p l ad:=by
 obtain⟨ad,cc,h1,_,h3⟩:=h.get;refine⟨ad,cc,h1,λi x hi=>?_⟩;obtain⟨b,o,g1,g2,g3,g4,g5⟩:=h3 i x hi;exact⟨b,o,g1,λW' hW=>⟨(World.cell?_of_block (a:=⟨b,o+i*3,none⟩) (hW.block _ g2)).trans g3,(World.cell?_of_block (a:=⟨b,o+i*3+1,none⟩) (hW.block _ g2)).trans g4,(World.cell?_of_block (a:=⟨b,o+i*3+2,none⟩) (hW.block _ g2)).trans g5⟩⟩
def CV(W:World)(p:Nat)(c:Qaf)(d:Array Value):Prop:=∃v0 v1 v2 v3,d=#[v0,v1,v2,v3]/\Qgc W p v0 c.ops/\QbX W p v1 c.starts/\QbX W p v2 c.params/\QbX W p v3 c.slots
def CV.up{W W':World}{p:Nat}{c:Qaf}{d:Array Value}(h:CV W p c d)(hb:Below p W W'):CV W' p c d:=by
 obtain⟨v0,v1,v2,v3,h0,h1,h2,h3,h4⟩:=h;exact⟨v0,v1,v2,v3,h0,h1.up hb,h2.up hb,h3.up hb,h4.up hb⟩
def CV.g{W:World}{p:Nat}{c:Qaf}{d:Array Value}(h:CV W p c d):∃a0 c0 a1 c1 a2 c2 a3 c3,d=#[.slice a0 c.ops.length c0,.slice a1 c.starts.length c1,.slice a2 c.params.length c2,.slice a3 c.slots.length c3]/\OpG W p c.ops a0/\QfJ W p c.starts a1/\QfJ W p c.params a2/\QfJ W p c.slots a3:=by
 obtain⟨v0,v1,v2,v3,h0,h1,h2,h3,h4⟩:=h;obtain⟨a0,c0,rfl,g0⟩:=h1.g;obtain⟨a1,c1,rfl,g1⟩:=h2.g;obtain⟨a2,c2,rfl,g2⟩:=h3.g;obtain⟨a3,c3,rfl,g3⟩:=h4.g;exact⟨a0,c0,a1,c1,a2,c2,a3,c3,h0,g0,g1,g2,g3⟩
theorem QfD{P:Prop}(h:P:=by
  go_enter func100,ntmps100;go_wp2;go_ret
  exact⟨rfl,rfl⟩):P:=h
def Jgf(s:By)(w:World)(hs:(QaU s).isSome=true):Calls prog 100 #[Sv s] w (λe w'=>e=.returned (.bool true)/\w'=w):=by
 have u1:=Jj s
 by_cases h0:s=Qco
 ·have e0:(s==[108,105,107,101,115])=true:=zN h0;clear h0 hs;exact QfD
 have e0:(s==[108,105,107,101,115])=false:=zM h0
 by_cases h1:s=Qch
 ·have e1:(s==[98,111,111,115,116,115])=true:=zN h1;clear h0 h1 hs;exact QfD
 have e1:(s==[98,111,111,115,116,115])=false:=zM h1
 by_cases h2:s=QbD
 ·have e2:(s==[114,101,112,108,105,101,115])=true:=zN h2;clear h0 h1 h2 hs;exact QfD
 have e2:(s==[114,101,112,108,105,101,115])=false:=zM h2
 by_cases h3:s=QbC
 ·have e3:(s==[114,101,112,111,114,116,115])=true:=zN h3;clear h0 h1 h2 h3 hs;exact QfD
 have e3:(s==[114,101,112,111,114,116,115])=false:=zM h3
 by_cases h4:s=QfI
 ·have e4:(s==[97,103,101])=true:=zN h4;clear h0 h1 h2 h3 h4 hs;exact QfD
 have e4:(s==[97,103,101])=false:=zM h4
 by_cases h5:s=QdQ
 ·have e5:(s==[104,111,109,101])=true:=zN h5;clear h0 h1 h2 h3 h4 h5 hs;exact QfD
 have e5:(s==[104,111,109,101])=false:=zM h5
 by_cases h6:s=QcS
 ·have e6:(s==[115,99,111,112,101])=true:=zN h6;clear h0 h1 h2 h3 h4 h5 h6 hs;exact QfD
 have e6:(s==[115,99,111,112,101])=false:=zM h6
 by_cases h7:s=Qcg
 ·have e7:(s==[108,101,110,103,116,104])=true:=zN h7;clear h0 h1 h2 h3 h4 h5 h6 h7 hs;exact QfD
 have e7:(s==[108,101,110,103,116,104])=false:=zM h7
 by_cases h8:s=QbE
 ·have e8:(s==[102,111,108,108,111,119,115])=true:=zN h8;clear h0 h1 h2 h3 h4 h5 h6 h7 h8 hs;exact QfD
 have e8:(s==[102,111,108,108,111,119,115])=false:=zM h8
 by_cases h9:s=Qep
 ·have e9:(s==[114,101,112,108,121])=true:=zN h9;clear h0 h1 h2 h3 h4 h5 h6 h7 h8 h9 hs;exact QfD
 have e9:(s==[114,101,112,108,121])=false:=zM h9
 exfalso
 unfold QaU at hs;simp[h0,h1,h2,h3,h4,h5,h6,h7,h8,h9]at hs
def Jgg(c:Qaf)(o:OpM)(p:Nat)(w:World)(hp:p<=w.heap.size)(d:Array Value)(h:CV w p c d)(hcode:0<=o.code/\o.code<=22)(hcall:o.code=19->0<=o.n/\o.n<(c.params.length:Int))(hl:c.params.length<=1000000000) :
  Calls prog 102 #[.agg d,.agg #[Iv o.code,Iv o.n,.string (bs o.name)]] w (Qbj w (.tuple #[Iv (QaA c o),Iv (Qbl o)])):=by
 obtain⟨a0,c0,a1,c1,a2,c2,a3,c3,rfl,g0,g1,g2,g3⟩:=h.g;obtain⟨n0,hn0⟩:∃n0,c.ops.length=n0:=⟨_,rfl⟩
 obtain⟨n1,hn1⟩:∃n1,c.starts.length=n1:=⟨_,rfl⟩
 obtain⟨n2,zA⟩:∃n2,c.params.length=n2:=⟨_,rfl⟩
 obtain⟨n3,vA⟩:∃n3,c.slots.length=n3:=⟨_,rfl⟩
 rw[hn0,hn1,zA,vA];rw[zA]at hcall hl;obtain⟨P,hP⟩:∃P,QaA c o=P:=⟨_,rfl⟩
 obtain⟨U,hU⟩:∃U,Qbl o=U:=⟨_,rfl⟩
 rw[hP,hU];obtain⟨R,hR⟩:∃R,Qbj w (.tuple #[Iv P,Iv U])=R:=⟨_,rfl⟩
 rw[hR];have HR:Hi (Qbj w (.tuple #[Iv P,Iv U])=R):=hR;clear hR;have HFIN:Hi (∀o1 o2,Below w.heap.size w ((w.alloc o1).alloc o2)):=λo1 o2=>Yc w o1 o2
 have hr:=Jaa w (.cells #[.slice a0 n0 c0,.slice a1 n1 c1,.slice a2 n2 c2,.slice a3 n3 c3] 31) (.cells #[Iv o.code,Iv o.n,.string (bs o.name)] 34);have HG2:=Zh g2;have yA:=Zh hr.1;have xA:=Zh hr.2;have dA:=Zh hp;clear h g0 g1 g2 g3 hr hp;obtain⟨kc,hkc⟩:∃kc,o.code=kc:=⟨_,rfl⟩
 have bA:kc=0\/kc=1\/kc=2\/kc=3\/kc=4\/kc=5\/kc=6\/kc=7\/kc=8\/kc=9\/kc=10\/kc=11\/kc=12\/kc=13\/kc=14\/kc=15\/kc=16\/kc=17\/kc=18\/kc=20\/kc=21\/kc=22\/kc=19:=zo;unfold QaA at hP;unfold Qbl at hU;rw[hkc]at hP hU hcall yA xA |-;clear hcode
 rcases bA with rfl|rfl|rfl|rfl|rfl|rfl|rfl|rfl|rfl|rfl|rfl|rfl|rfl|rfl|rfl|rfl|rfl|rfl|rfl|rfl|rfl|rfl|rfl
 rotate_right
 ·obtain⟨cA,aA⟩:=hcall rfl;obtain⟨j,hj⟩:∃j:Nat,o.n=(j:Int):=⟨o.n.toNat,by omega⟩
  have hx:c.params[j]?=some (c.params.getD j 0):=by rw[List.getD_eq_getElem?_getD,List.getElem?_eq_getElem zo];rfl
  obtain⟨b,of,rfl,hcl⟩:=HG2.o j _ hx;simp at hP hU;rw[hj]at hP yA xA |-;simp only[Int.toNat_natCast]at hP;rw[<- List.getD_eq_getElem?_getD]at hP;rw[hP]at hcl;subst hU;have eA:(j:Int)<(n2:Int):=zo;have q0:=hcl _ ((HFIN.o (.cells #[.slice a0 n0 c0,.slice a1 n1 c1,.slice (some ⟨b,of,none⟩) n2 c2,.slice a3 n3 c3] 31) (.cells #[Iv 19,Iv (j:Int),.string (bs o.name)] 34)).mono dA.o);obtain⟨x0,x1,x2,x3⟩:=Qao yA.o;obtain⟨y0,y1,y2⟩:=Qay xA.o;have uA:Qbj w (.tuple #[Iv P,Iv 1]) (.returned (.tuple #[Iv P,Iv 1])) _:=⟨rfl,HFIN.o (.cells #[.slice a0 n0 c0,.slice a1 n1 c1,.slice (some ⟨b,of,none⟩) n2 c2,.slice a3 n3 c3] 31) (.cells #[Iv 19,Iv (j:Int),.string (bs o.name)] 34)⟩
  rw[HR.o]at uA;have HF:=Zh uA;clear HR uA;clear hP hx hcl hj cA aA hkc hcall HFIN yA xA hl hn0 hn1 zA vA;go_enter func102,ntmps102;go_upto_region 1 with fail
  try simp only[World.size_alloc]
  generalize (World.alloc (World.alloc w _) _)=w2 at *;generalize w.heap.size+1=ob at *;generalize w.heap.size=cb at *;go_wp2;exact HF.o
 all_goals
  simp at hP hU;subst hP;subst hU;obtain⟨y0,y1,y2⟩:=Qay xA.o;have HF:=Zh (HFIN.o (.cells #[.slice a0 n0 c0,.slice a1 n1 c1,.slice a2 n2 c2,.slice a3 n3 c3] 31));clear hkc hcall HFIN yA xA hl hn0 hn1 zA vA;go_enter func102,ntmps102;go_wp2;rw[<- HR.o];exact⟨rfl,HF.o _⟩
def opC(o:OpM):List Value:=[Iv o.code,Iv o.n,.string (bs o.name)]
def Qfd(l:List OpM):List Value:=l.flatMap opC
def Jif(l:List OpM)(o:OpM):Qfd (l++[o])=Qfd l++opC o:=by unfold Qfd;rw[List.flatMap_append];simp
def Qii:(prog.info? 34).map (λi=>(i.zero,i.size,i.bytes))=some (some (.agg #[Iv 0,Iv 0,Em]),3,32):=zk
def BAt(w:World)(p:Nat)(l:List OpM):Prop:=∃v,w.heap[p]?=some (.cells #[v] 65 (0,0))/\w.ownsRow (p+1) 34 3 v l.length (Qfd l)
def Jfl{w:World}{base e size n:Nat}{v:Value}{xs:List Value}(h:w.ownsRow base e size v n xs){p:Addr}(hp:p.block<base)(u:Value):(w.setCell p u).ownsRow base e size v n xs:=by
 refine⟨h.1,?_⟩
 rcases h.2 with hn|⟨g,cap,cur,rfl,hb,hg,rest⟩
 ·exact .inl hn
 ·exact .inr ⟨g,cap,cur,rfl,hb,Ji hg zo u,rest⟩
def QfG(w:World)(p:Nat):Option Nat:=match w.heap[p]? with|some (.cells #[v] _ _)=>v.ownBlock|_=>none
def Vl{w:World}{p t:Nat}{v:Value}{fr:Nat × Nat}(h:w.heap[p]?=some (.cells #[v] t fr)):QfG w p=v.ownBlock:=by unfold QfG;rw[h];rfl
structure BFr(p:Nat)(w w':World):Prop where
 below:Below p w w'
 keep:∀k,k<w.heap.size->k≠p->QfG w p≠some k->w'.heap[k]?=w.heap[k]?
 row:∀k,QfG w' p=some k->QfG w p=some k\/w.heap.size<=k
def BFr.refl(p:Nat)(w:World):BFr p w w:=⟨zO,λ_ _ _ _=>rfl,λ_ h=>.inl h⟩
def BFr.trans{p:Nat}{w w1 w2:World}(h:BFr p w w1)(k:BFr p w1 w2):BFr p w w2:=
 ⟨h.below.trans k.below,λj hj hp hr=>(k.keep j (Nat.lt_of_lt_of_le hj h.below.size) hp λe=>by rcases h.row j e with e|e;exact hr e;omega).trans (h.keep j hj hp hr),λj hj=>by
  have hs:=h.below.size
  rcases k.row j hj with e|e
  ·exact h.row j e
  ·exact .inr zo⟩
def BFr.alloc{p:Nat}{w:World}(hp:p<w.heap.size)(o:Obj):BFr p w (w.alloc o):=
 ⟨zO.alloc (Nat.le_of_lt hp) _,λj hj _ _=>heap_alloc_old _ _ hj,λj hj=>.inl (by unfold QfG at hj |-;rwa [heap_alloc_old _ _ hp]at hj)⟩
def BFr.drew{p:Nat}{w w1:World}(h:BFr p w w1):BFr p w w1.drew:=⟨h.below.drew,h.keep,h.row⟩
def BAt.lt{w:World}{p:Nat}{l:List OpM}(h:BAt w p l):p<w.heap.size:=by
 obtain⟨v,hb,_⟩:=h;exact Jb hb
def BAt.up{w W:World}{p:Nat}{l:List OpM}(h:BAt w p l)(hb:Below w.heap.size w W):BAt W p l:=by
 obtain⟨v,h1,h2⟩:=h;exact⟨v,(hb.block _ (Jb h1)).trans h1,JX h2 hb⟩
def QdA(w:World)(p k:Nat):Prop:=k<w.heap.size/\k≠p/\QfG w p≠some k
def QdA.on{p k:Nat}{w w1:World}(h:QdA w p k)(hf:BFr p w w1):QdA w1 p k/\w1.heap[k]?=w.heap[k]?:=
 ⟨⟨Nat.lt_of_lt_of_le h.1 hf.below.size,h.2.1,λe=>by rcases hf.row k e with e|e;exact h.2.2 e;have:=h.1;omega⟩,hf.keep k h.1 h.2.1 h.2.2⟩
def QdA.new{w:World}{p:Nat}{l:List OpM}(h:BAt w p l)(o:Obj):QdA (w.alloc o) p w.heap.size:=by
 have hp:=h.lt;obtain⟨v,h1,h2⟩:=h;refine⟨by simp,by omega,λe=>?_⟩;have:=Vl (w:=w.alloc o) (by rw[heap_alloc_old _ _ hp];exact h1);rw[this]at e
 rcases h2.2 with⟨rfl,_⟩|⟨g,cap,cur,rfl,_,hg,_⟩
 ·simp[Value.ownBlock]at e
 ·simp[Value.ownBlock]at e;have:=Jb hg;omega
def Ka{P:Program}{ops:Array Oper}{rest:List Oper}{o:Oper}{a:Act}{Q:Exit->Act->World->Prop}(w:World)(hgd:o.guard=none)(s x:Operand)(t:TypeId)
  (ho:o.op=.call { callee:=.builtin .append,args:=#[s,x],argTypes:=#[t,t] })
  (base:Nat) (e:TypeId) (i:TypeInfo) (z:Value) (size bytes:Nat) (ht:P.underlying t=some (.slice e)) (hi:P.info? e=some i) (hz:i.zero=some z)
  (hsize:i.size=size) (hby:i.bytes=bytes) (hzs:z.cells.size=size) (hsz:0<size)
  (v:Value) (n:Nat) (xs:List Value) (hs:a.eval s=v) (hown:w.ownsRow base e size v n xs)
  (ad:Addr) (m c:Nat) (news:List Value) (hx:a.eval x=.slice (some ad) m c) (hl:news.length=m*size) (hnews:∀j u,news[j]?=some u->w.cell? (ad.add j)=some u) (h1:∀u∈news,u.oneCell'=true)
  (h0:0<m) (h63:n+m<=maxLen) (hbytes:(n+m)*bytes<=140737488355328) (hbase:base<=w.heap.size)
  (h:∀v' w',w'.ownsRow base e size v' (n+m) (xs++news)->w.grownBy w' v.ownBlock->(v'.ownBlock=v.ownBlock\/v'.ownBlock=some w.heap.size)->wpList P ops Q rest (a.put o.dst v') w'):wpList P ops Q (o::rest) a w:=by
 refine wpList_plain hgd λK hK=>?_
 obtain⟨v',w',hr,h2,h3,h4⟩:=KI (P:=P) w base t o.type e i z size bytes ht hi hz hsize hby hzs hsz v n xs hown ad m c news hl hnews h1 h0 h63 hbytes hbase;unfold Oper.wp execOp;simp only[ho,resolve,invoke,builtin,Sem.run_bind,Sem.run_pure,Result.andThen_ok,List.map_toArray,List.map_cons,List.map_nil,hs,hx,hr];exact hK _ _ (h v' w' h2 h3 h4)
def BAt.drew{w:World}{p:Nat}{l:List OpM}(h:BAt w p l):BAt w.drew p l:=h
def Qjn(w:World)(p:Nat)(l:List OpM)(r:Value)(e:Ending)(w':World):Prop:=e=.returned r/\BAt w' p l/\BFr p w w'
def JU(w:World)(p:Nat)(l:List OpM)(code n:Int)(nm:By)(h:BAt w p l)(hl:l.length<=1000000000000) :
  Calls prog 20 #[Pt p,Iv code,Iv n,Sv nm] w (Qjn w p (l++[⟨code,n,nm⟩]) (Iv (l.length:Nat))):=by
 obtain⟨v,hb,xA⟩:=h;obtain⟨R,hR⟩:∃R,Qjn w p (l++[⟨code,n,nm⟩]) (Iv (l.length:Nat))=R:=⟨_,rfl⟩
 rw[hR];have HR:Hi (R=Qjn w p (l++[⟨code,n,nm⟩]) (Iv (l.length:Nat))):=hR.symm;obtain⟨i0,hi,vA,bA,dA⟩:=info_parts Qii;have hp:=Jb hb;obtain⟨a,c,rfl⟩:=Jv xA;have b0:w.cell? ⟨p,0,none⟩=some (.slice a l.length c):=Ja hb 0;have HB:=Zh hb;have HO:=Zh xA;have HP:=Zh hp;have HL:=Zh hl;clear hR hb xA hp;go_enter func20,ntmps20;go_wp2_with (at_builtin;go_loud (refine Ka _ rfl _ _ 28 rfl (p+1) 34 i0 (.agg #[Iv 0,Iv 0,Em]) 3 32 underlying28 hi vA bA dA rfl zp _ _ _ rfl (HO.o.alloc _) ⟨w.heap.size,0,none⟩ 1 1 [Iv code,Iv n,Sv nm] rfl rfl ?d1 ?d2 zp ?d3 ?d4 ?d5 ?d6))
 case d1=>
  intro j u hj;rw[Kw];simpa using hj
 case d2=>intro u hu;simp at hu;rcases hu with rfl|rfl|rfl<;>rfl
 case d3=>unfold maxLen;have:=HL.o;omega
 case d4=>have:=HL.o;omega
 case d5=>simp;have:=HP.o;omega
 intro v' w' hown' hgrow hfr;have eA:(w.alloc (.cells #[Iv code,Iv n,Sv nm] 34)).heap[p]?=some (.cells #[.slice a l.length c] 65 (0,0)):=by rw[heap_alloc_old _ _ HP.o];exact HB.o
 have zA:∀k,(Value.slice a l.length c).ownBlock=some k->p+1<=k:=ZG HO.o;have yA:=(hgrow.block p (by simp;have:=HP.o;omega) λe=>by have:=zA p e.symm;omega).trans eA;have aA:Below p w (w.alloc (.cells #[Iv code,Iv n,Sv nm] 34)):=zO.alloc (Nat.le_of_lt HP.o) _;have cA:=aA.grown hgrow (by simp;have:=HP.o;omega) (λk hk=>by have:=zA k hk;omega);obtain⟨a',c',rfl⟩:=Jv hown';have b1:w'.cell? ⟨p,0,none⟩=some (.slice a l.length c):=Ja yA 0;have f1:w'.frozen? ⟨p,0,none⟩=false:=Jc yA 0
 have HFIN:Hi (BAt (w'.setCell ⟨p,0,none⟩ (.slice a' (l.length+1) c')) p (l++[⟨code,n,nm⟩])/\BFr p w (w'.setCell ⟨p,0,none⟩ (.slice a' (l.length+1) c'))):=by
  refine⟨⟨_,Jm yA 0 _,?_⟩,cA.setCell zq _,λk hk hkp hkr=>?_,λk hk=>?_⟩;rotate_left
  ·rw[Vl HB.o]at hkr;rw[heap_setCell_other _ _ _ _ zr];exact(hgrow.block k zr λe=>hkr e.symm).trans (heap_alloc_old _ _ hk)
  ·rw[Vl (Jm yA 0 (.slice a' (l.length+1) c'))]at hk;rw[Vl HB.o];have uA:(Value.slice a' (l.length+1) c').ownBlock=some k:=hk
   rcases hfr with e|e
   ·exact .inl (e.symm.trans uA)
   ·rw[uA]at e;simp at e;exact .inr zo
  rw[List.length_append,Jif];exact Jfl hown' zq _
 have wk:IntKind.i64.wrap (((l.length+1:Nat):Int)-1)=(l.length:Nat):=by rw[IntWalk.i64_in _ zo];omega
 have gA:IntKind.i64.wrap ((l.length:Int)+1-1)=(l.length:Nat):=by rw[IntWalk.i64_in _ zo];omega
 clear hown' hgrow eA zA yA aA cA HO HP HB hi vA bA dA b0;go_wp2;rw[HR.o];exact⟨rfl,HFIN.o⟩
def Jfm:∀(l:List OpM) (j:Nat) (o:OpM) (z:Int),l[j]?=some o->Qfd (l.set j { o with n:=z })=(Qfd l).set (j*3+1) (Iv z)
 |[],j,o,z,h=>by simp at h
 |a::l,0,o,z,h=>by
  simp at h;subst h;rfl
 |a::l,j+1,o,z,h=>by
  simp at h;have ih:=Jfm l j o z h
  show opC a++Qfd (l.set j { o with n:=z })=_
  rw[ih];rw[show (j+1)*3+1=(j*3+1)+1+1+1 by omega];rfl
def Jfn:∀(l:List OpM) (j:Nat) (o:OpM),l[j]?=some o->(Qfd l)[j*3]?=some (Iv o.code)/\(Qfd l)[j*3+1]?=some (Iv o.n)/\(Qfd l)[j*3+2]?=some (.string (bs o.name))
 |[],j,o,h=>by simp at h
 |a::l,0,o,h=>by
  simp at h;subst h;exact⟨rfl,rfl,rfl⟩
 |a::l,j+1,o,h=>by
  simp at h;have ih:=Jfn l j o h;rw[show (j+1)*3=(j*3)+1+1+1 by omega];exact ih
def Jfo{w:World}{base e size n m c:Nat}{g:Addr}{xs:List Value}(h:w.ownsRow base e size (.slice (some g) m c) n xs){i:Nat}(hi:i<n*size)(u:Value) :
  (w.setCell ⟨g.block,i,none⟩ u).ownsRow base e size (.slice (some g) m c) n (xs.set i u):=by
 refine⟨by rw[List.length_set];exact h.1,?_⟩
 rcases h.2 with⟨hn,_⟩|⟨b,cap,cur,hv,hb,hg,h1,h2,h3,h4⟩
 ·cases hn
 ·simp only[Value.slice.injEq,Option.some.injEq]at hv;obtain⟨rfl,rfl,rfl⟩:=hv;refine .inr ⟨b,c,cur.setIfInBounds i u,rfl,hb,?_,h1,h2,by simpa using h3,?_⟩
  ·exact Jm hg i u
  ·rw[<- h4];simp only[Array.toList_setIfInBounds];rw[List.take_set]
def YC{w:World}{base e size n m c:Nat}{g:Addr}{xs:List Value}(h:w.ownsRow base e size (.slice (some g) m c) n xs){i:Nat}{u:Value}(hi:xs[i]?=some u):g.off=0/\g.spot=none/\base<=g.block/\w.cell? ⟨g.block,i,none⟩=some u/\w.frozen? ⟨g.block,i,none⟩=false:=by
 rcases h.2 with⟨hn,_⟩|⟨b,cap,cur,hv,hb,hg,h1,h2,h3,h4⟩
 ·cases hn
 ·simp only[Value.slice.injEq,Option.some.injEq]at hv;obtain⟨rfl,rfl,rfl⟩:=hv;refine⟨rfl,rfl,hb,?_,Jc hg i⟩;rw[Ja hg i];rw[<- h4,List.getElem?_take]at hi;split at hi
  ·simpa using hi
  ·cases hi
def Qbe(w:World)(p:Nat)(l:List OpM)(e:Ending)(w':World):Prop:=e=.returned (.tuple #[])/\BAt w' p l/\BFr p w w'
def VD(w:World)(p:Nat)(l:List OpM)(j:Nat)(o:OpM)(h:BAt w p l)(hl:l.length<=1000000000000)(hj:l[j]?=some o) :
  Calls prog 22 #[Pt p,Iv (j:Nat)] w (Qbe w p (l.set j { o with n:=(l.length:Nat) })):=by
 obtain⟨v,hb,xA⟩:=h;obtain⟨R,hR⟩:∃R,Qbe w p (l.set j { o with n:=(l.length:Nat) })=R:=⟨_,rfl⟩
 rw[hR];have HR:Hi (R=Qbe w p (l.set j { o with n:=(l.length:Nat) })):=hR.symm;obtain⟨a,c,rfl⟩:=Jv xA;have yA:=(List.getElem?_eq_some_iff.1 hj).1;have b0:w.cell? ⟨p,0,none⟩=some (.slice a l.length c):=Ja hb 0
 obtain⟨g,rfl⟩:∃g,a=some g:=by
  rcases xA.2 with⟨hn,h0⟩|⟨b,cap,cur,hv,_⟩
  ·omega
  ·simp only[Value.slice.injEq]at hv;exact⟨_,hv.1⟩
 obtain⟨g0,g1,g2,g3,g4⟩:=YC xA (Jfn l j o hj).2.1;obtain⟨gb,go,gt⟩:=g;simp only at g0 g1 g2 g3 g4;subst g0 g1;have k1:(j:Int)<(l.length:Int):=zo
 have HFIN:Hi (BAt (w.setCell ⟨gb,j*3+1,none⟩ (Iv (l.length:Nat))).drew p (l.set j { o with n:=(l.length:Nat) })/\BFr p w (w.setCell ⟨gb,j*3+1,none⟩ (Iv (l.length:Nat))).drew):=by
  refine⟨BAt.drew ⟨_,Ji hb zr _,?_⟩,BFr.drew ⟨zO.setCell zr _,λk hk hkp hkr=>?_,λk hk=>?_⟩⟩;rotate_left
  ·rw[Vl hb]at hkr;rw[heap_setCell_other _ _ _ _ (by intro e;exact hkr (by simp at e;simp[Value.ownBlock,e]))]
  ·rw[Vl (Ji hb zr _)]at hk;rw[Vl hb];exact .inl hk
  rw[List.length_set,Jfm l j o _ hj];exact Jfo xA zo _
 clear hR hb xA hj;go_enter func22,ntmps22;go_region;go_wp2;go_end0;rw[HR.o];exact⟨rfl,HFIN.o⟩
mutual
def ArN:Exp->Prop
 |.mk k n s l=>(k=16\/k=17\/k=19->l.length=2)/\(k=18->l.length=3)/\l.length<=1000000000/\ArL l
def ArL:List Exp->Prop
 |[]=>True
 |a::l=>ArN a/\ArL l
end
def ArL.mem:∀{l:List Exp} {a:Exp},ArL l->a∈l->ArN a
 |x::l,a,h,hm=>by
  rw[ArL]at h
  rcases List.mem_cons.1 hm with rfl|hm
  ·exact h.1
  ·exact ArL.mem h.2 hm
def Jag{w0 W W':World}{p:Nat}(h:Bel w0 W)(hp:w0.heap.size<=p)(hf:BFr p W W'):Bel w0 W':=Below.trans h (hf.below.mono hp)
def ExB(w0:World)(p:Nat)(e:Exp):Prop:=∀(d:List Value) (l:List OpM) (W:World),QcC w0 e d->Bel w0 W->BAt W p l->l.length+(cE l.length e).length<=1000000000000->
 Calls prog 21 #[Pt p,.agg d.toArray] W (Qbe W p (l++cE l.length e))
def Jig:∀(l:List Exp) (q:Nat) (a:Exp),cL q (l++[a])=cL q l++cE (q+(cL q l).length) a
 |[],q,a=>by rw[List.nil_append,cL,cL,cL];simp
 |x::l,q,a=>by
  rw[List.cons_append,cL,cL,Jig l];simp[Nat.add_assoc]
def JaW:∀(l:List Exp) (q i:Nat),(cL q (l.take i)).length<=(cL q l).length
 |[],q,i=>by simp
 |x::l,q,0=>by simp[cL]
 |x::l,q,i+1=>by
  rw[List.take_succ_cons,cL,cL,length_append,length_append];have:=JaW l (q+(cE q x).length) i;omega
def JcL{α:Type}(x:List α)(o:α)(y:List α):(x++o::y)[x.length]?=some o:=zq
def JcM{α:Type}(x:List α)(o o':α)(y:List α):(x++o::y).set x.length o'=x++o'::y:=zq
structure BSt(w0 w:World)(p eb:Nat)(cs:Array Value)(l:List OpM)(W:World):Prop where
 at':BAt W p l
 fr:BFr p w W
 aside:QdA W p eb
 box:W.heap[eb]?=some (.cells cs 37 (0,0))
 bel:Bel w0 W
def BSt.next{w0 w W W':World}{p eb:Nat}{cs:Array Value}{l l':List OpM}(h:BSt w0 w p eb cs l W)(hp:w0.heap.size<=p)(ha:BAt W' p l')(hf:BFr p W W'):BSt w0 w p eb cs l' W':=
 ⟨ha,h.fr.trans hf,(h.aside.on hf).1,(h.aside.on hf).2.trans h.box,Jag h.bel hp hf⟩
def BSt.first{w0 w:World}{p:Nat}{cs:Array Value}{l:List OpM}(h:BAt w p l)(hp:w0.heap.size<=p)(hb:Bel w0 w):BSt w0 w p w.heap.size cs l (w.alloc (.cells cs 37)):=
 ⟨h.up (zO.alloc (Nat.le_refl _) _),BFr.alloc h.lt _,QdA.new h _,zQ w _,Jag hb hp (BFr.alloc h.lt _)⟩
def QcW(q:Nat)(J v:Int)(a b:Exp):List OpM:=cE q a++⟨J,((q+(cE q a).length+(cE (q+(cE q a).length+1) b).length+2:Nat):Int),[]⟩::(cE (q+(cE q a).length+1) b ++
 [⟨16,((q+(cE q a).length+(cE (q+(cE q a).length+1) b).length+3:Nat):Int),[]⟩,⟨0,v,[]⟩])
def KG{w0 W:World}{b1 o1 i xc:Nat}{xa:Option Addr}{x:Exp}(hc:∀W,Bel w0 W->∀j u,([Iv x.kind,Iv x.num,.string (bs x.name),.slice xa x.kids.length xc]:List Value)[j]?=some u->W.cell? ⟨b1,o1+i*4+j,none⟩=some u)(hW:Bel w0 W) :
  W.cell? ⟨b1,o1+i*4,none⟩=some (Iv x.kind)/\W.cell? ⟨b1,o1+i*4+1,none⟩=some (Iv x.num)/\W.cell? ⟨b1,o1+i*4+2,none⟩=some (.string (bs x.name))/\W.cell? ⟨b1,o1+i*4+3,none⟩=some (.slice xa x.kids.length xc):=
 ⟨hc W hW 0 _ rfl,hc W hW 1 _ rfl,hc W hW 2 _ rfl,hc W hW 3 _ rfl⟩
def Jfp{w0:World}{p:Nat}(k n:Int)(s:By)(a b:Exp)(J v:Int)(hp:w0.heap.size<=p)(ea:ExB w0 p a)(eb':ExB w0 p b)(d:List Value)(l:List OpM)(W:World)(hx:QcC w0 (.mk k n s [a,b]) d)(hb:Bel w0 W)(ha:BAt W p l)
  (hl:l.length+(QcW l.length J v a b).length<=1000000000000):Calls prog 51 #[Pt p,.agg d.toArray,Iv J,Iv v] W (Qbe W p (l++QcW l.length J v a b)):=by
 obtain⟨R,hR⟩:∃R,Qbe W p (l++QcW l.length J v a b)=R:=⟨_,rfl⟩
 rw[hR];have HR:Hi (R=Qbe W p (l++QcW l.length J v a b)):=hR.symm;obtain⟨a1,c1,e1,g1⟩:=Qdy.kids hx;rw[e1];obtain⟨b1,o1,rfl,hk1⟩:=g1 zq;obtain⟨d0,bA,eA⟩:=hk1 0 a rfl;obtain⟨d1,hr1,hc1⟩:=hk1 1 b rfl;have aA:=bA;have hr1f:=hr1;obtain⟨jA,nA,rfl⟩:=bA.form;obtain⟨kA,mA,rfl⟩:=hr1.form;have HS:=Zh (BSt.first (cs:=#[Iv k,Iv n,Sv s,.slice (some ⟨b1,o1,none⟩) [a,b].length c1]) ha hp hb);generalize hA:cE l.length a=A at *
 have hbl:(QcW l.length J v a b).length=A.length+(cE (l.length+A.length+1) b).length+3:=by
  unfold QcW;rw[hA];simp only[length_append,length_cons,length_nil];omega
 generalize hB:cE (l.length+A.length+1) b=B at *;rw[hbl]at hl;have HL:=Zh hl
 have HE:Hi (l++QcW l.length J v a b=(l++A)++(⟨J,((l.length+A.length+B.length+2:Nat):Int),[]⟩:OpM)::(B++[⟨16,((l.length+A.length+B.length+3:Nat):Int),[]⟩,⟨0,v,[]⟩])):=by
  unfold Hi QcW;rw[hA,hB];simp
 have HA:=Zh hA;have HB:=Zh hB;have gA:=Zh ea;have HEB:=Zh eb';have H0:=Zh aA;have H1:=Zh hr1f;have iA:=Zh eA;have HC1:=Zh hc1;have HP:=Zh hp;clear hR hx hb ha bA hr1 aA hr1f eA hc1 hk1 g1 e1 hl hbl hA hB ea eb' hp;go_enter func51,ntmps51;go_upto_region 1 with fail;generalize World.alloc W _=w1 at *;generalize W.heap.size=eb at *;obtain⟨x0,x1,x2,x3⟩:=Qao HS.o.box;have yA:=Zh HS.o.bel;obtain⟨k0,k1,k2,k3⟩:=KG iA.o yA.o;simp only[Nat.zero_mul,Nat.add_zero,Nat.one_mul]at k0 k1 k2 k3;go_wp2_with fail;refine(gA.o _ l w1 H0.o yA.o HS.o.at' (by rw[HA.o];have:=HL.o;omega)).mono ?_;rintro e w2 ⟨rfl,hat,hfr⟩;rw[HA.o]at hat;replace HS:=Zh (HS.o.next HP.o hat hfr);clear hat hfr k0 k1 k2 k3 x0 x1 x2 x3 yA;obtain⟨l1,dA⟩:∃l1,l++A=l1:=⟨_,rfl⟩
 have uA:l1.length=l.length+A.length:=by rw[<- dA,length_append]
 rw[dA]at HS HE;have zA:=Zh uA;clear dA uA;go_wp2_with fail;refine(JU w2 p l1 J 0 [] HS.o.at' (zv HL.o zA.o)).mono ?_;rintro e w3 ⟨rfl,hat,hfr⟩;replace HS:=Zh (HS.o.next HP.o hat hfr);clear hat hfr;obtain⟨x0,x1,x2,x3⟩:=Qao HS.o.box;have yA:=Zh HS.o.bel;obtain⟨k0,k1,k2,k3⟩:=KG HC1.o yA.o;simp only[Nat.zero_mul,Nat.add_zero,Nat.one_mul]at k0 k1 k2 k3;have vA:(l1++[(⟨J,0,[]⟩:OpM)]).length=l.length+A.length+1:=by rw[length_append,zA.o];rfl
 have xA:=Zh vA;clear vA;go_wp2_with fail;refine(HEB.o _ _ w3 H1.o yA.o HS.o.at' (by rw[xA.o,HB.o];have:=HL.o;omega)).mono ?_;rintro e w4 ⟨rfl,hat,hfr⟩;rw[xA.o,HB.o]at hat;replace HS:=Zh (HS.o.next HP.o hat hfr);clear hat hfr k0 k1 k2 k3 x0 x1 x2 x3 yA;go_wp2_with fail;refine(JU w4 p _ 16 0 [] HS.o.at' (by rw[length_append,xA.o];have:=HL.o;omega)).mono ?_;rintro e w5 ⟨rfl,hat,hfr⟩;replace HS:=Zh (HS.o.next HP.o hat hfr);have e1:l1++[(⟨J,0,[]⟩:OpM)]++B++[⟨16,0,[]⟩]=l1++(⟨J,0,[]⟩:OpM)::(B++[⟨16,0,[]⟩]):=zq;rw[e1]at HS;clear hat hfr e1;go_wp2_with fail;refine(VD w5 p _ l1.length ⟨J,0,[]⟩ HS.o.at' (by simp only[length_append,length_cons,length_nil,zA.o];have:=HL.o;omega) (JcL _ _ _)).mono ?_;rintro e w6 ⟨rfl,hat,hfr⟩;rw[JcM]at hat;replace HS:=Zh (HS.o.next HP.o hat hfr);clear hat hfr;go_wp2_with fail;refine(JU w6 p _ 0 v [] HS.o.at' (by simp only[length_append,length_cons,length_nil,zA.o];have:=HL.o;omega)).mono ?_;rintro e w7 ⟨rfl,hat,hfr⟩;replace HS:=Zh (HS.o.next HP.o hat hfr);clear hat hfr;obtain⟨Z,hZ⟩:∃Z:Int,((l1++(⟨J,0,[]⟩:OpM)::(B++[⟨16,0,[]⟩])).length:Nat)=Z:=⟨_,rfl⟩
 rw[hZ]at HS;have e2:l1++(⟨J,Z,[]⟩:OpM)::(B++[⟨16,0,[]⟩])++[⟨0,v,[]⟩]=(l1++(⟨J,Z,[]⟩:OpM)::B)++(⟨16,0,[]⟩:OpM)::[⟨0,v,[]⟩]:=zq;have cA:=Zh (e2 ▸ HS.o);have ej:((l1.length:Int)+((B.length:Int)+1))=(((l1++(⟨J,Z,[]⟩:OpM)::B).length:Nat):Int):=by simp only[length_append,length_cons];omega
 have c:=VD w7 p _ (l1++(⟨J,Z,[]⟩:OpM)::B).length ⟨16,0,[]⟩ cA.o.at' (by simp only[length_append,length_cons,length_nil,zA.o];have:=HL.o;omega) (JcL _ _ _);rw[<- ej,JcM]at c;have HZ:=Zh hZ;clear e2 ej hZ HS;go_wp2_with fail;refine c.mono ?_;rintro e w8 ⟨rfl,hat,hfr⟩;have HS:=Zh (cA.o.next HP.o hat hfr);clear hat hfr c cA
 have HFIN:Hi (BAt w8 p (l++QcW l.length J v a b)/\BFr p W w8):=by
  refine⟨?_,HS.o.fr⟩;rw[HE.o];have h:=HS.o.at';have hz:=HZ.o;simp only[length_append,length_cons,length_nil,zA.o]at h hz;have z1:Z=((l.length+A.length+B.length+2:Nat):Int):=zo;have z2:l.length+A.length+(B.length+1)+(0+1+1)=l.length+A.length+B.length+3:=zo;rw[z1,z2]at h;simpa using h
 clear HS HE HZ;go_wp2;go_end0;rw[HR.o];exact⟨rfl,HFIN.o⟩
def Jfq{w0:World}{p:Nat}(k n:Int)(s:By)(es:List Exp)(hp:w0.heap.size<=p)(hel:∀a∈es,ExB w0 p a)(d:List Value)(l:List OpM)(W:World)(hx:QcC w0 (.mk k n s es) d)(hb:Bel w0 W)(ha:BAt W p l)
  (hl:l.length+(cL l.length es).length<=1000000000000) (hm1:es.length<=1000000000):Calls prog 52 #[Pt p,.agg d.toArray] W (Qbe W p (l++cL l.length es)):=by
 obtain⟨R,hR⟩:∃R,Qbe W p (l++cL l.length es)=R:=⟨_,rfl⟩
 rw[hR];have HR:Hi (R=Qbe W p (l++cL l.length es)):=hR.symm;obtain⟨a1,c1,e1,g1⟩:=Qdy.kids hx;rw[e1];have xA:=Zh (BSt.first (cs:=#[Iv k,Iv n,Sv s,.slice a1 es.length c1]) ha hp hb);obtain⟨m,hm⟩:∃m,es.length=m:=⟨_,rfl⟩
 have HM:=Zh hm;have HMX:Hi (m<=1000000000):=hm ▸ hm1;have HG1:=Zh g1;have HEL:=Zh hel;have HL:=Zh hl;have HP:=Zh hp;rw[hm]at xA |-;clear hR hx hb ha e1 g1 hm hel hl hp hm1;go_enter func52,ntmps52;go_upto_region 1 with fail;generalize World.alloc W _=w1 at *;generalize W.heap.size=eb at *;obtain⟨x0,x1,x2,x3⟩:=Qao xA.o.box;go_wp2_with fail;go_loopg [9] m λg v9 wr=>∃i:Nat,g+i=m/\v9=Iv (i:Int)/\Hi (BAt wr p (l++cL l.length (es.take i))/\BFr p W wr/\Bel w0 wr)
 case atStart=>exact⟨0,rfl,rfl,by rw[List.take_zero,cL,List.append_nil];exact xA.o.at',xA.o.fr,xA.o.bel⟩
 case round=>
  clear xA x0 x1 x2 x3;obtain⟨wl,rfl⟩:=zJ wr;obtain⟨i,hg,rfl,hws⟩:=hrel;have HA:=Zh hws.o.1;have HF:=Zh hws.o.2.1;have HB:=Zh hws.o.2.2;clear hws
  by_cases hi:i<m
  ·have dil:decide ((i:Int)<(m:Int))=true:=zG zo;have diN:decide (i<m)=true:=zG hi;obtain⟨x,hx⟩:∃x,es[i]?=some x:=⟨_,List.getElem?_eq_getElem (by rw[HM.o];exact hi)⟩
   obtain⟨b1,o1,ha1,hk1⟩:=HG1.o (List.ne_nil_of_mem (List.mem_of_getElem? hx));subst ha1;obtain⟨d1,hr1,hc1⟩:=hk1 i x hx;have hr1f:=hr1;obtain⟨xa,xc,rfl⟩:=hr1.form;obtain⟨p0,p1,p2,p3⟩:=KG hc1 HB.o;have k0:0<=(i:Int):=zo;have k1:(i:Int)<(m:Int):=zo;have hmx:=HMX.o;have wk:IntKind.i64.wrap ((i:Int)+1)=((i+1:Nat):Int):=by rw[IntWalk.i64_in _ zo];omega
   have zA:cL l.length (es.take (i+1))=cL l.length (es.take i)++cE (l.length+(cL l.length (es.take i)).length) x:=by
    rw[List.take_add_one,hx,Option.toList_some,Jig]
   have uA:=JaW es l.length (i+1);rw[zA,length_append]at uA;have yA:(l++cL l.length (es.take i)).length=l.length+(cL l.length (es.take i)).length:=length_append;have bA:=Zh zA;have cc:=λW1 (hB:Bel w0 W1) (hA:BAt W1 p (l++cL l.length (es.take i)))=>HEL.o x (List.mem_of_getElem? hx) _ _ W1 hr1f hB hA (by rw[yA];have:=HL.o;omega)
   rw[yA]at cc;have CC:=Zh cc;have HG:Hi (gk+i=m/\i<m):=⟨hg,hi⟩
   clear hx hk1 hr1 hr1f hg hi hc1 cc hmx zA uA yA;go_upto_region 4 with fail;have HY:=Zh (zQ wl (.cells #[Iv x.kind,Iv x.num,.string (bs x.name),.slice xa x.kids.length xc] 37));have cA:=Zh (HA.o.up (zO.alloc (Nat.le_refl _) (.cells #[Iv x.kind,Iv x.num,.string (bs x.name),.slice xa x.kids.length xc] 37)));have HF5:=Zh (HF.o.trans (BFr.alloc HA.o.lt (.cells #[Iv x.kind,Iv x.num,.string (bs x.name),.slice xa x.kids.length xc] 37)));have HB5:=Zh (Jag HB.o HP.o (BFr.alloc HA.o.lt (.cells #[Iv x.kind,Iv x.num,.string (bs x.name),.slice xa x.kids.length xc] 37)));clear p0 p1 p2 p3 HA HF HB;generalize World.alloc wl _=w5 at *;generalize wl.heap.size=yb at *;obtain⟨p0,p1,p2,p3⟩:=Qao HY.o;go_wp2_with fail;refine(CC.o w5 HB5.o cA.o).mono ?_;rintro e w8 ⟨rfl,hat,hfr⟩;rw[List.append_assoc,<- bA.o]at hat;have vA:=Zh hat;have aA:=Zh (HF5.o.trans hfr);have HB8:=Zh (Jag HB5.o HP.o hfr);clear CC p0 p1 p2 p3 hat hfr;go_wp2;go_roundg (m-(i+1))
   case measure=>have:=HG.o;omega
   case rel=>exact⟨i+1,by have:=HG.o;omega,rfl,vA.o,aA.o,HB8.o⟩
  ·have dil:decide ((i:Int)<(m:Int))=false:=zH zo;have diN:decide (i<m)=false:=zH hi
   have HFIN:Hi (BAt wl p (l++cL l.length es)/\BFr p W wl):=by
    have h:=HA.o;rw[List.take_of_length_le (by rw[HM.o];omega)]at h;exact⟨h,HF.o⟩
   clear hi hg HA HF HB;go_wp2;go_end0;rw[HR.o];exact⟨rfl,HFIN.o⟩
mutual
def LoN:Exp->Prop
 |.mk k n s l=>(k=19->0<=n/\n<=1000000000)/\l.length<=1000000000/\LoL l
def LoL:List Exp->Prop
 |[]=>True
 |a::l=>LoN a/\LoL l
end
def LoL.mem:∀{l:List Exp} {a:Exp},LoL l->a∈l->LoN a
 |x::l,a,h,hm=>by
  rw[LoL]at h
  rcases List.mem_cons.1 hm with rfl|hm
  ·exact h.1
  ·exact LoL.mem h.2 hm
mutual
def Jah:∀(x:Exp),LoN x->0<=QaD x/\QaD x<=1000000001
 |.mk k n s l,h=>by
  rw[LoN]at h;have:=JcN l h.2.2;rw[QaD]
  by_cases hk:k=19
  ·have:=h.1 hk;rw[if_pos hk];omega
  ·rw[if_neg hk];omega
def JcN:∀(l:List Exp),LoL l->0<=QbG l/\QbG l<=1000000001
 |[],_=>by rw[QbG];omega
 |a::l,h=>by
  rw[LoL]at h;have h1:=Jah a h.1;have h2:=JcN l h.2;rw[QbG];omega
end
theorem Qkm{P:Prop}(h:P:=by
  clear HBC x0 x1 x2 x3 HT;obtain⟨wl,rfl⟩:=zJ wr;obtain⟨i,N,hg,rfl,rfl,hws⟩:=hrel;have HBC:Hi (Bel w1 wl):=hws.o.1;have HT:=Zh hws.o.2.1;have HN:=Zh hws.o.2.2;clear hws
  by_cases hi:i<m
  ·have dil:decide ((i:Int)<(m:Int))=true:=zG (by omega);have diN:decide (i<m)=true:=zG hi;obtain⟨x,hx⟩:∃x,l[i]?=some x:=⟨_,List.getElem?_eq_getElem (by rw[HM.o];exact hi)⟩
   obtain⟨b1,o1,ha1,hk1⟩:=HG1.o (List.ne_nil_of_mem (List.mem_of_getElem? hx));subst ha1;obtain⟨d1,hr1,hc1⟩:=hk1 i x hx;have hr1f:=hr1;obtain⟨xa,xc,rfl⟩:=hr1.form;have HBL:=Zh (Jd HBW.o HBC.o);obtain⟨z,hz⟩:∃z,QaD x=z:=⟨_,rfl⟩
   have hlx:=LoL.mem HLO.o (List.mem_of_getElem? hx);have hzb:=Jah x hlx;rw[hz]at hzb;have cc:=λW (hW:Bel w1 W)=>HEL.o x (List.mem_of_getElem? hx) _ W hlx hr1f (Jd HBW.o hW)
   rw[hz]at cc
   have hT2:max (max N z) (QbG (l.drop (i+1)))=T:=by
    have h:=HT.o;rw[Jee hx,QbG,hz]at h;omega
   have HT2:=Zh hT2;have p0:wl.cell? ⟨b1,o1+i*4,none⟩=some (Iv x.kind):=hc1 wl HBL.o 0 _ rfl;have p1:wl.cell? ⟨b1,o1+i*4+1,none⟩=some (Iv x.num):=hc1 wl HBL.o 1 _ rfl;have p2:wl.cell? ⟨b1,o1+i*4+2,none⟩=some (.string (bs x.name)):=hc1 wl HBL.o 2 _ rfl;have p3:wl.cell? ⟨b1,o1+i*4+3,none⟩=some (.slice xa x.kids.length xc):=hc1 wl HBL.o 3 _ rfl;have k0:0<=(i:Int):=by omega
   have k1:(i:Int)<(m:Int):=by omega
   have hmx:=HMX.o;have wk:IntKind.i64.wrap ((i:Int)+1)=((i+1:Nat):Int):=by rw[IntWalk.i64_in _ (by omega)];omega
   have HNZ:Hi (0<=max N z/\max N z<=1000000001):=by have:=HN.o;exact⟨by omega,by omega⟩
   have HG:Hi (gk+i=m/\i<m):=⟨hg,hi⟩
   have CC:=Zh cc;clear hx hk1 hr1 hr1f hz hzb hT2 hg hi HT HN hc1 hlx cc hmx;go_upto_region 7 with fail;have HBN:Hi (Bel wl (wl.alloc (.cells #[Iv x.kind,Iv x.num,.string (bs x.name),.slice xa x.kids.length xc] 37))):=zO.alloc (Nat.le_refl _) _;have HY:=Zh (BxB.of (zQ wl (.cells #[Iv x.kind,Iv x.num,.string (bs x.name),.slice xa x.kids.length xc] 37)));clear p0 p1 p2 p3;generalize World.alloc wl _=w5 at *;generalize wl.heap.size=yb at *;obtain⟨p0,p1,p2,p3⟩:=Qao (HY.o _ zO);go_wp2_with fail;refine(CC.o w5 (Jd HBC.o HBN.o)).mono ?_;rintro e w8 ⟨rfl,hbb⟩;have HBD:Hi (Bel w1 w8):=Jd HBC.o (Jd HBN.o hbb);clear CC p0 p1 p2 p3 hbb;go_wp2;go_roundg (m-(i+1))
   case measure=>have:=HG.o;omega
   case rel=>exact⟨i+1,max N z,by have:=HG.o;omega,rfl,rfl,HBD.o,HT2.o,HNZ.o⟩
  ·have dil:decide ((i:Int)<(m:Int))=false:=zH (by omega);have diN:decide (i<m)=false:=zH hi
   have hTv:T=N:=by
    have h:=HT.o;have hn:=HN.o;rw[List.drop_eq_nil_of_le (by rw[HM.o];omega),QbG]at h;omega
   subst hTv;clear hi hg HT HN;go_wp2;go_ret
   exact⟨rfl,Jd HB0.o HBC.o⟩):P:=h
def JbL{w0:World}:∀(x:Exp) (d:List Value) (W:World),LoN x->QcC w0 x d->Bel w0 W->Calls prog 23 #[.agg d.toArray] W (Qbj W (Iv (QaD x)))
 |.mk kd nm s l,d,W,hlo,h1,hb=>by
  obtain⟨a1,c1,e1,g1⟩:=Qdy.kids h1;rw[e1]
  have hel:∀x∈l,∀d W,LoN x->QcC w0 x d->Bel w0 W->Calls prog 23 #[.agg d.toArray] W (Qbj W (Iv (QaD x))):=
   λx hx d W h0 h1 hb=>JbL x d W h0 h1 hb
  obtain⟨T,hT⟩:∃T,QaD (.mk kd nm s l)=T:=⟨_,rfl⟩
  rw[hT];rw[QaD]at hT;rw[LoN]at hlo;obtain⟨m,hm⟩:∃m,l.length=m:=⟨_,rfl⟩
  have HM:=Zh hm;have HMX:Hi (m<=1000000000):=hm ▸ hlo.2.1;have HEL:=Zh hel;have HG1:=Zh g1;have HLO:=Zh hlo.2.2;have HK:=Zh hlo.1;rw[hm];clear e1 h1 hel g1 hm hlo;have HX:=Zh (BxB.of (zQ W (.cells #[Iv kd,Iv nm,Sv s,.slice a1 m c1] 37)));have HB0:Hi (Bel W (W.alloc (.cells #[Iv kd,Iv nm,Sv s,.slice a1 m c1] 37))):=zO.alloc (Nat.le_refl _) _;have HBW:=Zh (Jd hb HB0.o);clear hb;go_enter func23,ntmps23;go_upto_region 1 with fail;generalize World.alloc W _=w1 at *;generalize W.heap.size=xb at *;have HBC:Hi (Bel w1 w1):=zO;obtain⟨x0,x1,x2,x3⟩:=Qao (HX.o _ HBC.o)
  by_cases e3:kd=19
  ·have q3:(kd==19)=true:=by simp[e3]
   obtain⟨N0,xA⟩:∃N0,nm+1=N0:=⟨_,rfl⟩
   have hk:=HK.o e3;have wn:IntKind.i64.wrap (nm+1)=N0:=by rw[IntWalk.i64_in _ zo];exact xA
   have HT:Hi (max N0 (QbG (l.drop 0))=T/\0<=N0/\N0<=1000000001):=by
    rw[if_pos e3,xA]at hT;exact⟨hT,by omega,by omega⟩
   clear hT e3 hk xA HK;go_wp2_with fail;go_loopg [3,15] m λg v3 v15 wr=>∃(i:Nat) (N:Int),g+i=m/\v3=Iv N/\v15=Iv (i:Int)/\Hi (Bel w1 wr/\max N (QbG (l.drop i))=T/\0<=N/\N<=1000000001)
   case atStart=>exact⟨0,N0,rfl,rfl,rfl,HBC.o,HT.o.1,HT.o.2⟩
   case round=>
    exact Qkm
  ·have q3:(kd==19)=false:=zM e3;obtain⟨N0,xA⟩:∃N0:Int,(0:Int)=N0:=⟨_,rfl⟩
   have HT:Hi (max N0 (QbG (l.drop 0))=T/\0<=N0/\N0<=1000000001):=by
    rw[if_neg e3,xA]at hT;exact⟨hT,by omega,by omega⟩
   subst xA;clear hT e3 HK;go_wp2_with fail;go_loopg [3,15] m λg v3 v15 wr=>∃(i:Nat) (N:Int),g+i=m/\v3=Iv N/\v15=Iv (i:Int)/\Hi (Bel w1 wr/\max N (QbG (l.drop i))=T/\0<=N/\N<=1000000001)
   case atStart=>exact⟨0,0,rfl,rfl,rfl,HBC.o,HT.o.1,HT.o.2⟩
   case round=>
    exact Qkm
termination_by x=>SizeOf.sizeOf x
decreasing_by
 have:=List.sizeOf_lt_of_mem hx;simp only[Exp.mk.sizeOf_spec];omega
end Go.Proofs.YtfafpklefknomaaGreatDoor
