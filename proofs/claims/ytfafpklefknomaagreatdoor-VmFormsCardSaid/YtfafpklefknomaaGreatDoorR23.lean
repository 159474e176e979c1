import GoSem.Op.String
import Derived.Test.YtfafpklefknomaaGreatDoorR22
import Derived.Test.YtfafpklefknomaaGreatDoorR03
open List(append_eq_nil_iff map_cons sum_cons)
open Nat(le_refl le_trans)
namespace Go.Proofs.YtfafpklefknomaaGreatDoor
open Go.ChangeShapes Go.WideShapes Go.ChangeAt Go.RowKit Go.Lib
open _root_.Go.Proofs.Tryz
set_option linter.all false
set_option maxRecDepth 100000
set_option maxHeartbeats 32000000
def JnE:∀(l:By) (k:Nat) (ts:List Tok),sc k l=.ok ts->ts.length<=l.length+1:=by
 refine Jbn (P:=λk l=>∀ts,sc k l=.ok ts->ts.length<=l.length+1) ?_ ?_ ?_ ?_
 ·intro k ts h;rw[JeC]at h;injection h with h;subst h;simp
 ·intro k c r hs ih ts h;rw[Jjo k r hs]at h;have:=ih ts h;simp;omega
 ·intro k c r hs ht ts h;rw[Jbl k r hs ht]at h
  cases h
 ·intro k c r t n hs ht _ _ ih ts h;rw[Jbm k r hs ht]at h;obtain⟨r',h1,rfl⟩:=Jdy h;have:=ih _ h1;have hn:=(JbW ht).2;simp only[List.length_drop,List.length_cons]at this |-;have h3:n<=r.length+1:=by have:=hn.2.1;simpa using this
  omega
def Z7{l:By}{T:List Tok}{at':Int}(h:Qbi l=(T,0,at')):at'=0/\T.length<=4097/\(∀t∈T,t.text.length<=24)/\0<T.length/\∀i t,T[i]?=some t->(t.kind=4↔i+1=T.length):=by
 unfold Qbi at h;split at h
 ·simp at h
 ·cases hs:sc 0 l with
  |err k=>rw[hs]at h;simp at h
  |ok ts=>
   rw[hs]at h;simp at h;obtain⟨rfl,rfl⟩:=h;have h1:=JnE _ _ _ hs;obtain⟨us,rfl,h2,_⟩:=JlC _ _ _ hs;refine⟨rfl,by omega,?_,by simp,?_⟩
   ·intro t ht
    rcases List.mem_append.1 ht with ht|ht
    ·exact(h2 t ht).2.2.1
    ·simp at ht;subst ht;simp
   ·intro i t hi
    by_cases hl:i<us.length
    ·rw[List.getElem?_append_left hl]at hi;have:=(h2 t (List.mem_of_getElem? hi)).2.1;simp;omega
    ·rw[List.getElem?_append_right zo]at hi;have:i-us.length=0:=by have:=(List.getElem?_eq_some_iff.1 hi).1;simp at this;omega
     rw[this]at hi;simp at hi;subst hi;simp;omega
def Jmh{W:World}{base:Nat}{v:Value}{T:List Tok}(h:W.ownsRow base 134 4 v T.length (QaO T))(h0:0<T.length):∃A C,v=.slice A T.length C/\∃b,A=some ⟨b,0,none⟩/\b<W.heap.size/\∀i t,T[i]?=some t->∀j u,(Qda t).toList[j]?=some u->W.cell? ⟨b,i*4+j,none⟩=some u:=by
 obtain⟨A,C,hv,hA⟩:=Vr h;refine⟨A,C,hv,Value.blk v,hA h0,?_,λi t hi j u hj=>?_⟩
 ·have hc:(QaO T)[0]?≠none:=by
   cases T with
   |nil=>simp at h0
   |cons t r=>simp[QaO]
  obtain⟨u,hu⟩:=Option.ne_none_iff_exists'.1 hc;exact JaD (J0 h hu)
 ·refine J0 h ?_
  have e:∀T:List Tok,QaO T=T.flatMap λt=>(Qda t).toList:=by
   intro T
   induction T with
   |nil=>rfl
   |cons a r ih=>rw[QaO,ih,List.flatMap_cons];rfl
  rw[e];exact Kq (cells:=λt=>(Qda t).toList) (size:=4) (λ_=>rfl) T i j t u hi hj
def JnF{W:World}{base:Nat}{v:Value}{T:List Tok}(h:W.ownsRow base 134 4 v T.length (QaO T))(h0:0<T.length)(hr:T.length<=4097)(hf:∀i t,T[i]?=some t->(t.kind=4↔i+1=T.length)) :
  ∃A C,v=.slice A T.length C/\PAt (W.alloc (.cells #[v,Iv 0] 92)) W.heap.size A C T 0:=by
 obtain⟨A,C,rfl,b,rfl,hb,hc⟩:=Jmh h h0;refine⟨_,C,rfl,zQ _ _,⟨b,0,rfl,by omega,λi t hi j u hj=>?_⟩,h0,hf,by omega⟩;rw[Nat.zero_add];have:=hc i t hi j u hj;exact(World.cell?_of_block (a:=⟨b,i*4+j,none⟩) (Below.heap_alloc _ _ _ hb)).trans this
def Res.on{S:List Nat}{w W W':World}{rs:Array Value}{er a:Int}(h:Res w W rs er a)(hc:Chg S W W')(hs:∀b∈S,w.heap.size+3<=b):Res w W' rs er a:=
 ⟨hc.heap_some (λhm=>by have:=hs _ hm;omega) h.r,hc.heap_some (λhm=>by have:=hs _ hm;omega) h.e,hc.heap_some (λhm=>by have:=hs _ hm;omega) h.a,
  ⟨hc.os.trans h.bel.os,hc.tape.trans h.bel.tape,hc.output.trans h.bel.output,le_trans h.bel.size hc.size,λq hq=>(hc.block q (Nat.lt_of_lt_of_le hq h.bel.size) λhm=>by have:=hs _ hm;omega).trans (h.bel.block q hq)⟩⟩
def Res.low{w W W':World}{sb:Nat}{rs:Array Value}{er a:Int}(h:Res w W rs er a)(hc:Below sb W W')(hs:w.heap.size+3<=sb):Res w W' rs er a:=
 ⟨(hc.block _ zo).trans h.r,(hc.block _ zo).trans h.e,(hc.block _ zo).trans h.a,
  ⟨hc.os.trans h.bel.os,hc.tape.trans h.bel.tape,hc.output.trans h.bel.output,le_trans h.bel.size hc.size,λq hq=>(hc.block q zo).trans (h.bel.block q hq)⟩⟩
def ZtZ{w W:World}{f0 f1 f2:Value}{e0 a0:Int}(er o:Int)(h:Res w W #[f0,f1,f2] e0 a0)(tmps:Array Value)(h2:tmps.getD 2 undef=Pt w.heap.size)(h3:tmps.getD 3 undef=.pointer (some ⟨w.heap.size+1,0,none⟩))(h4:tmps.getD 4 undef=.pointer (some ⟨w.heap.size+2,0,none⟩)) :
  Leaves prog f15 tmps (PsP w (QaR,er,o)) [{ target:=.fn (.func 33) #[Pt w.heap.size,.pointer (some ⟨w.heap.size+1,0,none⟩),.pointer (some ⟨w.heap.size+2,0,none⟩)],args:=#[] }] (.panicking [{ v:=Qff er o,recovered:=false }]) W:=by
 refine leaves_cons (f:=33) (args:=#[Pt w.heap.size,.pointer (some ⟨w.heap.size+1,0,none⟩),.pointer (some ⟨w.heap.size+2,0,none⟩)]) zq (by simp[go_sem]) ?_;refine(Zc _ _ _ er o [] f0 f1 f2 e0 a0 W h.r h.e h.a zo zo zo).mono ?_;rintro e u' xA ⟨rfl,rfl,g1,g2,g3,hc⟩;have hR:Res w xA #[Nl,Nl,Iv 0] er o:=⟨g1,g2,g3,⟨hc.os.trans h.bel.os,hc.tape.trans h.bel.tape,hc.output.trans h.bel.output,le_trans h.bel.size hc.size,λq hq=>(hc.block q (Nat.lt_of_lt_of_le hq h.bel.size) zr).trans (h.bel.block q hq)⟩⟩
 exact⟨_,Vj hR rfl tmps h2 h3 h4,_,rfl,JeZ _ _,hR.bel⟩
def Jmi{w W:World}{c:Array Value}{e0 a0:Int}{r:Qah}(h:Res w W c e0 a0)(hs:c.size=3)(hx:QaV W (λb=>w.heap.size<=b/\b<W.heap.size) r c)(tmps:Array Value)(h2:tmps.getD 2 undef=Pt w.heap.size)(h3:tmps.getD 3 undef=.pointer (some ⟨w.heap.size+1,0,none⟩))(h4:tmps.getD 4 undef=.pointer (some ⟨w.heap.size+2,0,none⟩)) :
  Leaves prog f15 tmps (PsP w (r,e0,a0)) [{ target:=.fn (.func 33) #[Pt w.heap.size,.pointer (some ⟨w.heap.size+1,0,none⟩),.pointer (some ⟨w.heap.size+2,0,none⟩)],args:=#[] }] .returning W:=by
 refine leaves_cons (f:=33) (args:=#[Pt w.heap.size,.pointer (some ⟨w.heap.size+1,0,none⟩),.pointer (some ⟨w.heap.size+2,0,none⟩)]) zq (by simp[go_sem]) ?_;refine(JdW _ _ _ W).mono ?_;rintro e u' xA ⟨rfl,rfl,hb⟩;have hR:=h.up hb;exact⟨_,Vj hR hs tmps h2 h3 h4,c,rfl,hx.keep (λb hb'=>hb.block b hb'.2) λb hb'=>⟨hb'.1,Nat.lt_of_lt_of_le hb'.2 hb.size⟩,hR.bel⟩
def QdI(s:Src):Qah × Int × Int:=
 match QbN s with
 |some o=>(QaR,7,o)
 |none=>
  match QaZ (Qae s).2 with
  |some o=>(QaR,16,o)
  |none=>
   match QaZ (QbH (Qae s).1) with
   |some o=>(QaR,15,o)
   |none=>(QaE (Qae s).1,0,0)
def YU{f:Nat}{T r:List Tok}{s:Src}(h:QdU f T=.ok s r):Qcc f T=some (QdI s):=by
 unfold Qcc QdI;rw[h];simp only
 cases QbN s<;>simp only
 cases QaZ (Qae s).2<;>simp only
 cases QaZ (QbH (Qae s).1)<;>rfl
def JhD{s:Src}{o:Int}(h:QbN s=some o):QdI s=(QaR,7,o):=by unfold QdI;rw[h]
def JhE{s:Src}{o:Int}(h:QbN s=none)(h2:QaZ (Qae s).2=some o):QdI s=(QaR,16,o):=by unfold QdI;rw[h,h2]
def JjZ{s:Src}(h:QbN s=none)(h2:QaZ (Qae s).2=none):QdI s=match QaZ (QbH (Qae s).1) with|some o=>(QaR,15,o)|none=>(QaE (Qae s).1,0,0):=by unfold QdI;rw[h,h2]
def JhF:∀l:List FnS,l.length<=Qcn l
 |[]=>by simp
 |f::l=>by
  have:=JhF l;unfold Qcn at this |-;simp only[map_cons,sum_cons,List.length_cons];have:1<=f.siz:=by unfold FnS.siz;omega
  omega
def JhG:∀l:List ClS,l.length<=Qcp l
 |[]=>by simp
 |f::l=>by
  have:=JhG l;unfold Qcp at this |-;simp only[map_cons,sum_cons,List.length_cons];have:1<=f.siz:=by unfold ClS.siz;omega
  omega
def JhH{f:FnS}:∀{l:List FnS},f∈l->f.siz<=Qcn l
 |a::l,h=>by
  unfold Qcn;simp only[map_cons,sum_cons]
  rcases List.mem_cons.1 h with rfl|h
  ·omega
  ·have:=JhH h;unfold Qcn at this;omega
def JhI{f:ClS}:∀{l:List ClS},f∈l->f.siz<=Qcp l
 |a::l,h=>by
  unfold Qcp;simp only[map_cons,sum_cons]
  rcases List.mem_cons.1 h with rfl|h
  ·omega
  ·have:=JhI h;unfold Qcp at this;omega
structure Qil(s:Src):Prop where
 nf:s.funcs.length<=8194
 nc:s.clauses.length<=8194
 f:∀x∈s.funcs,QgR x/\siz x.body<=8194/\x.types.length<=8194/\x.params.length=x.types.length
 c:∀x∈s.clauses,Qip x/\siz x.cond<=8194
def Jmj{f:Nat}{T r:List Tok}{s:Src}(h:QdU f T=.ok s r)(hT:T.length<=4097)(hx:∀t∈T,t.text.length<=24):Qil s:=by
 obtain⟨h1,h2⟩:=JeN h;obtain⟨h3,h4⟩:=Jmg (λt ht=>le_trans (hx t ht) zp) h;have q1:=JhF s.funcs;have q2:=JhG s.clauses;refine⟨by omega,by omega,λx hx=>?_,λx hx=>?_⟩
 ·have q:=JhH hx;have e:x.siz=siz x.body+x.params.length+x.types.length+1:=rfl;exact⟨h3 x hx,by omega,by omega,h2 x hx⟩
 ·have q:=JhI hx;have e:x.siz=siz x.cond+1:=rfl;exact⟨h4 x hx,by omega⟩
def Jka{S:Qap}(h:Qil S.src):∀r∈S.rootsA,siz r.2.nd<=1000000000:=by
 intro r hr;have hm:r.2.nd∈S.src.roots:=by rw[<- JeR];exact List.mem_map.2 ⟨r,hr,rfl⟩
 unfold Src.roots at hm
 rcases List.mem_append.1 hm with hm|hm
 ·obtain⟨f,hf,e⟩:=List.mem_map.1 hm;rw[<- e];exact le_trans (h.f f hf).2.1 zp
 ·obtain⟨f,hf,e⟩:=List.mem_map.1 hm;rw[<- e];exact le_trans (h.c f hf).2 zp
def JcE{S:Qap}:S.src.funcs.length=S.funcs.length:=by simp[Qap.src]
def JhJ{S:Qap}:S.src.clauses.length=S.clauses.length:=by simp[Qap.src]
def Jmk{S:Qap}{f:FnA}(h:f∈S.funcs):f.src∈S.src.funcs:=List.mem_map.2 ⟨f,h,rfl⟩
def Jml{S:Qap}{c:ClA}(h:c∈S.clauses):c.src∈S.src.clauses:=List.mem_map.2 ⟨c,h,rfl⟩
def Jga(l:By)(w:World)(hl:l.length<=281474976710655)(hL:Laid w)(T:List Tok)(at0:Int)(hsc:Qbi l=(T,0,at0)) :
  Calls prog 15 #[Sv l] w (PsP w ((Qcc (12*(T.length+1)) T).getD (QaR,0,0))):=by
 obtain⟨X,hX⟩:∃X,(Qcc (12*(T.length+1)) T).getD (QaR,0,0)=X:=⟨_,rfl⟩
 rw[hX];have HX:=Zh hX;obtain⟨rfl,hT,vA,cA,xA⟩:=Z7 hsc;obtain⟨f,hf⟩:∃f,f=12*(T.length+1):=⟨_,rfl⟩
 rw[<- hf]at HX;have HF:=Zh hf;have HT:=Zh (And.intro hT (And.intro vA (And.intro cA xA)))
 have aB:Res w (((w.alloc (.cells #[Nl,Nl,Iv 0] 25)).alloc (.cells #[Iv 0] 46)).alloc (.cells #[Iv 0] 3)) #[Nl,Nl,Iv 0] 0 0:=by
  exact QjS
 have gA:=Zh aB;have qB:∀(fn:Fn) (first cap:Array Value) (w:World),(Instr.makeFunc fn first cap).run prog w=.ok (.func fn first cap) w:=λ_ _ _ _=>rfl
 clear aB hX hf hT vA cA xA;go_enter_defers func15,ntmps15;go_wp2_with fail;generalize World.alloc (World.alloc (World.alloc w _) _) _=w1 at *;have bB:=hL.below gA.o.bel;refine(JeD l w1 hl bB).mono ?_;rw[hsc];rintro e w2 ⟨v,rfl,zA,hb⟩;obtain⟨va,vc,rfl⟩:=Jv zA;have pB:Hi (w.heap.size+3<=w1.heap.size):=by have:=Jb gA.o.a;unfold Hi;omega
 have tA:=Zh (gA.o.up hb);have HOW:Hi _:=Zh zA;clear gA zA hb hsc bB hL;obtain⟨r0,r1,r2,e0,a0,q0,q1,q2,q3,q4⟩:=tA.o.cells;have hA:=Zh ((tA.o.setE 0).setA 0)
 have hB:Hi (((w2.setCell ⟨w.heap.size+1,0,none⟩ (Iv 0)).setCell ⟨w.heap.size+2,0,none⟩ (Iv 0)).ownsRow w1.heap.size 134 4 (.slice va T.length vc) T.length (QaO T)):=by
  have hst:Chg [w.heap.size+1,w.heap.size+2] w2 ((w2.setCell ⟨w.heap.size+1,0,none⟩ (Iv 0)).setCell ⟨w.heap.size+2,0,none⟩ (Iv 0)):=((Chg.refl _ _).setCell (.inl zq) _).setCell (.inl zq) _;refine JA HOW.o hst ?_;intro g hg;have:=pB.o;simp at hg;omega
 have nB:Hi (((w2.setCell ⟨w.heap.size+1,0,none⟩ (Iv 0)).setCell ⟨w.heap.size+2,0,none⟩ (Iv 0)).heap.size=w2.heap.size):=by unfold Hi;simp[World.setCell]
 clear r0 r1 r2 q0 q1 q2 tA HOW;go_wp2_with fail;clear e0 a0 q3 q4;generalize World.setCell (World.setCell w2 _ _) _ _=w3 at *;obtain⟨r0,r1,r2,e0,a0,q0,q1,q2,q3,q4⟩:=hA.o.cells;clear r0 r1 r2 q0 q1 q2 q3 q4 a0;go_wp2_with fail;rw[<- nB.o];obtain⟨hT,vA,cA,xA⟩:=HT.o;obtain⟨A,C,dB,hP⟩:=JnF hB.o cA hT xA;obtain⟨rfl,rfl⟩:va=A/\vc=C:=by injection dB with h1 _ h2;exact⟨h1,h2⟩
 have jA:QdU f T≠.out:=Jhc (zu HF.o);have iB:Below w3.heap.size w3 (w3.alloc (.cells #[.slice va T.length vc,Iv 0] 92)):=zO.alloc (Nat.le_refl _) _;have qA:=Zh (hA.o.up iB);have vB:(w3.alloc (.cells #[.slice va T.length vc,Iv 0] 92)).heap.size=w3.heap.size+1:=zq;have HP3:Hi (w.heap.size+3<=w3.heap.size):=by have:=Jb hA.o.a;unfold Hi;omega
 have hC:=JjE f w3.heap.size va vc T (zu HF.o) (λt ht=>le_trans (vA t ht) zp) 0 _ hP (by rw[List.drop_zero];exact jA);rw[List.drop_zero]at hC;clear e0 hB iB dB hP hA;generalize kB:w3.alloc (.cells #[.slice va T.length vc,Iv 0] 92)=w4 at *;have uB:=Zh vB;clear vB kB;refine hC.mono ?_
 cases hsp:QdU f T with
 |out=>exact absurd hsp jA
 |bad o=>
  rintro e w5 ⟨rfl,hc⟩;have hX:X=(QaR,2,o):=by rw[<- HX.o];unfold Qcc;rw[hsp];rfl
  have mB:Res w w5 _ 0 0:=qA.o.on hc (by intro b hb;simp at hb;have:=HP3.o;omega);rw[hX];exact ZtZ 2 o mB _ rfl rfl rfl
 |ok s r=>
  rintro e w5 ⟨S,hS,rfl,cB,hc⟩;have HB:Hi (Qil S.src):=by unfold Hi;rw[hS];exact Jmj hsp hT vA
  have sA:=Zh (qA.o.on hc (by intro b hb;simp at hb;have:=HP3.o;omega));have mA:Hi (w.heap.size+3<=w4.heap.size):=by have:=uB.o;have:=HP3.o;unfold Hi;omega
  have yA:Hi (X=QdI S.src):=by rw[hS];exact HX.o.symm.trans (by rw[YU hsp];rfl)
  have kA:=Zh cB;clear hC hc hsp hS cB qA uB HP3 jA hT vA cA xA HT HF;generalize w4.heap.size=sb at *;go_wp2_with fail;refine(Jhg w5 sb S kA.o (by rw[<- JcE];exact le_trans HB.o.nf zp) (by rw[<- JhJ];exact le_trans HB.o.nc zp) (Jka HB.o)).mono ?_
  cases hlm:QbN S.src with
  |some o=>
   rintro e w6 ⟨rfl,hb6⟩;have hX:X=(QaR,7,o):=yA.o.trans (JhD hlm);rw[hX];exact ZtZ 7 o (sA.o.up hb6) _ rfl rfl rfl
  |none=>
  rintro e w6 ⟨rfl,hb6⟩;have nA:=Zh (sA.o.up hb6);have eA:=Zh (kA.o.on (Chg.of_below hb6 []) zq);have xB:=Zh hlm;clear sA kA hb6 hlm;go_wp2_with fail;refine(JdU w6 sb S eA.o (by rw[<- JcE];exact le_trans HB.o.nf zp) (by rw[<- JhJ];exact le_trans HB.o.nc zp) (λg hg=>?c1) λc hg=>?c2).mono ?_
  case c1=>
   have q:=HB.o.f _ (Jmk hg);exact⟨q.1.1,le_trans q.2.1 zp,q.1.2,by have h1:g.params.length=g.types.length:=q.2.2.2;have h2:g.types.length<=8194:=q.2.2.1;show g.params.length<=_;omega⟩
  case c2=>
   have q:=HB.o.c _ (Jml hg);exact⟨q.1,le_trans q.2 zp⟩
  intro e w7 h7;unfold RsP at h7
  cases hrs:QaZ (Qae S.src).2 with
  |some o=>
   rw[hrs]at h7;obtain⟨rfl,hb7⟩:=h7;have hX:X=(QaR,16,o):=yA.o.trans (JhE xB.o hrs);rw[hX];exact ZtZ 16 o (nA.o.low hb7 mA.o) _ rfl rfl rfl
  |none=>
  rw[hrs]at h7;obtain⟨rfl,hb7,S',zB,bA⟩:=h7;have yB:=Zh (nA.o.low hb7 mA.o);replace yA:Hi (X=match QaZ (QbH (Qae S.src).1) with|some o=>(QaR,15,o)|none=>(QaE (Qae S.src).1,0,0)):=yA.o.trans (JjZ xB.o hrs);have iA:=JaQ (m:=8194) (λg hg=>HB.o.f g hg) (λc hc=>HB.o.c c hc) hrs;rw[<- zB]at iA;rw[<- zB]at yA;have aA:=Zh iA
  have HB7:Hi (S'.funcs.length<=8194/\S'.clauses.length<=8194):=by
   have h1:=iA.2.2;have h2:=HB.o.nf;have h3:=HB.o.nc;rw[JcE,JhJ]at h1;exact⟨by omega,by omega⟩
  have uA:=Zh bA;clear nA eA hb7 hrs zB bA iA HB xB;go_wp2_with fail;refine(Jhu w7 sb S' uA.o (le_trans HB7.o.1 zp) (le_trans HB7.o.2 zp) (λg hg=>?c3) λc hg=>?c4).mono ?_
  case c3=>
   have q:=aA.o.1 _ (Jmk hg);rw[JcE]at q;exact⟨q.1,le_trans q.2.1 zp,le_trans q.2.2.1 zp,q.2.2.2⟩
  case c4=>
   have q:=aA.o.2.1 _ (Jml hg);rw[JcE]at q;exact⟨q.1,le_trans q.2.1 zp,q.2.2⟩
  cases hck:QaZ (QbH S'.src) with
  |some o=>
   rintro e w8 ⟨rfl,hb8⟩;have hX:X=(QaR,15,o):=by rw[yA.o,hck]
   rw[hX];exact ZtZ 15 o (yB.o.up hb8) _ rfl rfl rfl
  |none=>
  rintro e w8 ⟨rfl,hb8⟩;have jB:=Zh (yB.o.up hb8);have dA:=Zh (uA.o.on (Chg.of_below hb8 []) zq);have hX:X=(QaE S'.src,0,0):=by rw[yA.o,hck]
  clear yB uA hb8 hck yA HX;subst hX;go_wp2_with fail;refine(Jhy w8 sb S' dA.o (le_trans HB7.o.1 zp) (le_trans HB7.o.2 zp) (λg hg=>le_trans (aA.o.1 _ (Jmk hg)).2.1 zp) λc hg=>le_trans (aA.o.2.1 _ (Jml hg)).2.1 zp).mono ?_;rintro e w9 ⟨c,rfl,hx,gB⟩;have eB:=Zh hx;have rA:=Zh (jB.o.up gB);obtain⟨fv,cv,rfl,⟨fa,fc,fx,rfl,_⟩,⟨ca,cc,cx,rfl,_⟩⟩:=hx;generalize (QaE S'.src).funcs.length=fl at *;generalize (QaE S'.src).clauses.length=cl at *;obtain⟨r0,r1,r2,e0,a0,q0,q1,q2,q3,q4⟩:=rA.o.cells;have pA:=Zh (((rA.o.setR (.slice fa fl fc) (.slice ca cl cc) (Iv (QaE S'.src).action)).setE 0).setA 0)
  have HXX:Hi (QaV (((((w9.setCell ⟨w.heap.size,0,none⟩ (.slice fa fl fc)).setCell ⟨w.heap.size,1,none⟩ (.slice ca cl cc)).setCell ⟨w.heap.size,2,none⟩ (Iv (QaE S'.src).action)).setCell ⟨w.heap.size+1,0,none⟩ (Iv 0)).setCell ⟨w.heap.size+2,0,none⟩ (Iv 0)) (λb=>w.heap.size<=b/\b<(((((w9.setCell ⟨w.heap.size,0,none⟩ (.slice fa fl fc)).setCell ⟨w.heap.size,1,none⟩ (.slice ca cl cc)).setCell ⟨w.heap.size,2,none⟩ (Iv (QaE S'.src).action)).setCell ⟨w.heap.size+1,0,none⟩ (Iv 0)).setCell ⟨w.heap.size+2,0,none⟩ (Iv 0)).heap.size) (QaE S'.src) #[.slice fa fl fc,.slice ca cl cc,Iv (QaE S'.src).action]):=by
   have hst:Chg [w.heap.size,w.heap.size+1,w.heap.size+2] w9 (((((w9.setCell ⟨w.heap.size,0,none⟩ (.slice fa fl fc)).setCell ⟨w.heap.size,1,none⟩ (.slice ca cl cc)).setCell ⟨w.heap.size,2,none⟩ (Iv (QaE S'.src).action)).setCell ⟨w.heap.size+1,0,none⟩ (Iv 0)).setCell ⟨w.heap.size+2,0,none⟩ (Iv 0)):=(((((Chg.refl _ _).setCell (.inl zq) _).setCell (.inl zq) _).setCell (.inl zq) _).setCell (.inl zq) _).setCell (.inl zq) _;have h1:=mA.o;exact eB.o.keep (λb hb=>hst.block b hb.2 (by have:=hb.1;simp;omega)) λb hb=>⟨by have:=hb.1;omega,Nat.lt_of_lt_of_le hb.2 hst.size⟩
  clear jB dA gB rA eB aA HB7;go_wp2_with fail;exact Jmi pA.o rfl HXX.o _ rfl rfl rfl
def Qdn(l:By)(w:World)(hl:l.length<=281474976710655)(hL:Laid w):Calls prog 15 #[Sv l] w (PsP w (Qcl l)):=by
 unfold Qcl
 by_cases h:(Qbi l).2.1=0
 ·rw[if_pos h];exact Jga l w hl hL _ (Qbi l).2.2 (by rw[<- h])
 ·rw[if_neg h];exact JfZ l w hl hL h
open Go Go.Lib
def ltB(a b:By):Bool:=Op.bytesLess a b
mutual
def utN:Exp->Nd
 |.mk k n s l=>.mk k n s 0 (utL l)
def utL:List Exp->List Nd
 |[]=>[]
 |a::l=>utN a::utL l
end
def Qam(nf vars:Nat)(k n:Int)(s:By):Bool:=
 (if k=0 then decide (0<=n)&&decide (n<=1125899906842624)
  else if k=1 then n==0||n==1
  else if k=2 then decide (0<=n)&&decide (n<(vars:Int))
  else if k=19 then n==(vars:Int)
  else if k=20 then decide (0<=n)&&decide (n<(nf:Int))
  else n==0) &&
 (if k=3 then (QaU s).isSome else if k=4\/k=5 then QcD s else s==[])&&decide (0<=k)&&decide (k<21)
def QaM(pa:List Nat)(k n:Int):Nat:=
 if k=0\/k=1\/k=2\/k=3\/k=4\/k=5 then 0
 else if k=6\/k=7 then 1
 else if k=18 then 3
 else if k=20 then pa.getD n.toNat 0
 else 2
mutual
def QaK(pa:List Nat):Nat->Nat->Exp->Bool
 |vars,Qag,.mk k n s l=>decide (1<=Qag)&&Qam pa.length vars k n s&&l.length==QaM pa k n&&QaB pa vars (Qag-1) k 0 l
def QaB(pa:List Nat):Nat->Nat->Int->Nat->List Exp->Bool
 |_,_,_,_,[]=>true
 |vars,Qag,k,i,a::l=>QaK pa (if k=19/\i=1 then vars+1 else vars) Qag a&&QaB pa vars Qag k (i+1) l
end
def Qah.pa(r:Qah):List Nat:=r.funcs.map (·.params.length)
def Qah.sigs(r:Qah):List QaN:=r.funcs.map λf=>⟨f.params,f.result⟩
def Qbq(r:Qah):Bool:=r.funcs.all (λf=>QaK r.pa f.params.length 40 f.body)&&r.clauses.all λc=>QaK r.pa 0 40 c.cond
def Qbz(r:Qah):Bool:=r.funcs.all (λf=>QcT r.sigs f.params f.result (utN f.body)==[])&&r.clauses.all λc=>QcT r.sigs [] 1 (utN c.cond)==[]
def QbY(t:Int):Bool:=t==0||t==1
def QbU:List By->List FnM->Bool
 |_,[]=>true
 |seen,f::l=>Qbr f.name&&!decide (f.name∈seen)&&QbY f.result&&f.params.all QbY&&QbU (seen++[f.name]) l
def QdR(n:Int):Bool:=decide (0<=n)&&decide (n<=3)
def QgH(l:List ClM):Bool:=l.all λc=>QdR c.action&&QcD c.reason
def Qat(r:Qah):Bool:=QbU [] r.funcs&&QgH r.clauses&&QdR r.action&&Qbq r&&Qbz r
structure Qaj where
 labels:List (By × Int)
 likes:Int
 boosts:Int
 replies:Int
 reports:Int
 age:Int
 home:Int
 scope:Int
 length:Int
 follows:Bool
 reply:Bool
 words:List By
def QfR(n:Int):Bool:=decide (0<=n)&&decide (n<=1125899906842624)
def Qaj.nums(f:Qaj):List Int:=[f.likes,f.boosts,f.replies,f.reports,f.age,f.home,f.scope,f.length]
def Qba:Option By->List (By × Int)->Bool
 |_,[]=>true
 |p,c::l=>decide (1<=c.2)&&decide (c.2<=1125899906842624)&&(match p with|none=>true|some q=>ltB q c.1)&&Qba (some c.1) l
def Qcz:Option By->List By->Bool
 |_,[]=>true
 |p,c::l=>(match p with|none=>true|some q=>ltB q c)&&Qcz (some c) l
def QaF(f:Qaj):Bool:=f.nums.all QfR&&Qba none f.labels&&Qcz none f.words
def Qcs(b:Bool):Int:=if b=true then 1 else 0
def QcM(f:Qaj)(s:By):Int:=
 if s=Qco then f.likes else if s=Qch then f.boosts else if s=QbD then f.replies else if s=QbC then f.reports
 else if s=QfI then f.age else if s=QdQ then f.home else if s=QcS then f.scope else if s=Qcg then f.length
 else if s=QbE then Qcs f.follows else Qcs f.reply
def Qcm:List (By × Int)->By->Int
 |[],_=>0
 |c::l,s=>if c.1=s then c.2 else Qcm l s
def QcZ(l:List By)(s:By):Int:=Qcs (decide (s∈l))
inductive RN(α:Type) where
 |fault (er:Int) (used:Nat)
 |val (a:α) (used:Nat)
def RN.bind{α β:Type}(x:RN α)(f:α->Nat->RN β):RN β:=match x with|.fault e u=>.fault e u|.val a u=>f a u
def clI(n:Int):Int:=if n < -1125899906842624 then -1125899906842624 else if 1125899906842624<n then 1125899906842624 else n
def Qax(k a b:Int)(u:Nat):RN Int:=
 if k=6 then .val (clI (0-a)) u
 else if k=7 then .val (1-a) u
 else if k=8 then .val (clI (a+b)) u
 else if k=9 then .val (clI (a-b)) u
 else if k=10 then .val (clI (a*b)) u
 else if k=11 then (if b=0 then .fault 1 u else .val (clI (a.tdiv b)) u)
 else if k=12 then (if b=0 then .fault 1 u else .val (clI (a.tmod b)) u)
 else if k=13 then .val (Qcs (decide (a<b))) u
 else if k=14 then .val (Qcs (decide (a<=b))) u
 else .val (Qcs (decide (a=b))) u
mutual
def evN(call:Int->List Int->Nat->RN Int)(F:Qaj):List Int->Nat->Exp->RN Int
 |vars,u,.mk k n s l=>
  if k=0\/k=1 then .val n u
  else if k=2 then .val (vars.getD n.toNat 0) u
  else if k=3 then .val (QcM F s) u
  else if k=4 then .val (Qcm F.labels s) u
  else if k=5 then .val (QcZ F.words s) u
  else if k=16 then
   match l with
   |[a,b]=>(evN call F vars u a).bind λv u'=>if v=0 then .val 0 u' else evN call F vars u' b
   |_=>.val 0 u
  else if k=17 then
   match l with
   |[a,b]=>(evN call F vars u a).bind λv u'=>if v=0 then evN call F vars u' b else .val 1 u'
   |_=>.val 0 u
  else if k=18 then
   match l with
   |[c,a,b]=>(evN call F vars u c).bind λv u'=>if v=0 then evN call F vars u' b else evN call F vars u' a
   |_=>.val 0 u
  else if k=19 then
   match l with
   |[a,b]=>(evN call F vars u a).bind λv u'=>evN call F (vars++[v]) u' b
   |_=>.val 0 u
  else (evL call F vars u l).bind λvs u'=>if k=20 then call n vs u' else Qax k (vs.getD 0 0) (vs.getD 1 0) u'
def evL(call:Int->List Int->Nat->RN Int)(F:Qaj):List Int->Nat->List Exp->RN (List Int)
 |_,u,[]=>.val [] u
 |vars,u,a::l=>(evN call F vars u a).bind λv u'=>(evL call F vars u' l).bind λvs u''=>.val (v::vs) u''
end
def J5(call:Int->List Int->Nat->RN Int)(F:Qaj)(vars:List Int)(u:Nat)(k n:Int)(s:By)(l:List Exp):evN call F vars u (.mk k n s l) =
  if k=0\/k=1 then .val n u
  else if k=2 then .val (vars.getD n.toNat 0) u
  else if k=3 then .val (QcM F s) u
  else if k=4 then .val (Qcm F.labels s) u
  else if k=5 then .val (QcZ F.words s) u
  else if k=16 then
   match l with
   |[a,b]=>(evN call F vars u a).bind λv u'=>if v=0 then .val 0 u' else evN call F vars u' b
   |_=>.val 0 u
  else if k=17 then
   match l with
   |[a,b]=>(evN call F vars u a).bind λv u'=>if v=0 then evN call F vars u' b else .val 1 u'
   |_=>.val 0 u
  else if k=18 then
   match l with
   |[c,a,b]=>(evN call F vars u c).bind λv u'=>if v=0 then evN call F vars u' b else evN call F vars u' a
   |_=>.val 0 u
  else if k=19 then
   match l with
   |[a,b]=>(evN call F vars u a).bind λv u'=>evN call F (vars++[v]) u' b
   |_=>.val 0 u
  else (evL call F vars u l).bind λvs u'=>if k=20 then call n vs u' else Qax k (vs.getD 0 0) (vs.getD 1 0) u':=by
 conv=>lhs;unfold evN
def Zd(fs:List QaN)(vars:List Int)(k n:Int)(s:By)(o:Int)(l:List Nd):ofN fs vars (.mk k n s o l) =
  if k=1\/k=5 then (1,[])
  else if k=2 then (vars.getD n.toNat 0,[])
  else if k=3 then ((QaU s).getD 0,[])
  else if k=6\/(8<=k/\k<=12) then (0,Qbp fs vars 0 l)
  else if k=13\/k=14 then (1,Qbp fs vars 0 l)
  else if k=15 then
   match l with
   |[a,b]=>let x:=ofN fs vars a;let y:=ofN fs vars b;(1,x.2++y.2++if y.1≠x.1 then [b.off] else [])
   |_=>(1,[])
  else if k=7\/k=16\/k=17 then (1,Qbp fs vars 1 l)
  else if k=18 then
   match l with
   |[c,a,b]=>let z:=ofN fs vars c;let x:=ofN fs vars a;let y:=ofN fs vars b;(x.1,z.2++(if z.1≠1 then [c.off] else [])++x.2++y.2++if y.1≠x.1 then [b.off] else [])
   |_=>(0,[])
  else if k=19 then
   match l with
   |[a,b]=>let x:=ofN fs vars a;let y:=ofN fs (vars++[x.1]) b;(y.1,x.2++y.2)
   |_=>(0,[])
  else if k=20 then
   let f:=fs.getD n.toNat ⟨[],0⟩
   (f.result,(if l.length≠f.params.length then [o] else [])++QcX fs vars (l.length==f.params.length) f.params l)
  else (0,[]):=by
 conv=>lhs;unfold ofN
 rfl
def Qjb:Exp:=.mk 0 0 [] []
def Qja:FnM:=⟨[],[],0,Qjb⟩
def Qcb(fs:List FnM)(F:Qaj):Nat->Int->List Int->Nat->RN Int
 |0,_,_,u=>if u=10000 then .fault 14 u else .fault 7 (u+1)
 |d+1,n,args,u=>if u=10000 then .fault 14 u else evN (Qcb fs F d) F args (u+1) (fs.getD n.toNat Qja).body
structure QeD where
 action:Int
 reason:By
 used:Nat
 fault:Int
deriving DecidableEq
def Qfc(r:Qah)(F:Qaj):Nat->List ClM->QeD
 |u,[]=>⟨r.action,[],u,0⟩
 |u,c::l=>
  if u=10000 then⟨0,[],u,14⟩
  else match evN (Qcb r.funcs F 100) F [] (u+1) c.cond with
   |.fault e u'=>⟨0,[],u',e⟩
   |.val v u'=>if v=0 then Qfc r F u' l else⟨c.action,c.reason,u',0⟩
def QdM(r:Qah)(F:Qaj):QeD:=if Qat r=true/\QaF F=true then Qfc r F 0 r.clauses else⟨0,[],0,1⟩
def VOk(t v:Int):Prop:=(t=0/\-1125899906842624<=v/\v<=1125899906842624)\/(t=1/\(v=0\/v=1))
def QdC(ts vs:List Int):Prop:=ts.length=vs.length/\∀(i:Nat) (t v:Int),ts[i]?=some t->vs[i]?=some v->VOk t v
def QdC.nil:QdC [] []:=⟨rfl,λi t v h=>by simp at h⟩
def QdC.cons{t v:Int}{ts vs:List Int}(h:VOk t v)(k:QdC ts vs):QdC (t::ts) (v::vs):=by
 refine⟨by simp[k.1],λi a b ha hb=>?_⟩
 cases i with
 |zero=>simp at ha hb;subst ha;subst hb;exact h
 |succ i=>simp at ha hb;exact k.2 i a b ha hb
def QdC.snoc{t v:Int}{ts vs:List Int}(k:QdC ts vs)(h:VOk t v):QdC (ts++[t]) (vs++[v]):=by
 refine⟨by simp[k.1],λi a b ha hb=>?_⟩
 by_cases hi:i<ts.length
 ·rw[List.getElem?_append_left hi]at ha;rw[List.getElem?_append_left (by rw[<- k.1];exact hi)]at hb;exact k.2 i a b ha hb
 ·rw[List.getElem?_append_right zo]at ha;rw[List.getElem?_append_right (by rw[<- k.1];omega),<- k.1]at hb;have:i-ts.length=0:=by have:=(List.getElem?_eq_some_iff.1 ha).1;simp at this;omega
  rw[this]at ha hb;simp at ha hb;subst ha;subst hb;exact h
def Qev{α:Type}(R:α->Prop)(u:Nat):RN α->Prop
 |.fault e u'=>u<=u'/\u'<=10000/\(e=1\/e=7\/e=14/\u'=10000)
 |.val v u'=>u<=u'/\u'<=10000/\R v
def Qev.bind{α β:Type}{R:α->Prop}{S:β->Prop}{u:Nat}{x:RN α}{f:α->Nat->RN β}(h:Qev R u x)(k:∀v u',u<=u'->u'<=10000->R v->Qev S u' (f v u')):Qev S u (x.bind f):=by
 cases x with
 |fault e u'=>exact h
 |val v u'=>
  obtain⟨h1,h2,h3⟩:=h;have:=k v u' h1 h2 h3;unfold RN.bind;simp only
  cases hf:f v u' with
  |fault e u2=>rw[hf]at this;exact⟨by have:=this.1;omega,this.2⟩
  |val v2 u2=>rw[hf]at this;exact⟨by have:=this.1;omega,this.2⟩
def Qev.le{α:Type}{R:α->Prop}{u u':Nat}{x:RN α}(h:Qev R u' x)(hu:u<=u'):Qev R u x:=by
 cases x with
 |fault e v=>exact⟨by have:=h.1;omega,h.2⟩
 |val a v=>exact⟨by have:=h.1;omega,h.2⟩
def TyL(fs:List QaN)(vars:List Int):List Int->List Nd->Prop
 |[],[]=>True
 |t::ts,a::l=>ofN fs vars a=(t,[])/\TyL fs vars ts l
 |_,_=>False
def V9{fs:List QaN}{vars:List Int}{t:Int}{a:Nd}(h:QcT fs vars t a=[]):ofN fs vars a=(t,[]):=by
 unfold QcT at h;simp only[append_eq_nil_iff]at h;obtain⟨h1,h2⟩:=h;split at h2
 ·cases h2
 ·rename_i hn;simp at hn;exact Prod.ext hn h1
def J9{fs:List QaN}{vars:List Int}{t:Int}:∀{l:List Nd},Qbp fs vars t l=[]->TyL fs vars (List.replicate l.length t) l
 |[],_=>trivial
 |a::l,h=>by
  rw[Qbp]at h;simp only[append_eq_nil_iff]at h;exact⟨V9 (by unfold QcT;simp only[append_eq_nil_iff];exact h.1),J9 h.2⟩
def JbE{fs:List QaN}{vars:List Int}:∀{ps:List Int} {l:List Nd},l.length=ps.length->QcX fs vars true ps l=[]->TyL fs vars ps l
 |[],[],_,_=>trivial
 |[],a::l,hl,_=>by simp at hl
 |p::ps,[],hl,_=>by simp at hl
 |p::ps,a::l,hl,h=>by
  rw[QcX]at h;simp only[append_eq_nil_iff,true_and,List.headD_cons,List.tail_cons]at h;refine⟨V9 (t:=p) (by unfold QcT;simp only[append_eq_nil_iff];exact h.1),JbE (by simpa using hl) h.2⟩
def Ya(b:Bool):VOk 1 (Qcs b):=by cases b<;>exact .inr ⟨rfl,by simp[Qcs]⟩
def JhK(n:Int):VOk 0 (clI n):=by
 refine .inl ⟨rfl,?_⟩;unfold clI;split
 ·omega
 split<;>omega
def Jlg{n:Int}(h:QfR n=true):VOk 0 n:=by simp[QfR]at h;exact .inl ⟨rfl,by omega,by omega⟩
def Jkb{F:Qaj}(h:QaF F=true){s:By}{t:Int}(ht:QaU s=some t):VOk t (QcM F s):=by
 unfold QaF Qaj.nums at h;simp only[List.all_cons,List.all_nil,Bool.and_true,Bool.and_eq_true]at h;obtain⟨⟨⟨h1,h2,h3,h4,h5,h6,h7,h8⟩,_⟩,_⟩:=h;unfold QaU at ht;split at ht
 ·rename_i hm;obtain rfl:(0:Int)=t:=by simpa using ht
  simp only[List.mem_cons,List.not_mem_nil,or_false]at hm
  rcases hm with rfl|rfl|rfl|rfl|rfl|rfl|rfl|rfl<;>refine Jlg ?_<;>simp only[QcM,Qco,Qch,QbD,QbC,QfI,QdQ,QcS,Qcg]<;>simp<;>assumption
 ·split at ht
  ·rename_i hm;obtain rfl:(1:Int)=t:=by simpa using ht
   simp only[List.mem_cons,List.not_mem_nil,or_false]at hm
   rcases hm with rfl|rfl
   ·rw[show QcM F QbE=Qcs F.follows by simp[QcM,Qco,Qch,QbD,QbC,QfI,QdQ,QcS,Qcg,QbE]];exact Ya _
   ·rw[show QcM F Qep=Qcs F.reply by simp[QcM,Qco,Qch,QbD,QbC,QfI,QdQ,QcS,Qcg,QbE,Qep]];exact Ya _
  ·cases ht
def JbF:∀{l:List (By × Int)} {p:Option By} (s:By),Qba p l=true->VOk 0 (Qcm l s)
 |[],_,s,_=>.inl ⟨rfl,by simp[Qcm],by simp[Qcm]⟩
 |c::l,p,s,h=>by
  unfold Qba at h;simp only[Bool.and_eq_true,decide_eq_true_eq]at h;rw[Qcm];split
  ·exact .inl ⟨rfl,by omega,by omega⟩
  ·exact JbF s h.2
def JcF{F:Qaj}(h:QaF F=true):Qba none F.labels=true:=by
 unfold QaF at h;simp only[Bool.and_eq_true]at h;exact h.1.2
def JdX{fs:List QaN}{n:Int}(h0:0<=n)(h1:n<(fs.length:Int)):∃f,fs[n.toNat]?=some f:=⟨fs[n.toNat]'(by omega),List.getElem?_eq_getElem _⟩
def JT{l:List Exp}(h:l.length=2):∃a b,l=[a,b]:=by
 match l,h with
 |[a,b],_=>exact⟨a,b,rfl⟩
def Vb{l:List Exp}(h:l.length=3):∃a b c,l=[a,b,c]:=by
 match l,h with
 |[a,b,c],_=>exact⟨a,b,c,rfl⟩
def Jz(l:List Exp):(utL l).length=l.length:=by
 induction l with
 |nil=>rw[utL];rfl
 |cons a l ih=>rw[utL,List.length_cons,List.length_cons,ih]
def JI{pa:List Nat}{vars Qag:Nat}{k n:Int}{s:By}{l:List Exp}(h:QaK pa vars Qag (.mk k n s l)=true) :
  1<=Qag/\Qam pa.length vars k n s=true/\l.length=QaM pa k n/\QaB pa vars (Qag-1) k 0 l=true:=by
 rw[QaK]at h;simp only[Bool.and_eq_true,decide_eq_true_eq,beq_iff_eq]at h;exact⟨h.1.1.1,h.1.1.2,h.1.2,h.2⟩
def Yy{nf vars:Nat}{k n:Int}{s:By}(h:Qam nf vars k n s=true):k=0\/k=1\/k=2\/k=3\/k=4\/k=5\/k=6\/k=7\/(8<=k/\k<=14)\/k=15\/k=16\/k=17\/k=18\/k=19\/k=20:=by
 unfold Qam at h;simp only[Bool.and_eq_true,decide_eq_true_eq]at h;omega
def JbG{k a b:Int}{u:Nat}(hu:u<=10000)(ha:VOk (if k=7 then 1 else 0) a)(hb:k≠6->k≠7->VOk 0 b)(hk:k=6\/k=7\/(8<=k/\k<=14)):Qev (VOk (if 13<=k\/k=7 then 1 else 0)) u (Qax k a b u):=by
 unfold Qax
 by_cases h6:k=6
 ·subst h6;simp only[if_true];exact⟨le_refl _,hu,by simpa using JhK _⟩
 rw[if_neg h6]
 by_cases h7:k=7
 ·subst h7;simp only[if_true];refine⟨le_refl _,hu,?_⟩
  rcases ha with⟨h,_⟩|⟨_,h⟩
  ·exact absurd h zp
  ·refine .inr ⟨rfl,?_⟩;omega
 rw[if_neg h7];generalize hG:(if 13<=k\/k=7 then (1:Int) else 0)=G;have hlo:∀n:Int,k<=12->Qev (VOk G) u (.val (clI n) u):=λn hn=>by rw[if_neg zo]at hG;subst hG;exact⟨le_refl _,hu,JhK n⟩
 have xA:∀n:Bool,13<=k->Qev (VOk G) u (.val (Qcs n) u):=λn hn=>by rw[if_pos (.inl hn)]at hG;subst hG;exact⟨le_refl _,hu,Ya n⟩
 split
 ·exact hlo _ zo
 split
 ·exact hlo _ zo
 split
 ·exact hlo _ zo
 split
 ·split
  ·exact⟨le_refl _,hu,.inl rfl⟩
  ·exact hlo _ zo
 split
 ·split
  ·exact⟨le_refl _,hu,.inl rfl⟩
  ·exact hlo _ zo
 split
 ·exact xA _ zo
 split
 ·exact xA _ zo
 ·exact xA _ zo
def JoF(a b:Int){u:Nat}(hu:u<=10000):Qev (VOk 1) u (Qax 15 a b u):=by
 unfold Qax;simp only[show ¬(15:Int)=6 by decide,show ¬(15:Int)=7 by decide,show ¬(15:Int)=8 by decide,show ¬(15:Int)=9 by decide,show ¬(15:Int)=10 by decide,show ¬(15:Int)=11 by decide,show ¬(15:Int)=12 by decide,show ¬(15:Int)=13 by decide,show ¬(15:Int)=14 by decide,if_false];exact⟨le_refl _,hu,Ya _⟩
def Qet(fs:List QaN)(call:Int->List Int->Nat->RN Int):Prop:=∀n args u f,0<=n->fs[n.toNat]?=some f->QdC f.params args->u<=10000->Qev (VOk f.result) u (call n args u)
def QbP(fs:List QaN):List Nat:=fs.map (·.params.length)
def K5(fs:List QaN):(QbP fs).length=fs.length:=by simp[QbP]
def TyL.two{fs:List QaN}{vars:List Int}{t1 t2:Int}{a b:Nd}(h:TyL fs vars [t1,t2] [a,b]):ofN fs vars a=(t1,[])/\ofN fs vars b=(t2,[]):=⟨h.1,h.2.1⟩
def Kb{pa:List Nat}{vars Qag:Nat}{k:Int}{a b:Exp}(h:QaB pa vars Qag k 0 [a,b]=true):QaK pa vars Qag a=true/\QaK pa (if k=19 then vars+1 else vars) Qag b=true:=by
 rw[QaB,QaB,QaB]at h;simp at h;exact h
def Yb{pa:List Nat}{vars Qag:Nat}{k:Int}{a b c:Exp}(hk:k≠19)(h:QaB pa vars Qag k 0 [a,b,c]=true):QaK pa vars Qag a=true/\QaK pa vars Qag b=true/\QaK pa vars Qag c=true:=by
 rw[QaB,QaB,QaB,QaB]at h;simp[hk]at h;exact h
mutual
def KA{fs:List QaN}{F:Qaj}{call:Int->List Int->Nat->RN Int}(hF:QaF F=true)(hc:Qet fs call) :
  ∀(e:Exp) (vars vals:List Int) (Qag u:Nat) (t:Int),QaK (QbP fs) vars.length Qag e=true->ofN fs vars (utN e)=(t,[])->QdC vars vals->u<=10000->Qev (VOk t) u (evN call F vals u e)
 |.mk k n s l,vars,vals,Qag,u,t,hf,ht,hv,hu=>by
  obtain⟨_,hfi,har,hk⟩:=JI hf;have hkind:=Yy hfi;have hfi':=hfi;unfold Qam at hfi;rw[K5]at hfi;simp only[Bool.and_eq_true,decide_eq_true_eq]at hfi;obtain⟨⟨⟨hn,hs⟩,_⟩,_⟩:=hfi;rw[utN,Zd]at ht;rw[J5]
  rcases hkind with rfl|rfl|rfl|rfl|rfl|rfl|rfl|rfl|h8|rfl|rfl|rfl|rfl|rfl|rfl
  ·
   simp at ht hn |-;subst ht;exact⟨le_refl _,hu,.inl ⟨rfl,by omega,by omega⟩⟩
  ·
   simp at ht hn |-;subst ht;exact⟨le_refl _,hu,.inr ⟨rfl,hn⟩⟩
  ·
   simp at ht hn |-;refine⟨le_refl _,hu,?_⟩;have h1:n.toNat<vars.length:=by omega
   have h2:n.toNat<vals.length:=by rw[<- hv.1];exact h1
   rw[List.getElem?_eq_getElem h1]at ht;rw[List.getElem?_eq_getElem h2];simp at ht |-;subst ht;exact hv.2 _ _ _ (List.getElem?_eq_getElem h1) (List.getElem?_eq_getElem h2)
  ·
   simp at ht hn hs |-;obtain⟨t',ht'⟩:=Option.isSome_iff_exists.1 hs;rw[ht']at ht;simp at ht;subst ht;exact⟨le_refl _,hu,Jkb hF ht'⟩
  ·
   simp at ht |-;subst ht;exact⟨le_refl _,hu,JbF s (JcF hF)⟩
  ·
   simp at ht |-;subst ht;exact⟨le_refl _,hu,Ya _⟩
  ·
   simp at ht |-;obtain⟨rfl,ht⟩:=ht;have hl:l.length=1:=har;have hty:=J9 ht;rw[Jz,hl]at hty;refine(VB hF hc l vars vals (Qag-1) u [0] 6 0 (by decide) hk hty hv hu).bind λvs u' h1 h2 h3=>?_
   have h0:vs.length=1:=h3.1.symm
   match vs,h0,h3 with
   |[a],_,h3=>exact JbG (k:=6) h2 (h3.2 0 0 a rfl rfl) (λh=>absurd rfl h) (.inl rfl)
  ·
   simp at ht |-;obtain⟨rfl,ht⟩:=ht;have hl:l.length=1:=har;have hty:=J9 ht;rw[Jz,hl]at hty;refine(VB hF hc l vars vals (Qag-1) u [1] 7 0 (by decide) hk hty hv hu).bind λvs u' h1 h2 h3=>?_
   have h0:vs.length=1:=h3.1.symm
   match vs,h0,h3 with
   |[a],_,h3=>exact JbG (k:=7) h2 (h3.2 0 1 a rfl rfl) (λ_ h=>absurd rfl h) (.inr (.inl rfl))
  ·
   have hl:l.length=2:=by rw[har];unfold QaM;rw[if_neg (by omega),if_neg (by omega),if_neg (by omega),if_neg (by omega)]
   obtain⟨h81,h82⟩:=h8
   have hty:TyL fs vars [0,0] (utL l)/\t=if 13<=k\/k=7 then 1 else 0:=by
    by_cases h13:13<=k
    ·rw[if_neg (by omega),if_neg (by omega),if_neg (by omega),if_neg (by omega),if_pos (by omega)]at ht;simp at ht;have hty:=J9 ht.2;rw[Jz,hl]at hty;exact⟨hty,by rw[if_pos (.inl h13)];exact ht.1.symm⟩
    ·rw[if_neg (by omega),if_neg (by omega),if_neg (by omega),if_pos (by omega)]at ht;simp at ht;have hty:=J9 ht.2;rw[Jz,hl]at hty;exact⟨hty,by rw[if_neg (by omega)];exact ht.1.symm⟩
   obtain⟨hty,ht'⟩:=hty;rw[if_neg (by omega),if_neg (by omega),if_neg (by omega),if_neg (by omega),if_neg (by omega),if_neg (by omega),if_neg (by omega),if_neg (by omega),if_neg (by omega)];refine(VB hF hc l vars vals (Qag-1) u [0,0] k 0 (by omega) hk hty hv hu).bind λvs u' h1 h2 h3=>?_
   have h0:vs.length=2:=h3.1.symm;rw[if_neg (by omega),ht']
   match vs,h0,h3 with
   |[a,b],_,h3=>exact JbG h2 (by rw[if_neg (by omega)];exact h3.2 0 0 a rfl rfl) (λ_ _=>h3.2 1 0 b rfl rfl) (by omega)
  ·
   have hl:l.length=2:=har;obtain⟨a,b,rfl⟩:=JT hl;simp[utL]at ht |-;obtain⟨rfl,h1,h2,h3⟩:=ht;refine(VB hF hc [a,b] vars vals (Qag-1) u [(ofN fs vars (utN a)).1,(ofN fs vars (utN b)).1] 15 0 (by decide) hk (by rw[utL,utL,utL];exact⟨Prod.ext rfl h1,Prod.ext rfl h2,trivial⟩) hv hu).bind λvs u' _ h2 _=>?_
   exact JoF _ _ h2
  ·
   have hl:l.length=2:=har;obtain⟨a,b,rfl⟩:=JT hl;simp at ht |-;obtain⟨rfl,ht⟩:=ht;have hty:=J9 ht;rw[Jz,hl,utL,utL,utL]at hty;obtain⟨ha,hb⟩:=TyL.two hty;obtain⟨fa,fb⟩:=Kb hk;simp at fb;refine(KA hF hc a vars vals _ u 1 fa ha hv hu).bind λv u' h1 h2 h3=>?_
   split
   ·exact⟨le_refl _,h2,.inr ⟨rfl,.inl rfl⟩⟩
   ·exact KA hF hc b vars vals _ u' 1 fb hb hv h2
  ·
   have hl:l.length=2:=har;obtain⟨a,b,rfl⟩:=JT hl;simp at ht |-;obtain⟨rfl,ht⟩:=ht;have hty:=J9 ht;rw[Jz,hl,utL,utL,utL]at hty;obtain⟨ha,hb⟩:=TyL.two hty;obtain⟨fa,fb⟩:=Kb hk;simp at fb;refine(KA hF hc a vars vals _ u 1 fa ha hv hu).bind λv u' h1 h2 h3=>?_
   split
   ·exact KA hF hc b vars vals _ u' 1 fb hb hv h2
   ·exact⟨le_refl _,h2,.inr ⟨rfl,.inr rfl⟩⟩
  ·
   have hl:l.length=3:=har;obtain⟨c,a,b,rfl⟩:=Vb hl;simp[utL]at ht |-;obtain⟨h0,h1,h2,h3,h4,h5⟩:=ht;obtain⟨fc,fa,fb⟩:=Yb (by decide) hk;refine(KA hF hc c vars vals _ u 1 fc (Prod.ext h2 h1) hv hu).bind λv u' g1 g2 g3=>?_
   split
   ·exact KA hF hc b vars vals _ u' t fb (Prod.ext (h5.trans h0) h4) hv g2
   ·exact KA hF hc a vars vals _ u' t fa (Prod.ext h0 h3) hv g2
  ·
   have hl:l.length=2:=har;obtain⟨a,b,rfl⟩:=JT hl;simp[utL]at ht |-;obtain⟨h1,h2,h3⟩:=ht;obtain⟨fa,fb⟩:=Kb hk;simp at fb;have ha:ofN fs vars (utN a)=((ofN fs vars (utN a)).1,[]):=Prod.ext rfl h2;have hb:ofN fs (vars++[(ofN fs vars (utN a)).1]) (utN b)=(t,[]):=Prod.ext h1 h3;refine(KA hF hc a vars vals _ u (ofN fs vars (utN a)).1 fa ha hv hu).bind λv u' g1 g2 g3=>?_
   exact KA hF hc b (vars++[(ofN fs vars (utN a)).1]) (vals++[v]) _ u' t (by rw[List.length_append];exact fb) hb (hv.snoc g3) g2
  ·
   simp at ht hn |-;obtain⟨f,hf'⟩:=JdX hn.1 hn.2;rw[hf']at ht;simp at ht;obtain⟨rfl,h1,h2⟩:=ht;have h1':(utL l).length=f.params.length:=h1;rw[h1']at h2;simp at h2;have hty:=JbE h1' h2;refine(VB hF hc l vars vals (Qag-1) u f.params 20 0 (by decide) hk hty hv hu).bind λvs u' g1 g2 g3=>?_
   exact hc n vs u' f hn.1 hf' g3 g2
def VB{fs:List QaN}{F:Qaj}{call:Int->List Int->Nat->RN Int}(hF:QaF F=true)(hc:Qet fs call) :
  ∀(l:List Exp) (vars vals:List Int) (Qag u:Nat) (ts:List Int) (k:Int) (i:Nat),k≠19->QaB (QbP fs) vars.length Qag k i l=true->TyL fs vars ts (utL l)->QdC vars vals->u<=10000->Qev (QdC ts) u (evL call F vals u l)
 |[],vars,vals,Qag,u,ts,k,i,hk,hf,ht,hv,hu=>by
  rw[utL]at ht;rw[evL]
  cases ts with
  |nil=>exact⟨le_refl _,hu,QdC.nil⟩
  |cons t ts=>exact ht.elim
 |a::l,vars,vals,Qag,u,ts,k,i,hk,hf,ht,hv,hu=>by
  rw[utL]at ht;rw[evL];rw[QaB]at hf;simp only[Bool.and_eq_true]at hf;rw[if_neg λh=>hk h.1]at hf
  cases ts with
  |nil=>exact ht.elim
  |cons t ts=>
   refine(KA hF hc a vars vals Qag u t hf.1 ht.1 hv hu).bind λv u' g1 g2 g3=>?_
   refine(VB hF hc l vars vals Qag u' ts k (i+1) hk hf.2 ht.2 hv g2).bind λvs u2 k1 k2 k3=>?_
   exact⟨le_refl _,k2,QdC.cons g3 k3⟩
end
end Go.Proofs.YtfafpklefknomaaGreatDoor
