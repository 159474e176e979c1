import Derived.Deep.Slices
import Derived.Deep.Fields
import Derived.SliceStrings
import Derived.ChangeSlices
import Derived.ChangeMaps5
import Derived.Test.YtncanmdgdflnpaaGreatDoorR08
open List(append_eq_nil_iff getElem?_eq_getElem)
open Nat(add_zero one_mul zero_mul)
namespace Go.Proofs.YtncanmdgdflnpaaGreatDoor
open Go.ChangeShapes Go.WideShapes Go.ChangeAt Go.RowKit Go.Lib
open _root_.Go.Proofs.Tryz
set_option linter.all false
set_option maxRecDepth 100000
set_option maxHeartbeats 32000000
def QbV(w:World)(b n:Nat)(S:List By):Prop:=
 ∃D:DataW Unit,w.ownsMap prog 9 (plainElem prog 4) b n D/\Go.Maps.IsMap D/\
  ∀s:By,s.length<=1000000->D.atKey (.string s) (.lit (.bool false))=.lit (.bool (decide (s∈S)))
def QiX(w:World):(zeroValue 4).run prog w=.ok (.bool false) w:=zk
def Jah{P:Program}{e:TypeId}(he:P.underlying e=some .bool){v:Value}{z:DataW Unit×List MemPlace}(h:plainElem P e v=some z):∃x,v=.bool x/\z=(.lit (.bool x),[]):=by
 unfold plainElem at h;rw[he]at h
 cases v<;>simp at h
 exact⟨_,rfl,h.symm⟩
def QbV.look{w:World}{b n:Nat}{S:List By}(h:QbV w b n S){s:By}(hs:s.length<=1000000):
  (Instr.lookup 93 (.map (some b)) (Sv s) false).run prog w=.ok (.bool (decide (s∈S))) w:=by
 obtain⟨D,ho,hm,hf⟩:=h;obtain⟨v,ps,hrun,hv⟩:=ho.lookup QcI underlying93 (QiX w) (plainElem_bool underlying4 false) (Yi hs);rw[hrun];rw[hf s hs]at hv;obtain⟨c,rfl,hc⟩:=Jah underlying4 hv;simp only[Prod.mk.injEq,DataW.lit.injEq,Lit.bool.injEq]at hc;rw[<-hc.1]
def QbV.upd{w:World}{b n:Nat}{S:List By}(h:QbV w b n S)(hn:n<maxLen){s:By}(hs:s.length<=1000000):
  ∃w',(Instr.mapUpdate 93 (.map (some b)) (Sv s) (.bool true)).run prog w=.ok () w'/\QbV w' b (n+1) (S++[s])/\Chg [b] w w':=by
 obtain⟨D,ho,hm,hf⟩:=h;have hk:=Yi hs;obtain⟨w',hrun,yA,hg⟩:=ho.update QcI underlying93 hn hk (plainElem_bool underlying4 true);refine⟨w',hrun,⟨_,yA,hm.put _ _,λx hx=>?_⟩,Chg.of_grownBy hg⟩
 by_cases e:x=s
 ·subst e;rw[Go.Maps.atKey_put_same hm (QcI.key hk)];simp
 ·have xA:(Lit.string x)≠Lit.string s:=λh=>e (by injection h)
  rw[Go.Maps.atKey_put_other xA,hf x hx];simp[e]
def QbV.new(w:World):QbV (w.alloc (.map #[] 0)) w.heap.size 0 []:=
 ⟨.map [],World.ownsMap_made w _ _ _,Go.Maps.isMap_empty,λ_ _=>rfl⟩
def QbV.lt{w:World}{b n:Nat}{S:List By}(h:QbV w b n S):b<w.heap.size:=h.choose_spec.1.lt
def QbV.same{w w':World}{b n:Nat}{S:List By}(h:QbV w b n S)(hc:w'.heap[b]?=w.heap[b]?):QbV w' b n S:=by
 obtain⟨D,⟨es,xA,hb,r⟩,q⟩:=h;exact⟨D,⟨es,xA,hc.trans hb,r⟩,q⟩
def JfJ{s:By}(h:Qbd s=true):s.length<=24:=by
 unfold Qbd at h;split at h
 ·cases h
 ·simp only[Bool.and_eq_true,decide_eq_true_eq]at h;exact h.1.1.1.1
def JdV{l:List FnM}{i:Nat}{f:FnM}{nm:Bool}(h:QaZ ((l.take i).map (·.name)) (l.drop i)=nm)(hi:l[i]?=some f):
  (Qbd f.name&&!decide (f.name∈(l.take i).map (·.name))&&QaJ f.result&&f.params.all QaJ&&QaZ ((l.take (i+1)).map (·.name)) (l.drop (i+1)))=nm:=by
 obtain⟨hlt,he⟩:=List.getElem?_eq_some_iff.1 hi;rw[List.drop_eq_getElem_cons hlt,he,QaZ]at h;rw[List.take_add_one,hi,List.map_append];exact h
def Zz{t:Int}(h0:¬t=0)(h1:¬t=1):QaJ t=false:=by
 unfold QaJ;rw[zzq h0,zzq h1];rfl
def clB(c:ClM):Bool:=QdU c.action&&QbM c.reason
def Jke(l:List ClM):QkE l=l.all clB:=rfl
theorem zAg{P:Prop}(h:P:=by
  go_wp2;go_round
  case rel=>exact⟨j+1,by go_num,GC,rA⟩
  case measure=>simp[intOf];omega):P:=h
def JfK(r:Qah)(c:Array Value)(w:World)(hx:QaV w (In w) r c)(hz:RSz r):Calls prog 23 #[.agg c] w (QbL w (.bool (QbJ r))):=by
 obtain⟨fa,fc,ca,cc,rfl,hF,hC⟩:=hx.parts;obtain⟨nm,mA⟩:∃nm,QaZ [] r.funcs=nm:=⟨_,rfl⟩
 obtain⟨q,hq⟩:∃q,QbJ r=q:=⟨_,rfl⟩
 rw[hq];unfold QbJ at hq;rw[mA]at hq;have HQ:=Zh hq;have zB:Hi (QaZ ((r.funcs.take 0).map (·.name)) (r.funcs.drop 0)=nm):=mA;have yB:Below w.heap.size w (w.alloc (.cells #[.slice fa r.funcs.length fc,.slice ca r.clauses.length cc,Iv r.action] 30)):=zzb.alloc zzl _;have xB:Below w.heap.size w ((w.alloc (.cells #[.slice fa r.funcs.length fc,.slice ca r.clauses.length cc,Iv r.action] 30)).alloc (.map #[] 0)):=yB.alloc zp _;have S0:Hi (((w.alloc (.cells #[.slice fa r.funcs.length fc,.slice ca r.clauses.length cc,Iv r.action] 30)).alloc (.map #[] 0)).heap[w.heap.size]?=some (.cells #[.slice fa r.funcs.length fc,.slice ca r.clauses.length cc,Iv r.action] 30 (0,0))):=Jf (zzw w _)
 have zA:QbV ((w.alloc (.cells #[.slice fa r.funcs.length fc,.slice ca r.clauses.length cc,Iv r.action] 30)).alloc (.map #[] 0)) (w.heap.size+1) 0 ((r.funcs.take 0).map (·.name)):=by
  have e1:=QbV.new (w.alloc (.cells #[.slice fa r.funcs.length fc,.slice ca r.clauses.length cc,Iv r.action] 30));simp only[World.size_alloc]at e1;exact e1
 have dA:=Zh zA;have B0:Hi (∀W,Chg [w.heap.size+1] ((w.alloc (.cells #[.slice fa r.funcs.length fc,.slice ca r.clauses.length cc,Iv r.action] 30)).alloc (.map #[] 0)) W->Bel w W):=λW hW=>QdL (rb:=w.heap.size+1) xB zo hW
 have vB:=Zh hF;have U9:=Zh hC;have aB:=Zh hx;have HZ:=Zh hz;have bC:=hz.nf;have dC:=hz.nc;have qB:Hi (w.heap.size≠w.heap.size+1):=by unfold Hi;omega
 have nB:Hi (∀b,In w b->b≠w.heap.size+1):=by intro b hb e;unfold In at hb;omega
 have yC:=@run_makeMap prog;go_enter func23,ntmps23;go_upto_region 2 with fail
 (try simp only[World.size_alloc])
 generalize World.alloc (World.alloc w _) _=w2 at*;generalize w.heap.size+1=mb at*;generalize w.heap.size=eb at*
 have FF:Hi (∀W,Chg [mb] w2 W->W.cell? ⟨eb,0,none⟩=some (.slice fa r.funcs.length fc)/\W.cell? ⟨eb,1,none⟩=some (.slice ca r.clauses.length cc)/\W.cell? ⟨eb,2,none⟩=some (Iv r.action)):=by
  intro W hW;have hh:=hW.heap_some (by simp;exact qB.o) S0.o;refine⟨?_,?_,?_⟩<;>(rw[Ja hh];rfl)
 obtain⟨b0,b1,b2⟩:=FF.o _ (Chg.refl _ _);go_wp2_with fail;go_loopg [14] r.funcs.length λg v14 wr=>∃i:Nat,g+i=r.funcs.length/\v14=Iv i/\Hi (Chg [mb] w2 wr)/\Hi (QbV wr mb i ((r.funcs.take i).map (·.name)))/\Hi (QaZ ((r.funcs.take i).map (·.name)) (r.funcs.drop i)=nm)
 case atStart=>exact⟨0,rfl,rfl,Chg.refl _ _,dA,zB⟩
 case round=>
 obtain⟨wl,rfl⟩:=zG wr
 obtain⟨i,hg,rfl,G1,zA,iA⟩:=hrel
 by_cases hi:i<r.funcs.length
 ·have hil:(i:Int)<(r.funcs.length:Int):=zo
  obtain⟨f,hf⟩:∃f,r.funcs[i]?=some f:=⟨r.funcs[i],List.getElem?_eq_getElem hi⟩
  have hmem:=List.mem_of_getElem? hf;have X5:=vB.o.up (B0.o _ G1.o);obtain⟨b,o,pa,pc,da,dc,G3,hfc⟩:=X5.get hf;have uA:=hfc.nums
  have dB:Hi (∀{j:Nat}{t:Int},f.params[j]?=some t->∃b8 o8,pa=some ⟨b8,o8,none⟩/\b8≠mb):=by
   intro j t hj;obtain⟨b9,o9,vC,cC,eC,uC,hA,bA⟩:=vB.o.get hf;rw[G3]at hA;injection hA with e9;injection e9 with e1 e2;subst e1 e2;have hlt:b<w.heap.size:=bA.blt;have h1:=hfc.c1;have h2:wl.cell? _=_:=((B0.o _ G1.o).cell (p:=⟨b,o+i*7+1,none⟩) hlt).trans bA.c1;rw[h1]at h2;injection h2 with h2;injection h2 with h5 h6 h7;subst h5 h7;obtain⟨b8,o8,g1,g2,_⟩:=bA.nums.get hj;exact⟨b8,o8,g1,λe=>nB.o b8 g2 e⟩
  obtain⟨hnl,qA,_,_⟩:=HZ.o.fn f hmem;have c0:=hfc.c0;have c1:=hfc.c1;have c2:=hfc.c2;have c3:=hfc.c3;have c4:=hfc.c4;have c5:=hfc.c5;have c6:=hfc.c6;have wk:=zI i;have I0:Below wl.heap.size wl (wl.alloc (.cells #[.string (bs f.name),.slice pa f.params.length pc,Iv f.result,Iv f.body.kind,Iv f.body.num,.string (bs f.body.name),.slice da f.body.kids.length dc] 79)):=zzb.alloc zzl _;have U0:Chg [mb] w2 (wl.alloc (.cells #[.string (bs f.name),.slice pa f.params.length pc,Iv f.result,Iv f.body.kind,Iv f.body.num,.string (bs f.body.name),.slice da f.body.kids.length dc] 79)):=G1.o.trans (Chg.of_below I0 [mb]);have eA:QbV (wl.alloc (.cells #[.string (bs f.name),.slice pa f.params.length pc,Iv f.result,Iv f.body.kind,Iv f.body.num,.string (bs f.body.name),.slice da f.body.kids.length dc] 79)) mb i ((r.funcs.take i).map (·.name)):=zA.o.same (I0.block _ zA.o.lt);have A2:=Zh (zzw wl (.cells #[.string (bs f.name),.slice pa f.params.length pc,Iv f.result,Iv f.body.kind,Iv f.body.num,.string (bs f.body.name),.slice da f.body.kids.length dc] 79));have kB:Hi (Qbc (wl.alloc (.cells #[.string (bs f.name),.slice pa f.params.length pc,Iv f.result,Iv f.body.kind,Iv f.body.num,.string (bs f.body.name),.slice da f.body.kids.length dc] 79)) (In (wl.alloc (.cells #[.string (bs f.name),.slice pa f.params.length pc,Iv f.result,Iv f.body.kind,Iv f.body.num,.string (bs f.body.name),.slice da f.body.kids.length dc] 79))) f.params (.slice pa f.params.length pc)):=Qbc.up uA I0;have xA:=Zh (JdV iA.o hf);have dA:=Zh eA;have R5:=Zh U0;have sB:=Zh hf
  have jB:Hi (∀b9 o9,pa=some ⟨b9,o9,none⟩->0<f.params.length->b9≠mb):=by
   intro b9 o9 h1 hp e;obtain⟨b8,o8,h2,h3⟩:=dB.o (List.getElem?_eq_getElem hp);rw[h1]at h2;injection h2 with h2;injection h2 with h4;exact h3 (h4.symm.trans e)
  have HG:=Zh hg;have B3:=Zh hi;have hB:Hi (wl.heap.size≠mb):=by have:=zA.o.lt;unfold Hi;omega
  subst G3;go_upto_region 5 with fail;generalize World.alloc wl _=w3 at*;generalize wl.heap.size=cb at*
  have F3:Hi (∀W,Chg [mb] w3 W->W.cell? ⟨cb,0,none⟩=some (.string (bs f.name))/\W.cell? ⟨cb,1,none⟩=some (.slice pa f.params.length pc)/\W.cell? ⟨cb,2,none⟩=some (Iv f.result)):=by
   intro W hW;have hh:=hW.heap_some (by simp;exact hB.o) A2.o;refine⟨?_,?_,?_⟩<;>(rw[Ja hh];rfl)
  have E0:Hi (Bel w w3):=B0.o _ R5.o;obtain⟨d0,d1,d2⟩:=F3.o _ (Chg.refl _ _);have ci:=Jfx f.name w3 hnl;go_wp2_with fail;refine ci.mono ?_;rintro e w4 ⟨rfl,rfl⟩
  cases TD:Qbd f.name with
  |false=>
   have O0:q=false:=by
    have h1:=xA.o;rw[TD]at h1;simp only[Bool.false_and]at h1;rw[<-HQ.o,<-h1];rfl
   subst O0;go_wp2;go_ret;exact⟨rfl,E0.o⟩
  |true=>
  have gB:=JfJ TD;have kA:=dA.o.look (s:=f.name) zo
  replace xA:Hi ((!decide (f.name∈(r.funcs.take i).map (·.name))&&QaJ f.result&&f.params.all QaJ&&QaZ ((r.funcs.take (i+1)).map (·.name)) (r.funcs.drop (i+1)))=nm):=by
   have h1:=xA.o;rw[TD]at h1;simp only[Bool.true_and]at h1;exact h1
  have mB:Hi ((r.funcs.take (i+1)).map (·.name)=(r.funcs.take i).map (·.name)++[f.name] ):=by
   have xC:r.funcs[i]?=some f:=sB.o;rw[Hi,List.take_add_one,xC,List.map_append];rfl
  by_cases hin:f.name∈(r.funcs.take i).map (·.name)
  ·rw[zE hin]at kA
   have O0:q=false:=by
    have h1:=xA.o;rw[zE hin]at h1;simp only[Bool.not_true,Bool.false_and]at h1;rw[<-HQ.o,<-h1];rfl
   subst O0;go_wp2;go_ret;exact⟨rfl,E0.o⟩
  rw[zF hin]at kA
  replace xA:Hi ((QaJ f.result&&f.params.all QaJ&&QaZ ((r.funcs.take (i+1)).map (·.name)) (r.funcs.drop (i+1)))=nm):=by
   have h1:=xA.o;rw[zF hin]at h1;simp only[Bool.not_false,Bool.true_and]at h1;exact h1
  by_cases ht:f.result=0\/f.result=1
  ·replace xA:Hi ((f.params.all QaJ&&QaZ ((r.funcs.take (i+1)).map (·.name)) (r.funcs.drop (i+1)))=nm):=by
    have h1:=xA.o;have h2:QaJ f.result=true:=by rcases ht with h|h<;>(rw[h];rfl)
    rw[h2]at h1;simp only[Bool.true_and]at h1;exact h1
   obtain⟨w5,zC,gA,L4⟩:=dA.o.upd (by unfold maxLen;omega) (s:=f.name) zo;have yA:Hi (Chg [mb] w2 w5):=R5.o.trans L4;have eB:Hi (QbV w5 mb (i+1) ((r.funcs.take (i+1)).map (·.name))):=by rw[Hi,mB.o];exact gA
   obtain⟨e0,e1,e2⟩:=F3.o _ L4;have tA:Hi (Bel w w5):=B0.o _ yA.o
   have iB:Hi (∀j t,f.params[j]?=some t->∃b o,pa=some ⟨b,o,none⟩/\w5.cell? ⟨b,o+j,none⟩=some (Iv t)):=by
    intro j t hj;obtain⟨b9,o9,h1,h2,h3⟩:=kB.o.get hj;exact⟨b9,o9,h1,L4.cell_some (p:=⟨b9,o9+j,none⟩) (by simp;exact jB.o b9 o9 h1 (Nat.lt_of_le_of_lt (Nat.zero_le _) (List.getElem?_eq_some_iff.1 hj).1)) h3⟩
   obtain⟨pl,nA⟩:∃pl,f.params.length=pl:=⟨_,rfl⟩
   have A3:=Zh nA;rw[nA]at d1 e1 qA;have wj:∀j:Nat,j<pl->IntKind.i64.wrap ((j:Int)+1)=(j:Int)+1:=λj hj=>IntWalk.i64_in _ zo
   have tB:=Zh wj
   rcases ht with ht|ht
   all_goals
    rw[ht]at d2 e2;go_wp2_with fail;go_loop [44] (λv=>∃j:Nat,v=Iv j/\j<=pl/\Hi ((f.params.take j).all QaJ=true)) λv=>pl-(intOf v).toNat
    case atStart=>exact⟨0,rfl,Nat.zero_le _,rfl⟩
    case round=>
    obtain⟨j,rfl,hj,vA⟩:=hrel
    by_cases GC:j<pl
    ·have jA:(j:Int)<(pl:Int):=zo
     have aC:=tB.o j GC;obtain⟨t,pA⟩:∃t,f.params[j]?=some t:=⟨f.params[j]'(by rw[A3.o];exact GC),List.getElem?_eq_getElem _⟩
     obtain⟨b9,o9,h1,h2⟩:=iB.o j t pA;have cA:=Zh pA;subst h1
     by_cases t0:t=0
     ·have rA:=Zh (KK vA.o cA.o (by rw[t0];rfl));subst t0;exact zAg
     have n0:(t !=0)=true:=by rw[bne,zzq t0];rfl
     by_cases t1:t=1
     ·have rA:=Zh (KK vA.o cA.o (by rw[t1];rfl));subst t1;exact zAg
     have n1:(t !=1)=true:=by rw[bne,zzq t1];rfl
     have O0:q=false:=by
      have h1:=xA.o;rw[KQ cA.o (Zz t0 t1)]at h1;simp only[Bool.false_and]at h1;rw[<-HQ.o,<-h1];rfl
     subst O0;go_wp2;go_ret;exact⟨rfl,tA.o⟩
    ·have jA:¬(j:Int)<(pl:Int):=zo
     obtain rfl:j=pl:=zo
     replace xA:Hi (QaZ ((r.funcs.take (i+1)).map (·.name)) (r.funcs.drop (i+1))=nm):=by
      have h1:=xA.o;have h2:=vA.o;rw[<-A3.o,List.take_length]at h2;rw[h2]at h1;simp only[Bool.true_and]at h1;exact h1
     go_wp2;go_roundg (r.funcs.length-(i+1))
     case measure=>have:=HG.o;have:=B3.o;omega
     case rel=>exact⟨i+1,by have:=B3.o;omega,by go_num,yA,eB,xA⟩
  have i6:¬f.result=0:=λh=>ht (.inl h)
  have G8:¬f.result=1:=λh=>ht (.inr h)
  have n0:(f.result !=0)=true:=by rw[bne,zzq i6];rfl
  have n1:(f.result !=1)=true:=by rw[bne,zzq G8];rfl
  have O0:q=false:=by
   have h1:=xA.o;rw[Zz i6 G8]at h1;simp only[Bool.false_and]at h1;rw[<-HQ.o,<-h1];rfl
  subst O0;go_wp2;go_ret;exact⟨rfl,E0.o⟩
 have hil:¬(i:Int)<(r.funcs.length:Int):=zo
 obtain rfl:i=r.funcs.length:=zo
 have rB:nm=true:=by rw[<-iA.o,List.drop_length];rfl
 subst rB;obtain⟨b0,b1,b2⟩:=FF.o _ G1.o;have S4:=Zh G1.o;go_wp2_with fail;go_loopg [59] r.clauses.length λg v59 wr=>∃j:Nat,g+j=r.clauses.length/\v59=Iv j/\Hi (Chg [mb] w2 wr)/\Hi ((r.clauses.take j).all clB=true)
 case atStart=>exact⟨0,rfl,rfl,S4,rfl⟩
 case round=>
 obtain⟨wm,rfl⟩:=zG wr
 obtain⟨j,hg,rfl,G1,Y4⟩:=hrel
 by_cases hj:j<r.clauses.length
 ·have jA:(j:Int)<(r.clauses.length:Int):=zo
  obtain⟨m,hm⟩:∃m,r.clauses[j]?=some m:=⟨r.clauses[j],List.getElem?_eq_getElem hj⟩
  have hmem:=List.mem_of_getElem? hm;have bB:=U9.o.up (B0.o _ G1.o);obtain⟨b,o,da,dc,cB,hfc⟩:=bB.get hm;obtain⟨_,_,pB⟩:=HZ.o.cl m hmem;have c0:=hfc.c0;have c1:=hfc.c1;have c2:=hfc.c2;have c3:=hfc.c3;have c4:=hfc.c4;have c5:=hfc.c5;have wk:=zI j;have I0:Below wm.heap.size wm (wm.alloc (.cells #[Iv m.cond.kind,Iv m.cond.num,.string (bs m.cond.name),.slice da m.cond.kids.length dc,Iv m.action,.string (bs m.reason)] 62)):=zzb.alloc zzl _;have R5:=Zh (G1.o.trans (Chg.of_below I0 [mb]));have sA:=Zh hm;have HG:=Zh hg;have B3:=Zh hj;have ca:=YZ m.action (wm.alloc (.cells #[Iv m.cond.kind,Iv m.cond.num,.string (bs m.cond.name),.slice da m.cond.kids.length dc,Iv m.action,.string (bs m.reason)] 62));have ct:=Jbc m.reason (wm.alloc (.cells #[Iv m.cond.kind,Iv m.cond.num,.string (bs m.cond.name),.slice da m.cond.kids.length dc,Iv m.action,.string (bs m.reason)] 62)) pB;subst cB;go_wp2_with fail;refine ca.mono ?_;rintro e w4 ⟨rfl,rfl⟩;have E0:=Zh (B0.o _ R5.o)
  cases CA:QdU m.action with
  |false=>
   have O0:q=false:=by
    have h1:QkE r.clauses=false:=KQ (p:=clB) sA.o (by unfold clB;rw[CA];rfl);rw[<-HQ.o,h1];rfl
   subst O0;go_wp2;go_ret;exact⟨rfl,E0.o⟩
  |true=>
  go_wp2_with fail;refine ct.mono ?_;rintro e w4 ⟨rfl,rfl⟩
  cases kD:QbM m.reason with
  |false=>
   have O0:q=false:=by
    have h1:QkE r.clauses=false:=KQ (p:=clB) sA.o (by unfold clB;rw[kD,Bool.and_false]);rw[<-HQ.o,h1];rfl
   subst O0;go_wp2;go_ret;exact⟨rfl,E0.o⟩
  |true=>
   have M7:Hi ((r.clauses.take (j+1)).all clB=true):=KK Y4.o sA.o (by unfold clB;rw[CA,kD];rfl);go_wp2;go_roundg (r.clauses.length-(j+1))
   case measure=>have:=HG.o;have:=B3.o;omega
   case rel=>exact⟨j+1,by have:=B3.o;omega,by go_num,R5,M7⟩
 have jA:¬(j:Int)<(r.clauses.length:Int):=zo
 obtain rfl:j=r.clauses.length:=zo
 have aA:=Y4.o;rw[List.take_length]at aA
 replace HQ:Hi ((QdU r.action&&QbI r&&QbX r)=q):=by
  have h1:=HQ.o;rw[Jke,aA]at h1;exact h1
 obtain⟨b0,b1,b2⟩:=FF.o _ G1.o;have S4:=Zh G1.o;have ca:=YZ r.action wm;go_wp2_with fail;refine ca.mono ?_;rintro e w4 ⟨rfl,rfl⟩
 cases CA:QdU r.action with
 |false=>
  have O0:q=false:=by rw[<-HQ.o,CA];rfl
  subst O0;have E0:=Zh (B0.o _ S4.o);go_wp2;go_ret;exact⟨rfl,E0.o⟩
 |true=>
 have ct:=JfC r _ wm (aB.o.up (B0.o _ S4.o)) HZ.o;go_wp2_with fail;refine ct.mono ?_;rintro e w5 ⟨rfl,C3⟩;have yA:Hi (Chg [mb] w2 w5):=S4.o.trans (Chg.of_below C3 [mb])
 cases htr:QbI r with
 |false=>
  have O0:q=false:=by rw[<-HQ.o,CA,htr];rfl
  subst O0;have E0:=Zh (B0.o _ yA.o);go_wp2;go_ret;exact⟨rfl,E0.o⟩
 |true=>
 obtain⟨b0,b1,b2⟩:=FF.o _ yA.o;have cy:=JfI r _ w5 (aB.o.up (B0.o _ yA.o)) HZ.o htr;go_wp2_with fail;refine cy.mono ?_;rintro e w6 ⟨rfl,L2⟩;have M2:Hi (Chg [mb] w2 w6):=yA.o.trans (Chg.of_below L2 [mb]);have E0:=Zh (B0.o _ M2.o);have uB:QbX r=q:=by rw[<-HQ.o,CA,htr];rfl
 rw[uB];go_wp2;go_ret;exact⟨rfl,E0.o⟩
def QaM(n low RB:Int):Int:=if n<low then low else if RB<n then RB else n
def Qbw(n:Int):Int:=QaM n (-1125899906842624) 1125899906842624
def QjQ{P:Prop}(h:P:=by
  go_enter func97,ntmps97;go_wp2;go_ret
  exact⟨by rw[hN.o];rfl,rfl⟩):P:=h
def K7(n l h:Int)(w:World):Calls prog 97 #[Iv n,Iv l,Iv h] w (λe w'=>e=.returned (Iv (QaM n l h))/\w=w'):=by
 by_cases h1:n<l
 ·have hN:Hi (QaM n l h=l):=by unfold Hi QaM;rw[if_pos h1]
  exact QjQ
 ·have hd:decide (n<l)=false:=by simpa using h1
  by_cases h2:h<n
  ·have hN:Hi (QaM n l h=h):=by unfold Hi QaM;rw[if_neg h1,if_pos h2]
   exact QjQ
  ·have xA:decide (h<n)=false:=by simpa using h2
   have hN:Hi (QaM n l h=n):=by unfold Hi QaM;rw[if_neg h1,if_neg h2]
   exact QjQ
def Qcy(w:World)(n:Int)(ex neg:Bool)(e:Ending)(w':World):Prop:=e=.returned (.tuple #[Iv n,.bool ex,.bool neg])/\Below w.heap.size w w'
def QdB(n:Int)(ex neg:Bool):Int:=if ex=true then Qbw n else if neg=true then -1125899906842624 else 1125899906842624
def Qlw{P:Prop}(h:P:=by
  go_enter func52,ntmps52;go_wp2_with (go_at_call 53;refine hc.mono ?_;rintro e w1 ⟨rfl,hb⟩);go_ret
  exact⟨by rw[hN.o];rfl,hb⟩):P:=h
def QmV(p q:Nat)(w:World)(n:Int)(ex neg:Bool)(hc:Calls prog 53 #[Pt p,Pt q] w (Qcy w n ex neg)):
  Calls prog 52 #[.func (.func 53) #[] #[Pt p,Pt q]] w (Qcz w (QdB n ex neg)):=by
 cases ex
 ·cases neg
  ·have hN:Hi (QdB n false false=1125899906842624):=rfl;exact Qlw
  ·have hN:Hi (QdB n false true = -1125899906842624):=rfl;exact Qlw
 ·have hN:Hi (QdB n true neg=Qbw n):=rfl;have hL:Hi (Qbw n=QaM n (-1125899906842624) 1125899906842624):=rfl;go_enter func52,ntmps52;go_wp2_with (first|(go_at_call 53;refine hc.mono ?_;rintro e w1 ⟨rfl,hb⟩)|(go_at_call 97;refine(K7 _ _ _ _).mono ?_;rintro e w2 ⟨rfl,rfl⟩));go_ret;exact⟨by rw[hN.o,hL.o];rfl,hb⟩
def Qlv{P:Prop}(h:P:=by
  go_enter func52,ntmps52;go_wp2_with (go_at_call 54;refine hc.mono ?_;rintro e w1 ⟨rfl,hb⟩);go_ret
  exact⟨by rw[hN.o];rfl,hb⟩):P:=h
def QmU(p q:Nat)(w:World)(n:Int)(ex neg:Bool)(hc:Calls prog 54 #[Pt p,Pt q] w (Qcy w n ex neg)):
  Calls prog 52 #[.func (.func 54) #[] #[Pt p,Pt q]] w (Qcz w (QdB n ex neg)):=by
 cases ex
 ·cases neg
  ·have hN:Hi (QdB n false false=1125899906842624):=rfl;exact Qlv
  ·have hN:Hi (QdB n false true = -1125899906842624):=rfl;exact Qlv
 ·have hN:Hi (QdB n true neg=Qbw n):=rfl;have hL:Hi (Qbw n=QaM n (-1125899906842624) 1125899906842624):=rfl;go_enter func52,ntmps52;go_wp2_with (first|(go_at_call 54;refine hc.mono ?_;rintro e w1 ⟨rfl,hb⟩)|(go_at_call 97;refine(K7 _ _ _ _).mono ?_;rintro e w2 ⟨rfl,rfl⟩));go_ret;exact⟨by rw[hN.o,hL.o];rfl,hb⟩
def Qlu{P:Prop}(h:P:=by
  go_enter func52,ntmps52;go_wp2_with (go_at_call 55;refine hc.mono ?_;rintro e w1 ⟨rfl,hb⟩);go_ret
  exact⟨by rw[hN.o];rfl,hb⟩):P:=h
def QmT(p q:Nat)(w:World)(n:Int)(ex neg:Bool)(hc:Calls prog 55 #[Pt p,Pt q] w (Qcy w n ex neg)):
  Calls prog 52 #[.func (.func 55) #[] #[Pt p,Pt q]] w (Qcz w (QdB n ex neg)):=by
 cases ex
 ·cases neg
  ·have hN:Hi (QdB n false false=1125899906842624):=rfl;exact Qlu
  ·have hN:Hi (QdB n false true = -1125899906842624):=rfl;exact Qlu
 ·have hN:Hi (QdB n true neg=Qbw n):=rfl;have hL:Hi (Qbw n=QaM n (-1125899906842624) 1125899906842624):=rfl;go_enter func52,ntmps52;go_wp2_with (first|(go_at_call 55;refine hc.mono ?_;rintro e w1 ⟨rfl,hb⟩)|(go_at_call 97;refine(K7 _ _ _ _).mono ?_;rintro e w2 ⟨rfl,rfl⟩));go_ret;exact⟨by rw[hN.o,hL.o];rfl,hb⟩
def Jbi(w:World)(v:Value)(t:Nat):(w.alloc (.cells #[v] t)).cell? ⟨w.heap.size,0,none⟩=some v:=by
 rw[cell_of_row _ _ _ _ _ (0,0) (zzw w _)];rfl
def VK(w:World)(v u:Value)(t t':Nat):((w.alloc (.cells #[v] t)).alloc (.cells #[u] t')).cell? ⟨w.heap.size,0,none⟩=some v:=by
 rw[World.cell?_of_block (w:=w.alloc (.cells #[v] t)) (Below.heap_alloc _ _ _ zp)];exact Jbi w v t
def VL(w:World)(v u:Value)(t t':Nat):((w.alloc (.cells #[v] t)).alloc (.cells #[u] t')).cell? ⟨w.heap.size+1,0,none⟩=some u:=by
 have h:=Jbi (w.alloc (.cells #[v] t)) u t'
 rwa [show (w.alloc (.cells #[v] t)).heap.size=w.heap.size+1 by simp]at h
def Qgy{P:Prop}(h:P:=by
  go_wp2;go_quiet (fail);go_wp2;go_ret3
  exact⟨rfl,J2 zzb _⟩):P:=h
def Jkf(p q:Nat)(a b:Int)(w:World)(ha:Qat a)(hb:Qat b)(hp:w.cell? ⟨p,0,none⟩=some (Iv a))(hq:w.cell? ⟨q,0,none⟩=some (Iv b)):
  ∃n ex,(ex=true->n=a+b)/\(ex=false->(a<0->a+b < -9223372036854775808)/\(0<=a->9223372036854775807<a+b))/\Calls prog 53 #[Pt p,Pt q] w (Qcy w n ex (decide (a<0))):=by
 unfold Qat at ha hb
 by_cases hlo:a+b < -9223372036854775808
 ·have hw:wrap64 (a+b)=a+b+18446744073709551616:=by unfold wrap64;omega
  have d1:decide (a<0)=true:=zE zo;have d2:decide (b<0)=true:=zE zo;have d3:decide (a+b+18446744073709551616<0)=false:=zF zo;refine⟨wrap64 (a+b),false,by simp,λ_=>⟨λ_=>hlo,λh=>by omega⟩,?_⟩;rw[d1];have xA:=Zh hlo;clear hlo;go_enter func53,ntmps53;exact Qgy
 ·by_cases I7:9223372036854775807<a+b
  ·have hw:wrap64 (a+b)=a+b-18446744073709551616:=by unfold wrap64;omega
   have d1:decide (a<0)=false:=zF zo;have d2:decide (b<0)=false:=zF zo;have d3:decide (a+b-18446744073709551616<0)=true:=zE zo;refine⟨wrap64 (a+b),false,by simp,λ_=>⟨λh=>by omega,λ_=>I7⟩,?_⟩;rw[d1];have B3:=Zh I7;clear I7 hlo;go_enter func53,ntmps53;exact Qgy
  ·have h1:-9223372036854775808<=a+b:=zo
   have h2:a+b<=9223372036854775807:=zo
   refine⟨a+b,true,λ_=>rfl,by simp,?_⟩;clear hlo I7
   by_cases ca:a<0
   ·have d1:decide (a<0)=true:=zE ca;rw[d1]
    by_cases cb:b<0
    ·have d2:decide (b<0)=true:=zE cb;have d3:decide (a+b<0)=true:=zE zo;clear ca cb;go_enter func53,ntmps53;exact Qgy
    ·have d2:decide (b<0)=false:=zF cb
     skip
     clear ca cb;go_enter func53,ntmps53;exact Qgy
   ·have d1:decide (a<0)=false:=zF ca;rw[d1]
    by_cases cb:b<0
    ·have d2:decide (b<0)=true:=zE cb
     skip
     clear ca cb;go_enter func53,ntmps53;exact Qgy
    ·have d2:decide (b<0)=false:=zF cb;have d3:decide (a+b<0)=false:=zF zo;clear ca cb;go_enter func53,ntmps53;exact Qgy
def QmC{P:Prop}(h:P:=by
  go_wp2_with fail;rw[<-hW];clear hW;refine(Calls.mono c ?_);rintro e w1 ⟨rfl,A0⟩;go_wp2;go_ret
  exact⟨by rw[<-hR.o];rfl,l8.trans (A0.mono l8.size)⟩):P:=h
def QnC{P:Prop}(h:P:=by
  unfold Hi QdB
  cases ex
  ·obtain⟨o1,o2⟩:=ho rfl;simp only[Bool.false_eq_true,if_false,decide_eq_true_eq];unfold Qbw QaM
   by_cases h:a<0
   ·rw[if_pos h,if_pos (by have:=o1 h;omega)]
   ·rw[if_neg h,if_neg (by have:=o2 (by omega);omega),if_pos (by have:=o2 (by omega);omega)]
  ·rw[if_pos rfl,hn rfl]):P:=h
def JhA(a b:Int)(w:World)(ha:Qat a)(hb:Qat b):Calls prog 24 #[Iv a,Iv b] w (Qcz w (Qbw (a+b))):=by
 obtain⟨W,hW⟩:∃W,W=(w.alloc (.cells #[Iv a] 3)).alloc (.cells #[Iv b] 3):=⟨_,rfl⟩
 have l8:Below w.heap.size w W:=by rw[hW];exact(zzb.alloc zzl _).alloc zp _
 have hp:W.cell? ⟨w.heap.size,0,none⟩=some (Iv a):=by rw[hW];exact VK w _ _ 3 3
 have hq:W.cell? ⟨w.heap.size+1,0,none⟩=some (Iv b):=by rw[hW];exact VL w _ _ 3 3
 obtain⟨n,ex,hn,ho,hc⟩:=Jkf w.heap.size (w.heap.size+1) a b W ha hb hp hq;have c:=QmV _ _ _ _ _ _ hc
 have hR:Hi (QdB n ex (decide (a<0))=Qbw (a+b)):=by
  exact QnC
 go_enter func24,ntmps24;exact QmC
def Jkg(p q:Nat)(a b:Int)(w:World)(ha:Qat a)(hb:Qat b)(hp:w.cell? ⟨p,0,none⟩=some (Iv a))(hq:w.cell? ⟨q,0,none⟩=some (Iv b)):
  ∃n ex,(ex=true->n=a-b)/\(ex=false->(a<0->a-b < -9223372036854775808)/\(0<=a->9223372036854775807<a-b))/\Calls prog 54 #[Pt p,Pt q] w (Qcy w n ex (decide (a<0))):=by
 unfold Qat at ha hb
 by_cases hlo:a-b < -9223372036854775808
 ·have hw:wrap64 (a-b)=a-b+18446744073709551616:=by unfold wrap64;omega
  have d1:decide (a<0)=true:=zE zo;have d2:decide (b<0)=false:=zF zo;have d3:decide (a-b+18446744073709551616<0)=false:=zF zo;refine⟨wrap64 (a-b),false,by simp,λ_=>⟨λ_=>hlo,λh=>by omega⟩,?_⟩;rw[d1];have xA:=Zh hlo;clear hlo;go_enter func54,ntmps54;exact Qgy
 ·by_cases I7:9223372036854775807<a-b
  ·have hw:wrap64 (a-b)=a-b-18446744073709551616:=by unfold wrap64;omega
   have d1:decide (a<0)=false:=zF zo;have d2:decide (b<0)=true:=zE zo;have d3:decide (a-b-18446744073709551616<0)=true:=zE zo;refine⟨wrap64 (a-b),false,by simp,λ_=>⟨λh=>by omega,λ_=>I7⟩,?_⟩;rw[d1];have B3:=Zh I7;clear I7 hlo;go_enter func54,ntmps54;exact Qgy
  ·have h1:-9223372036854775808<=a-b:=zo
   have h2:a-b<=9223372036854775807:=zo
   refine⟨a-b,true,λ_=>rfl,by simp,?_⟩;clear hlo I7
   by_cases ca:a<0
   ·have d1:decide (a<0)=true:=zE ca;rw[d1]
    by_cases cb:b<0
    ·have d2:decide (b<0)=true:=zE cb
     skip
     go_enter func54,ntmps54;exact Qgy
    ·have d2:decide (b<0)=false:=zF cb;have d3:decide (a-b<0)=true:=zE zo;go_enter func54,ntmps54;exact Qgy
   ·have d1:decide (a<0)=false:=zF ca;rw[d1]
    by_cases cb:b<0
    ·have d2:decide (b<0)=true:=zE cb;have d3:decide (a-b<0)=false:=zF zo;go_enter func54,ntmps54;exact Qgy
    ·have d2:decide (b<0)=false:=zF cb
     skip
     go_enter func54,ntmps54;exact Qgy
def JfL(a b:Int)(w:World)(ha:Qat a)(hb:Qat b):Calls prog 25 #[Iv a,Iv b] w (Qcz w (Qbw (a-b))):=by
 obtain⟨W,hW⟩:∃W,W=(w.alloc (.cells #[Iv a] 3)).alloc (.cells #[Iv b] 3):=⟨_,rfl⟩
 have l8:Below w.heap.size w W:=by rw[hW];exact(zzb.alloc zzl _).alloc zp _
 have hp:W.cell? ⟨w.heap.size,0,none⟩=some (Iv a):=by rw[hW];exact VK w _ _ 3 3
 have hq:W.cell? ⟨w.heap.size+1,0,none⟩=some (Iv b):=by rw[hW];exact VL w _ _ 3 3
 obtain⟨n,ex,hn,ho,hc⟩:=Jkg w.heap.size (w.heap.size+1) a b W ha hb hp hq;have c:=QmU _ _ _ _ _ _ hc
 have hR:Hi (QdB n ex (decide (a<0))=Qbw (a-b)):=by
  exact QnC
 go_enter func25,ntmps25;exact QmC
def Jdh(n:Int)(w:World)(h:Qat n):Calls prog 57 #[Iv n] w (λe w'=>e=.returned (.int .u64 (n.natAbs:Int))/\w'=w):=by
 unfold Qat at h
 by_cases h0:n<0
 ·obtain⟨m,hm⟩:∃m:Nat,n.natAbs=m:=⟨_,rfl⟩
  rw[hm];have hn:n = -(m:Int):=zo
  subst hn;have hw:IntKind.u64.wrap (-IntKind.u64.wrap (-(m:Int)))=m:=by rw[IntKind.wrap_u64,IntKind.wrap_u64];omega
  go_enter func57,ntmps57;go_wp2;go_ret;exact⟨rfl,rfl⟩
 ·obtain⟨m,rfl⟩:∃m:Nat,n=m:=⟨n.toNat,by omega⟩
  have hm:((m:Int).natAbs:Int)=m:=zp
  rw[hm];go_enter func57,ntmps57;go_wp2;go_ret;exact⟨rfl,rfl⟩
def JhB{a b:Int}:((a.natAbs*b.natAbs:Nat):Int)=if (decide (a<0) !=decide (b<0))=true then -(a*b) else a*b:=by
 by_cases ha:a<0
 ·rw[zE ha];obtain⟨m,rfl⟩:∃m:Nat,a = -(m:Int):=⟨a.natAbs,by omega⟩
  by_cases hb:b<0
  ·rw[zE hb];obtain⟨n,rfl⟩:∃n:Nat,b = -(n:Int):=⟨b.natAbs,by omega⟩
   simp[Int.neg_mul_neg]
  ·rw[zF hb];obtain⟨n,rfl⟩:∃n:Nat,b=(n:Int):=⟨b.natAbs,by omega⟩
   simp[Int.neg_mul]
 ·rw[zF ha];obtain⟨m,rfl⟩:∃m:Nat,a=(m:Int):=⟨a.natAbs,by omega⟩
  by_cases hb:b<0
  ·rw[zE hb];obtain⟨n,rfl⟩:∃n:Nat,b = -(n:Int):=⟨b.natAbs,by omega⟩
   simp[Int.mul_neg]
  ·rw[zF hb];obtain⟨n,rfl⟩:∃n:Nat,b=(n:Int):=⟨b.natAbs,by omega⟩
   simp
def wx6{P:Prop}(h:P:=by
  go_enter func55,ntmps55;go_wp2;go_quiet (first|(go_at_call 57;with_reducible refine(h1' _).mono ?_;exact λe w' ⟨he,hw⟩=>⟨he,_,hw⟩)|(go_at_call 57;with_reducible refine(h2' _).mono ?_;exact λe w' ⟨he,hw⟩=>⟨he,_,hw⟩)|(go_at_call 56;refine(h3 _).mono ?_;exact λe w' ⟨he,hw⟩=>⟨he,_,hw⟩));go_wp2;go_ret3
  exact⟨rfl,J2 zzb _⟩):P:=h
def Qny{P:Prop}(h:P:=by
  have e1:((z / 18446744073709551616:Nat):Int)=0:=by omega
  have e2:((z % 18446744073709551616:Nat):Int)=z:=by omega
  rw[e1,e2]at h3;have c1:decide (9223372036854775807<(z:Int))=true:=zE (by omega);have HS:=Zh hs;clear hs hxy hz N6 e1 e2 lD
  exact wx6):P:=h
def QnW{P:Prop}(h:P:=by
  replace hs:(z:Int) = -(a*b):=by simpa using hs
  by_cases hz:z<=9223372036854775807
  ·have c1:decide (9223372036854775807<(z:Int))=false:=zF (by omega);have e1:((z / 18446744073709551616:Nat):Int)=0:=by omega
   have e2:((z % 18446744073709551616:Nat):Int)=z:=by omega
   rw[e1,e2]at h3;refine⟨-(z:Int),true,true,by rw[hs,Int.neg_neg];rfl,?_⟩;have c2:IntKind.i64.wrap (z:Int)=z:=by rw[IntKind.wrap_i64];omega
   have c3:IntKind.i64.wrap (-(z:Int)) = -(z:Int):=by rw[IntKind.wrap_i64];omega
   have HS:=Zh hs;clear hs e1 e2 hxy;exact wx6
  ·have N6:QdB 0 false true=Qbw (a*b):=by
    have h:a*b = -(z:Int):=by omega
    rw[h];unfold QdB Qbw QaM;simp only[Bool.false_eq_true,if_false,if_true];rw[if_pos (by omega)]
   by_cases lD:z / 18446744073709551616=0
   ·refine⟨0,false,true,N6,?_⟩;exact Qny
   ·refine⟨0,false,true,N6,?_⟩;have e1:(((z / 18446744073709551616:Nat):Int) !=0)=true:=by simp only[bne_iff_ne];omega
    have HS:=Zh hs;clear hs hxy hz N6;generalize ((z / 18446744073709551616:Nat):Int)=zh at*;generalize ((z % 18446744073709551616:Nat):Int)=zl at*
    exact wx6):P:=h
def QnV{P:Prop}(h:P:=by
  replace hs:(z:Int)=a*b:=by simpa using hs
  by_cases hz:z<=9223372036854775807
  ·have c1:decide (9223372036854775807<(z:Int))=false:=zF (by omega);have e1:((z / 18446744073709551616:Nat):Int)=0:=by omega
   have e2:((z % 18446744073709551616:Nat):Int)=z:=by omega
   rw[e1,e2]at h3;refine⟨z,true,false,by rw[hs];rfl,?_⟩;have c2:IntKind.i64.wrap (z:Int)=z:=by rw[IntKind.wrap_i64];omega
   have HS:=Zh hs;clear hs e1 e2 hxy;exact wx6
  ·have N6:QdB 0 false false=Qbw (a*b):=by
    rw[<-hs];unfold QdB Qbw QaM;simp only[Bool.false_eq_true,if_false];rw[if_neg (by omega),if_pos (by omega)]
   by_cases lD:z / 18446744073709551616=0
   ·refine⟨0,false,false,N6,?_⟩;exact Qny
   ·refine⟨0,false,false,N6,?_⟩;have e1:(((z / 18446744073709551616:Nat):Int) !=0)=true:=by simp only[bne_iff_ne];omega
    have HS:=Zh hs;clear hs hxy hz N6;generalize ((z / 18446744073709551616:Nat):Int)=zh at*;generalize ((z % 18446744073709551616:Nat):Int)=zl at*
    exact wx6):P:=h
def Jkh(p q:Nat)(a b:Int)(w:World)(ha:Qat a)(hb:Qat b)(hp:w.cell? ⟨p,0,none⟩=some (Iv a))(hq:w.cell? ⟨q,0,none⟩=some (Iv b)):
  ∃n ex neg,QdB n ex neg=Qbw (a*b)/\Calls prog 55 #[Pt p,Pt q] w (Qcy w n ex neg):=by
 have hs:=JhB (a:=a) (b:=b);have h1:=Jdh a;have h2:=Jdh b;have hx:a.natAbs<18446744073709551616:=by unfold Qat at ha;omega
 have hy:b.natAbs<18446744073709551616:=by unfold Qat at hb;omega
 have h3:=Tryz.bits_Mul64 a.natAbs b.natAbs hx hy;have h1':=λW=>h1 W ha
 have h2':=λW=>h2 W hb
 generalize a.natAbs=x at*;generalize b.natAbs=y at*;have hxy:x*y<18446744073709551616*18446744073709551616:=Nat.mul_lt_mul'' hx hy;generalize x*y=z at*
 cases LC:decide (a<0)
 ·cases SB:decide (b<0)
  ·rw[LC,SB]at hs;exact QnV
  ·rw[LC,SB]at hs;exact QnW
 ·cases SB:decide (b<0)
  ·rw[LC,SB]at hs;exact QnW
  ·rw[LC,SB]at hs;exact QnV
def Jjf(a b:Int)(w:World)(ha:Qat a)(hb:Qat b):Calls prog 26 #[Iv a,Iv b] w (Qcz w (Qbw (a*b))):=by
 obtain⟨W,hW⟩:∃W,W=(w.alloc (.cells #[Iv a] 3)).alloc (.cells #[Iv b] 3):=⟨_,rfl⟩
 have l8:Below w.heap.size w W:=by rw[hW];exact(zzb.alloc zzl _).alloc zp _
 have hp:W.cell? ⟨w.heap.size,0,none⟩=some (Iv a):=by rw[hW];exact VK w _ _ 3 3
 have hq:W.cell? ⟨w.heap.size+1,0,none⟩=some (Iv b):=by rw[hW];exact VL w _ _ 3 3
 obtain⟨n,ex,xA,hn,hc⟩:=Jkh w.heap.size (w.heap.size+1) a b W ha hb hp hq;have c:=QmT _ _ _ _ _ _ hc;have hR:=Zh hn;go_enter func26,ntmps26;exact QmC
def Qlt{P:Prop}(h:P:=by
  go_enter func52,ntmps52;go_wp2_with (go_at_call 58;refine hc.mono ?_;rintro e w1 ⟨rfl,hb⟩);go_ret
  exact⟨by rw[hN.o];rfl,hb⟩):P:=h
def QmX(p q:Nat)(w:World)(n:Int)(ex neg:Bool)(hc:Calls prog 58 #[Pt p,Pt q] w (Qcy w n ex neg)):
  Calls prog 52 #[.func (.func 58) #[] #[Pt p,Pt q]] w (Qcz w (QdB n ex neg)):=by
 cases ex
 ·cases neg
  ·have hN:Hi (QdB n false false=1125899906842624):=rfl;exact Qlt
  ·have hN:Hi (QdB n false true = -1125899906842624):=rfl;exact Qlt
 ·have hN:Hi (QdB n true neg=Qbw n):=rfl;have hL:Hi (Qbw n=QaM n (-1125899906842624) 1125899906842624):=rfl;go_enter func52,ntmps52;go_wp2_with (first|(go_at_call 58;refine hc.mono ?_;rintro e w1 ⟨rfl,hb⟩)|(go_at_call 97;refine(K7 _ _ _ _).mono ?_;rintro e w2 ⟨rfl,rfl⟩));go_ret;exact⟨by rw[hN.o,hL.o];rfl,hb⟩
def Qls{P:Prop}(h:P:=by
  go_enter func52,ntmps52;go_wp2_with (go_at_call 59;refine hc.mono ?_;rintro e w1 ⟨rfl,hb⟩);go_ret
  exact⟨by rw[hN.o];rfl,hb⟩):P:=h
def QmW(p q:Nat)(w:World)(n:Int)(ex neg:Bool)(hc:Calls prog 59 #[Pt p,Pt q] w (Qcy w n ex neg)):
  Calls prog 52 #[.func (.func 59) #[] #[Pt p,Pt q]] w (Qcz w (QdB n ex neg)):=by
 cases ex
 ·cases neg
  ·have hN:Hi (QdB n false false=1125899906842624):=rfl;exact Qls
  ·have hN:Hi (QdB n false true = -1125899906842624):=rfl;exact Qls
 ·have hN:Hi (QdB n true neg=Qbw n):=rfl;have hL:Hi (Qbw n=QaM n (-1125899906842624) 1125899906842624):=rfl;go_enter func52,ntmps52;go_wp2_with (first|(go_at_call 59;refine hc.mono ?_;rintro e w1 ⟨rfl,hb⟩)|(go_at_call 97;refine(K7 _ _ _ _).mono ?_;rintro e w2 ⟨rfl,rfl⟩));go_ret;exact⟨by rw[hN.o,hL.o];rfl,hb⟩
def JdW{a b:Int}:-(a.natAbs:Int)<=a.tdiv b/\a.tdiv b<=a.natAbs:=by
 have h:=Int.natAbs_tdiv a b;have h2:(a.tdiv b).natAbs<=a.natAbs:=by rw[h];exact Nat.div_le_self _ _
 omega
def JdX{a b:Int}:-(a.natAbs:Int)<=a.tmod b/\a.tmod b<=a.natAbs:=by
 have h:=Int.natAbs_tmod a b;have h2:(a.tmod b).natAbs<=a.natAbs:=by rw[h];exact Nat.mod_le _ _
 omega
def JfM{a b:Int}(ha:Qat a)(h:b≠-1):-9223372036854775808<=a.tdiv b/\a.tdiv b<=9223372036854775807:=by
 unfold Qat at ha;have h0:=JdW (a:=a) (b:=b)
 by_cases hm:a = -9223372036854775808
 ·have hn:=Int.natAbs_tdiv a b
  by_cases TB:b=0
  ·subst TB;simp
  ·by_cases A0:b=1
   ·subst A0;rw[Int.tdiv_one];omega
   ·have h2:2<=b.natAbs:=zo
    have h3:a.natAbs.div b.natAbs<=a.natAbs / 2:=Nat.div_le_div_left h2 zo;have h4:(a.tdiv b).natAbs<=a.natAbs / 2:=by rw[hn];exact h3
    omega
 ·omega
def Jki(p q:Nat)(a b:Int)(w:World)(ha:Qat a)(hb:Qat b)(TB:b≠0)(hp:w.cell? ⟨p,0,none⟩=some (Iv b))(hq:w.cell? ⟨q,0,none⟩=some (Iv a)):
  ∃n ex,QdB n ex false=Qbw (a.tdiv b)/\Calls prog 58 #[Pt p,Pt q] w (Qcy w n ex false):=by
 by_cases h1:b = -1
 ·subst h1;have ht:a.tdiv (-1) = -a:=by rw[Int.tdiv_neg,Int.tdiv_one]
  by_cases hm:a = -9223372036854775808
  ·subst hm;refine⟨wrap64 9223372036854775808,false,rfl,?_⟩;go_enter func58,ntmps58;exact Qgy
  ·refine⟨-a,true,by rw[ht];rfl,?_⟩;unfold Qat at ha
   have xA:(a !=-9223372036854775808)=true:=by simpa using hm
   have uA:-9223372036854775808<=-a:=zo
   have yA:-a<=9223372036854775807:=zo
   have hw:IntKind.i64.wrap (-a) = -a:=by rw[IntKind.wrap_i64];omega
   go_enter func58,ntmps58;exact Qgy
 ·refine⟨a.tdiv b,true,rfl,?_⟩;have hr:=JfM ha h1;have uA:=hr.1;have yA:=hr.2;have hw:wrap64 (a.tdiv b)=a.tdiv b:=by unfold wrap64;omega
  go_enter func58,ntmps58;go_wp2;go_ret3;exact⟨rfl,zzb⟩
def Jkj(p q:Nat)(a b:Int)(w:World)(ha:Qat a)(hb:Qat b)(TB:b≠0)(hp:w.cell? ⟨p,0,none⟩=some (Iv b))(hq:w.cell? ⟨q,0,none⟩=some (Iv a)):
  Calls prog 59 #[Pt p,Pt q] w (Qcy w (a.tmod b) true false):=by
 by_cases h1:b = -1
 ·subst h1;have ht:a.tmod (-1)=0:=by rw[Int.tmod_neg,Int.tmod_one]
  rw[ht];go_enter func59,ntmps59;go_wp2;go_ret3;exact⟨rfl,zzb⟩
 ·have hr:=JdX (a:=a) (b:=b)
  have zA:-9223372036854775808<=a.tmod b:=by
   have hn:=Int.natAbs_tmod a b;unfold Qat at ha hb;have:(a.tmod b).natAbs<=9223372036854775808:=by rw[hn];have:=Nat.mod_le a.natAbs b.natAbs;omega
   omega
  have yA:a.tmod b<=9223372036854775807:=by
   have hn:=Int.natAbs_tmod a b;unfold Qat at ha hb;have xA:0<b.natAbs:=zo
   have h5:=Nat.mod_lt a.natAbs xA;have:(a.tmod b).natAbs<9223372036854775808:=by rw[hn];omega
   omega
  have hw:wrap64 (a.tmod b)=a.tmod b:=by unfold wrap64;omega
  go_enter func59,ntmps59;go_wp2;go_ret3;exact⟨rfl,zzb⟩
def Qma(w:World)(n:Int)(ok:Bool)(e:Ending)(w':World):Prop:=e=.returned (.tuple #[Iv n,.bool ok])/\Below w.heap.size w w'
def QlA{P:Prop}(h:P:=by
  go_wp2_with fail;rw[<-hW];clear hW;refine(Calls.mono c ?_);rintro e w1 ⟨rfl,A0⟩;go_wp2;go_ret2
  exact⟨by rfl,l8.trans (A0.mono l8.size)⟩):P:=h
def Jjg(a b:Int)(w:World)(ha:Qat a)(hb:Qat b):Calls prog 27 #[Iv a,Iv b] w (Qma w (if b=0 then 0 else Qbw (a.tdiv b)) (decide (b≠0))):=by
 obtain⟨W,hW⟩:∃W,W=(w.alloc (.cells #[Iv a] 3)).alloc (.cells #[Iv b] 3):=⟨_,rfl⟩
 have l8:Below w.heap.size w W:=by rw[hW];exact(zzb.alloc zzl _).alloc zp _
 by_cases h0:b=0
 ·subst h0;go_enter func27,ntmps27;go_wp2;go_ret2;exact⟨rfl,(zzb.alloc zzl _).alloc zp _⟩
 ·have hp:W.cell? ⟨w.heap.size,0,none⟩=some (Iv a):=by rw[hW];exact VK w _ _ 3 3
  have hq:W.cell? ⟨w.heap.size+1,0,none⟩=some (Iv b):=by rw[hW];exact VL w _ _ 3 3
  obtain⟨n,ex,hn,hc⟩:=Jki (w.heap.size+1) w.heap.size a b W ha hb h0 hq hp;have c:=QmX _ _ _ _ _ _ hc;go_enter func27,ntmps27;exact QlA
def Jjh(a b:Int)(w:World)(ha:Qat a)(hb:Qat b):Calls prog 28 #[Iv a,Iv b] w (Qma w (if b=0 then 0 else Qbw (a.tmod b)) (decide (b≠0))):=by
 obtain⟨W,hW⟩:∃W,W=(w.alloc (.cells #[Iv a] 3)).alloc (.cells #[Iv b] 3):=⟨_,rfl⟩
 have l8:Below w.heap.size w W:=by rw[hW];exact(zzb.alloc zzl _).alloc zp _
 by_cases h0:b=0
 ·subst h0;go_enter func28,ntmps28;go_wp2;go_ret2;exact⟨rfl,(zzb.alloc zzl _).alloc zp _⟩
 ·have hp:W.cell? ⟨w.heap.size,0,none⟩=some (Iv a):=by rw[hW];exact VK w _ _ 3 3
  have hq:W.cell? ⟨w.heap.size+1,0,none⟩=some (Iv b):=by rw[hW];exact VL w _ _ 3 3
  have hc:=Jkj (w.heap.size+1) w.heap.size a b W ha hb h0 hq hp;have c:=QmW _ _ _ _ _ _ hc;go_enter func28,ntmps28;exact QlA
def Qbm(W:World)(v:Value)(l:List (By×Int)):Prop:=Qao W (In W) (λa c=>c=[.string (bs a.1),Iv a.2]) l v
def QaF(W:World)(v:Value)(l:List By):Prop:=Qao W (In W) (λa c=>c=[Sv a]) l v
def Qbm.up{w W:World}{v:Value}{l:List (By×Int)}(h:Qbm w v l)(hb:Below w.heap.size w W):Qbm W v l:=Qao.keep (λb hP=>hb.block b hP) (λb hP=>In.up hb hP) (λa c h=>h) h
def QaF.up{w W:World}{v:Value}{l:List By}(h:QaF w v l)(hb:Below w.heap.size w W):QaF W v l:=Qao.keep (λb hP=>hb.block b hP) (λb hP=>In.up hb hP) (λa c h=>h) h
def Qbm.form{W:World}{v:Value}{l:List (By×Int)}(h:Qbm W v l):∃ad cc,v=.slice ad l.length cc/\l.length<=cc:=by
 obtain⟨ad,cc,h1,h2,_⟩:=Qao.get (m:=2) (λa c h=>by rw[h];rfl) h;exact⟨ad,cc,h1,h2⟩
def QaF.form{W:World}{v:Value}{l:List By}(h:QaF W v l):∃ad cc,v=.slice ad l.length cc/\l.length<=cc:=by
 obtain⟨ad,cc,h1,h2,_⟩:=Qao.get (m:=1) (λa c h=>by rw[h];rfl) h;exact⟨ad,cc,h1,h2⟩
def Qbm.get{W:World}{ad:Option Addr}{m cc:Nat}{l:List (By×Int)}(h:Qbm W (.slice ad m cc) l){i:Nat}{a:By×Int}(hi:l[i]?=some a):∃b o,ad=some ⟨b,o,none⟩/\b<W.heap.size/\W.cell? ⟨b,o+i*2,none⟩=some (.string (bs a.1))/\W.cell? ⟨b,o+i*2+1,none⟩=some (Iv a.2):=by
 obtain⟨xA,yA,h1,_,h3⟩:=Qao.get (m:=2) (λa c h=>by rw[h];rfl) h;injection h1 with e1 e2 e3;subst e1;obtain⟨b,o,h4,h5,h6⟩:=h3 (List.ne_nil_of_mem (List.mem_of_getElem? hi));obtain⟨c,rfl,V3⟩:=h6 i a hi;exact⟨b,o,h4,h5,V3 0 _ rfl,V3 1 _ rfl⟩
def QaF.get{W:World}{ad:Option Addr}{m cc:Nat}{l:List By}(h:QaF W (.slice ad m cc) l){i:Nat}{a:By}(hi:l[i]?=some a):∃b o,ad=some ⟨b,o,none⟩/\b<W.heap.size/\W.cell? ⟨b,o+i,none⟩=some (Sv a):=by
 obtain⟨xA,yA,h1,_,h3⟩:=Qao.get (m:=1) (λa c h=>by rw[h];rfl) h;injection h1 with e1 e2 e3;subst e1;obtain⟨b,o,h4,h5,h6⟩:=h3 (List.ne_nil_of_mem (List.mem_of_getElem? hi));obtain⟨c,rfl,V3⟩:=h6 i a hi;have:=V3 0 _ rfl;rw[Nat.mul_one]at this;exact⟨b,o,h4,h5,this⟩
def QaI(F:Qav)(lv wv:Value):Array Value:=#[lv,Iv F.likes,Iv F.boosts,Iv F.replies,Iv F.reports,Iv F.age,Iv F.home,Iv F.scope,Iv F.length,.bool F.follows,.bool F.reply,wv]
structure Qar where
 w0:World
 p:Nat
 fa:Option Addr
 fc:Nat
 ca:Option Addr
 cc:Nat
 la:Option Addr
 lc:Nat
 wa:Option Addr
 wc:Nat
 r:Qah
 F:Qav
def Qar.cells(K:Qar)(u c:Nat):Array Value:=#[.slice K.fa K.r.funcs.length K.fc,.slice K.ca K.r.clauses.length K.cc,Iv K.r.action,
 .slice K.la K.F.labels.length K.lc,Iv K.F.likes,Iv K.F.boosts,Iv K.F.replies,Iv K.F.reports,Iv K.F.age,Iv K.F.home,Iv K.F.scope,Iv K.F.length,.bool K.F.follows,.bool K.F.reply,.slice K.wa K.F.words.length K.wc,
 Iv u,Iv c]
structure FSz(F:Qav):Prop where
 nl:F.labels.length<=1000000
 nw:F.words.length<=1000000
structure Qar.Ok(K:Qar):Prop where
 fns:QbU K.w0 (.slice K.fa K.r.funcs.length K.fc) K.r.funcs
 cls:Qeh K.w0 (.slice K.ca K.r.clauses.length K.cc) K.r.clauses
 labs:Qbm K.w0 (.slice K.la K.F.labels.length K.lc) K.F.labels
 words:QaF K.w0 (.slice K.wa K.F.words.length K.wc) K.F.words
 rsz:RSz K.r
 fsz:FSz K.F
 tr:QbI K.r=true
 ty:QbX K.r=true
 facts:Qbs K.F=true
 num:K.w0.heap.size<=K.p
structure QcN(K:Qar)(W:World)(u c:Nat):Prop where
 self:W.heap[K.p]?=some (.cells (K.cells u c) 82 (0,0))
 bel:Bel K.w0 W
section
variable {K:Qar}{W W':World}{u c:Nat}
def QcN.lt(h:QcN K W u c):K.p<W.heap.size:=Jb h.self
def QcN.up(h:QcN K W u c)(hb:Below W.heap.size W W'):QcN K W' u c:=⟨(hb.block _ h.lt).trans h.self,Je h.bel hb⟩
def QcN.drew(h:QcN K W u c):QcN K W.drew u c:=⟨h.self,h.bel.drew⟩
def QcN.setU(hk:K.Ok)(h:QcN K W u c)(u':Nat):QcN K (W.setCell ⟨K.p,15,none⟩ (Iv u')) u' c:=by
 refine⟨?_,Below.setCell h.bel hk.num _⟩;rw[JC h.self];rfl
def QcN.setC(hk:K.Ok)(h:QcN K W u c)(c':Nat):QcN K (W.setCell ⟨K.p,16,none⟩ (Iv c')) u c':=by
 refine⟨?_,Below.setCell h.bel hk.num _⟩;rw[JC h.self];rfl
end
def EvP(K:Qar)(W:World)(c:Nat):RN Int->Ending->World->Prop
 |.val v u,e,w'=>e=.returned (Iv v)/\QcN K w' u c/\Chg [K.p] W w'
 |.fault er u,e,w'=>e=.panicked [{v:=.iface 83 (Iv er),recovered:=false}]/\(∃c',QcN K w' u c')/\Chg [K.p] W w'
def Jai(b:Bool)(w:World):Calls prog 109 #[.bool b] w (Qbj (Iv (Qea b)) w):=by
 cases b with
 |false=>
  go_enter func109,ntmps109;go_wp2;go_ret;exact⟨rfl,rfl⟩
 |true=>
  go_enter func109,ntmps109;go_wp2;go_ret;exact⟨rfl,rfl⟩
def JdY(n:Int)(w:World):Calls prog 110 #[Iv n,.bool true] w (Qbj (Iv n) w):=by
 go_enter func110,ntmps110;go_wp2;go_ret;exact⟨rfl,rfl⟩
def JdZ(n:Int)(w:World):Calls prog 110 #[Iv n,.bool false] w (λe w'=>e=.panicked [{v:=.iface 83 (Iv 1),recovered:=false}]/\w'=w):=by
 go_enter func110,ntmps110;go_wp2;exact⟨rfl,rfl,rfl⟩
def QfS(K:Qar)(W:World)(u c:Nat)(e:Ending)(w':World):Prop:=
 if u=10000 then e=.panicked [{v:=.iface 83 (Iv 14),recovered:=false}]/\w'=W
 else e=.returned (.tuple #[])/\QcN K w' (u+1) c/\Chg [K.p] W w'
def Y2(K:Qar)(hk:K.Ok)(W:World)(u c:Nat)(h:QcN K W u c)(hu:u<=10000):Calls prog 41 #[Pt K.p] W (QfS K W u c):=by
 have xA:=Ja h.self 15;have zA:=Jc h.self 15;have hlt:=h.lt;have HS:=Zh (h.setU hk (u+1));have HC:Hi (Chg [K.p] W (W.setCell ⟨K.p,15,none⟩ (Iv ((u+1:Nat):Int)))):=(Chg.refl _ _).setCell (.inl zp) _;rw[show (K.cells u c)[15]?=some (Iv u) from rfl]at xA;rw[Int.natCast_add,Int.natCast_one]at HS HC
 by_cases h:u=10000
 ·have hq:QfS K W u c=λe w'=>e=.panicked [{v:=.iface 83 (Iv 14),recovered:=false}]/\w'=W:=by
   funext e w'
   unfold QfS;rw[if_pos h]
  rw[hq];subst h;rw[show ((10000:Nat):Int)=10000 from rfl]at xA;go_enter func41,ntmps41;go_wp2;exact⟨rfl,rfl,rfl⟩
 ·have hq:QfS K W u c=λe w'=>e=.returned (.tuple #[])/\QcN K w' (u+1) c/\Chg [K.p] W w':=by
   funext e w'
   unfold QfS;rw[if_neg h]
  rw[hq];go_enter func41,ntmps41;go_wp2;go_end0;exact⟨rfl,HS.o,HC.o⟩
def Jji(F:Qav)(s:By):QdT F s=if s=Qcq then F.likes else if s=Qcx then F.boosts else if s=QbP then F.replies else if s=QbO then F.reports
 else if s=QiV then F.age else if s=QeM then F.home else if s=Qdo then F.scope else if s=Qcw then F.length
 else if s=QbQ then Qea F.follows else Qea F.reply:=rfl
def JfN(K:Qar)(hk:K.Ok)(W:World)(u c:Nat)(h:QcN K W u c)(s:By):Calls prog 78 #[Pt K.p,Sv s] W (QbL W (Iv (QdT K.F s))):=by
 have u1:=Jk s;rw[Jji];have hb:Below W.heap.size W (W.alloc (.cells (QaI K.F (.slice K.la K.F.labels.length K.lc) (.slice K.wa K.F.words.length K.wc)) 25)):=zzb.alloc zzl _;have HB:=Zh hb;have S0:=Zh (zzw W (.cells (QaI K.F (.slice K.la K.F.labels.length K.lc) (.slice K.wa K.F.words.length K.wc)) 25));have hrow:=λj=>Ja h.self j
 unfold QaI at HB S0;have b3:W.cell? ⟨K.p,3,none⟩=some (.slice K.la K.F.labels.length K.lc):=hrow 3;have b4:W.cell? ⟨K.p,4,none⟩=some (Iv K.F.likes):=hrow 4;have b5:W.cell? ⟨K.p,5,none⟩=some (Iv K.F.boosts):=hrow 5;have b6:W.cell? ⟨K.p,6,none⟩=some (Iv K.F.replies):=hrow 6;have b7:W.cell? ⟨K.p,7,none⟩=some (Iv K.F.reports):=hrow 7;have b8:W.cell? ⟨K.p,8,none⟩=some (Iv K.F.age):=hrow 8;have b9:W.cell? ⟨K.p,9,none⟩=some (Iv K.F.home):=hrow 9;have b10:W.cell? ⟨K.p,10,none⟩=some (Iv K.F.scope):=hrow 10;have b11:W.cell? ⟨K.p,11,none⟩=some (Iv K.F.length):=hrow 11;have zA:W.cell? ⟨K.p,12,none⟩=some (.bool K.F.follows):=hrow 12;have yA:W.cell? ⟨K.p,13,none⟩=some (.bool K.F.reply):=hrow 13;have xA:W.cell? ⟨K.p,14,none⟩=some (.slice K.wa K.F.words.length K.wc):=hrow 14;have vA:=λW=>Jai K.F.follows W
 have uA:=λW=>Jai K.F.reply W
 generalize Qea K.F.follows=xf at*;generalize Qea K.F.reply=xr at*;generalize K.F.likes=xLikes at*;generalize K.F.boosts=xBoosts at*;generalize K.F.replies=xReplies at*;generalize K.F.reports=xReports at*;generalize K.F.age=xAge at*;generalize K.F.home=xHome at*;generalize K.F.scope=xScope at*;generalize K.F.length=xLength at*;generalize K.F.follows=xFollows at*;generalize K.F.reply=xReply at*;generalize K.F.labels.length=nl at*;generalize K.F.words.length=nw at*;clear hrow h hb
 by_cases h0:s=Qcq
 ·have e0:(s==[108,105,107,101,115])=true:=beq_iff_eq.2 h0;rw[if_pos h0];clear h0;go_enter func78,ntmps78;go_upto_region 2 with fail;clear b3 b4 b5 b6 b7 b8 b9 b10 b11 zA yA xA;generalize World.alloc W _=w1 at*;generalize P4:W.heap.size=cb at*;have c1:=Ja S0.o 1;simp only[zW]at c1;go_wp2;go_ret;refine⟨rfl,?_⟩;rw[P4];exact HB.o
 have e0:(s==[108,105,107,101,115])=false:=zzq h0;rw[if_neg h0]
 by_cases h1:s=Qcx
 ·have e1:(s==[98,111,111,115,116,115])=true:=beq_iff_eq.2 h1;rw[if_pos h1];clear h0 h1;go_enter func78,ntmps78;go_upto_region 2 with fail;clear b3 b4 b5 b6 b7 b8 b9 b10 b11 zA yA xA;generalize World.alloc W _=w1 at*;generalize P4:W.heap.size=cb at*;have c2:=Ja S0.o 2;simp only[zW]at c2;go_wp2;go_ret;refine⟨rfl,?_⟩;rw[P4];exact HB.o
 have e1:(s==[98,111,111,115,116,115])=false:=zzq h1;rw[if_neg h1]
 by_cases h2:s=QbP
 ·have e2:(s==[114,101,112,108,105,101,115])=true:=beq_iff_eq.2 h2;rw[if_pos h2];clear h0 h1 h2;go_enter func78,ntmps78;go_upto_region 2 with fail;clear b3 b4 b5 b6 b7 b8 b9 b10 b11 zA yA xA;generalize World.alloc W _=w1 at*;generalize P4:W.heap.size=cb at*;have c3:=Ja S0.o 3;simp only[zW]at c3;go_wp2;go_ret;refine⟨rfl,?_⟩;rw[P4];exact HB.o
 have e2:(s==[114,101,112,108,105,101,115])=false:=zzq h2;rw[if_neg h2]
 by_cases h3:s=QbO
 ·have e3:(s==[114,101,112,111,114,116,115])=true:=beq_iff_eq.2 h3;rw[if_pos h3];clear h0 h1 h2 h3;go_enter func78,ntmps78;go_upto_region 2 with fail;clear b3 b4 b5 b6 b7 b8 b9 b10 b11 zA yA xA;generalize World.alloc W _=w1 at*;generalize P4:W.heap.size=cb at*;have c4:=Ja S0.o 4;simp only[zW]at c4;go_wp2;go_ret;refine⟨rfl,?_⟩;rw[P4];exact HB.o
 have e3:(s==[114,101,112,111,114,116,115])=false:=zzq h3;rw[if_neg h3]
 by_cases h4:s=QiV
 ·have e4:(s==[97,103,101])=true:=beq_iff_eq.2 h4;rw[if_pos h4];clear h0 h1 h2 h3 h4;go_enter func78,ntmps78;go_upto_region 2 with fail;clear b3 b4 b5 b6 b7 b8 b9 b10 b11 zA yA xA;generalize World.alloc W _=w1 at*;generalize P4:W.heap.size=cb at*;have c5:=Ja S0.o 5;simp only[zW]at c5;go_wp2;go_ret;refine⟨rfl,?_⟩;rw[P4];exact HB.o
 have e4:(s==[97,103,101])=false:=zzq h4;rw[if_neg h4]
 by_cases h5:s=QeM
 ·have e5:(s==[104,111,109,101])=true:=beq_iff_eq.2 h5;rw[if_pos h5];clear h0 h1 h2 h3 h4 h5;go_enter func78,ntmps78;go_upto_region 2 with fail;clear b3 b4 b5 b6 b7 b8 b9 b10 b11 zA yA xA;generalize World.alloc W _=w1 at*;generalize P4:W.heap.size=cb at*;have c6:=Ja S0.o 6;simp only[zW]at c6;go_wp2;go_ret;refine⟨rfl,?_⟩;rw[P4];exact HB.o
 have e5:(s==[104,111,109,101])=false:=zzq h5;rw[if_neg h5]
 by_cases h6:s=Qdo
 ·have e6:(s==[115,99,111,112,101])=true:=beq_iff_eq.2 h6;rw[if_pos h6];clear h0 h1 h2 h3 h4 h5 h6;go_enter func78,ntmps78;go_upto_region 2 with fail;clear b3 b4 b5 b6 b7 b8 b9 b10 b11 zA yA xA;generalize World.alloc W _=w1 at*;generalize P4:W.heap.size=cb at*;have c7:=Ja S0.o 7;simp only[zW]at c7;go_wp2;go_ret;refine⟨rfl,?_⟩;rw[P4];exact HB.o
 have e6:(s==[115,99,111,112,101])=false:=zzq h6;rw[if_neg h6]
 by_cases h7:s=Qcw
 ·have e7:(s==[108,101,110,103,116,104])=true:=beq_iff_eq.2 h7;rw[if_pos h7];clear h0 h1 h2 h3 h4 h5 h6 h7;go_enter func78,ntmps78;go_upto_region 2 with fail;clear b3 b4 b5 b6 b7 b8 b9 b10 b11 zA yA xA;generalize World.alloc W _=w1 at*;generalize P4:W.heap.size=cb at*;have c8:=Ja S0.o 8;simp only[zW]at c8;go_wp2;go_ret;refine⟨rfl,?_⟩;rw[P4];exact HB.o
 have e7:(s==[108,101,110,103,116,104])=false:=zzq h7;rw[if_neg h7]
 by_cases h8:s=QbQ
 ·have e8:(s==[102,111,108,108,111,119,115])=true:=beq_iff_eq.2 h8;rw[if_pos h8];clear h0 h1 h2 h3 h4 h5 h6 h7 h8;go_enter func78,ntmps78;go_upto_region 2 with fail;generalize World.alloc W _=w1 at*;generalize P4:W.heap.size=cb at*;have c9:=Ja S0.o 9;simp only[zW]at c9;go_wp2_with fail;refine(vA _).mono ?_;rintro e w3 ⟨rfl,rfl⟩;go_wp2;go_ret;refine⟨rfl,?_⟩;rw[P4];exact HB.o
 have e8:(s==[102,111,108,108,111,119,115])=false:=zzq h8;rw[if_neg h8];go_enter func78,ntmps78;go_upto_region 2 with fail;generalize World.alloc W _=w1 at*;generalize P4:W.heap.size=cb at*;have aA:=Ja S0.o 10;simp only[zW]at aA;go_wp2_with fail;refine(uA _).mono ?_;rintro e w3 ⟨rfl,rfl⟩;go_wp2;go_ret;refine⟨rfl,?_⟩;rw[P4];exact HB.o
def JfO(a:By)(l:List By)(s:By):Qeb (a::l) s=if a=s then 1 else Qeb l s:=by
 unfold Qeb Qea
 by_cases h:a=s
 ·subst h;simp
 ·rw[if_neg h]
  have:(decide (s∈a::l))=decide (s∈l):=by
   have hs:¬s=a:=λe=>h e.symm
   simp[hs]
  rw[this]
def JfP(K:Qar)(hk:K.Ok)(W:World)(u c:Nat)(h:QcN K W u c)(s:By):Calls prog 80 #[Pt K.p,Sv s] W (Qbj (Iv (Qeb K.F.words s)) W):=by
 have u1:=Jk s;obtain⟨q,hq⟩:∃q,Qeb K.F.words s=q:=⟨_,rfl⟩
 rw[hq];have HQ:Hi (Qeb (K.F.words.drop 0) s=q):=hq;have hw:=hk.words.up h.bel;have hn:=hk.fsz.nw;have zA:W.cell? ⟨K.p,14,none⟩=some (.slice K.wa K.F.words.length K.wc):=Ja h.self 14;obtain⟨n,yA⟩:∃n,K.F.words.length=n:=⟨_,rfl⟩
 rw[yA]at hw hn zA;have HW:=Zh hw;have HL:=Zh yA;have HN:=Zh hn;clear hw hq yA h hn;generalize K.wa=wa at*;generalize K.wc=wc at*;go_enter func80,ntmps80;go_wp2;clear zA;go_loop [13] (λv=>∃k:Nat,v=Iv k/\k<=n/\Hi (Qeb (K.F.words.drop k) s=q)) λv=>n-(intOf v).toNat
 case atStart=>exact⟨0,rfl,Nat.zero_le _,HQ⟩
 case round=>
 clear HQ;obtain⟨k,rfl,hkn,hz⟩:=hrel;have wk:IntKind.i64.wrap ((k:Int)+1)=(k:Int)+1:=IntWalk.i64_in _ (zt HN.o)
 by_cases hi:k<n
 ·have hil:(k:Int)<(n:Int):=zo
  have hlt:k<K.F.words.length:=by rw[HL.o];exact hi
  obtain⟨a,ha⟩:∃a,K.F.words[k]?=some a:=⟨K.F.words[k]'hlt,getElem?_eq_getElem _⟩
  obtain⟨b,o,vA,hb,hc⟩:=HW.o.get ha;have xA:=hz.o;rw[List.drop_eq_getElem_cons hlt,JfO]at xA;have uA:K.F.words[k]=a:=by rw[getElem?_eq_getElem hlt]at ha;exact Option.some.inj ha
  rw[uA]at xA;have u2:=Jk a;clear ha uA hz hlt hb
  by_cases e:a=s
  ·have ee:(a==s)=true:=beq_iff_eq.2 e;rw[if_pos e]at xA;subst xA;subst vA;clear e;go_wp2;go_ret;exact⟨rfl,rfl⟩
  ·have ee:(a==s)=false:=zzq e;rw[if_neg e]at xA;have HZ:=Zh xA;subst vA;clear e xA;go_wp2;go_round
   case rel=>exact⟨k+1,by go_num,hi,HZ⟩
   case measure=>simp[intOf];omega
 ·have hil:¬(k:Int)<(n:Int):=zo
  have xA:=hz.o;rw[List.drop_of_length_le (by rw[HL.o];omega)]at xA;have aA:q=0:=by rw[<-xA];rfl
  subst aA;clear hz xA hi hkn;go_wp2;go_ret;exact⟨rfl,rfl⟩
def Jea(K:Qar)(hk:K.Ok)(W:World)(u c:Nat)(h:QcN K W u c)(s:By):Calls prog 79 #[Pt K.p,Sv s] W (QbL W (Iv (QcK K.F.labels s))):=by
 have u1:=Jk s;obtain⟨q,hq⟩:∃q,QcK K.F.labels s=q:=⟨_,rfl⟩
 rw[hq];have HQ:Hi (QcK (K.F.labels.drop 0) s=q):=hq;have hw:=hk.labs.up h.bel;have hn:=hk.fsz.nl;have b3:W.cell? ⟨K.p,3,none⟩=some (.slice K.la K.F.labels.length K.lc):=Ja h.self 3;obtain⟨n,zA⟩:∃n,K.F.labels.length=n:=⟨_,rfl⟩
 rw[zA]at hw hn b3;have HW:=Zh hw;have HL:=Zh zA;have HN:=Zh hn;have uA:Hi (Bel W W):=zzb;clear hw hq zA h hn;generalize K.la=la at*;generalize K.lc=lc at*;go_enter func79,ntmps79;go_wp2_with fail;clear b3;go_loopg [13] n λg v13 wr=>∃k:Nat,g+k=n/\v13=Iv k/\Hi (Bel W wr)/\Hi (QcK (K.F.labels.drop k) s=q)
 case atStart=>exact⟨0,rfl,rfl,uA,HQ⟩
 case round=>
 clear HQ uA;obtain⟨wl,rfl⟩:=zG wr
 obtain⟨k,hg,rfl,G1,hz⟩:=hrel;have wk:IntKind.i64.wrap ((k:Int)+1)=(k:Int)+1:=IntWalk.i64_in _ (zt HN.o)
 by_cases hi:k<n
 ·have hil:(k:Int)<(n:Int):=zo
  have hlt:k<K.F.labels.length:=by rw[HL.o];exact hi
  obtain⟨a,ha⟩:∃a,K.F.labels[k]?=some a:=⟨K.F.labels[k]'hlt,getElem?_eq_getElem _⟩
  have vA:Qbm wl (.slice la n lc) K.F.labels:=HW.o.up G1.o;obtain⟨b,o,bA,hb,hc,E1⟩:=vA.get ha;have xA:=hz.o;rw[List.drop_eq_getElem_cons hlt]at xA;have aA:K.F.labels[k]=a:=by rw[getElem?_eq_getElem hlt]at ha;exact Option.some.inj ha
  rw[aA]at xA;obtain⟨nm,ct⟩:=a;dsimp only at hc E1;rw[QcK]at xA;dsimp only at xA;have u2:=Jk nm;have yA:Hi (Bel W (wl.alloc (.cells #[Sv nm,Iv ct] 91))):=Below.alloc G1.o G1.o.size _;have HG:=Zh hg;clear ha aA hz hlt hb vA hg
  by_cases e:nm=s
  ·have ee:(nm==s)=true:=beq_iff_eq.2 e;rw[if_pos e]at xA;subst xA;subst bA;clear e;go_wp2;go_ret;exact⟨rfl,yA.o⟩
  ·have ee:(nm==s)=false:=zzq e;rw[if_neg e]at xA;have HZ:=Zh xA;have B3:=Zh hi;subst bA;clear e xA hi;go_wp2;go_roundg (n-(k+1))
   case measure=>have:=HG.o;have:=B3.o;omega
   case rel=>exact⟨k+1,by have:=B3.o;omega,by go_num,yA,HZ⟩
 ·have hil:¬(k:Int)<(n:Int):=zo
  have xA:=hz.o;rw[List.drop_of_length_le (by rw[HL.o];omega)]at xA;have cA:q=0:=by rw[<-xA];rfl
  subst cA;have yA:=Zh G1.o;clear hz xA hi hg G1;go_wp2;go_ret;exact⟨rfl,yA.o⟩
def Qfk(w:World)(x:RN Int)(e:Ending)(w':World):Prop:=
 match x with
 |.val v u=>e=.returned (Iv v)/\Below w.heap.size w w'
 |.fault er u=>e=.panicked [{v:=.iface 83 (Iv er),recovered:=false}]/\Below w.heap.size w w'
def QmD{P:Prop}(h:P:=by
  clear hq hg ha hb;go_enter func82,ntmps82;go_wp2_with fail;refine cn.mono ?_;rintro e w3 ⟨rfl,U0⟩;have HX:=Zh U0;clear cn U0 c0 c1;go_wp2;go_ret
  exact⟨rfl,HX.o⟩):P:=h
def Jjj(vv:Value)(g o n cc:Nat)(a b:Int)(w:World)
  (hp:vv=.slice (some ⟨g,o,none⟩) n cc) (hg:2<=n) (c0:w.cell? ⟨g,o,none⟩=some (Iv a)) (c1:w.cell? ⟨g,o+1,none⟩=some (Iv b)) (ha:Qat a) (hb:Qat b) (u:Nat):Calls prog 82 #[Iv 8,vv] w (Qfk w (Qap 8 a b u)):=by
 subst hp;have hq:Qfk w (Qap 8 a b u)=λe w'=>e=.returned (Iv (Qbw (a+b)))/\Below w.heap.size w w':=rfl
 rw[hq];have i6:(0:Int)<(n:Int):=zo
 have G8:(1:Int)<(n:Int):=zo
 have I8:0<n:=zo
 have O8:1<n:=zo
 have HA:=Zh ha;have U7:=Zh hb;have cn:=JhA a b w ha hb;exact QmD
def Jjk(vv:Value)(g o n cc:Nat)(a b:Int)(w:World)
  (hp:vv=.slice (some ⟨g,o,none⟩) n cc) (hg:2<=n) (c0:w.cell? ⟨g,o,none⟩=some (Iv a)) (c1:w.cell? ⟨g,o+1,none⟩=some (Iv b)) (ha:Qat a) (hb:Qat b) (u:Nat):Calls prog 82 #[Iv 9,vv] w (Qfk w (Qap 9 a b u)):=by
 subst hp;have hq:Qfk w (Qap 9 a b u)=λe w'=>e=.returned (Iv (Qbw (a-b)))/\Below w.heap.size w w':=rfl
 rw[hq];have i6:(0:Int)<(n:Int):=zo
 have G8:(1:Int)<(n:Int):=zo
 have I8:0<n:=zo
 have O8:1<n:=zo
 have HA:=Zh ha;have U7:=Zh hb;have cn:=JfL a b w ha hb;exact QmD
def JhC(vv:Value)(g o n cc:Nat)(a b:Int)(w:World)
  (hp:vv=.slice (some ⟨g,o,none⟩) n cc) (hg:2<=n) (c0:w.cell? ⟨g,o,none⟩=some (Iv a)) (c1:w.cell? ⟨g,o+1,none⟩=some (Iv b)) (ha:Qat a) (hb:Qat b) (u:Nat):Calls prog 82 #[Iv 10,vv] w (Qfk w (Qap 10 a b u)):=by
 subst hp;have hq:Qfk w (Qap 10 a b u)=λe w'=>e=.returned (Iv (Qbw (a*b)))/\Below w.heap.size w w':=rfl
 rw[hq];have i6:(0:Int)<(n:Int):=zo
 have G8:(1:Int)<(n:Int):=zo
 have I8:0<n:=zo
 have O8:1<n:=zo
 have HA:=Zh ha;have U7:=Zh hb;have cn:=Jjf a b w ha hb;exact QmD
def QnE{P:Prop}(h:P:=by
  rw[hq];rw[if_pos hz,zF (λh=>h hz)]at cn;have cd:=λW=>JdZ 0 W
  have HZ:=Zh hz;clear hz hq;go_enter func82,ntmps82;go_wp2_with fail;refine cn.mono ?_;rintro e w3 ⟨rfl,U0⟩;have HX:=Zh U0;clear cn U0 c0 c1;go_wp2_with fail;refine(cd _).mono ?_;rintro e w4 ⟨rfl,rfl⟩;refine⟨rfl,?_⟩
  exact⟨rfl,HX.o⟩):P:=h
def QnD{P:Prop}(h:P:=by
  rw[hq];rw[if_neg hz,zE hz]at cn;have cd:=λn W=>JdY n W
  have HZ:=Zh hz;clear hz hq;go_enter func82,ntmps82;go_wp2_with fail;refine cn.mono ?_;rintro e w3 ⟨rfl,U0⟩;have HX:=Zh U0;clear cn U0 c0 c1;go_wp2_with fail;refine(cd _ _).mono ?_;rintro e w4 ⟨rfl,rfl⟩;clear cd;go_wp2;go_ret
  exact⟨rfl,HX.o⟩):P:=h
def JhD(vv:Value)(g o n cc:Nat)(a b:Int)(w:World)
  (hp:vv=.slice (some ⟨g,o,none⟩) n cc) (hg:2<=n) (c0:w.cell? ⟨g,o,none⟩=some (Iv a)) (c1:w.cell? ⟨g,o+1,none⟩=some (Iv b)) (ha:Qat a) (hb:Qat b) (u:Nat):Calls prog 82 #[Iv 11,vv] w (Qfk w (Qap 11 a b u)):=by
 subst hp
 have HA:=Zh ha;have U7:=Zh hb;have cn:=Jjg a b w ha hb
 by_cases hz:b=0
 ·have hq:Qap 11 a b u=.fault 1 u:=by rw[hz];rfl
  exact QnE
 ·have hq:Qap 11 a b u=.val (Qbw (a.tdiv b)) u:=by
   have:Qap 11 a b u=if b=0 then .fault 1 u else .val (clI (a.tdiv b)) u:=rfl;rw[this,if_neg hz];rfl
  exact QnD
def JhE(vv:Value)(g o n cc:Nat)(a b:Int)(w:World)
  (hp:vv=.slice (some ⟨g,o,none⟩) n cc) (hg:2<=n) (c0:w.cell? ⟨g,o,none⟩=some (Iv a)) (c1:w.cell? ⟨g,o+1,none⟩=some (Iv b)) (ha:Qat a) (hb:Qat b) (u:Nat):Calls prog 82 #[Iv 12,vv] w (Qfk w (Qap 12 a b u)):=by
 subst hp
 have O8:1<n:=zo
 have HA:=Zh ha;have U7:=Zh hb;have cn:=Jjh a b w ha hb
 by_cases hz:b=0
 ·have hq:Qap 12 a b u=.fault 1 u:=by rw[hz];rfl
  exact QnE
 ·have hq:Qap 12 a b u=.val (Qbw (a.tmod b)) u:=by
   have:Qap 12 a b u=if b=0 then .fault 1 u else .val (clI (a.tmod b)) u:=rfl;rw[this,if_neg hz];rfl
  exact QnD
def QnH{P:Prop}(h:P:=by
  have cb:=λW=>Jai x W
  clear hq hg ha hb;go_enter func82,ntmps82;go_wp2_with fail;refine(cb _).mono ?_;rintro e w3 ⟨rfl,rfl⟩;clear cb c0 c1;go_wp2;go_ret
  exact⟨rfl,zzb⟩):P:=h
def Qne{P:Prop}(h:P:=by
  rw[hq];have i6:(0:Int)<(n:Int):=by omega
  have G8:(1:Int)<(n:Int):=by omega
  have I8:0<n:=by omega
  have O8:1<n:=by omega
  have HA:=Zh ha;have U7:=Zh hb
  exact QnH):P:=h
def JhF(vv:Value)(g o n cc:Nat)(a b:Int)(w:World)
  (hp:vv=.slice (some ⟨g,o,none⟩) n cc) (hg:2<=n) (c0:w.cell? ⟨g,o,none⟩=some (Iv a)) (c1:w.cell? ⟨g,o+1,none⟩=some (Iv b)) (ha:Qat a) (hb:Qat b) (u:Nat):Calls prog 82 #[Iv 13,vv] w (Qfk w (Qap 13 a b u)):=by
 subst hp;obtain⟨x,hx⟩:∃x,decide (a<b)=x:=⟨_,rfl⟩
 have hq:Qfk w (Qap 13 a b u)=λe w'=>e=.returned (Iv (Qea x))/\Below w.heap.size w w':=by rw[<-hx];rfl
 exact Qne
def JhG(vv:Value)(g o n cc:Nat)(a b:Int)(w:World)
  (hp:vv=.slice (some ⟨g,o,none⟩) n cc) (hg:2<=n) (c0:w.cell? ⟨g,o,none⟩=some (Iv a)) (c1:w.cell? ⟨g,o+1,none⟩=some (Iv b)) (ha:Qat a) (hb:Qat b) (u:Nat):Calls prog 82 #[Iv 14,vv] w (Qfk w (Qap 14 a b u)):=by
 subst hp;obtain⟨x,hx⟩:∃x,decide (a<=b)=x:=⟨_,rfl⟩
 have hq:Qfk w (Qap 14 a b u)=λe w'=>e=.returned (Iv (Qea x))/\Below w.heap.size w w':=by rw[<-hx];rfl
 exact Qne
def JhH(vv:Value)(g o n cc:Nat)(a b:Int)(w:World)
  (hp:vv=.slice (some ⟨g,o,none⟩) n cc) (hg:2<=n) (c0:w.cell? ⟨g,o,none⟩=some (Iv a)) (c1:w.cell? ⟨g,o+1,none⟩=some (Iv b)) (ha:Qat a) (hb:Qat b) (u:Nat):Calls prog 82 #[Iv 15,vv] w (Qfk w (Qap 15 a b u)):=by
 subst hp;obtain⟨x,hx⟩:∃x,decide (a=b)=x:=⟨_,rfl⟩
 have hq:Qfk w (Qap 15 a b u)=λe w'=>e=.returned (Iv (Qea x))/\Below w.heap.size w w':=by rw[<-hx];rfl
 rw[hq]
 have O8:1<n:=zo
 have HA:=Zh ha;have U7:=Zh hb;have xA:(a==b)=x:=by rw[<-hx];rfl
 exact QnH
def Jjl(vv:Value)(g o n cc:Nat)(a b:Int)(w:World)(hp:vv=.slice (some ⟨g,o,none⟩) n cc)(hg:1<=n)(c0:w.cell? ⟨g,o,none⟩=some (Iv a))(ha:Qat a)(u:Nat):Calls prog 82 #[Iv 6,vv] w (Qfk w (Qap 6 a b u)):=by
 subst hp;have hq:Qfk w (Qap 6 a b u)=λe w'=>e=.returned (Iv (Qbw (0-a)))/\Below w.heap.size w w':=rfl
 rw[hq];have i6:(0:Int)<(n:Int):=zo
 have I8:0<n:=zo
 have cn:=JfL 0 a w (by unfold Qat;omega) ha;rw[Int.zero_sub]at cn |-;clear hq hg ha;go_enter func82,ntmps82;go_wp2_with fail;refine cn.mono ?_;rintro e w3 ⟨rfl,U0⟩;have HX:=Zh U0;clear cn U0 c0;go_wp2;go_ret;exact⟨rfl,HX.o⟩
def Jjm(vv:Value)(g o n cc:Nat)(a b:Int)(w:World)(hp:vv=.slice (some ⟨g,o,none⟩) n cc)(hg:1<=n)(c0:w.cell? ⟨g,o,none⟩=some (Iv a))(ha:a=0\/a=1)(u:Nat):Calls prog 82 #[Iv 7,vv] w (Qfk w (Qap 7 a b u)):=by
 subst hp;have hq:Qfk w (Qap 7 a b u)=λe w'=>e=.returned (Iv (1-a))/\Below w.heap.size w w':=rfl
 rw[hq];have i6:(0:Int)<(n:Int):=zo
 have I8:0<n:=zo
 clear hq hg
 rcases ha with rfl|rfl
 all_goals
  go_enter func82,ntmps82;go_wp2;go_ret;exact⟨rfl,zzb⟩
open Go.ChangeShapes Go.WideShapes Go.RowKit Go.Deep
open Go.Joins
section
variable {H:Type}{enc:TypeId×Value->H}{P:Program}{w:World}{base:Nat}{spare:Nat->Bool}{held:Bool}
def V2{t e:TypeId}{fs:Array Field}{fuel:Nat}{cs:List Value}{x:DataW H×List MemPlace}(ht:P.underlying t=some (.slice e))(he:P.underlying e=some (.struct fs))
  (hone:oneCellFields P fs=true) (hC:P.cellsOf e=fs.size) (h:DataW.trod enc P w base spare held fuel t cs=some x):
  (cs=[Nl]/\x=(.nil,[]))\/
  ∃(a:Addr) (len cap m:Nat) (D:Nat->DataW H) (Pl:Nat->List MemPlace),cs=[.slice (some a) len cap]/\base<=a.block/\len<=cap/\cap<=maxLen/\m=(if spare a.block then cap else len)/\
   x=(.slice ((List.range len).map D) ((List.range (m-len)).map λj=>D (len+j)),MemPlace.row a (m*fs.size)++(List.range m).flatMap Pl)/\
   ∀i,i<m->∃(ys:List (DataW H×List MemPlace)) (n:Nat),D i=.agg (ys.map (·.1))/\Pl i=ys.flatMap (·.2)/\ys.length=fs.size/\
    ∀(j:Nat)(f:Field),fs[j]?=some f->∃(v:Value) (y:DataW H×List MemPlace),w.cell? (a.add (i*fs.size+j))=some v/\ys[j]?=some y/\DataW.trod enc P w base spare held n f.type [v]=some y:=by
 rcases open_slice ht h with h0|⟨a,len,cap,m,n,D,Pl,hcs,hb,hl,hm,hmm,hx,hi⟩
 ·exact .inl h0
 ·refine .inr ⟨a,len,cap,m,D,Pl,hcs,hb,hl,hm,hmm,by rw[hC]at hx;exact hx,λi him=>?_⟩;obtain⟨zA,hc,vA⟩:=hi i him;rw[hC]at hc;obtain⟨ys,n',dA,hy,cA,aA,hf⟩:=DataW.trod_struct he vA;obtain⟨_,hcl,hat⟩:=World.cells?_some hc;simp only[Prod.mk.injEq]at hy;refine⟨ys,n',hy.1,hy.2,aA,λj f hj=>?_⟩;obtain⟨ho,hk⟩:=hone_of hone j f hj;have bA:j<fs.size:=(Array.getElem?_eq_some_iff.1 hj).1;have yA:=hat j bA;have hv:zA[j]?=some (zA[j]'(by omega)):=getElem?_eq_getElem zo;have h1:=hf j f hj;rw[ho,hk]at h1
  have xA:(zA.drop j).take 1=[zA[j]'(by omega)]:=by
   rw[List.drop_eq_getElem_cons zo];rfl
  rw[xA]at h1;have uA:ys[j]?=some (ys[j]'(by omega)):=getElem?_eq_getElem zo;refine⟨_,_,?_,uA,h1.trans uA⟩;rw[<-Go.Deep.add_add,yA,hv]
def JhI{r:Go.Reach}{b0:Nat}{t:TypeId}{fs:Array Field}{v:Value}{d:DataW H}{p:List MemPlace}(hs:P.underlying t=some (.struct fs))(hone:oneCellFields P fs=true)(hC:P.cellsOf t=fs.size)
  (hv:Value.okWide P w r b0 t v) (h:DataW.Trod enc P w base spare held t v d p):
  ∃cs:List Value,v=.agg cs.toArray/\cs.length=fs.size/\∀(j:Nat)(f:Field),fs[j]?=some f->∃(v:Value) (y:DataW H×List MemPlace) (n:Nat),cs[j]?=some v/\DataW.trod enc P w base spare held n f.type [v]=some y:=by
 obtain⟨cs,rfl,hsz⟩:=okWide_struct hs hv;obtain⟨l⟩:=cs;obtain⟨zA,hf⟩:=h;obtain⟨ys,n,_,hx,_,vA,hg⟩:=DataW.trod_struct hs hf;have yA:l.length=fs.size:=hsz.trans hC;refine⟨l,rfl,yA,λj f hj=>?_⟩;obtain⟨ho,hk⟩:=hone_of hone j f hj;have aA:j<fs.size:=(Array.getElem?_eq_some_iff.1 hj).1;have h1:=hg j f hj;rw[ho,hk]at h1;have hcl:(Value.cells (.agg l.toArray)).toList=l:=rfl;rw[hcl]at h1
 have xA:(l.drop j).take 1=[l[j]'(by omega)]:=by
  rw[List.drop_eq_getElem_cons zo];rfl
 rw[xA]at h1;have uA:ys[j]?=some (ys[j]'(by omega)):=getElem?_eq_getElem zo;exact⟨_,_,n,getElem?_eq_getElem zo,h1.trans uA⟩
end
def Jbj{α:Type}(z:α){n:Nat}{P:Nat->α->Prop}(h:∀i,i<n->∃x,P i x):∃f:Nat->α,∀i,i<n->P i (f i):=
 ⟨λi=>if hi:i<n then (h i hi).choose else z,λi hi=>by
  have:=(h i hi).choose_spec
  simpa[hi] using this⟩
def Jeb{α:Type}(z:α){n:Nat}{P:Nat->α->Prop}(h:∀i,i<n->∃x,P i x):∃l:List α,l.length=n/\(∀i x,l[i]?=some x->P i x)/\∀x,x∈l->∃i,i<n/\P i x:=by
 obtain⟨f,hf⟩:=Jbj z h;refine⟨(List.range n).map f,by simp,λi x hx=>?_,λx hx=>?_⟩
 ·simp only[List.getElem?_map]at hx
  have hil:i<n:=by
   rcases Nat.lt_or_ge i n with h|h
   ·exact h
   ·rw[List.getElem?_eq_none (by simpa using h)]at hx;simp at hx
  rw[List.getElem?_range hil]at hx;simp only[Option.map_some,Option.some.injEq]at hx;subst hx;exact hf i hil
 ·obtain⟨i,hi,rfl⟩:=List.mem_map.1 hx;exact⟨i,by simpa using hi,hf i (by simpa using hi)⟩
def JfQ{w:World}{a:Addr}{v:Value}(h:w.cell? a=some v):a.spot=none:=by
 unfold World.cell? at h;split at h
 ·cases hs:a.spot with
  |none=>rfl
  |some x=>simp[hs]at h
 ·cases h
def Jjn{w:World}{a:Addr}{v:Value}(h:w.cell? a=some v):a.block<w.heap.size:=by
 refine Nat.lt_of_not_le λhn=>?_
 unfold World.cell? at h;rw[Array.getElem?_eq_none hn]at h;simp at h
def Jkk{a:Addr}(h:a.spot=none)(n:Nat):a.add n=⟨a.block,a.off+n,none⟩:=by
 unfold Addr.add;split
 ·next e=>subst e;cases a;simp_all
 ·rfl
def Ys{α:Type}(R:α->List Value->Prop)(g:α->List Value)(hg:∀a,R a (g a)):∀l:List α,Qck R l (l.flatMap g)
 |[]=>rfl
 |a::l=>⟨g a,_,hg a,by simp,Ys R g hg l⟩
def Y3{α:Type}(g:α->List Value)(m:Nat)(hm:0<m)(hg:∀a,(g a).length=m):∀(l:List α)(i:Nat)(u:Value),(l.flatMap g)[i]?=some u->∃a,l[i / m]?=some a/\(g a)[i % m]?=some u
 |[],i,u,h=>by simp at h
 |a::l,i,u,h=>by
  rw[List.flatMap_cons]at h
  by_cases hi:i<m
  ·rw[List.getElem?_append_left (by rw[hg];exact hi)]at h;exact⟨a,by rw[Nat.div_eq_of_lt hi];rfl,by rw[Nat.mod_eq_of_lt hi];exact h⟩
  ·rw[List.getElem?_append_right (by rw[hg];omega),hg]at h;obtain⟨b,h1,h2⟩:=Y3 g m hm hg l (i-m) u h;refine⟨b,?_,?_⟩
   ·rw[Nat.div_eq_sub_div hm zo];exact h1
   ·rw[Nat.mod_eq_sub_mod zo];exact h2
def VM{α:Type}{W:World}{a:Addr}{cap:Nat}{R:α->List Value->Prop}(g:α->List Value)(m:Nat)(hm:0<m)(hgl:∀a,(g a).length=m)(hg:∀a,R a (g a)){l:List α}(hc:l.length<=cap)
  (h:∀i x,l[i]?=some x->∀j u,(g x)[j]?=some u->W.cell? (a.add (i*m+j))=some u):Qao W (In W) R l (.slice (some a) l.length cap):=by
 refine⟨some a,cap,l.flatMap g,rfl,hc,Ys R g hg l,?_⟩
 cases l with
 |nil=>exact .inl rfl
 |cons x0 l0=>
  refine .inr ?_;obtain⟨u0,zA⟩:∃u,(g x0)[0]?=some u:=⟨_,getElem?_eq_getElem (by rw[hgl];exact hm)⟩
  have h0:=h 0 x0 rfl 0 u0 zA;have yA:W.cell? a=some u0:=by simpa[Addr.add] using h0
  have xA:=JfQ yA;refine⟨a.block,a.off,by rw[<-xA],Jjn yA,λj u hj=>?_⟩;obtain⟨x,hx,hu⟩:=Y3 g m hm hgl _ _ _ hj;have h1:=h _ x hx _ u hu;rw[Jkk xA,show j / m*m+j % m=j by rw[Nat.mul_comm];exact Nat.div_add_mod j m]at h1;exact h1
theorem zAh{P:Prop}(h:P:=by
  simp at hcs;subst hcs;exact⟨none,0,[],rfl,none,0,[],rfl,Nat.le_refl _,rfl,.inl rfl⟩):P:=h
def JfR{H:Type}{enc:TypeId×Value->H}{w:World}{base fuel:Nat}{spare:Nat->Bool}{held:Bool}{v:Value}{x:DataW H×List MemPlace}
  (hf:DataW.trod enc prog w base spare held fuel 22 [v]=some x):
  ∃(la:Option Addr) (lc:Nat) (l:List (By×Int)),v=.slice la l.length lc/\Qbm w (.slice la l.length lc) l:=by
 rcases V2 underlying22 underlying91 zk zk hf with⟨hcs,hx⟩|⟨a',len',cap',m,D,Pl,hcs,_,hl,hm,hmm,hx,hi⟩
 ·exact zAh
 ·simp at hcs;subst hcs;have zA:len'<=m:=by rw[hmm];split<;>omega
  have xA:∀i,i<len'->∃x:By×Int,w.cell? (a'.add (i*2+0))=some (.string (bs x.1))/\w.cell? (a'.add (i*2+1))=some (Iv x.2):=by
   intro i hil;obtain⟨ys,n,_,_,uA,hg⟩:=hi i zo;obtain⟨v0,y0,c0,_,t0⟩:=hg 0 _ rfl;obtain⟨v1,y1,c1,_,t1⟩:=hg 1 _ rfl;obtain⟨s0,e0,_,w0⟩:=DataW.trod_string underlying9 t0;obtain⟨n1,e1,_,w1⟩:=DataW.trod_int underlying3 t1;simp at e0 e1;obtain⟨l0,rfl⟩:=Jeq s0;subst e0 e1;exact⟨(l0,n1),c0,c1⟩
  obtain⟨l,yA,E7,_⟩:=Jeb (([],0):By×Int) xA;subst yA;refine⟨some a',cap',l,rfl,?_⟩;unfold Qbm;refine VM (W:=w) (a:=a') (cap:=cap') (R:=λ(a:By×Int) c=>c=[.string (bs a.1),Iv a.2]) (λx=>[.string (bs x.1),Iv x.2]) 2 zo (λ_=>rfl) (λ_=>rfl) hl λi x hx j u hu=>?_
  obtain⟨c0,c1⟩:=E7 i x hx
  match j,hu with
  |0,hu=>exact c0.trans hu
  |1,hu=>exact c1.trans hu
def Qjv:prog.cellsOf 9=1:=zk
def Jec{H:Type}{enc:TypeId×Value->H}{w:World}{base fuel:Nat}{spare:Nat->Bool}{held:Bool}{v:Value}{x:DataW H×List MemPlace}
  (hf:DataW.trod enc prog w base spare held fuel 23 [v]=some x):
  ∃(la:Option Addr) (lc:Nat) (l:List By),v=.slice la l.length lc/\QaF w (.slice la l.length lc) l:=by
 rcases Go.ChangeShapes.open_strings underlying23 underlying9 Qjv hf with⟨hcs,_⟩|⟨a,len,cap,zs,hcs,_,hl,hm,hz,_,hc,hwf⟩
 ·exact zAh
 ·simp at hcs;subst hcs;have hzl:len<=zs.length:=by rw[hz];split<;>omega
  have xA:((zs.take len).map λs=>s.data.toList).length=len:=zq
  refine⟨some a,cap,(zs.take len).map λs=>s.data.toList,by rw[xA],?_⟩;unfold QaF;refine VM (W:=w) (a:=a) (cap:=cap) (R:=λ(a:By) c=>c=[Sv a]) (λx=>[Sv x]) 1 zo (λ_=>rfl) (λ_=>rfl) (by rw[xA];exact hl) λi x hx j u hu=>?_
  have hi:i<len:=by
   have:=(List.getElem?_eq_some_iff.1 hx).1;rw[xA]at this;exact this
  match j,hu with
  |0,hu=>
   rw[Nat.mul_one,Nat.add_zero,hc i zo];have yA:zs[i]?=some zs[i]:=getElem?_eq_getElem zo;rw[List.getElem?_map,List.getElem?_take_of_lt hi,yA]at hx;rw[List.getD_eq_getElem?_getD,yA];obtain rfl:zs[i].data.toList=x:=by simpa using hx
   exact hu
def ZG{H:Type}{enc:TypeId×Value->H}{w:World}{base:Nat}{spare:Nat->Bool}{held:Bool}{r:Go.Reach}{b0:Nat}{v:Value}{d:DataW H}{p:List MemPlace}
  (hv:Value.okWide prog w r b0 25 v) (h:DataW.Trod enc prog w base spare held 25 v d p):
  ∃(F:Qav) (la wa:Option Addr) (lc wc:Nat),v=.agg (QaI F (.slice la F.labels.length lc) (.slice wa F.words.length wc))/\Qbm w (.slice la F.labels.length lc) F.labels/\QaF w (.slice wa F.words.length wc) F.words:=by
 obtain⟨cs,rfl,xA,hg⟩:=JhI underlying25 zk zk hv h;obtain⟨v0,y0,k0,c0,t0⟩:=hg 0 _ rfl;obtain⟨v1,y1,k1,c1,t1⟩:=hg 1 _ rfl;obtain⟨v2,y2,k2,c2,t2⟩:=hg 2 _ rfl;obtain⟨v3,y3,k3,c3,t3⟩:=hg 3 _ rfl;obtain⟨v4,y4,k4,c4,t4⟩:=hg 4 _ rfl;obtain⟨v5,y5,k5,c5,t5⟩:=hg 5 _ rfl;obtain⟨v6,y6,k6,c6,t6⟩:=hg 6 _ rfl;obtain⟨v7,y7,k7,c7,t7⟩:=hg 7 _ rfl;obtain⟨v8,y8,k8,c8,t8⟩:=hg 8 _ rfl;obtain⟨v9,y9,k9,c9,t9⟩:=hg 9 _ rfl;obtain⟨dA,eA,gA,uA,bA⟩:=hg 10 _ rfl;obtain⟨iA,jA,hA,vA,aA⟩:=hg 11 _ rfl;clear hg hv h;obtain⟨la,lc,ll,rfl,yA⟩:=JfR t0;obtain⟨wa,wc,wl,rfl,cA⟩:=Jec aA;obtain⟨n1,e1,_,_⟩:=DataW.trod_int underlying3 t1;obtain⟨n2,e2,_,_⟩:=DataW.trod_int underlying3 t2;obtain⟨n3,e3,_,_⟩:=DataW.trod_int underlying3 t3;obtain⟨n4,e4,_,_⟩:=DataW.trod_int underlying3 t4;obtain⟨n5,e5,_,_⟩:=DataW.trod_int underlying3 t5;obtain⟨n6,e6,_,_⟩:=DataW.trod_int underlying3 t6;obtain⟨n7,e7,_,_⟩:=DataW.trod_int underlying3 t7;obtain⟨n8,e8,_,_⟩:=DataW.trod_int underlying3 t8;obtain⟨b9,e9,_⟩:=DataW.trod_bool underlying4 t9;obtain⟨b10,zA,_⟩:=DataW.trod_bool underlying4 bA;simp only[List.cons.injEq,and_true]at e1 e2 e3 e4 e5 e6 e7 e8 e9 zA;subst e1 e2 e3 e4 e5 e6 e7 e8 e9 zA
 match cs,xA with
 |[u0,u1,u2,u3,u4,u5,u6,u7,u8,u9,u10,u11],_=>
  simp only[List.getElem?_cons_zero,List.getElem?_cons_succ,Option.some.injEq]at c0 c1 c2 c3 c4 c5 c6 c7 c8 c9 uA vA;subst c0 c1 c2 c3 c4 c5 c6 c7 c8 c9 uA vA;exact⟨⟨ll,n1,n2,n3,n4,n5,n6,n7,n8,b9,b10,wl⟩,la,wa,lc,wc,rfl,yA,cA⟩
def ar0(k:Int):Nat:=if k<=5 then 0 else if k=6\/k=7 then 1 else if k=18 then 3 else 2
def Qdr(fs:List Qau)(M0:List Int)(t:Int)(a:Nd)(l:List Nd):QaU fs M0 t (a::l)=(ofN fs M0 a).2++(if (ofN fs M0 a).1≠t then [a.off] else [])++QaU fs M0 t l:=by rw[QaU]
def Y5(fs:List Qau)(M0:List Int)(b:Bool)(ps:List Int)(a:Nd)(l:List Nd):QcP fs M0 b ps (a::l)=(ofN fs M0 a).2++(if b=true/\(ofN fs M0 a).1≠ps.headD 0 then [a.off] else [])++QcP fs M0 b ps.tail l:=by rw[QcP]
def z0(l:List Int):List Int:=l.map λ_=>0
def Vh{fs:List Qau}{M0:List Int}{t:Int}:∀{l:List Nd},QaU fs M0 t l=[]->∀a∈l,(ofN fs M0 a).2=[]
 |[],_,a,ha=>by cases ha
 |x::l,h,a,ha=>by
  rw[Qdr]at h;simp only[append_eq_nil_iff]at h
  rcases List.mem_cons.1 ha with rfl|ha
  ·exact h.1.1
  ·exact Vh h.2 a ha
def Jbl{fs:List Qau}{M0:List Int}{b:Bool}:∀{l:List Nd}{ps:List Int},QcP fs M0 b ps l=[]->∀a∈l,(ofN fs M0 a).2=[]
 |[],_,_,a,ha=>by cases ha
 |x::l,ps,h,a,ha=>by
  rw[Y5]at h;simp only[append_eq_nil_iff]at h
  rcases List.mem_cons.1 ha with rfl|ha
  ·exact h.1.1
  ·exact Jbl h.2 a ha
def Jcr{fs:List Qau}{M0:List Int}{k n:Int}{s:By}{o:Int}{l:List Nd}(h:(ofN fs M0 (.mk k n s o l)).2=[])(N2:k≠19)(hk:0<=k/\k<21)(hl:k≠20->l.length=ar0 k):∀a∈l,(ofN fs M0 a).2=[]:=by
 by_cases h5:k<=5
 ·have:=hl zo;unfold ar0 at this;rw[if_pos h5]at this;obtain rfl:=List.eq_nil_of_length_eq_zero this;intro a ha
  cases ha
 rw[YX,if_neg zo,if_neg zo,if_neg zo]at h
 by_cases h4:k=6\/(8<=k/\k<=12)
 ·rw[if_pos h4]at h;exact Vh h
 rw[if_neg h4]at h
 by_cases h6:k=13\/k=14
 ·rw[if_pos h6]at h;exact Vh h
 rw[if_neg h6]at h
 by_cases h7:k=15
 ·subst h7;rw[if_pos rfl]at h
  match l,hl zd,h with
  |[a,b],_,h=>
   simp only[append_eq_nil_iff]at h;intro x hx;simp at hx
   rcases hx with rfl|rfl
   ·exact h.1.1
   ·exact h.1.2
 rw[if_neg h7]at h
 by_cases h8:k=7\/k=16\/k=17
 ·rw[if_pos h8]at h;exact Vh h
 rw[if_neg h8]at h
 by_cases h9:k=18
 ·subst h9;rw[if_pos rfl]at h
  match l,hl zd,h with
  |[c,a,b],_,h=>
   simp only[append_eq_nil_iff]at h;intro x hx;simp at hx
   rcases hx with rfl|rfl|rfl
   ·exact h.1.1.1.1
   ·exact h.1.1.2
   ·exact h.1.2
 rw[if_neg h9,if_neg N2,if_pos zo]at h;simp only[append_eq_nil_iff]at h;exact Jbl h.2
def Jkm{pa:List Nat}{k n:Int}(hk:0<=k/\k<21)(h:k≠20):Qbi pa k n=ar0 k:=by
 unfold Qbi ar0
 by_cases h5:k<=5
 ·rw[if_pos zo,if_pos h5]
 ·rw[if_neg zo,if_neg h5];split
  ·rfl
  ·split
   ·rfl
   ·rfl
def QbC.at0{w:World}{ad:Option Addr}{l:List Exp}(h:QbC w ad l)(hne:l≠[]):∃b o,ad=some ⟨b,o,none⟩/\b<w.heap.size/\∀i y,l[i]?=some y->∃dy cy,
  XAt w (In w) y #[Iv y.kind,Iv y.num,.string (bs y.name),.slice dy y.kids.length cy]/\∀W,Bel w W->W.cell? ⟨b,o+i*4,none⟩=some (Iv y.kind)/\W.cell? ⟨b,o+i*4+1,none⟩=some (Iv y.num)/\W.cell? ⟨b,o+i*4+2,none⟩=some (.string (bs y.name))/\W.cell? ⟨b,o+i*4+3,none⟩=some (.slice dy y.kids.length cy):=by
 obtain⟨b,o,h1,h2,h3⟩:=h hne;refine⟨b,o,h1,h2,λi y hi=>?_⟩;obtain⟨d,h4,h5⟩:=h3 i y hi;obtain⟨da,dc,rfl,_⟩:=h4.form;refine⟨da,dc,h4,λW hW=>?_⟩;have hc:∀j u,_->W.cell? ⟨b,o+i*4+j,none⟩=some u:=λj u hu=>(hW.cell (p:=⟨b,o+i*4+j,none⟩) h2).trans (h5 j u hu)
 exact⟨hc 0 _ rfl,hc 1 _ rfl,hc 2 _ rfl,hc 3 _ rfl⟩
def Jbo{pa:List Nat}{M0 Qad:Nat}{k:Int}(hk:k≠19):∀{l:List Exp}{i:Nat},QaD pa M0 Qad k i l=true->∀y∈l,QaC pa M0 Qad y=true
 |[],i,h,y,hy=>by cases hy
 |a::l,i,h,y,hy=>by
  rw[QaD,if_neg λh=>hk h.1]at h;simp only[Bool.and_eq_true]at h
  rcases List.mem_cons.1 hy with rfl|hy
  ·exact h.1
  ·exact Jbo hk h.2 y hy
def evK(K:Qar)(d:Nat)(M0:List Int)(u:Nat)(e:Exp):RN Int:=evN (Qca K.r.funcs K.F d) K.F M0 u e
structure EvH(K:Qar)(c:Nat)(e:Exp)(cs:Array Value)(vars types:List Int)(vv:Value)(Qad:Nat)(t:Int)(W:World)(u:Nat):Prop where
 nm:NmN e
 sz:vars.length+siz (utN e)<=900000000
 x:XAt K.w0 (In K.w0) e cs
 fit:QaC (QbH K.r.sigs) types.length Qad e=true
 ty:ofN K.r.sigs types (utN e)=(t,[])
 vs:Qel types vars
 us:u<=10000
 at':QcN K W u c
 ints:QaP W K.p vv vars
def QhO(K:Qar)(c d n:Nat):Prop:=∀(e:Exp)(cs:Array Value)(M0 N0:List Int)(vv:Value)(Qad:Nat)(t:Int)(W:World)(u:Nat),siz (utN e)<=n->EvH K c e cs M0 N0 vv Qad t W u->
 Calls prog 42 #[Pt K.p,.agg cs,vv] W (EvP K W c (evK K d M0 u e))
def EvH.ok{K:Qar}(hk:K.Ok){c:Nat}{e:Exp}{cs:Array Value}{M0 N0:List Int}{vv:Value}{Qad:Nat}{t:Int}{W:World}{u:Nat}(h:EvH K c e cs M0 N0 vv Qad t W u)(d:Nat):QfV (VOk t) u (evK K d M0 u e):=
 KW hk.facts (Jdd hk.tr hk.ty hk.facts d) e N0 M0 Qad u t h.fit h.ty h.vs h.us
def EvP.back{K:Qar}{W W':World}{c:Nat}{x:RN Int}{e:Ending}{w':World}(hc:Chg [K.p] W W')(h:EvP K W' c x e w'):EvP K W c x e w':=by
 cases x with
 |val v u=>exact⟨h.1,h.2.1,hc.trans h.2.2⟩
 |fault er u=>exact⟨h.1,h.2.1,hc.trans h.2.2⟩
def Jih{pa:List Nat}{M0 Qad:Nat}{k n:Int}{s:By}{l:List Exp}(h:QaC pa M0 Qad (.mk k n s l)=true):(0<=k/\k<21)/\(k≠20->l.length=ar0 k):=by
 obtain⟨_,hf,ha,_⟩:=J6 h
 have hk:0<=k/\k<21:=by
  unfold Qab at hf;simp only[Bool.and_eq_true,decide_eq_true_eq]at hf;exact⟨hf.1.2,hf.2⟩
 exact⟨hk,λO2=>by rw[ha,Jkm hk O2]⟩
def EvH.kid{K:Qar}{c:Nat}{k nn:Int}{s:By}{l:List Exp}{cs:Array Value}{M0 N0:List Int}{vv:Value}{Qad:Nat}{t:Int}{W:World}{u:Nat}(h:EvH K c (.mk k nn s l) cs M0 N0 vv Qad t W u)(N2:k≠19){i:Nat}{y:Exp}(hi:l[i]?=some y)
  {d:Array Value} (hx:XAt K.w0 (In K.w0) y d) {W':World} {u':Nat} (hm:QcN K W' u' c) (hc:Chg [K.p] W W') (hu:u'<=10000):EvH K c y d M0 N0 vv (Qad-1) (ofN K.r.sigs N0 (utN y)).1 W' u':=by
 have hmem:=List.mem_of_getElem? hi;have yA:=h.nm;unfold NmN at yA;have hsz:=h.sz;rw[utN,JA]at hsz;have hs:=KE hmem;obtain⟨_,_,_,hl⟩:=J6 h.fit;obtain⟨hk,xA⟩:=Jih h.fit;have zA:=h.ty;rw[utN]at zA;have uA:=Jcr (fs:=K.r.sigs) (M0:=N0) (by rw[zA]) N2 hk (λO2=>by rw[JR];exact xA O2) (utN y) (by rw[Jfv];exact List.mem_map.2 ⟨y,hmem,rfl⟩);exact⟨JfA yA.2 y hmem,by omega,hx,Jbo N2 hl y hmem,Prod.ext rfl uA,h.vs,hu,hm,h.ints.chg hc⟩
def EvH.let1{K:Qar}{c:Nat}{nn:Int}{s:By}{a b:Exp}{cs:Array Value}{M0 N0:List Int}{vv:Value}{Qad:Nat}{t:Int}{W:World}{u:Nat}(h:EvH K c (.mk 19 nn s [a,b]) cs M0 N0 vv Qad t W u)
  {d:Array Value} (hx:XAt K.w0 (In K.w0) a d) {W':World} {u':Nat} (hm:QcN K W' u' c) (hc:Chg [K.p] W W') (hu:u'<=10000):EvH K c a d M0 N0 vv (Qad-1) (ofN K.r.sigs N0 (utN a)).1 W' u':=by
 have yA:=h.nm;unfold NmN NmL at yA;have hsz:=h.sz;rw[utN,JA,utL,Ju]at hsz;obtain⟨_,_,_,hl⟩:=J6 h.fit;have zA:=KJ hl;have xA:=h.ty;rw[utN,utL,utL,utL,YX]at xA;simp at xA;exact⟨yA.2.1,by omega,hx,zA.1,Prod.ext rfl xA.2.1,h.vs,hu,hm,h.ints.chg hc⟩
def EvH.let2{K:Qar}{c:Nat}{nn:Int}{s:By}{a b:Exp}{cs:Array Value}{M0 N0:List Int}{vv:Value}{Qad:Nat}{t:Int}{W:World}{u:Nat}(h:EvH K c (.mk 19 nn s [a,b]) cs M0 N0 vv Qad t W u)
  {d:Array Value} (hx:XAt K.w0 (In K.w0) b d) {W':World} {u':Nat} {v:Int} {vv':Value} (hm:QcN K W' u' c) (hv:VOk (ofN K.r.sigs N0 (utN a)).1 v) (hi:QaP W' K.p vv' (M0++[v])) (hu:u'<=10000):
  EvH K c b d (M0++[v]) (N0++[(ofN K.r.sigs N0 (utN a)).1]) vv' (Qad-1) t W' u':=by
 have yA:=h.nm;unfold NmN NmL NmL at yA;have hsz:=h.sz;rw[utN,JA,utL,utL,Ju,Ju]at hsz;obtain⟨_,_,_,hl⟩:=J6 h.fit;have zA:=KJ hl;have xA:=h.ty;rw[utN,utL,utL,utL,YX]at xA;simp at xA;have hp:=KN (utN a);refine⟨yA.2.2.1,by rw[List.length_append,List.length_singleton];omega,hx,?_,?_,Qel.snoc h.vs hv,hu,hm,hi⟩
 ·rw[List.length_append,List.length_singleton];simpa using zA.2
 ·exact Prod.ext xA.1 xA.2.2
def QaP.form'{W:World}{rb:Nat}{v:Value}{l:List Int}(h:QaP W rb v l):∃a c,v=.slice a l.length c:=by
 rcases h with⟨e1,_,_,e2⟩|⟨g,o,cc,e,_⟩
 ·exact⟨_,_,by rw[e1,e2];rfl⟩
 ·exact⟨_,_,e⟩
def Jjt(K:Qar)(d:Nat)(M0:List Int)(u:Nat)(nn:Int)(s:By)(a b:Exp):evK K d M0 u (.mk 16 nn s [a,b])=(evK K d M0 u a).bind λv u'=>if v=0 then .val 0 u' else evK K d M0 u' b:=by
 unfold evK;rw[Ku];simp
def Jkn(K:Qar)(d:Nat)(M0:List Int)(u:Nat)(nn:Int)(s:By)(a b:Exp):evK K d M0 u (.mk 17 nn s [a,b])=(evK K d M0 u a).bind λv u'=>if v=0 then evK K d M0 u' b else .val 1 u':=by
 unfold evK;rw[Ku];simp
def Jko(K:Qar)(d:Nat)(M0:List Int)(u:Nat)(nn:Int)(s:By)(z a b:Exp):evK K d M0 u (.mk 18 nn s [z,a,b])=(evK K d M0 u z).bind λv u'=>if v=0 then evK K d M0 u' b else evK K d M0 u' a:=by
 unfold evK;rw[Ku];simp
def Jju(K:Qar)(d:Nat)(M0:List Int)(u:Nat)(nn:Int)(s:By)(a b:Exp):evK K d M0 u (.mk 19 nn s [a,b])=(evK K d M0 u a).bind λv u'=>evK K d (M0++[v]) u' b:=by
 unfold evK;rw[Ku];simp
def QdZ(K:Qar)(d:Nat)(M0:List Int)(u:Nat)(l:List Exp):RN (List Int):=evL (Qca K.r.funcs K.F d) K.F M0 u l
def Jbp(K:Qar)(d:Nat)(M0:List Int)(u:Nat)(a:Exp)(l:List Exp):QdZ K d M0 u (a::l)=(evK K d M0 u a).bind λv u'=>(QdZ K d M0 u' l).bind λvs u''=>.val (v::vs) u'':=by
 unfold QdZ evK;rw[evL]
def JhL(K:Qar)(d:Nat)(M0:List Int)(u:Nat):QdZ K d M0 u []=.val [] u:=by
 unfold QdZ;rw[evL]
def JhM(K:Qar)(d:Nat)(M0:List Int)(u:Nat)(nn:Int)(s:By)(l:List Exp):evK K d M0 u (.mk 20 nn s l)=(QdZ K d M0 u l).bind λvs u'=>Qca K.r.funcs K.F d nn vs u':=by
 unfold evK QdZ;rw[Ku];simp
def JhN(K:Qar)(d:Nat)(M0:List Int)(u:Nat)(k nn:Int)(s:By)(l:List Exp)(hk:6<=k/\k<=15):evK K d M0 u (.mk k nn s l)=(QdZ K d M0 u l).bind λvs u'=>Qap k (vs.getD 0 0) (vs.getD 1 0) u':=by
 unfold evK QdZ;rw[Ku,if_neg zo,if_neg zo,if_neg zo,if_neg zo,if_neg zo,if_neg zo,if_neg zo,if_neg zo,if_neg zo]
 congr 1
 funext vs u'
 rw[if_neg zo]
def QhR{P:Prop}(h:P:=by
  intro W' hW;have hh:=hW.heap_some (by simp;exact S1.o) S0.o
  refine⟨?_,?_,?_,?_⟩<;>(rw[Ja hh];rfl)):P:=h
def Qnr{P:Prop}(h:P:=by
  have B0:Hi (∀W',Chg [K.p] w1 W'->Bel K.w0 W'):=λW' hW=>QdL H2.o.bel hk.num hW
  obtain⟨b0,b1,b2,b3⟩:=FF.o _ (Chg.refl _ _);go_wp2;go_ret;rw[<-HX.o]
  exact⟨rfl,H2.o,M1.o⟩):P:=h
def Jjv(K:Qar)(hk:K.Ok)(c d n:Nat)(IH:QhO K c d n)(nn:Int)(s:By)(l:List Exp)(cs:Array Value)(M0 N0:List Int)(vv:Value)(Qad:Nat)(t:Int)(W:World)(u:Nat)(hn:Qaz (utL l)<=n)(h:EvH K c (.mk 0 nn s l) cs M0 N0 vv Qad t W u):
  Calls prog 42 #[Pt K.p,.agg cs,vv] W (EvP K W c (evK K d M0 u (.mk 0 nn s l))):=by
 obtain⟨ad,cc,rfl,xA,hK⟩:=h.x.kids;obtain⟨va,vc,rfl⟩:=h.ints.form';obtain⟨X,hX⟩:∃X,evK K d M0 u (.mk 0 nn s l)=X:=⟨_,rfl⟩
 rw[hX];have hE:evK K d M0 u (.mk 0 nn s l)=.val nn u:=by unfold evK;rw[Ku];simp
 rw[hE]at hX;have HX:=Zh hX;have A0:Below W.heap.size W (W.alloc (.cells #[Iv 0,Iv nn,Sv s,.slice ad l.length cc] 50)):=zzb.alloc zzl _;have H2:=Zh (h.at'.up A0);have M1:Hi (Chg [K.p] W (W.alloc (.cells #[Iv 0,Iv nn,Sv s,.slice ad l.length cc] 50))):=Chg.of_below A0 [K.p];have S0:=Zh (zzw W (.cells #[Iv 0,Iv nn,Sv s,.slice ad l.length cc] 50));have S1:Hi (W.heap.size≠K.p):=by have:=h.at'.lt;unfold Hi;omega
 have HH:=Zh h;go_enter func42,ntmps42;go_upto_region 1 with fail;generalize World.alloc W _=w1 at*;generalize W.heap.size=eb at*
 have FF:Hi (∀W',Chg [K.p] w1 W'->W'.cell? ⟨eb,0,none⟩=some (Iv 0)/\W'.cell? ⟨eb,1,none⟩=some (Iv nn)/\W'.cell? ⟨eb,2,none⟩=some (Sv s)/\W'.cell? ⟨eb,3,none⟩=some (.slice ad l.length cc)):=by
  exact QhR
 exact Qnr
def JhO(K:Qar)(hk:K.Ok)(c d n:Nat)(IH:QhO K c d n)(nn:Int)(s:By)(l:List Exp)(cs:Array Value)(M0 N0:List Int)(vv:Value)(Qad:Nat)(t:Int)(W:World)(u:Nat)(hn:Qaz (utL l)<=n)(h:EvH K c (.mk 1 nn s l) cs M0 N0 vv Qad t W u):
  Calls prog 42 #[Pt K.p,.agg cs,vv] W (EvP K W c (evK K d M0 u (.mk 1 nn s l))):=by
 obtain⟨ad,cc,rfl,xA,hK⟩:=h.x.kids;obtain⟨va,vc,rfl⟩:=h.ints.form';obtain⟨X,hX⟩:∃X,evK K d M0 u (.mk 1 nn s l)=X:=⟨_,rfl⟩
 rw[hX];have hE:evK K d M0 u (.mk 1 nn s l)=.val nn u:=by unfold evK;rw[Ku];simp
 rw[hE]at hX;have HX:=Zh hX;have A0:Below W.heap.size W (W.alloc (.cells #[Iv 1,Iv nn,Sv s,.slice ad l.length cc] 50)):=zzb.alloc zzl _;have H2:=Zh (h.at'.up A0);have M1:Hi (Chg [K.p] W (W.alloc (.cells #[Iv 1,Iv nn,Sv s,.slice ad l.length cc] 50))):=Chg.of_below A0 [K.p];have S0:=Zh (zzw W (.cells #[Iv 1,Iv nn,Sv s,.slice ad l.length cc] 50));have S1:Hi (W.heap.size≠K.p):=by have:=h.at'.lt;unfold Hi;omega
 have HH:=Zh h;have yA:=Zh hK;have zA:=Zh IH;have HN:=Zh hn;go_enter func42,ntmps42;go_upto_region 1 with fail;generalize World.alloc W _=w1 at*;generalize W.heap.size=eb at*
 have FF:Hi (∀W',Chg [K.p] w1 W'->W'.cell? ⟨eb,0,none⟩=some (Iv 1)/\W'.cell? ⟨eb,1,none⟩=some (Iv nn)/\W'.cell? ⟨eb,2,none⟩=some (Sv s)/\W'.cell? ⟨eb,3,none⟩=some (.slice ad l.length cc)):=by
  exact QhR
 exact Qnr
def Jjw(K:Qar)(hk:K.Ok)(c d n:Nat)(IH:QhO K c d n)(nn:Int)(s:By)(l:List Exp)(cs:Array Value)(M0 N0:List Int)(vv:Value)(Qad:Nat)(t:Int)(W:World)(u:Nat)(hn:Qaz (utL l)<=n)(h:EvH K c (.mk 2 nn s l) cs M0 N0 vv Qad t W u):
  Calls prog 42 #[Pt K.p,.agg cs,vv] W (EvP K W c (evK K d M0 u (.mk 2 nn s l))):=by
 obtain⟨ad,cc,rfl,uA,hK⟩:=h.x.kids;obtain⟨va,vc,rfl⟩:=h.ints.form';obtain⟨X,hX⟩:∃X,evK K d M0 u (.mk 2 nn s l)=X:=⟨_,rfl⟩
 rw[hX];have hE:evK K d M0 u (.mk 2 nn s l)=.val (M0.getD nn.toNat 0) u:=by unfold evK;rw[Ku];simp
 rw[hE]at hX;have HX:=Zh hX;have A0:Below W.heap.size W (W.alloc (.cells #[Iv 2,Iv nn,Sv s,.slice ad l.length cc] 50)):=zzb.alloc zzl _;have H2:=Zh (h.at'.up A0);have M1:Hi (Chg [K.p] W (W.alloc (.cells #[Iv 2,Iv nn,Sv s,.slice ad l.length cc] 50))):=Chg.of_below A0 [K.p];have S0:=Zh (zzw W (.cells #[Iv 2,Iv nn,Sv s,.slice ad l.length cc] 50));have S1:Hi (W.heap.size≠K.p):=by have:=h.at'.lt;unfold Hi;omega
 have HH:=Zh h;have vA:=Zh hK;go_enter func42,ntmps42;go_upto_region 1 with fail;generalize World.alloc W _=w1 at*;generalize W.heap.size=eb at*
 have FF:Hi (∀W',Chg [K.p] w1 W'->W'.cell? ⟨eb,0,none⟩=some (Iv 2)/\W'.cell? ⟨eb,1,none⟩=some (Iv nn)/\W'.cell? ⟨eb,2,none⟩=some (Sv s)/\W'.cell? ⟨eb,3,none⟩=some (.slice ad l.length cc)):=by
  exact QhR
 obtain⟨b0,b1,b2,b3⟩:=FF.o _ (Chg.refl _ _)
 have yA:0<=nn/\nn<(M0.length:Int):=by
  obtain⟨_,hf,_,_⟩:=J6 HH.o.fit;unfold Qab at hf;simp at hf;have:=HH.o.vs.1;exact⟨hf.1.1,by omega⟩
 obtain⟨i,rfl⟩:∃i:Nat,nn=i:=⟨nn.toNat,by omega⟩
 have hi:i<M0.length:=zo
 obtain⟨v,hv⟩:∃v,M0[i]?=some v:=⟨M0[i],List.getElem?_eq_getElem hi⟩
 have xA:=HX.o;rw[Int.toNat_natCast,List.getD_eq_getElem?_getD,hv,Option.getD_some]at xA;have Q2:=Zh xA
 obtain⟨g,og,zA,bA⟩:∃g og,va=some ⟨g,og,none⟩/\w1.cell? ⟨g,og+i,none⟩=some (Iv v):=by
  rcases HH.o.ints.chg M1.o with⟨e1,e2⟩|⟨g,og,cc',e,_,_,_,hc⟩
  ·rw[e1]at hi;simp at hi
  ·injection e with e1 e2 e3;exact⟨g,og,e1,hc i v hv⟩
 subst zA;go_wp2;go_ret;rw[<-Q2.o];exact⟨rfl,H2.o,M1.o⟩
def Qnw{P:Prop}(h:P:=by
  go_wp2_with fail;refine cf.mono ?_;rintro e w2 ⟨rfl,I0⟩;have L6:=Zh (M1.o.trans (Chg.of_below I0 [K.p]));have Q8:=Zh (H2.o.up I0);clear I0;clear cf b0 b1 b2 b3;go_wp2;go_ret;rw[<-HX.o]
  exact⟨rfl,Q8.o,L6.o⟩):P:=h
def JhP(K:Qar)(hk:K.Ok)(c d n:Nat)(IH:QhO K c d n)(nn:Int)(s:By)(l:List Exp)(cs:Array Value)(M0 N0:List Int)(vv:Value)(Qad:Nat)(t:Int)(W:World)(u:Nat)(hn:Qaz (utL l)<=n)(h:EvH K c (.mk 3 nn s l) cs M0 N0 vv Qad t W u):
  Calls prog 42 #[Pt K.p,.agg cs,vv] W (EvP K W c (evK K d M0 u (.mk 3 nn s l))):=by
 obtain⟨ad,cc,rfl,xA,hK⟩:=h.x.kids;obtain⟨va,vc,rfl⟩:=h.ints.form';obtain⟨X,hX⟩:∃X,evK K d M0 u (.mk 3 nn s l)=X:=⟨_,rfl⟩
 rw[hX];have hE:evK K d M0 u (.mk 3 nn s l)=.val (QdT K.F s) u:=by unfold evK;rw[Ku];simp
 rw[hE]at hX;have HX:=Zh hX;have A0:Below W.heap.size W (W.alloc (.cells #[Iv 3,Iv nn,Sv s,.slice ad l.length cc] 50)):=zzb.alloc zzl _;have H2:=Zh (h.at'.up A0);have M1:Hi (Chg [K.p] W (W.alloc (.cells #[Iv 3,Iv nn,Sv s,.slice ad l.length cc] 50))):=Chg.of_below A0 [K.p];have S0:=Zh (zzw W (.cells #[Iv 3,Iv nn,Sv s,.slice ad l.length cc] 50));have S1:Hi (W.heap.size≠K.p):=by have:=h.at'.lt;unfold Hi;omega
 have HH:=Zh h;have HN:=Zh hn;go_enter func42,ntmps42;go_upto_region 1 with fail;generalize World.alloc W _=w1 at*;generalize W.heap.size=eb at*
 have FF:Hi (∀W',Chg [K.p] w1 W'->W'.cell? ⟨eb,0,none⟩=some (Iv 3)/\W'.cell? ⟨eb,1,none⟩=some (Iv nn)/\W'.cell? ⟨eb,2,none⟩=some (Sv s)/\W'.cell? ⟨eb,3,none⟩=some (.slice ad l.length cc)):=by
  exact QhR
 obtain⟨b0,b1,b2,b3⟩:=FF.o _ (Chg.refl _ _);have cf:=JfN K hk w1 u c H2.o s;exact Qnw
def Jgc(K:Qar)(hk:K.Ok)(c d n:Nat)(IH:QhO K c d n)(nn:Int)(s:By)(l:List Exp)(cs:Array Value)(M0 N0:List Int)(vv:Value)(Qad:Nat)(t:Int)(W:World)(u:Nat)(hn:Qaz (utL l)<=n)(h:EvH K c (.mk 4 nn s l) cs M0 N0 vv Qad t W u):
  Calls prog 42 #[Pt K.p,.agg cs,vv] W (EvP K W c (evK K d M0 u (.mk 4 nn s l))):=by
 obtain⟨ad,cc,rfl,xA,hK⟩:=h.x.kids;obtain⟨va,vc,rfl⟩:=h.ints.form';obtain⟨X,hX⟩:∃X,evK K d M0 u (.mk 4 nn s l)=X:=⟨_,rfl⟩
 rw[hX];have hE:evK K d M0 u (.mk 4 nn s l)=.val (QcK K.F.labels s) u:=by unfold evK;rw[Ku];simp
 rw[hE]at hX;have HX:=Zh hX;have A0:Below W.heap.size W (W.alloc (.cells #[Iv 4,Iv nn,Sv s,.slice ad l.length cc] 50)):=zzb.alloc zzl _;have H2:=Zh (h.at'.up A0);have M1:Hi (Chg [K.p] W (W.alloc (.cells #[Iv 4,Iv nn,Sv s,.slice ad l.length cc] 50))):=Chg.of_below A0 [K.p];have S0:=Zh (zzw W (.cells #[Iv 4,Iv nn,Sv s,.slice ad l.length cc] 50));have S1:Hi (W.heap.size≠K.p):=by have:=h.at'.lt;unfold Hi;omega
 have HH:=Zh h;have HN:=Zh hn;go_enter func42,ntmps42;go_upto_region 1 with fail;generalize World.alloc W _=w1 at*;generalize W.heap.size=eb at*
 have FF:Hi (∀W',Chg [K.p] w1 W'->W'.cell? ⟨eb,0,none⟩=some (Iv 4)/\W'.cell? ⟨eb,1,none⟩=some (Iv nn)/\W'.cell? ⟨eb,2,none⟩=some (Sv s)/\W'.cell? ⟨eb,3,none⟩=some (.slice ad l.length cc)):=by
  exact QhR
 obtain⟨b0,b1,b2,b3⟩:=FF.o _ (Chg.refl _ _);have cf:=Jea K hk w1 u c H2.o s;exact Qnw
def JhQ(K:Qar)(hk:K.Ok)(c d n:Nat)(IH:QhO K c d n)(nn:Int)(s:By)(l:List Exp)(cs:Array Value)(M0 N0:List Int)(vv:Value)(Qad:Nat)(t:Int)(W:World)(u:Nat)(hn:Qaz (utL l)<=n)(h:EvH K c (.mk 5 nn s l) cs M0 N0 vv Qad t W u):
  Calls prog 42 #[Pt K.p,.agg cs,vv] W (EvP K W c (evK K d M0 u (.mk 5 nn s l))):=by
 obtain⟨ad,cc,rfl,xA,hK⟩:=h.x.kids;obtain⟨va,vc,rfl⟩:=h.ints.form';obtain⟨X,hX⟩:∃X,evK K d M0 u (.mk 5 nn s l)=X:=⟨_,rfl⟩
 rw[hX];have hE:evK K d M0 u (.mk 5 nn s l)=.val (Qeb K.F.words s) u:=by unfold evK;rw[Ku];simp
 rw[hE]at hX;have HX:=Zh hX;have A0:Below W.heap.size W (W.alloc (.cells #[Iv 5,Iv nn,Sv s,.slice ad l.length cc] 50)):=zzb.alloc zzl _;have H2:=Zh (h.at'.up A0);have M1:Hi (Chg [K.p] W (W.alloc (.cells #[Iv 5,Iv nn,Sv s,.slice ad l.length cc] 50))):=Chg.of_below A0 [K.p];have S0:=Zh (zzw W (.cells #[Iv 5,Iv nn,Sv s,.slice ad l.length cc] 50));have S1:Hi (W.heap.size≠K.p):=by have:=h.at'.lt;unfold Hi;omega
 have HH:=Zh h;go_enter func42,ntmps42;go_upto_region 1 with fail;generalize World.alloc W _=w1 at*;generalize W.heap.size=eb at*
 have FF:Hi (∀W',Chg [K.p] w1 W'->W'.cell? ⟨eb,0,none⟩=some (Iv 5)/\W'.cell? ⟨eb,1,none⟩=some (Iv nn)/\W'.cell? ⟨eb,2,none⟩=some (Sv s)/\W'.cell? ⟨eb,3,none⟩=some (.slice ad l.length cc)):=by
  exact QhR
 obtain⟨b0,b1,b2,b3⟩:=FF.o _ (Chg.refl _ _);have cf:=JfP K hk w1 u c H2.o s;go_wp2_with fail;refine cf.mono ?_;rintro e w2 ⟨rfl,rfl⟩;have L6:=M1;have Q8:=H2;go_wp2;go_ret;rw[<-HX.o];exact⟨rfl,Q8.o,L6.o⟩
def Qmn{P:Prop}(h:P:=by
  rintro e w6 ⟨rfl,T3,j0⟩;refine⟨rfl,?_⟩;rw[HX.o,hy,RN.bind_fault]
  exact⟨rfl,T3,M1.o.trans j0⟩):P:=h
def Qnu{P:Prop}(h:P:=by
  rintro e w9 ⟨rfl,N4,D3⟩;have HZ:=Zh hz;have d7:=Zh N4;have I6:=Zh D3;clear hz N4 D3;go_wp2;go_ret;rw[HX.o,HY.o,RN.bind_val,if_neg HV.o,HZ.o]
  exact⟨rfl,d7.o,M1.o.trans (Chg.trans M2.o I6.o)⟩):P:=h
def Qnc{P:Prop}(h:P:=by
  rintro e w9 ⟨rfl,N4,D3⟩;refine⟨rfl,?_⟩;rw[HX.o,HY.o,RN.bind_val,if_neg HV.o,hz]
  exact⟨rfl,N4,M1.o.trans (Chg.trans M2.o D3)⟩):P:=h
def Jjx(K:Qar)(hk:K.Ok)(c d n:Nat)(IH:QhO K c d n)(nn:Int)(s:By)(a b:Exp)(cs:Array Value)(M0 N0:List Int)(vv:Value)(Qad:Nat)(t:Int)(W:World)(u:Nat)(hn:Qaz (utL [a,b])<=n)(h:EvH K c (.mk 16 nn s [a,b]) cs M0 N0 vv Qad t W u):
  Calls prog 42 #[Pt K.p,.agg cs,vv] W (EvP K W c (evK K d M0 u (.mk 16 nn s [a,b]))):=by
 obtain⟨ad,cc,rfl,rA,hK⟩:=h.x.kids;obtain⟨va,vc,rfl⟩:=h.ints.form';obtain⟨X,hX⟩:∃X,evK K d M0 u (.mk 16 nn s [a,b])=X:=⟨_,rfl⟩
 rw[hX];rw[Jjt]at hX;have cA:=hX.symm;clear hX;have hX:=cA;clear cA;have HX:=Zh hX;have A0:Below W.heap.size W (W.alloc (.cells #[Iv 16,Iv nn,Sv s,.slice ad [a,b].length cc] 50)):=zzb.alloc zzl _;have H2:=Zh (h.at'.up A0);have M1:Hi (Chg [K.p] W (W.alloc (.cells #[Iv 16,Iv nn,Sv s,.slice ad [a,b].length cc] 50))):=Chg.of_below A0 [K.p];have S0:=Zh (zzw W (.cells #[Iv 16,Iv nn,Sv s,.slice ad [a,b].length cc] 50));have S1:Hi (W.heap.size≠K.p):=by have:=h.at'.lt;unfold Hi;omega
 have HH:=Zh h;have kA:=Zh hK;have uA:=Zh IH;have HN:=Zh hn;clear A0 h hK hX IH hn;go_enter func42,ntmps42;go_upto_region 1 with fail;generalize World.alloc W _=w1 at*;generalize W.heap.size=eb at*
 have FF:Hi (∀W',Chg [K.p] w1 W'->W'.cell? ⟨eb,0,none⟩=some (Iv 16)/\W'.cell? ⟨eb,1,none⟩=some (Iv nn)/\W'.cell? ⟨eb,2,none⟩=some (Sv s)/\W'.cell? ⟨eb,3,none⟩=some (.slice ad [a,b].length cc)):=by
  exact QhR
 have B0:Hi (∀W',Chg [K.p] w1 W'->Bel K.w0 W'):=λW' hW=>QdL H2.o.bel hk.num hW
 obtain⟨b0,b1,b2,b3⟩:=FF.o _ (Chg.refl _ _);obtain⟨kb,o,pA,B5,xA⟩:=kA.o.at0 zp;obtain⟨da,ca,nA,G3⟩:=xA 0 a rfl;have jA:=Zh nA;have gA:=Zh G3;obtain⟨db,cb,mA,eA⟩:=xA 1 b rfl;have iA:=Zh mA;have T7:=Zh eA;clear xA;subst pA;have yA:=HH.o.kid zd (i:=0) (y:=a) rfl jA.o H2.o (M1.o.trans (Chg.refl _ _)) HH.o.us;have aA:=Zh (yA.ok hk d);have ci:=uA.o a _ M0 N0 _ _ _ w1 u (zu HN.o (KE (l:=[a,b]) (y:=a) zp)) yA;clear yA;obtain⟨k0,k1,k2,k3⟩:=gA.o _ (B0.o _ ((Chg.refl _ _)));simp only[zero_mul,add_zero,one_mul,Nat.reduceMul]at k0 k1 k2 k3;go_wp2_with fail;refine ci.mono ?_
 cases hy:evK K d M0 u a with
 |fault er u6=>
  exact Qmn
 |val v u6=>
  rintro e w6 ⟨rfl,T3,j0⟩;have bA:=aA.o;rw[hy]at bA;obtain⟨hA,zA,_⟩:=bA;have HY:=Zh hy;have vA:=Zh T3;have M2:=Zh j0;have dA:=Zh zA;obtain⟨b0,b1,b2,b3⟩:=FF.o _ M2.o
  by_cases hv:v=0
  ·subst hv;go_wp2;go_ret;rw[HX.o,HY.o,RN.bind_val,if_pos rfl];exact⟨rfl,vA.o,M1.o.trans M2.o⟩
  ·have HV:=Zh hv;have e0:(v==0)=false:=zzq hv;have e1:(v !=0)=true:=by rw[bne,e0];rfl
   have Q5:=HH.o.kid zd (i:=1) (y:=b) rfl iA.o vA.o (M1.o.trans M2.o) dA.o;have qA:=Zh (Q5.ok hk d);have ci:=uA.o b _ M0 N0 _ _ _ w6 u6 (zu HN.o (KE (l:=[a,b]) (y:=b) zp)) Q5;obtain⟨k0,k1,k2,k3⟩:=T7.o _ (B0.o _ (M2.o));simp only[zero_mul,add_zero,one_mul,Nat.reduceMul]at k0 k1 k2 k3;go_wp2_with fail;refine ci.mono ?_
   cases hz:evK K d M0 u6 b with
   |fault er u9=>
    exact Qnc
   |val v9 u9=>
    exact Qnu
def QnO{P:Prop}(h:P:=by
  clear Q5;obtain⟨k0,k1,k2,k3⟩:=T7.o _ (B0.o _ (M2.o));simp only[Nat.zero_mul,Nat.add_zero,Nat.one_mul,Nat.reduceMul]at k0 k1 k2 k3;go_wp2_with fail;refine ci.mono ?_;clear ci k0 k1 k2 k3 b0 b1 b2 b3
  cases hz:evK K d M0 u6 b with
  |fault er u9=>
   rintro e w9 ⟨rfl,N4,D3⟩;refine⟨rfl,?_⟩;rw[HX.o,HY.o,RN.bind_val,if_pos rfl,hz];exact⟨rfl,N4,M1.o.trans (Chg.trans M2.o D3)⟩
  |val v9 u9=>
   rintro e w9 ⟨rfl,N4,D3⟩;have HZ:=Zh hz;have d7:=Zh N4;have I6:=Zh D3;clear hz N4 D3;go_wp2;go_ret;rw[HX.o,HY.o,RN.bind_val,if_pos rfl,HZ.o]
   exact⟨rfl,d7.o,M1.o.trans (Chg.trans M2.o I6.o)⟩):P:=h
def Jkp(K:Qar)(hk:K.Ok)(c d n:Nat)(IH:QhO K c d n)(nn:Int)(s:By)(a b:Exp)(cs:Array Value)(M0 N0:List Int)(vv:Value)(Qad:Nat)(t:Int)(W:World)(u:Nat)(hn:Qaz (utL [a,b])<=n)(h:EvH K c (.mk 17 nn s [a,b]) cs M0 N0 vv Qad t W u):
  Calls prog 42 #[Pt K.p,.agg cs,vv] W (EvP K W c (evK K d M0 u (.mk 17 nn s [a,b]))):=by
 obtain⟨ad,cc,rfl,rA,hK⟩:=h.x.kids;obtain⟨va,vc,rfl⟩:=h.ints.form';obtain⟨X,hX⟩:∃X,evK K d M0 u (.mk 17 nn s [a,b])=X:=⟨_,rfl⟩
 rw[hX];rw[Jkn]at hX;have cA:=hX.symm;clear hX;have hX:=cA;clear cA;have HX:=Zh hX;have A0:Below W.heap.size W (W.alloc (.cells #[Iv 17,Iv nn,Sv s,.slice ad [a,b].length cc] 50)):=zzb.alloc zzl _;have H2:=Zh (h.at'.up A0);have M1:Hi (Chg [K.p] W (W.alloc (.cells #[Iv 17,Iv nn,Sv s,.slice ad [a,b].length cc] 50))):=Chg.of_below A0 [K.p];have S0:=Zh (zzw W (.cells #[Iv 17,Iv nn,Sv s,.slice ad [a,b].length cc] 50));have S1:Hi (W.heap.size≠K.p):=by have:=h.at'.lt;unfold Hi;omega
 have HH:=Zh h;have kA:=Zh hK;have uA:=Zh IH;have HN:=Zh hn;clear A0 h hK hX IH hn;go_enter func42,ntmps42;go_upto_region 1 with fail;generalize World.alloc W _=w1 at*;generalize W.heap.size=eb at*
 have FF:Hi (∀W',Chg [K.p] w1 W'->W'.cell? ⟨eb,0,none⟩=some (Iv 17)/\W'.cell? ⟨eb,1,none⟩=some (Iv nn)/\W'.cell? ⟨eb,2,none⟩=some (Sv s)/\W'.cell? ⟨eb,3,none⟩=some (.slice ad [a,b].length cc)):=by
  exact QhR
 have B0:Hi (∀W',Chg [K.p] w1 W'->Bel K.w0 W'):=λW' hW=>QdL H2.o.bel hk.num hW
 obtain⟨b0,b1,b2,b3⟩:=FF.o _ (Chg.refl _ _);obtain⟨kb,o,pA,B5,xA⟩:=kA.o.at0 zp;obtain⟨da,ca,nA,G3⟩:=xA 0 a rfl;have jA:=Zh nA;have gA:=Zh G3;obtain⟨db,cb,mA,eA⟩:=xA 1 b rfl;have iA:=Zh mA;have T7:=Zh eA;clear xA;subst pA;have yA:=HH.o.kid zd (i:=0) (y:=a) rfl jA.o H2.o (M1.o.trans (Chg.refl _ _)) HH.o.us;have aA:=Zh (yA.ok hk d);have ci:=uA.o a _ M0 N0 _ _ _ w1 u (zu HN.o (KE (l:=[a,b]) (y:=a) zp)) yA;obtain⟨k0,k1,k2,k3⟩:=gA.o _ (B0.o _ ((Chg.refl _ _)));simp only[zero_mul,add_zero,one_mul,Nat.reduceMul]at k0 k1 k2 k3;go_wp2_with fail;refine ci.mono ?_
 cases hy:evK K d M0 u a with
 |fault er u6=>
  exact Qmn
 |val v u6=>
  rintro e w6 ⟨rfl,T3,j0⟩;have bA:=aA.o;rw[hy]at bA;obtain⟨hA,zA,_⟩:=bA;have HY:=Zh hy;have vA:=Zh T3;have M2:=Zh j0;have dA:=Zh zA;obtain⟨b0,b1,b2,b3⟩:=FF.o _ M2.o
  by_cases hv:v=0
  ·subst hv;have Q5:=HH.o.kid zd (i:=1) (y:=b) rfl iA.o vA.o (M1.o.trans M2.o) dA.o;have qA:=Zh (Q5.ok hk d);have ci:=uA.o b _ M0 N0 _ _ _ w6 u6 (zu HN.o (KE (l:=[a,b]) (y:=b) zp)) Q5;exact QnO
  ·have HV:=Zh hv;have e0:(v==0)=false:=zzq hv;have e1:(v !=0)=true:=by rw[bne,e0];rfl
   go_wp2;go_ret;rw[HX.o,HY.o,RN.bind_val,if_neg HV.o];exact⟨rfl,vA.o,M1.o.trans M2.o⟩
def Jkq(K:Qar)(hk:K.Ok)(c d n:Nat)(IH:QhO K c d n)(nn:Int)(s:By)(z a b:Exp)(cs:Array Value)(M0 N0:List Int)(vv:Value)(Qad:Nat)(t:Int)(W:World)(u:Nat)(hn:Qaz (utL [z,a,b])<=n)(h:EvH K c (.mk 18 nn s [z,a,b]) cs M0 N0 vv Qad t W u):
  Calls prog 42 #[Pt K.p,.agg cs,vv] W (EvP K W c (evK K d M0 u (.mk 18 nn s [z,a,b]))):=by
 obtain⟨ad,cc,rfl,zB,hK⟩:=h.x.kids;obtain⟨va,vc,rfl⟩:=h.ints.form';obtain⟨X,hX⟩:∃X,evK K d M0 u (.mk 18 nn s [z,a,b])=X:=⟨_,rfl⟩
 rw[hX];rw[Jko]at hX;have eA:=hX.symm;clear hX;have hX:=eA;clear eA;have HX:=Zh hX;have A0:Below W.heap.size W (W.alloc (.cells #[Iv 18,Iv nn,Sv s,.slice ad [z,a,b].length cc] 50)):=zzb.alloc zzl _;have H2:=Zh (h.at'.up A0);have M1:Hi (Chg [K.p] W (W.alloc (.cells #[Iv 18,Iv nn,Sv s,.slice ad [z,a,b].length cc] 50))):=Chg.of_below A0 [K.p];have S0:=Zh (zzw W (.cells #[Iv 18,Iv nn,Sv s,.slice ad [z,a,b].length cc] 50));have S1:Hi (W.heap.size≠K.p):=by have:=h.at'.lt;unfold Hi;omega
 have HH:=Zh h;have qA:=Zh hK;have zA:=Zh IH;have HN:=Zh hn;clear A0 h hK hX IH hn;go_enter func42,ntmps42;go_upto_region 1 with fail;generalize World.alloc W _=w1 at*;generalize W.heap.size=eb at*
 have FF:Hi (∀W',Chg [K.p] w1 W'->W'.cell? ⟨eb,0,none⟩=some (Iv 18)/\W'.cell? ⟨eb,1,none⟩=some (Iv nn)/\W'.cell? ⟨eb,2,none⟩=some (Sv s)/\W'.cell? ⟨eb,3,none⟩=some (.slice ad [z,a,b].length cc)):=by
  exact QhR
 have B0:Hi (∀W',Chg [K.p] w1 W'->Bel K.w0 W'):=λW' hW=>QdL H2.o.bel hk.num hW
 obtain⟨b0,b1,b2,b3⟩:=FF.o _ (Chg.refl _ _);obtain⟨kb,o,xB,B5,xA⟩:=qA.o.at0 zp;obtain⟨dz,cz,mA,rA⟩:=xA 0 z rfl;have kA:=Zh mA;have gA:=Zh rA;obtain⟨da,ca,tA,G3⟩:=xA 1 a rfl;have pA:=Zh tA;have iA:=Zh G3;obtain⟨db,cb,sA,hA⟩:=xA 2 b rfl;have nA:=Zh sA;have T7:=Zh hA;clear xA;subst xB;have yA:=HH.o.kid zd (i:=0) (y:=z) rfl kA.o H2.o (M1.o.trans (Chg.refl _ _)) HH.o.us;have bA:=Zh (yA.ok hk d);have ci:=zA.o z _ M0 N0 _ _ _ w1 u (zu HN.o (KE (l:=[z,a,b]) (y:=z) zp)) yA;clear yA;obtain⟨k0,k1,k2,k3⟩:=gA.o _ (B0.o _ ((Chg.refl _ _)));simp only[zero_mul,add_zero,one_mul,Nat.reduceMul]at k0 k1 k2 k3;go_wp2_with fail;refine ci.mono ?_
 cases hy:evK K d M0 u z with
 |fault er u6=>
  exact Qmn
 |val v u6=>
  rintro e w6 ⟨rfl,T3,j0⟩;have dA:=bA.o;rw[hy]at dA;obtain⟨jA,aA,_⟩:=dA;have HY:=Zh hy;have cA:=Zh T3;have M2:=Zh j0;have vA:=Zh aA;obtain⟨b0,b1,b2,b3⟩:=FF.o _ M2.o
  by_cases hv:v=0
  ·subst hv;have Q5:=HH.o.kid zd (i:=2) (y:=b) rfl nA.o cA.o (M1.o.trans M2.o) vA.o;have yB:=Zh (Q5.ok hk d);have ci:=zA.o b _ M0 N0 _ _ _ w6 u6 (zu HN.o (KE (l:=[z,a,b]) (y:=b) zp)) Q5;exact QnO
  ·have HV:=Zh hv;have e0:(v==0)=false:=zzq hv;have e1:(v !=0)=true:=by rw[bne,e0];rfl
   have uA:=HH.o.kid zd (i:=1) (y:=a) rfl pA.o cA.o (M1.o.trans M2.o) vA.o;have uB:=Zh (uA.ok hk d);have ci:=zA.o a _ M0 N0 _ _ _ w6 u6 (zu HN.o (KE (l:=[z,a,b]) (y:=a) zp)) uA;obtain⟨k0,k1,k2,k3⟩:=iA.o _ (B0.o _ (M2.o));simp only[zero_mul,add_zero,one_mul,Nat.reduceMul]at k0 k1 k2 k3;go_wp2_with fail;refine ci.mono ?_
   cases hz:evK K d M0 u6 a with
   |fault er u9=>
    exact Qnc
   |val v9 u9=>
    exact Qnu
def Jjy(K:Qar)(hk:K.Ok)(c d n:Nat)(IH:QhO K c d n)(nn:Int)(s:By)(a b:Exp)(cs:Array Value)(M0 N0:List Int)(vv:Value)(Qad:Nat)(t:Int)(W:World)(u:Nat)(hn:Qaz (utL [a,b])<=n)(h:EvH K c (.mk 19 nn s [a,b]) cs M0 N0 vv Qad t W u):
  Calls prog 42 #[Pt K.p,.agg cs,vv] W (EvP K W c (evK K d M0 u (.mk 19 nn s [a,b]))):=by
 obtain⟨ad,cc,rfl,mB,hK⟩:=h.x.kids;obtain⟨va,vc,rfl⟩:=h.ints.form';obtain⟨X,hX⟩:∃X,evK K d M0 u (.mk 19 nn s [a,b])=X:=⟨_,rfl⟩
 rw[hX];rw[Jju]at hX;have rA:=hX.symm;clear hX;have hX:=rA;clear rA;have HX:=Zh hX;have A0:Below W.heap.size W (W.alloc (.cells #[Iv 19,Iv nn,Sv s,.slice ad [a,b].length cc] 50)):=zzb.alloc zzl _;have H2:=Zh (h.at'.up A0);have M1:Hi (Chg [K.p] W (W.alloc (.cells #[Iv 19,Iv nn,Sv s,.slice ad [a,b].length cc] 50))):=Chg.of_below A0 [K.p];have S0:=Zh (zzw W (.cells #[Iv 19,Iv nn,Sv s,.slice ad [a,b].length cc] 50));have S1:Hi (W.heap.size≠K.p):=by have:=h.at'.lt;unfold Hi;omega
 have HH:=Zh h;have gB:=Zh hK;have jA:=Zh IH;have HN:=Zh hn;clear A0 h hK hX IH hn;go_enter func42,ntmps42;go_upto_region 1 with fail;generalize World.alloc W _=w1 at*;generalize W.heap.size=eb at*
 have FF:Hi (∀W',Chg [K.p] w1 W'->W'.cell? ⟨eb,0,none⟩=some (Iv 19)/\W'.cell? ⟨eb,1,none⟩=some (Iv nn)/\W'.cell? ⟨eb,2,none⟩=some (Sv s)/\W'.cell? ⟨eb,3,none⟩=some (.slice ad [a,b].length cc)):=by
  exact QhR
 have B0:Hi (∀W',Chg [K.p] w1 W'->Bel K.w0 W'):=λW' hW=>QdL H2.o.bel hk.num hW
 obtain⟨b0,b1,b2,b3⟩:=FF.o _ (Chg.refl _ _);obtain⟨kb,o,aB,B5,cA⟩:=gB.o.at0 zp;obtain⟨da,ca,kB,G3⟩:=cA 0 a rfl;have zB:=Zh kB;have xB:=Zh G3;obtain⟨db,cb,uB,cB⟩:=cA 1 b rfl;have eB:=Zh uB;have T7:=Zh cB;clear cA;subst aB;have dA:=HH.o.let1 zB.o H2.o (M1.o.trans (Chg.refl _ _)) HH.o.us;have pA:=Zh (dA.ok hk d);have ci:=jA.o a _ M0 N0 _ _ _ w1 u (zu HN.o (KE (l:=[a,b]) (y:=a) zp)) dA;obtain⟨k0,k1,k2,k3⟩:=xB.o _ (B0.o _ ((Chg.refl _ _)));simp only[zero_mul,add_zero,one_mul,Nat.reduceMul]at k0 k1 k2 k3;go_wp2_with fail;refine ci.mono ?_
 cases hy:evK K d M0 u a with
 |fault er u6=>
  exact Qmn
 |val v u6=>
  rintro e w6 ⟨rfl,T3,j0⟩;have qA:=pA.o;rw[hy]at qA;obtain⟨dB,hA,mA⟩:=qA;have HY:=Zh hy;have kA:=Zh T3;have M2:=Zh j0;have tA:=Zh hA;have vB:=Zh mA
  obtain⟨sv,nB,bA⟩:∃sv,(∀W:World,(Instr.slice 55 (.slice va M0.length vc) none (some (Iv M0.length)) (some (Iv M0.length))).run prog W=.ok sv W)/\((M0=[]/\∃ad,sv=.slice ad 0 0)\/∃g o,sv=.slice (some ⟨g,o,none⟩) M0.length M0.length/\∀W',Chg [K.p] w1 W'->∀i n,M0[i]?=some n->W'.cell? ⟨g,o+i,none⟩=some (Iv n)):=by
   have iB:=HH.o.ints.chg M1.o
   rcases iB with⟨e1,ad0,cc0,e2⟩|⟨g,o,vc',e,h2,h3,_,h5⟩
   ·subst e1;injection e2 with e4 e5 e6;obtain⟨yB,hz⟩:=YT va vc w1;exact⟨_,hz,.inl ⟨rfl,yB,rfl⟩⟩
   ·injection e with e4 e5 e6;subst e4 e6;exact⟨_,YS g o M0.length _ h2,.inr ⟨g,o,rfl,λW' hb i n hi=>hb.cell_some (p:=⟨g,o+i,none⟩) (by simpa using h3) (h5 i n hi)⟩⟩
  have C7:=Zh bA;have jB:∃a m c',sv=.slice a m c':=by rcases bA with⟨_,_,rfl⟩|⟨_,_,rfl,_⟩<;>exact⟨_,_,_,rfl⟩
  obtain⟨sa,sm,sc,rfl⟩:=jB;have hvl:M0.length<=1000000000:=by have:=HH.o.sz;omega
  have hB:=Zh hvl
  have F6:Hi (∀W',Chg [K.p] w1 W'->W'.cell? ⟨eb,3,none⟩=some (.slice (some ⟨kb,o,none⟩) [a,b].length cc)/\W'.cell? ⟨kb,o+4,none⟩=some (Iv b.kind)/\W'.cell? ⟨kb,o+4+1,none⟩=some (Iv b.num)/\W'.cell? ⟨kb,o+4+2,none⟩=some (.string (bs b.name))/\W'.cell? ⟨kb,o+4+3,none⟩=some (.slice db b.kids.length cb)):=by
   intro W' hW;obtain⟨b0,b1,b2,b3⟩:=FF.o _ hW;obtain⟨k0,k1,k2,k3⟩:=T7.o _ (B0.o _ hW);simp only[one_mul]at k0 k1 k2 k3;exact⟨b3,k0,k1,k2,k3⟩
  go_upto_region 27 with fail;have nA:Chg [K.p] w1 w6.drew:=M2.o.trans (Chg.of_below (Below.refl w6.heap.size w6).drew [K.p]);have iA:=Zh kA.o.drew;have aA:=Zh nA;refine wp_region_held_drew (S:=(λW'=>Chg [K.p] w1 W'/\W'.cell? ⟨eb,3,none⟩=some (.slice (some ⟨kb,o,none⟩) [a,b].length cc)/\W'.cell? ⟨kb,o+4,none⟩=some (Iv b.kind)/\W'.cell? ⟨kb,o+4+1,none⟩=some (Iv b.num)/\W'.cell? ⟨kb,o+4+2,none⟩=some (.string (bs b.name))/\W'.cell? ⟨kb,o+4+3,none⟩=some (.slice db b.kids.length cb))) zk (⟨aA.o,F6.o _ aA.o⟩) λhH=>?_;generalize w6.drew=w7 at*;refine ZT (i:=0) (v:=?vL0) rfl (Or.inl ⟨by rfl,?yL0⟩) ?_
  case yL0=>exact ZyQ
  refine ZT (i:=1) (v:=?vL1) rfl (Or.inl ⟨by rfl,?yL1⟩) ?_
  case yL1=>exact ZyQ
  refine ZT (i:=2) (v:=?vL2) rfl (Or.inl ⟨by rfl,?yL2⟩) ?_
  case yL2=>exact ZyQ
  refine ZT (i:=3) (v:=?vL3) rfl (Or.inl ⟨by rfl,?yL3⟩) ?_
  case yL3=>exact ZyQ
  refine ZT (i:=4) (v:=?vL4) rfl (Or.inl ⟨by rfl,?yL4⟩) ?_
  case yL4=>exact ZyQ
  refine ZT (i:=5) (v:=?vL5) rfl (Or.inl ⟨by rfl,?yL5⟩) ?_
  case yL5=>exact ZyQ
  refine ZT (i:=6) (v:=?vL6) rfl (Or.inl ⟨by rfl,?yL6⟩) ?_
  case yL6=>exact ZyQ
  refine ZT (i:=7) (v:=?vL7) rfl (Or.inl ⟨by rfl,?yL7⟩) ?_
  case yL7=>exact ZyQ
  refine ZT (i:=8) (v:=?vL8) rfl (Or.inl ⟨by rfl,?yL8⟩) ?_
  case yL8=>exact ZyQ
  refine ZT (i:=9) (v:=?vL9) rfl (Or.inl ⟨by rfl,?yL9⟩) ?_
  case yL9=>exact ZyQ
  refine ZT (i:=10) (v:=?vL10) rfl (Or.inl ⟨by rfl,?yL10⟩) ?_
  case yL10=>exact ZyQ
  refine ZT (i:=11) (v:=?vL11) rfl (Or.inl ⟨by rfl,?yL11⟩) ?_
  case yL11=>exact ZyQ
  refine ZR (rs:=[12]) (AllReadyH.cons rfl (λK9 hK=>?_) AllReadyH.nil);have Q3:Below w7.heap.size w7 (w7.alloc (.cells #[Iv v] 3)):=zzb.alloc zzl _;have sA:Chg [K.p] w1 (w7.alloc (.cells #[Iv v] 3)):=aA.o.trans (Chg.of_below Q3 [K.p]);have uA:=Zh sA;have eA:=Zh (iA.o.up Q3);have P3:=Zh (zzw w7 (.cells #[Iv v] 3));go_simp;refine zU hK (⟨uA.o,F6.o _ uA.o⟩) λhH=>?_
  try simp only[zX]
  refine ZR (rs:=[13]) (AllReadyH.cons rfl (λK9 hK=>?_) AllReadyH.nil);have vA:(M0=[]/\∃ad,(Value.slice sa sm sc)=.slice ad 0 0)\/∃g o,(Value.slice sa sm sc)=.slice (some ⟨g,o,none⟩) M0.length M0.length/\∀i n,M0[i]?=some n->(w7.alloc (.cells #[Iv v] 3)).cell? ⟨g,o+i,none⟩=some (Value.int .i64 n):=C7.o.imp id λ⟨g,o,h1,h2⟩=>⟨g,o,h1,h2 _ uA.o⟩
  (refine JL (w7.alloc (.cells #[Iv v] 3)) zr (.tmp 120) (.tmp 122) zr M0 _ vA zr w7.heap.size v zr P3.o hB.o K.p eA.o.lt ?_;intro w9 cc9 hi9 mD)
  have I6:=Zh (uA.o.trans (Chg.of_below mD [K.p]));have d7:=Zh (eA.o.up mD);have bB:=Zh hi9;generalize (w7.alloc (.cells #[Iv v] 3)).heap.size=g9 at*;refine zU hK (⟨I6.o,F6.o _ I6.o⟩) λhH=>?_
  try simp only[zX]
  refine ZR (rs:=[14]) (AllReadyH.cons rfl (λK9 hK=>?_) AllReadyH.nil);have Q5:=HH.o.let2 eB.o d7.o vB.o bB.o tA.o;have cn:=jA.o b _ _ _ _ _ _ w9 u6 (zu HN.o (KE (l:=[a,b]) (y:=b) zp)) Q5
  (go_simp;go_at_call 42;refine cn.mono ?_;intro e w10 V3)
  cases hz:evK K d (M0++[v]) u6 b with
  |fault er u9=>
   rw[hz]at V3;obtain⟨rfl,yA,xA⟩:=V3;refine⟨rfl,?_⟩;rw[HX.o,HY.o,RN.bind_val,hz];exact⟨rfl,yA,M1.o.trans (I6.o.trans xA)⟩
  |val v9 u9=>
   rw[hz]at V3;obtain⟨rfl,yA,xA⟩:=V3;have HZ:=Zh hz;have gA:=Zh yA;have zA:=Zh (I6.o.trans xA);refine zU hK (⟨zA.o,F6.o _ zA.o⟩) λhH=>?_
   try simp only[zX]
   refine ZT (i:=15) (v:=?vL15) rfl (Or.inl ⟨by rfl,?yL15⟩) ?_
   case yL15=>exact ZyQ
   try simp only[zX]
   refine wpAnyH_done zk ?_ _;go_wp2;go_ret;rw[HX.o,HY.o,RN.bind_val,HZ.o];exact⟨rfl,gA.o,M1.o.trans zA.o⟩
end Go.Proofs.YtncanmdgdflnpaaGreatDoor


