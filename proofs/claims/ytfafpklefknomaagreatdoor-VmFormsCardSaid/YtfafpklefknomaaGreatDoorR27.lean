import Derived.Test.YtfafpklefknomaaGreatDoorR26
import Derived.Test.YtfafpklefknomaaGreatDoorR02
import Derived.Test.YtfafpklefknomaaGreatDoorR06
import Derived.Test.YtfafpklefknomaaGreatDoorR23
open Nat(le_refl)
open List(all_eq_true)
namespace Go.Proofs.YtfafpklefknomaaGreatDoor
open Go.ChangeShapes Go.WideShapes Go.ChangeAt Go.RowKit Go.Lib
open _root_.Go.Proofs.Tryz
set_option linter.all false
set_option maxRecDepth 100000
set_option maxHeartbeats 32000000
def QbJ(w:World)(b n:Nat)(S:List By):Prop:=
 ∃D:DataW Unit,w.ownsMap prog 9 (plainElem prog 4) b n D/\Go.Maps.IsMap D/\
  ∀s:By,s.length<=1000000->D.atKey (.string s) (.lit (.bool false))=.lit (.bool (decide (s∈S)))
def QfL(w:World):(zeroValue 4).run prog w=.ok (.bool false) w:=zk
def JbH{P:Program}{e:TypeId}(he:P.underlying e=some .bool){v:Value}{z:DataW Unit × List MemPlace}(h:plainElem P e v=some z):∃x,v=.bool x/\z=(.lit (.bool x),[]):=by
 unfold plainElem at h;rw[he]at h
 cases v<;>simp at h
 exact⟨_,rfl,h.symm⟩
def QbJ.look{w:World}{b n:Nat}{S:List By}(h:QbJ w b n S){s:By}(hs:s.length<=1000000) :
  (Instr.lookup 70 (.map (some b)) (Sv s) false).run prog w=.ok (.bool (decide (s∈S))) w:=by
 obtain⟨D,ho,hm,hf⟩:=h;obtain⟨v,ps,hrun,hv⟩:=ho.lookup Qcu underlying70 (QfL w) (plainElem_bool underlying4 false) (Zm hs);rw[hrun];rw[hf s hs]at hv;obtain⟨c,rfl,hc⟩:=JbH underlying4 hv;simp only[Prod.mk.injEq,DataW.lit.injEq,Lit.bool.injEq]at hc;rw[<- hc.1]
def QbJ.upd{w:World}{b n:Nat}{S:List By}(h:QbJ w b n S)(hn:n<maxLen){s:By}(hs:s.length<=1000000) :
  ∃w',(Instr.mapUpdate 70 (.map (some b)) (Sv s) (.bool true)).run prog w=.ok () w'/\QbJ w' b (n+1) (S++[s])/\Chg [b] w w':=by
 obtain⟨D,ho,hm,hf⟩:=h;have hk:=Zm hs;obtain⟨w',hrun,yA,hg⟩:=ho.update Qcu underlying70 hn hk (plainElem_bool underlying4 true);refine⟨w',hrun,⟨_,yA,hm.put _ _,λx hx=>?_⟩,Chg.of_grownBy hg⟩
 by_cases e:x=s
 ·subst e;rw[Go.Maps.atKey_put_same hm (Qcu.key hk)];simp
 ·have xA:(Lit.string x)≠Lit.string s:=λh=>e (by injection h)
  rw[Go.Maps.atKey_put_other xA,hf x hx];simp[e]
def QbJ.new(w:World):QbJ (w.alloc (.map #[] 0)) w.heap.size 0 []:=
 ⟨.map [],World.ownsMap_made w _ _ _,Go.Maps.isMap_empty,λ_ _=>rfl⟩
def QbJ.lt{w:World}{b n:Nat}{S:List By}(h:QbJ w b n S):b<w.heap.size:=h.choose_spec.1.lt
def QbJ.same{w w':World}{b n:Nat}{S:List By}(h:QbJ w b n S)(hc:w'.heap[b]?=w.heap[b]?):QbJ w' b n S:=by
 obtain⟨D,⟨es,xA,hb,r⟩,q⟩:=h;exact⟨D,⟨es,xA,hc.trans hb,r⟩,q⟩
def JhX{s:By}(h:Qbr s=true):s.length<=24:=by
 unfold Qbr at h;split at h
 ·cases h
 ·simp only[Bool.and_eq_true,decide_eq_true_eq]at h;exact h.1.1.1.1
def Jgc{l:List FnM}{i:Nat}{f:FnM}{nm:Bool}(h:QbU ((l.take i).map (·.name)) (l.drop i)=nm)(hi:l[i]?=some f) :
  (Qbr f.name&&!decide (f.name∈(l.take i).map (·.name))&&QbY f.result&&f.params.all QbY&&QbU ((l.take (i+1)).map (·.name)) (l.drop (i+1)))=nm:=by
 obtain⟨hlt,he⟩:=List.getElem?_eq_some_iff.1 hi;rw[List.drop_eq_getElem_cons hlt,he,QbU]at h;rw[List.take_add_one,hi,List.map_append];exact h
def JaS{t:Int}(h0:¬t=0)(h1:¬t=1):QbY t=false:=by
 unfold QbY;rw[zM h0,zM h1];rfl
def clB(c:ClM):Bool:=QdR c.action&&QcD c.reason
def JnG(l:List ClM):QgH l=l.all clB:=rfl
def KR(r:Qah)(c:Array Value)(w:World)(hx:QaV w (In w) r c)(hz:RSz r):Calls prog 11 #[.agg c] w (Qbj w (.bool (Qat r))):=by
 obtain⟨fa,fc,ca,cc,rfl,hF,hC⟩:=hx.parts;obtain⟨nm,hnm⟩:∃nm,QbU [] r.funcs=nm:=⟨_,rfl⟩
 obtain⟨q,hq⟩:∃q,Qat r=q:=⟨_,rfl⟩
 rw[hq];unfold Qat at hq;rw[hnm]at hq;have HQ:=Zh hq;have uB:Hi (QbU ((r.funcs.take 0).map (·.name)) (r.funcs.drop 0)=nm):=hnm;have zB:Below w.heap.size w (w.alloc (.cells #[.slice fa r.funcs.length fc,.slice ca r.clauses.length cc,Iv r.action] 25)):=zO.alloc (Nat.le_refl _) _;have yB:Below w.heap.size w ((w.alloc (.cells #[.slice fa r.funcs.length fc,.slice ca r.clauses.length cc,Iv r.action] 25)).alloc (.map #[] 0)):=zB.alloc zq _;have HCP:Hi (((w.alloc (.cells #[.slice fa r.funcs.length fc,.slice ca r.clauses.length cc,Iv r.action] 25)).alloc (.map #[] 0)).heap[w.heap.size]?=some (.cells #[.slice fa r.funcs.length fc,.slice ca r.clauses.length cc,Iv r.action] 25 (0,0))):=Jf (zQ w _)
 have uA:QbJ ((w.alloc (.cells #[.slice fa r.funcs.length fc,.slice ca r.clauses.length cc,Iv r.action] 25)).alloc (.map #[] 0)) (w.heap.size+1) 0 ((r.funcs.take 0).map (·.name)):=by
  have e1:=QbJ.new (w.alloc (.cells #[.slice fa r.funcs.length fc,.slice ca r.clauses.length cc,Iv r.action] 25));simp only[World.size_alloc]at e1;exact e1
 have eA:=Zh uA;have HKX:Hi (∀W,Chg [w.heap.size+1] ((w.alloc (.cells #[.slice fa r.funcs.length fc,.slice ca r.clauses.length cc,Iv r.action] 25)).alloc (.map #[] 0)) W->Bel w W):=λW hW=>Qfb (rb:=w.heap.size+1) yB zo hW
 have aB:=Zh hF;have gB:=Zh hC;have HXX:=Zh hx;have HZ:=Zh hz;have eC:=hz.nf;have iC:=hz.nc;have sB:Hi (w.heap.size≠w.heap.size+1):=by unfold Hi;omega
 have qB:Hi (∀b,In w b->b≠w.heap.size+1):=by intro b hb e;unfold In at hb;omega
 clear zB yB hx hF hC hz hq hnm uA;have uC:=@run_makeMap prog;go_enter func11,ntmps11;go_upto_region 2 with fail;clear uC
 (try simp only[World.size_alloc])
 generalize World.alloc (World.alloc w _) _=w2 at *;generalize w.heap.size+1=mb at *;generalize w.heap.size=eb at *
 have FF:Hi (∀W,Chg [mb] w2 W->W.cell? ⟨eb,0,none⟩=some (.slice fa r.funcs.length fc)/\W.cell? ⟨eb,1,none⟩=some (.slice ca r.clauses.length cc)/\W.cell? ⟨eb,2,none⟩=some (Iv r.action)):=by
  intro W hW;have hh:=hW.heap_some (by simp;exact sB.o) HCP.o;refine⟨?_,?_,?_⟩<;>(rw[Ja hh];rfl)
 obtain⟨b0,b1,b2⟩:=FF.o _ (Chg.refl _ _);go_wp2_with fail;clear b0 b1 b2;go_loopg [14] r.funcs.length λg v14 wr=>∃i:Nat,g+i=r.funcs.length/\v14=Iv i/\Hi (Chg [mb] w2 wr)/\Hi (QbJ wr mb i ((r.funcs.take i).map (·.name)))/\Hi (QbU ((r.funcs.take i).map (·.name)) (r.funcs.drop i)=nm)
 case atStart=>exact⟨0,rfl,rfl,Chg.refl _ _,eA,uB⟩
 case round=>
 clear eA uB;obtain⟨wl,rfl⟩:=zJ wr;obtain⟨i,hg,rfl,hbw,uA,jA⟩:=hrel
 by_cases hi:i<r.funcs.length
 ·have hil:(i:Int)<(r.funcs.length:Int):=zo;obtain⟨f,hf⟩:∃f,r.funcs[i]?=some f:=⟨r.funcs[i],List.getElem?_eq_getElem hi⟩
  have hmem:=List.mem_of_getElem? hf;have bB:=aB.o.up (HKX.o _ hbw.o);obtain⟨b,o,pa,pc,da,dc,xB,xA⟩:=bB.get hf;have vA:=xA.nums
  have eB:Hi (∀{j:Nat} {t:Int},f.params[j]?=some t->∃b8 o8,pa=some ⟨b8,o8,none⟩/\b8≠mb):=by
   intro j t hj;obtain⟨b9,o9,bC,gC,jC,aC,iA,cA⟩:=aB.o.get hf;rw[xB]at iA;injection iA with e9;injection e9 with e1 e2;subst e1 e2;have hlt:b<w.heap.size:=cA.blt;have h1:=xA.c1;have h2:wl.cell? _=_:=((HKX.o _ hbw.o).cell (p:=⟨b,o+i*7+1,none⟩) hlt).trans cA.c1;rw[h1]at h2;injection h2 with h2;injection h2 with h5 h6 h7;subst h5 h7;obtain⟨b8,o8,g1,g2,_⟩:=cA.nums.get hj;exact⟨b8,o8,g1,λe=>qB.o b8 g2 e⟩
  obtain⟨hnl,qA,_,_⟩:=HZ.o.fn f hmem;have c0:=xA.c0;have c1:=xA.c1;have c2:=xA.c2;have c3:=xA.c3;have c4:=xA.c4;have c5:=xA.c5;have c6:=xA.c6;have wk:=zI i;have hb2:Below wl.heap.size wl (wl.alloc (.cells #[.string (bs f.name),.slice pa f.params.length pc,Iv f.result,Iv f.body.kind,Iv f.body.num,.string (bs f.body.name),.slice da f.body.kids.length dc] 41)):=zO.alloc (Nat.le_refl _) _;have hbx:Chg [mb] w2 (wl.alloc (.cells #[.string (bs f.name),.slice pa f.params.length pc,Iv f.result,Iv f.body.kind,Iv f.body.num,.string (bs f.body.name),.slice da f.body.kids.length dc] 41)):=hbw.o.trans (Chg.of_below hb2 [mb]);have gA:QbJ (wl.alloc (.cells #[.string (bs f.name),.slice pa f.params.length pc,Iv f.result,Iv f.body.kind,Iv f.body.num,.string (bs f.body.name),.slice da f.body.kids.length dc] 41)) mb i ((r.funcs.take i).map (·.name)):=uA.o.same (hb2.block _ uA.o.lt);have HNB:=Zh (zQ wl (.cells #[.string (bs f.name),.slice pa f.params.length pc,Iv f.result,Iv f.body.kind,Iv f.body.num,.string (bs f.body.name),.slice da f.body.kids.length dc] 41));have nB:Hi (QbR (wl.alloc (.cells #[.string (bs f.name),.slice pa f.params.length pc,Iv f.result,Iv f.body.kind,Iv f.body.num,.string (bs f.body.name),.slice da f.body.kids.length dc] 41)) (In (wl.alloc (.cells #[.string (bs f.name),.slice pa f.params.length pc,Iv f.result,Iv f.body.kind,Iv f.body.num,.string (bs f.body.name),.slice da f.body.kids.length dc] 41))) f.params (.slice pa f.params.length pc)):=QbR.up vA hb2;have yA:=Zh (Jgc jA.o hf);have eA:=Zh gA;have HCB:=Zh hbx;have xC:=Zh hf
  have mB:Hi (∀b9 o9,pa=some ⟨b9,o9,none⟩->0<f.params.length->b9≠mb):=by
   intro b9 o9 h1 hp e;obtain⟨b8,o8,h2,h3⟩:=eB.o (List.getElem?_eq_getElem hp);rw[h1]at h2;injection h2 with h2;injection h2 with h4;exact h3 (h4.symm.trans e)
  have HG:=Zh hg;have HHI:=Zh hi;have jB:Hi (wl.heap.size≠mb):=by have:=uA.o.lt;unfold Hi;omega
  subst xB;clear hb2 hbx hmem xA hbw hg bB uA gA vA jA hf hi;go_upto_region 5 with fail;clear c0 c1 c2 c3 c4 c5 c6;generalize World.alloc wl _=w3 at *;generalize wl.heap.size=cb at *
  have F3:Hi (∀W,Chg [mb] w3 W->W.cell? ⟨cb,0,none⟩=some (.string (bs f.name))/\W.cell? ⟨cb,1,none⟩=some (.slice pa f.params.length pc)/\W.cell? ⟨cb,2,none⟩=some (Iv f.result)):=by
   intro W hW;have hh:=hW.heap_some (by simp;exact jB.o) HNB.o;refine⟨?_,?_,?_⟩<;>(rw[Ja hh];rfl)
  have HFIN:Hi (Bel w w3):=HKX.o _ HCB.o;obtain⟨d0,d1,d2⟩:=F3.o _ (Chg.refl _ _);have ci:=JhO f.name w3 hnl;go_wp2_with fail;refine ci.mono ?_;rintro e w4 ⟨rfl,rfl⟩;clear ci
  cases hid:Qbr f.name with
  |false=>
   have hqf:q=false:=by
    have h1:=yA.o;rw[hid]at h1;simp only[Bool.false_and]at h1;rw[<- HQ.o,<- h1];rfl
   subst hqf;clear hid;go_wp2;go_ret;exact⟨rfl,HFIN.o⟩
  |true=>
  have iB:=JhX hid;have mA:=eA.o.look (s:=f.name) zo
  replace yA:Hi ((!decide (f.name∈(r.funcs.take i).map (·.name))&&QbY f.result&&f.params.all QbY&&QbU ((r.funcs.take (i+1)).map (·.name)) (r.funcs.drop (i+1)))=nm):=by
   have h1:=yA.o;rw[hid]at h1;simp only[Bool.true_and]at h1;exact h1
  have pB:Hi ((r.funcs.take (i+1)).map (·.name)=(r.funcs.take i).map (·.name)++[f.name] ):=by
   have zC:r.funcs[i]?=some f:=xC.o;rw[Hi,List.take_add_one,zC,List.map_append];rfl
  clear hid
  by_cases hin:f.name∈(r.funcs.take i).map (·.name)
  ·rw[zG hin]at mA
   have hqf:q=false:=by
    have h1:=yA.o;rw[zG hin]at h1;simp only[Bool.not_true,Bool.false_and]at h1;rw[<- HQ.o,<- h1];rfl
   subst hqf;clear hin;go_wp2;go_ret;exact⟨rfl,HFIN.o⟩
  rw[zH hin]at mA
  replace yA:Hi ((QbY f.result&&f.params.all QbY&&QbU ((r.funcs.take (i+1)).map (·.name)) (r.funcs.drop (i+1)))=nm):=by
   have h1:=yA.o;rw[zH hin]at h1;simp only[Bool.not_false,Bool.true_and]at h1;exact h1
  clear hin
  by_cases ht:f.result=0\/f.result=1
  ·replace yA:Hi ((f.params.all QbY&&QbU ((r.funcs.take (i+1)).map (·.name)) (r.funcs.drop (i+1)))=nm):=by
    have h1:=yA.o;have h2:QbY f.result=true:=by rcases ht with h|h<;>(rw[h];rfl)
    rw[h2]at h1;simp only[Bool.true_and]at h1;exact h1
   obtain⟨w5,vC,hA,hc5⟩:=eA.o.upd (by unfold maxLen;omega) (s:=f.name) zo;have zA:Hi (Chg [mb] w2 w5):=HCB.o.trans hc5;have hB:Hi (QbJ w5 mb (i+1) ((r.funcs.take (i+1)).map (·.name))):=by rw[Hi,pB.o];exact hA
   obtain⟨e0,e1,e2⟩:=F3.o _ hc5;have tA:Hi (Bel w w5):=HKX.o _ zA.o
   have kB:Hi (∀j t,f.params[j]?=some t->∃b o,pa=some ⟨b,o,none⟩/\w5.cell? ⟨b,o+j,none⟩=some (Iv t)):=by
    intro j t hj;obtain⟨b9,o9,h1,h2,h3⟩:=nB.o.get hj;exact⟨b9,o9,h1,hc5.cell_some (p:=⟨b9,o9+j,none⟩) (by simp;exact mB.o b9 o9 h1 (Nat.lt_of_le_of_lt (Nat.zero_le _) (List.getElem?_eq_some_iff.1 hj).1)) h3⟩
   obtain⟨pl,nA⟩:∃pl,f.params.length=pl:=⟨_,rfl⟩
   have HPL:=Zh nA;rw[nA]at d1 e1 qA;have wj:∀j:Nat,j<pl->IntKind.i64.wrap ((j:Int)+1)=(j:Int)+1:=λj hj=>IntWalk.i64_in _ zo
   have yC:=Zh wj;clear hA hc5 eA wj nA
   rcases ht with ht|ht
   all_goals
    rw[ht]at d2 e2;clear ht;go_wp2_with fail;clear d0 d1 d2 e0 e1 e2 mA vC;go_loop [44] (λv=>∃j:Nat,v=Iv j/\j<=pl/\Hi ((f.params.take j).all QbY=true)) λv=>pl-(intOf v).toNat
    case atStart=>exact⟨0,rfl,Nat.zero_le _,rfl⟩
    case round=>
    obtain⟨j,rfl,hj,aA⟩:=hrel
    by_cases hjp:j<pl
    ·have kA:(j:Int)<(pl:Int):=zo;have dC:=yC.o j hjp;obtain⟨t,pA⟩:∃t,f.params[j]?=some t:=⟨f.params[j]'(by rw[HPL.o];exact hjp),List.getElem?_eq_getElem _⟩
     obtain⟨b9,o9,h1,h2⟩:=kB.o j t pA;have dA:=Zh pA;subst h1;clear pA
     by_cases t0:t=0
     ·have rA:=Zh (Vc aA.o dA.o (by rw[t0];rfl));subst t0;clear aA dA;go_wp2;go_round
      case rel=>exact⟨j+1,by go_num,hjp,rA⟩
      case measure=>simp[intOf];omega
     have n0:(t !=0)=true:=by rw[bne,zM t0];rfl
     by_cases t1:t=1
     ·have rA:=Zh (Vc aA.o dA.o (by rw[t1];rfl));subst t1;clear aA dA t0;go_wp2;go_round
      case rel=>exact⟨j+1,by go_num,hjp,rA⟩
      case measure=>simp[intOf];omega
     have n1:(t !=1)=true:=by rw[bne,zM t1];rfl
     have hqf:q=false:=by
      have h1:=yA.o;rw[Vk dA.o (JaS t0 t1)]at h1;simp only[Bool.false_and]at h1;rw[<- HQ.o,<- h1];rfl
     subst hqf;clear aA dA t0 t1;go_wp2;go_ret;exact⟨rfl,tA.o⟩
    ·have kA:¬(j:Int)<(pl:Int):=zo;obtain rfl:j=pl:=zo
     replace yA:Hi (QbU ((r.funcs.take (i+1)).map (·.name)) (r.funcs.drop (i+1))=nm):=by
      have h1:=yA.o;have h2:=aA.o;rw[<- HPL.o,List.take_length]at h2;rw[h2]at h1;simp only[Bool.true_and]at h1;exact h1
     clear aA hjp hj;go_wp2;go_roundg (r.funcs.length-(i+1))
     case measure=>have:=HG.o;have:=HHI.o;omega
     case rel=>exact⟨i+1,by have:=HHI.o;omega,by go_num,zA,hB,yA⟩
  have hn0:¬f.result=0:=λh=>ht (.inl h)
  have hn1:¬f.result=1:=λh=>ht (.inr h)
  have n0:(f.result !=0)=true:=by rw[bne,zM hn0];rfl
  have n1:(f.result !=1)=true:=by rw[bne,zM hn1];rfl
  have hqf:q=false:=by
   have h1:=yA.o;rw[JaS hn0 hn1]at h1;simp only[Bool.false_and]at h1;rw[<- HQ.o,<- h1];rfl
  subst hqf;clear ht hn0 hn1;go_wp2;go_ret;exact⟨rfl,HFIN.o⟩
 have hil:¬(i:Int)<(r.funcs.length:Int):=zo;obtain rfl:i=r.funcs.length:=zo;have tB:nm=true:=by rw[<- jA.o,List.drop_length];rfl
 subst tB;obtain⟨b0,b1,b2⟩:=FF.o _ hbw.o;have HBW:=Zh hbw.o;clear hg hi hbw uA jA;go_wp2_with fail;clear b0 b1 b2 hil;go_loopg [59] r.clauses.length λg v59 wr=>∃j:Nat,g+j=r.clauses.length/\v59=Iv j/\Hi (Chg [mb] w2 wr)/\Hi ((r.clauses.take j).all clB=true)
 case atStart=>exact⟨0,rfl,rfl,HBW,rfl⟩
 case round=>
 clear HBW;obtain⟨wm,rfl⟩:=zJ wr;obtain⟨j,hg,rfl,hbw,hft⟩:=hrel
 by_cases hj:j<r.clauses.length
 ·have kA:(j:Int)<(r.clauses.length:Int):=zo;obtain⟨m,hm⟩:∃m,r.clauses[j]?=some m:=⟨r.clauses[j],List.getElem?_eq_getElem hj⟩
  have hmem:=List.mem_of_getElem? hm;have cB:=gB.o.up (HKX.o _ hbw.o);obtain⟨b,o,da,dc,dB,xA⟩:=cB.get hm;obtain⟨_,_,rB⟩:=HZ.o.cl m hmem;have c0:=xA.c0;have c1:=xA.c1;have c2:=xA.c2;have c3:=xA.c3;have c4:=xA.c4;have c5:=xA.c5;have wk:=zI j;have hb2:Below wm.heap.size wm (wm.alloc (.cells #[Iv m.cond.kind,Iv m.cond.num,.string (bs m.cond.name),.slice da m.cond.kids.length dc,Iv m.action,.string (bs m.reason)] 39)):=zO.alloc (Nat.le_refl _) _;have HCB:=Zh (hbw.o.trans (Chg.of_below hb2 [mb]));have sA:=Zh hm;have HG:=Zh hg;have HHI:=Zh hj;have ca:=Z8 m.action (wm.alloc (.cells #[Iv m.cond.kind,Iv m.cond.num,.string (bs m.cond.name),.slice da m.cond.kids.length dc,Iv m.action,.string (bs m.reason)] 39));have ct:=JcG m.reason (wm.alloc (.cells #[Iv m.cond.kind,Iv m.cond.num,.string (bs m.cond.name),.slice da m.cond.kids.length dc,Iv m.action,.string (bs m.reason)] 39)) rB;subst dB;clear hb2 hmem xA hbw hm hj hg cB;go_wp2_with fail;clear c0 c1 c2 c3 c4 c5;refine ca.mono ?_;rintro e w4 ⟨rfl,rfl⟩;clear ca;have HFIN:=Zh (HKX.o _ HCB.o)
  cases hac:QdR m.action with
  |false=>
   have hqf:q=false:=by
    have h1:QgH r.clauses=false:=Vk (p:=clB) sA.o (by unfold clB;rw[hac];rfl);rw[<- HQ.o,h1];rfl
   subst hqf;clear hac ct;go_wp2;go_ret;exact⟨rfl,HFIN.o⟩
  |true=>
  go_wp2_with fail;refine ct.mono ?_;rintro e w4 ⟨rfl,rfl⟩;clear ct
  cases htx:QcD m.reason with
  |false=>
   have hqf:q=false:=by
    have h1:QgH r.clauses=false:=Vk (p:=clB) sA.o (by unfold clB;rw[htx,Bool.and_false]);rw[<- HQ.o,h1];rfl
   subst hqf;clear hac htx;go_wp2;go_ret;exact⟨rfl,HFIN.o⟩
  |true=>
   have HFT:Hi ((r.clauses.take (j+1)).all clB=true):=Vc hft.o sA.o (by unfold clB;rw[hac,htx];rfl);clear hft hac htx HFIN;go_wp2;go_roundg (r.clauses.length-(j+1))
   case measure=>have:=HG.o;have:=HHI.o;omega
   case rel=>exact⟨j+1,by have:=HHI.o;omega,by go_num,HCB,HFT⟩
 have kA:¬(j:Int)<(r.clauses.length:Int):=zo;obtain rfl:j=r.clauses.length:=zo;have bA:=hft.o;rw[List.take_length]at bA
 replace HQ:Hi ((QdR r.action&&Qbq r&&Qbz r)=q):=by
  have h1:=HQ.o;rw[JnG,bA]at h1;exact h1
 obtain⟨b0,b1,b2⟩:=FF.o _ hbw.o;have HBW:=Zh hbw.o;have ca:=Z8 r.action wm;clear hft bA hg hj hbw;go_wp2_with fail;refine ca.mono ?_;rintro e w4 ⟨rfl,rfl⟩;clear ca
 cases hac:QdR r.action with
 |false=>
  have hqf:q=false:=by rw[<- HQ.o,hac];rfl
  subst hqf;have HFIN:=Zh (HKX.o _ HBW.o);clear hac;go_wp2;go_ret;exact⟨rfl,HFIN.o⟩
 |true=>
 have ct:=JhT r _ wm (HXX.o.up (HKX.o _ HBW.o)) HZ.o;go_wp2_with fail;refine ct.mono ?_;rintro e w5 ⟨rfl,hb5⟩;have zA:Hi (Chg [mb] w2 w5):=HBW.o.trans (Chg.of_below hb5 [mb]);clear ct hb5 HBW b0 b1 b2
 cases htr:Qbq r with
 |false=>
  have hqf:q=false:=by rw[<- HQ.o,hac,htr];rfl
  subst hqf;have HFIN:=Zh (HKX.o _ zA.o);clear hac htr;go_wp2;go_ret;exact⟨rfl,HFIN.o⟩
 |true=>
 obtain⟨b0,b1,b2⟩:=FF.o _ zA.o;have cy:=JhW r _ w5 (HXX.o.up (HKX.o _ zA.o)) HZ.o htr;go_wp2_with fail;refine cy.mono ?_;rintro e w6 ⟨rfl,hb6⟩;have HC6:Hi (Chg [mb] w2 w6):=zA.o.trans (Chg.of_below hb6 [mb]);have HFIN:=Zh (HKX.o _ HC6.o);clear cy hb6 zA b0 b1 b2;have vB:Qbz r=q:=by rw[<- HQ.o,hac,htr];rfl
 rw[vB];clear hac htr vB;go_wp2;go_ret;exact⟨rfl,HFIN.o⟩
open Go Go.ChangeShapes Go.WideShapes Go.ChangeAt Go.RowKit Go.Lib
def Qdy{α:Type}(w0:World)(m:Nat)(R:α->List Value->Prop)(l:List α)(ad:Option Addr):Prop:=l≠[]->∃b o,ad=some ⟨b,o,none⟩/\∀i e,l[i]?=some e->∃c,R e c/\∀W,Bel w0 W->∀j u,c[j]?=some u->W.cell? ⟨b,o+i*m+j,none⟩=some u
def Qdy.of{α:Type}{w0:World}{m:Nat}{R:α->List Value->Prop}(hR:∀a c,R a c->c.length=m){l:List α}{v:Value}(h:Qan w0 (In w0) R l v):∃ad cc,v=.slice ad l.length cc/\Qdy w0 m R l ad:=by
 obtain⟨ad,cc,rfl,_,hk⟩:=h.get hR;refine⟨ad,cc,rfl,λhne=>?_⟩;obtain⟨b,o,h1,h2,h3⟩:=hk hne;refine⟨b,o,h1,λi e hi=>?_⟩;obtain⟨c,g1,g2⟩:=h3 i e hi;exact⟨c,g1,λW hW j u hj=>(World.cell?_of_block (w:=w0) (hW.block b h2)).trans (g2 j u hj)⟩
def QcC(w0:World)(e:Exp)(c:List Value):Prop:=XAt w0 (In w0) e c.toArray
def Qdy.kids{w0:World}{k n:Int}{s:By}{l:List Exp}{c:Array Value}(hx:XAt w0 (In w0) (.mk k n s l) c):∃ad cc,c=#[Iv k,Iv n,Sv s,.slice ad l.length cc]/\Qdy w0 4 (QcC w0) l ad:=by
 obtain⟨ad,cc,rfl,_,hk⟩:=hx.kid;refine⟨ad,cc,rfl,λhne=>?_⟩;obtain⟨b,o,h1,h2,h3⟩:=hk hne;refine⟨b,o,h1,λi e hi=>?_⟩;obtain⟨d,g1,g2⟩:=h3 i e hi;exact⟨d.toList,by unfold QcC;exact g1,λW hW j u hj=>(World.cell?_of_block (w:=w0) (hW.block b h2)).trans (g2 j u (by simpa using hj))⟩
def QcC.form{w0:World}{e:Exp}{c:List Value}(h:QcC w0 e c):∃xa xc,c=[Iv e.kind,Iv e.num,.string (bs e.name),.slice xa e.kids.length xc]:=by
 unfold QcC at h;obtain⟨xa,xc,h1,_⟩:=h.form;exact⟨xa,xc,by have h2:=congrArg Array.toList h1;simpa using h2⟩
def FnX.form{w0:World}{f:FnM}{c:List Value}(h:FnX w0 (In w0) f c):∃pa pc xa xc,c=[.string (bs f.name),.slice pa f.params.length pc,Iv f.result,Iv f.body.kind,Iv f.body.num,.string (bs f.body.name),.slice xa f.body.kids.length xc]/\QbR w0 (In w0) f.params (.slice pa f.params.length pc)/\QcC w0 f.body [Iv f.body.kind,Iv f.body.num,.string (bs f.body.name),.slice xa f.body.kids.length xc]:=by
 obtain⟨v,d,hv,hd,rfl⟩:=h;have xA:=hv;obtain⟨pa,pc,rfl,_,_⟩:=hv;obtain⟨xa,xc,rfl,_⟩:=hd.form;exact⟨pa,pc,xa,xc,rfl,xA,hd⟩
def ClX.form{w0:World}{f:ClM}{c:List Value}(h:ClX w0 (In w0) f c):∃xa xc,c=[Iv f.cond.kind,Iv f.cond.num,.string (bs f.cond.name),.slice xa f.cond.kids.length xc,Iv f.action,.string (bs f.reason)]/\QcC w0 f.cond [Iv f.cond.kind,Iv f.cond.num,.string (bs f.cond.name),.slice xa f.cond.kids.length xc]:=by
 obtain⟨d,hd,rfl⟩:=h;obtain⟨xa,xc,rfl,_⟩:=hd.form;exact⟨xa,xc,rfl,hd⟩
def Yc(w:World)(o0 o1:Obj):Below w.heap.size w ((w.alloc o0).alloc o1):=(zO.alloc zP _).alloc zq _
def Jaa(w:World)(o0 o1:Obj):((w.alloc o0).alloc o1).heap[w.heap.size]?=some o0/\((w.alloc o0).alloc o1).heap[w.heap.size+1]?=some o1:=by
 have h0:=zQ w o0;have h1:=zQ (w.alloc o0) o1;simp only[World.size_alloc]at h1;exact⟨Jf h0,h1⟩
def Qay{W:World}{b t:Nat}{a0 a1 a2:Value}{fr:Nat × Nat}(h:W.heap[b]?=some (.cells #[a0,a1,a2] t fr)) :
  W.cell? ⟨b,0,none⟩=some a0/\W.cell? ⟨b,1,none⟩=some a1/\W.cell? ⟨b,2,none⟩=some a2:=by
 refine⟨?_,?_,?_⟩<;>(rw[Ja h];rfl)
def BxB(T:TypeId)(w1:World)(eb:Nat)(cs:Array Value):Prop:=∀W,Below w1.heap.size w1 W->W.heap[eb]?=some (.cells cs T (0,0))
def BxB.of{T:TypeId}{w1:World}{eb:Nat}{cs:Array Value}(h:w1.heap[eb]?=some (.cells cs T (0,0))):BxB T w1 eb cs:=λW hW=>(hW.block _ (Jb h)).trans h
def Qao{W:World}{b t:Nat}{a0 a1 a2 a3:Value}{fr:Nat × Nat}(h:W.heap[b]?=some (.cells #[a0,a1,a2,a3] t fr)) :
  W.cell? ⟨b,0,none⟩=some a0/\W.cell? ⟨b,1,none⟩=some a1/\W.cell? ⟨b,2,none⟩=some a2/\W.cell? ⟨b,3,none⟩=some a3:=by
 refine⟨?_,?_,?_,?_⟩<;>(rw[Ja h];rfl)
mutual
def szE(k:Nat):Exp->Nat
 |.mk _ _ _ l=>if 60<k\/300<l.length then 301 else szL k 1 l
termination_by e=>SizeOf.sizeOf e
def szL(k n:Nat):List Exp->Nat
 |[]=>n
 |x::l=>if n<=300 then szL k (n+szE (k+1) x) l else n
termination_by l=>SizeOf.sizeOf l
end
def Jfd(k:Nat)(a b:Int)(s:By)(l:List Exp):szE k (.mk a b s l)=if 60<k\/300<l.length then 301 else szL k 1 l:=by conv=>lhs;unfold szE
def Jab(k n:Nat):szL k n []=n:=by unfold szL;rfl
def VT(k n:Nat)(x:Exp)(l:List Exp):szL k n (x::l)=if n<=300 then szL k (n+szE (k+1) x) l else n:=by conv=>lhs;unfold szL
def Jkl{k n:Nat}(h:¬n<=300):∀l,szL k n l=n
 |[]=>Jab k n
 |x::l=>by rw[VT,if_neg h]
def Jlh{k B:Nat}(hB:∀x,szE (k+1) x<=B):∀(l:List Exp) (n:Nat),n<=300+B->szL k n l<=300+B
 |[],n,h=>by rw[Jab];exact h
 |x::l,n,h=>by
  rw[VT]
  by_cases e:n<=300
  ·rw[if_pos e];have:=hB x;exact Jlh hB l _ zo
  ·rw[if_neg e];exact h
def Jli:∀(d k:Nat) (x:Exp),61<=k+d->szE k x<=301+300*d
 |0,k,.mk a b s l,h=>by rw[Jfd,if_pos (Or.inl zo)];omega
 |d+1,k,.mk a b s l,h=>by
  rw[Jfd]
  by_cases e:60<k\/300<l.length
  ·rw[if_pos e];omega
  ·rw[if_neg e];have:=Jlh (k:=k) (B:=301+300*d) (λx=>Jli d (k+1) x zo) l 1 zo;omega
def JhY(k:Nat)(x:Exp):szE k x<=18601:=by
 have h:szE k x<=301+300*61:=Jli 61 k x zo;omega
def Jlj{k:Nat}:∀(l:List Exp) (n:Nat),n<=szL k n l
 |[],n=>by rw[Jab];exact le_refl _
 |x::l,n=>by
  rw[VT]
  by_cases e:n<=300
  ·rw[if_pos e];exact Nat.le_trans (Nat.le_add_right _ _) (Jlj l _)
  ·rw[if_neg e];exact le_refl _
mutual
def Jed:∀(x:Exp) (k:Nat),szE k x<=300->siz (utN x)=szE k x
 |.mk a b s l,k,h=>by
  rw[Jfd]at h |-
  by_cases e:60<k\/300<l.length
  ·rw[if_pos e]at h;omega
  ·rw[if_neg e]at h |-;rw[utN,JD,JhZ l k 1 h]
def JhZ:∀(l:List Exp) (k n:Nat),szL k n l<=300->Qbd (utL l)+n=szL k n l
 |[],k,n,h=>by rw[Jab,utL,JG];omega
 |x::l,k,n,h=>by
  by_cases e:n<=300
  ·rw[VT,if_pos e]at h |-;have h1:=Jlj (k:=k) l (n+szE (k+1) x);have h2:=Jed x (k+1) (by omega);have h3:=JhZ l k _ h;rw[utL,Ju,h2];omega
  ·rw[VT,if_neg e]at h;exact absurd h e
end
def Jee{α:Type}:∀{l:List α} {i:Nat} {x:α},l[i]?=some x->l.drop i=x::l.drop (i+1)
 |a::l,0,x,h=>by simp at h;simp[h]
 |a::l,i+1,x,h=>by
  have:=Jee (l:=l) (i:=i) (x:=x) (by simpa using h);simpa using this
 |[],i,x,h=>by simp at h
def YA{w0:World}:∀(x:Exp) (k:Nat) (d:List Value) (W:World),k<=61->QcC w0 x d->Bel w0 W->Calls prog 19 #[.agg d.toArray,Iv (k:Int)] W (Qbj W (Iv (szE k x:Nat)))
 |.mk kd nm s l,k,d,W,hk,h1,hb=>by
  obtain⟨a1,c1,e1,g1⟩:=Qdy.kids h1;rw[e1]
  have hel:∀x∈l,∀d W,k+1<=61->QcC w0 x d->Bel w0 W->Calls prog 19 #[.agg d.toArray,Iv ((k+1:Nat):Int)] W (Qbj W (Iv (szE (k+1) x:Nat))):=
   λx hx d W hk h1 hb=>YA x (k+1) d W hk h1 hb
  obtain⟨T,hT⟩:∃T,szE k (.mk kd nm s l)=T:=⟨_,rfl⟩
  rw[hT];rw[Jfd]at hT;obtain⟨m,hm⟩:∃m,l.length=m:=⟨_,rfl⟩
  rw[hm]at hT;have HM:=Zh hm;have HEL:=Zh hel;have HG1:=Zh g1;have xA:=Zh hk;rw[hm];clear e1 h1 hel g1 hm hk;have HX:=Zh (BxB.of (zQ W (.cells #[Iv kd,Iv nm,Sv s,.slice a1 m c1] 37)));have HB0:Hi (Bel W (W.alloc (.cells #[Iv kd,Iv nm,Sv s,.slice a1 m c1] 37))):=zO.alloc zP _;have HBW:=Zh (Jd hb HB0.o);clear hb;go_enter func19,ntmps19;go_upto_region 1 with fail;generalize World.alloc W _=w1 at *;generalize W.heap.size=xb at *;have HBC:Hi (Bel w1 w1):=zO;obtain⟨x0,x1,x2,x3⟩:=Qao (HX.o _ HBC.o)
  by_cases e3:60<k
  ·have q3:decide ((k:Int)>60)=true:=zG zo;have hTv:T=301:=by rw[<- hT,if_pos (Or.inl e3)]
   subst hTv;clear hT e3;go_wp2;go_ret;exact⟨rfl,Jd HB0.o HBC.o⟩
  have q3:decide ((k:Int)>60)=false:=zH zo
  by_cases e4:300<m
  ·have q4:decide ((m:Int)>300)=true:=zG zo;have hTv:T=301:=by rw[<- hT,if_pos (Or.inr e4)]
   subst hTv;clear hT e3 e4;go_wp2;go_ret;exact⟨rfl,Jd HB0.o HBC.o⟩
  have q4:decide ((m:Int)>300)=false:=zH zo;rw[if_neg zo]at hT;have HT:=Zh hT;have HE:Hi (k<=60/\m<=300):=⟨by omega,by omega⟩
  clear hT e3 e4;go_wp2_with fail;go_loopg [5,6] m λg v5 v6 wr=>∃i N:Nat,g+i=m/\v5=Iv (N:Int)/\v6=Iv (i:Int)/\Hi (Bel w1 wr/\szL k N (l.drop i)=T/\N<=30000)
  case atStart=>exact⟨0,1,rfl,rfl,rfl,HBC.o,HT.o,by decide⟩
  case round=>
   clear HBC q3 q4 x0 x1 x2 x3 HT;obtain⟨wl,rfl⟩:=zJ wr;obtain⟨i,N,hg,rfl,rfl,hws⟩:=hrel;have HBC:Hi (Bel w1 wl):=hws.o.1;have HT:=Zh hws.o.2.1;have HN:=Zh hws.o.2.2;clear hws;obtain⟨x0,x1,x2,x3⟩:=Qao (HX.o _ HBC.o)
   by_cases hi:i<m
   ·have dil:decide ((i:Int)<(m:Int))=true:=zG zo;have diN:decide (i<m)=true:=zG hi
    by_cases hN:N<=300
    ·have dN:decide ((N:Int)<=300)=true:=zG zo;obtain⟨x,hx⟩:∃x,l[i]?=some x:=⟨_,List.getElem?_eq_getElem (by rw[HM.o];exact hi)⟩
     obtain⟨b1,o1,ha1,hk1⟩:=HG1.o (List.ne_nil_of_mem (List.mem_of_getElem? hx));subst ha1;obtain⟨d1,hr1,hc1⟩:=hk1 i x hx;have hr1f:=hr1;obtain⟨xa,xc,rfl⟩:=hr1.form;have HBL:=Zh (Jd HBW.o HBC.o);obtain⟨z,hz⟩:∃z,szE (k+1) x=z:=⟨_,rfl⟩
     have hzb:=JhY (k+1) x;rw[hz]at hzb;have cc:=HEL.o x (List.mem_of_getElem? hx) _ wl (zu HE.o) hr1f HBL.o;rw[hz]at cc
     have hT2:szL k (N+z) (l.drop (i+1))=T:=by
      have h:=HT.o;rw[Jee hx,VT,if_pos hN,hz]at h;exact h
     have HT2:=Zh hT2;have p0:wl.cell? ⟨b1,o1+i*4,none⟩=some (Iv x.kind):=hc1 wl HBL.o 0 _ rfl;have p1:wl.cell? ⟨b1,o1+i*4+1,none⟩=some (Iv x.num):=hc1 wl HBL.o 1 _ rfl;have p2:wl.cell? ⟨b1,o1+i*4+2,none⟩=some (.string (bs x.name)):=hc1 wl HBL.o 2 _ rfl;have p3:wl.cell? ⟨b1,o1+i*4+3,none⟩=some (.slice xa x.kids.length xc):=hc1 wl HBL.o 3 _ rfl;have k0:0<=(i:Int):=zo;have k1:(i:Int)<(m:Int):=zo;have wk:IntKind.i64.wrap ((i:Int)+1)=((i+1:Nat):Int):=by have:=HE.o.2;rw[IntWalk.i64_in _ zo];omega
     have wn:IntKind.i64.wrap ((k:Int)+1)=((k+1:Nat):Int):=by have:=HE.o.1;rw[IntWalk.i64_in _ zo];omega
     have wz:IntKind.i64.wrap ((N:Int)+(z:Int))=((N+z:Nat):Int):=by rw[IntWalk.i64_in _ zo];omega
     have HG:Hi (gk+i=m/\i<m/\N+z<=30000):=⟨hg,hi,by omega⟩
     clear hx hk1 hr1 hr1f hz hzb hT2 hg hi hN HT HN hc1;go_wp2_with fail;refine cc.mono ?_;rintro e w8 ⟨rfl,hbb⟩;have HBD:Hi (Bel w1 w8):=Jd HBC.o hbb;clear cc x0 x1 x2 x3 p0 p1 p2 p3 hbb;go_wp2;go_roundg (m-(i+1))
     case measure=>have:=HG.o;omega
     case rel=>exact⟨i+1,N+z,by have:=HG.o;omega,rfl,rfl,HBD.o,HT2.o,HG.o.2.2⟩
    ·have dN:decide ((N:Int)<=300)=false:=zH zo;have hTv:T=N:=by rw[<- HT.o];exact Jkl hN _
     subst hTv;clear hi hg hN HT;go_wp2;go_ret;exact⟨rfl,Jd HB0.o HBC.o⟩
   ·have dil:decide ((i:Int)<(m:Int))=false:=zH zo;have diN:decide (i<m)=false:=zH hi
    have hTv:T=N:=by
     have h:=HT.o;rw[List.drop_eq_nil_of_le (by rw[HM.o];omega),Jab]at h;exact h.symm
    subst hTv;clear hi hg HT;go_wp2;go_ret;exact⟨rfl,Jd HB0.o HBC.o⟩
termination_by x=>SizeOf.sizeOf x
decreasing_by
 have:=List.sizeOf_lt_of_mem hx;simp only[Exp.mk.sizeOf_spec];omega
structure OpM where
 code:Int
 n:Int
 name:By
deriving DecidableEq
structure Qaf where
 ops:List OpM
 starts:List Int
 params:List Int
 slots:List Int
deriving DecidableEq
def QcK:Qaf:=⟨[],[],[],[]⟩
def op0(c:Int):OpM:=⟨c,0,[]⟩
def QbT(k:Int):Int:=if k=6\/k=7\/k=8\/k=9\/k=10\/k=11\/k=12\/k=13\/k=14 then k else 15
mutual
def cE:Nat->Exp->List OpM
 |p,.mk k n s l=>
  if k=0\/k=1 then [⟨0,n,[]⟩]
  else if k=2 then [⟨1,n,[]⟩]
  else if k=3 then [⟨3,0,s⟩]
  else if k=4 then [⟨4,0,s⟩]
  else if k=5 then [⟨5,0,s⟩]
  else if k=16 then
   match l with
   |[a,b]=>cE p a++⟨17,((p+(cE p a).length+(cE (p+(cE p a).length+1) b).length+2:Nat):Int),[]⟩::(cE (p+(cE p a).length+1) b ++
     [⟨16,((p+(cE p a).length+(cE (p+(cE p a).length+1) b).length+3:Nat):Int),[]⟩,⟨0,0,[]⟩])
   |_=>[]
  else if k=17 then
   match l with
   |[a,b]=>cE p a++⟨18,((p+(cE p a).length+(cE (p+(cE p a).length+1) b).length+2:Nat):Int),[]⟩::(cE (p+(cE p a).length+1) b ++
     [⟨16,((p+(cE p a).length+(cE (p+(cE p a).length+1) b).length+3:Nat):Int),[]⟩,⟨0,1,[]⟩])
   |_=>[]
  else if k=18 then
   match l with
   |[c,a,b]=>cE p c++⟨17,((p+(cE p c).length+(cE (p+(cE p c).length+1) a).length+2:Nat):Int),[]⟩::(cE (p+(cE p c).length+1) a ++
     ⟨16,((p+(cE p c).length+(cE (p+(cE p c).length+1) a).length+2+(cE (p+(cE p c).length+(cE (p+(cE p c).length+1) a).length+2) b).length:Nat):Int),[]⟩ ::
     cE (p+(cE p c).length+(cE (p+(cE p c).length+1) a).length+2) b)
   |_=>[]
  else if k=19 then
   match l with
   |[a,b]=>cE p a++⟨2,n,[]⟩::cE (p+(cE p a).length+1) b
   |_=>[]
  else cL p l++[if k=20 then⟨19,n,[]⟩ else op0 (QbT k)]
def cL:Nat->List Exp->List OpM
 |_,[]=>[]
 |p,a::l=>cE p a++cL (p+(cE p a).length) l
end
mutual
def QaD:Exp->Int
 |.mk k n s l=>max (if k=19 then n+1 else 0) (QbG l)
def QbG:List Exp->Int
 |[]=>0
 |a::l=>max (QaD a) (QbG l)
end
def cC:Nat->List ClM->List OpM
 |_,[]=>[]
 |p,c::l=>op0 21::(cE (p+1) c.cond++⟨17,((p+(cE (p+1) c.cond).length+3:Nat):Int),[]⟩::⟨22,c.action,c.reason⟩::cC (p+(cE (p+1) c.cond).length+3) l)
def cF:Nat->List FnM->List OpM
 |_,[]=>[]
 |p,f::l=>cE p f.body++op0 20::cF (p+(cE p f.body).length+1) l
def QaC:Nat->List FnM->List Int
 |_,[]=>[]
 |p,f::l=>(p:Int)::QaC (p+(cE p f.body).length+1) l
def Qbv:List ClM->Int
 |[]=>0
 |c::l=>max (QaD c.cond) (Qbv l)
def Qac(r:Qah):Qaf:=
 ⟨cC 0 r.clauses++⟨22,r.action,[]⟩::cF ((cC 0 r.clauses).length+1) r.funcs,QaC ((cC 0 r.clauses).length+1) r.funcs,r.funcs.map λf=>(f.params.length:Int),
  r.funcs.map (λf=>max (f.params.length:Int) (QaD f.body))++[Qbv r.clauses]⟩
def Qai(r:Qah):Qaf:=if Qat r=true then Qac r else QcK
structure StM where
 pc:Nat
 st:List Int
 vars:List Int
 calls:List (Nat × List Int)
 used:Nat
 o:QeD
 fin:Bool
def Qkw:QeD:=⟨0,[],0,0⟩
def StM.fail(s:StM)(e:Int):StM:={ s with o:=⟨0,[],0,e⟩,fin:=true }
def StM.go(s:StM)(n:Int):StM:={ s with pc:=n.toNat }
def StM.push(s:StM)(v:Int):StM:={ s with st:=v::s.st }
def Qbg(c:Qaf)(F:Qaj)(o:OpM)(s:StM):Option StM:=
 if o.code=0 then some (s.push o.n)
 else if o.code=1 then (if 0<=o.n/\o.n<(s.vars.length:Int) then some (s.push (s.vars.getD o.n.toNat 0)) else none)
 else if o.code=2 then
  match s.st with
  |v::l=>if 0<=o.n/\o.n<(s.vars.length:Int) then some { s with st:=l,vars:=s.vars.set o.n.toNat v } else none
  |[]=>none
 else if o.code=3 then some (s.push (QcM F o.name))
 else if o.code=4 then some (s.push (Qcm F.labels o.name))
 else if o.code=5 then some (s.push (QcZ F.words o.name))
 else if o.code=6\/o.code=7 then
  match s.st with
  |a::l=>some { s with st:=(if o.code=6 then clI (0-a) else Qcs (decide (a=0)))::l }
  |[]=>none
 else if o.code<=15/\8<=o.code then
  match s.st with
  |b::a::l=>some (match Qax o.code a b 0 with|.val v _=>{ s with st:=v::l }|.fault e _=>StM.fail { s with st:=l } e)
  |_=>none
 else if o.code=16 then some (s.go o.n)
 else if o.code=17 then
  match s.st with
  |v::l=>some (if v=0 then StM.go { s with st:=l } o.n else { s with st:=l })
  |[]=>none
 else if o.code=18 then
  match s.st with
  |v::l=>some (if v=1 then StM.go { s with st:=l } o.n else { s with st:=l })
  |[]=>none
 else if o.code=19 then
  if s.used=10000 then some (s.fail 14)
  else if s.calls.length=100 then some (StM.fail { s with used:=s.used+1 } 7)
  else
   let m:=(c.params.getD o.n.toNat 0).toNat
   if 0<=o.n/\o.n<(c.params.length:Int)/\o.n<(c.slots.length:Int)/\o.n<(c.starts.length:Int)/\m<=s.st.length/\(m:Int)<=c.slots.getD o.n.toNat 0 then
    some { s with pc:=(c.starts.getD o.n.toNat 0).toNat,st:=s.st.drop m,vars:=(s.st.take m).reverse++List.replicate ((c.slots.getD o.n.toNat 0).toNat-m) 0,calls:=(s.pc,s.vars)::s.calls,used:=s.used+1 }
   else none
 else if o.code=20 then
  match s.calls with
  |(q,vs)::l=>some { s with pc:=q,vars:=vs,calls:=l }
  |[]=>none
 else if o.code=21 then some (if s.used=10000 then s.fail 14 else { s with used:=s.used+1 })
 else if o.code=22 then some { s with o:=⟨o.n,o.name,0,0⟩,fin:=true }
 else none
def QbZ(c:Qaf)(F:Qaj)(s:StM):Option StM:=
 if s.fin=true then none
 else match c.ops[s.pc]? with
  |none=>none
  |some o=>Qbg c F o { s with pc:=s.pc+1 }
def Qaw(c:Qaf)(F:Qaj):Nat->StM->Option StM
 |0,s=>some s
 |k+1,s=>(QbZ c F s).bind (Qaw c F k)
def QbX(W:World)(p:Nat)(v:Value)(l:List Int):Prop:=Qan W (·<p) (λa c=>c=[Iv a]) l v
def Qgc(W:World)(p:Nat)(v:Value)(l:List OpM):Prop:=Qan W (·<p) (λ(a:OpM) c=>c=[Iv a.code,Iv a.n,.string (bs a.name)]) l v
def Qdq(W:World)(p:Nat)(v:Value)(l:List (By × Int)):Prop:=Qan W (·<p) (λa c=>c=[.string (bs a.1),Iv a.2]) l v
def QcB(W:World)(p:Nat)(v:Value)(l:List By):Prop:=Qan W (·<p) (λa c=>c=[Sv a]) l v
section
variable {W W':World} {p:Nat} {v:Value}
def QbX.up{l:List Int}(h:QbX W p v l)(hb:Below p W W'):QbX W' p v l:=Qan.keep (λb hP=>hb.block b hP) (λb hP=>hP) (λa c h=>h) h
def Qgc.up{l:List OpM}(h:Qgc W p v l)(hb:Below p W W'):Qgc W' p v l:=Qan.keep (λb hP=>hb.block b hP) (λb hP=>hP) (λa c h=>h) h
def Qdq.up{l:List (By × Int)}(h:Qdq W p v l)(hb:Below p W W'):Qdq W' p v l:=Qan.keep (λb hP=>hb.block b hP) (λb hP=>hP) (λa c h=>h) h
def QcB.up{l:List By}(h:QcB W p v l)(hb:Below p W W'):QcB W' p v l:=Qan.keep (λb hP=>hb.block b hP) (λb hP=>hP) (λa c h=>h) h
theorem QjH{P:Prop}(h:P:=by
  obtain⟨b,o,h4,h5,h6⟩:=h3 (List.ne_nil_of_mem (List.mem_of_getElem? hi));obtain⟨c,rfl,h10⟩:=h6 i a hi;have:=h10 0 _ rfl;rw[Nat.mul_one]at this
  exact⟨b,o,h4,h5,this⟩):P:=h
theorem Qhv{P:Prop}(h:P:=by
  obtain⟨ad,cc,h1,h2,h3⟩:=Qan.get (m:=1) (λa c h=>by rw[h];rfl) h;refine⟨ad,cc,h1,h2,λi a hi=>?_⟩
  exact QjH):P:=h
def QbX.get{l:List Int}(h:QbX W p v l):∃ad cc,v=.slice ad l.length cc/\l.length<=cc/\∀(i:Nat) (a:Int),l[i]?=some a->∃b o,ad=some ⟨b,o,none⟩/\b<p/\W.cell? ⟨b,o+i,none⟩=some (Iv a):=by
 exact Qhv
def QcB.get{l:List By}(h:QcB W p v l):∃ad cc,v=.slice ad l.length cc/\l.length<=cc/\∀(i:Nat) (a:By),l[i]?=some a->∃b o,ad=some ⟨b,o,none⟩/\b<p/\W.cell? ⟨b,o+i,none⟩=some (Sv a):=by
 exact Qhv
theorem QhP{P:Prop}(h:P:=by
  obtain⟨b,o,h4,h5,h6⟩:=h3 (List.ne_nil_of_mem (List.mem_of_getElem? hi));obtain⟨c,rfl,h10⟩:=h6 i a hi
  exact⟨b,o,h4,h5,h10 0 _ rfl,h10 1 _ rfl⟩):P:=h
def Qdq.get{l:List (By × Int)}(h:Qdq W p v l):∃ad cc,v=.slice ad l.length cc/\l.length<=cc/\∀(i:Nat) (a:By × Int),l[i]?=some a->∃b o,ad=some ⟨b,o,none⟩/\b<p/\W.cell? ⟨b,o+i*2,none⟩=some (.string (bs a.1))/\W.cell? ⟨b,o+i*2+1,none⟩=some (Iv a.2):=by
 obtain⟨ad,cc,h1,h2,h3⟩:=Qan.get (m:=2) (λa c h=>by rw[h];rfl) h;refine⟨ad,cc,h1,h2,λi a hi=>?_⟩;exact QhP
def Qgc.get{l:List OpM}(h:Qgc W p v l):∃ad cc,v=.slice ad l.length cc/\l.length<=cc/\∀(i:Nat) (a:OpM),l[i]?=some a->∃b o,ad=some ⟨b,o,none⟩/\b<p/\W.cell? ⟨b,o+i*3,none⟩=some (Iv a.code)/\W.cell? ⟨b,o+i*3+1,none⟩=some (Iv a.n)/\W.cell? ⟨b,o+i*3+2,none⟩=some (.string (bs a.name)):=by
 obtain⟨ad,cc,h1,h2,h3⟩:=Qan.get (m:=3) (λa c h=>by rw[h];rfl) h;refine⟨ad,cc,h1,h2,λi a hi=>?_⟩;obtain⟨b,o,h4,h5,h6⟩:=h3 (List.ne_nil_of_mem (List.mem_of_getElem? hi));obtain⟨c,rfl,h10⟩:=h6 i a hi;exact⟨b,o,h4,h5,h10 0 _ rfl,h10 1 _ rfl,h10 2 _ rfl⟩
end
def VU(r:Qah):QbP r.sigs=r.pa:=by
 unfold QbP Qah.sigs Qah.pa;rw[List.map_map];rfl
def KS{r:Qah}(h:Qat r=true):Qbq r=true/\Qbz r=true/\QbU [] r.funcs=true/\QgH r.clauses=true/\QdR r.action=true:=by
 unfold Qat at h;simp only[Bool.and_eq_true]at h;exact⟨h.1.2,h.2,h.1.1.1.1,h.1.1.1.2,h.1.1.2⟩
def YX{r:Qah}(h:Qbq r=true){f:FnM}(hf:f∈r.funcs):QaK (QbP r.sigs) f.params.length 40 f.body=true:=by
 unfold Qbq at h;simp only[Bool.and_eq_true,all_eq_true]at h;rw[VU];exact h.1 f hf
def YY{r:Qah}(h:Qbq r=true){c:ClM}(hc:c∈r.clauses):QaK (QbP r.sigs) 0 40 c.cond=true:=by
 unfold Qbq at h;simp only[Bool.and_eq_true,all_eq_true]at h;rw[VU];exact h.2 c hc
def JbI{r:Qah}(h:Qbz r=true){f:FnM}(hf:f∈r.funcs):ofN r.sigs f.params (utN f.body)=(f.result,[]):=by
 unfold Qbz at h;simp only[Bool.and_eq_true,all_eq_true,beq_iff_eq]at h;exact V9 (h.1 f hf)
def JbJ{r:Qah}(h:Qbz r=true){c:ClM}(hc:c∈r.clauses):ofN r.sigs [] (utN c.cond)=(1,[]):=by
 unfold Qbz at h;simp only[Bool.and_eq_true,all_eq_true,beq_iff_eq]at h;exact V9 (h.2 c hc)
def Jia{r:Qah}{i:Nat}{s:QaN}(h:r.sigs[i]?=some s):∃f,r.funcs[i]?=some f/\f∈r.funcs/\s.params=f.params/\s.result=f.result:=by
 unfold Qah.sigs at h;rw[List.getElem?_map]at h
 cases hf:r.funcs[i]? with
 |none=>rw[hf]at h;cases h
 |some f=>
  rw[hf]at h;injection h with h;subst h;exact⟨f,rfl,List.mem_of_getElem? hf,rfl,rfl⟩
def YB{r:Qah}{F:Qaj}(ht:Qbq r=true)(hy:Qbz r=true)(hF:QaF F=true):∀d,Qet r.sigs (Qcb r.funcs F d)
 |0=>λn args u f h0 hf ha hu=>by
  unfold Qcb;split
  ·rename_i h;exact⟨Nat.le_refl _,hu,.inr (.inr ⟨rfl,h⟩)⟩
  ·exact⟨by omega,by omega,.inr (.inl rfl)⟩
 |d+1=>λn args u s h0 hs ha hu=>by
  unfold Qcb;split
  ·rename_i h;exact⟨Nat.le_refl _,hu,.inr (.inr ⟨rfl,h⟩)⟩
  ·obtain⟨f,hf,hm,e1,e2⟩:=Jia hs;rw[List.getD_eq_getElem?_getD,hf,e2];rw[e1]at ha;exact(KA hF (YB ht hy hF d) f.body f.params args 40 (u+1) f.result (YX ht hm) (JbI hy hm) ha zo).le zo
def Jmp{r:Qah}{F:Qaj}(ht:Qbq r=true)(hy:Qbz r=true)(hF:QaF F=true){c:ClM}(hc:c∈r.clauses){u:Nat}(hu:u<=10000):Qev (VOk 1) u (evN (Qcb r.funcs F 100) F [] u c.cond):=
 KA hF (YB ht hy hF 100) c.cond [] [] 40 u 1 (YY ht hc) (JbJ hy hc) QdC.nil hu
end Go.Proofs.YtfafpklefknomaaGreatDoor
