/- The law answers true for all inputs; there are no conditions. -/
import Derived.SevenTiedAt
import Derived.ChangeVars
import Derived.ChangeMaps5
import Derived.JoinedOf
import Derived.JoinedAt
import Derived.RowKit
import Derived.RowKit3
import Derived.RowKitTokens
import Derived.SizedLaws
import Derived.Test.YtncanmdgdflnpaaGreatDoorCards
import Derived.Test.YtncanmdgdflnpaaGreatDoorTie
import Derived.Test.YtncanmdgdflnpaaGreatDoorL14
namespace Go.Proofs.YtncanmdgdflnpaaGreatDoor
open Go Go.Lib
open Go.ChangeShapes Go.WideShapes Go.ChangeAt Go.RowKit Go.Lib
open Go.ChangeShapes Go.WideShapes Go.RowKit Go.Deep
open Go.Joins
open _root_.Go.Proofs.Tryz
set_option linter.all false
set_option maxRecDepth 100000
set_option maxHeartbeats 32000000
theorem zL{P:Program}{ops:Array Oper}{Q:Exit->Act->World->Prop}{n:Nat}{l:Array Bool}{a:Act}{w:World}(h:Q .normal a w)(hr:Region.ready .any ops l=[]:=by kernel_rfl):wpAny P .any ops Q n l a w:=by
 cases n with
 |zero=>exact⟨hr,h⟩
 |succ n=>exact⟨λ_=>h,by rw[hr];simp⟩
def Qaj{ops:Array Oper}{tm:Array Value}{d:Option Tmp}{oo:Op}{ty:TypeId}{p:String}{af:Array Edge}{j t:Nat}{b:Bool}(e:tm[t]?.getD undef=.bool b)(hj:(ops[j]?).bind (·.dst)=some t):
  Region.wanted ⟨d,oo,ty,p,af,some (j,b)⟩ (yielded ops tm)=true:=by
 have h2:tm[t]?=some (.bool b):=by
  cases h:tm[t]? with
  |none=>rw[h]at e;exact absurd e (by unfold undef;simp)
  |some v=>rw[h]at e;simp at e;rw[e]
 simp[Region.wanted,yielded,hj,h2]
def Qhh(l:By)(F:Qav)(la wa:Option Addr)(lc wc:Nat)(w:World)(hl:l.length<=140737488355328)(hlab:Qbm w (.slice la F.labels.length lc) F.labels)(hwd:QaF w (.slice wa F.words.length wc) F.words)(hL:Laid w):
  Calls prog 3 #[Sv l,.agg (QaI F (.slice la F.labels.length lc) (.slice wa F.words.length wc))] w (Qfl w true):=by
 have z1:=JP l;unfold QaI;have hb1:Below w.heap.size w (w.alloc (.cells #[.slice la F.labels.length lc,Iv F.likes,Iv F.boosts,Iv F.replies,Iv F.reports,Iv F.age,Iv F.home,Iv F.scope,Iv F.length,.bool F.follows,.bool F.reply,.slice wa F.words.length wc] 25)):=zzb.alloc zzl _;have iA:Hi (Bel w (w.alloc (.cells #[.slice la F.labels.length lc,Iv F.likes,Iv F.boosts,Iv F.replies,Iv F.reports,Iv F.age,Iv F.home,Iv F.scope,Iv F.length,.bool F.follows,.bool F.reply,.slice wa F.words.length wc] 25))):=hb1;have HFB:=Zh (zzw w (.cells #[.slice la F.labels.length lc,Iv F.likes,Iv F.boosts,Iv F.replies,Iv F.reports,Iv F.age,Iv F.home,Iv F.scope,Iv F.length,.bool F.follows,.bool F.reply,.slice wa F.words.length wc] 25));have zA:=Zh hlab;have dA:=Zh hwd;have HL:=Zh hL;obtain⟨n,hn⟩:∃n,l.length=n:=⟨_,rfl⟩
 rw[hn]at z1 hl;have HN:=Zh hn;clear hb1 hlab hwd hL hn;go_enter func3,ntmps3;go_upto_region 1 with fail;have rA:=Zh (Jb HFB.o);generalize World.alloc w _=w1 at*;generalize w.heap.size=fb at*
 have FF:Hi (∀W,Below w1.heap.size w1 W->W.cell? ⟨fb,0,none⟩=some (.slice la F.labels.length lc)/\W.cell? ⟨fb,1,none⟩=some (Iv F.likes)/\W.cell? ⟨fb,2,none⟩=some (Iv F.boosts)/\W.cell? ⟨fb,3,none⟩=some (Iv F.replies)/\W.cell? ⟨fb,4,none⟩=some (Iv F.reports)/\W.cell? ⟨fb,5,none⟩=some (Iv F.age)/\W.cell? ⟨fb,6,none⟩=some (Iv F.home)/\W.cell? ⟨fb,7,none⟩=some (Iv F.scope)/\W.cell? ⟨fb,8,none⟩=some (Iv F.length)/\W.cell? ⟨fb,9,none⟩=some (.bool F.follows)/\W.cell? ⟨fb,10,none⟩=some (.bool F.reply)/\W.cell? ⟨fb,11,none⟩=some (.slice wa F.words.length wc)):=by
  intro W hW;have hf:=(hW.block _ rA.o).trans HFB.o;refine⟨?_,?_,?_,?_,?_,?_,?_,?_,?_,?_,?_,?_⟩<;>(rw[Ja hf];rfl)
 go_wp2_with fail;refine(Jgm w1 (HL.o.below iA.o)).mono ?_;rintro e w2 ⟨rfl,hb2⟩;have HX2:Hi (Below w1.heap.size w1 w2):=hb2;have cA:Hi (Bel w w2):=Je iA.o hb2;clear hb2 iA
 by_cases hn2:2000<n
 ·have d1:decide (2000<(n:Int))=true:=zE zo;have pA:decide (2000<n)=true:=zE hn2;clear hn2;go_wp2;go_ret;exact⟨rfl,cA.o⟩
 have d1:decide (2000<(n:Int))=false:=zF zo;have pA:decide (2000<n)=false:=zF hn2;clear hn2;have cp:=Qdf l w2 (by rw[HN.o];omega) (HL.o.below cA.o);have aA:Hi ((QcD l).2.1=0->RSz (QcD l).1):=λh=>parseM_rsz h
 obtain⟨⟨r,er,vB⟩,kA⟩:∃x,QcD l=x:=⟨_,rfl⟩
 rw[kA]at cp aA;dsimp only at aA;clear kA;go_wp2_with fail;refine cp.mono ?_;intro e u tA;obtain⟨c,rfl,hx,hb⟩:=tA.inw;dsimp only at hx;dsimp only;clear cp tA d1 pA;obtain⟨fa,fc,ca,cc,rfl,_,_⟩:=hx.parts;have hq:Below u.heap.size u (u.alloc (.cells #[.slice fa r.funcs.length fc,.slice ca r.clauses.length cc,Iv r.action] 30)):=zzb.alloc zzl _;have HX3:Hi (Below w1.heap.size w1 (u.alloc (.cells #[.slice fa r.funcs.length fc,.slice ca r.clauses.length cc,Iv r.action] 30))):=Je HX2.o (Je hb hq);have vA:Hi (Bel w (u.alloc (.cells #[.slice fa r.funcs.length fc,.slice ca r.clauses.length cc,Iv r.action] 30))):=Je cA.o (Je hb hq);have eA:=Zh (zzw u (.cells #[.slice fa r.funcs.length fc,.slice ca r.clauses.length cc,Iv r.action] 30));have uA:=Zh (hx.up hq);clear hx hb hq HX2 cA;go_upto_region 5 with fail;have nA:=Zh (Jb eA.o);generalize World.alloc u _=v at*;generalize u.heap.size=rb at*
 have FR:Hi (∀W,Below v.heap.size v W->W.cell? ⟨rb,0,none⟩=some (.slice fa r.funcs.length fc)/\W.cell? ⟨rb,1,none⟩=some (.slice ca r.clauses.length cc)/\W.cell? ⟨rb,2,none⟩=some (Iv r.action)):=by
  intro W hW;have hf:=(hW.block _ nA.o).trans eA.o;refine⟨?_,?_,?_⟩<;>(rw[Ja hf];rfl)
 by_cases her:er=0
 ·subst her;have qA:=aA.o rfl;have HZ:=Zh qA;clear qA aA;obtain⟨b0,b1,b2,b3,b4,b5,b6,b7,b8,b9,b10,b11⟩:=FF.o _ HX3.o;obtain⟨r0,r1,r2⟩:=FR.o _ zzb;have cl:=Jgn r F _ la wa lc wc v uA.o ⟨HZ.o.len.1,HZ.o.len.2.1,HZ.o.len.2.2⟩;unfold QaI at cl;go_wp2_with fail;refine cl.mono ?_;rintro e v2 ⟨rfl,hb⟩;have yA:Hi (Below v.heap.size v v2):=hb;clear cl hb b0 b1 b2 b3 b4 b5 b6 b7 b8 b9 b10 b11 r0 r1 r2
  cases hli:Qdn r F with
  |false=>
   have HFIN:Hi (Bel w v2):=Je vA.o yA.o;clear hli;go_wp2;go_ret;exact⟨rfl,HFIN.o⟩
  |true=>
  have gA:=Zh (JhV hli);clear hli;have xA:Bel w v2:=Je vA.o yA.o;have cr:=λW (hW:Bel v2 W)=>V4 r F _ (.slice la F.labels.length lc) (.slice wa F.words.length wc) W ((uA.o.up yA.o).up hW) HZ.o gA.o ((zA.o.up xA).up hW) ((dA.o.up xA).up hW)
  have cg:=λW (hW:Bel v2 W)=>QgV r F _ (.slice la F.labels.length lc) (.slice wa F.words.length wc) W ((uA.o.up yA.o).up hW) HZ.o gA.o ((zA.o.up xA).up hW) ((dA.o.up xA).up hW)
  unfold QaI QkP at cr cg;obtain⟨Z,mA⟩:∃x,QiT r F=x:=⟨_,rfl⟩
  rw[mA]at cr cg;have HCR:=Zh cr;have HCG:=Zh cg;have HF2:Hi (∀W,Bel v2 W->_):=λW hW=>FF.o W (Je HX3.o (Je yA.o hW))
  have jA:Hi (∀W,Bel v2 W->_):=λW hW=>FR.o W (Je yA.o hW)
  have HBW:Hi (Bel w v2):=xA;clear mA cr cg xA FF FR HX3 yA uA zA dA HZ gA vA HL HN HFB rA eA nA;go_upto_region 7 with fail;refine JdU 11 [] (λi=>RK.rel (match i with|0=>.const (.bool true)|1=>.const (.bool true)|2=>.const (.agg #[.slice fa r.funcs.length fc,.slice ca r.clauses.length cc,Iv r.action])|3=>.const (.agg #[.slice la F.labels.length lc,Iv F.likes,Iv F.boosts,Iv F.replies,Iv F.reports,Iv F.age,Iv F.home,Iv F.scope,Iv F.length,.bool F.follows,.bool F.reply,.slice wa F.words.length wc])|4=>.const (.agg (QfU Z))|5=>.const (.agg #[.slice fa r.funcs.length fc,.slice ca r.clauses.length cc,Iv r.action])|6=>.const (.agg #[.slice la F.labels.length lc,Iv F.likes,Iv F.boosts,Iv F.replies,Iv F.reports,Iv F.age,Iv F.home,Iv F.scope,Iv F.length,.bool F.follows,.bool F.reply,.slice wa F.words.length wc])|7=>.const (.agg (QfU Z))|8=>.const (.bool true)|9=>.const (.bool true)|10=>.const (.bool true)|_=>.const undef)) (λW=>Bel v2 W) zzb.drew zd (λ_ _ h hb=>Je h hb) (λi v P P1 w w1=>RK.keep _ v P P1 w w1) (QkH (n:=11) ?_) ?_
  ·refine⟨⟨⟨⟨⟨⟨⟨⟨⟨⟨⟨trivial,?_⟩,?_⟩,?_⟩,?_⟩,?_⟩,?_⟩,?_⟩,?_⟩,?_⟩,?_⟩,?_⟩
   ·refine Qcm.of 0 rfl λa0 w0 Pr hb hP hn hd ho K hK=>?_
    have o5:a0.tmps[5]?.getD undef=.bool true:=ho 5 zk;go_simp;exact hK.out _ _ zzb (λ_ _ _=>rfl) λh=>absurd h zd
   ·refine Qcm.of 1 rfl λa0 w0 Pr hb hP hn hd ho K hK=>?_
    obtain⟨v0,rfl,e0⟩:=hd 0 29 zk rfl;go_simp;exact hK.out _ _ zzb (λ_ _ _=>rfl) λh=>absurd h zd
   ·refine Qcm.of 2 rfl λa0 w0 Pr hb hP hn hd ho K hK=>?_
    obtain⟨v1,rfl,e1⟩:=hd 1 30 zk rfl;rw[if_pos (Qaj e1 zk)];have o6:a0.tmps[6]?.getD undef=Pt rb:=ho 6 zk;obtain⟨r0,r1,r2⟩:=jA.o _ hb;go_simp;exact hK.out _ _ zzb (λ_ _ _=>rfl) λh=>absurd h zd
   ·refine Qcm.of 3 rfl λa0 w0 Pr hb hP hn hd ho K hK=>?_
    obtain⟨v1,rfl,e1⟩:=hd 1 30 zk rfl;rw[if_pos (Qaj e1 zk)];have o3:a0.tmps[3]?.getD undef=Pt fb:=ho 3 zk;obtain⟨b0,b1,b2,b3,b4,b5,b6,b7,b8,b9,b10,b11⟩:=HF2.o _ hb;go_simp;exact hK.out _ _ zzb (λ_ _ _=>rfl) λh=>absurd h zd
   ·refine Qcm.of 4 rfl λa0 w0 Pr hb hP hn hd ho K hK=>?_
    obtain⟨v1,rfl,e1⟩:=hd 1 30 zk rfl;rw[if_pos (Qaj e1 zk)];obtain⟨v2,rfl,e2⟩:=hd 2 31 zk rfl;obtain⟨v3,rfl,e3⟩:=hd 3 32 zk rfl;have cr:=HCR.o _ hb;go_simp;go_at_call 13;refine cr.mono ?_;rintro e w9 ⟨rfl,hA⟩;exact hK.out _ _ hA (λ_ _ _=>rfl) λh=>absurd h zd
   ·refine Qcm.of 5 rfl λa0 w0 Pr hb hP hn hd ho K hK=>?_
    obtain⟨v1,rfl,e1⟩:=hd 1 30 zk rfl;rw[if_pos (Qaj e1 zk)];have o6:a0.tmps[6]?.getD undef=Pt rb:=ho 6 zk;obtain⟨r0,r1,r2⟩:=jA.o _ hb;go_simp;exact hK.out _ _ zzb (λ_ _ _=>rfl) λh=>absurd h zd
   ·refine Qcm.of 6 rfl λa0 w0 Pr hb hP hn hd ho K hK=>?_
    obtain⟨v1,rfl,e1⟩:=hd 1 30 zk rfl;rw[if_pos (Qaj e1 zk)];have o3:a0.tmps[3]?.getD undef=Pt fb:=ho 3 zk;obtain⟨b0,b1,b2,b3,b4,b5,b6,b7,b8,b9,b10,b11⟩:=HF2.o _ hb;go_simp;exact hK.out _ _ zzb (λ_ _ _=>rfl) λh=>absurd h zd
   ·refine Qcm.of 7 rfl λa0 w0 Pr hb hP hn hd ho K hK=>?_
    obtain⟨v1,rfl,e1⟩:=hd 1 30 zk rfl;rw[if_pos (Qaj e1 zk)];obtain⟨v5,rfl,e5⟩:=hd 5 34 zk rfl;obtain⟨v6,rfl,e6⟩:=hd 6 35 zk rfl;have cr:=HCG.o _ hb;go_simp;go_at_call 14;refine cr.mono ?_;rintro e w9 ⟨rfl,hA⟩;exact hK.out _ _ hA (λ_ _ _=>rfl) λh=>absurd h zd
   ·refine Qcm.of 8 rfl λa0 w0 Pr hb hP hn hd ho K hK=>?_
    obtain⟨v1,rfl,e1⟩:=hd 1 30 zk rfl;rw[if_pos (Qaj e1 zk)];obtain⟨v4,rfl,e4⟩:=hd 4 33 zk rfl;obtain⟨v7,rfl,e7⟩:=hd 7 36 zk rfl;have qn:∀W,(binOp .eql 36 (.agg (QfU Z)) (.agg (QfU Z))).run prog W=.ok (.bool true) W:=λW=>by rw[JjE];simp
    go_simp;exact hK.out _ _ zzb (λ_ _ _=>rfl) λh=>absurd h zd
   ·refine Qcm.of 9 rfl λa0 w0 Pr hb hP hn hd ho K hK=>?_
    obtain⟨v1,rfl,e1⟩:=hd 1 30 zk rfl;obtain⟨v8,rfl,e8⟩:=hd 8 37 zk rfl;go_simp;exact hK.out _ _ zzb (λ_ _ _=>rfl) λh=>absurd h zd
   ·refine Qcm.of 10 rfl λa0 w0 Pr hb hP hn hd ho K hK=>?_
    obtain⟨v9,rfl,e9⟩:=hd 9 38 zk rfl;go_simp;exact hK.out _ _ zzb (λ_ _ _=>rfl) λh=>absurd h zd
  intro n9 vs v9 zB bA yB xB sA;have e9:vs 10=_:=sA 10 zd;have bA:Bel v2 v9:=bA;rw[show Qcf _ 11 vs=[(29,vs 0),(30,vs 1),(31,vs 2),(32,vs 3),(33,vs 4),(34,vs 5),(35,vs 6),(36,vs 7),(37,vs 8),(38,vs 9),(4,vs 10)] from rfl];simp only[Qdv,e9,List.setIfInBounds_toArray,List.set_cons_zero,List.set_cons_succ];have HFIN:Hi (Bel w v9):=Je HBW.o bA;clear zB bA yB xB sA e9 HCR HCG HF2 jA HBW;generalize vs 0=x0;generalize vs 1=x1;generalize vs 2=x2;generalize vs 3=x3;generalize vs 4=x4;generalize vs 5=x5;generalize vs 6=x6;generalize vs 7=x7;generalize vs 8=x8;generalize vs 9=x9;clear vs;refine zL ?_;go_wp2;go_ret;exact⟨rfl,HFIN.o⟩
 ·have e0:(er==0)=false:=zzq her;have uB:(er !=0)=true:=by rw[bne,e0];rfl
  clear her;go_wp2;go_ret;exact⟨rfl,vA.o⟩
open Go.ChangeMaps (open_string shut_string)
section
variable {H:Type}{enc:TypeId×Value->H}{P:Program}
def Qfa(hl:laidOutB P=true){W W':World}{sp:Nat->Bool}(hb:Below W.heap.size W W'):
  ∀(ts:List TypeId)(vs:List Value)(ds:List (DataW H))(ps:List MemPlace),(∀t,t∈ts->P.readableRec t=true/\t<P.types.size)->
   DataW.TrodAll enc P W 0 (λ_=>true) true ts vs ds ps->(∀x,x∈ps->x.block<W.heap.size)->(∀x,x∈ps->sp x.block=true)->
   DataW.TrodAll enc P W' 0 sp true ts vs ds ps:=by
 intro ts
 induction ts with
 |nil=>
  intro vs ds ps _ h _ _;obtain⟨rfl,rfl,rfl⟩:=trodAll_nil h;exact trodAll_mk0
 |cons t ts ih=>
  intro vs ds ps xA h hlt yA;obtain⟨v,zA,d,uA,p,q,rfl,rfl,rfl,h1,h2⟩:=trodAll_cons h;obtain⟨hr,hrow⟩:=xA t zp;refine trodAll_cons_mk (WideElems.Trod_stays hl hr hrow h1 (λx hx=>hb.same (hlt x (by simp[hx]))) λx hx=>yA x (by simp[hx])) ?_;exact ih _ _ _ (λt ht=>xA t (by simp[ht])) h2 (λx hx=>hlt x (by simp[hx])) λx hx=>yA x (by simp[hx])
def Qfd{f:Func}{s:ChangeSpec}{apart fresh handsOn again:Bool}{W W':World}{args:Array Value}{v:Value}{ds gs:List (DataW H)}{before pa pv:List MemPlace}
  (hW:DataW.Whole enc P f.params.toList s.vars apart W args.toList ds gs before)
  (hres:∀(b:Nat)(sp:Nat->Bool)(hd:Bool),DataW.TrodAll enc P W' b sp hd f.resultTypes.toList (v.resultList f.resultTypes.size) (s.fn H (ds++gs)).results [])
  (hargs:∀sp:Nat->Bool,(∀p∈before,sp p.block=true)->DataW.TrodAll enc P W' 0 sp true f.params.toList args.toList (s.fn H (ds++gs)).args pa)
  (hvars:∀sp:Nat->Bool,(∀p∈before,sp p.block=true)->DataW.TrodVars enc P W' sp s.vars (s.fn H (ds++gs)).vars pv)
  (hps:before=pa++pv) (hb:Below W.heap.size W W')
  (hok:∀(j:Nat)(t:TypeId)(r:Value),f.resultTypes[j]?=some t->(v.resultList f.resultTypes.size)[j]?=some r->Value.okWide P W' .any 0 t r):
  s.post enc P f apart fresh handsOn again W args v W':=by
 have hlt:∀p∈before,p.block<W.heap.size:=λp hp=>hW.lt p hp
 have xA:∀p∈before,(λb=>decide (b<W.heap.size)) p.block=true:=λp hp=>by simpa using hlt p hp
 refine⟨ds,gs,before,[],pa,pv,hW,hres _ _ _,hargs _ xA,hvars _ xA,World.keptBut_mono (λp hp=>⟨hp,?_⟩) (hb.frame (·∈before)),λ_=>?_⟩
 ·rw[hps,List.mem_append]at hp;exact Or.inr hp
 ·obtain⟨_,_,_,_,_,hz,hn⟩:=hW;refine⟨hok,_,_,([]++pa)++pv,⟨[]++pa,pv,trodAll_append (hargs _ λ_ _=>rfl) (hres _ _ _),hvars _ λ_ _=>rfl,rfl,?_,?_⟩,?_⟩
  ·intro b off hp;have yA:MemPlace.cell b off∈before:=by rw[hps];simpa using hp
   rw[hb.frozen (hlt _ yA)];exact hz b off yA
  ·intro ha;have:=hn ha;rw[hps]at this;simpa using this
  ·intro p hp _;rw[hps];simpa using hp
def QgN{f:Func}{s:ChangeSpec}{apart fresh handsOn again:Bool}{W W':World}{args:Array Value}{ds gs:List (DataW H)}{before:List MemPlace}{tb:TypeId}
  (hl:laidOutB P=true) (hts:f.params.toList.all (λt=>P.readableRec t&&decide (t<P.types.size))=true) (hr:f.resultTypes=#[tb]) (hb:P.underlying tb=some .bool)
  (hvars:s.vars=[]) (hW:DataW.Whole enc P f.params.toList s.vars apart W args.toList ds gs before)
  (hfn:s.fn H (ds++gs)={results:=[.lit (.bool true)],args:=ds}) (hB:Below W.heap.size W W'):s.post enc P f apart fresh handsOn again W args (.bool true) W':=by
 have hlt:∀p∈before,p.block<W.heap.size:=λp hp=>hW.lt p hp
 have xA:=hW;obtain⟨p,q,hA,hV,rfl,hz,hn⟩:=xA;rw[hvars]at hV;obtain⟨rfl,rfl⟩:=trodVars_none hV;refine Qfd (pa:=p) (pv:=[]) hW ?_ ?_ ?_ rfl hB ?_
 ·intro b sp hd;rw[hfn,hr];exact trodAll_mk1 (shut_bool hb _)
 ·intro sp yA;rw[hfn]
  have h2:∀t,t∈f.params.toList->P.readableRec t=true/\t<P.types.size:=by
   intro t ht;have:=List.all_eq_true.1 hts t ht;simpa using this
  exact Qfa hl hB _ _ _ _ h2 hA (λx hx=>hlt x (by simp[hx])) λx hx=>yA x (by simp[hx])
 ·intro sp _;rw[hfn,hvars];exact rfl
 ·intro j t r h1 h2;rw[hr]at h1 h2
  cases j with
  |zero=>
   simp[Value.resultList]at h1 h2;subst h1;subst h2;exact okWide_bool_mk hb _
  |succ j=>simp at h1
end
def Qff(os:Os)(started:os.Started)(H:Type)(enc:TypeId×Value->H):
  ReturnsInHanded {} Tryz.checked os 3 .any (λw args=>(Rows.meanTellsSpec.pre enc prog f3 Rows.meanTellsRow.domain false w args/\laidMet prog Qbr w)/\sizedMet enc prog f3 (OpenSpec.ofChange Rows.meanTellsSpec) false w args)
   (Rows.meanTellsSpec.post enc prog f3 false true false false):=by
 refine returnsInHanded_of_change_and (C:=Tryz.checked) (X:=λw _=>laidMet prog Qbr w) (λ_ _ _ hh h=>h.of_heap hh) own started zk func3
  (ChangeSpec.witness_at (enc:=enc) (C:=Tryz.checked) (os:=os) (X:=λw _=>laidMet prog Qbr w) false (Qet os) #[Em,.agg (QaI ⟨[],0,0,0,0,0,0,0,0,false,false,[]⟩ Nl Nl)] 8 rfl zk zk zk zk zk (ZO os _)) ?_
 intro W base args ds gs before vA hW _ zA hL _;have hsz:(DataW.weightsEach prog (f3.params.toList++Rows.meanTellsSpec.plain.varTypes prog) (ds++gs)).all (·<=reachBytes)=true:=zA;clear zA;have xA:∀(j:Nat) t v,f3.params[j]?=some t->args[j]?=some v->Value.okWide prog W .any base t v:=vA;have jA:=hW;obtain⟨p,q,cA,hV,rfl,_,_⟩:=hW;have hA:DataW.TrodAll enc prog W 0 (λ_=>true) true f3.params.toList args.toList ds p:=cA;rw[params3]at hA xA hsz;obtain⟨v0,qA,d0,mA,p0,q0,bA,rfl,rfl,h0,r0⟩:=trodAll_cons hA;obtain⟨v1,kA,d1,pA,p1,q1,rfl,rfl,rfl,h1,r1⟩:=trodAll_cons r0;obtain⟨rfl,rfl,rfl⟩:=trodAll_nil r1;obtain rfl:args=#[v0,v1]:=by cases args;simp_all
 obtain⟨rfl,rfl⟩:=trodVars_none hV;obtain⟨s0,rfl,rfl,rfl,nA⟩:=open_string underlying9 (xA 0 9 v0 rfl rfl) h0
 have yA:s0.size<=140737488355328:=by
  have h1:=sized_string hsz (j:=0) (t:=9) rfl rfl;have h2:=reachBytes_lt;have e1:s0.size=s0.data.size:=rfl;have e2:s0.data.toList.length=s0.data.size:=Array.length_toList;have e3:(2:Nat) ^ 47=140737488355328:=zd
  omega
 obtain⟨a0,rfl⟩:=Jeq s0;obtain⟨F1,iA,gA,dA,eA,rfl,uA,aA⟩:=ZG (xA 1 25 v1 rfl rfl) h1;refine(Qhh a0 F1 iA gA dA eA W (by rw[JP]at yA;omega) uA aA (Jim hL)).mono λe W' hp=>?_
 obtain⟨rfl,hB⟩:=hp;exact⟨_,rfl,QgN Qis zk rfl underlying4 rfl jA rfl hB⟩
def Qhr:Rows.MeanTellsSaid:=
 OpenClaim.holds_of_wide 3 f3 rfl rfl rfl rfl rfl rfl rfl ⟨rfl,rfl,rfl,rfl,rfl⟩ rfl rfl rfl rfl rfl zk func3 zk
  (of_decide_eq_true zk) (by unfold Func.isWrapper;first|(rw[if_pos (by decide +kernel)];kernel_rfl)|(rw[if_neg (by decide +kernel)];exact⟨rfl,rfl⟩))
  (λos started H enc _=>Qff os started H enc)
theorem mtells_holds:Rows.MeanTellsCardSaid:=
 Claim7.holds_tied_plain_at .later [] [.data,.data,.data,.sentinel,.sentinel] true (true,"8508d1e88098ee844df6fc1fdda0b9b90048e061b3d5640b8ec64b0f9ee913ba") true
  Qhr (λ_ h=>by cases h) zk (λ_ h=>by cases h) meanTells_row_tie rfl ⟨rfl,rfl⟩ zk rfl
  (λf fn hf hfn=>by
   obtain rfl:f=3:=Option.some.inj ((show prog.funcNamed "agora/agoralaw32.MeanTells"=some 3 by kernel_rfl).symm.trans hf) |>.symm;obtain rfl:fn=f3:=(Option.some.inj (func3.symm.trans hfn)).symm
   exact⟨by kernel_rfl,λj t ht=>by
    rw[params3]at ht
    have h3:t=9\/t=25:=by
     match j with
     |0=>simp at ht;subst ht;decide
     |1=>simp at ht;subst ht;decide
     |(j+2)=>simp at ht
    rcases h3 with h3|h3<;>subst h3
    ·exact(show prog.wantsStandIn 9=false by kernel_rfl)
    ·exact(show prog.wantsStandIn 25=false by kernel_rfl)⟩)
  zk
#print axioms mtells_holds
end Go.Proofs.YtncanmdgdflnpaaGreatDoor

