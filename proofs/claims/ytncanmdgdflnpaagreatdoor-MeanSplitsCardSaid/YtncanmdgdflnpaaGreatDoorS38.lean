
import Derived.Test.YtncanmdgdflnpaaGreatDoorS37
namespace Go.Proofs.YtncanmdgdflnpaaGreatDoor
open Go.ChangeShapes Go.WideShapes Go.ChangeAt Go.RowKit Go.Lib
open _root_.Go.Proofs.Tryz
set_option linter.all false
set_option maxRecDepth 100000
set_option maxHeartbeats 32000000
mutual
def leftN:Nat→Int→Exp→Int
 | d,n,.mk _ _ _ l=>leftL d (n-1) l
def leftL:Nat→Int→List Exp→Int
 | d,n,[]=>if n<0 then -1 else n
 | d,n,a::l=>if n<0 then -1 else match d with | 0=>-1 | d+1=>leftL (d+1) (leftN d n a) l
end
def leftK (d:Nat) (n:Int) (a:Exp) (l:List Exp):Int:=match d with | 0=>-1 | d+1=>leftL (d+1) (leftN d n a) l
theorem JaZ (d:Nat) (n:Int):leftL d n []=if n<0 then -1 else n:=by
 conv=>lhs; unfold leftL
theorem VW (d:Nat) (n:Int) (a:Exp) (l:List Exp):leftL d n (a::l)=if n<0 then -1 else leftK d n a l:=by
 conv=>lhs; unfold leftL
 rfl
theorem VI (d:Nat) {n:Int} (h:n<0):∀ l,leftL d n l = -1
 | []=>by rw[JaZ,if_pos h]
 | a::l=>by rw[VW,if_pos h]
mutual
theorem Yl:∀ (e:Exp) (d:Nat) (n:Int),-1≤leftN d n e∧(0≤n→leftN d n e≤n-1)
 | .mk k m s l,d,n=>by
  rw[leftN];obtain ⟨h1,h2⟩:=JcC l d (n-1);refine ⟨h1,fun h=>?_⟩
  by_cases h0:0≤n-1
  ·exact h2 h0
  ·rw[VI d (by omega) l];omega
theorem JcC:∀ (l:List Exp) (d:Nat) (n:Int),-1≤leftL d n l∧(0≤n→leftL d n l≤n)
 | [],d,n=>by
  rw[JaZ];split
  ·exact ⟨by omega,fun h=>by omega⟩
  ·exact ⟨by omega,fun h=>by omega⟩
 | a::l,d,n=>by
  rw[VW];split
  ·exact ⟨by omega,fun h=>by omega⟩
  ·cases d with
   | zero=>exact ⟨by simp[leftK],fun h=>by simp[leftK]; omega⟩
   | succ d=>
    show -1≤leftL (d+1) (leftN d n a) l∧(0≤n→leftL (d+1) (leftN d n a) l≤n)
    obtain ⟨h1,h2⟩:=Yl a d n;obtain ⟨h3,h4⟩:=JcC l (d+1) (leftN d n a);refine ⟨h3,fun h=>?_⟩
    by_cases h0:0≤leftN d n a
    ·have:=h4 h0; have:=h2 h; omega
    ·rw[VI (d+1) (by omega) l]; omega
end
def lightF:Int→List FnM→Int
 | n,[]=>n
 | n,f::l=>if n<0 then n else lightF (leftN 60 (n-f.params.length) f.body) l
def lightC:Int→List ClM→Int
 | n,[]=>n
 | n,c::l=>if n<0 then n else lightC (leftN 60 n c.cond) l
def lightM (r:RuleM) (F:FactsM):Bool:=decide (0≤lightC (lightF 300 r.funcs) r.clauses)&&decide (F.labels.length≤100)&&decide (F.words.length≤100)
theorem JgV {r:RuleM} {F:FactsM} (h:lightM r F=true):FSz F:=by
 unfold lightM at h;simp only[Bool.and_eq_true,decide_eq_true_eq] at h;exact ⟨by omega,by omega⟩
theorem sx134 {P:Prop}(h:P:=by
  subst hq1;clear hq hm hbw hi hg hm0;go_wp2;go_ret
  exact ⟨rfl,HFIN.out⟩):P:=h
theorem Jba (d:Nat) (IH:∀ d',d=d'+1→∀ (e:Exp) (c:Array Value) (n:Int) (W:World),XAt W (In W) e c→-9223372036854775807≤n→n≤1000000→Calls prog 39 #[.agg c,.int .i64 n,.int .i64 d'] W (BelP W (.int .i64 (leftN d' n e))))
  (hd:d≤60) (k nn:Int) (s:List UInt8) (l:List Exp) (ad:Option Addr) (cc:Nat) (n:Int) (w:World) (hK:KidsX w ad l) (h1:-9223372036854775807≤n) (h2:n≤1000000) :
  Calls prog 39 #[.agg #[.int .i64 k,.int .i64 nn,.string (bs s),.slice ad l.length cc],.int .i64 n,.int .i64 d] w (BelP w (.int .i64 (leftN d n (.mk k nn s l)))):=by
 obtain ⟨q,hq⟩:∃ q,leftN d n (.mk k nn s l)=q:=⟨_,rfl⟩
 rw[hq];rw[leftN] at hq;have HQ:Hid (leftL d (n-1) (l.drop 0)=q):=hq;have hb1:Below w.heap.size w (w.alloc (.cells #[.int .i64 k,.int .i64 nn,.string (bs s),.slice ad l.length cc] 50)):=(Below.refl _ _).alloc (Nat.le_refl _) _;have HCP:=Zh (heap_alloc_new w (.cells #[.int .i64 k,.int .i64 nn,.string (bs s),.slice ad l.length cc] 50));have HKX:Hid (∀ W,Below (w.alloc (.cells #[.int .i64 k,.int .i64 nn,.string (bs s),.slice ad l.length cc] 50)).heap.size (w.alloc (.cells #[.int .i64 k,.int .i64 nn,.string (bs s),.slice ad l.length cc] 50)) W→Bel w W):=fun W hW=>Ji hb1 hW
 have HKD:=Zh hK;have HIH:=Zh IH;have wn:IntKind.i64.wrap (n-1)=n-1:=IntWalk.i64_in _ (by omega);have HN0:Hid ((0:Int)+(n-1)≤1000000∧-9223372036854775808≤n-1):=by unfold Hid; omega
 clear hq hb1 hK IH h1 h2;go_enter func39,ntmps39;go_upto_region 1 with fail;have HEB:Hid (w.heap.size<(w.alloc (.cells #[.int .i64 k,.int .i64 nn,.string (bs s),.slice ad l.length cc] 50)).heap.size):=Jb HCP.out;generalize World.alloc w _=w1 at *;generalize w.heap.size=eb at *
 have FF:Hid (∀ W,Below w1.heap.size w1 W→W.cell? ⟨eb,3,none⟩=some (.slice ad l.length cc)):=by
  intro W hW;have hh:=(hW.block _ HEB.out).trans HCP.out;rw[Ja hh]; rfl
 have HW0:Hid (Below w1.heap.size w1 w1):=Below.refl _ _;go_wp2_with fail;clear wn;go_loopg [1,7] l.length (fun g v1 v7 wr=>∃ (i:Nat) (m:Int),g+i=l.length∧v1=.int .i64 m∧v7=.int .i64 i∧Hid (Below w1.heap.size w1 wr)∧Hid ((i:Int)+m≤1000000∧-9223372036854775808≤m)∧Hid (leftL d m (l.drop i)=q))
 case atStart=>exact ⟨0,n-1,rfl,rfl,rfl,HW0,HN0,HQ⟩
 case round=>
 clear HW0 HN0 HQ;obtain ⟨wl,rfl⟩:∃ wl:World,wl=wr:=⟨_,rfl⟩
 obtain ⟨i,m,hg,rfl,rfl,hbw,hm,hq⟩:=hrel;have b3:=FF.out _ hbw.out;have HFIN:Hid (Bel w wl):=HKX.out _ hbw.out
 by_cases hi:i<l.length
 ·have hil:(i:Int)<(l.length:Int):=by omega
  have dil:decide ((i:Int)<(l.length:Int))=true:=decide_eq_true hil
  by_cases hm0:0≤m
  ·have dm:decide (0≤m)=true:=decide_eq_true hm0
   have hdr:leftL d m (l.drop i)=leftK d m l[i] (l.drop (i+1)):=by
    rw[List.drop_eq_getElem_cons hi,VW,if_neg (by omega)]
   rw[hdr] at hq;have wk:IntKind.i64.wrap ((i:Int)+1)=(i:Int)+1:=IntWalk.i64_in _ (by have:=hm.out; omega)
   cases d with
   | zero=>
    have hq1:q = -1:=hq.out.symm;subst hq1;clear hq hm hbw hdr hi hg;go_wp2;go_ret;exact ⟨rfl,HFIN.out⟩
   | succ d=>
    obtain ⟨y,hy⟩:∃ y,l[i]?=some y:=⟨l[i],List.getElem?_eq_getElem hi⟩
    have hye:l[i]=y:=(List.getElem?_eq_some_iff.1 hy).2;rw[hye] at hq;have hq2:leftL (d+1) (leftN d m y) (l.drop (i+1))=q:=hq.out;obtain ⟨b,o,da,dc,had,hxy,c0,c1,c2,c3⟩:=HKD.out.at' (HKX.out _ hbw.out) hy;have ed:(((d+1:Nat):Int)==0)=false:=beq_eq_false_iff_ne.2 (by omega);have wd:IntKind.i64.wrap (((d+1:Nat):Int)-1)=(d:Int):=by rw[IntWalk.i64_in _ (by omega)]; omega
    have ci:=HIH.out d rfl y _ m wl hxy (by omega) (by have:=hm.out; omega);obtain ⟨h3,h4⟩:=Yl y d m;have hb4:=h4 hm0;have HM2:Hid (((i+1:Nat):Int)+leftN d m y≤1000000∧-9223372036854775808≤leftN d m y):=by have:=hm.out; unfold Hid; omega
    have HQ2:=Zh hq2;have HBW:=Zh hbw.out;have HG:=Zh hg;have HHI:=Zh hi;generalize leftN d m y=m2 at *;subst had;rw[Int.natCast_add,Int.natCast_one] at ed wd;clear h3 h4 hb4 hq hq2 hm hbw hdr hi hg hye hy hxy;go_wp2_with fail;refine ci.mono ?_;rintro e w7 ⟨rfl,hb7⟩;have HB7:=Zh (Ji HBW.out hb7);clear ci hb7 b3 c0 c1 c2 c3 ed wd;go_wp2;go_roundg (l.length-(i+1))
    case measure=>have:=HG.out; have:=HHI.out; omega
    case rel=>exact ⟨i+1,m2,by have:=HHI.out; omega,rfl,by go_num,HB7,HM2,HQ2⟩
  ·have dm:decide (0≤m)=false:=decide_eq_false hm0;have dm2:decide (m<0)=true:=decide_eq_true (by omega);have hq1:q = -1:=by rw[← hq.out,VI d (by omega)]
   exact sx134
 ·have hil:¬ (i:Int)<(l.length:Int):=by omega
  have dil:decide ((i:Int)<(l.length:Int))=false:=decide_eq_false hil;have hq1:q=if m<0 then -1 else m:=by rw[← hq.out,List.drop_of_length_le (by omega),leftL]
  by_cases hm0:m<0
  ·have dm:decide (m<0)=true:=decide_eq_true hm0;rw[if_pos hm0] at hq1;exact sx134
  ·have dm:decide (m<0)=false:=decide_eq_false hm0;rw[if_neg hm0] at hq1;exact sx134
theorem Z9:∀ d:Nat,d≤60→∀ (e:Exp) (c:Array Value) (n:Int) (W:World),XAt W (In W) e c→-9223372036854775807≤n→n≤1000000→Calls prog 39 #[.agg c,.int .i64 n,.int .i64 d] W (BelP W (.int .i64 (leftN d n e)))
 | 0,hd,.mk k nn s l,c,n,W,hx,h1,h2=>by
  obtain ⟨ad,cc,rfl,_,hK⟩:=hx.kids;exact Jba 0 (fun d' h=>by omega) hd k nn s l ad cc n W hK h1 h2
 | d+1,hd,.mk k nn s l,c,n,W,hx,h1,h2=>by
  obtain ⟨ad,cc,rfl,_,hK⟩:=hx.kids;refine Jba (d+1) (fun d' h=>?_) hd k nn s l ad cc n W hK h1 h2;obtain rfl:d=d':=by omega
  exact Z9 d (by omega)
structure RLen (r:RuleM):Prop where
 nf:r.funcs.length≤9223372036854775807
 nc:r.clauses.length≤9223372036854775807
 np:∀ f∈r.funcs,f.params.length≤9223372036854775807
theorem Jdt {n:Int} (h:n<0) (l:List FnM):lightF n l=n:=by
 cases l with
 | nil=>rfl
 | cons a l=>rw[lightF,if_pos h]
theorem Jdu {n:Int} (h:n<0) (l:List ClM):lightC n l=n:=by
 cases l with
 | nil=>rfl
 | cons a l=>rw[lightC,if_pos h]
theorem sx106 {P:Prop}(h:P:=by
  rw[dwN] at hqv;subst hqv
  rcases hcond with ⟨c1,c2⟩ | c1
  all_goals first
   | (exfalso; rw[d0] at c2; cases c2)
   | (clear h0 hl1 hw1; go_wp2; go_ret; exact ⟨rfl,HFIN.out⟩)):P:=h
theorem sx10 {P:Prop}(h:P:=by
  go_loopg [5,7] r.clauses.length (fun g v5 v7 wr=>∃ (j:Nat) (n:Int),g+j=r.clauses.length∧v5=.int .i64 n∧v7=.int .i64 j∧Hid (Below w1.heap.size w1 wr)∧Hid ((j:Int)+n≤300∧-1≤n)∧Hid (lightC n (r.clauses.drop j)=L))
  case atStart=>exact ⟨0,m,rfl,rfl,rfl,HBW,HM1,HQF⟩
  case round=>
  clear HBW HM1 HQF;obtain ⟨wm,rfl⟩:∃ wm:World,wm=wr:=⟨_,rfl⟩
  obtain ⟨j,n,hg,rfl,rfl,hbw,hm,hq⟩:=hrel
  by_cases hi:j<r.clauses.length∧0≤n
  ·obtain ⟨hi,hm0⟩:=hi;have hil:(j:Int)<(r.clauses.length:Int):=by omega
   have dil:decide ((j:Int)<(r.clauses.length:Int))=true:=decide_eq_true hil;have dm:decide (0≤n)=true:=decide_eq_true hm0;obtain ⟨f,hf⟩:∃ f,r.clauses[j]?=some f:=⟨r.clauses[j],List.getElem?_eq_getElem hi⟩
   have hfe:r.clauses[j]=f:=(List.getElem?_eq_some_iff.1 hf).2;have hXf:=HCX.out.up (HKX.out _ hbw.out);obtain ⟨b,o,da,dc,hfa,hfc⟩:=hXf.get hf;have hq2:=hq.out;rw[List.drop_eq_getElem_cons hi,hfe,lightC,if_neg (by omega)] at hq2;have hle:=(Yl f.cond 60 n)
   have HM2:Hid (((j+1:Nat):Int)+leftN 60 n f.cond≤300∧-1≤leftN 60 n f.cond):=by
    have:=hm.out;have:=hle.2 hm0;exact ⟨by omega,hle.1⟩
   have wk:IntKind.i64.wrap ((j:Int)+1)=(j:Int)+1:=IntWalk.i64_in _ (by have:=hm.out; omega);have cl:=Z9 60 (by decide) f.cond _ n wm hfc.cond (by omega) (by have:=hm.out; omega);generalize leftN 60 n f.cond=m2 at *;have HQ2:=Zh hq2;have HBW:=Zh hbw.out;have HG:=Zh hg;have HHI:=Zh hi;have c0:=hfc.c0;have c1:=hfc.c1;have c2:=hfc.c2;have c3:=hfc.c3;obtain ⟨b0,b1,b2,b3⟩:=FF.out _ hbw.out;rw[show ((60:Nat):Int)=60 from rfl] at cl;subst hfa;clear hle hq hq2 hm hbw hi hg hf hfe hXf hfc hm0;go_wp2_with fail;refine cl.mono ?_;rintro e w7 ⟨rfl,hb7⟩;have HB7:=Zh (Ji HBW.out hb7);clear cl hb7 b0 b1 b2 b3 c0 c1 c2 c3;go_wp2;go_roundg (r.clauses.length-(j+1))
   case measure=>have:=HG.out; have:=HHI.out; omega
   case rel=>exact ⟨j+1,m2,by have:=HHI.out; omega,rfl,by go_num,HB7,HM2,HQ2⟩
  have hnL:n=L:=by
   by_cases h0:n<0
   ·have:=hq.out;rw[Jdu h0] at this;exact this
   ·have hi2:r.clauses.length≤j:=by omega
    have:=hq.out;rw[List.drop_of_length_le hi2] at this;exact this
  subst hnL;obtain ⟨b0,b1,b2,b3⟩:=FF.out _ hbw.out;have HFIN:Hid (Bel w wm):=HKX.out _ hbw.out
  have hcond:((j:Int)<(r.clauses.length:Int)∧decide (0≤n)=false)∨¬ (j:Int)<(r.clauses.length:Int):=by
   by_cases h0:j<r.clauses.length
   ·exact .inl ⟨by omega,decide_eq_false (by omega)⟩
   ·exact .inr (by omega)
  have hqv:q=(decide (0≤n)&&decide (F.labels.length≤100)&&decide (F.words.length≤100)):=by
   rw[← HQ.out];unfold lightM;rw[HLE.out]
  clear hq hm hbw hi hg
  by_cases h0:0≤n
  ·have d0:decide (0≤n)=true:=decide_eq_true h0;rw[d0,Bool.true_and] at hqv
   by_cases hl1:F.labels.length≤100
   ·have dl:decide ((F.labels.length:Int)≤100)=true:=decide_eq_true (by omega);have dlN:decide (F.labels.length≤100)=true:=decide_eq_true hl1;rw[dlN,Bool.true_and] at hqv
    by_cases hw1:F.words.length≤100
    ·have dw:decide ((F.words.length:Int)≤100)=true:=decide_eq_true (by omega);have dwN:decide (F.words.length≤100)=true:=decide_eq_true hw1;exact sx106
    ·have dw:decide ((F.words.length:Int)≤100)=false:=decide_eq_false (by omega);have dwN:decide (F.words.length≤100)=false:=decide_eq_false hw1;exact sx106
   ·have dl:decide ((F.labels.length:Int)≤100)=false:=decide_eq_false (by omega);have dlN:decide (F.labels.length≤100)=false:=decide_eq_false hl1;rw[dlN,Bool.false_and] at hqv;subst hqv
    rcases hcond with ⟨c1,c2⟩ | c1
    all_goals first
     | (exfalso; rw[d0] at c2; cases c2)
     | (clear h0 hl1; go_wp2; go_ret; exact ⟨rfl,HFIN.out⟩)
  ·have d0:decide (0≤n)=false:=decide_eq_false h0;rw[d0] at hqv;simp only[Bool.false_and] at hqv;subst hqv
   rcases hcond with ⟨c1,c2⟩ | c1
   all_goals (clear h0; go_wp2; go_ret; exact ⟨rfl,HFIN.out⟩)):P:=h
theorem Jft (r:RuleM) (F:FactsM) (c:Array Value) (la wa:Option Addr) (lc wc:Nat) (w:World) (hx:RuleX w (In w) r c) (hz:RLen r) :
  Calls prog 12 #[.agg c,.agg (factsC F (.slice la F.labels.length lc) (.slice wa F.words.length wc))] w (BelP w (.bool (lightM r F))):=by
 obtain ⟨fa,fc,ca,cc,rfl,hF,hC⟩:=hx.parts;obtain ⟨q,hq⟩:∃ q,lightM r F=q:=⟨_,rfl⟩
 rw[hq];obtain ⟨L,hLL⟩:∃ L,lightC (lightF 300 r.funcs) r.clauses=L:=⟨_,rfl⟩
 have HQ:Hid (lightM r F=q):=hq;have HL:Hid (lightC (lightF 300 (r.funcs.drop 0)) r.clauses=L):=hLL;have HLE:=Zh hLL;unfold factsC;have hbA:Below w.heap.size w ((w.alloc (.cells #[.slice fa r.funcs.length fc,.slice ca r.clauses.length cc,.int .i64 r.action] 30)).alloc (.cells #[.slice la F.labels.length lc,.int .i64 F.likes,.int .i64 F.boosts,.int .i64 F.replies,.int .i64 F.reports,.int .i64 F.age,.int .i64 F.home,.int .i64 F.scope,.int .i64 F.length,.bool F.follows,.bool F.reply,.slice wa F.words.length wc] 25)):=((Below.refl _ _).alloc (Nat.le_refl _) _).alloc (by simp) _;have HKX:Hid (∀ W,Below ((w.alloc (.cells #[.slice fa r.funcs.length fc,.slice ca r.clauses.length cc,.int .i64 r.action] 30)).alloc (.cells #[.slice la F.labels.length lc,.int .i64 F.likes,.int .i64 F.boosts,.int .i64 F.replies,.int .i64 F.reports,.int .i64 F.age,.int .i64 F.home,.int .i64 F.scope,.int .i64 F.length,.bool F.follows,.bool F.reply,.slice wa F.words.length wc] 25)).heap.size ((w.alloc (.cells #[.slice fa r.funcs.length fc,.slice ca r.clauses.length cc,.int .i64 r.action] 30)).alloc (.cells #[.slice la F.labels.length lc,.int .i64 F.likes,.int .i64 F.boosts,.int .i64 F.replies,.int .i64 F.reports,.int .i64 F.age,.int .i64 F.home,.int .i64 F.scope,.int .i64 F.length,.bool F.follows,.bool F.reply,.slice wa F.words.length wc] 25)) W→Bel w W):=fun W hW=>Ji hbA hW
 have HRB:Hid (((w.alloc (.cells #[.slice fa r.funcs.length fc,.slice ca r.clauses.length cc,.int .i64 r.action] 30)).alloc (.cells #[.slice la F.labels.length lc,.int .i64 F.likes,.int .i64 F.boosts,.int .i64 F.replies,.int .i64 F.reports,.int .i64 F.age,.int .i64 F.home,.int .i64 F.scope,.int .i64 F.length,.bool F.follows,.bool F.reply,.slice wa F.words.length wc] 25)).heap[w.heap.size]?=some (.cells #[.slice fa r.funcs.length fc,.slice ca r.clauses.length cc,.int .i64 r.action] 30 (0,0))):=Jh (heap_alloc_new _ _)
 have HFB:Hid (((w.alloc (.cells #[.slice fa r.funcs.length fc,.slice ca r.clauses.length cc,.int .i64 r.action] 30)).alloc (.cells #[.slice la F.labels.length lc,.int .i64 F.likes,.int .i64 F.boosts,.int .i64 F.replies,.int .i64 F.reports,.int .i64 F.age,.int .i64 F.home,.int .i64 F.scope,.int .i64 F.length,.bool F.follows,.bool F.reply,.slice wa F.words.length wc] 25)).heap[w.heap.size+1]?=some (.cells #[.slice la F.labels.length lc,.int .i64 F.likes,.int .i64 F.boosts,.int .i64 F.replies,.int .i64 F.reports,.int .i64 F.age,.int .i64 F.home,.int .i64 F.scope,.int .i64 F.length,.bool F.follows,.bool F.reply,.slice wa F.words.length wc] 25 (0,0))):=by
  have e1:=heap_alloc_new (w.alloc (.cells #[.slice fa r.funcs.length fc,.slice ca r.clauses.length cc,.int .i64 r.action] 30)) (.cells #[.slice la F.labels.length lc,.int .i64 F.likes,.int .i64 F.boosts,.int .i64 F.replies,.int .i64 F.reports,.int .i64 F.age,.int .i64 F.home,.int .i64 F.scope,.int .i64 F.length,.bool F.follows,.bool F.reply,.slice wa F.words.length wc] 25);simp only[World.size_alloc] at e1;exact e1
 have HNB:Hid (w.heap.size<((w.alloc (.cells #[.slice fa r.funcs.length fc,.slice ca r.clauses.length cc,.int .i64 r.action] 30)).alloc (.cells #[.slice la F.labels.length lc,.int .i64 F.likes,.int .i64 F.boosts,.int .i64 F.replies,.int .i64 F.reports,.int .i64 F.age,.int .i64 F.home,.int .i64 F.scope,.int .i64 F.length,.bool F.follows,.bool F.reply,.slice wa F.words.length wc] 25)).heap.size∧w.heap.size+1<((w.alloc (.cells #[.slice fa r.funcs.length fc,.slice ca r.clauses.length cc,.int .i64 r.action] 30)).alloc (.cells #[.slice la F.labels.length lc,.int .i64 F.likes,.int .i64 F.boosts,.int .i64 F.replies,.int .i64 F.reports,.int .i64 F.age,.int .i64 F.home,.int .i64 F.scope,.int .i64 F.length,.bool F.follows,.bool F.reply,.slice wa F.words.length wc] 25)).heap.size):=by unfold Hid; simp only[World.size_alloc]; omega
 have HFX:=Zh hF;have HCX:=Zh hC;have HZ:=Zh hz;have hnf:=hz.nf;have hnc:=hz.nc;clear hbA hx hF hC hz hq hLL;go_enter func12,ntmps12;go_upto_region 1 with fail;generalize World.alloc (World.alloc w _) _=w1 at *;generalize w.heap.size+1=fb at *;generalize w.heap.size=eb at *
 have FF:Hid (∀ W,Below w1.heap.size w1 W→W.cell? ⟨eb,0,none⟩=some (.slice fa r.funcs.length fc)∧W.cell? ⟨eb,1,none⟩=some (.slice ca r.clauses.length cc)∧W.cell? ⟨fb,0,none⟩=some (.slice la F.labels.length lc)∧W.cell? ⟨fb,11,none⟩=some (.slice wa F.words.length wc)):=by
  intro W hW;have hr:=(hW.block _ HNB.out.1).trans HRB.out;have hf:=(hW.block _ HNB.out.2).trans HFB.out;refine ⟨?_,?_,?_,?_⟩
  ·rw[Ja hr]; rfl
  ·rw[Ja hr]; rfl
  ·rw[Ja hf]; rfl
  ·rw[Ja hf]; rfl
 have HW0:Hid (Below w1.heap.size w1 w1):=Below.refl _ _;go_wp2_with fail;go_loopg [5,6] r.funcs.length (fun g v5 v6 wr=>∃ (i:Nat) (m:Int),g+i=r.funcs.length∧v5=.int .i64 m∧v6=.int .i64 i∧Hid (Below w1.heap.size w1 wr)∧Hid ((i:Int)+m≤300∧-1≤m)∧Hid (lightC (lightF m (r.funcs.drop i)) r.clauses=L))
 case atStart=>exact ⟨0,300,rfl,rfl,rfl,HW0,by unfold Hid; omega,HL⟩
 case round=>
 clear HW0 HL;obtain ⟨wl,rfl⟩:∃ wl:World,wl=wr:=⟨_,rfl⟩
 obtain ⟨i,m,hg,rfl,rfl,hbw,hm,hq⟩:=hrel
 by_cases hi:i<r.funcs.length∧0≤m
 ·obtain ⟨hi,hm0⟩:=hi;have hil:(i:Int)<(r.funcs.length:Int):=by omega
  have dil:decide ((i:Int)<(r.funcs.length:Int))=true:=decide_eq_true hil;have dm:decide (0≤m)=true:=decide_eq_true hm0;obtain ⟨f,hf⟩:∃ f,r.funcs[i]?=some f:=⟨r.funcs[i],List.getElem?_eq_getElem hi⟩
  have hmem:=List.mem_of_getElem? hf;have hfe:r.funcs[i]=f:=(List.getElem?_eq_some_iff.1 hf).2;have hXf:=HFX.out.up (HKX.out _ hbw.out);obtain ⟨b,o,pa,pc,da,dc,hfa,hfc⟩:=hXf.get hf;have hnp:=HZ.out.np f hmem;have hq2:=hq.out;rw[List.drop_eq_getElem_cons hi,hfe,lightF,if_neg (by omega)] at hq2;have hle:=(Yl f.body 60 (m-f.params.length))
  have HM2:Hid (((i+1:Nat):Int)+leftN 60 (m-f.params.length) f.body≤300∧-1≤leftN 60 (m-f.params.length) f.body):=by
   have:=hm.out;refine ⟨?_,hle.1⟩
   by_cases h0:0≤m-f.params.length
   ·have:=hle.2 h0; omega
   ·have h5:leftN 60 (m-f.params.length) f.body = -1:=by
     generalize f.body=e at *;obtain ⟨k,n,s,l⟩:=e;rw[leftN,VI 60 (by omega)]
    omega
  have wk:IntKind.i64.wrap ((i:Int)+1)=(i:Int)+1:=IntWalk.i64_in _ (by have:=hm.out; omega);have wm:IntKind.i64.wrap (m-(f.params.length:Int))=m-(f.params.length:Int):=IntWalk.i64_in _ (by have:=hm.out; omega);have cl:=fun W (hW:Below wl.heap.size wl W)=>Z9 60 (by decide) f.body _ (m-f.params.length) W (hfc.body.up hW) (by omega) (by have:=hm.out; omega)
  generalize leftN 60 (m-f.params.length) f.body=m2 at *;have HQ2:=Zh hq2;have HBW:=Zh hbw.out;have HG:=Zh hg;have HHI:=Zh hi
  have F3:Hid (∀ W,Below wl.heap.size wl W→W.cell? ⟨eb,0,none⟩=some (.slice (some ⟨b,o,none⟩) r.funcs.length fc)∧W.cell? ⟨b,o+i*7+1,none⟩=some (.slice pa f.params.length pc)∧W.cell? ⟨b,o+i*7+3,none⟩=some (.int .i64 f.body.kind)∧W.cell? ⟨b,o+i*7+4,none⟩=some (.int .i64 f.body.num)∧W.cell? ⟨b,o+i*7+5,none⟩=some (.string (bs f.body.name))∧W.cell? ⟨b,o+i*7+6,none⟩=some (.slice da f.body.kids.length dc)):=by
   intro W hW;obtain ⟨q0,q1,q2,q3⟩:=FF.out _ (Ji hbw.out hW);have hk:∀ j u,wl.cell? ⟨b,o+i*7+j,none⟩=some u→W.cell? ⟨b,o+i*7+j,none⟩=some u:=fun j u hu=>(hW.cell (p:=⟨b,o+i*7+j,none⟩) hfc.blt).trans hu
   rw[hfa] at q0;exact ⟨q0,hk 1 _ hfc.c1,hk 3 _ hfc.c3,hk 4 _ hfc.c4,hk 5 _ hfc.c5,hk 6 _ hfc.c6⟩
  obtain ⟨b0,_,_,_⟩:=FF.out _ hbw.out;have HCL:=Zh cl;rw[show ((60:Nat):Int)=60 from rfl] at HCL;subst hfa;clear hle hq hq2 hm hbw hi hg hf hmem hfe hXf hfc hnp hm0 cl;go_upto_region 5 with fail;clear b0;refine wp_region_held_drew (S:=(fun W=>Below wl.heap.size wl W∧W.cell? ⟨eb,0,none⟩=some (.slice (some ⟨b,o,none⟩) r.funcs.length fc)∧W.cell? ⟨b,o+i*7+1,none⟩=some (.slice pa f.params.length pc)∧W.cell? ⟨b,o+i*7+3,none⟩=some (.int .i64 f.body.kind)∧W.cell? ⟨b,o+i*7+4,none⟩=some (.int .i64 f.body.num)∧W.cell? ⟨b,o+i*7+5,none⟩=some (.string (bs f.body.name))∧W.cell? ⟨b,o+i*7+6,none⟩=some (.slice da f.body.kids.length dc))) (by kernel_rfl) (⟨(Below.refl wl.heap.size wl).drew,F3.out _ (Below.refl wl.heap.size wl).drew⟩) (fun hH=>?_);refine ZT (i:=0) (v:=?vQ0) rfl (Or.inl ⟨by rfl,?yQ0⟩) ?_
  case yQ0=>exact ZyQ
  try simp only[Act.put,ZA,ZB,ZC]
  refine ZT (i:=1) (v:=?vQ1) rfl (Or.inl ⟨by rfl,?yQ1⟩) ?_
  case yQ1=>exact ZyQ
  try simp only[Act.put,ZA,ZB,ZC]
  refine ZT (i:=2) (v:=?vQ2) rfl (Or.inl ⟨by rfl,?yQ2⟩) ?_
  case yQ2=>exact ZyQ
  try simp only[Act.put,ZA,ZB,ZC]
  refine ZT (i:=3) (v:=?vQ3) rfl (Or.inl ⟨by rfl,?yQ3⟩) ?_
  case yQ3=>exact ZyQ
  try simp only[Act.put,ZA,ZB,ZC]
  refine ZT (i:=4) (v:=?vQ4) rfl (Or.inl ⟨by rfl,?yQ4⟩) ?_
  case yQ4=>exact ZyQ
  try simp only[Act.put,ZA,ZB,ZC]
  refine ZT (i:=5) (v:=?vQ5) rfl (Or.inl ⟨by rfl,?yQ5⟩) ?_
  case yQ5=>exact ZyQ
  try simp only[Act.put,ZA,ZB,ZC]
  refine ZT (i:=6) (v:=?vQ6) rfl (Or.inl ⟨by rfl,?yQ6⟩) ?_
  case yQ6=>exact ZyQ
  try simp only[Act.put,ZA,ZB,ZC]
  refine ZT (i:=7) (v:=?vQ7) rfl (Or.inl ⟨by rfl,?yQ7⟩) ?_
  case yQ7=>exact ZyQ
  try simp only[Act.put,ZA,ZB,ZC]
  refine ZT (i:=8) (v:=?vQ8) rfl (Or.inl ⟨by rfl,?yQ8⟩) ?_
  case yQ8=>exact ZyQ
  try simp only[Act.put,ZA,ZB,ZC]
  refine ZT (i:=9) (v:=?vQ9) rfl (Or.inl ⟨by rfl,?yQ9⟩) ?_
  case yQ9=>exact ZyQ
  try simp only[Act.put,ZA,ZB,ZC]
  refine ZT (i:=10) (v:=?vQ10) rfl (Or.inl ⟨by rfl,?yQ10⟩) ?_
  case yQ10=>exact ZyQ
  try simp only[Act.put,ZA,ZB,ZC]
  refine ZT (i:=11) (v:=?vQ11) rfl (Or.inl ⟨by rfl,?yQ11⟩) ?_
  case yQ11=>exact ZyQ
  try simp only[Act.put,ZA,ZB,ZC]
  refine ZT (i:=12) (v:=?vQ12) rfl (Or.inl ⟨by rfl,?yQ12⟩) ?_
  case yQ12=>exact ZyQ
  try simp only[Act.put,ZA,ZB,ZC]
  refine ZT (i:=13) (v:=?vQ13) rfl (Or.inl ⟨by rfl,?yQ13⟩) ?_
  case yQ13=>exact ZyQ
  try simp only[Act.put,ZA,ZB,ZC]
  refine ZT (i:=14) (v:=?vQ14) rfl (Or.inl ⟨by rfl,?yQ14⟩) ?_
  case yQ14=>exact ZyQ
  try simp only[Act.put,ZA,ZB,ZC]
  refine ZS 15 rfl (fun K hK=>?_)
  (go_simp; go_at_call 39; refine (HCL.out _ ((Below.refl wl.heap.size wl).drew)).mono ?_; rintro e wc0 ⟨rfl,hbc0⟩)
  refine hK.out _ _ (⟨((Below.refl wl.heap.size wl).drew).trans (hbc0.mono ((Below.refl wl.heap.size wl).drew).size),F3.out _ (((Below.refl wl.heap.size wl).drew).trans (hbc0.mono ((Below.refl wl.heap.size wl).drew).size))⟩) (fun hH=>?_);clear hK K
  try simp only[Act.put,ZA,ZB,ZC]
  refine ZT (i:=16) (v:=?vQ16) rfl (Or.inl ⟨by rfl,?yQ16⟩) ?_
  case yQ16=>exact ZyQ
  try simp only[Act.put,ZA,ZB,ZC]
  refine wpAnyH_done (by kernel_rfl) ?_ _;have HB7:=Zh (Ji HBW.out hH.1);clear hH;go_wp2;go_roundg (r.funcs.length-(i+1))
  case measure=>have:=HG.out; have:=HHI.out; omega
  case rel=>exact ⟨i+1,m2,by have:=HHI.out; omega,rfl,by go_num,HB7,HM2,HQ2⟩
 have hqF:lightC m r.clauses=L:=by
  by_cases h0:m<0
  ·have:=hq.out;rw[Jdt h0] at this;exact this
  ·have hi2:r.funcs.length≤i:=by omega
   have:=hq.out;rw[List.drop_of_length_le hi2] at this;exact this
 obtain ⟨b0,b1,b2,b3⟩:=FF.out _ hbw.out;have HBW:=Zh hbw.out;have HM1:Hid ((0:Int)+m≤300∧-1≤m):=by have:=hm.out; unfold Hid; omega
 have HQF:Hid (lightC m (r.clauses.drop 0)=L):=hqF
 have hcond:((i:Int)<(r.funcs.length:Int)∧decide (0≤m)=false)∨¬ (i:Int)<(r.funcs.length:Int):=by
  by_cases h0:i<r.funcs.length
  ·exact .inl ⟨by omega,decide_eq_false (by omega)⟩
  ·exact .inr (by omega)
 clear hq hm hbw hi hg hqF
 rcases hcond with ⟨d1,d2⟩ | d1
 ·go_wp2_with fail;clear b0 b1 b2 b3 d1;clear d2;exact sx10
 ·go_wp2_with fail;clear b0 b1 b2 b3 d1;exact sx10
end Go.Proofs.YtncanmdgdflnpaaGreatDoor
namespace Go.Proofs.YtncanmdgdflnpaaGreatDoor
open _root_.Go.Proofs.Tryz
set_option linter.all false
set_option maxRecDepth 100000
set_option maxHeartbeats 32000000
mutual
theorem Jfu:∀ (a:Nd),siz (utN (treeN a))=siz a
 | .mk k n s o l=>by rw[treeN,utN,JA,JA,Jfv l]
theorem Jfv:∀ (l:List Nd),sizL (utL (treeL l))=sizL l
 | []=>by rw[treeL,utL]
 | a::l=>by rw[treeL,utL,Jy,Jy,Jfu a,Jfv l]
end
mutual
theorem Jix:∀ (a:Nd),WfN a→NmN (treeN a)
 | .mk k n s o l,h=>by
  rw[KU] at h;rw[treeN];unfold NmN;exact ⟨by omega,Jhg l h.2.2.2.2⟩
theorem Jhg:∀ (l:List Nd),WfL l→NmL (treeL l)
 | [],h=>by rw[treeL]; unfold NmL; trivial
 | a::l,h=>by
  rw[JL] at h;rw[treeL];unfold NmL;exact ⟨Jix a h.1,Jhg l h.2⟩
end
theorem Jfw:RSz noRule:=⟨by decide,by decide,by simp[noRule],by simp[noRule]⟩
theorem JgW {l:List UInt8} {T:List Tok} {at':Int} (h:scanR l=(T,0,at')):Tk T:=by
 unfold scanR at h;split at h
 ·simp at h
 ·cases hs:sc 0 l with
  | err k=>rw[hs] at h; simp at h
  | ok ts=>
   rw[hs] at h;simp at h;obtain ⟨rfl,rfl⟩:=h;exact JiZ _ _ _ hs
theorem Jfx {s:Src} (hb:SrcB s) (hp:∀ x∈s.funcs,FnPr x) (hc:∀ x∈s.clauses,ClPr x) (he:least (resolveM s).2=none):RSz (ruleOf (resolveM s).1):=by
 obtain ⟨h1,h2,h3,h4⟩:=Zg (m:=8194) (fun f hf=>⟨(hb.f f hf).1,(hb.f f hf).2.1,(hb.f f hf).2.2.1,(hb.f f hf).2.2.2⟩) (fun c hc=>hb.c c hc) he;have n1:=hb.nf;have n2:=hb.nc;unfold ruleOf;refine ⟨by simp only[List.length_map]; omega,by simp only[List.length_map]; omega,fun f hf=>?_,fun c hc'=>?_⟩
 ·simp only[List.mem_map] at hf;obtain ⟨g,hg,rfl⟩:=hf;obtain ⟨q1,q2,q3,_⟩:=h1 g hg
  have hname:g.name.1.length≤1000000:=by
   unfold resolveM at hg;simp only[List.mem_map] at hg;obtain ⟨_,⟨x,hx,rfl⟩,rfl⟩:=hg;exact (hb.f x hx).1.2
  exact ⟨by dsimp only; omega,by dsimp only; omega,Jix _ q1,by dsimp only; rw[Jfu]; omega⟩
 ·simp only[List.mem_map] at hc';obtain ⟨g,hg,rfl⟩:=hc';obtain ⟨q1,q2,_⟩:=h2 g hg
  have hr:textB g.reason=true:=by
   unfold resolveM at hg;simp only[List.mem_map] at hg;obtain ⟨_,⟨x,hx,rfl⟩,rfl⟩:=hg;exact (hc x hx).reason
  unfold textB at hr;simp only[Bool.and_eq_true,decide_eq_true_eq] at hr;have hr2:=hr.2;exact ⟨Jix _ q1,by dsimp only; rw[Jfu]; omega,by dsimp only; omega⟩
theorem Jbb {l:List UInt8} (h:(parseM l).2.1=0):rightM (parseM l).1=true∧RSz (parseM l).1:=by
 unfold parseM at h ⊢;split
 ·rename_i h0;rw[if_pos h0] at h;have hsc:scanR l=((scanR l).1,0,(scanR l).2.2):=by rw[← h0]
  obtain ⟨_,hT,htx,hT0,hfin⟩:=JaF hsc;have htk:=JgW hsc;generalize (scanR l).1=T at *;generalize 12*(T.length+1)=f at *
  cases hp:parseT f T with
  | none=>exact ⟨JaQ,Jfw⟩
  | some x=>
   rw[hp] at h;simp only[Option.getD_some] at h ⊢;obtain ⟨r,er,a⟩:=x;obtain rfl:er=0:=h;refine ⟨JaR htk hp,?_⟩
   cases hs:srcP f T with
   | out=>unfold parseT at hp; rw[hs] at hp; cases hp
   | bad o=>unfold parseT at hp; rw[hs] at hp; simp at hp
   | ok s r'=>
    rw[Zi hs] at hp;unfold contM at hp
    cases hl:limitM s with
    | some o=>rw[hl] at hp; simp at hp
    | none=>
     rw[hl] at hp;simp only at hp
     cases hr:least (resolveM s).2 with
     | some o=>rw[hr] at hp; simp at hp
     | none=>
      rw[hr] at hp;simp only at hp
      cases hc:least (checkM (resolveM s).1) with
      | some o=>rw[hc] at hp; simp at hp
      | none=>
       rw[hc] at hp;simp only[Option.some.injEq,Prod.mk.injEq] at hp;rw[← hp.1];obtain ⟨g1,g2,_⟩:=Jfb htk hs;exact Jfx (JiR hs hT htx) g1 g2 hr
 ·rename_i h0;rw[if_neg h0] at h;exact absurd h h0
theorem RSz.len {r:RuleM} (h:RSz r):r.funcs.length≤9223372036854775807∧r.clauses.length≤9223372036854775807∧∀ f∈r.funcs,f.params.length≤9223372036854775807:=
 ⟨by have:=h.nf; omega,by have:=h.nc; omega,fun f hf=>by have:=(h.fn f hf).2.1; omega⟩
def shR {α:Type} (d:Nat):RN α→RN α
 | .val v u=>if u+d≤10000 then .val v (u+d) else .fault 14 10000
 | .fault e u=>if u+d≤10000 then .fault e (u+d) else .fault 14 10000
def Mono {α:Type} (u:Nat):RN α→Prop
 | .val _ u'=>u≤u'
 | .fault _ u'=>u≤u'
theorem Mono.le {α:Type} {x:RN α} {u v:Nat} (h:Mono v x) (hu:u≤v):Mono u x:=by
 cases x with
 | val a b=>exact Nat.le_trans hu h
 | fault a b=>exact Nat.le_trans hu h
theorem JbM {α:Type} {x:RN α} {u d:Nat} (h:Mono u x) (hb:10000<u+d):shR d x=.fault 14 10000:=by
 cases x with
 | val a b=>exact if_neg (by have:u≤b:=h; omega)
 | fault a b=>exact if_neg (by have:u≤b:=h; omega)
theorem Ku {α β:Type} {x:RN α} {f:α→Nat→RN β} {u:Nat} (h:Mono u x) (hf:∀ v u',Mono u' (f v u')):Mono u (x.bind f):=by
 cases x with
 | val a b=>exact (hf a b).le h
 | fault a b=>exact h
theorem Ki {α β:Type} {x:RN α} {f:α→Nat→RN β} {d:Nat} (hf:∀ v u',Mono u' (f v u')) (hs:∀ v u',u'+d≤10000→f v (u'+d)=shR d (f v u')):(shR d x).bind f=shR d (x.bind f):=by
 cases x with
 | val a b=>
  show (if b+d≤10000 then (RN.val a (b+d)) else .fault 14 10000).bind f=shR d (f a b)
  by_cases h:b+d≤10000
  ·rw[if_pos h];exact hs a b h
  ·rw[if_neg h,JbM (hf a b) (by omega)];rfl
 | fault a b=>
  show (if b+d≤10000 then (RN.fault a (b+d)) else .fault 14 10000).bind f=if b+d≤10000 then (RN.fault a (b+d)) else .fault 14 10000
  by_cases h:b+d≤10000
  ·rw[if_pos h,if_pos h]; rfl
  ·rw[if_neg h,if_neg h]; rfl
theorem JJ {α:Type} (d:Nat) (v:α) {u:Nat} (h:u+d≤10000):RN.val v (u+d)=shR d (.val v u):=(if_pos h).symm
theorem VJ {α:Type} (d:Nat) (e:Int) {u:Nat} (h:u+d≤10000):(RN.fault e (u+d):RN α)=shR d (.fault e u):=(if_pos h).symm
theorem Zs (k a b:Int) (u:Nat):Mono u (operI k a b u):=by
 unfold operI
 repeat' split
 all_goals exact Nat.le_refl _
theorem JbN (k a b:Int) (d:Nat) {u:Nat} (h:u+d≤10000):operI k a b (u+d)=shR d (operI k a b u):=by
 unfold operI
 repeat' split
 all_goals first | exact JJ d _ h | exact VJ d _ h
section
variable {call:Int→List Int→Nat→RN Int} (F:FactsM)
mutual
theorem JZ (hc:∀ n a u,Mono u (call n a u)):∀ (e:Exp) (vars:List Int) (u:Nat),Mono u (evN call F vars u e)
 | .mk k n s l,vars,u=>by
  rw[Km]
  repeat' split
  all_goals first
   | exact Nat.le_refl _
   | (rename_i a b; refine Ku (JZ hc a vars u) (fun v u'=>?_); (try split) <;> first | exact Nat.le_refl _ | exact JZ hc b _ u')
   | (rename_i c a b; refine Ku (JZ hc c vars u) (fun v u'=>?_); split; exact JZ hc b _ u'; exact JZ hc a _ u')
   | (refine Ku (Ym hc l vars u) (fun v u'=>?_); exact hc _ _ _)
   | (refine Ku (Ym hc l vars u) (fun v u'=>?_); exact Zs _ _ _ _)
theorem Ym (hc:∀ n a u,Mono u (call n a u)):∀ (l:List Exp) (vars:List Int) (u:Nat),Mono u (evL call F vars u l)
 | [],vars,u=>by unfold evL; exact Nat.le_refl _
 | e::l,vars,u=>by
  unfold evL;exact Ku (JZ hc e vars u) fun v u'=>Ku (Ym hc l vars u') fun _ _=>Nat.le_refl _
end
mutual
theorem J0 (hc:∀ n a u,Mono u (call n a u)) {d:Nat} (hs:∀ n a u,u+d≤10000→call n a (u+d)=shR d (call n a u)):∀ (e:Exp) (vars:List Int) (u:Nat),u+d≤10000→evN call F vars (u+d) e=shR d (evN call F vars u e)
 | .mk k n s l,vars,u,hu=>by
  rw[Km,Km]
  by_cases h0:k=0∨k=1
  ·rw[if_pos h0,if_pos h0]; exact JJ d _ hu
  rw[if_neg h0,if_neg h0]
  by_cases h2:k=2
  ·rw[if_pos h2,if_pos h2]; exact JJ d _ hu
  rw[if_neg h2,if_neg h2]
  by_cases h3:k=3
  ·rw[if_pos h3,if_pos h3]; exact JJ d _ hu
  rw[if_neg h3,if_neg h3]
  by_cases h4:k=4
  ·rw[if_pos h4,if_pos h4]; exact JJ d _ hu
  rw[if_neg h4,if_neg h4]
  by_cases h5:k=5
  ·rw[if_pos h5,if_pos h5]; exact JJ d _ hu
  rw[if_neg h5,if_neg h5]
  by_cases h16:k=16
  ·rw[if_pos h16,if_pos h16]
   match l with
   | [a,b]=>
    dsimp only;rw[J0 hc hs a vars u hu];refine Ki (fun v u'=>?_) (fun v u' h=>?_)
    ·split
     ·exact Nat.le_refl _
     ·exact JZ F hc b _ _
    ·split
     ·exact JJ d _ h
     ·exact J0 hc hs b _ _ h
   | []=>exact JJ d _ hu
   | [a]=>exact JJ d _ hu
   | a::b::c::l=>exact JJ d _ hu
  rw[if_neg h16,if_neg h16]
  by_cases h17:k=17
  ·rw[if_pos h17,if_pos h17]
   match l with
   | [a,b]=>
    dsimp only;rw[J0 hc hs a vars u hu];refine Ki (fun v u'=>?_) (fun v u' h=>?_)
    ·split
     ·exact JZ F hc b _ _
     ·exact Nat.le_refl _
    ·split
     ·exact J0 hc hs b _ _ h
     ·exact JJ d _ h
   | []=>exact JJ d _ hu
   | [a]=>exact JJ d _ hu
   | a::b::c::l=>exact JJ d _ hu
  rw[if_neg h17,if_neg h17]
  by_cases h18:k=18
  ·rw[if_pos h18,if_pos h18]
   match l with
   | [c,a,b]=>
    dsimp only;rw[J0 hc hs c vars u hu];refine Ki (fun v u'=>?_) (fun v u' h=>?_)
    ·split
     ·exact JZ F hc b _ _
     ·exact JZ F hc a _ _
    ·split
     ·exact J0 hc hs b _ _ h
     ·exact J0 hc hs a _ _ h
   | []=>exact JJ d _ hu
   | [a]=>exact JJ d _ hu
   | [a,b]=>exact JJ d _ hu
   | a::b::c::e::l=>exact JJ d _ hu
  rw[if_neg h18,if_neg h18]
  by_cases h19:k=19
  ·rw[if_pos h19,if_pos h19]
   match l with
   | [a,b]=>
    dsimp only;rw[J0 hc hs a vars u hu];exact Ki (fun v u'=>JZ F hc b _ _) (fun v u' h=>J0 hc hs b _ _ h)
   | []=>exact JJ d _ hu
   | [a]=>exact JJ d _ hu
   | a::b::c::l=>exact JJ d _ hu
  rw[if_neg h19,if_neg h19,Jbc hc hs l vars u hu];refine Ki (fun v u'=>?_) (fun v u' h=>?_)
  ·split
   ·exact hc _ _ _
   ·exact Zs _ _ _ _
  ·split
   ·exact hs _ _ _ h
   ·exact JbN _ _ _ _ h
theorem Jbc (hc:∀ n a u,Mono u (call n a u)) {d:Nat} (hs:∀ n a u,u+d≤10000→call n a (u+d)=shR d (call n a u)):∀ (l:List Exp) (vars:List Int) (u:Nat),u+d≤10000→evL call F vars (u+d) l=shR d (evL call F vars u l)
 | [],vars,u,hu=>by unfold evL; exact JJ d _ hu
 | e::l,vars,u,hu=>by
  unfold evL;rw[J0 hc hs e vars u hu];refine Ki (fun v u'=>Ku (Ym F hc l vars u') fun _ _=>Nat.le_refl _) (fun v u' h=>?_);rw[Jbc hc hs l vars u' h];exact Ki (fun _ _=>Nat.le_refl _) (fun _ _ h=>JJ d _ h)
end
end
theorem Kp (fs:List FnM) (F:FactsM):∀ (d:Nat) (n:Int) (a:List Int) (u:Nat),Mono u (callD fs F d n a u)
 | 0,n,a,u=>by
  unfold callD;split
  ·exact Nat.le_refl _
  ·exact Nat.le_succ _
 | d+1,n,a,u=>by
  unfold callD;split
  ·exact Nat.le_refl _
  ·exact (JZ F (Kp fs F d) _ _ _).le (Nat.le_succ _)
theorem YW (fs:List FnM) (F:FactsM) (q:Nat):∀ (d:Nat) (n:Int) (a:List Int) (u:Nat),u+q≤10000→callD fs F d n a (u+q)=shR q (callD fs F d n a u)
 | 0,n,a,u,hu=>by
  unfold callD
  by_cases h:u+q=10000
  ·rw[if_pos h]
   by_cases h0:u=10000
   ·rw[if_pos h0,← VJ q 14 hu]
   ·rw[if_neg h0,JbM (u:=u+1) (Nat.le_refl _) (by omega),h]
  ·rw[if_neg h,if_neg (by omega),show u+q+1=u+1+q by omega];exact VJ q 7 (by omega)
 | d+1,n,a,u,hu=>by
  unfold callD
  by_cases h:u+q=10000
  ·rw[if_pos h]
   by_cases h0:u=10000
   ·rw[if_pos h0,← VJ q 14 hu]
   ·rw[if_neg h0,JbM (JZ F (Kp fs F d) _ _ _) (by omega),h]
  ·rw[if_neg h,if_neg (by omega),show u+q+1=u+1+q by omega];exact J0 F (Kp fs F d) (YW fs F q d) _ _ _ (by omega)
def clOut (r:RuleM) (F:FactsM) (c:ClM) (l:List ClM):RN Int→OutM
 | .fault e u'=>⟨0,[],u',e⟩
 | .val v u'=>if v=0 then runC r F u' l else ⟨c.action,c.reason,u',0⟩
theorem Jfy (r:RuleM) (F:FactsM) (c:ClM) (l:List ClM) (u:Nat):runC r F u (c::l)=if u=10000 then ⟨0,[],u,14⟩ else clOut r F c l (evN (callD r.funcs F 100) F [] (u+1) c.cond):=by
 conv=>lhs; unfold runC
 rfl
def shO (d:Nat) (o:OutM):OutM:=if o.used+d≤10000 then { o with used:=o.used+d } else ⟨0,[],10000,14⟩
theorem YX (r:RuleM) (F:FactsM):∀ (l:List ClM) (u:Nat),u≤(runC r F u l).used
 | [],u=>by unfold runC; exact Nat.le_refl _
 | c::l,u=>by
  rw[Jfy];split
  ·exact Nat.le_refl _
  ·have hm:=JZ F (Kp r.funcs F 100) c.cond [] (u+1)
   cases he:evN (callD r.funcs F 100) F [] (u+1) c.cond with
   | fault e u'=>
    rw[he] at hm;have:u+1≤u':=hm
    show u≤u'
    omega
   | val v u'=>
    rw[he] at hm;have:u+1≤u':=hm;unfold clOut;dsimp only;split
    ·exact Nat.le_trans (by omega) (YX r F l u')
    ·show u≤u'
     omega
theorem Jdv (r:RuleM) (F:FactsM) (c:ClM) (l:List ClM) {u:Nat} {x:RN Int} (hm:Mono u x):u≤(clOut r F c l x).used:=by
 cases x with
 | fault e u'=>exact hm
 | val v u'=>
  unfold clOut;dsimp only;split
  ·exact Nat.le_trans hm (YX r F l u')
  ·exact hm
theorem JbO {o:OutM} {d u:Nat} (h:u≤o.used) (hb:10000<u+d):shO d o=⟨0,[],10000,14⟩:=if_neg (by omega)
theorem ZtZ (r:RuleM) (F:FactsM) (d:Nat):∀ (l:List ClM) (u:Nat),u+d≤10000→runC r F (u+d) l=shO d (runC r F u l)
 | [],u,hu=>by
  unfold runC shO;rw[if_pos hu]
 | c::l,u,hu=>by
  rw[Jfy,Jfy]
  by_cases h:u+d=10000
  ·rw[if_pos h]
   by_cases h0:u=10000
   ·rw[if_pos h0];unfold shO;rw[if_pos hu]
   ·rw[if_neg h0,JbO (Jdv r F c l (JZ F (Kp r.funcs F 100) c.cond [] (u+1))) (by omega),h]
  ·rw[if_neg h,if_neg (by omega),show u+d+1=u+1+d by omega,J0 F (Kp r.funcs F 100) (YW r.funcs F d 100) _ _ _ (by omega)]
   cases evN (callD r.funcs F 100) F [] (u+1) c.cond with
   | fault e u'=>
    unfold shR clOut shO;dsimp only
    by_cases hx:u'+d≤10000
    ·rw[if_pos hx,if_pos hx]
    ·rw[if_neg hx,if_neg hx]
   | val v u'=>
    unfold shR;dsimp only
    by_cases hx:u'+d≤10000
    ·rw[if_pos hx];unfold clOut;dsimp only
     by_cases hv:v=0
     ·rw[if_pos hv,if_pos hv];exact ZtZ r F d l u' hx
     ·rw[if_neg hv,if_neg hv];unfold shO;rw[if_pos hx]
    ·rw[if_neg hx];unfold clOut;dsimp only
     by_cases hv:v=0
     ·rw[if_pos hv,JbO (YX r F l u') (by omega)]
     ·rw[if_neg hv];exact (JbO (u:=u') (Nat.le_refl _) (by omega)).symm
theorem Vf (r:RuleM) (F:FactsM):∀ (l:List ClM) (u:Nat),
  (∃ u1,(∀ x:RuleM,x.funcs=r.funcs→runC x F u l=⟨x.action,[],u1,0⟩)∧∀ l2,runC r F u (l++l2)=runC r F u1 l2)∨
  (∀ x:RuleM,x.funcs=r.funcs→runC x F u l=runC r F u l)∧∀ l2,runC r F u (l++l2)=runC r F u l
 | [],u=>.inl ⟨u,fun x _=>by unfold runC; rfl,fun l2=>by rw[List.nil_append]⟩
 | c::l,u=>by
  by_cases h:u=10000
  ·refine .inr ⟨fun x _=>?_,fun l2=>?_⟩
   ·unfold runC;rw[if_pos h,if_pos h]
   ·rw[List.cons_append];unfold runC;rw[if_pos h,if_pos h]
  ·cases he:evN (callD r.funcs F 100) F [] (u+1) c.cond with
   | fault e u'=>
    refine .inr ⟨fun x hx=>?_,fun l2=>?_⟩
    ·unfold runC;rw[if_neg h,if_neg h,hx,he]
    ·rw[List.cons_append];unfold runC;rw[if_neg h,if_neg h,he]
   | val v u'=>
    by_cases hv:v=0
    ·rcases Vf r F l u' with ⟨u1,g1,g2⟩ | ⟨g1,g2⟩
     ·refine .inl ⟨u1,fun x hx=>?_,fun l2=>?_⟩
      ·unfold runC;rw[if_neg h,hx,he];dsimp only;rw[if_pos hv];exact g1 x hx
      ·rw[List.cons_append,runC,if_neg h,he];dsimp only;rw[if_pos hv];exact g2 l2
     ·refine .inr ⟨fun x hx=>?_,fun l2=>?_⟩
      ·unfold runC;rw[if_neg h,if_neg h,hx,he];dsimp only;rw[if_pos hv,if_pos hv];exact g1 x hx
      ·rw[List.cons_append];unfold runC;rw[if_neg h,if_neg h,he];dsimp only;rw[if_pos hv,if_pos hv];exact g2 l2
    ·refine .inr ⟨fun x hx=>?_,fun l2=>?_⟩
     ·unfold runC;rw[if_neg h,if_neg h,hx,he];dsimp only;rw[if_neg hv,if_neg hv]
     ·rw[List.cons_append];unfold runC;rw[if_neg h,if_neg h,he];dsimp only;rw[if_neg hv,if_neg hv]
theorem VX {r:RuleM} (h:rightM r=true) {l:List ClM} {a:Int} (hl:∀ c∈l,c∈r.clauses) (ha:actB a=true):rightM ⟨r.funcs,l,a⟩=true:=by
 obtain ⟨h1,h2,h3,h4,_⟩:=KP h;unfold treesM at h1;unfold typedM at h2;unfold clsM at h4;rw[Bool.and_eq_true] at h1 h2;unfold rightM treesM typedM clsM;simp only[Bool.and_eq_true];exact ⟨⟨⟨⟨h3,List.all_eq_true.2 fun c hc=>List.all_eq_true.1 h4 c (hl c hc)⟩,ha⟩,h1.1,List.all_eq_true.2 fun c hc=>List.all_eq_true.1 h1.2 c (hl c hc)⟩,h2.1,List.all_eq_true.2 fun c hc=>List.all_eq_true.1 h2.2 c (hl c hc)⟩
structure SplitsOk (whole a b one two:OutM):Prop where
 ends:(a.fault≠0∨one.action=two.action)→whole=a
 full:a.fault=0→one.action≠two.action→10000<a.used+b.used→whole=⟨0,[],10000,14⟩
 both:a.fault=0→one.action≠two.action→a.used+b.used≤10000→whole={ b with used:=a.used+b.used }
theorem JbP {r:RuleM} {F:FactsM} (hr:rightM r=true) (hF:factsM F=true) (k:Nat) :
  SplitsOk (runM r F) (runM ⟨r.funcs,r.clauses.take k,r.action⟩ F) (runM ⟨r.funcs,r.clauses.drop k,r.action⟩ F) (runM ⟨r.funcs,r.clauses.take k,0⟩ F) (runM ⟨r.funcs,r.clauses.take k,3⟩ F):=by
 obtain ⟨ht,hy,_,_,hact⟩:=KP hr;have htk:∀ c∈r.clauses.take k,c∈r.clauses:=fun c hc=>List.mem_of_mem_take hc
 have hdk:∀ c∈r.clauses.drop k,c∈r.clauses:=fun c hc=>List.mem_of_mem_drop hc
 have e0:runM r F=runC r F 0 (r.clauses.take k++r.clauses.drop k):=by
  unfold runM;rw[if_pos ⟨hr,hF⟩,List.take_append_drop]
 have e1:runM ⟨r.funcs,r.clauses.take k,r.action⟩ F=runC r F 0 (r.clauses.take k):=by
  unfold runM;rw[if_pos ⟨VX hr htk hact,hF⟩]
  rcases Vf r F (r.clauses.take k) 0 with ⟨u1,g1,_⟩ | ⟨g1,_⟩
  ·rw[g1 r rfl,g1 ⟨r.funcs,r.clauses.take k,r.action⟩ rfl]
  ·exact g1 _ rfl
 have e2:runM ⟨r.funcs,r.clauses.drop k,r.action⟩ F=runC r F 0 (r.clauses.drop k):=by
  unfold runM;rw[if_pos ⟨VX hr hdk hact,hF⟩]
  rcases Vf r F (r.clauses.drop k) 0 with ⟨u1,g1,_⟩ | ⟨g1,_⟩
  ·rw[g1 r rfl,g1 ⟨r.funcs,r.clauses.drop k,r.action⟩ rfl]
  ·exact g1 _ rfl
 have e3:∀ act,actB act=true→runM ⟨r.funcs,r.clauses.take k,act⟩ F=runC ⟨r.funcs,r.clauses.take k,act⟩ F 0 (r.clauses.take k):=by
  intro act ha;unfold runM;rw[if_pos ⟨VX hr htk ha,hF⟩]
 rw[e0,e1,e2,e3 0 rfl,e3 3 rfl];have hend:=YQ ht hy hF (r.clauses.take k) 0 htk (by omega)
 rcases Vf r F (r.clauses.take k) 0 with ⟨u1,g1,g2⟩ | ⟨g1,g2⟩
 ·rw[g1 r rfl,g1 ⟨r.funcs,r.clauses.take k,0⟩ rfl,g1 ⟨r.funcs,r.clauses.take k,3⟩ rfl,g2];rw[g1 r rfl] at hend;have hu1:u1≤10000:=hend.le;have hsh:=ZtZ r F u1 (r.clauses.drop k) 0 (by omega);rw[Nat.zero_add] at hsh;rw[hsh];refine ⟨fun h=>?_,fun _ _ h=>?_,fun _ _ h=>?_⟩
  ·rcases h with h | h
   ·exact absurd rfl h
   ·have:(0:Int)=3:=h;omega
  ·unfold shO;exact if_neg (by show ¬ (runC r F 0 (r.clauses.drop k)).used+u1≤10000; have:10000<u1+(runC r F 0 (r.clauses.drop k)).used:=h; omega)
  ·unfold shO;have:u1+(runC r F 0 (r.clauses.drop k)).used≤10000:=h;rw[if_pos (by omega),Nat.add_comm]
 ·rw[g1 ⟨r.funcs,r.clauses.take k,0⟩ rfl,g1 ⟨r.funcs,r.clauses.take k,3⟩ rfl,g2];exact ⟨fun _=>rfl,fun _ h=>absurd rfl h,fun _ h=>absurd rfl h⟩
end Go.Proofs.YtncanmdgdflnpaaGreatDoor
