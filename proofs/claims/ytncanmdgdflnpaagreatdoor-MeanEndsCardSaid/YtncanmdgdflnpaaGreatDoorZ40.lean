
import Derived.Test.YtncanmdgdflnpaaGreatDoorZ39
namespace Go.Proofs.YtncanmdgdflnpaaGreatDoor
open Go.ChangeShapes Go.WideShapes Go.ChangeAt Go.RowKit Go.Lib
open _root_.Go.Proofs.Tryz
set_option linter.all false
set_option maxRecDepth 100000
set_option maxHeartbeats 32000000
mutual
def leftN:Nat→Int→Exp→Int
 | d,n,.mk _ _ _ l=>leftL d (n-1) l
def leftL:Nat→Int→List Exp→Int
 | d,n,[]=>if n<0 then -1 else n
 | d,n,a::l=>if n<0 then -1 else match d with | 0=>-1 | d+1=>leftL (d+1) (leftN d n a) l
end
def leftK (d:Nat) (n:Int) (a:Exp) (l:List Exp):Int:=match d with | 0=>-1 | d+1=>leftL (d+1) (leftN d n a) l
theorem JaG (d:Nat) (n:Int):leftL d n []=if n<0 then -1 else n:=by
 conv=>lhs; unfold leftL
theorem VL (d:Nat) (n:Int) (a:Exp) (l:List Exp):leftL d n (a::l)=if n<0 then -1 else leftK d n a l:=by
 conv=>lhs; unfold leftL
 rfl
theorem Vz (d:Nat) {n:Int} (h:n<0):∀ l,leftL d n l = -1
 | []=>by rw[JaG,if_pos h]
 | a::l=>by rw[VL,if_pos h]
mutual
theorem V9:∀ (e:Exp) (d:Nat) (n:Int),-1≤leftN d n e∧(0≤n→leftN d n e≤n-1)
 | .mk k m s l,d,n=>by
  rw[leftN];obtain ⟨h1,h2⟩:=Jcc l d (n-1);refine ⟨h1,fun h=>?_⟩
  by_cases h0:0≤n-1
  ·exact h2 h0
  ·rw[Vz d (by omega) l];omega
theorem Jcc:∀ (l:List Exp) (d:Nat) (n:Int),-1≤leftL d n l∧(0≤n→leftL d n l≤n)
 | [],d,n=>by
  rw[JaG];split
  ·exact ⟨by omega,fun h=>by omega⟩
  ·exact ⟨by omega,fun h=>by omega⟩
 | a::l,d,n=>by
  rw[VL];split
  ·exact ⟨by omega,fun h=>by omega⟩
  ·cases d with
   | zero=>exact ⟨by simp[leftK],fun h=>by simp[leftK]; omega⟩
   | succ d=>
    show -1≤leftL (d+1) (leftN d n a) l∧(0≤n→leftL (d+1) (leftN d n a) l≤n)
    obtain ⟨h1,h2⟩:=V9 a d n;obtain ⟨h3,h4⟩:=Jcc l (d+1) (leftN d n a);refine ⟨h3,fun h=>?_⟩
    by_cases h0:0≤leftN d n a
    ·have:=h4 h0; have:=h2 h; omega
    ·rw[Vz (d+1) (by omega) l]; omega
end
def lightF:Int→List FnM→Int
 | n,[]=>n
 | n,f::l=>if n<0 then n else lightF (leftN 60 (n-f.params.length) f.body) l
def lightC:Int→List ClM→Int
 | n,[]=>n
 | n,c::l=>if n<0 then n else lightC (leftN 60 n c.cond) l
def lightM (r:RuleM) (F:FactsM):Bool:=decide (0≤lightC (lightF 300 r.funcs) r.clauses)&&decide (F.labels.length≤100)&&decide (F.words.length≤100)
theorem Jgq {r:RuleM} {F:FactsM} (h:lightM r F=true):FSz F:=by
 unfold lightM at h;simp only[Bool.and_eq_true,decide_eq_true_eq] at h;exact ⟨by omega,by omega⟩
theorem zx134 {P:Prop}(h:P:=by
  subst hq1;clear hq hm hbw hi hg hm0;go_wp2;go_ret
  exact ⟨rfl,HFIN.out⟩):P:=h
theorem JaH (d:Nat) (IH:∀ d',d=d'+1→∀ (e:Exp) (c:Array Value) (n:Int) (W:World),XAt W (In W) e c→-9223372036854775807≤n→n≤1000000→Calls prog 39 #[.agg c,.int .i64 n,.int .i64 d'] W (BelP W (.int .i64 (leftN d' n e))))
  (hd:d≤60) (k nn:Int) (s:List UInt8) (l:List Exp) (ad:Option Addr) (cc:Nat) (n:Int) (w:World) (hK:KidsX w ad l) (h1:-9223372036854775807≤n) (h2:n≤1000000) :
  Calls prog 39 #[.agg #[.int .i64 k,.int .i64 nn,.string (bs s),.slice ad l.length cc],.int .i64 n,.int .i64 d] w (BelP w (.int .i64 (leftN d n (.mk k nn s l)))):=by
 obtain ⟨q,hq⟩:∃ q,leftN d n (.mk k nn s l)=q:=⟨_,rfl⟩
 rw[hq];rw[leftN] at hq;have HQ:Hid (leftL d (n-1) (l.drop 0)=q):=hq;have hb1:Below w.heap.size w (w.alloc (.cells #[.int .i64 k,.int .i64 nn,.string (bs s),.slice ad l.length cc] 50)):=(Below.refl _ _).alloc (Nat.le_refl _) _;have HCP:=Zh (heap_alloc_new w (.cells #[.int .i64 k,.int .i64 nn,.string (bs s),.slice ad l.length cc] 50));have HKX:Hid (∀ W,Below (w.alloc (.cells #[.int .i64 k,.int .i64 nn,.string (bs s),.slice ad l.length cc] 50)).heap.size (w.alloc (.cells #[.int .i64 k,.int .i64 nn,.string (bs s),.slice ad l.length cc] 50)) W→Bel w W):=fun W hW=>Ji hb1 hW
 have HKD:=Zh hK;have HIH:=Zh IH;have wn:IntKind.i64.wrap (n-1)=n-1:=IntWalk.i64_in _ (by omega);have HN0:Hid ((0:Int)+(n-1)≤1000000∧-9223372036854775808≤n-1):=by unfold Hid; omega
 clear hq hb1 hK IH h1 h2;go_enter func39,ntmps39;go_upto_region 1 with fail;have HEB:Hid (w.heap.size<(w.alloc (.cells #[.int .i64 k,.int .i64 nn,.string (bs s),.slice ad l.length cc] 50)).heap.size):=Jb HCP.out;generalize World.alloc w _=w1 at *;generalize w.heap.size=eb at *
 have FF:Hid (∀ W,Below w1.heap.size w1 W→W.cell? ⟨eb,3,none⟩=some (.slice ad l.length cc)):=by
  intro W hW;have hh:=(hW.block _ HEB.out).trans HCP.out;rw[Ja hh]; rfl
 have HW0:Hid (Below w1.heap.size w1 w1):=Below.refl _ _;go_wp2_with fail;clear wn;go_loopg [1,7] l.length (fun g v1 v7 wr=>∃ (i:Nat) (m:Int),g+i=l.length∧v1=.int .i64 m∧v7=.int .i64 i∧Hid (Below w1.heap.size w1 wr)∧Hid ((i:Int)+m≤1000000∧-9223372036854775808≤m)∧Hid (leftL d m (l.drop i)=q))
 case atStart=>exact ⟨0,n-1,rfl,rfl,rfl,HW0,HN0,HQ⟩
 case round=>
 clear HW0 HN0 HQ;obtain ⟨wl,rfl⟩:∃ wl:World,wl=wr:=⟨_,rfl⟩
 obtain ⟨i,m,hg,rfl,rfl,hbw,hm,hq⟩:=hrel;have b3:=FF.out _ hbw.out;have HFIN:Hid (Bel w wl):=HKX.out _ hbw.out
 by_cases hi:i<l.length
 ·have hil:(i:Int)<(l.length:Int):=by omega
  have dil:decide ((i:Int)<(l.length:Int))=true:=decide_eq_true hil
  by_cases hm0:0≤m
  ·have dm:decide (0≤m)=true:=decide_eq_true hm0
   have hdr:leftL d m (l.drop i)=leftK d m l[i] (l.drop (i+1)):=by
    rw[List.drop_eq_getElem_cons hi,VL,if_neg (by omega)]
   rw[hdr] at hq;have wk:IntKind.i64.wrap ((i:Int)+1)=(i:Int)+1:=IntWalk.i64_in _ (by have:=hm.out; omega)
   cases d with
   | zero=>
    have hq1:q = -1:=hq.out.symm;subst hq1;clear hq hm hbw hdr hi hg;go_wp2;go_ret;exact ⟨rfl,HFIN.out⟩
   | succ d=>
    obtain ⟨y,hy⟩:∃ y,l[i]?=some y:=⟨l[i],List.getElem?_eq_getElem hi⟩
    have hye:l[i]=y:=(List.getElem?_eq_some_iff.1 hy).2;rw[hye] at hq;have hq2:leftL (d+1) (leftN d m y) (l.drop (i+1))=q:=hq.out;obtain ⟨b,o,da,dc,had,hxy,c0,c1,c2,c3⟩:=HKD.out.at' (HKX.out _ hbw.out) hy;have ed:(((d+1:Nat):Int)==0)=false:=beq_eq_false_iff_ne.2 (by omega);have wd:IntKind.i64.wrap (((d+1:Nat):Int)-1)=(d:Int):=by rw[IntWalk.i64_in _ (by omega)]; omega
    have ci:=HIH.out d rfl y _ m wl hxy (by omega) (by have:=hm.out; omega);obtain ⟨h3,h4⟩:=V9 y d m;have hb4:=h4 hm0;have HM2:Hid (((i+1:Nat):Int)+leftN d m y≤1000000∧-9223372036854775808≤leftN d m y):=by have:=hm.out; unfold Hid; omega
    have HQ2:=Zh hq2;have HBW:=Zh hbw.out;have HG:=Zh hg;have HHI:=Zh hi;generalize leftN d m y=m2 at *;subst had;rw[Int.natCast_add,Int.natCast_one] at ed wd;clear h3 h4 hb4 hq hq2 hm hbw hdr hi hg hye hy hxy;go_wp2_with fail;refine ci.mono ?_;rintro e w7 ⟨rfl,hb7⟩;have HB7:=Zh (Ji HBW.out hb7);clear ci hb7 b3 c0 c1 c2 c3 ed wd;go_wp2;go_roundg (l.length-(i+1))
    case measure=>have:=HG.out; have:=HHI.out; omega
    case rel=>exact ⟨i+1,m2,by have:=HHI.out; omega,rfl,by go_num,HB7,HM2,HQ2⟩
  ·have dm:decide (0≤m)=false:=decide_eq_false hm0;have dm2:decide (m<0)=true:=decide_eq_true (by omega);have hq1:q = -1:=by rw[← hq.out,Vz d (by omega)]
   exact zx134
 ·have hil:¬ (i:Int)<(l.length:Int):=by omega
  have dil:decide ((i:Int)<(l.length:Int))=false:=decide_eq_false hil;have hq1:q=if m<0 then -1 else m:=by rw[← hq.out,List.drop_of_length_le (by omega),leftL]
  by_cases hm0:m<0
  ·have dm:decide (m<0)=true:=decide_eq_true hm0;rw[if_pos hm0] at hq1;exact zx134
  ·have dm:decide (m<0)=false:=decide_eq_false hm0;rw[if_neg hm0] at hq1;exact zx134
theorem ZN:∀ d:Nat,d≤60→∀ (e:Exp) (c:Array Value) (n:Int) (W:World),XAt W (In W) e c→-9223372036854775807≤n→n≤1000000→Calls prog 39 #[.agg c,.int .i64 n,.int .i64 d] W (BelP W (.int .i64 (leftN d n e)))
 | 0,hd,.mk k nn s l,c,n,W,hx,h1,h2=>by
  obtain ⟨ad,cc,rfl,_,hK⟩:=hx.kids;exact JaH 0 (fun d' h=>by omega) hd k nn s l ad cc n W hK h1 h2
 | d+1,hd,.mk k nn s l,c,n,W,hx,h1,h2=>by
  obtain ⟨ad,cc,rfl,_,hK⟩:=hx.kids;refine JaH (d+1) (fun d' h=>?_) hd k nn s l ad cc n W hK h1 h2;obtain rfl:d=d':=by omega
  exact ZN d (by omega)
structure RLen (r:RuleM):Prop where
 nf:r.funcs.length≤9223372036854775807
 nc:r.clauses.length≤9223372036854775807
 np:∀ f∈r.funcs,f.params.length≤9223372036854775807
theorem JcS {n:Int} (h:n<0) (l:List FnM):lightF n l=n:=by
 cases l with
 | nil=>rfl
 | cons a l=>rw[lightF,if_pos h]
theorem JcT {n:Int} (h:n<0) (l:List ClM):lightC n l=n:=by
 cases l with
 | nil=>rfl
 | cons a l=>rw[lightC,if_pos h]
theorem zx106 {P:Prop}(h:P:=by
  rw[dwN] at hqv;subst hqv
  rcases hcond with ⟨c1,c2⟩ | c1
  all_goals first
   | (exfalso; rw[d0] at c2; cases c2)
   | (clear h0 hl1 hw1; go_wp2; go_ret; exact ⟨rfl,HFIN.out⟩)):P:=h
theorem zx10 {P:Prop}(h:P:=by
  go_loopg [5,7] r.clauses.length (fun g v5 v7 wr=>∃ (j:Nat) (n:Int),g+j=r.clauses.length∧v5=.int .i64 n∧v7=.int .i64 j∧Hid (Below w1.heap.size w1 wr)∧Hid ((j:Int)+n≤300∧-1≤n)∧Hid (lightC n (r.clauses.drop j)=L))
  case atStart=>exact ⟨0,m,rfl,rfl,rfl,HBW,HM1,HQF⟩
  case round=>
  clear HBW HM1 HQF;obtain ⟨wm,rfl⟩:∃ wm:World,wm=wr:=⟨_,rfl⟩
  obtain ⟨j,n,hg,rfl,rfl,hbw,hm,hq⟩:=hrel
  by_cases hi:j<r.clauses.length∧0≤n
  ·obtain ⟨hi,hm0⟩:=hi;have hil:(j:Int)<(r.clauses.length:Int):=by omega
   have dil:decide ((j:Int)<(r.clauses.length:Int))=true:=decide_eq_true hil;have dm:decide (0≤n)=true:=decide_eq_true hm0;obtain ⟨f,hf⟩:∃ f,r.clauses[j]?=some f:=⟨r.clauses[j],List.getElem?_eq_getElem hi⟩
   have hfe:r.clauses[j]=f:=(List.getElem?_eq_some_iff.1 hf).2;have hXf:=HCX.out.up (HKX.out _ hbw.out);obtain ⟨b,o,da,dc,hfa,hfc⟩:=hXf.get hf;have hq2:=hq.out;rw[List.drop_eq_getElem_cons hi,hfe,lightC,if_neg (by omega)] at hq2;have hle:=(V9 f.cond 60 n)
   have HM2:Hid (((j+1:Nat):Int)+leftN 60 n f.cond≤300∧-1≤leftN 60 n f.cond):=by
    have:=hm.out;have:=hle.2 hm0;exact ⟨by omega,hle.1⟩
   have wk:IntKind.i64.wrap ((j:Int)+1)=(j:Int)+1:=IntWalk.i64_in _ (by have:=hm.out; omega);have cl:=ZN 60 (by decide) f.cond _ n wm hfc.cond (by omega) (by have:=hm.out; omega);generalize leftN 60 n f.cond=m2 at *;have HQ2:=Zh hq2;have HBW:=Zh hbw.out;have HG:=Zh hg;have HHI:=Zh hi;have c0:=hfc.c0;have c1:=hfc.c1;have c2:=hfc.c2;have c3:=hfc.c3;obtain ⟨b0,b1,b2,b3⟩:=FF.out _ hbw.out;rw[show ((60:Nat):Int)=60 from rfl] at cl;subst hfa;clear hle hq hq2 hm hbw hi hg hf hfe hXf hfc hm0;go_wp2_with fail;refine cl.mono ?_;rintro e w7 ⟨rfl,hb7⟩;have HB7:=Zh (Ji HBW.out hb7);clear cl hb7 b0 b1 b2 b3 c0 c1 c2 c3;go_wp2;go_roundg (r.clauses.length-(j+1))
   case measure=>have:=HG.out; have:=HHI.out; omega
   case rel=>exact ⟨j+1,m2,by have:=HHI.out; omega,rfl,by go_num,HB7,HM2,HQ2⟩
  have hnL:n=L:=by
   by_cases h0:n<0
   ·have:=hq.out;rw[JcT h0] at this;exact this
   ·have hi2:r.clauses.length≤j:=by omega
    have:=hq.out;rw[List.drop_of_length_le hi2] at this;exact this
  subst hnL;obtain ⟨b0,b1,b2,b3⟩:=FF.out _ hbw.out;have HFIN:Hid (Bel w wm):=HKX.out _ hbw.out
  have hcond:((j:Int)<(r.clauses.length:Int)∧decide (0≤n)=false)∨¬ (j:Int)<(r.clauses.length:Int):=by
   by_cases h0:j<r.clauses.length
   ·exact .inl ⟨by omega,decide_eq_false (by omega)⟩
   ·exact .inr (by omega)
  have hqv:q=(decide (0≤n)&&decide (F.labels.length≤100)&&decide (F.words.length≤100)):=by
   rw[← HQ.out];unfold lightM;rw[HLE.out]
  clear hq hm hbw hi hg
  by_cases h0:0≤n
  ·have d0:decide (0≤n)=true:=decide_eq_true h0;rw[d0,Bool.true_and] at hqv
   by_cases hl1:F.labels.length≤100
   ·have dl:decide ((F.labels.length:Int)≤100)=true:=decide_eq_true (by omega);have dlN:decide (F.labels.length≤100)=true:=decide_eq_true hl1;rw[dlN,Bool.true_and] at hqv
    by_cases hw1:F.words.length≤100
    ·have dw:decide ((F.words.length:Int)≤100)=true:=decide_eq_true (by omega);have dwN:decide (F.words.length≤100)=true:=decide_eq_true hw1;exact zx106
    ·have dw:decide ((F.words.length:Int)≤100)=false:=decide_eq_false (by omega);have dwN:decide (F.words.length≤100)=false:=decide_eq_false hw1;exact zx106
   ·have dl:decide ((F.labels.length:Int)≤100)=false:=decide_eq_false (by omega);have dlN:decide (F.labels.length≤100)=false:=decide_eq_false hl1;rw[dlN,Bool.false_and] at hqv;subst hqv
    rcases hcond with ⟨c1,c2⟩ | c1
    all_goals first
     | (exfalso; rw[d0] at c2; cases c2)
     | (clear h0 hl1; go_wp2; go_ret; exact ⟨rfl,HFIN.out⟩)
  ·have d0:decide (0≤n)=false:=decide_eq_false h0;rw[d0] at hqv;simp only[Bool.false_and] at hqv;subst hqv
   rcases hcond with ⟨c1,c2⟩ | c1
   all_goals (clear h0; go_wp2; go_ret; exact ⟨rfl,HFIN.out⟩)):P:=h
theorem JeP (r:RuleM) (F:FactsM) (c:Array Value) (la wa:Option Addr) (lc wc:Nat) (w:World) (hx:RuleX w (In w) r c) (hz:RLen r) :
  Calls prog 12 #[.agg c,.agg (factsC F (.slice la F.labels.length lc) (.slice wa F.words.length wc))] w (BelP w (.bool (lightM r F))):=by
 obtain ⟨fa,fc,ca,cc,rfl,hF,hC⟩:=hx.parts;obtain ⟨q,hq⟩:∃ q,lightM r F=q:=⟨_,rfl⟩
 rw[hq];obtain ⟨L,hLL⟩:∃ L,lightC (lightF 300 r.funcs) r.clauses=L:=⟨_,rfl⟩
 have HQ:Hid (lightM r F=q):=hq;have HL:Hid (lightC (lightF 300 (r.funcs.drop 0)) r.clauses=L):=hLL;have HLE:=Zh hLL;unfold factsC;have hbA:Below w.heap.size w ((w.alloc (.cells #[.slice fa r.funcs.length fc,.slice ca r.clauses.length cc,.int .i64 r.action] 30)).alloc (.cells #[.slice la F.labels.length lc,.int .i64 F.likes,.int .i64 F.boosts,.int .i64 F.replies,.int .i64 F.reports,.int .i64 F.age,.int .i64 F.home,.int .i64 F.scope,.int .i64 F.length,.bool F.follows,.bool F.reply,.slice wa F.words.length wc] 25)):=((Below.refl _ _).alloc (Nat.le_refl _) _).alloc (by simp) _;have HKX:Hid (∀ W,Below ((w.alloc (.cells #[.slice fa r.funcs.length fc,.slice ca r.clauses.length cc,.int .i64 r.action] 30)).alloc (.cells #[.slice la F.labels.length lc,.int .i64 F.likes,.int .i64 F.boosts,.int .i64 F.replies,.int .i64 F.reports,.int .i64 F.age,.int .i64 F.home,.int .i64 F.scope,.int .i64 F.length,.bool F.follows,.bool F.reply,.slice wa F.words.length wc] 25)).heap.size ((w.alloc (.cells #[.slice fa r.funcs.length fc,.slice ca r.clauses.length cc,.int .i64 r.action] 30)).alloc (.cells #[.slice la F.labels.length lc,.int .i64 F.likes,.int .i64 F.boosts,.int .i64 F.replies,.int .i64 F.reports,.int .i64 F.age,.int .i64 F.home,.int .i64 F.scope,.int .i64 F.length,.bool F.follows,.bool F.reply,.slice wa F.words.length wc] 25)) W→Bel w W):=fun W hW=>Ji hbA hW
 have HRB:Hid (((w.alloc (.cells #[.slice fa r.funcs.length fc,.slice ca r.clauses.length cc,.int .i64 r.action] 30)).alloc (.cells #[.slice la F.labels.length lc,.int .i64 F.likes,.int .i64 F.boosts,.int .i64 F.replies,.int .i64 F.reports,.int .i64 F.age,.int .i64 F.home,.int .i64 F.scope,.int .i64 F.length,.bool F.follows,.bool F.reply,.slice wa F.words.length wc] 25)).heap[w.heap.size]?=some (.cells #[.slice fa r.funcs.length fc,.slice ca r.clauses.length cc,.int .i64 r.action] 30 (0,0))):=Jg (heap_alloc_new _ _)
 have HFB:Hid (((w.alloc (.cells #[.slice fa r.funcs.length fc,.slice ca r.clauses.length cc,.int .i64 r.action] 30)).alloc (.cells #[.slice la F.labels.length lc,.int .i64 F.likes,.int .i64 F.boosts,.int .i64 F.replies,.int .i64 F.reports,.int .i64 F.age,.int .i64 F.home,.int .i64 F.scope,.int .i64 F.length,.bool F.follows,.bool F.reply,.slice wa F.words.length wc] 25)).heap[w.heap.size+1]?=some (.cells #[.slice la F.labels.length lc,.int .i64 F.likes,.int .i64 F.boosts,.int .i64 F.replies,.int .i64 F.reports,.int .i64 F.age,.int .i64 F.home,.int .i64 F.scope,.int .i64 F.length,.bool F.follows,.bool F.reply,.slice wa F.words.length wc] 25 (0,0))):=by
  have e1:=heap_alloc_new (w.alloc (.cells #[.slice fa r.funcs.length fc,.slice ca r.clauses.length cc,.int .i64 r.action] 30)) (.cells #[.slice la F.labels.length lc,.int .i64 F.likes,.int .i64 F.boosts,.int .i64 F.replies,.int .i64 F.reports,.int .i64 F.age,.int .i64 F.home,.int .i64 F.scope,.int .i64 F.length,.bool F.follows,.bool F.reply,.slice wa F.words.length wc] 25);simp only[World.size_alloc] at e1;exact e1
 have HNB:Hid (w.heap.size<((w.alloc (.cells #[.slice fa r.funcs.length fc,.slice ca r.clauses.length cc,.int .i64 r.action] 30)).alloc (.cells #[.slice la F.labels.length lc,.int .i64 F.likes,.int .i64 F.boosts,.int .i64 F.replies,.int .i64 F.reports,.int .i64 F.age,.int .i64 F.home,.int .i64 F.scope,.int .i64 F.length,.bool F.follows,.bool F.reply,.slice wa F.words.length wc] 25)).heap.size∧w.heap.size+1<((w.alloc (.cells #[.slice fa r.funcs.length fc,.slice ca r.clauses.length cc,.int .i64 r.action] 30)).alloc (.cells #[.slice la F.labels.length lc,.int .i64 F.likes,.int .i64 F.boosts,.int .i64 F.replies,.int .i64 F.reports,.int .i64 F.age,.int .i64 F.home,.int .i64 F.scope,.int .i64 F.length,.bool F.follows,.bool F.reply,.slice wa F.words.length wc] 25)).heap.size):=by unfold Hid; simp only[World.size_alloc]; omega
 have HFX:=Zh hF;have HCX:=Zh hC;have HZ:=Zh hz;have hnf:=hz.nf;have hnc:=hz.nc;clear hbA hx hF hC hz hq hLL;go_enter func12,ntmps12;go_upto_region 1 with fail;generalize World.alloc (World.alloc w _) _=w1 at *;generalize w.heap.size+1=fb at *;generalize w.heap.size=eb at *
 have FF:Hid (∀ W,Below w1.heap.size w1 W→W.cell? ⟨eb,0,none⟩=some (.slice fa r.funcs.length fc)∧W.cell? ⟨eb,1,none⟩=some (.slice ca r.clauses.length cc)∧W.cell? ⟨fb,0,none⟩=some (.slice la F.labels.length lc)∧W.cell? ⟨fb,11,none⟩=some (.slice wa F.words.length wc)):=by
  intro W hW;have hr:=(hW.block _ HNB.out.1).trans HRB.out;have hf:=(hW.block _ HNB.out.2).trans HFB.out;refine ⟨?_,?_,?_,?_⟩
  ·rw[Ja hr]; rfl
  ·rw[Ja hr]; rfl
  ·rw[Ja hf]; rfl
  ·rw[Ja hf]; rfl
 have HW0:Hid (Below w1.heap.size w1 w1):=Below.refl _ _;go_wp2_with fail;go_loopg [5,6] r.funcs.length (fun g v5 v6 wr=>∃ (i:Nat) (m:Int),g+i=r.funcs.length∧v5=.int .i64 m∧v6=.int .i64 i∧Hid (Below w1.heap.size w1 wr)∧Hid ((i:Int)+m≤300∧-1≤m)∧Hid (lightC (lightF m (r.funcs.drop i)) r.clauses=L))
 case atStart=>exact ⟨0,300,rfl,rfl,rfl,HW0,by unfold Hid; omega,HL⟩
 case round=>
 clear HW0 HL;obtain ⟨wl,rfl⟩:∃ wl:World,wl=wr:=⟨_,rfl⟩
 obtain ⟨i,m,hg,rfl,rfl,hbw,hm,hq⟩:=hrel
 by_cases hi:i<r.funcs.length∧0≤m
 ·obtain ⟨hi,hm0⟩:=hi;have hil:(i:Int)<(r.funcs.length:Int):=by omega
  have dil:decide ((i:Int)<(r.funcs.length:Int))=true:=decide_eq_true hil;have dm:decide (0≤m)=true:=decide_eq_true hm0;obtain ⟨f,hf⟩:∃ f,r.funcs[i]?=some f:=⟨r.funcs[i],List.getElem?_eq_getElem hi⟩
  have hmem:=List.mem_of_getElem? hf;have hfe:r.funcs[i]=f:=(List.getElem?_eq_some_iff.1 hf).2;have hXf:=HFX.out.up (HKX.out _ hbw.out);obtain ⟨b,o,pa,pc,da,dc,hfa,hfc⟩:=hXf.get hf;have hnp:=HZ.out.np f hmem;have hq2:=hq.out;rw[List.drop_eq_getElem_cons hi,hfe,lightF,if_neg (by omega)] at hq2;have hle:=(V9 f.body 60 (m-f.params.length))
  have HM2:Hid (((i+1:Nat):Int)+leftN 60 (m-f.params.length) f.body≤300∧-1≤leftN 60 (m-f.params.length) f.body):=by
   have:=hm.out;refine ⟨?_,hle.1⟩
   by_cases h0:0≤m-f.params.length
   ·have:=hle.2 h0; omega
   ·have h5:leftN 60 (m-f.params.length) f.body = -1:=by
     generalize f.body=e at *;obtain ⟨k,n,s,l⟩:=e;rw[leftN,Vz 60 (by omega)]
    omega
  have wk:IntKind.i64.wrap ((i:Int)+1)=(i:Int)+1:=IntWalk.i64_in _ (by have:=hm.out; omega);have wm:IntKind.i64.wrap (m-(f.params.length:Int))=m-(f.params.length:Int):=IntWalk.i64_in _ (by have:=hm.out; omega);have cl:=fun W (hW:Below wl.heap.size wl W)=>ZN 60 (by decide) f.body _ (m-f.params.length) W (hfc.body.up hW) (by omega) (by have:=hm.out; omega)
  generalize leftN 60 (m-f.params.length) f.body=m2 at *;have HQ2:=Zh hq2;have HBW:=Zh hbw.out;have HG:=Zh hg;have HHI:=Zh hi
  have F3:Hid (∀ W,Below wl.heap.size wl W→W.cell? ⟨eb,0,none⟩=some (.slice (some ⟨b,o,none⟩) r.funcs.length fc)∧W.cell? ⟨b,o+i*7+1,none⟩=some (.slice pa f.params.length pc)∧W.cell? ⟨b,o+i*7+3,none⟩=some (.int .i64 f.body.kind)∧W.cell? ⟨b,o+i*7+4,none⟩=some (.int .i64 f.body.num)∧W.cell? ⟨b,o+i*7+5,none⟩=some (.string (bs f.body.name))∧W.cell? ⟨b,o+i*7+6,none⟩=some (.slice da f.body.kids.length dc)):=by
   intro W hW;obtain ⟨q0,q1,q2,q3⟩:=FF.out _ (Ji hbw.out hW);have hk:∀ j u,wl.cell? ⟨b,o+i*7+j,none⟩=some u→W.cell? ⟨b,o+i*7+j,none⟩=some u:=fun j u hu=>(hW.cell (p:=⟨b,o+i*7+j,none⟩) hfc.blt).trans hu
   rw[hfa] at q0;exact ⟨q0,hk 1 _ hfc.c1,hk 3 _ hfc.c3,hk 4 _ hfc.c4,hk 5 _ hfc.c5,hk 6 _ hfc.c6⟩
  obtain ⟨b0,_,_,_⟩:=FF.out _ hbw.out;have HCL:=Zh cl;rw[show ((60:Nat):Int)=60 from rfl] at HCL;subst hfa;clear hle hq hq2 hm hbw hi hg hf hmem hfe hXf hfc hnp hm0 cl;go_upto_region 5 with fail;clear b0;refine wp_region_held_drew (S:=(fun W=>Below wl.heap.size wl W∧W.cell? ⟨eb,0,none⟩=some (.slice (some ⟨b,o,none⟩) r.funcs.length fc)∧W.cell? ⟨b,o+i*7+1,none⟩=some (.slice pa f.params.length pc)∧W.cell? ⟨b,o+i*7+3,none⟩=some (.int .i64 f.body.kind)∧W.cell? ⟨b,o+i*7+4,none⟩=some (.int .i64 f.body.num)∧W.cell? ⟨b,o+i*7+5,none⟩=some (.string (bs f.body.name))∧W.cell? ⟨b,o+i*7+6,none⟩=some (.slice da f.body.kids.length dc))) (by kernel_rfl) (⟨(Below.refl wl.heap.size wl).drew,F3.out _ (Below.refl wl.heap.size wl).drew⟩) (fun hH=>?_);refine ZT (i:=0) (v:=?vQ0) rfl (Or.inl ⟨by rfl,?yQ0⟩) ?_
  case yQ0=>(intro wX hSw; (try dsimp only at hSw); go_simp <;> with_reducible rfl)
  try simp only[Act.put,ZA,ZB,ZC]
  refine ZT (i:=1) (v:=?vQ1) rfl (Or.inl ⟨by rfl,?yQ1⟩) ?_
  case yQ1=>(intro wX hSw; (try dsimp only at hSw); go_simp <;> with_reducible rfl)
  try simp only[Act.put,ZA,ZB,ZC]
  refine ZT (i:=2) (v:=?vQ2) rfl (Or.inl ⟨by rfl,?yQ2⟩) ?_
  case yQ2=>(intro wX hSw; (try dsimp only at hSw); go_simp <;> with_reducible rfl)
  try simp only[Act.put,ZA,ZB,ZC]
  refine ZT (i:=3) (v:=?vQ3) rfl (Or.inl ⟨by rfl,?yQ3⟩) ?_
  case yQ3=>(intro wX hSw; (try dsimp only at hSw); go_simp <;> with_reducible rfl)
  try simp only[Act.put,ZA,ZB,ZC]
  refine ZT (i:=4) (v:=?vQ4) rfl (Or.inl ⟨by rfl,?yQ4⟩) ?_
  case yQ4=>(intro wX hSw; (try dsimp only at hSw); go_simp <;> with_reducible rfl)
  try simp only[Act.put,ZA,ZB,ZC]
  refine ZT (i:=5) (v:=?vQ5) rfl (Or.inl ⟨by rfl,?yQ5⟩) ?_
  case yQ5=>(intro wX hSw; (try dsimp only at hSw); go_simp <;> with_reducible rfl)
  try simp only[Act.put,ZA,ZB,ZC]
  refine ZT (i:=6) (v:=?vQ6) rfl (Or.inl ⟨by rfl,?yQ6⟩) ?_
  case yQ6=>(intro wX hSw; (try dsimp only at hSw); go_simp <;> with_reducible rfl)
  try simp only[Act.put,ZA,ZB,ZC]
  refine ZT (i:=7) (v:=?vQ7) rfl (Or.inl ⟨by rfl,?yQ7⟩) ?_
  case yQ7=>(intro wX hSw; (try dsimp only at hSw); go_simp <;> with_reducible rfl)
  try simp only[Act.put,ZA,ZB,ZC]
  refine ZT (i:=8) (v:=?vQ8) rfl (Or.inl ⟨by rfl,?yQ8⟩) ?_
  case yQ8=>(intro wX hSw; (try dsimp only at hSw); go_simp <;> with_reducible rfl)
  try simp only[Act.put,ZA,ZB,ZC]
  refine ZT (i:=9) (v:=?vQ9) rfl (Or.inl ⟨by rfl,?yQ9⟩) ?_
  case yQ9=>(intro wX hSw; (try dsimp only at hSw); go_simp <;> with_reducible rfl)
  try simp only[Act.put,ZA,ZB,ZC]
  refine ZT (i:=10) (v:=?vQ10) rfl (Or.inl ⟨by rfl,?yQ10⟩) ?_
  case yQ10=>(intro wX hSw; (try dsimp only at hSw); go_simp <;> with_reducible rfl)
  try simp only[Act.put,ZA,ZB,ZC]
  refine ZT (i:=11) (v:=?vQ11) rfl (Or.inl ⟨by rfl,?yQ11⟩) ?_
  case yQ11=>(intro wX hSw; (try dsimp only at hSw); go_simp <;> with_reducible rfl)
  try simp only[Act.put,ZA,ZB,ZC]
  refine ZT (i:=12) (v:=?vQ12) rfl (Or.inl ⟨by rfl,?yQ12⟩) ?_
  case yQ12=>(intro wX hSw; (try dsimp only at hSw); go_simp <;> with_reducible rfl)
  try simp only[Act.put,ZA,ZB,ZC]
  refine ZT (i:=13) (v:=?vQ13) rfl (Or.inl ⟨by rfl,?yQ13⟩) ?_
  case yQ13=>(intro wX hSw; (try dsimp only at hSw); go_simp <;> with_reducible rfl)
  try simp only[Act.put,ZA,ZB,ZC]
  refine ZT (i:=14) (v:=?vQ14) rfl (Or.inl ⟨by rfl,?yQ14⟩) ?_
  case yQ14=>(intro wX hSw; (try dsimp only at hSw); go_simp <;> with_reducible rfl)
  try simp only[Act.put,ZA,ZB,ZC]
  refine ZS 15 rfl (fun K hK=>?_)
  (go_simp; go_at_call 39; refine (HCL.out _ ((Below.refl wl.heap.size wl).drew)).mono ?_; rintro e wc0 ⟨rfl,hbc0⟩)
  refine hK.out _ _ (⟨((Below.refl wl.heap.size wl).drew).trans (hbc0.mono ((Below.refl wl.heap.size wl).drew).size),F3.out _ (((Below.refl wl.heap.size wl).drew).trans (hbc0.mono ((Below.refl wl.heap.size wl).drew).size))⟩) (fun hH=>?_);clear hK K
  try simp only[Act.put,ZA,ZB,ZC]
  refine ZT (i:=16) (v:=?vQ16) rfl (Or.inl ⟨by rfl,?yQ16⟩) ?_
  case yQ16=>(intro wX hSw; (try dsimp only at hSw); go_simp <;> with_reducible rfl)
  try simp only[Act.put,ZA,ZB,ZC]
  refine wpAnyH_done (by kernel_rfl) ?_ _;have HB7:=Zh (Ji HBW.out hH.1);clear hH;go_wp2;go_roundg (r.funcs.length-(i+1))
  case measure=>have:=HG.out; have:=HHI.out; omega
  case rel=>exact ⟨i+1,m2,by have:=HHI.out; omega,rfl,by go_num,HB7,HM2,HQ2⟩
 have hqF:lightC m r.clauses=L:=by
  by_cases h0:m<0
  ·have:=hq.out;rw[JcS h0] at this;exact this
  ·have hi2:r.funcs.length≤i:=by omega
   have:=hq.out;rw[List.drop_of_length_le hi2] at this;exact this
 obtain ⟨b0,b1,b2,b3⟩:=FF.out _ hbw.out;have HBW:=Zh hbw.out;have HM1:Hid ((0:Int)+m≤300∧-1≤m):=by have:=hm.out; unfold Hid; omega
 have HQF:Hid (lightC m (r.clauses.drop 0)=L):=hqF
 have hcond:((i:Int)<(r.funcs.length:Int)∧decide (0≤m)=false)∨¬ (i:Int)<(r.funcs.length:Int):=by
  by_cases h0:i<r.funcs.length
  ·exact .inl ⟨by omega,decide_eq_false (by omega)⟩
  ·exact .inr (by omega)
 clear hq hm hbw hi hg hqF
 rcases hcond with ⟨d1,d2⟩ | d1
 ·go_wp2_with fail;clear b0 b1 b2 b3 d1;clear d2;exact zx10
 ·go_wp2_with fail;clear b0 b1 b2 b3 d1;exact zx10
end Go.Proofs.YtncanmdgdflnpaaGreatDoor
namespace Go.Proofs.YtncanmdgdflnpaaGreatDoor
open _root_.Go.Proofs.Tryz
set_option linter.all false
set_option maxRecDepth 100000
set_option maxHeartbeats 32000000
mutual
theorem JeQ:∀ (a:Nd),siz (utN (treeN a))=siz a
 | .mk k n s o l=>by rw[treeN,utN,Jz,Jz,JeR l]
theorem JeR:∀ (l:List Nd),sizL (utL (treeL l))=sizL l
 | []=>by rw[treeL,utL]
 | a::l=>by rw[treeL,utL,Jx,Jx,JeQ a,JeR l]
end
mutual
theorem JhS:∀ (a:Nd),WfN a→NmN (treeN a)
 | .mk k n s o l,h=>by
  rw[KM] at h;rw[treeN];unfold NmN;exact ⟨by omega,JgB l h.2.2.2.2⟩
theorem JgB:∀ (l:List Nd),WfL l→NmL (treeL l)
 | [],h=>by rw[treeL]; unfold NmL; trivial
 | a::l,h=>by
  rw[JK] at h;rw[treeL];unfold NmL;exact ⟨JhS a h.1,JgB l h.2⟩
end
theorem JeS:RSz noRule:=⟨by decide,by decide,by simp[noRule],by simp[noRule]⟩
theorem Jgr {l:List UInt8} {T:List Tok} {at':Int} (h:scanR l=(T,0,at')):Tk T:=by
 unfold scanR at h;split at h
 ·simp at h
 ·cases hs:sc 0 l with
  | err k=>rw[hs] at h; simp at h
  | ok ts=>
   rw[hs] at h;simp at h;obtain ⟨rfl,rfl⟩:=h;exact Jiv _ _ _ hs
theorem JeT {s:Src} (hb:SrcB s) (hp:∀ x∈s.funcs,FnPr x) (hc:∀ x∈s.clauses,ClPr x) (he:least (resolveM s).2=none):RSz (ruleOf (resolveM s).1):=by
 obtain ⟨h1,h2,h3,h4⟩:=Y0 (m:=8194) (fun f hf=>⟨(hb.f f hf).1,(hb.f f hf).2.1,(hb.f f hf).2.2.1,(hb.f f hf).2.2.2⟩) (fun c hc=>hb.c c hc) he;have n1:=hb.nf;have n2:=hb.nc;unfold ruleOf;refine ⟨by simp only[List.length_map]; omega,by simp only[List.length_map]; omega,fun f hf=>?_,fun c hc'=>?_⟩
 ·simp only[List.mem_map] at hf;obtain ⟨g,hg,rfl⟩:=hf;obtain ⟨q1,q2,q3,_⟩:=h1 g hg
  have hname:g.name.1.length≤1000000:=by
   unfold resolveM at hg;simp only[List.mem_map] at hg;obtain ⟨_,⟨x,hx,rfl⟩,rfl⟩:=hg;exact (hb.f x hx).1.2
  exact ⟨by dsimp only; omega,by dsimp only; omega,JhS _ q1,by dsimp only; rw[JeQ]; omega⟩
 ·simp only[List.mem_map] at hc';obtain ⟨g,hg,rfl⟩:=hc';obtain ⟨q1,q2,_⟩:=h2 g hg
  have hr:textB g.reason=true:=by
   unfold resolveM at hg;simp only[List.mem_map] at hg;obtain ⟨_,⟨x,hx,rfl⟩,rfl⟩:=hg;exact (hc x hx).reason
  unfold textB at hr;simp only[Bool.and_eq_true,decide_eq_true_eq] at hr;have hr2:=hr.2;exact ⟨JhS _ q1,by dsimp only; rw[JeQ]; omega,by dsimp only; omega⟩
theorem JaI {l:List UInt8} (h:(parseM l).2.1=0):rightM (parseM l).1=true∧RSz (parseM l).1:=by
 unfold parseM at h ⊢;split
 ·rename_i h0;rw[if_pos h0] at h;have hsc:scanR l=((scanR l).1,0,(scanR l).2.2):=by rw[← h0]
  obtain ⟨_,hT,htx,hT0,hfin⟩:=Jam hsc;have htk:=Jgr hsc;generalize (scanR l).1=T at *;generalize 12*(T.length+1)=f at *
  cases hp:parseT f T with
  | none=>exact ⟨Jax,JeS⟩
  | some x=>
   rw[hp] at h;simp only[Option.getD_some] at h ⊢;obtain ⟨r,er,a⟩:=x;obtain rfl:er=0:=h;refine ⟨Jay htk hp,?_⟩
   cases hs:srcP f T with
   | out=>unfold parseT at hp; rw[hs] at hp; cases hp
   | bad o=>unfold parseT at hp; rw[hs] at hp; simp at hp
   | ok s r'=>
    rw[Y1 hs] at hp;unfold contM at hp
    cases hl:limitM s with
    | some o=>rw[hl] at hp; simp at hp
    | none=>
     rw[hl] at hp;simp only at hp
     cases hr:least (resolveM s).2 with
     | some o=>rw[hr] at hp; simp at hp
     | none=>
      rw[hr] at hp;simp only at hp
      cases hc:least (checkM (resolveM s).1) with
      | some o=>rw[hc] at hp; simp at hp
      | none=>
       rw[hc] at hp;simp only[Option.some.injEq,Prod.mk.injEq] at hp;rw[← hp.1];obtain ⟨g1,g2,_⟩:=Jex htk hs;exact JeT (Jin hs hT htx) g1 g2 hr
 ·rename_i h0;rw[if_neg h0] at h;exact absurd h h0
theorem RSz.len {r:RuleM} (h:RSz r):r.funcs.length≤9223372036854775807∧r.clauses.length≤9223372036854775807∧∀ f∈r.funcs,f.params.length≤9223372036854775807:=
 ⟨by have:=h.nf; omega,by have:=h.nc; omega,fun f hf=>by have:=(h.fn f hf).2.1; omega⟩
end Go.Proofs.YtncanmdgdflnpaaGreatDoor
namespace Go.Proofs.YtncanmdgdflnpaaGreatDoor
open Go.ChangeShapes Go.WideShapes Go.ChangeAt Go.RowKit Go.Lib
open _root_.Go.Proofs.Tryz
set_option linter.all false
set_option maxRecDepth 100000
set_option maxHeartbeats 32000000
theorem JhT (W:World):(binOp .eql 36 (.agg #[.int .i64 0,.string (bs []),.int .i64 0,.int .i64 1]) (.agg #[.int .i64 0,.string ⟨#[]⟩,.int .i64 0,.int .i64 1])).run prog W=.ok (.bool true) W:=by kernel_rfl
theorem zx13 {P:Prop}(h:P:=by
  have HJ1:=Zh hj1;have HJ2:=Zh (And.intro hj2 hj3);have hjl:j<r.clauses.length:=(List.getElem?_eq_some_iff.1 hj1).1;have HJ4:Hid (j+1≤us):=by unfold Hid; omega
  have HCX:=Zh (HRX.out.parts);have HW5:Hid (Below v.heap.size v v5):=Ji HV3.out HV5.out;have HW50:Hid (Below v4.heap.size v4 v5):=HV5.out;have HJL:=Zh hjl;have HZC:=Zh HZ.out.nc;clear hj1 hj2 hj3 hj4 hus;go_wp2_with fail;clear o0 o1 o2 o3 r0 r1 r2;go_loopg [10] r.clauses.length (fun g v10 wr=>∃ i:Nat,g+i=r.clauses.length∧v10=.int .i64 i∧Hid (i≤j)∧Hid (Below v4.heap.size v4 wr))
  case atStart=>exact ⟨0,rfl,rfl,by unfold Hid; omega,HW50⟩
  case round=>
  clear HW50 HW5 HFIN HV5;obtain ⟨wl,rfl⟩:∃ wl:World,wl=wr:=⟨_,rfl⟩
  obtain ⟨i,hg,rfl,hij,hbw⟩:=hrel;have hi:i<r.clauses.length:=by have:=hij.out; have:=HJL.out; omega
  have hil:(i:Int)<(r.clauses.length:Int):=by omega
  have wk:IntKind.i64.wrap ((i:Int)+1)=(i:Int)+1:=IntWalk.i64_in _ (by have:=HZC.out; omega);obtain ⟨m,hm⟩:∃ m,r.clauses[i]?=some m:=⟨r.clauses[i],List.getElem?_eq_getElem hi⟩
  have hvl:Below v.heap.size v wl:=Ji HV3.out hbw.out;obtain ⟨fa',fc',ca',cc',hce,_,hcx⟩:=(HRX.out.up hvl).parts;injection hce with hce;injection hce with _ hce;injection hce with hce _;injection hce with hca hcl hcc;subst hca hcc;obtain ⟨b,o,da,dc,had,hfc⟩:=hcx.get hm;have c4:=hfc.c4;have c5:=hfc.c5;obtain ⟨r0,r1,r2⟩:=FR.out _ hvl;obtain ⟨o0,o1,o2,o3⟩:=FO.out _ hbw.out;rw[had] at r1;have HBD:Hid (Below v4.heap.size v4 wl.drew):=hbw.out.drew;have HFIN:Hid (Bel w wl.drew):=Ji HB3.out (Ji HV3.out HBD.out);have HG:=Zh hg;have HHI:=Zh hi;have HIJ:=hij;have HM:=Zh hm
  have HMF:Hid (i=j→m.action=act∧m.reason=rea):=by
   intro e;subst e;have h1:=HJ1.out;rw[hm] at h1;obtain rfl:=Option.some.inj h1;exact HJ2.out
  have v1:=Jm m.reason;have v2:=Jm rea;clear hcx hfc hg hi hm hij had hvl hbw
  by_cases g1:m.action=act
  ·have f1:(m.action==act)=true:=beq_iff_eq.2 g1
   by_cases g2:m.reason=rea
   ·have f2:(m.reason==rea)=true:=beq_iff_eq.2 g2;have hui:(i:Int)+1≤(us:Int):=by have:=HJ4.out; have:=HIJ.out; omega
    have dui:decide ((i:Int)+1≤(us:Int))=true:=decide_eq_true hui;have duN:decide (i+1≤us)=true:=decide_eq_true (by omega);have duN2:decide (i<us)=true:=decide_eq_true (by omega);clear g1 g2 hui;go_upto_region 19 with fail;go_region;clear c4 c5 r0 r1 r2 o0 o1 o3;have o2':wl.drew.cell? ⟨ob,2,none⟩=some (.int .i64 us):=o2;go_wp2;go_ret;exact ⟨rfl,HFIN.out⟩
   ·have f2:(m.reason==rea)=false:=beq_eq_false_iff_ne.2 g2
    have hne:i+1≤j:=by
     have:=HIJ.out
     rcases Nat.lt_or_ge i j with h | h
     ·exact h
     ·exact absurd (HMF.out (by omega)).2 g2
    have HNE:=Zh hne;clear g1 g2 hne;go_upto_region 19 with fail;go_region;clear c4 c5 r0 r1 r2 o0 o1 o2 o3;go_wp2;go_roundg (r.clauses.length-(i+1))
    case measure=>have:=HG.out; have:=HHI.out; omega
    case rel=>exact ⟨i+1,by have:=HHI.out; omega,by go_num,HNE,HBD⟩
  ·have f1:(m.action==act)=false:=beq_eq_false_iff_ne.2 g1
   have hne:i+1≤j:=by
    have:=HIJ.out
    rcases Nat.lt_or_ge i j with h | h
    ·exact h
    ·exact absurd (HMF.out (by omega)).1 g1
   have HNE:=Zh hne;clear g1 hne;go_upto_region 19 with fail;go_region;clear c4 c5 r0 r1 r2 o0 o1 o2 o3;go_wp2;go_roundg (r.clauses.length-(i+1))
   case measure=>have:=HG.out; have:=HHI.out; omega
   case rel=>exact ⟨i+1,by have:=HHI.out; omega,by go_num,HNE,HBD⟩):P:=h
theorem JeU (l:List UInt8) (F:FactsM) (la wa:Option Addr) (lc wc:Nat) (w:World) (hl:l.length≤140737488355328) (hlab:LabsAt w (.slice la F.labels.length lc) F.labels) (hwd:WordsAt w (.slice wa F.words.length wc) F.words) (hL:Laid w) :
  Calls prog 8 #[.string (bs l),.agg (factsC F (.slice la F.labels.length lc) (.slice wa F.words.length wc))] w (BoolPost w true):=by
 have z1:=JM l;unfold factsC;have hb1:Below w.heap.size w (w.alloc (.cells #[.slice la F.labels.length lc,.int .i64 F.likes,.int .i64 F.boosts,.int .i64 F.replies,.int .i64 F.reports,.int .i64 F.age,.int .i64 F.home,.int .i64 F.scope,.int .i64 F.length,.bool F.follows,.bool F.reply,.slice wa F.words.length wc] 25)):=(Below.refl _ _).alloc (Nat.le_refl _) _;have HB1:Hid (Bel w (w.alloc (.cells #[.slice la F.labels.length lc,.int .i64 F.likes,.int .i64 F.boosts,.int .i64 F.replies,.int .i64 F.reports,.int .i64 F.age,.int .i64 F.home,.int .i64 F.scope,.int .i64 F.length,.bool F.follows,.bool F.reply,.slice wa F.words.length wc] 25))):=hb1;have HFB:=Zh (heap_alloc_new w (.cells #[.slice la F.labels.length lc,.int .i64 F.likes,.int .i64 F.boosts,.int .i64 F.replies,.int .i64 F.reports,.int .i64 F.age,.int .i64 F.home,.int .i64 F.scope,.int .i64 F.length,.bool F.follows,.bool F.reply,.slice wa F.words.length wc] 25));have HLAB:=Zh hlab;have HWD:=Zh hwd;have HL:=Zh hL;obtain ⟨n,hn⟩:∃ n,l.length=n:=⟨_,rfl⟩
 rw[hn] at z1 hl;have HN:=Zh hn;clear hb1 hlab hwd hL hn;go_enter func8,ntmps8;go_upto_region 1 with fail;have HFL:=Zh (Jb HFB.out);generalize World.alloc w _=w1 at *;generalize w.heap.size=fb at *
 have FF:Hid (∀ W,Below w1.heap.size w1 W→W.cell? ⟨fb,0,none⟩=some (.slice la F.labels.length lc)∧W.cell? ⟨fb,1,none⟩=some (.int .i64 F.likes)∧W.cell? ⟨fb,2,none⟩=some (.int .i64 F.boosts)∧W.cell? ⟨fb,3,none⟩=some (.int .i64 F.replies)∧W.cell? ⟨fb,4,none⟩=some (.int .i64 F.reports)∧W.cell? ⟨fb,5,none⟩=some (.int .i64 F.age)∧W.cell? ⟨fb,6,none⟩=some (.int .i64 F.home)∧W.cell? ⟨fb,7,none⟩=some (.int .i64 F.scope)∧W.cell? ⟨fb,8,none⟩=some (.int .i64 F.length)∧W.cell? ⟨fb,9,none⟩=some (.bool F.follows)∧W.cell? ⟨fb,10,none⟩=some (.bool F.reply)∧W.cell? ⟨fb,11,none⟩=some (.slice wa F.words.length wc)):=by
  intro W hW;have hf:=(hW.block _ HFL.out).trans HFB.out;refine ⟨?_,?_,?_,?_,?_,?_,?_,?_,?_,?_,?_,?_⟩ <;> (rw[Ja hf]; rfl)
 go_wp2_with fail;refine (JeO w1 (HL.out.below HB1.out)).mono ?_;rintro e w2 ⟨rfl,hb2⟩;have HX2:Hid (Below w1.heap.size w1 w2):=hb2;have HB2:Hid (Bel w w2):=Ji HB1.out hb2;clear hb2 HB1
 by_cases hn2:2000<n
 ·have d1:decide (2000<(n:Int))=true:=decide_eq_true (by omega);have d1N:decide (2000<n)=true:=decide_eq_true hn2;clear hn2;go_wp2;go_ret;exact ⟨rfl,HB2.out⟩
 have d1:decide (2000<(n:Int))=false:=decide_eq_false (by omega);have d1N:decide (2000<n)=false:=decide_eq_false hn2;clear hn2;have cp:=parse_any' l w2 (by rw[HN.out]; omega) (HL.out.below HB2.out);have HPF:Hid ((parseM l).2.1=0→rightM (parseM l).1=true∧RSz (parseM l).1):=fun h=>JaI h
 obtain ⟨⟨r,er,at0⟩,hpm⟩:∃ x,parseM l=x:=⟨_,rfl⟩
 rw[hpm] at cp HPF;dsimp only at HPF;clear hpm;go_wp2_with fail;refine cp.mono ?_;intro e u hps;obtain ⟨c,rfl,hx,hb⟩:=hps.inw;dsimp only at hx;dsimp only;clear cp hps d1 d1N;obtain ⟨fa,fc,ca,cc,rfl,_,_⟩:=hx.parts;have hq:Below u.heap.size u (u.alloc (.cells #[.slice fa r.funcs.length fc,.slice ca r.clauses.length cc,.int .i64 r.action] 30)):=(Below.refl _ _).alloc (Nat.le_refl _) _;have HX3:Hid (Below w1.heap.size w1 (u.alloc (.cells #[.slice fa r.funcs.length fc,.slice ca r.clauses.length cc,.int .i64 r.action] 30))):=Ji HX2.out (Ji hb hq);have HB3:Hid (Bel w (u.alloc (.cells #[.slice fa r.funcs.length fc,.slice ca r.clauses.length cc,.int .i64 r.action] 30))):=Ji HB2.out (Ji hb hq);have HRB:=Zh (heap_alloc_new u (.cells #[.slice fa r.funcs.length fc,.slice ca r.clauses.length cc,.int .i64 r.action] 30));have HRX:=Zh (hx.up hq);clear hx hb hq HX2 HB2;go_upto_region 5 with fail;have HRL:=Zh (Jb HRB.out);generalize World.alloc u _=v at *;generalize u.heap.size=rb at *
 have FR:Hid (∀ W,Below v.heap.size v W→W.cell? ⟨rb,0,none⟩=some (.slice fa r.funcs.length fc)∧W.cell? ⟨rb,1,none⟩=some (.slice ca r.clauses.length cc)∧W.cell? ⟨rb,2,none⟩=some (.int .i64 r.action)):=by
  intro W hW;have hf:=(hW.block _ HRL.out).trans HRB.out;refine ⟨?_,?_,?_⟩ <;> (rw[Ja hf]; rfl)
 by_cases her:er=0
 ·subst her;obtain ⟨hrr,hrz⟩:=HPF.out rfl;have HZ:=Zh hrz;have HR:=Zh hrr;clear hrr hrz HPF;obtain ⟨b0,b1,b2,b3,b4,b5,b6,b7,b8,b9,b10,b11⟩:=FF.out _ HX3.out;obtain ⟨r0,r1,r2⟩:=FR.out _ (Below.refl _ _);have cl:=JeP r F _ la wa lc wc v HRX.out ⟨HZ.out.len.1,HZ.out.len.2.1,HZ.out.len.2.2⟩;unfold factsC at cl;go_wp2_with fail;refine cl.mono ?_;rintro e v2 ⟨rfl,hb⟩;have HV2:Hid (Below v.heap.size v v2):=hb;clear cl hb b0 b1 b2 b3 b4 b5 b6 b7 b8 b9 b10 b11 r0 r1 r2
  cases hli:lightM r F with
  | false=>
   have HFIN:Hid (Bel w v2):=Ji HB3.out HV2.out;clear hli;go_wp2;go_ret;exact ⟨rfl,HFIN.out⟩
  | true=>
  have HFZ:=Zh (Jgq hli);clear hli;obtain ⟨b0,b1,b2,b3,b4,b5,b6,b7,b8,b9,b10,b11⟩:=FF.out _ (Ji HX3.out HV2.out);obtain ⟨r0,r1,r2⟩:=FR.out _ HV2.out;have hbw2:Bel w v2:=Ji HB3.out HV2.out;have cr:=YI r F _ (.slice la F.labels.length lc) (.slice wa F.words.length wc) v2 (HRX.out.up HV2.out) HZ.out HFZ.out (HLAB.out.up hbw2) (HWD.out.up hbw2);unfold factsC RunP at cr;have HEN:Hid (factsM F=true→EndsOk r 0 r.clauses (runM r F)):=fun h=>Jep r F h
  have HEB:Hid (factsM F=false→runM r F=⟨0,[],0,1⟩):=fun h=>JfX r F h
  obtain ⟨⟨act,rea,us,fl⟩,hru⟩:∃ x,runM r F=x:=⟨_,rfl⟩
  rw[hru] at cr HEN HEB;unfold outC at cr;dsimp only at cr;clear hru;go_wp2_with fail;refine cr.mono ?_;rintro e v3 ⟨rfl,hb⟩;have hq:Below v3.heap.size v3 (v3.alloc (.cells #[.int .i64 act,.string (bs rea),.int .i64 us,.int .i64 fl] 36)):=(Below.refl _ _).alloc (Nat.le_refl _) _;have HV3:Hid (Below v.heap.size v (v3.alloc (.cells #[.int .i64 act,.string (bs rea),.int .i64 us,.int .i64 fl] 36))):=Ji HV2.out (Ji hb hq);have HOB:=Zh (heap_alloc_new v3 (.cells #[.int .i64 act,.string (bs rea),.int .i64 us,.int .i64 fl] 36));clear cr hb hq b0 b1 b2 b3 b4 b5 b6 b7 b8 b9 b10 b11 r0 r1 r2 hbw2 HV2;go_upto_region 8 with fail;have HOL:=Zh (Jb HOB.out);generalize World.alloc v3 _=v4 at *;generalize v3.heap.size=ob at *
  have FO:Hid (∀ W,Below v4.heap.size v4 W→W.cell? ⟨ob,0,none⟩=some (.int .i64 act)∧W.cell? ⟨ob,1,none⟩=some (.string (bs rea))∧W.cell? ⟨ob,2,none⟩=some (.int .i64 us)∧W.cell? ⟨ob,3,none⟩=some (.int .i64 fl)):=by
   intro W hW;have hf:=(hW.block _ HOL.out).trans HOB.out;refine ⟨?_,?_,?_,?_⟩ <;> (rw[Ja hf]; rfl)
  obtain ⟨b0,b1,b2,b3,b4,b5,b6,b7,b8,b9,b10,b11⟩:=FF.out _ (Ji HX3.out HV3.out);have hbw4:Bel w v4:=Ji HB3.out HV3.out;have cf:=Za F (.slice la F.labels.length lc) (.slice wa F.words.length wc) v4 HFZ.out (HLAB.out.up hbw4) (HWD.out.up hbw4);unfold factsC at cf;go_wp2_with fail;refine cf.mono ?_;rintro e v5 ⟨rfl,hb⟩;have HV5:Hid (Below v4.heap.size v4 v5):=hb;have HFIN:Hid (Bel w v5):=Ji hbw4 hb;clear cf hb hbw4 b0 b1 b2 b3 b4 b5 b6 b7 b8 b9 b10 b11;obtain ⟨o0,o1,o2,o3⟩:=FO.out _ HV5.out
  cases hff:factsM F with
  | false=>
   have hxe:=HEB.out hff;injection hxe with e1 e2 e3 e4;subst e1 e2 e3 e4;have heq:=JhT;clear hff HEN HEB;go_wp2;go_ret;exact ⟨rfl,HFIN.out⟩
  | true=>
  have hen:=HEN.out hff;have HEO:=Zh hen;clear hff hen HEN HEB;have hus:us≤10000:=HEO.out.le;have du0:decide ((us:Int)<0)=false:=decide_eq_false (by omega);have du1:decide ((10000:Int)<(us:Int))=false:=decide_eq_false (by omega);have du1N:decide (10000<us)=false:=decide_eq_false (by omega)
  by_cases hfl:fl=0
  ·subst hfl;obtain ⟨r0,r1,r2⟩:=FR.out _ (Ji HV3.out HV5.out);have u1:=Jm rea
   by_cases hA:act=r.action
   ·have eA:(act==r.action)=true:=beq_iff_eq.2 hA
    by_cases hR0:rea=[]
    ·subst hR0;have e0:(([]:List UInt8)==[])=true:=rfl;clear hA hus;go_wp2;go_ret;exact ⟨rfl,HFIN.out⟩
    have e0:(rea==[])=false:=beq_eq_false_iff_ne.2 hR0;have e0':rea.isEmpty=false:=by cases rea with | nil=>exact absurd rfl hR0 | cons a b=>rfl
    obtain ⟨j,cj,hj1,hj2,hj3,hj4⟩:∃ j c,r.clauses[j]?=some c∧c.action=act∧c.reason=rea∧0+j+1≤us:=by
     rcases HEO.out.good rfl with ⟨_,h2⟩ | h
     ·exact absurd h2 hR0
     ·exact h
    have HA:=Zh hA;clear hA hR0;exact zx13
   ·have eA:(act==r.action)=false:=beq_eq_false_iff_ne.2 hA
    obtain ⟨j,cj,hj1,hj2,hj3,hj4⟩:∃ j c,r.clauses[j]?=some c∧c.action=act∧c.reason=rea∧0+j+1≤us:=by
     rcases HEO.out.good rfl with ⟨h2,_⟩ | h
     ·exact absurd h2 hA
     ·exact h
    clear hA;exact zx13
  obtain ⟨ea,er,ef⟩:=HEO.out.bad hfl;dsimp only at ea er ef;subst ea er;have u1:=Jm ([]:List UInt8);have e0:(([]:List UInt8)==[])=true:=rfl
  rcases ef with rfl | rfl | ⟨rfl,hu4⟩
  ·clear hfl hus;go_wp2;go_ret;exact ⟨rfl,HFIN.out⟩
  ·clear hfl hus;go_wp2;go_ret;exact ⟨rfl,HFIN.out⟩
  ·subst hu4;clear hfl hus;go_wp2;go_ret;exact ⟨rfl,HFIN.out⟩
 ·have e0:(er==0)=false:=beq_eq_false_iff_ne.2 her;have e0':(er !=0)=true:=by rw[bne,e0]; rfl
  clear her;go_wp2;go_ret;exact ⟨rfl,HB3.out⟩
end Go.Proofs.YtncanmdgdflnpaaGreatDoor
