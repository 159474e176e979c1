import Derived.ChangeArms
import Derived.Test.YtncanmdgdflnpaaGreatDoorV35
namespace Go.Proofs.YtncanmdgdflnpaaGreatDoor
open Go.ChangeShapes Go.WideShapes Go.ChangeAt Go.RowKit Go.Lib
open _root_.Go.Proofs.Tryz
set_option linter.all false
set_option maxRecDepth 100000
set_option maxHeartbeats 32000000
mutual
def leftN:Nat→Int→Exp→Int
 | d,n,.mk _ _ _ l=>leftL d (n-1) l
def leftL:Nat→Int→List Exp→Int
 | d,n,[]=>if n<0 then -1 else n
 | d,n,a::l=>if n<0 then -1 else match d with | 0=>-1 | d+1=>leftL (d+1) (leftN d n a) l
end
def leftK (d:Nat) (n:Int) (a:Exp) (l:List Exp):Int:=match d with | 0=>-1 | d+1=>leftL (d+1) (leftN d n a) l
theorem YP (d:Nat) (n:Int):leftL d n []=if n<0 then -1 else n:=by
 conv=>lhs; unfold leftL
theorem K8 (d:Nat) (n:Int) (a:Exp) (l:List Exp):leftL d n (a::l)=if n<0 then -1 else leftK d n a l:=by
 conv=>lhs; unfold leftL
 rfl
theorem KW (d:Nat) {n:Int} (h:n<0):∀ l,leftL d n l = -1
 | []=>by rw[YP,if_pos h]
 | a::l=>by rw[K8,if_pos h]
mutual
theorem Yb:∀ (e:Exp) (d:Nat) (n:Int),-1≤leftN d n e∧(0≤n→leftN d n e≤n-1)
 | .mk k m s l,d,n=>by
  rw[leftN];obtain ⟨h1,h2⟩:=Jcz l d (n-1);refine ⟨h1,fun h=>?_⟩
  by_cases h0:0≤n-1
  ·exact h2 h0
  ·rw[KW d (by omega) l];omega
theorem Jcz:∀ (l:List Exp) (d:Nat) (n:Int),-1≤leftL d n l∧(0≤n→leftL d n l≤n)
 | [],d,n=>by
  rw[YP];split
  ·exact ⟨by omega,fun h=>by omega⟩
  ·exact ⟨by omega,fun h=>by omega⟩
 | a::l,d,n=>by
  rw[K8];split
  ·exact ⟨by omega,fun h=>by omega⟩
  ·cases d with
   | zero=>exact ⟨by simp[leftK],fun h=>by simp[leftK]; omega⟩
   | succ d=>
    show -1≤leftL (d+1) (leftN d n a) l∧(0≤n→leftL (d+1) (leftN d n a) l≤n)
    obtain ⟨h1,h2⟩:=Yb a d n;obtain ⟨h3,h4⟩:=Jcz l (d+1) (leftN d n a);refine ⟨h3,fun h=>?_⟩
    by_cases h0:0≤leftN d n a
    ·have:=h4 h0; have:=h2 h; omega
    ·rw[KW (d+1) (by omega) l]; omega
end
def lightF:Int→List FnM→Int
 | n,[]=>n
 | n,f::l=>if n<0 then n else lightF (leftN 60 (n-f.params.length) f.body) l
def lightC:Int→List ClM→Int
 | n,[]=>n
 | n,c::l=>if n<0 then n else lightC (leftN 60 n c.cond) l
def lightM (r:RuleM) (F:FactsM):Bool:=decide (0≤lightC (lightF 300 r.funcs) r.clauses)&&decide (F.labels.length≤100)&&decide (F.words.length≤100)
theorem JgQ {r:RuleM} {F:FactsM} (h:lightM r F=true):FSz F:=by
 unfold lightM at h;simp only[Bool.and_eq_true,decide_eq_true_eq] at h;exact ⟨by omega,by omega⟩
theorem vx123 {P:Prop}(h:P:=by
  subst hq1;clear hq hm hbw hi hg hm0;go_wp2;go_ret
  exact ⟨rfl,HFIN.out⟩):P:=h
theorem JaU (d:Nat) (IH:∀ d',d=d'+1→∀ (e:Exp) (c:Array Value) (n:Int) (W:World),XAt W (In W) e c→-9223372036854775807≤n→n≤1000000→Calls prog 39 #[.agg c,.int .i64 n,.int .i64 d'] W (BelP W (.int .i64 (leftN d' n e))))
  (hd:d≤60) (k nn:Int) (s:List UInt8) (l:List Exp) (ad:Option Addr) (cc:Nat) (n:Int) (w:World) (hK:KidsX w ad l) (h1:-9223372036854775807≤n) (h2:n≤1000000) :
  Calls prog 39 #[.agg #[.int .i64 k,.int .i64 nn,.string (bs s),.slice ad l.length cc],.int .i64 n,.int .i64 d] w (BelP w (.int .i64 (leftN d n (.mk k nn s l)))):=by
 obtain ⟨q,hq⟩:∃ q,leftN d n (.mk k nn s l)=q:=⟨_,rfl⟩
 rw[hq];rw[leftN] at hq;have HQ:Hid (leftL d (n-1) (l.drop 0)=q):=hq;have hb1:Below w.heap.size w (w.alloc (.cells #[.int .i64 k,.int .i64 nn,.string (bs s),.slice ad l.length cc] 50)):=(Below.refl _ _).alloc (Nat.le_refl _) _;have HCP:=Zh (heap_alloc_new w (.cells #[.int .i64 k,.int .i64 nn,.string (bs s),.slice ad l.length cc] 50));have HKX:Hid (∀ W,Below (w.alloc (.cells #[.int .i64 k,.int .i64 nn,.string (bs s),.slice ad l.length cc] 50)).heap.size (w.alloc (.cells #[.int .i64 k,.int .i64 nn,.string (bs s),.slice ad l.length cc] 50)) W→Bel w W):=fun W hW=>Je hb1 hW
 have HKD:=Zh hK;have HIH:=Zh IH;have wn:IntKind.i64.wrap (n-1)=n-1:=IntWalk.i64_in _ (by omega);have HN0:Hid ((0:Int)+(n-1)≤1000000∧-9223372036854775808≤n-1):=by unfold Hid; omega
 clear hq hb1 hK IH h1 h2;go_enter func39,ntmps39;go_upto_region 1 with fail;have HEB:Hid (w.heap.size<(w.alloc (.cells #[.int .i64 k,.int .i64 nn,.string (bs s),.slice ad l.length cc] 50)).heap.size):=Jb HCP.out;generalize World.alloc w _=w1 at *;generalize w.heap.size=eb at *
 have FF:Hid (∀ W,Below w1.heap.size w1 W→W.cell? ⟨eb,3,none⟩=some (.slice ad l.length cc)):=by
  intro W hW;have hh:=(hW.block _ HEB.out).trans HCP.out;rw[Ja hh]; rfl
 have HW0:Hid (Below w1.heap.size w1 w1):=Below.refl _ _;go_wp2_with fail;clear wn;go_loopg [1,7] l.length (fun g v1 v7 wr=>∃ (i:Nat) (m:Int),g+i=l.length∧v1=.int .i64 m∧v7=.int .i64 i∧Hid (Below w1.heap.size w1 wr)∧Hid ((i:Int)+m≤1000000∧-9223372036854775808≤m)∧Hid (leftL d m (l.drop i)=q))
 case atStart=>exact ⟨0,n-1,rfl,rfl,rfl,HW0,HN0,HQ⟩
 case round=>
 clear HW0 HN0 HQ;obtain ⟨wl,rfl⟩:∃ wl:World,wl=wr:=⟨_,rfl⟩
 obtain ⟨i,m,hg,rfl,rfl,hbw,hm,hq⟩:=hrel;have b3:=FF.out _ hbw.out;have HFIN:Hid (Bel w wl):=HKX.out _ hbw.out
 by_cases hi:i<l.length
 ·have hil:(i:Int)<(l.length:Int):=by omega
  have dil:decide ((i:Int)<(l.length:Int))=true:=decide_eq_true hil
  by_cases hm0:0≤m
  ·have dm:decide (0≤m)=true:=decide_eq_true hm0
   have hdr:leftL d m (l.drop i)=leftK d m l[i] (l.drop (i+1)):=by
    rw[List.drop_eq_getElem_cons hi,K8,if_neg (by omega)]
   rw[hdr] at hq;have wk:IntKind.i64.wrap ((i:Int)+1)=(i:Int)+1:=IntWalk.i64_in _ (by have:=hm.out; omega)
   cases d with
   | zero=>
    have hq1:q = -1:=hq.out.symm;subst hq1;clear hq hm hbw hdr hi hg;go_wp2;go_ret;exact ⟨rfl,HFIN.out⟩
   | succ d=>
    obtain ⟨y,hy⟩:∃ y,l[i]?=some y:=⟨l[i],List.getElem?_eq_getElem hi⟩
    have hye:l[i]=y:=(List.getElem?_eq_some_iff.1 hy).2;rw[hye] at hq;have hq2:leftL (d+1) (leftN d m y) (l.drop (i+1))=q:=hq.out;obtain ⟨b,o,da,dc,had,hxy,c0,c1,c2,c3⟩:=HKD.out.at' (HKX.out _ hbw.out) hy;have ed:(((d+1:Nat):Int)==0)=false:=beq_eq_false_iff_ne.2 (by omega);have wd:IntKind.i64.wrap (((d+1:Nat):Int)-1)=(d:Int):=by rw[IntWalk.i64_in _ (by omega)]; omega
    have ci:=HIH.out d rfl y _ m wl hxy (by omega) (by have:=hm.out; omega);obtain ⟨h3,h4⟩:=Yb y d m;have hb4:=h4 hm0;have HM2:Hid (((i+1:Nat):Int)+leftN d m y≤1000000∧-9223372036854775808≤leftN d m y):=by have:=hm.out; unfold Hid; omega
    have HQ2:=Zh hq2;have HBW:=Zh hbw.out;have HG:=Zh hg;have HHI:=Zh hi;generalize leftN d m y=m2 at *;subst had;rw[Int.natCast_add,Int.natCast_one] at ed wd;clear h3 h4 hb4 hq hq2 hm hbw hdr hi hg hye hy hxy;go_wp2_with fail;refine ci.mono ?_;rintro e w7 ⟨rfl,hb7⟩;have HB7:=Zh (Je HBW.out hb7);clear ci hb7 b3 c0 c1 c2 c3 ed wd;go_wp2;go_roundg (l.length-(i+1))
    case measure=>have:=HG.out; have:=HHI.out; omega
    case rel=>exact ⟨i+1,m2,by have:=HHI.out; omega,rfl,by go_num,HB7,HM2,HQ2⟩
  ·have dm:decide (0≤m)=false:=decide_eq_false hm0;have dm2:decide (m<0)=true:=decide_eq_true (by omega);have hq1:q = -1:=by rw[← hq.out,KW d (by omega)]
   exact vx123
 ·have hil:¬ (i:Int)<(l.length:Int):=by omega
  have dil:decide ((i:Int)<(l.length:Int))=false:=decide_eq_false hil;have hq1:q=if m<0 then -1 else m:=by rw[← hq.out,List.drop_of_length_le (by omega),leftL]
  by_cases hm0:m<0
  ·have dm:decide (m<0)=true:=decide_eq_true hm0;rw[if_pos hm0] at hq1;exact vx123
  ·have dm:decide (m<0)=false:=decide_eq_false hm0;rw[if_neg hm0] at hq1;exact vx123
theorem ZU:∀ d:Nat,d≤60→∀ (e:Exp) (c:Array Value) (n:Int) (W:World),XAt W (In W) e c→-9223372036854775807≤n→n≤1000000→Calls prog 39 #[.agg c,.int .i64 n,.int .i64 d] W (BelP W (.int .i64 (leftN d n e)))
 | 0,hd,.mk k nn s l,c,n,W,hx,h1,h2=>by
  obtain ⟨ad,cc,rfl,_,hK⟩:=hx.kids;exact JaU 0 (fun d' h=>by omega) hd k nn s l ad cc n W hK h1 h2
 | d+1,hd,.mk k nn s l,c,n,W,hx,h1,h2=>by
  obtain ⟨ad,cc,rfl,_,hK⟩:=hx.kids;refine JaU (d+1) (fun d' h=>?_) hd k nn s l ad cc n W hK h1 h2;obtain rfl:d=d':=by omega
  exact ZU d (by omega)
structure RLen (r:RuleM):Prop where
 nf:r.funcs.length≤9223372036854775807
 nc:r.clauses.length≤9223372036854775807
 np:∀ f∈r.funcs,f.params.length≤9223372036854775807
theorem Jdw {n:Int} (h:n<0) (l:List FnM):lightF n l=n:=by
 cases l with
 | nil=>rfl
 | cons a l=>rw[lightF,if_pos h]
theorem Jdx {n:Int} (h:n<0) (l:List ClM):lightC n l=n:=by
 cases l with
 | nil=>rfl
 | cons a l=>rw[lightC,if_pos h]
theorem vx93 {P:Prop}(h:P:=by
  rw[dwN] at hqv;subst hqv
  rcases hcond with ⟨c1,c2⟩ | c1
  all_goals first
   | (exfalso; rw[d0] at c2; cases c2)
   | (clear h0 hl1 hw1; go_wp2; go_ret; exact ⟨rfl,HFIN.out⟩)):P:=h
theorem vx7 {P:Prop}(h:P:=by
  go_loopg [5,7] r.clauses.length (fun g v5 v7 wr=>∃ (j:Nat) (n:Int),g+j=r.clauses.length∧v5=.int .i64 n∧v7=.int .i64 j∧Hid (Below w1.heap.size w1 wr)∧Hid ((j:Int)+n≤300∧-1≤n)∧Hid (lightC n (r.clauses.drop j)=L))
  case atStart=>exact ⟨0,m,rfl,rfl,rfl,HBW,HM1,HQF⟩
  case round=>
  clear HBW HM1 HQF;obtain ⟨wm,rfl⟩:∃ wm:World,wm=wr:=⟨_,rfl⟩
  obtain ⟨j,n,hg,rfl,rfl,hbw,hm,hq⟩:=hrel
  by_cases hi:j<r.clauses.length∧0≤n
  ·obtain ⟨hi,hm0⟩:=hi;have hil:(j:Int)<(r.clauses.length:Int):=by omega
   have dil:decide ((j:Int)<(r.clauses.length:Int))=true:=decide_eq_true hil;have dm:decide (0≤n)=true:=decide_eq_true hm0;obtain ⟨f,hf⟩:∃ f,r.clauses[j]?=some f:=⟨r.clauses[j],List.getElem?_eq_getElem hi⟩
   have hfe:r.clauses[j]=f:=(List.getElem?_eq_some_iff.1 hf).2;have hXf:=HCX.out.up (HKX.out _ hbw.out);obtain ⟨b,o,da,dc,hfa,hfc⟩:=hXf.get hf;have hq2:=hq.out;rw[List.drop_eq_getElem_cons hi,hfe,lightC,if_neg (by omega)] at hq2;have hle:=(Yb f.cond 60 n)
   have HM2:Hid (((j+1:Nat):Int)+leftN 60 n f.cond≤300∧-1≤leftN 60 n f.cond):=by
    have:=hm.out;have:=hle.2 hm0;exact ⟨by omega,hle.1⟩
   have wk:IntKind.i64.wrap ((j:Int)+1)=(j:Int)+1:=IntWalk.i64_in _ (by have:=hm.out; omega);have cl:=ZU 60 (by decide) f.cond _ n wm hfc.cond (by omega) (by have:=hm.out; omega);generalize leftN 60 n f.cond=m2 at *;have HQ2:=Zh hq2;have HBW:=Zh hbw.out;have HG:=Zh hg;have HHI:=Zh hi;have c0:=hfc.c0;have c1:=hfc.c1;have c2:=hfc.c2;have c3:=hfc.c3;obtain ⟨b0,b1,b2,b3⟩:=FF.out _ hbw.out;rw[show ((60:Nat):Int)=60 from rfl] at cl;subst hfa;clear hle hq hq2 hm hbw hi hg hf hfe hXf hfc hm0;go_wp2_with fail;refine cl.mono ?_;rintro e w7 ⟨rfl,hb7⟩;have HB7:=Zh (Je HBW.out hb7);clear cl hb7 b0 b1 b2 b3 c0 c1 c2 c3;go_wp2;go_roundg (r.clauses.length-(j+1))
   case measure=>have:=HG.out; have:=HHI.out; omega
   case rel=>exact ⟨j+1,m2,by have:=HHI.out; omega,rfl,by go_num,HB7,HM2,HQ2⟩
  have hnL:n=L:=by
   by_cases h0:n<0
   ·have:=hq.out;rw[Jdx h0] at this;exact this
   ·have hi2:r.clauses.length≤j:=by omega
    have:=hq.out;rw[List.drop_of_length_le hi2] at this;exact this
  subst hnL;obtain ⟨b0,b1,b2,b3⟩:=FF.out _ hbw.out;have HFIN:Hid (Bel w wm):=HKX.out _ hbw.out
  have hcond:((j:Int)<(r.clauses.length:Int)∧decide (0≤n)=false)∨¬ (j:Int)<(r.clauses.length:Int):=by
   by_cases h0:j<r.clauses.length
   ·exact .inl ⟨by omega,decide_eq_false (by omega)⟩
   ·exact .inr (by omega)
  have hqv:q=(decide (0≤n)&&decide (F.labels.length≤100)&&decide (F.words.length≤100)):=by
   rw[← HQ.out];unfold lightM;rw[HLE.out]
  clear hq hm hbw hi hg
  by_cases h0:0≤n
  ·have d0:decide (0≤n)=true:=decide_eq_true h0;rw[d0,Bool.true_and] at hqv
   by_cases hl1:F.labels.length≤100
   ·have dl:decide ((F.labels.length:Int)≤100)=true:=decide_eq_true (by omega);have dlN:decide (F.labels.length≤100)=true:=decide_eq_true hl1;rw[dlN,Bool.true_and] at hqv
    by_cases hw1:F.words.length≤100
    ·have dw:decide ((F.words.length:Int)≤100)=true:=decide_eq_true (by omega);have dwN:decide (F.words.length≤100)=true:=decide_eq_true hw1;exact vx93
    ·have dw:decide ((F.words.length:Int)≤100)=false:=decide_eq_false (by omega);have dwN:decide (F.words.length≤100)=false:=decide_eq_false hw1;exact vx93
   ·have dl:decide ((F.labels.length:Int)≤100)=false:=decide_eq_false (by omega);have dlN:decide (F.labels.length≤100)=false:=decide_eq_false hl1;rw[dlN,Bool.false_and] at hqv;subst hqv
    rcases hcond with ⟨c1,c2⟩ | c1
    all_goals first
     | (exfalso; rw[d0] at c2; cases c2)
     | (clear h0 hl1; go_wp2; go_ret; exact ⟨rfl,HFIN.out⟩)
  ·have d0:decide (0≤n)=false:=decide_eq_false h0;rw[d0] at hqv;simp only[Bool.false_and] at hqv;subst hqv
   rcases hcond with ⟨c1,c2⟩ | c1
   all_goals (clear h0; go_wp2; go_ret; exact ⟨rfl,HFIN.out⟩)):P:=h
theorem JaV (r:RuleM) (F:FactsM) (c:Array Value) (la wa:Option Addr) (lc wc:Nat) (w:World) (hx:RuleX w (In w) r c) (hz:RLen r) :
  Calls prog 12 #[.agg c,.agg (factsC F (.slice la F.labels.length lc) (.slice wa F.words.length wc))] w (BelP w (.bool (lightM r F))):=by
 obtain ⟨fa,fc,ca,cc,rfl,hF,hC⟩:=hx.parts;obtain ⟨q,hq⟩:∃ q,lightM r F=q:=⟨_,rfl⟩
 rw[hq];obtain ⟨L,hLL⟩:∃ L,lightC (lightF 300 r.funcs) r.clauses=L:=⟨_,rfl⟩
 have HQ:Hid (lightM r F=q):=hq;have HL:Hid (lightC (lightF 300 (r.funcs.drop 0)) r.clauses=L):=hLL;have HLE:=Zh hLL;unfold factsC;have hbA:Below w.heap.size w ((w.alloc (.cells #[.slice fa r.funcs.length fc,.slice ca r.clauses.length cc,.int .i64 r.action] 30)).alloc (.cells #[.slice la F.labels.length lc,.int .i64 F.likes,.int .i64 F.boosts,.int .i64 F.replies,.int .i64 F.reports,.int .i64 F.age,.int .i64 F.home,.int .i64 F.scope,.int .i64 F.length,.bool F.follows,.bool F.reply,.slice wa F.words.length wc] 25)):=((Below.refl _ _).alloc (Nat.le_refl _) _).alloc (by simp) _;have HKX:Hid (∀ W,Below ((w.alloc (.cells #[.slice fa r.funcs.length fc,.slice ca r.clauses.length cc,.int .i64 r.action] 30)).alloc (.cells #[.slice la F.labels.length lc,.int .i64 F.likes,.int .i64 F.boosts,.int .i64 F.replies,.int .i64 F.reports,.int .i64 F.age,.int .i64 F.home,.int .i64 F.scope,.int .i64 F.length,.bool F.follows,.bool F.reply,.slice wa F.words.length wc] 25)).heap.size ((w.alloc (.cells #[.slice fa r.funcs.length fc,.slice ca r.clauses.length cc,.int .i64 r.action] 30)).alloc (.cells #[.slice la F.labels.length lc,.int .i64 F.likes,.int .i64 F.boosts,.int .i64 F.replies,.int .i64 F.reports,.int .i64 F.age,.int .i64 F.home,.int .i64 F.scope,.int .i64 F.length,.bool F.follows,.bool F.reply,.slice wa F.words.length wc] 25)) W→Bel w W):=fun W hW=>Je hbA hW
 have HRB:Hid (((w.alloc (.cells #[.slice fa r.funcs.length fc,.slice ca r.clauses.length cc,.int .i64 r.action] 30)).alloc (.cells #[.slice la F.labels.length lc,.int .i64 F.likes,.int .i64 F.boosts,.int .i64 F.replies,.int .i64 F.reports,.int .i64 F.age,.int .i64 F.home,.int .i64 F.scope,.int .i64 F.length,.bool F.follows,.bool F.reply,.slice wa F.words.length wc] 25)).heap[w.heap.size]?=some (.cells #[.slice fa r.funcs.length fc,.slice ca r.clauses.length cc,.int .i64 r.action] 30 (0,0))):=Jf (heap_alloc_new _ _)
 have HFB:Hid (((w.alloc (.cells #[.slice fa r.funcs.length fc,.slice ca r.clauses.length cc,.int .i64 r.action] 30)).alloc (.cells #[.slice la F.labels.length lc,.int .i64 F.likes,.int .i64 F.boosts,.int .i64 F.replies,.int .i64 F.reports,.int .i64 F.age,.int .i64 F.home,.int .i64 F.scope,.int .i64 F.length,.bool F.follows,.bool F.reply,.slice wa F.words.length wc] 25)).heap[w.heap.size+1]?=some (.cells #[.slice la F.labels.length lc,.int .i64 F.likes,.int .i64 F.boosts,.int .i64 F.replies,.int .i64 F.reports,.int .i64 F.age,.int .i64 F.home,.int .i64 F.scope,.int .i64 F.length,.bool F.follows,.bool F.reply,.slice wa F.words.length wc] 25 (0,0))):=by
  have e1:=heap_alloc_new (w.alloc (.cells #[.slice fa r.funcs.length fc,.slice ca r.clauses.length cc,.int .i64 r.action] 30)) (.cells #[.slice la F.labels.length lc,.int .i64 F.likes,.int .i64 F.boosts,.int .i64 F.replies,.int .i64 F.reports,.int .i64 F.age,.int .i64 F.home,.int .i64 F.scope,.int .i64 F.length,.bool F.follows,.bool F.reply,.slice wa F.words.length wc] 25);simp only[World.size_alloc] at e1;exact e1
 have HNB:Hid (w.heap.size<((w.alloc (.cells #[.slice fa r.funcs.length fc,.slice ca r.clauses.length cc,.int .i64 r.action] 30)).alloc (.cells #[.slice la F.labels.length lc,.int .i64 F.likes,.int .i64 F.boosts,.int .i64 F.replies,.int .i64 F.reports,.int .i64 F.age,.int .i64 F.home,.int .i64 F.scope,.int .i64 F.length,.bool F.follows,.bool F.reply,.slice wa F.words.length wc] 25)).heap.size∧w.heap.size+1<((w.alloc (.cells #[.slice fa r.funcs.length fc,.slice ca r.clauses.length cc,.int .i64 r.action] 30)).alloc (.cells #[.slice la F.labels.length lc,.int .i64 F.likes,.int .i64 F.boosts,.int .i64 F.replies,.int .i64 F.reports,.int .i64 F.age,.int .i64 F.home,.int .i64 F.scope,.int .i64 F.length,.bool F.follows,.bool F.reply,.slice wa F.words.length wc] 25)).heap.size):=by unfold Hid; simp only[World.size_alloc]; omega
 have HFX:=Zh hF;have HCX:=Zh hC;have HZ:=Zh hz;have hnf:=hz.nf;have hnc:=hz.nc;clear hbA hx hF hC hz hq hLL;go_enter func12,ntmps12;go_upto_region 1 with fail;generalize World.alloc (World.alloc w _) _=w1 at *;generalize w.heap.size+1=fb at *;generalize w.heap.size=eb at *
 have FF:Hid (∀ W,Below w1.heap.size w1 W→W.cell? ⟨eb,0,none⟩=some (.slice fa r.funcs.length fc)∧W.cell? ⟨eb,1,none⟩=some (.slice ca r.clauses.length cc)∧W.cell? ⟨fb,0,none⟩=some (.slice la F.labels.length lc)∧W.cell? ⟨fb,11,none⟩=some (.slice wa F.words.length wc)):=by
  intro W hW;have hr:=(hW.block _ HNB.out.1).trans HRB.out;have hf:=(hW.block _ HNB.out.2).trans HFB.out;refine ⟨?_,?_,?_,?_⟩
  ·rw[Ja hr]; rfl
  ·rw[Ja hr]; rfl
  ·rw[Ja hf]; rfl
  ·rw[Ja hf]; rfl
 have HW0:Hid (Below w1.heap.size w1 w1):=Below.refl _ _;go_wp2_with fail;go_loopg [5,6] r.funcs.length (fun g v5 v6 wr=>∃ (i:Nat) (m:Int),g+i=r.funcs.length∧v5=.int .i64 m∧v6=.int .i64 i∧Hid (Below w1.heap.size w1 wr)∧Hid ((i:Int)+m≤300∧-1≤m)∧Hid (lightC (lightF m (r.funcs.drop i)) r.clauses=L))
 case atStart=>exact ⟨0,300,rfl,rfl,rfl,HW0,by unfold Hid; omega,HL⟩
 case round=>
 clear HW0 HL;obtain ⟨wl,rfl⟩:∃ wl:World,wl=wr:=⟨_,rfl⟩
 obtain ⟨i,m,hg,rfl,rfl,hbw,hm,hq⟩:=hrel
 by_cases hi:i<r.funcs.length∧0≤m
 ·obtain ⟨hi,hm0⟩:=hi;have hil:(i:Int)<(r.funcs.length:Int):=by omega
  have dil:decide ((i:Int)<(r.funcs.length:Int))=true:=decide_eq_true hil;have dm:decide (0≤m)=true:=decide_eq_true hm0;obtain ⟨f,hf⟩:∃ f,r.funcs[i]?=some f:=⟨r.funcs[i],List.getElem?_eq_getElem hi⟩
  have hmem:=List.mem_of_getElem? hf;have hfe:r.funcs[i]=f:=(List.getElem?_eq_some_iff.1 hf).2;have hXf:=HFX.out.up (HKX.out _ hbw.out);obtain ⟨b,o,pa,pc,da,dc,hfa,hfc⟩:=hXf.get hf;have hnp:=HZ.out.np f hmem;have hq2:=hq.out;rw[List.drop_eq_getElem_cons hi,hfe,lightF,if_neg (by omega)] at hq2;have hle:=(Yb f.body 60 (m-f.params.length))
  have HM2:Hid (((i+1:Nat):Int)+leftN 60 (m-f.params.length) f.body≤300∧-1≤leftN 60 (m-f.params.length) f.body):=by
   have:=hm.out;refine ⟨?_,hle.1⟩
   by_cases h0:0≤m-f.params.length
   ·have:=hle.2 h0; omega
   ·have h5:leftN 60 (m-f.params.length) f.body = -1:=by
     generalize f.body=e at *;obtain ⟨k,n,s,l⟩:=e;rw[leftN,KW 60 (by omega)]
    omega
  have wk:IntKind.i64.wrap ((i:Int)+1)=(i:Int)+1:=IntWalk.i64_in _ (by have:=hm.out; omega);have wm:IntKind.i64.wrap (m-(f.params.length:Int))=m-(f.params.length:Int):=IntWalk.i64_in _ (by have:=hm.out; omega);have cl:=fun W (hW:Below wl.heap.size wl W)=>ZU 60 (by decide) f.body _ (m-f.params.length) W (hfc.body.up hW) (by omega) (by have:=hm.out; omega)
  generalize leftN 60 (m-f.params.length) f.body=m2 at *;have HQ2:=Zh hq2;have HBW:=Zh hbw.out;have HG:=Zh hg;have HHI:=Zh hi
  have F3:Hid (∀ W,Below wl.heap.size wl W→W.cell? ⟨eb,0,none⟩=some (.slice (some ⟨b,o,none⟩) r.funcs.length fc)∧W.cell? ⟨b,o+i*7+1,none⟩=some (.slice pa f.params.length pc)∧W.cell? ⟨b,o+i*7+3,none⟩=some (.int .i64 f.body.kind)∧W.cell? ⟨b,o+i*7+4,none⟩=some (.int .i64 f.body.num)∧W.cell? ⟨b,o+i*7+5,none⟩=some (.string (bs f.body.name))∧W.cell? ⟨b,o+i*7+6,none⟩=some (.slice da f.body.kids.length dc)):=by
   intro W hW;obtain ⟨q0,q1,q2,q3⟩:=FF.out _ (Je hbw.out hW);have hk:∀ j u,wl.cell? ⟨b,o+i*7+j,none⟩=some u→W.cell? ⟨b,o+i*7+j,none⟩=some u:=fun j u hu=>(hW.cell (p:=⟨b,o+i*7+j,none⟩) hfc.blt).trans hu
   rw[hfa] at q0;exact ⟨q0,hk 1 _ hfc.c1,hk 3 _ hfc.c3,hk 4 _ hfc.c4,hk 5 _ hfc.c5,hk 6 _ hfc.c6⟩
  obtain ⟨b0,_,_,_⟩:=FF.out _ hbw.out;have HCL:=Zh cl;rw[show ((60:Nat):Int)=60 from rfl] at HCL;subst hfa;clear hle hq hq2 hm hbw hi hg hf hmem hfe hXf hfc hnp hm0 cl;go_upto_region 5 with fail;clear b0;refine wp_region_held_drew (S:=(fun W=>Below wl.heap.size wl W∧W.cell? ⟨eb,0,none⟩=some (.slice (some ⟨b,o,none⟩) r.funcs.length fc)∧W.cell? ⟨b,o+i*7+1,none⟩=some (.slice pa f.params.length pc)∧W.cell? ⟨b,o+i*7+3,none⟩=some (.int .i64 f.body.kind)∧W.cell? ⟨b,o+i*7+4,none⟩=some (.int .i64 f.body.num)∧W.cell? ⟨b,o+i*7+5,none⟩=some (.string (bs f.body.name))∧W.cell? ⟨b,o+i*7+6,none⟩=some (.slice da f.body.kids.length dc))) (by kernel_rfl) (⟨(Below.refl wl.heap.size wl).drew,F3.out _ (Below.refl wl.heap.size wl).drew⟩) (fun hH=>?_);refine ZT (i:=0) (v:=?vQ0) rfl (Or.inl ⟨by rfl,?yQ0⟩) ?_
  case yQ0=>exact ZyQ
  try simp only[Act.put,ZA,ZB,ZC]
  refine ZT (i:=1) (v:=?vQ1) rfl (Or.inl ⟨by rfl,?yQ1⟩) ?_
  case yQ1=>exact ZyQ
  try simp only[Act.put,ZA,ZB,ZC]
  refine ZT (i:=2) (v:=?vQ2) rfl (Or.inl ⟨by rfl,?yQ2⟩) ?_
  case yQ2=>exact ZyQ
  try simp only[Act.put,ZA,ZB,ZC]
  refine ZT (i:=3) (v:=?vQ3) rfl (Or.inl ⟨by rfl,?yQ3⟩) ?_
  case yQ3=>exact ZyQ
  try simp only[Act.put,ZA,ZB,ZC]
  refine ZT (i:=4) (v:=?vQ4) rfl (Or.inl ⟨by rfl,?yQ4⟩) ?_
  case yQ4=>exact ZyQ
  try simp only[Act.put,ZA,ZB,ZC]
  refine ZT (i:=5) (v:=?vQ5) rfl (Or.inl ⟨by rfl,?yQ5⟩) ?_
  case yQ5=>exact ZyQ
  try simp only[Act.put,ZA,ZB,ZC]
  refine ZT (i:=6) (v:=?vQ6) rfl (Or.inl ⟨by rfl,?yQ6⟩) ?_
  case yQ6=>exact ZyQ
  try simp only[Act.put,ZA,ZB,ZC]
  refine ZT (i:=7) (v:=?vQ7) rfl (Or.inl ⟨by rfl,?yQ7⟩) ?_
  case yQ7=>exact ZyQ
  try simp only[Act.put,ZA,ZB,ZC]
  refine ZT (i:=8) (v:=?vQ8) rfl (Or.inl ⟨by rfl,?yQ8⟩) ?_
  case yQ8=>exact ZyQ
  try simp only[Act.put,ZA,ZB,ZC]
  refine ZT (i:=9) (v:=?vQ9) rfl (Or.inl ⟨by rfl,?yQ9⟩) ?_
  case yQ9=>exact ZyQ
  try simp only[Act.put,ZA,ZB,ZC]
  refine ZT (i:=10) (v:=?vQ10) rfl (Or.inl ⟨by rfl,?yQ10⟩) ?_
  case yQ10=>exact ZyQ
  try simp only[Act.put,ZA,ZB,ZC]
  refine ZT (i:=11) (v:=?vQ11) rfl (Or.inl ⟨by rfl,?yQ11⟩) ?_
  case yQ11=>exact ZyQ
  try simp only[Act.put,ZA,ZB,ZC]
  refine ZT (i:=12) (v:=?vQ12) rfl (Or.inl ⟨by rfl,?yQ12⟩) ?_
  case yQ12=>exact ZyQ
  try simp only[Act.put,ZA,ZB,ZC]
  refine ZT (i:=13) (v:=?vQ13) rfl (Or.inl ⟨by rfl,?yQ13⟩) ?_
  case yQ13=>exact ZyQ
  try simp only[Act.put,ZA,ZB,ZC]
  refine ZT (i:=14) (v:=?vQ14) rfl (Or.inl ⟨by rfl,?yQ14⟩) ?_
  case yQ14=>exact ZyQ
  try simp only[Act.put,ZA,ZB,ZC]
  refine ZS 15 rfl (fun K hK=>?_)
  (go_simp; go_at_call 39; refine (HCL.out _ ((Below.refl wl.heap.size wl).drew)).mono ?_; rintro e wc0 ⟨rfl,hbc0⟩)
  refine hK.out _ _ (⟨((Below.refl wl.heap.size wl).drew).trans (hbc0.mono ((Below.refl wl.heap.size wl).drew).size),F3.out _ (((Below.refl wl.heap.size wl).drew).trans (hbc0.mono ((Below.refl wl.heap.size wl).drew).size))⟩) (fun hH=>?_);clear hK K
  try simp only[Act.put,ZA,ZB,ZC]
  refine ZT (i:=16) (v:=?vQ16) rfl (Or.inl ⟨by rfl,?yQ16⟩) ?_
  case yQ16=>exact ZyQ
  try simp only[Act.put,ZA,ZB,ZC]
  refine wpAnyH_done (by kernel_rfl) ?_ _;have HB7:=Zh (Je HBW.out hH.1);clear hH;go_wp2;go_roundg (r.funcs.length-(i+1))
  case measure=>have:=HG.out; have:=HHI.out; omega
  case rel=>exact ⟨i+1,m2,by have:=HHI.out; omega,rfl,by go_num,HB7,HM2,HQ2⟩
 have hqF:lightC m r.clauses=L:=by
  by_cases h0:m<0
  ·have:=hq.out;rw[Jdw h0] at this;exact this
  ·have hi2:r.funcs.length≤i:=by omega
   have:=hq.out;rw[List.drop_of_length_le hi2] at this;exact this
 obtain ⟨b0,b1,b2,b3⟩:=FF.out _ hbw.out;have HBW:=Zh hbw.out;have HM1:Hid ((0:Int)+m≤300∧-1≤m):=by have:=hm.out; unfold Hid; omega
 have HQF:Hid (lightC m (r.clauses.drop 0)=L):=hqF
 have hcond:((i:Int)<(r.funcs.length:Int)∧decide (0≤m)=false)∨¬ (i:Int)<(r.funcs.length:Int):=by
  by_cases h0:i<r.funcs.length
  ·exact .inl ⟨by omega,decide_eq_false (by omega)⟩
  ·exact .inr (by omega)
 clear hq hm hbw hi hg hqF
 rcases hcond with ⟨d1,d2⟩ | d1
 ·go_wp2_with fail;clear b0 b1 b2 b3 d1;clear d2;exact vx7
 ·go_wp2_with fail;clear b0 b1 b2 b3 d1;exact vx7
end Go.Proofs.YtncanmdgdflnpaaGreatDoor
namespace Go.Proofs.YtncanmdgdflnpaaGreatDoor
open Go.ChangeShapes Go.WideShapes Go.RowKit Go.Deep
open Go.Joins
open _root_.Go.Proofs.Tryz
set_option linter.all false
set_option maxRecDepth 100000
set_option maxHeartbeats 32000000
theorem flatMap_get' {α:Type} (g:α→List Value) (m:Nat) (hm:0<m):∀ (l:List α),(∀ a∈l,(g a).length=m)→∀ (i:Nat) (u:Value),(l.flatMap g)[i]?=some u→∃ a,l[i / m]?=some a∧(g a)[i % m]?=some u
 | [],_,i,u,h=>by simp at h
 | a::l,hg,i,u,h=>by
  have ha:=hg a (by simp);rw[List.flatMap_cons] at h
  by_cases hi:i<m
  ·rw[List.getElem?_append_left (by rw[ha]; exact hi)] at h;exact ⟨a,by rw[Nat.div_eq_of_lt hi]; rfl,by rw[Nat.mod_eq_of_lt hi]; exact h⟩
  ·rw[List.getElem?_append_right (by rw[ha]; omega),ha] at h;obtain ⟨b,h1,h2⟩:=flatMap_get' g m hm l (fun b hb=>hg b (by simp[hb])) (i-m) u h;exact vx135
theorem YQ {α:Type} {R:α→List Value→Prop}:∀ (l:List (α × List Value)),(∀ p∈l,R p.1 p.2)→RowOf R (l.map (·.1)) (l.flatMap (·.2))
 | [],_=>rfl
 | p::l,h=>⟨p.2,_,h p (by simp),by simp,YQ l fun q hq=>h q (by simp[hq])⟩
section
variable {H:Type} {enc:TypeId × Value→H} {P:Program} {w:World} {base:Nat} {spare:Nat→Bool} {held:Bool}
theorem VB {t e:TypeId} {m fuel:Nat} {v:Value} {x:DataW H × List MemPlace} {α:Type} (z:α) (R:α→List Value→Prop) (hm:0<m) (ht:P.underlying t=some (.slice e)) (hC:P.cellsOf e=m)
  (hel:∀ n,n<fuel→∀ cs x,cs.length=m→DataW.trod enc P w base spare held n e cs=some x→∃ a,R a cs) (h:DataW.trod enc P w base spare held fuel t [v]=some x):∃ l:List α,SliceOf w (In w) R l v∧l.length≤9223372036854775807∧∀ y∈l,∃ cs,R y cs:=by
 rcases DataW.trod_slice ht h with ⟨hcs,_⟩ | ⟨a,len,cap,elems,rest,n,hf,hcs,_,_,hle,hcm,hlen,hel',_,_⟩
 ·simp at hcs;subst hcs;exact ⟨[],⟨none,0,[],rfl,Nat.le_refl _,rfl,.inl rfl⟩,by simp,fun y hy=>by cases hy⟩
 ·simp at hcs;subst hcs hf
  have key:∀ i,i<len→∃ p:α × List Value,p.2.length=m∧R p.1 p.2∧∀ j,j<m→w.cell? (a.add (i*m+j))=p.2[j]?:=by
   intro i hi;have h1:=hel' i hi;rw[hC,List.getElem?_eq_getElem (by omega)] at h1;obtain ⟨cs',hc,ht'⟩:=Option.bind_eq_some_iff.1 h1;obtain ⟨_,hcl,hat⟩:=World.cells?_some hc;obtain ⟨y,hy⟩:=hel n (Nat.lt_succ_self _) cs' _ hcl ht';exact ⟨(y,cs'),hcl,hy,fun j hj=>by rw[← Go.Deep.add_add]; exact hat j hj⟩
  obtain ⟨l,hll,hl1,hl2⟩:=Zc (z,([]:List Value)) key;rw[Vy] at hcm
  refine ⟨l.map (·.1),⟨some a,cap,l.flatMap (·.2),by simp[hll],by simpa[hll] using hle,YQ l fun p hp=>?_,?_⟩,by rw[List.length_map]; omega,fun y hy=>by
   obtain ⟨p,hp,rfl⟩:=List.mem_map.1 hy;obtain ⟨i,_,_,h2,_⟩:=hl2 p hp
   exact ⟨_,h2⟩⟩
  ·obtain ⟨i,_,_,h2,_⟩:=hl2 p hp;exact h2
  ·cases l with
   | nil=>exact .inl rfl
   | cons p0 l0=>
    refine .inr ?_;obtain ⟨q1,_,q3⟩:=hl1 0 p0 rfl;have h0:=q3 0 hm;obtain ⟨u0,hu0⟩:∃ u,p0.2[0]?=some u:=⟨_,List.getElem?_eq_getElem (by omega)⟩
    rw[hu0] at h0;have h0':w.cell? a=some u0:=by simpa[Addr.add] using h0
    have hsp:=JaL h0';refine ⟨a.block,a.off,by rw[← hsp],Jfc h0',fun j u hj=>?_⟩;obtain ⟨p,hp,hu⟩:=flatMap_get' (fun p:α × List Value=>p.2) m hm _ (fun p hp=>by obtain ⟨_,_,h1,_⟩:=hl2 p hp; exact h1) _ _ hj;obtain ⟨h1,_,h3⟩:=hl1 _ p hp;have h4:=h3 (j % m) (Nat.mod_lt _ hm);rw[Jha hsp,show j / m*m+j % m=j by rw[Nat.mul_comm]; exact Nat.div_add_mod j m] at h4;exact h4.trans hu
end
theorem Jfq {W:World} {P:Nat→Prop}:∀ {l:List Exp} {xs:List Value},RowOf (fun e c=>XAt W P e c.toArray∧NmN e) l xs→RowX W P l xs∧NmL l
 | [],xs,h=>⟨by unfold RowX; exact h,by unfold NmL; trivial⟩
 | e::l,xs,⟨c,r,h1,h2,h3⟩=>by
  obtain ⟨g1,g2⟩:=Jfq h3;exact ⟨by unfold RowX; exact ⟨c.toArray,r,h1.1,h2,g1⟩,by unfold NmL; exact ⟨h1.2,g2⟩⟩
section
variable {H:Type} {enc:TypeId × Value→H} {w:World} {base:Nat} {spare:Nat→Bool} {held:Bool}
theorem Kd {n:Nat} {t:TypeId} {l:List Value} {i:Nat} {o:Option (DataW H × List MemPlace)} {v:Value} (h:DataW.trod enc prog w base spare held n t ((l.drop i).take 1)=o) (ho:o.isSome=true) (hv:l[i]?=some v):∃ y,DataW.trod enc prog w base spare held n t [v]=some y:=by
 obtain ⟨y,hy⟩:=Option.isSome_iff_exists.1 ho;have hi:=(List.getElem?_eq_some_iff.1 hv).1
 have e:(l.drop i).take 1=[v]:=by
  rw[List.drop_eq_getElem_cons hi];have:=(List.getElem?_eq_some_iff.1 hv).2;rw[this];rfl
 exact ⟨y,by rw[← e,h,hy]⟩
theorem ZV:∀ (fuel:Nat) (cs:List Value) (x:DataW H × List MemPlace),DataW.trod enc prog w base spare held fuel 50 cs=some x→∃ E:Exp,XAt w (In w) E cs.toArray∧NmN E:=by
 intro fuel
 induction fuel using Nat.strongRecOn with
 | _ fuel ih=>
  intro cs x h;obtain ⟨xs,n,hf,_,hl,hxl,hg⟩:=DataW.trod_struct underlying50 h;have hc4:prog.cellsOf 50=4:=by kernel_rfl
  rw[hc4] at hl
  match cs,hl with
  | [v0,v1,v2,v3],_=>
  have g0:=hg 0 _ rfl;have g1:=hg 1 _ rfl;have g2:=hg 2 _ rfl;have g3:=hg 3 _ rfl;have hsome:∀ i,i<4→(xs[i]?).isSome=true:=fun i hi=>by rw[List.getElem?_eq_getElem (by rw[hxl]; exact hi)]; rfl
  obtain ⟨y0,t0⟩:=Kd g0 (hsome 0 (by decide)) rfl;obtain ⟨y1,t1⟩:=Kd g1 (hsome 1 (by decide)) rfl;obtain ⟨y2,t2⟩:=Kd g2 (hsome 2 (by decide)) rfl;obtain ⟨y3,t3⟩:=Kd g3 (hsome 3 (by decide)) rfl;obtain ⟨k,e0,_,_⟩:=DataW.trod_int underlying3 t0;obtain ⟨nn,e1,_,_⟩:=DataW.trod_int underlying3 t1;obtain ⟨s0,e2,_,hs0⟩:=DataW.trod_string underlying9 t2;simp at e0 e1 e2;obtain ⟨s,rfl⟩:=Zd s0;subst e0 e1 e2;obtain ⟨l,⟨ad,cc,ys,rfl,h2,h3,h4⟩,_,_⟩:=VB (m:=4) (.mk 0 0 [] []:Exp) (fun e c=>XAt w (In w) e c.toArray∧NmN e) (by decide) underlying48 hc4 (fun n' hn' cs' x' _ ht'=>ih n' (by omega) cs' x' ht') t3;obtain ⟨g1,g2⟩:=Jfq h3;rw[Vy,JF] at hs0;refine ⟨.mk k nn s l,?_,?_⟩
  ·unfold XAt;exact ⟨ad,cc,ys,rfl,h2,g1,h4⟩
  ·unfold NmN;exact ⟨hs0,g2⟩
theorem YR {n:Nat} {t:TypeId} {l:List Value} {i:Nat} {o:Option (DataW H × List MemPlace)} {v0 v1 v2 v3:Value} (h:DataW.trod enc prog w base spare held n t ((l.drop i).take 4)=o) (ho:o.isSome=true) (hv:(l.drop i).take 4=[v0,v1,v2,v3]):∃ y,DataW.trod enc prog w base spare held n t [v0,v1,v2,v3]=some y:=by
 obtain ⟨y,hy⟩:=Option.isSome_iff_exists.1 ho;exact ⟨y,by rw[← hv,h,hy]⟩
theorem Jfr {fuel:Nat} {v:Value} {x:DataW H × List MemPlace} (h:DataW.trod enc prog w base spare held fuel 55 [v]=some x):∃ l:List Int,NumsX w (In w) l v∧l.length≤9223372036854775807:=by
 obtain ⟨l,⟨ad,cc,ys,h1,h2,h3,h4⟩,hlen,_⟩:=VB (m:=1) (0:Int) (fun n c=>c=[.int .i64 n]) (by decide) underlying55 (by kernel_rfl) (fun n' _ cs' x' hc ht'=>by
  match cs',hc with
  | [u],_=>
   obtain ⟨k,e,_,_⟩:=DataW.trod_int underlying3 ht'
   exact ⟨k,e⟩) h
 refine ⟨l,⟨ad,cc,h1,h2,h4.imp id ?_⟩,hlen⟩;rintro ⟨b,o,h5,h6,h7⟩;refine ⟨b,o,h5,h6,fun i n hi=>h7 i _ ?_⟩
 have hg:∀ (l:List Int) (ys:List Value) (i:Nat) (n:Int),RowOf (fun n c=>c=[Value.int .i64 n]) l ys→l[i]?=some n→ys[i]?=some (.int .i64 n):=by
  intro l
  induction l with
  | nil=>intro ys i n _ hi; simp at hi
  | cons a l ih=>
   rintro ys i n ⟨c,r,rfl,rfl,hr⟩ hi
   cases i with
   | zero=>simpa using hi
   | succ i=>simpa using ih r i n hr (by simpa using hi)
 exact hg l ys i n h3 hi
theorem Jir {fuel:Nat} {cs:List Value} {x:DataW H × List MemPlace} (hl:cs.length=7) (h:DataW.trod enc prog w base spare held fuel 79 cs=some x):∃ f:FnM,FnX w (In w) f cs∧f.name.length≤9223372036854775807∧f.params.length≤9223372036854775807∧NmN f.body:=by
 obtain ⟨xs,n,_,_,_,hxl,hg⟩:=DataW.trod_struct underlying79 h
 match cs,hl with
 | [v0,v1,v2,v3,v4,v5,v6],_=>
 have g0:=hg 0 _ rfl;have g1:=hg 1 _ rfl;have g2:=hg 2 _ rfl;have g3:=hg 3 _ rfl;have hsome:∀ i,i<4→(xs[i]?).isSome=true:=fun i hi=>by rw[List.getElem?_eq_getElem (by rw[hxl]; exact hi)]; rfl
 obtain ⟨y0,t0⟩:=Kd g0 (hsome 0 (by decide)) rfl;obtain ⟨y1,t1⟩:=Kd g1 (hsome 1 (by decide)) rfl;obtain ⟨y2,t2⟩:=Kd g2 (hsome 2 (by decide)) rfl;obtain ⟨y3,t3⟩:=YR g3 (hsome 3 (by decide)) rfl;obtain ⟨s0,e0,_,hs0⟩:=DataW.trod_string underlying9 t0;obtain ⟨rt,e2,_,_⟩:=DataW.trod_int underlying3 t2;simp at e0 e2;obtain ⟨s,rfl⟩:=Zd s0;subst e0 e2;obtain ⟨ps,hps,hpl⟩:=Jfr t1;obtain ⟨E,hE,hn⟩:=ZV n _ _ t3;rw[Vy,JF] at hs0;exact ⟨⟨s,ps,rt,E⟩,⟨v1,_,hps,hE,rfl⟩,hs0,hpl,hn⟩
theorem Jis {fuel:Nat} {cs:List Value} {x:DataW H × List MemPlace} (hl:cs.length=6) (h:DataW.trod enc prog w base spare held fuel 62 cs=some x):∃ c:ClM,ClX w (In w) c cs∧NmN c.cond∧c.reason.length≤9223372036854775807:=by
 obtain ⟨xs,n,_,_,_,hxl,hg⟩:=DataW.trod_struct underlying62 h
 match cs,hl with
 | [v0,v1,v2,v3,v4,v5],_=>
 have g0:=hg 0 _ rfl;have g1:=hg 1 _ rfl;have g2:=hg 2 _ rfl;have hsome:∀ i,i<3→(xs[i]?).isSome=true:=fun i hi=>by rw[List.getElem?_eq_getElem (by rw[hxl]; exact hi)]; rfl
 obtain ⟨y0,t0⟩:=YR g0 (hsome 0 (by decide)) rfl;obtain ⟨y1,t1⟩:=Kd g1 (hsome 1 (by decide)) rfl;obtain ⟨y2,t2⟩:=Kd g2 (hsome 2 (by decide)) rfl;obtain ⟨ac,e1,_,_⟩:=DataW.trod_int underlying3 t1;obtain ⟨s0,e2,_,hs0⟩:=DataW.trod_string underlying9 t2;simp at e1 e2;obtain ⟨s,rfl⟩:=Zd s0;subst e1 e2;obtain ⟨E,hE,hn⟩:=ZV n _ _ t0;rw[Vy,JF] at hs0;exact ⟨⟨E,ac,s⟩,⟨_,hE,rfl⟩,hn,hs0⟩
structure RNm (r:RuleM):Prop where
 nf:r.funcs.length≤9223372036854775807
 nc:r.clauses.length≤9223372036854775807
 fn:∀ f∈r.funcs,f.name.length≤9223372036854775807∧f.params.length≤9223372036854775807∧NmN f.body
 cl:∀ c∈r.clauses,NmN c.cond∧c.reason.length≤9223372036854775807
theorem Jfs {r:Go.Reach} {b0:Nat} {v:Value} {d:DataW H} {p:List MemPlace} (hv:Value.okWide prog w r b0 30 v) (h:DataW.Trod enc prog w base spare held 30 v d p):∃ (q:RuleM) (c:Array Value),v=.agg c∧RuleX w (In w) q c∧RNm q:=by
 obtain ⟨cs,rfl,hlen,hg⟩:=Jcw underlying30 (by kernel_rfl) (by kernel_rfl) hv h;obtain ⟨v0,y0,k0,c0,t0⟩:=hg 0 _ rfl;obtain ⟨v1,y1,k1,c1,t1⟩:=hg 1 _ rfl;obtain ⟨v2,y2,k2,c2,t2⟩:=hg 2 _ rfl;obtain ⟨ac,e2,_,_⟩:=DataW.trod_int underlying3 t2;simp at e2;subst e2;obtain ⟨fs,hfs,hfl,hfa⟩:=VB (m:=7) (⟨[],[],0,.mk 0 0 [] []⟩:FnM) (fun f c=>FnX w (In w) f c∧f.name.length≤9223372036854775807∧f.params.length≤9223372036854775807∧NmN f.body) (by decide) underlying27 (by kernel_rfl) (fun n' _ cs' x' hc ht'=>Jir hc ht') t0;obtain ⟨ks,hks,hkl,hka⟩:=VB (m:=6) (⟨.mk 0 0 [] [],0,[]⟩:ClM) (fun f c=>ClX w (In w) f c∧NmN f.cond∧f.reason.length≤9223372036854775807) (by decide) underlying28 (by kernel_rfl) (fun n' _ cs' x' hc ht'=>Jis hc ht') t1
 match cs,hlen with
 | [u0,u1,u2],_=>
 simp at c0 c1 c2;subst c0 c1 c2;exact ⟨⟨fs,ks,ac⟩,_,rfl,⟨_,_,rfl,hfs.keep (fun _ _=>rfl) (fun _ h=>h) (fun _ _ h=>h.1),hks.keep (fun _ _=>rfl) (fun _ h=>h) (fun _ _ h=>h.1)⟩,hfl,hkl,fun f hf=>by obtain ⟨_,h⟩:=hfa f hf; exact h.2,fun c hc=>by obtain ⟨_,h⟩:=hka c hc; exact h.2⟩
theorem JaW {r:Go.Reach} {b0:Nat} {v:Value} {d:DataW H} {p:List MemPlace} (hv:Value.okWide prog w r b0 50 v) (h:DataW.Trod enc prog w base spare held 50 v d p):∃ (E:Exp) (c:Array Value),v=.agg c∧XAt w (In w) E c∧NmN E:=by
 obtain ⟨cs,rfl,hsz⟩:=okWide_struct underlying50 hv;obtain ⟨fuel,hf⟩:=h;obtain ⟨E,hE,hn⟩:=ZV fuel cs.toList _ hf;exact ⟨E,cs,rfl,hE,hn⟩
end
end Go.Proofs.YtncanmdgdflnpaaGreatDoor
