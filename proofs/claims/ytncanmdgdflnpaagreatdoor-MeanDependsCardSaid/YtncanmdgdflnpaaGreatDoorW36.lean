import Derived.ChangeArms
import Derived.Test.YtncanmdgdflnpaaGreatDoorW35
namespace Go.Proofs.YtncanmdgdflnpaaGreatDoor
open Go.ChangeShapes Go.WideShapes Go.ChangeAt Go.RowKit Go.Lib
open _root_.Go.Proofs.Tryz
set_option linter.all false
set_option maxRecDepth 100000
set_option maxHeartbeats 32000000
mutual
def leftN:Nat→Int→Exp→Int
 | d,n,.mk _ _ _ l=>leftL d (n-1) l
def leftL:Nat→Int→List Exp→Int
 | d,n,[]=>if n<0 then -1 else n
 | d,n,a::l=>if n<0 then -1 else match d with | 0=>-1 | d+1=>leftL (d+1) (leftN d n a) l
end
def leftK (d:Nat) (n:Int) (a:Exp) (l:List Exp):Int:=match d with | 0=>-1 | d+1=>leftL (d+1) (leftN d n a) l
theorem Jbv (d:Nat) (n:Int):leftL d n []=if n<0 then -1 else n:=by
 conv=>lhs; unfold leftL
theorem V5 (d:Nat) (n:Int) (a:Exp) (l:List Exp):leftL d n (a::l)=if n<0 then -1 else leftK d n a l:=by
 conv=>lhs; unfold leftL
 rfl
theorem VQ (d:Nat) {n:Int} (h:n<0):∀ l,leftL d n l = -1
 | []=>by rw[Jbv,if_pos h]
 | a::l=>by rw[V5,if_pos h]
mutual
theorem Yu:∀ (e:Exp) (d:Nat) (n:Int),-1≤leftN d n e∧(0≤n→leftN d n e≤n-1)
 | .mk k m s l,d,n=>by
  rw[leftN];obtain ⟨h1,h2⟩:=Jdm l d (n-1);refine ⟨h1,fun h=>?_⟩
  by_cases h0:0≤n-1
  ·exact h2 h0
  ·rw[VQ d (by omega) l];omega
theorem Jdm:∀ (l:List Exp) (d:Nat) (n:Int),-1≤leftL d n l∧(0≤n→leftL d n l≤n)
 | [],d,n=>by
  rw[Jbv];split
  ·exact ⟨by omega,fun h=>by omega⟩
  ·exact ⟨by omega,fun h=>by omega⟩
 | a::l,d,n=>by
  rw[V5];split
  ·exact ⟨by omega,fun h=>by omega⟩
  ·cases d with
   | zero=>exact ⟨by simp[leftK],fun h=>by simp[leftK]; omega⟩
   | succ d=>
    show -1≤leftL (d+1) (leftN d n a) l∧(0≤n→leftL (d+1) (leftN d n a) l≤n)
    obtain ⟨h1,h2⟩:=Yu a d n;obtain ⟨h3,h4⟩:=Jdm l (d+1) (leftN d n a);refine ⟨h3,fun h=>?_⟩
    by_cases h0:0≤leftN d n a
    ·have:=h4 h0; have:=h2 h; omega
    ·rw[VQ (d+1) (by omega) l]; omega
end
def lightF:Int→List FnM→Int
 | n,[]=>n
 | n,f::l=>if n<0 then n else lightF (leftN 60 (n-f.params.length) f.body) l
def lightC:Int→List ClM→Int
 | n,[]=>n
 | n,c::l=>if n<0 then n else lightC (leftN 60 n c.cond) l
def lightM (r:RuleM) (F:FactsM):Bool:=decide (0≤lightC (lightF 300 r.funcs) r.clauses)&&decide (F.labels.length≤100)&&decide (F.words.length≤100)
theorem JhV {r:RuleM} {F:FactsM} (h:lightM r F=true):FSz F:=by
 unfold lightM at h;simp only[Bool.and_eq_true,decide_eq_true_eq] at h;exact ⟨by omega,by omega⟩
theorem wx119 {P:Prop}(h:P:=by
  subst hq1;clear hq hm hbw hi hg hm0;go_wp2;go_ret
  exact ⟨rfl,HFIN.out⟩):P:=h
theorem Jbw (d:Nat) (IH:∀ d',d=d'+1→∀ (e:Exp) (c:Array Value) (n:Int) (W:World),XAt W (In W) e c→-9223372036854775807≤n→n≤1000000→Calls prog 39 #[.agg c,.int .i64 n,.int .i64 d'] W (BelP W (.int .i64 (leftN d' n e))))
  (hd:d≤60) (k nn:Int) (s:List UInt8) (l:List Exp) (ad:Option Addr) (cc:Nat) (n:Int) (w:World) (hK:KidsX w ad l) (h1:-9223372036854775807≤n) (h2:n≤1000000) :
  Calls prog 39 #[.agg #[.int .i64 k,.int .i64 nn,.string (bs s),.slice ad l.length cc],.int .i64 n,.int .i64 d] w (BelP w (.int .i64 (leftN d n (.mk k nn s l)))):=by
 obtain ⟨q,hq⟩:∃ q,leftN d n (.mk k nn s l)=q:=⟨_,rfl⟩
 rw[hq];rw[leftN] at hq;have HQ:Hid (leftL d (n-1) (l.drop 0)=q):=hq;have hb1:Below w.heap.size w (w.alloc (.cells #[.int .i64 k,.int .i64 nn,.string (bs s),.slice ad l.length cc] 50)):=zzb.alloc zzl _;have HCP:=Zh (zzw w (.cells #[.int .i64 k,.int .i64 nn,.string (bs s),.slice ad l.length cc] 50));have HKX:Hid (∀ W,Below (w.alloc (.cells #[.int .i64 k,.int .i64 nn,.string (bs s),.slice ad l.length cc] 50)).heap.size (w.alloc (.cells #[.int .i64 k,.int .i64 nn,.string (bs s),.slice ad l.length cc] 50)) W→Bel w W):=fun W hW=>Je hb1 hW
 have HKD:=Zh hK;have HIH:=Zh IH;have wn:IntKind.i64.wrap (n-1)=n-1:=IntWalk.i64_in _ (by omega);have HN0:Hid ((0:Int)+(n-1)≤1000000∧-9223372036854775808≤n-1):=by unfold Hid; omega
 clear hq hb1 hK IH h1 h2;go_enter func39,ntmps39;go_upto_region 1 with fail;have HEB:Hid (w.heap.size<(w.alloc (.cells #[.int .i64 k,.int .i64 nn,.string (bs s),.slice ad l.length cc] 50)).heap.size):=Jb HCP.out;generalize World.alloc w _=w1 at *;generalize w.heap.size=eb at *
 have FF:Hid (∀ W,Below w1.heap.size w1 W→W.cell? ⟨eb,3,none⟩=some (.slice ad l.length cc)):=by
  intro W hW;have hh:=(hW.block _ HEB.out).trans HCP.out;rw[Ja hh]; rfl
 have HW0:Hid (Below w1.heap.size w1 w1):=Below.refl _ _;go_wp2_with fail;clear wn;go_loopg [1,7] l.length (fun g v1 v7 wr=>∃ (i:Nat) (m:Int),g+i=l.length∧v1=.int .i64 m∧v7=.int .i64 i∧Hid (Below w1.heap.size w1 wr)∧Hid ((i:Int)+m≤1000000∧-9223372036854775808≤m)∧Hid (leftL d m (l.drop i)=q))
 case atStart=>exact ⟨0,n-1,rfl,rfl,rfl,HW0,HN0,HQ⟩
 case round=>
 clear HW0 HN0 HQ;obtain ⟨wl,rfl⟩:∃ wl:World,wl=wr:=⟨_,rfl⟩
 obtain ⟨i,m,hg,rfl,rfl,hbw,hm,hq⟩:=hrel;have b3:=FF.out _ hbw.out;have HFIN:Hid (Bel w wl):=HKX.out _ hbw.out
 by_cases hi:i<l.length
 ·have hil:(i:Int)<(l.length:Int):=by omega
  have dil:decide ((i:Int)<(l.length:Int))=true:=decide_eq_true hil
  by_cases hm0:0≤m
  ·have dm:decide (0≤m)=true:=decide_eq_true hm0
   have hdr:leftL d m (l.drop i)=leftK d m l[i] (l.drop (i+1)):=by
    rw[List.drop_eq_getElem_cons hi,V5,if_neg (by omega)]
   rw[hdr] at hq;have wk:IntKind.i64.wrap ((i:Int)+1)=(i:Int)+1:=IntWalk.i64_in _ (by have:=hm.out; omega)
   cases d with
   | zero=>
    have hq1:q = -1:=hq.out.symm;subst hq1;clear hq hm hbw hdr hi hg;go_wp2;go_ret;exact ⟨rfl,HFIN.out⟩
   | succ d=>
    obtain ⟨y,hy⟩:∃ y,l[i]?=some y:=⟨l[i],List.getElem?_eq_getElem hi⟩
    have hye:l[i]=y:=(List.getElem?_eq_some_iff.1 hy).2;rw[hye] at hq;have hq2:leftL (d+1) (leftN d m y) (l.drop (i+1))=q:=hq.out;obtain ⟨b,o,da,dc,had,hxy,c0,c1,c2,c3⟩:=HKD.out.at' (HKX.out _ hbw.out) hy;have ed:(((d+1:Nat):Int)==0)=false:=zzq (by omega);have wd:IntKind.i64.wrap (((d+1:Nat):Int)-1)=(d:Int):=by rw[IntWalk.i64_in _ (by omega)]; omega
    have ci:=HIH.out d rfl y _ m wl hxy (by omega) (by have:=hm.out; omega);obtain ⟨h3,h4⟩:=Yu y d m;have hb4:=h4 hm0;have HM2:Hid (((i+1:Nat):Int)+leftN d m y≤1000000∧-9223372036854775808≤leftN d m y):=by have:=hm.out; unfold Hid; omega
    have HQ2:=Zh hq2;have HBW:=Zh hbw.out;have HG:=Zh hg;have HHI:=Zh hi;generalize leftN d m y=m2 at *;subst had;rw[Int.natCast_add,Int.natCast_one] at ed wd;clear h3 h4 hb4 hq hq2 hm hbw hdr hi hg hye hy hxy;go_wp2_with fail;refine ci.mono ?_;rintro e w7 ⟨rfl,hb7⟩;have HB7:=Zh (Je HBW.out hb7);clear ci hb7 b3 c0 c1 c2 c3 ed wd;go_wp2;go_roundg (l.length-(i+1))
    case measure=>have:=HG.out; have:=HHI.out; omega
    case rel=>exact ⟨i+1,m2,by have:=HHI.out; omega,rfl,by go_num,HB7,HM2,HQ2⟩
  ·have dm:decide (0≤m)=false:=decide_eq_false hm0;have dm2:decide (m<0)=true:=decide_eq_true (by omega);have hq1:q = -1:=by rw[← hq.out,VQ d (by omega)]
   exact wx119
 ·have hil:¬ (i:Int)<(l.length:Int):=by omega
  have dil:decide ((i:Int)<(l.length:Int))=false:=decide_eq_false hil;have hq1:q=if m<0 then -1 else m:=by rw[← hq.out,List.drop_of_length_le (by omega),leftL]
  by_cases hm0:m<0
  ·have dm:decide (m<0)=true:=decide_eq_true hm0;rw[if_pos hm0] at hq1;exact wx119
  ·have dm:decide (m<0)=false:=decide_eq_false hm0;rw[if_neg hm0] at hq1;exact wx119
theorem Jal:∀ d:Nat,d≤60→∀ (e:Exp) (c:Array Value) (n:Int) (W:World),XAt W (In W) e c→-9223372036854775807≤n→n≤1000000→Calls prog 39 #[.agg c,.int .i64 n,.int .i64 d] W (BelP W (.int .i64 (leftN d n e)))
 | 0,hd,.mk k nn s l,c,n,W,hx,h1,h2=>by
  obtain ⟨ad,cc,rfl,_,hK⟩:=hx.kids;exact Jbw 0 (fun d' h=>by omega) hd k nn s l ad cc n W hK h1 h2
 | d+1,hd,.mk k nn s l,c,n,W,hx,h1,h2=>by
  obtain ⟨ad,cc,rfl,_,hK⟩:=hx.kids;refine Jbw (d+1) (fun d' h=>?_) hd k nn s l ad cc n W hK h1 h2;obtain rfl:d=d':=by omega
  exact Jal d (by omega)
structure RLen (r:RuleM):Prop where
 nf:r.funcs.length≤9223372036854775807
 nc:r.clauses.length≤9223372036854775807
 np:∀ f∈r.funcs,f.params.length≤9223372036854775807
theorem Jem {n:Int} (h:n<0) (l:List FnM):lightF n l=n:=by
 cases l with
 | nil=>rfl
 | cons a l=>rw[lightF,if_pos h]
theorem Jen {n:Int} (h:n<0) (l:List ClM):lightC n l=n:=by
 cases l with
 | nil=>rfl
 | cons a l=>rw[lightC,if_pos h]
theorem wx87 {P:Prop}(h:P:=by
  rw[dwN] at hqv;subst hqv
  rcases hcond with ⟨c1,c2⟩ | c1
  all_goals first
   | (exfalso; rw[d0] at c2; cases c2)
   | (clear h0 hl1 hw1; go_wp2; go_ret; exact ⟨rfl,HFIN.out⟩)):P:=h
theorem wx7 {P:Prop}(h:P:=by
  go_loopg [5,7] r.clauses.length (fun g v5 v7 wr=>∃ (j:Nat) (n:Int),g+j=r.clauses.length∧v5=.int .i64 n∧v7=.int .i64 j∧Hid (Below w1.heap.size w1 wr)∧Hid ((j:Int)+n≤300∧-1≤n)∧Hid (lightC n (r.clauses.drop j)=L))
  case atStart=>exact ⟨0,m,rfl,rfl,rfl,HBW,HM1,HQF⟩
  case round=>
  clear HBW HM1 HQF;obtain ⟨wm,rfl⟩:∃ wm:World,wm=wr:=⟨_,rfl⟩
  obtain ⟨j,n,hg,rfl,rfl,hbw,hm,hq⟩:=hrel
  by_cases hi:j<r.clauses.length∧0≤n
  ·obtain ⟨hi,hm0⟩:=hi;have hil:(j:Int)<(r.clauses.length:Int):=by omega
   have dil:decide ((j:Int)<(r.clauses.length:Int))=true:=decide_eq_true hil;have dm:decide (0≤n)=true:=decide_eq_true hm0;obtain ⟨f,hf⟩:∃ f,r.clauses[j]?=some f:=⟨r.clauses[j],List.getElem?_eq_getElem hi⟩
   have hfe:r.clauses[j]=f:=(List.getElem?_eq_some_iff.1 hf).2;have hXf:=HCX.out.up (HKX.out _ hbw.out);obtain ⟨b,o,da,dc,hfa,hfc⟩:=hXf.get hf;have hq2:=hq.out;rw[List.drop_eq_getElem_cons hi,hfe,lightC,if_neg (by omega)] at hq2;have hle:=(Yu f.cond 60 n)
   have HM2:Hid (((j+1:Nat):Int)+leftN 60 n f.cond≤300∧-1≤leftN 60 n f.cond):=by
    have:=hm.out;have:=hle.2 hm0;exact ⟨by omega,hle.1⟩
   have wk:IntKind.i64.wrap ((j:Int)+1)=(j:Int)+1:=IntWalk.i64_in _ (by have:=hm.out; omega);have cl:=Jal 60 (by decide) f.cond _ n wm hfc.cond (by omega) (by have:=hm.out; omega);generalize leftN 60 n f.cond=m2 at *;have HQ2:=Zh hq2;have HBW:=Zh hbw.out;have HG:=Zh hg;have HHI:=Zh hi;have c0:=hfc.c0;have c1:=hfc.c1;have c2:=hfc.c2;have c3:=hfc.c3;obtain ⟨b0,b1,b2,b3⟩:=FF.out _ hbw.out;rw[show ((60:Nat):Int)=60 from rfl] at cl;subst hfa;clear hle hq hq2 hm hbw hi hg hf hfe hXf hfc hm0;go_wp2_with fail;refine cl.mono ?_;rintro e w7 ⟨rfl,hb7⟩;have HB7:=Zh (Je HBW.out hb7);clear cl hb7 b0 b1 b2 b3 c0 c1 c2 c3;go_wp2;go_roundg (r.clauses.length-(j+1))
   case measure=>have:=HG.out; have:=HHI.out; omega
   case rel=>exact ⟨j+1,m2,by have:=HHI.out; omega,rfl,by go_num,HB7,HM2,HQ2⟩
  have hnL:n=L:=by
   by_cases h0:n<0
   ·have:=hq.out;rw[Jen h0] at this;exact this
   ·have hi2:r.clauses.length≤j:=by omega
    have:=hq.out;rw[List.drop_of_length_le hi2] at this;exact this
  subst hnL;obtain ⟨b0,b1,b2,b3⟩:=FF.out _ hbw.out;have HFIN:Hid (Bel w wm):=HKX.out _ hbw.out
  have hcond:((j:Int)<(r.clauses.length:Int)∧decide (0≤n)=false)∨¬ (j:Int)<(r.clauses.length:Int):=by
   by_cases h0:j<r.clauses.length
   ·exact .inl ⟨by omega,decide_eq_false (by omega)⟩
   ·exact .inr (by omega)
  have hqv:q=(decide (0≤n)&&decide (F.labels.length≤100)&&decide (F.words.length≤100)):=by
   rw[← HQ.out];unfold lightM;rw[HLE.out]
  clear hq hm hbw hi hg
  by_cases h0:0≤n
  ·have d0:decide (0≤n)=true:=decide_eq_true h0;rw[d0,Bool.true_and] at hqv
   by_cases hl1:F.labels.length≤100
   ·have dl:decide ((F.labels.length:Int)≤100)=true:=decide_eq_true (by omega);have dlN:decide (F.labels.length≤100)=true:=decide_eq_true hl1;rw[dlN,Bool.true_and] at hqv
    by_cases hw1:F.words.length≤100
    ·have dw:decide ((F.words.length:Int)≤100)=true:=decide_eq_true (by omega);have dwN:decide (F.words.length≤100)=true:=decide_eq_true hw1;exact wx87
    ·have dw:decide ((F.words.length:Int)≤100)=false:=decide_eq_false (by omega);have dwN:decide (F.words.length≤100)=false:=decide_eq_false hw1;exact wx87
   ·have dl:decide ((F.labels.length:Int)≤100)=false:=decide_eq_false (by omega);have dlN:decide (F.labels.length≤100)=false:=decide_eq_false hl1;rw[dlN,Bool.false_and] at hqv;subst hqv
    rcases hcond with ⟨c1,c2⟩ | c1
    all_goals first
     | (exfalso; rw[d0] at c2; cases c2)
     | (clear h0 hl1; go_wp2; go_ret; exact ⟨rfl,HFIN.out⟩)
  ·have d0:decide (0≤n)=false:=decide_eq_false h0;rw[d0] at hqv;simp only[Bool.false_and] at hqv;subst hqv
   rcases hcond with ⟨c1,c2⟩ | c1
   all_goals (clear h0; go_wp2; go_ret; exact ⟨rfl,HFIN.out⟩)):P:=h
theorem Jgn (r:RuleM) (F:FactsM) (c:Array Value) (la wa:Option Addr) (lc wc:Nat) (w:World) (hx:RuleX w (In w) r c) (hz:RLen r) :
  Calls prog 12 #[.agg c,.agg (factsC F (.slice la F.labels.length lc) (.slice wa F.words.length wc))] w (BelP w (.bool (lightM r F))):=by
 obtain ⟨fa,fc,ca,cc,rfl,hF,hC⟩:=hx.parts;obtain ⟨q,hq⟩:∃ q,lightM r F=q:=⟨_,rfl⟩
 rw[hq];obtain ⟨L,hLL⟩:∃ L,lightC (lightF 300 r.funcs) r.clauses=L:=⟨_,rfl⟩
 have HQ:Hid (lightM r F=q):=hq;have HL:Hid (lightC (lightF 300 (r.funcs.drop 0)) r.clauses=L):=hLL;have HLE:=Zh hLL;unfold factsC;have hbA:Below w.heap.size w ((w.alloc (.cells #[.slice fa r.funcs.length fc,.slice ca r.clauses.length cc,.int .i64 r.action] 30)).alloc (.cells #[.slice la F.labels.length lc,.int .i64 F.likes,.int .i64 F.boosts,.int .i64 F.replies,.int .i64 F.reports,.int .i64 F.age,.int .i64 F.home,.int .i64 F.scope,.int .i64 F.length,.bool F.follows,.bool F.reply,.slice wa F.words.length wc] 25)):=(zzb.alloc zzl _).alloc (by simp) _;have HKX:Hid (∀ W,Below ((w.alloc (.cells #[.slice fa r.funcs.length fc,.slice ca r.clauses.length cc,.int .i64 r.action] 30)).alloc (.cells #[.slice la F.labels.length lc,.int .i64 F.likes,.int .i64 F.boosts,.int .i64 F.replies,.int .i64 F.reports,.int .i64 F.age,.int .i64 F.home,.int .i64 F.scope,.int .i64 F.length,.bool F.follows,.bool F.reply,.slice wa F.words.length wc] 25)).heap.size ((w.alloc (.cells #[.slice fa r.funcs.length fc,.slice ca r.clauses.length cc,.int .i64 r.action] 30)).alloc (.cells #[.slice la F.labels.length lc,.int .i64 F.likes,.int .i64 F.boosts,.int .i64 F.replies,.int .i64 F.reports,.int .i64 F.age,.int .i64 F.home,.int .i64 F.scope,.int .i64 F.length,.bool F.follows,.bool F.reply,.slice wa F.words.length wc] 25)) W→Bel w W):=fun W hW=>Je hbA hW
 have HRB:Hid (((w.alloc (.cells #[.slice fa r.funcs.length fc,.slice ca r.clauses.length cc,.int .i64 r.action] 30)).alloc (.cells #[.slice la F.labels.length lc,.int .i64 F.likes,.int .i64 F.boosts,.int .i64 F.replies,.int .i64 F.reports,.int .i64 F.age,.int .i64 F.home,.int .i64 F.scope,.int .i64 F.length,.bool F.follows,.bool F.reply,.slice wa F.words.length wc] 25)).heap[w.heap.size]?=some (.cells #[.slice fa r.funcs.length fc,.slice ca r.clauses.length cc,.int .i64 r.action] 30 (0,0))):=Jf (zzw _ _)
 have HFB:Hid (((w.alloc (.cells #[.slice fa r.funcs.length fc,.slice ca r.clauses.length cc,.int .i64 r.action] 30)).alloc (.cells #[.slice la F.labels.length lc,.int .i64 F.likes,.int .i64 F.boosts,.int .i64 F.replies,.int .i64 F.reports,.int .i64 F.age,.int .i64 F.home,.int .i64 F.scope,.int .i64 F.length,.bool F.follows,.bool F.reply,.slice wa F.words.length wc] 25)).heap[w.heap.size+1]?=some (.cells #[.slice la F.labels.length lc,.int .i64 F.likes,.int .i64 F.boosts,.int .i64 F.replies,.int .i64 F.reports,.int .i64 F.age,.int .i64 F.home,.int .i64 F.scope,.int .i64 F.length,.bool F.follows,.bool F.reply,.slice wa F.words.length wc] 25 (0,0))):=by
  have e1:=zzw (w.alloc (.cells #[.slice fa r.funcs.length fc,.slice ca r.clauses.length cc,.int .i64 r.action] 30)) (.cells #[.slice la F.labels.length lc,.int .i64 F.likes,.int .i64 F.boosts,.int .i64 F.replies,.int .i64 F.reports,.int .i64 F.age,.int .i64 F.home,.int .i64 F.scope,.int .i64 F.length,.bool F.follows,.bool F.reply,.slice wa F.words.length wc] 25);simp only[World.size_alloc] at e1;exact e1
 have HNB:Hid (w.heap.size<((w.alloc (.cells #[.slice fa r.funcs.length fc,.slice ca r.clauses.length cc,.int .i64 r.action] 30)).alloc (.cells #[.slice la F.labels.length lc,.int .i64 F.likes,.int .i64 F.boosts,.int .i64 F.replies,.int .i64 F.reports,.int .i64 F.age,.int .i64 F.home,.int .i64 F.scope,.int .i64 F.length,.bool F.follows,.bool F.reply,.slice wa F.words.length wc] 25)).heap.size∧w.heap.size+1<((w.alloc (.cells #[.slice fa r.funcs.length fc,.slice ca r.clauses.length cc,.int .i64 r.action] 30)).alloc (.cells #[.slice la F.labels.length lc,.int .i64 F.likes,.int .i64 F.boosts,.int .i64 F.replies,.int .i64 F.reports,.int .i64 F.age,.int .i64 F.home,.int .i64 F.scope,.int .i64 F.length,.bool F.follows,.bool F.reply,.slice wa F.words.length wc] 25)).heap.size):=by unfold Hid; simp only[World.size_alloc]; omega
 have HFX:=Zh hF;have HCX:=Zh hC;have HZ:=Zh hz;have hnf:=hz.nf;have hnc:=hz.nc;clear hbA hx hF hC hz hq hLL;go_enter func12,ntmps12;go_upto_region 1 with fail;generalize World.alloc (World.alloc w _) _=w1 at *;generalize w.heap.size+1=fb at *;generalize w.heap.size=eb at *
 have FF:Hid (∀ W,Below w1.heap.size w1 W→W.cell? ⟨eb,0,none⟩=some (.slice fa r.funcs.length fc)∧W.cell? ⟨eb,1,none⟩=some (.slice ca r.clauses.length cc)∧W.cell? ⟨fb,0,none⟩=some (.slice la F.labels.length lc)∧W.cell? ⟨fb,11,none⟩=some (.slice wa F.words.length wc)):=by
  intro W hW;have hr:=(hW.block _ HNB.out.1).trans HRB.out;have hf:=(hW.block _ HNB.out.2).trans HFB.out;refine ⟨?_,?_,?_,?_⟩
  ·rw[Ja hr]; rfl
  ·rw[Ja hr]; rfl
  ·rw[Ja hf]; rfl
  ·rw[Ja hf]; rfl
 have HW0:Hid (Below w1.heap.size w1 w1):=Below.refl _ _;go_wp2_with fail;go_loopg [5,6] r.funcs.length (fun g v5 v6 wr=>∃ (i:Nat) (m:Int),g+i=r.funcs.length∧v5=.int .i64 m∧v6=.int .i64 i∧Hid (Below w1.heap.size w1 wr)∧Hid ((i:Int)+m≤300∧-1≤m)∧Hid (lightC (lightF m (r.funcs.drop i)) r.clauses=L))
 case atStart=>exact ⟨0,300,rfl,rfl,rfl,HW0,by unfold Hid; omega,HL⟩
 case round=>
 clear HW0 HL;obtain ⟨wl,rfl⟩:∃ wl:World,wl=wr:=⟨_,rfl⟩
 obtain ⟨i,m,hg,rfl,rfl,hbw,hm,hq⟩:=hrel
 by_cases hi:i<r.funcs.length∧0≤m
 ·obtain ⟨hi,hm0⟩:=hi;have hil:(i:Int)<(r.funcs.length:Int):=by omega
  have dil:decide ((i:Int)<(r.funcs.length:Int))=true:=decide_eq_true hil;have dm:decide (0≤m)=true:=decide_eq_true hm0;obtain ⟨f,hf⟩:∃ f,r.funcs[i]?=some f:=⟨r.funcs[i],List.getElem?_eq_getElem hi⟩
  have hmem:=List.mem_of_getElem? hf;have hfe:r.funcs[i]=f:=(List.getElem?_eq_some_iff.1 hf).2;have hXf:=HFX.out.up (HKX.out _ hbw.out);obtain ⟨b,o,pa,pc,da,dc,hfa,hfc⟩:=hXf.get hf;have hnp:=HZ.out.np f hmem;have hq2:=hq.out;rw[List.drop_eq_getElem_cons hi,hfe,lightF,if_neg (by omega)] at hq2;have hle:=(Yu f.body 60 (m-f.params.length))
  have HM2:Hid (((i+1:Nat):Int)+leftN 60 (m-f.params.length) f.body≤300∧-1≤leftN 60 (m-f.params.length) f.body):=by
   have:=hm.out;refine ⟨?_,hle.1⟩
   by_cases h0:0≤m-f.params.length
   ·have:=hle.2 h0; omega
   ·have h5:leftN 60 (m-f.params.length) f.body = -1:=by
     generalize f.body=e at *;obtain ⟨k,n,s,l⟩:=e;rw[leftN,VQ 60 (by omega)]
    omega
  have wk:IntKind.i64.wrap ((i:Int)+1)=(i:Int)+1:=IntWalk.i64_in _ (by have:=hm.out; omega);have wm:IntKind.i64.wrap (m-(f.params.length:Int))=m-(f.params.length:Int):=IntWalk.i64_in _ (by have:=hm.out; omega);have cl:=fun W (hW:Below wl.heap.size wl W)=>Jal 60 (by decide) f.body _ (m-f.params.length) W (hfc.body.up hW) (by omega) (by have:=hm.out; omega)
  generalize leftN 60 (m-f.params.length) f.body=m2 at *;have HQ2:=Zh hq2;have HBW:=Zh hbw.out;have HG:=Zh hg;have HHI:=Zh hi
  have F3:Hid (∀ W,Below wl.heap.size wl W→W.cell? ⟨eb,0,none⟩=some (.slice (some ⟨b,o,none⟩) r.funcs.length fc)∧W.cell? ⟨b,o+i*7+1,none⟩=some (.slice pa f.params.length pc)∧W.cell? ⟨b,o+i*7+3,none⟩=some (.int .i64 f.body.kind)∧W.cell? ⟨b,o+i*7+4,none⟩=some (.int .i64 f.body.num)∧W.cell? ⟨b,o+i*7+5,none⟩=some (.string (bs f.body.name))∧W.cell? ⟨b,o+i*7+6,none⟩=some (.slice da f.body.kids.length dc)):=by
   intro W hW;obtain ⟨q0,q1,q2,q3⟩:=FF.out _ (Je hbw.out hW);have hk:∀ j u,wl.cell? ⟨b,o+i*7+j,none⟩=some u→W.cell? ⟨b,o+i*7+j,none⟩=some u:=fun j u hu=>(hW.cell (p:=⟨b,o+i*7+j,none⟩) hfc.blt).trans hu
   rw[hfa] at q0;exact ⟨q0,hk 1 _ hfc.c1,hk 3 _ hfc.c3,hk 4 _ hfc.c4,hk 5 _ hfc.c5,hk 6 _ hfc.c6⟩
  obtain ⟨b0,_,_,_⟩:=FF.out _ hbw.out;have HCL:=Zh cl;rw[show ((60:Nat):Int)=60 from rfl] at HCL;subst hfa;clear hle hq hq2 hm hbw hi hg hf hmem hfe hXf hfc hnp hm0 cl;go_upto_region 5 with fail;clear b0;refine wp_region_held_drew (S:=(fun W=>Below wl.heap.size wl W∧W.cell? ⟨eb,0,none⟩=some (.slice (some ⟨b,o,none⟩) r.funcs.length fc)∧W.cell? ⟨b,o+i*7+1,none⟩=some (.slice pa f.params.length pc)∧W.cell? ⟨b,o+i*7+3,none⟩=some (.int .i64 f.body.kind)∧W.cell? ⟨b,o+i*7+4,none⟩=some (.int .i64 f.body.num)∧W.cell? ⟨b,o+i*7+5,none⟩=some (.string (bs f.body.name))∧W.cell? ⟨b,o+i*7+6,none⟩=some (.slice da f.body.kids.length dc))) (by kernel_rfl) (⟨(Below.refl wl.heap.size wl).drew,F3.out _ (Below.refl wl.heap.size wl).drew⟩) (fun hH=>?_);refine ZT (i:=0) (v:=?vQ0) rfl (Or.inl ⟨by rfl,?yQ0⟩) ?_
  case yQ0=>exact ZyQ
  try simp only[Act.put,ZA,ZB,ZC]
  refine ZT (i:=1) (v:=?vQ1) rfl (Or.inl ⟨by rfl,?yQ1⟩) ?_
  case yQ1=>exact ZyQ
  try simp only[Act.put,ZA,ZB,ZC]
  refine ZT (i:=2) (v:=?vQ2) rfl (Or.inl ⟨by rfl,?yQ2⟩) ?_
  case yQ2=>exact ZyQ
  try simp only[Act.put,ZA,ZB,ZC]
  refine ZT (i:=3) (v:=?vQ3) rfl (Or.inl ⟨by rfl,?yQ3⟩) ?_
  case yQ3=>exact ZyQ
  try simp only[Act.put,ZA,ZB,ZC]
  refine ZT (i:=4) (v:=?vQ4) rfl (Or.inl ⟨by rfl,?yQ4⟩) ?_
  case yQ4=>exact ZyQ
  try simp only[Act.put,ZA,ZB,ZC]
  refine ZT (i:=5) (v:=?vQ5) rfl (Or.inl ⟨by rfl,?yQ5⟩) ?_
  case yQ5=>exact ZyQ
  try simp only[Act.put,ZA,ZB,ZC]
  refine ZT (i:=6) (v:=?vQ6) rfl (Or.inl ⟨by rfl,?yQ6⟩) ?_
  case yQ6=>exact ZyQ
  try simp only[Act.put,ZA,ZB,ZC]
  refine ZT (i:=7) (v:=?vQ7) rfl (Or.inl ⟨by rfl,?yQ7⟩) ?_
  case yQ7=>exact ZyQ
  try simp only[Act.put,ZA,ZB,ZC]
  refine ZT (i:=8) (v:=?vQ8) rfl (Or.inl ⟨by rfl,?yQ8⟩) ?_
  case yQ8=>exact ZyQ
  try simp only[Act.put,ZA,ZB,ZC]
  refine ZT (i:=9) (v:=?vQ9) rfl (Or.inl ⟨by rfl,?yQ9⟩) ?_
  case yQ9=>exact ZyQ
  try simp only[Act.put,ZA,ZB,ZC]
  refine ZT (i:=10) (v:=?vQ10) rfl (Or.inl ⟨by rfl,?yQ10⟩) ?_
  case yQ10=>exact ZyQ
  try simp only[Act.put,ZA,ZB,ZC]
  refine ZT (i:=11) (v:=?vQ11) rfl (Or.inl ⟨by rfl,?yQ11⟩) ?_
  case yQ11=>exact ZyQ
  try simp only[Act.put,ZA,ZB,ZC]
  refine ZT (i:=12) (v:=?vQ12) rfl (Or.inl ⟨by rfl,?yQ12⟩) ?_
  case yQ12=>exact ZyQ
  try simp only[Act.put,ZA,ZB,ZC]
  refine ZT (i:=13) (v:=?vQ13) rfl (Or.inl ⟨by rfl,?yQ13⟩) ?_
  case yQ13=>exact ZyQ
  try simp only[Act.put,ZA,ZB,ZC]
  refine ZT (i:=14) (v:=?vQ14) rfl (Or.inl ⟨by rfl,?yQ14⟩) ?_
  case yQ14=>exact ZyQ
  try simp only[Act.put,ZA,ZB,ZC]
  refine ZS 15 rfl (fun K hK=>?_)
  (go_simp; go_at_call 39; refine (HCL.out _ ((Below.refl wl.heap.size wl).drew)).mono ?_; rintro e wc0 ⟨rfl,hbc0⟩)
  refine hK.out _ _ (⟨((Below.refl wl.heap.size wl).drew).trans (hbc0.mono ((Below.refl wl.heap.size wl).drew).size),F3.out _ (((Below.refl wl.heap.size wl).drew).trans (hbc0.mono ((Below.refl wl.heap.size wl).drew).size))⟩) (fun hH=>?_);clear hK K
  try simp only[Act.put,ZA,ZB,ZC]
  refine ZT (i:=16) (v:=?vQ16) rfl (Or.inl ⟨by rfl,?yQ16⟩) ?_
  case yQ16=>exact ZyQ
  try simp only[Act.put,ZA,ZB,ZC]
  refine wpAnyH_done (by kernel_rfl) ?_ _;have HB7:=Zh (Je HBW.out hH.1);clear hH;go_wp2;go_roundg (r.funcs.length-(i+1))
  case measure=>have:=HG.out; have:=HHI.out; omega
  case rel=>exact ⟨i+1,m2,by have:=HHI.out; omega,rfl,by go_num,HB7,HM2,HQ2⟩
 have hqF:lightC m r.clauses=L:=by
  by_cases h0:m<0
  ·have:=hq.out;rw[Jem h0] at this;exact this
  ·have hi2:r.funcs.length≤i:=by omega
   have:=hq.out;rw[List.drop_of_length_le hi2] at this;exact this
 obtain ⟨b0,b1,b2,b3⟩:=FF.out _ hbw.out;have HBW:=Zh hbw.out;have HM1:Hid ((0:Int)+m≤300∧-1≤m):=by have:=hm.out; unfold Hid; omega
 have HQF:Hid (lightC m (r.clauses.drop 0)=L):=hqF
 have hcond:((i:Int)<(r.funcs.length:Int)∧decide (0≤m)=false)∨¬ (i:Int)<(r.funcs.length:Int):=by
  by_cases h0:i<r.funcs.length
  ·exact .inl ⟨by omega,decide_eq_false (by omega)⟩
  ·exact .inr (by omega)
 clear hq hm hbw hi hg hqF
 rcases hcond with ⟨d1,d2⟩ | d1
 ·go_wp2_with fail;clear b0 b1 b2 b3 d1;clear d2;exact wx7
 ·go_wp2_with fail;clear b0 b1 b2 b3 d1;exact wx7
end Go.Proofs.YtncanmdgdflnpaaGreatDoor
namespace Go.Proofs.YtncanmdgdflnpaaGreatDoor
open Go.ChangeShapes Go.WideShapes Go.RowKit Go.Deep
open Go.Joins
open _root_.Go.Proofs.Tryz
set_option linter.all false
set_option maxRecDepth 100000
set_option maxHeartbeats 32000000
section
variable {H:Type} {enc:TypeId × Value→H} {P:Program} {w:World} {base:Nat} {spare:Nat→Bool} {held:Bool}
end
section
variable {H:Type} {enc:TypeId × Value→H} {w:World} {base:Nat} {spare:Nat→Bool} {held:Bool}
end
end Go.Proofs.YtncanmdgdflnpaaGreatDoor
namespace Go.Proofs.YtncanmdgdflnpaaGreatDoor
open Go.ChangeShapes Go.WideShapes Go.ChangeAt Go.RowKit Go.Lib
open _root_.Go.Proofs.Tryz
set_option linter.all false
set_option maxRecDepth 100000
set_option maxHeartbeats 32000000
def RuleV (w:World) (b:Nat) (r:RuleM):Prop:=∃ fa fc ca cc,∀ W,Bel w W→(W.cell? ⟨b,0,none⟩=some (.slice fa r.funcs.length fc)∧W.cell? ⟨b,1,none⟩=some (.slice ca r.clauses.length cc)∧W.cell? ⟨b,2,none⟩=some (.int .i64 r.action))∧
 RuleX W (fun q=>q<w.heap.size) r #[.slice fa r.funcs.length fc,.slice ca r.clauses.length cc,.int .i64 r.action]
theorem Jcv {W:World} {b t:Nat} {a0 a1 a2:Value} {fr:Nat × Nat} (h:W.heap[b]?=some (.cells #[a0,a1,a2] t fr)) :
  W.cell? ⟨b,0,none⟩=some a0∧W.cell? ⟨b,1,none⟩=some a1∧W.cell? ⟨b,2,none⟩=some a2:=by
 refine ⟨?_,?_,?_⟩ <;> (rw[Ja h]; rfl)
theorem RuleX.form {W:World} {P:Nat→Prop} {r:RuleM} {c:Array Value} (h:RuleX W P r c):∃ fa fc ca cc,c=#[.slice fa r.funcs.length fc,.slice ca r.clauses.length cc,.int .i64 r.action]:=by
 obtain ⟨fv,cv,rfl,⟨fa,fc,_,rfl,_⟩,⟨ca,cc,_,rfl,_⟩⟩:=h;exact ⟨_,_,_,_,rfl⟩
theorem RuleV.of {w:World} {b t:Nat} {r:RuleM} {c:Array Value} (hz:w.heap[b]?=some (.cells c t (0,0))) (hx:RuleX w (In w) r c):RuleV w b r:=by
 obtain ⟨fa,fc,ca,cc,rfl⟩:=hx.form;exact ⟨fa,fc,ca,cc,fun W hW=>⟨Jcv ((hW.block _ (Jb hz)).trans hz),RuleX.keep (fun q hq=>hW.block q hq) (fun _ h=>h) hx⟩⟩
theorem Jdn (e:Exp):1≤siz (utN e):=by cases e; unfold utN; rw[JA]; omega
def FactsV (w:World) (b:Nat) (F:FactsM) (la wa:Option Addr) (lc wc:Nat):Prop:=∀ W,Bel w W→(W.cell? ⟨b,0,none⟩=some (.slice la F.labels.length lc)∧W.cell? ⟨b,1,none⟩=some (.int .i64 F.likes)∧W.cell? ⟨b,2,none⟩=some (.int .i64 F.boosts)∧W.cell? ⟨b,3,none⟩=some (.int .i64 F.replies)∧W.cell? ⟨b,4,none⟩=some (.int .i64 F.reports)∧W.cell? ⟨b,5,none⟩=some (.int .i64 F.age)∧W.cell? ⟨b,6,none⟩=some (.int .i64 F.home)∧W.cell? ⟨b,7,none⟩=some (.int .i64 F.scope)∧W.cell? ⟨b,8,none⟩=some (.int .i64 F.length)∧W.cell? ⟨b,9,none⟩=some (.bool F.follows)∧W.cell? ⟨b,10,none⟩=some (.bool F.reply)∧W.cell? ⟨b,11,none⟩=some (.slice wa F.words.length wc))∧
 LabsAt W (.slice la F.labels.length lc) F.labels∧WordsAt W (.slice wa F.words.length wc) F.words
theorem FactsV.up {w w1:World} {b:Nat} {F:FactsM} {la wa:Option Addr} {lc wc:Nat} (h:FactsV w b F la wa lc wc) (hb:Bel w w1):FactsV w1 b F la wa lc wc:=fun W hW=>h W (Je hb hW)
theorem FactsV.of {w:World} {b t:Nat} {F:FactsM} {la wa:Option Addr} {lc wc:Nat} (hz:w.heap[b]?=some (.cells (factsC F (.slice la F.labels.length lc) (.slice wa F.words.length wc)) t (0,0))) (hl:LabsAt w (.slice la F.labels.length lc) F.labels) (hw:WordsAt w (.slice wa F.words.length wc) F.words):FactsV w b F la wa lc wc:=by
 intro W hW;have hf:=(hW.block _ (Jb hz)).trans hz;unfold factsC at hf;refine ⟨⟨?_,?_,?_,?_,?_,?_,?_,?_,?_,?_,?_,?_⟩,hl.up hW,hw.up hW⟩ <;> (rw[Ja hf]; rfl)

end Go.Proofs.YtncanmdgdflnpaaGreatDoor
