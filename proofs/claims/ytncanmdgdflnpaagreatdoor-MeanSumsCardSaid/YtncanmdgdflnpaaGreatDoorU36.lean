import Derived.Deep.CutBlock
import Derived.Deep.Slices
import Derived.Deep.Fields
import Derived.SliceStrings
import Derived.ChangeSlices
import Derived.ChangeMaps5
import Derived.Test.YtncanmdgdflnpaaGreatDoorU29
import Derived.Test.YtncanmdgdflnpaaGreatDoorU35
namespace Go.Proofs.YtncanmdgdflnpaaGreatDoor
open Go.ChangeShapes Go.WideShapes Go.ChangeAt Go.RowKit Go.Lib
open _root_.Go.Proofs.Tryz
set_option linter.all false
set_option maxRecDepth 100000
set_option maxHeartbeats 32000000
def SumF (kk:Nat) (a b v:Int) (ok:Bool):Prop:=
 (ok=true∧operI (8+(kk:Int)) a b 1=.val v 1∧-1125899906842624≤v∧v≤1125899906842624)∨(ok=false∧operI (8+(kk:Int)) a b 1=.fault 1 1∧v=0)
theorem Jau (n:Int):-1125899906842624≤limI n∧limI n≤1125899906842624:=by
 unfold limI clampI;split
 ·constructor <;> omega
 ·split <;> constructor <;> omega
theorem Jgg (a b:Int):SumF 0 a b (limI (a+b)) true:=.inl ⟨rfl,rfl,Jau _⟩
theorem Jgh (a b:Int):SumF 1 a b (limI (a-b)) true:=.inl ⟨rfl,rfl,Jau _⟩
theorem Jgi (a b:Int):SumF 2 a b (limI (a*b)) true:=.inl ⟨rfl,rfl,Jau _⟩
theorem Jgj (a b:Int):SumF 3 a b (if b=0 then 0 else limI (a.tdiv b)) (decide (b≠0)):=by
 by_cases h:b=0
 ·exact .inr ⟨by simp[h],by show operI 11 a b 1=_; simp[operI,h],if_pos h⟩
 ·exact .inl ⟨by simp[h],by show operI 11 a b 1=_; simp[operI,h]; rfl,by rw[if_neg h]; exact Jau _⟩
theorem Jgk (a b:Int):SumF 4 a b (if b=0 then 0 else limI (a.tmod b)) (decide (b≠0)):=by
 by_cases h:b=0
 ·exact .inr ⟨by simp[h],by show operI 12 a b 1=_; simp[operI,h],if_pos h⟩
 ·exact .inl ⟨by simp[h],by show operI 12 a b 1=_; simp[operI,h]; rfl,by rw[if_neg h]; exact Jau _⟩
theorem whenX {W:World} {P:Nat→Prop} {E:Exp} {k n:Int} {s:List UInt8} {ad:Option Addr} {ln lc b:Nat} (hx:XAt W P E #[.int .i64 k,.int .i64 n,.string (bs s),.slice ad ln lc]) (hb:W.heap[b]?=some (.cells #[.int .i64 k,.int .i64 n,.string (bs s),.slice ad ln lc,.int .i64 3,.string (bs [120])] 62 (0,0))) (hP:P b) :
  RuleX W P (whenM r0 E) #[.slice none 0 0,.slice (some ⟨b,0,none⟩) 1 1,.int .i64 0]:=
 ⟨.slice none 0 0,.slice (some ⟨b,0,none⟩) 1 1,rfl,⟨none,0,[],rfl,Nat.le_refl _,rfl,.inl rfl⟩,some ⟨b,0,none⟩,1,[.int .i64 k,.int .i64 n,.string (bs s),.slice ad ln lc,.int .i64 3,.string (bs [120])],rfl,Nat.le_refl _,⟨_,[],⟨_,hx,rfl⟩,rfl,rfl⟩,.inr ⟨b,0,rfl,hP,fun j u hj=>by rw[Nat.zero_add]; exact Kc hb (by simpa using hj)⟩⟩
theorem Yv (n:Int):NmN (litE n)∧siz (utN (litE n))≤2:=by
 unfold litE;split
 ·unfold opE NmN NmL NmN NmL utN utL utN utL siz sizL siz sizL; simp[NmL,utL,sizL]
 ·unfold NmN NmL utN utL siz sizL; simp
theorem JbZ {k:Int} {x y:Exp} {m n:Nat} (hx:NmN x∧siz (utN x)≤m) (hy:NmN y∧siz (utN y)≤n):NmN (opE k [x,y])∧siz (utN (opE k [x,y]))≤m+n+1:=by
 have h1:=hx.2;have h2:=hy.2;unfold opE NmN utN siz;refine ⟨⟨by simp,hx.1,hy.1,trivial⟩,?_⟩;rw[utL,utL,utL,sizL,sizL,sizL];omega
theorem Jbm {E:Exp} {m:Nat} (h:NmN E∧siz (utN E)≤m) (hm:m≤1000000):RSz (whenM r0 E):=
 ⟨by simp[whenM,r0],by simp[whenM],by simp[whenM,r0],fun c hc=>by
  obtain rfl:c=⟨E,3,[120]⟩:=by simpa[whenM] using hc
  exact ⟨h.1,Nat.le_trans h.2 hm,by simp⟩⟩
theorem fsz0:FSz F0:=⟨by decide,by decide⟩
theorem labs0 (w:World):LabsAt w (.slice none 0 0) F0.labels:=⟨none,0,[],rfl,Nat.le_refl _,rfl,.inl rfl⟩
theorem words0 (w:World):WordsAt w (.slice none 0 0) F0.words:=⟨none,0,[],rfl,Nat.le_refl _,rfl,.inl rfl⟩
theorem Jca {W W':World} {k:Int} {x y:Exp} {cx cy cs:Array Value} (hx:XAt W (In W) x cx) (hy:XAt W (In W) y cy) (hb:Bel (W.alloc (.cells cs 50)) W') (hcs:cs.toList=cx.toList++cy.toList) :
  XAt W' (In W') (opE k [x,y]) #[.int .i64 k,.int .i64 0,.string (bs []),.slice (some ⟨W.heap.size,0,none⟩) 2 2]:=by
 have hn:=heap_alloc_new W (.cells cs 50);have ha:Bel W W':=Je ((Below.refl _ _).alloc (Nat.le_refl _) _) hb;refine Jbe (l:=[x,y]) (cs:=cs) ?_ ((hb.block _ (Jb hn)).trans hn) (Nat.lt_of_lt_of_le (Jb hn) hb.size);rw[hcs];exact JbU (hx.up ha) (Jbf (hy.up ha))
theorem JeL {w9:World} {b t:Nat} {a0 a1 a2 a3:Value} (v0 v1 v2 v3:Value) (hz:w9.heap[b]?=some (.cells #[a0,a1,a2,a3] t (0,0))) (W:World) (hW:Bel (put4 w9 b v0 v1 v2 v3) W) :
  W.cell? ⟨b,0,none⟩=some v0∧W.cell? ⟨b,1,none⟩=some v1∧W.cell? ⟨b,2,none⟩=some v2∧W.cell? ⟨b,3,none⟩=some v3:=by
 have h:=blk4Z v0 v1 v2 v3 hz;exact Kk ((hW.block _ (Jb h)).trans h)
theorem Jgl {w9:World} {b t:Nat} {a0 a1 a2 a3 v0 v1 v2 v3:Value} {E:Exp} (hz:w9.heap[b]?=some (.cells #[a0,a1,a2,a3] t (0,0))) (hx:XAt w9 (fun q=>q<w9.heap.size∧q≠b) E #[v0,v1,v2,v3]) (W:World) (hW:Bel (put4 w9 b v0 v1 v2 v3) W) :
  (W.cell? ⟨b,0,none⟩=some v0∧W.cell? ⟨b,1,none⟩=some v1∧W.cell? ⟨b,2,none⟩=some v2∧W.cell? ⟨b,3,none⟩=some v3)∧XAt W (fun q=>q<(put4 w9 b v0 v1 v2 v3).heap.size) E #[v0,v1,v2,v3]:=
 ⟨JeL v0 v1 v2 v3 hz W hW,XAt.keep (fun q hq=>(hW.block q (by rw[Ys]; exact hq.1)).trans (YR _ _ _ _ hq.2 hq.1)) (fun q hq=>by rw[Ys]; exact hq.1) _ _ hx⟩
theorem VU {w W:World} {x:Exp} {c:Array Value} (h:XAt W (Since w W) x c):XAt W (In W) x c:=XAt.keep (fun _ _=>rfl) (fun q h=>h.2) _ _ h
theorem ux33 {P:Prop}(h:P:=by
  go_simp
  exact hK.out _ _ (Below.refl _ _) (fun _ _ _=>rfl) (fun h=>absurd h (by decide))):P:=h
theorem ux36 {P:Prop}(h:P:=by
  have HSS:=Zh hs;clear hs;go_wp2_with fail;refine (co _).mono ?_;rintro e w3 ⟨rfl,hb3⟩;go_wp2_with fail;go_meet
  exact ⟨_,_,rfl,rfl,HSS,hb3⟩):P:=h
theorem ux45 {P:Prop}(h:P:=by
  obtain ⟨ad,cc,rfl,_⟩:=hx.form;obtain ⟨ae,cd,rfl,_⟩:=hy.form;go_simp
  exact hK.out _ _ ((Below.refl _ _).alloc (Nat.le_refl _) _) (fun Pr1 h1 h2=>⟨_,_,rfl,h2 (by decide) _ (Nat.le_refl _) (by simp),heap_alloc_new _ _,JbU (XAt.keep (fun b h=>heap_alloc_old _ _ (hP b h)) h1 _ _ hx) (Jbf (XAt.keep (fun b h=>heap_alloc_old _ _ (hP b h)) h1 _ _ hy))⟩) (fun h=>absurd h (by decide))):P:=h
theorem ux50 {P:Prop}(h:P:=by
  rintro e w9 ⟨c,rfl,hx,hbb⟩
  exact hK.out _ _ hbb (fun Pr1 h1 h2=>⟨c,rfl,XAt.keep (fun _ _=>rfl) (fun q hq=>h2 (by decide) q hq.1 hq.2) _ _ hx⟩) (fun h=>absurd h (by decide))):P:=h
theorem ux61 {P:Prop}(h:P:=by
  go_simp;go_at_call 21;refine (JbV _ _ _ _ _).mono ?_;rintro e w9 ⟨rfl,hbb⟩
  exact hK.out _ _ hbb (fun Pr1 h1 h2=>⟨_,rfl,Jbe (RowX.keep (fun b h=>hbb.block b (hP b h)) h1 _ _ hr) ((hbb.block _ (Jb hb2)).trans hb2) (h1 _ hb1)⟩) (fun h=>absurd h (by decide))):P:=h
theorem ux90 {P:Prop}(h:P:=by
  go_simp
  exact hK.out _ _ ((Below.refl _ _).alloc (Nat.le_refl _) _) (fun Pr1 h1 h2=>⟨_,rfl,heap_alloc_new _ _⟩) (fun _=>⟨_,rfl,Nat.le_refl _,by simp⟩)):P:=h
theorem JeM (a b n:Int) (w:World) (ha:wf64 a) (hb:wf64 b) (hn:wf64 n) (hL:Laid w):Calls prog 7 #[.int .i64 a,.int .i64 b,.int .i64 n] w (BoolPost w true):=by
 have HL:=Zh hL;have HA:=Zh ha;have HB:=Zh hb
 obtain ⟨kk,hkk⟩:∃ kk:Nat,(n.tmod 5+5).tmod 5=kk∧kk<5:=by
  have h1:-5<n.tmod 5∧n.tmod 5<5:=by
   have:=Int.tmod_lt_of_pos n (show (0:Int)<5 by decide);have:=Int.lt_tmod_of_pos n (show (0:Int)<5 by decide);omega
  have h2:0≤(n.tmod 5+5).tmod 5:=Int.tmod_nonneg _ (by omega);have h3:=Int.tmod_lt_of_pos (n.tmod 5+5) (show (0:Int)<5 by decide);exact ⟨((n.tmod 5+5).tmod 5).toNat,by omega,by omega⟩
 have hk:=hkk.1;have HKK:Hid ((kk:Int)<5∧(0:Int)≤kk):=⟨by have:=hkk.2; omega,by omega⟩
 have wk:IntKind.i64.wrap (n.tmod 5+5)=n.tmod 5+5:=by
  have:=Int.tmod_lt_of_pos n (show (0:Int)<5 by decide);have:=Int.lt_tmod_of_pos n (show (0:Int)<5 by decide);exact IntWalk.i64_in _ (by omega)
 clear hL ha hb hn hkk;go_enter func7,ntmps7;go_wp2_with fail;refine (JeK w HL.out).mono ?_;rintro e w1 ⟨rfl,hb1⟩;have HB1:Hid (Bel w w1):=hb1;clear hb1
 by_cases r1:a < -1125899906842624
 ·have dr1:decide (a < -1125899906842624)=true:=decide_eq_true r1;clear r1;go_wp2;go_ret;exact ⟨rfl,HB1.out⟩
 have dr1:decide (a < -1125899906842624)=false:=decide_eq_false r1
 by_cases r2:1125899906842624<a
 ·have dr2:decide (1125899906842624<a)=true:=decide_eq_true r2;clear r2;go_wp2;go_ret;exact ⟨rfl,HB1.out⟩
 have dr2:decide (1125899906842624<a)=false:=decide_eq_false r2
 by_cases r3:b < -1125899906842624
 ·have dr3:decide (b < -1125899906842624)=true:=decide_eq_true r3;clear r3;go_wp2;go_ret;exact ⟨rfl,HB1.out⟩
 have dr3:decide (b < -1125899906842624)=false:=decide_eq_false r3
 by_cases r4:1125899906842624<b
 ·have dr4:decide (1125899906842624<b)=true:=decide_eq_true r4;clear r4;go_wp2;go_ret;exact ⟨rfl,HB1.out⟩
 have dr4:decide (1125899906842624<b)=false:=decide_eq_false r4;have HR:Hid (-1125899906842624≤a∧a≤1125899906842624∧-1125899906842624≤b∧b≤1125899906842624):=⟨by omega,by omega,by omega,by omega⟩
 clear r1 r2 r3 r4;go_upto_block 0 with fail;have HRB:=Zh (heap_alloc_new w1 (.cells #[.int .i64 8,.int .i64 9,.int .i64 10,.int .i64 11,.int .i64 12] 3));have HB2:Hid (Bel w (w1.alloc (.cells #[.int .i64 8,.int .i64 9,.int .i64 10,.int .i64 11,.int .i64 12] 3))):=Je HB1.out ((Below.refl _ _).alloc (Nat.le_refl _) _);generalize World.alloc w1 _=w2 at *;generalize w1.heap.size=rb at *;clear HB1;go_cut [10,11] (fun s10 s11 wx=>∃ v ok,s10=.int .i64 v∧s11=.bool ok∧Hid (SumF kk a b v ok)∧Hid (Bel w2 wx))
 case first=>
  have hk5:kk=0∨kk=1∨kk=2∨kk=3∨kk=4:=by have:=HKK.out; omega
  clear hk
  rcases hk5 with rfl | rfl | rfl | rfl | rfl
  ·have co:=fun W=>JbW a b W HA.out HB.out
   have hs:=Jgg a b;generalize limI (a+b)=v at co hs;exact ux36
  ·have co:=fun W=>Jbi a b W HA.out HB.out
   have hs:=Jgh a b;generalize limI (a-b)=v at co hs;exact ux36
  ·have co:=fun W=>Jes a b W HA.out HB.out
   have hs:=Jgi a b;generalize limI (a*b)=v at co hs;exact ux36
  ·have co:=fun W=>Jeu a b W HA.out HB.out
   have hs:=Jgj a b;generalize (if b=0 then 0 else limI (a.tdiv b))=v at co hs;generalize decide (b≠0)=ok at co hs;exact ux36
  ·have co:=fun W=>Jev a b W HA.out HB.out
   have hs:=Jgk a b;generalize (if b=0 then 0 else limI (a.tmod b))=v at co hs;generalize decide (b≠0)=ok at co hs;exact ux36
 case rest=>
 obtain ⟨v,ok,rfl,rfl,HSF,HB3⟩:=hcut
 have FC:Hid (∀ W,Bel w2 W→W.cell? ⟨rb,kk,none⟩=some (.int .i64 (8+(kk:Int)))):=fun W hW=>by
  have hk5:kk=0∨kk=1∨kk=2∨kk=3∨kk=4:=by have:=HKK.out; omega
  have h:=(hW.block _ (Jb HRB.out)).trans HRB.out
  rcases hk5 with rfl | rfl | rfl | rfl | rfl <;> (rw[Ja h]; rfl)
 have HV:Hid (-1125899906842624≤v∧v≤1125899906842624):=by
  rcases HSF.out with ⟨_,_,h⟩ | ⟨_,_,rfl⟩
  ·exact h
  ·exact ⟨by decide,by decide⟩
 go_upto_region 17 with fail;have HBW:=Zh (Je HB2.out HB3.out);refine YQ 11 [10] (fun i=>RK.rel (match i with | 0=>.const (.slice (some ⟨rb,0,none⟩) 5 5) | 1=>.const (.int .i64 (kk:Int)) | 2=>.const (.pointer (some ⟨rb,kk,none⟩)) | 3=>.const (.int .i64 (8+(kk:Int))) | 4=>.const (.int .i64 a) | 5=>.tree (litE a) | 6=>.const (.int .i64 b) | 7=>.tree (litE b) | 8=>.row [litE a,litE b] | 9=>.tree (opE (8+(kk:Int)) [litE a,litE b]) | 10=>.fresh #[.int .i64 0,.int .i64 0,.string ⟨#[]⟩,.slice none 0 0] 50 | _=>.const undef)) (fun W=>Bel w2 W) (Je HB3.out (Below.refl _ _).drew) (by decide) (fun _ _ h hb=>Je h hb) (fun i v P P1 w w1=>RK.keep _ v P P1 w w1) (allOb (n:=11) ?_) ?_
 ·refine ⟨⟨⟨⟨⟨⟨⟨⟨⟨⟨⟨trivial,?_⟩,?_⟩,?_⟩,?_⟩,?_⟩,?_⟩,?_⟩,?_⟩,?_⟩,?_⟩,?_⟩
  ·refine OpOb.of 0 rfl fun a0 w0 Pr hb hP hn hd ho K hK=>?_
   have o8:a0.tmps[8]?.getD undef=.slice (some ⟨rb,0,none⟩) 5 5:=ho 8 (by kernel_rfl);exact ux33
  ·refine OpOb.of 1 rfl fun a0 w0 Pr hb hP hn hd ho K hK=>?_
   have o9:a0.tmps[9]?.getD undef=.int .i64 (kk:Int):=ho 9 (by kernel_rfl);exact ux33
  ·refine OpOb.of 2 rfl fun a0 w0 Pr hb hP hn hd ho K hK=>?_
   obtain ⟨v0,rfl,e0⟩:=hd 0 67 (by kernel_rfl) rfl;obtain ⟨v1,rfl,e1⟩:=hd 1 68 (by kernel_rfl) rfl;have k1:=HKK.out.1;have k0:=HKK.out.2;exact ux33
  ·refine OpOb.of 3 rfl fun a0 w0 Pr hb hP hn hd ho K hK=>?_
   obtain ⟨v2,rfl,e2⟩:=hd 2 69 (by kernel_rfl) rfl;have hc:=FC.out _ hb;exact ux33
  ·refine OpOb.of 4 rfl fun a0 w0 Pr hb hP hn hd ho K hK=>?_
   have o0:a0.tmps[0]?.getD undef=.int .i64 a:=ho 0 (by kernel_rfl);exact ux33
  ·refine OpOb.of 5 rfl fun a0 w0 Pr hb hP hn hd ho K hK=>?_
   obtain ⟨v4,rfl,e4⟩:=hd 4 71 (by kernel_rfl) rfl;go_simp;go_at_call 29;refine (J8 a HR.out.1 HR.out.2.1 _).mono ?_;exact ux50
  ·refine OpOb.of 6 rfl fun a0 w0 Pr hb hP hn hd ho K hK=>?_
   have o1:a0.tmps[1]?.getD undef=.int .i64 b:=ho 1 (by kernel_rfl);exact ux33
  ·refine OpOb.of 7 rfl fun a0 w0 Pr hb hP hn hd ho K hK=>?_
   obtain ⟨v6,rfl,e6⟩:=hd 6 73 (by kernel_rfl) rfl;go_simp;go_at_call 29;refine (J8 b HR.out.2.2.1 HR.out.2.2.2 _).mono ?_;exact ux50
  ·refine OpOb.of 8 rfl fun a0 w0 Pr hb hP hn hd ho K hK=>?_
   obtain ⟨v5,⟨cx,rfl,hx⟩,e5⟩:=hd 5 72 (by kernel_rfl) rfl;obtain ⟨v7,⟨cy,rfl,hy⟩,e7⟩:=hd 7 74 (by kernel_rfl) rfl;exact ux45
  ·refine OpOb.of 9 rfl fun a0 w0 Pr hb hP hn hd ho K hK=>?_
   obtain ⟨v3,rfl,e3⟩:=hd 3 70 (by kernel_rfl) rfl;obtain ⟨v8,⟨b1,cs,rfl,hb1,hb2,hr⟩,e8⟩:=hd 8 75 (by kernel_rfl) rfl;exact ux61
  ·refine OpOb.of 10 rfl fun a0 w0 Pr hb hP hn hd ho K hK=>?_
   exact ux90
 intro n9 vs w9 hn9 hb9 hp9 hd9 hr9;obtain ⟨c9,e9,hx9⟩:=hr9 9 (by decide);obtain ⟨xb,e10,hz10⟩:=hr9 10 (by decide);obtain ⟨xb1,e101,hle,_⟩:=hp9 10 (by decide);obtain rfl:xb=xb1:=by rw[e10] at e101; injection e101 with h; injection h with h; injection h
 obtain ⟨ad,cc,rfl,_⟩:=hx9.form;rw[show pairsOf _ 11 vs=[(67,vs 0),(68,vs 1),(69,vs 2),(70,vs 3),(71,vs 4),(72,vs 5),(73,vs 6),(74,vs 7),(75,vs 8),(76,vs 9),(12,vs 10)] from rfl];simp only[fillT,e9,e10,List.setIfInBounds_toArray,List.set_cons_zero,List.set_cons_succ];have HX9:Hid (XAt w9 (fun q=>q<w9.heap.size∧q≠xb) (opE (8+(kk:Int)) [litE a,litE b]) _):=XAt.keep (fun _ _=>rfl) (fun q hq=>⟨hq.1,fun e=>hq.2 10 (by decide) (by rw[e10,e]; rfl)⟩) _ _ hx9;have HZ9:=Zh hz10;have HB9:Hid (Bel w2 w9):=hb9;have c4:=Kk hz10;have f4:=KZ hz10;have hl4:=Jb hz10;generalize vs 0=y0;generalize vs 1=y1;generalize vs 2=y2;generalize vs 3=y3;generalize vs 4=y4;generalize vs 5=y5;generalize vs 6=y6;generalize vs 7=y7;generalize vs 8=y8
 cases n9 with
 | zero=>exact absurd hn9 (by decide)
 | succ n9=>
 clear hn9 hb9 hp9 hd9 hr9 e9 e10 e101 hx9 hz10;refine Y5 (S:=fun _=>True) (z:=11) _ _ _ _ (LZ 11 rfl fun K hK=>?_);go_simp;refine hK.out _ _ ?_;clear hK K c4 f4 hl4;have HXF:=Zh (Jgl HZ9.out HX9.out);have HB18:Hid (Bel w2 (put4 w9 xb _ _ _ _)):=Zk (.int .i64 (opE (8+(kk:Int)) [litE a,litE b]).kind) (.int .i64 (opE (8+(kk:Int)) [litE a,litE b]).num) (.string (bs (opE (8+(kk:Int)) [litE a,litE b]).name)) (.slice ad (opE (8+(kk:Int)) [litE a,litE b]).kids.length cc) HB9.out (by have:=HB3.out.size; omega);simp only[put4] at HXF HB18;generalize World.setCell (World.setCell (World.setCell (World.setCell w9 _ _) _ _) _ _) _ _=w18 at *;have HSZ:Hid (RSz (whenM r0 (opE 15 [opE (8+(kk:Int)) [litE a,litE b],litE v]))):=Jbm (JbZ (JbZ (Yv a) (Yv b)) (Yv v)) (by decide);clear HX9 HZ9 HB9;go_upto_region 18 with fail;refine YQ 10 [9] (fun i=>RK.rel (match i with | 0=>.const (.agg #[.slice none 0 0,.slice none 0 0,.int .i64 0]) | 1=>.tree (opE (8+(kk:Int)) [litE a,litE b]) | 2=>.const (.int .i64 v) | 3=>.tree (litE v) | 4=>.row [opE (8+(kk:Int)) [litE a,litE b],litE v] | 5=>.tree (opE 15 [opE (8+(kk:Int)) [litE a,litE b],litE v]) | 6=>.rule (whenM r0 (opE 15 [opE (8+(kk:Int)) [litE a,litE b],litE v]) ) | 7=>.const (.agg #[.slice none 0 0,.int .i64 0,.int .i64 0,.int .i64 0,.int .i64 0,.int .i64 0,.int .i64 0,.int .i64 0,.int .i64 0,.bool false,.bool false,.slice none 0 0]) | 8=>.const (.agg (outC (runM (whenM r0 (opE 15 [opE (8+(kk:Int)) [litE a,litE b],litE v]) ) F0))) | 9=>.fresh #[.int .i64 0,.string ⟨#[]⟩,.int .i64 0,.int .i64 0] 36 | _=>.const undef)) (fun W=>Bel w18 W) (Below.refl _ _).drew (by decide) (fun _ _ h hb=>Je h hb) (fun i v P P1 w w1=>RK.keep _ v P P1 w w1) (allOb (n:=10) ?_) ?_
 ·refine ⟨⟨⟨⟨⟨⟨⟨⟨⟨⟨trivial,?_⟩,?_⟩,?_⟩,?_⟩,?_⟩,?_⟩,?_⟩,?_⟩,?_⟩,?_⟩
  ·refine OpOb.of 0 rfl fun a0 w0 Pr hb hP hn hd ho K hK=>?_
   exact ux33
  ·refine OpOb.of 1 rfl fun a0 w0 Pr hb hP hn hd ho K hK=>?_
   have o12:a0.tmps[12]?.getD undef=.pointer (some ⟨xb,0,none⟩):=ho 12 (by kernel_rfl);obtain ⟨⟨q0,q1,q2,q3⟩,hxx⟩:=HXF.out _ hb;go_simp;exact hK.out _ _ (Below.refl _ _) (fun Pr1 h1 _=>⟨_,rfl,XAt.keep (fun _ _=>rfl) (fun q hq=>h1 q (hn q hq)) _ _ hxx⟩) (fun h=>absurd h (by decide))
  ·refine OpOb.of 2 rfl fun a0 w0 Pr hb hP hn hd ho K hK=>?_
   have o10:a0.tmps[10]?.getD undef=.int .i64 v:=ho 10 (by kernel_rfl);exact ux33
  ·refine OpOb.of 3 rfl fun a0 w0 Pr hb hP hn hd ho K hK=>?_
   obtain ⟨v2,rfl,e2⟩:=hd 2 79 (by kernel_rfl) rfl;go_simp;go_at_call 29;refine (J8 v HV.out.1 HV.out.2 _).mono ?_;exact ux50
  ·refine OpOb.of 4 rfl fun a0 w0 Pr hb hP hn hd ho K hK=>?_
   obtain ⟨v1,⟨cx,rfl,hx⟩,e1⟩:=hd 1 78 (by kernel_rfl) rfl;obtain ⟨v3,⟨cy,rfl,hy⟩,e3⟩:=hd 3 80 (by kernel_rfl) rfl;exact ux45
  ·refine OpOb.of 5 rfl fun a0 w0 Pr hb hP hn hd ho K hK=>?_
   obtain ⟨v4,⟨b1,cs,rfl,hb1,hb2,hr⟩,e4⟩:=hd 4 81 (by kernel_rfl) rfl;exact ux61
  ·refine OpOb.of 6 rfl fun a0 w0 Pr hb hP hn hd ho K hK=>?_
   obtain ⟨v0,rfl,e0⟩:=hd 0 77 (by kernel_rfl) rfl;obtain ⟨v5,⟨cx,rfl,hx⟩,e5⟩:=hd 5 82 (by kernel_rfl) rfl;obtain ⟨ad,cc,rfl,_⟩:=hx.form;go_simp;go_at_call 22;refine (Zl _ _ _ _ _ _ _ _ _ _ _ _ _ _).mono ?_;rintro e w9 ⟨b9,rfl,hb9,hz9,hbb⟩;exact hK.out _ _ hbb (fun Pr1 h1 h2=>⟨_,rfl,whenX (XAt.keep (fun b h=>hbb.block b (hP b h)) h1 _ _ hx) hz9 (h2 (by decide) _ hb9 (Jb hz9))⟩) (fun h=>absurd h (by decide))
  ·refine OpOb.of 7 rfl fun a0 w0 Pr hb hP hn hd ho K hK=>?_
   exact ux33
  ·refine OpOb.of 8 rfl fun a0 w0 Pr hb hP hn hd ho K hK=>?_
   obtain ⟨v6,⟨cx,rfl,hx⟩,e6⟩:=hd 6 83 (by kernel_rfl) rfl;obtain ⟨v7,rfl,e7⟩:=hd 7 84 (by kernel_rfl) rfl;go_simp;go_at_call 13;refine (K4 _ F0 cx (.slice none 0 0) (.slice none 0 0) _ (RuleX.keep (fun _ _=>rfl) hP hx) HSZ.out fsz0 (labs0 _) (words0 _)).mono ?_;rintro e w9 ⟨rfl,hbb⟩;exact hK.out _ _ hbb (fun _ _ _=>rfl) (fun h=>absurd h (by decide))
  ·refine OpOb.of 9 rfl fun a0 w0 Pr hb hP hn hd ho K hK=>?_
   exact ux90
 clear HXF;intro n9 vs w9 hn9 hb9 hp9 hd9 hr9;have e8:vs 8=_:=hr9 8 (by decide);obtain ⟨ob,e9,hz9⟩:=hr9 9 (by decide);obtain ⟨ob1,e91,hlo,_⟩:=hp9 9 (by decide);obtain rfl:ob=ob1:=by rw[e9] at e91; injection e91 with h; injection h with h; injection h
 rw[show pairsOf _ 10 vs=[(77,vs 0),(78,vs 1),(79,vs 2),(80,vs 3),(81,vs 4),(82,vs 5),(83,vs 6),(84,vs 7),(85,vs 8),(13,vs 9)] from rfl];obtain ⟨X,hX⟩:∃ X,runM (whenM r0 (opE 15 [opE (8+(kk:Int)) [litE a,litE b],litE v])) F0=X:=⟨_,rfl⟩
 rw[hX] at e8;simp only[fillT,e8,e9,List.setIfInBounds_toArray,List.set_cons_zero,List.set_cons_succ,outC];have HXR:=Zh hX;have HZ9:=Zh hz9;have HB9:Hid (Bel w18 w9):=hb9;have c4:=Kk hz9;have f4:=KZ hz9;have hl4:=Jb hz9;generalize vs 0=z0;generalize vs 1=z1;generalize vs 2=z2;generalize vs 3=z3;generalize vs 4=z4;generalize vs 5=z5;generalize vs 6=z6;generalize vs 7=z7
 cases n9 with
 | zero=>exact absurd hn9 (by decide)
 | succ n9=>
 clear hn9 hb9 hp9 hd9 hr9 e8 e9 e91 hz9 hX HSZ;refine Y5 (S:=fun _=>True) (z:=10) _ _ _ _ (LZ 10 rfl fun K hK=>?_);go_simp;refine hK.out _ _ ?_;clear hK K c4 f4 hl4;have HOF:=Zh (JeL (.int .i64 X.action) (.string (bs X.reason)) (.int .i64 X.used) (.int .i64 X.fault) HZ9.out);have HBZ:Hid (Bel w18 (put4 w9 ob _ _ _ _)):=Zk (.int .i64 X.action) (.string (bs X.reason)) (.int .i64 X.used) (.int .i64 X.fault) HB9.out hlo;simp only[put4] at HOF HBZ;generalize World.setCell (World.setCell (World.setCell (World.setCell w9 _ _) _ _) _ _) _ _=w19 at *;have HBA:Hid (Bel w w19):=Je HB2.out (Je HB18.out HBZ.out);clear HZ9 HB9 HBZ;have hkk:(8:Int)≤8+(kk:Int)∧8+(kk:Int)≤12:=by have:=HKK.out; omega
 have hx:=HXR.out;rw[Jhq hkk ⟨HR.out.1,HR.out.2.1⟩ ⟨HR.out.2.2.1,HR.out.2.2.2⟩ HV.out] at hx
 rcases HSF.out with ⟨rfl,ho,h1,h2⟩ | ⟨rfl,ho,rfl⟩
 rotate_left
 ·rw[ho] at hx;subst hx;obtain ⟨q0,q1,q2,q3⟩:=HOF.out _ (Below.refl _ _);dsimp only at q0 q1 q2 q3;have qe:∀ W,(binOp .eql 36 (.agg #[.int .i64 0,.string (bs []),.int .i64 1,.int .i64 1]) (.agg #[.int .i64 0,.string ⟨#[]⟩,.int .i64 1,.int .i64 1])).run prog W=.ok (.bool true) W:=fun W=>by kernel_rfl
  clear ho hkk HOF;go_wp2;go_ret;exact ⟨rfl,HBA.out⟩
 rw[ho] at hx;simp only[if_true] at hx;subst hx;clear ho hkk h1 h2 HSF HXR;go_wp2_with fail;refine (J8 a HR.out.1 HR.out.2.1 _).mono ?_;rintro e p1 ⟨ca,rfl,hxa,hb1⟩;go_wp2_with fail;refine (J8 b HR.out.2.2.1 HR.out.2.2.2 _).mono ?_;rintro e p2 ⟨cb,rfl,hxb,hb2⟩;obtain ⟨aa,ac,rfl,_⟩:=hxa.form;obtain ⟨ba,bc,rfl,_⟩:=hxb.form;have HT:Hid (∀ W,Bel (p2.alloc (.cells #[_,_,_,_,_,_,_,_] 50)) W→XAt W (In W) (opE 13 [litE a,litE b]) _):=fun W hW=>Jca ((VU hxa).up hb2) (VU hxb) hW rfl
 have HBU:Hid (Bel w19 (p2.alloc (.cells #[.int .i64 (litE a).kind,.int .i64 (litE a).num,.string (bs (litE a).name),.slice aa (litE a).kids.length ac,.int .i64 (litE b).kind,.int .i64 (litE b).num,.string (bs (litE b).name),.slice ba (litE b).kids.length bc] 50))):=Je (Je hb1 hb2) ((Below.refl _ _).alloc (Nat.le_refl _) _);clear hxa hxb hb1 hb2;go_wp2_with fail;refine (JbV 13 _ 2 2 _).mono ?_;rintro e p4 ⟨rfl,hb4⟩;have HX4:=Zh (HT.out _ hb4);replace HBU:=Zh (Je HBU.out hb4);clear HT hb4;go_wp2_with fail;refine (Zl none none _ 0 0 0 0 2 2 0 13 0 [] _).mono ?_;rintro e p5 ⟨b5,rfl,hl5,hz5,hb5⟩;have hx5:=whenX (HX4.out.up hb5) hz5 (Jb hz5);replace HBU:=Zh (Je HBU.out hb5);have cr:=K4 _ F0 _ (.slice none 0 0) (.slice none 0 0) _ hx5 (Jbm (JbZ (Yv a) (Yv b)) (by decide)) fsz0 (labs0 _) (words0 _);rw[Jel (.inl rfl) ⟨HR.out.1,HR.out.2.1⟩ ⟨HR.out.2.2.1,HR.out.2.2.2⟩,if_pos rfl] at cr;obtain ⟨Y,hY⟩:∃ Y:OutM,(if decide (a<b)=true then ⟨3,[120],1,0⟩ else ⟨0,[],1,0⟩)=Y:=⟨_,rfl⟩
 rw[hY] at cr;have HY:=Zh hY;clear hl5 hz5 hb5 hx5 HX4 hY;go_wp2_with fail;refine cr.mono ?_;rintro e p6 ⟨rfl,hb6⟩;replace HBU:=Zh (Je HBU.out hb6);clear cr hb6;unfold outC;go_upto_region 22 with fail;have HO1:=Zh (heap_alloc_new p6 (.cells #[.int .i64 Y.action,.string (bs Y.reason),.int .i64 Y.used,.int .i64 Y.fault] 36));have HB20:Hid (Bel w19 (p6.alloc (.cells #[.int .i64 Y.action,.string (bs Y.reason),.int .i64 Y.used,.int .i64 Y.fault] 36))):=Je HBU.out ((Below.refl _ _).alloc (Nat.le_refl _) _);generalize World.alloc p6 _=w20 at *;generalize p6.heap.size=ob1 at *;clear HBU;go_wp2_with fail;refine (J8 a HR.out.1 HR.out.2.1 _).mono ?_;rintro e q1 ⟨ca,rfl,hxa,hb1⟩;go_wp2_with fail;refine (J8 b HR.out.2.2.1 HR.out.2.2.2 _).mono ?_;rintro e q2 ⟨cb,rfl,hxb,hb2⟩;obtain ⟨aa,ac,rfl,_⟩:=hxa.form;obtain ⟨ba,bc,rfl,_⟩:=hxb.form;have HT:Hid (∀ W,Bel (q2.alloc (.cells #[_,_,_,_,_,_,_,_] 50)) W→XAt W (In W) (opE 14 [litE a,litE b]) _):=fun W hW=>Jca ((VU hxa).up hb2) (VU hxb) hW rfl
 have HBU:Hid (Bel w20 (q2.alloc (.cells #[.int .i64 (litE a).kind,.int .i64 (litE a).num,.string (bs (litE a).name),.slice aa (litE a).kids.length ac,.int .i64 (litE b).kind,.int .i64 (litE b).num,.string (bs (litE b).name),.slice ba (litE b).kids.length bc] 50))):=Je (Je hb1 hb2) ((Below.refl _ _).alloc (Nat.le_refl _) _);clear hxa hxb hb1 hb2;go_wp2_with fail;refine (JbV 14 _ 2 2 _).mono ?_;rintro e q4 ⟨rfl,hb4⟩;have HX4:=Zh (HT.out _ hb4);replace HBU:=Zh (Je HBU.out hb4);clear HT hb4;go_wp2_with fail;refine (Zl none none _ 0 0 0 0 2 2 0 14 0 [] _).mono ?_;rintro e q5 ⟨b5,rfl,hl5,hz5,hb5⟩;have hx5:=whenX (HX4.out.up hb5) hz5 (Jb hz5);replace HBU:=Zh (Je HBU.out hb5);have cr:=K4 _ F0 _ (.slice none 0 0) (.slice none 0 0) _ hx5 (Jbm (JbZ (Yv a) (Yv b)) (by decide)) fsz0 (labs0 _) (words0 _);rw[Jel (.inr rfl) ⟨HR.out.1,HR.out.2.1⟩ ⟨HR.out.2.2.1,HR.out.2.2.2⟩,if_neg (show ¬ (14:Int)=13 by decide)] at cr;obtain ⟨Z,hZ⟩:∃ Y:OutM,(if decide (a≤b)=true then ⟨3,[120],1,0⟩ else ⟨0,[],1,0⟩)=Y:=⟨_,rfl⟩
 rw[hZ] at cr;have HZ:=Zh hZ;clear hl5 hz5 hb5 hx5 HX4 hZ;go_wp2_with fail;refine cr.mono ?_;rintro e q6 ⟨rfl,hb6⟩;replace HBU:=Zh (Je HBU.out hb6);clear cr hb6;unfold outC;go_upto_region 23 with fail;have hO2:=heap_alloc_new q6 (.cells #[.int .i64 Z.action,.string (bs Z.reason),.int .i64 Z.used,.int .i64 Z.fault] 36);have hb21:Bel w20 (q6.alloc (.cells #[.int .i64 Z.action,.string (bs Z.reason),.int .i64 Z.used,.int .i64 Z.fault] 36)):=Je HBU.out ((Below.refl _ _).alloc (Nat.le_refl _) _);generalize World.alloc q6 _=w21 at *;generalize q6.heap.size=ob2 at *;obtain ⟨g0,_,_,_⟩:=Kk hO2;obtain ⟨f0,_,_,_⟩:=Kk ((hb21.block _ (Jb HO1.out)).trans HO1.out);obtain ⟨q0,q1,q2,q3⟩:=HOF.out _ (Je HB20.out hb21)
 try dsimp only at q0 q1 q2 q3
 have HFIN:Hid (Bel w w21):=Je HBA.out (Je HB20.out hb21);have ey:(Y.action==3)=decide (a<b):=by rw[← HY.out]; by_cases h:a<b <;> simp[h]
 have ez:(Z.action==3)=decide (a≤b):=by rw[← HZ.out]; by_cases h:a≤b <;> simp[h]
 have qe:∀ W,(binOp .eql 36 (.agg #[.int .i64 3,.string (bs [120]),.int .i64 1,.int .i64 0]) (.agg #[.int .i64 3,.string ⟨#[120]⟩,.int .i64 1,.int .i64 0])).run prog W=.ok (.bool true) W:=fun W=>by kernel_rfl
 clear hO2 hb21 HBU HO1 HOF HB20;clear HY HZ;obtain ⟨x1,hx1⟩:∃ x,decide (a<b)=x:=⟨_,rfl⟩
 obtain ⟨x2,hx2⟩:∃ x,decide (a≤b)=x:=⟨_,rfl⟩
 rw[hx1] at ey;rw[hx2] at ez
 cases x1 <;> cases x2 <;> (go_wp2; go_ret; exact ⟨rfl,HFIN.out⟩)
end Go.Proofs.YtncanmdgdflnpaaGreatDoor
namespace Go.Proofs.YtncanmdgdflnpaaGreatDoor
open Go.ChangeShapes Go.WideShapes Go.RowKit Go.Deep
open Go.Joins
open _root_.Go.Proofs.Tryz
set_option linter.all false
set_option maxRecDepth 100000
set_option maxHeartbeats 32000000
section
variable {H:Type} {enc:TypeId × Value→H} {P:Program} {w:World} {base:Nat} {spare:Nat→Bool} {held:Bool}
end
end Go.Proofs.YtncanmdgdflnpaaGreatDoor
