import Derived.Deep.CutBlock
import Derived.Deep.DeepCutAuto
import Derived.Deep.RegionHeld3
import Derived.Test.YtdlkcjkjnehnkaaGreatDoorF41
import Derived.Test.YtdlkcjkjnehnkaaGreatDoorF45
import Derived.Test.YtdlkcjkjnehnkaaGreatDoorF46
namespace Go.Proofs.YtdlkcjkjnehnkaaGreatDoor
open Go Go.Lib
open Go.ChangeShapes Go.WideShapes Go.ChangeAt Go.RowKit
open Go.ChangeShapes Go.WideShapes Go.ChangeAt Go.RowKit
open Go.ChangeShapes Go.WideShapes Go.ChangeAt Go.RowKit Go.Lib
open Go.RowKit
open Go
open Go Go.ChangeShapes Go.WideShapes Go.ChangeAt Go.RowKit Go.Lib
open _root_.Go.Proofs.Tryz
set_option linter.all false
set_option maxRecDepth 100000
set_option maxHeartbeats 32000000
theorem rowr_keep {w W:World} {k:Nat} {o:Obj} (h:w.heap[k]?=some o) (hb:Below w.heap.size w W):W.heap[k]?=some o:=(hb.block _ (Jb h)).trans h
theorem writ_nil {r:RuleM} (h:¬ rightM r=true):writeM r=[]:=by unfold writeM; rw[if_neg h]
theorem three_of {w w6:World} {o0 o1 o2:Obj} (h:World.alloc (World.alloc (World.alloc w o0) o1) o2=w6):Bel w w6∧w6.heap[w.heap.size]?=some o0∧w6.heap[w.heap.size+1]?=some o1∧w6.heap[w.heap.size+1+1]?=some o2:=by
 subst h;have h0:=heap_alloc_new w o0;have h1:=heap_alloc_new (w.alloc o0) o1;have h2:=heap_alloc_new ((w.alloc o0).alloc o1) o2;simp only[World.size_alloc] at h1 h2;exact ⟨(((Below.refl _ _).alloc (Nat.le_refl _) _).alloc (by simp) _).alloc (by simp; omega) _,Jg (Jg h0),Jg h1,h2⟩
theorem es_alloc {w6 W:World} {cb i:Nat} {v:Value} {o:Obj} (F:∀ W,Bel w6 W→W.cell? ⟨cb,i,none⟩=some v) (h:Below w6.heap.size w6 W∧W.cell? ⟨cb,i,none⟩=some v):Below w6.heap.size w6 (W.alloc o)∧(W.alloc o).cell? ⟨cb,i,none⟩=some v:=by
 have:=h.1.alloc h.1.size o;exact ⟨this,F _ this⟩
theorem es_swap {w6 W:World} {cb i:Nat} {v:Value} {o o':Obj} (F:∀ W,Bel w6 W→W.cell? ⟨cb,i,none⟩=some v) (hB:w6.heap.size≤W.heap.size) (h:Below w6.heap.size w6 (W.alloc o)∧(W.alloc o).cell? ⟨cb,i,none⟩=some v):Below w6.heap.size w6 (W.alloc o')∧(W.alloc o').cell? ⟨cb,i,none⟩=some v:=by
 have h1:Bel w6 W:=⟨h.1.os,h.1.tape,h.1.output,hB,fun q hq=>by
  have e1:=h.1.block q hq;rw[heap_alloc_old W o (Nat.lt_of_lt_of_le hq hB)] at e1
  exact e1⟩
 have h2:=h1.alloc h1.size o';exact ⟨h2,F _ h2⟩
theorem es_call {w6 W W':World} {cb i:Nat} {v:Value} (F:∀ W,Bel w6 W→W.cell? ⟨cb,i,none⟩=some v) (hb:Below W.heap.size W W') (h:Below w6.heap.size w6 W∧W.cell? ⟨cb,i,none⟩=some v):Below w6.heap.size w6 W'∧W'.cell? ⟨cb,i,none⟩=some v:=by
 have:=Jd h.1 hb;exact ⟨this,F _ this⟩
theorem es_set {w6 W:World} {cb i:Nat} {v u:Value} {p:Addr} (F:∀ W,Bel w6 W→W.cell? ⟨cb,i,none⟩=some v) (hp:w6.heap.size≤p.block) (h:Below w6.heap.size w6 W∧W.cell? ⟨cb,i,none⟩=some v):Below w6.heap.size w6 (W.setCell p u)∧(W.setCell p u).cell? ⟨cb,i,none⟩=some v:=by
 have:=h.1.setCell hp u;exact ⟨this,F _ this⟩
theorem PsP.par {w w':World} {X:RuleM} {e a:Int} {E:Ending} (h:PsP w (X,e,a) E w'):∃ fa fn fc ga gn gc z,E=.returned (.tuple #[.agg #[.slice fa fn fc,.slice ga gn gc,.int .i64 z],.int .i64 e,.int .i64 a])∧Below w.heap.size w w':=by
 obtain ⟨c,rfl,hx,hb⟩:=h.inw;obtain ⟨fa,fc,ga,gc,rfl,_,_⟩:=hx.parts;exact ⟨_,_,_,_,_,_,_,rfl,hb⟩
set_option maxRecDepth 100000 in
set_option maxHeartbeats 16000000 in
theorem errs_card (r:RuleM) (ca:Array Value) (n:Int) (w:World) (hx:RuleX w (In w) r ca) (hnm:RNm r) (hwf:wf64 n) (hL:Laid w):Calls Tryz.prog 4 #[.agg ca,.int .i64 n] w (BelP w (.bool true)):=by
 have hxa:=hx;obtain ⟨fa,fc,ga,gc,rfl,f1,_⟩:=hx.parts;obtain ⟨ad,cc,hae,g1⟩:=RowG.of FnX.len f1;obtain ⟨rfl,_,rfl⟩:fa=ad∧True∧fc=cc:=by injection hae with h1 h2 h3; exact ⟨h1,trivial,h3⟩
 have HG1:=Lib.hid g1;have HX:=Lib.hid (BxB.of (heap_alloc_new w (.cells #[.slice fa r.funcs.length fc,.slice ga r.clauses.length gc,.int .i64 r.action] 25)));have HB0:Hid (Bel w (w.alloc (.cells #[.slice fa r.funcs.length fc,.slice ga r.clauses.length gc,.int .i64 r.action] 25))):=(Below.refl _ _).alloc (Nat.le_refl _) _;have HRA:=Lib.hid hxa;have HNA:=Lib.hid hnm;have HL:=Lib.hid hL;have HWF:=Lib.hid hwf;clear hxa hx hnm hL f1 g1 hae hwf;go_enter Tryz.func4,Tryz.ntmps4;go_upto_region 1 with fail;generalize World.alloc w _=w1 at *;generalize w.heap.size=xb at *;replace HB0:Hid (Bel w w1):=HB0;go_wp2_with fail;refine (Jhe w1 (HL.out.below HB0.out)).mono ?_;rintro e w2 ⟨rfl,hb2⟩;have HB2:Hid (Bel w w2):=Jd HB0.out hb2;have HW2:Hid (Bel w1 w2):=hb2;clear hb2;go_upto_region 2 with fail;have cf:=Jhc r _ w2 HRA.out HB2.out;obtain ⟨x0,x1,x2⟩:=wthree (HX.out _ HW2.out);obtain ⟨q,hq⟩:∃ q,fewM r=q:=⟨_,rfl⟩
 rw[hq] at cf;have HQ:=Lib.hid hq;clear hq;go_wp2_with fail;refine cf.mono ?_;rintro e w3 ⟨rfl,hb3⟩;have HW3:Hid (Bel w1 w3):=Jd HW2.out hb3;clear cf hb3 x0 x1 x2
 cases q with
 | false=>
  go_wp2;go_ret;exact ⟨rfl,Jd HB0.out HW3.out⟩
 | true=>
 have HFA:=Lib.hid (JbP HQ.out HNA.out);have HB3:Hid (Bel w w3):=Jd HB0.out HW3.out;clear HQ HNA HW2 HB2;go_upto_region 4 with fail;have cw:=Zz r _ w3 (HRA.out.up HB3.out) HFA.out.1 (HL.out.below HB3.out) HFA.out.2.2;obtain ⟨S,hS⟩:∃ S,writeM r=S:=⟨_,rfl⟩
 rw[hS] at cw;have HS:=Lib.hid hS;obtain ⟨x0,x1,x2⟩:=wthree (HX.out _ HW3.out);clear hS;go_wp2_with fail;refine cw.mono ?_;rintro e w4 ⟨rfl,hb4⟩;have HW4:Hid (Bel w1 w4):=Jd HW3.out hb4;have HB4:Hid (Bel w w4):=Jd HB3.out hb4;clear cw hb4 x0 x1 x2 HW3 HB3;go_upto_region 5 with fail;have ul:=JF S;have u1:=Jl S
 by_cases hr:rightM r=true
 case neg=>
  have hsn:S=[]:=by rw[← HS.out]; exact writ_nil hr
  subst hsn;have qn:([]:List UInt8).isEmpty=true:=rfl;go_wp2;go_ret;exact ⟨rfl,HB4.out⟩
 have qn:S.isEmpty=false:=by rw[← HS.out,List.isEmpty_eq_false_iff.2 (Jgp hr)]
 by_cases e3:3000<S.length
 ·have q3:decide ((S.length:Int)>3000)=true:=decide_eq_true (by omega);clear e3;go_wp2;go_ret;exact ⟨rfl,HB4.out⟩
 have q3:decide ((S.length:Int)>3000)=false:=decide_eq_false (by omega);have HSL:Hid (S.length≤3000):=Nat.not_lt.1 e3;have HR:=Lib.hid hr;clear e3 hr;go_upto_region 7 with fail;clear q3 qn;have hSf:S=flat (iR r):=by rw[← HS.out,KQ HR.out]
 have HSF:=Lib.hid hSf;obtain ⟨T,p,hsr,hsc,hTl,hTp,htk,hdr,hTe⟩:=written_scan HR.out HFA.out.2.1 (by rw[← hSf]; have:=HSL.out; omega);rw[← hSf] at hsr hsc htk hdr;have cs:=Jdh S w4 (by have:=HSL.out; omega) (HL.out.below HB4.out);rw[hsr] at cs;have HTP:=Lib.hid hTp;have HTK:=Lib.hid htk;have HDR:=Lib.hid hdr;have HTE:=Lib.hid hTe;have HSC:=Lib.hid hsc;have HTN:Hid (T.length≤4097):=(Jgq hsr).2.1;clear hTp htk hdr hTe hsc hSf hsr;go_wp2_with fail;refine cs.mono ?_;rintro e w5 hp;obtain ⟨ta,tc,rfl,hT,hb5⟩:=scan_open hp;have HB5:Hid (Bel w w5):=Jd HB4.out hb5;have HW5:Hid (Bel w1 w5):=Jd HW4.out hb5;have HT:=Lib.hid hT;clear hb5 hp cs hT HB4 HW4;go_upto_region 8 with fail;have HM:=Lib.hid hTl;have hm2:p+3≤4097:=by rw[← hTl]; exact HTN.out
 clear hTl HTN;have q8:decide (((p+3:Nat):Int)<3)=false:=decide_eq_false (by omega);have q8':decide ((p:Int)+3<3)=false:=decide_eq_false (by omega);go_upto_region 10 with fail;clear q8 q8';obtain ⟨fl,hfl⟩:∃ fl,r.funcs.length=fl:=⟨_,rfl⟩
 have hf6:fl≤1000000:=by rw[← hfl]; exact HFA.out.1.nf
 have HFL:=Lib.hid hfl;have HBC:Hid (Bel w1 w5):=HW5.out;rw[hfl] at HX;clear hfl;go_wp2_with fail;go_loopw [10] (fun v10 wr=>∃ k:Nat,k≤fl∧v10=.int .i64 k∧Hid (∀ f∈r.funcs.take k,f.name≠kZzz)∧w5=wr) (fun v10 _=>fl-(intOf v10).toNat)
 case atStart=>exact ⟨0,Nat.zero_le _,rfl,fun f hf=>by simp at hf,rfl⟩
 case round=>
 obtain ⟨k,hk,rfl,hz,rfl⟩:=hrel;have HZ:Hid (∀ f∈r.funcs.take k,f.name≠kZzz):=hz.out;clear hz;obtain ⟨x0,x1,x2⟩:=wthree (HX.out _ HBC.out)
 by_cases hi:k<fl
 ·have dil:decide ((k:Int)<(fl:Int))=true:=decide_eq_true (by omega);have diN:decide (k<fl)=true:=decide_eq_true hi;obtain ⟨f,hf⟩:∃ f,r.funcs[k]?=some f:=⟨_,List.getElem?_eq_getElem (by rw[HFL.out]; exact hi)⟩
  obtain ⟨b1,o1,ha1,hk1⟩:=HG1.out (List.ne_nil_of_mem (List.mem_of_getElem? hf));subst ha1;obtain ⟨d1,hr1,hc1⟩:=hk1 k f hf;obtain ⟨pa,pc,xa,xc,rfl,hnum,hbody⟩:=hr1.form;have p0:w5.cell? ⟨b1,o1+k*7,none⟩=some (.string (bs f.name)):=hc1 w5 HB5.out 0 _ rfl;have HFK:=Lib.hid hf;clear hf hk1 hr1 hc1 hnum hbody;obtain ⟨nm,hnm⟩:∃ nm,f.name=nm:=⟨_,rfl⟩
  rw[hnm] at p0;have HNM:=Lib.hid hnm;have u2:=Jl nm;clear hnm
  by_cases hzz:nm=kZzz
  ·subst hzz;go_wp2;go_ret;exact ⟨rfl,HB5.out⟩
  ·have qz:(nm==[122,122,122])=false:=beq_eq_false_iff_ne.2 hzz;go_wp2;go_roundw
   case rel=>
    refine ⟨k+1,by omega,by go_num,?_,by first | rfl | trivial⟩;intro f' hf';rw[List.take_add_one,HFK.out] at hf'
    rcases List.mem_append.1 hf' with g | g
    ·exact HZ.out f' g
    ·simp only[Option.toList_some,List.mem_singleton] at g;rw[g,HNM.out];exact hzz
   case measure=>simp[intOf]; omega
 have hkn:k=fl:=by omega
 subst hkn
 have hzA:∀ f∈r.funcs,f.name≠kZzz:=by
  have:=HZ.out;rw[List.take_of_length_le (by rw[HFL.out]; exact Nat.le_refl _)] at this;exact this
 have HZA:=Lib.hid hzA;clear HZ hzA hi;obtain ⟨t,ht,hto⟩:=HTP.out;obtain ⟨tg,tO,rfl,hg,a0,a1,a2,a3⟩:=HT.out p t ht;rw[hto] at a3;obtain ⟨L,hLL⟩:∃ L,(flat (rA r)).length=L:=⟨_,rfl⟩
 rw[hLL] at a3;have HLL:=Lib.hid hLL;clear HTP ht hto hLL a0 a1 a2;go_upto_region 15 with fail;clear x0 x1 x2;go_upto_region 16 with fail;clear a3;go_upto_region 19 with fail;generalize hw6:World.alloc (World.alloc (World.alloc w5 _) _) _=w6 at *;obtain ⟨hb6,hz0,hz1,hz2⟩:=three_of hw6;clear hw6;have HB6:Hid (Bel w w6):=Jd HB5.out hb6;have HT6:=Lib.hid (HT.out.below hb6);generalize w5.heap.size=cb at *
 have HC:Hid (∀ W,Bel w6 W→∀ i,i<6→W.cell? ⟨cb,i,none⟩=some (.string (bs (flat (xI i))))∧W.cell? ⟨cb+1,i,none⟩=some (.int .i64 (xE i))∧W.cell? ⟨cb+1+1,i,none⟩=some (.int .i64 (xO i:Nat))):=by
  intro W hW i hi;have g0:=rowr_keep hz0 hW;have g1:=rowr_keep hz1 hW;have g2:=rowr_keep hz2 hW
  match i,hi with
  | 0,_=>exact ⟨(Ja g0 0).trans (by kernel_rfl),(Ja g1 0).trans (by kernel_rfl),(Ja g2 0).trans (by kernel_rfl)⟩
  | 1,_=>exact ⟨(Ja g0 1).trans (by kernel_rfl),(Ja g1 1).trans (by kernel_rfl),(Ja g2 1).trans (by kernel_rfl)⟩
  | 2,_=>exact ⟨(Ja g0 2).trans (by kernel_rfl),(Ja g1 2).trans (by kernel_rfl),(Ja g2 2).trans (by kernel_rfl)⟩
  | 3,_=>exact ⟨(Ja g0 3).trans (by kernel_rfl),(Ja g1 3).trans (by kernel_rfl),(Ja g2 3).trans (by kernel_rfl)⟩
  | 4,_=>exact ⟨(Ja g0 4).trans (by kernel_rfl),(Ja g1 4).trans (by kernel_rfl),(Ja g2 4).trans (by kernel_rfl)⟩
  | 5,_=>exact ⟨(Ja g0 5).trans (by kernel_rfl),(Ja g1 5).trans (by kernel_rfl),(Ja g2 5).trans (by kernel_rfl)⟩
 have hLS:L≤S.length:=by
  rw[← HLL.out,HSF.out,iR_eq,J5,List.length_append]; omega
 have HLS:=Lib.hid hLS;clear hz0 hz1 hz2 hb6 HT HB5 HX HG1 HRA hg hLS;go_wp2_with fail;go_loopw [15] (fun v15 wr=>∃ i:Nat,i≤6∧v15=.int .i64 i∧Hid (Bel w6 wr)) (fun v15 _=>6-(intOf v15).toNat)
 case atStart=>exact ⟨0,by omega,rfl,Below.refl _ _⟩
 case round=>
 obtain ⟨wl,rfl⟩:∃ wl:World,wl=wr:=⟨_,rfl⟩
 obtain ⟨i,hi6,rfl,hbl⟩:=hrel;have HBL:Hid (Bel w6 wl):=hbl.out;clear hbl
 by_cases hi:i<6
 ·have dil:decide ((i:Int)<6)=true:=decide_eq_true (by omega);have diN:decide (i<6)=true:=decide_eq_true hi
  have hlen:(flat (rA r++(xI i++xD r.action))).length≤4096:=by
   have h1:=HSL.out;rw[HSF.out,iR_eq,J5,List.length_append] at h1
   have h2:(flat (xI i)).length≤100:=by
    match i,hi with
    | 0,_=>exact of_decide_eq_true (by kernel_rfl)
    | 1,_=>exact of_decide_eq_true (by kernel_rfl)
    | 2,_=>exact of_decide_eq_true (by kernel_rfl)
    | 3,_=>exact of_decide_eq_true (by kernel_rfl)
    | 4,_=>exact of_decide_eq_true (by kernel_rfl)
    | 5,_=>exact of_decide_eq_true (by kernel_rfl)
   rw[J5,J5,List.length_append,List.length_append];omega
  have hpm:=errors_x HR.out HFA.out.2.1 HZA.out i hi hlen;rw[J5,J5,HLL.out] at hpm;rw[J5,J5,List.length_append,List.length_append] at hlen;have hx1:(bs S).extract 0 L=bs (flat (rA r)):=by rw[← HTK.out,HLL.out,KY]; simp
  have hx2:(bs S).extract L S.length=bs (flat (xD r.action)):=by rw[← HDR.out,HLL.out,KY,List.take_of_length_le (by simp)]
  have hcc:=fun W hW=>HC.out W hW i hi
  obtain ⟨A,hA⟩:∃ A,flat (rA r)=A:=⟨_,rfl⟩
  obtain ⟨X,hX⟩:∃ X,flat (xI i)=X:=⟨_,rfl⟩
  obtain ⟨D,hD⟩:∃ D,flat (xD r.action)=D:=⟨_,rfl⟩
  obtain ⟨E,hE⟩:∃ E,xE i=E:=⟨_,rfl⟩
  obtain ⟨O,hO⟩:∃ O,xO i=O:=⟨_,rfl⟩
  have hO2:O≤11:=by rw[← hO]; unfold xO; split <;> decide
  rw[hA,hX,hD] at hpm hlen;rw[hA] at hx1;rw[hD] at hx2;simp only[hX,hE,hO] at hcc;rw[hE,hO,Int.natCast_add] at hpm;have hLA:L=A.length:=by rw[← HLL.out,hA]
  obtain ⟨U,hU⟩:∃ U,A++(X++D)=U:=⟨_,rfl⟩
  have hUl:U.length≤4096:=by rw[← hU,List.length_append,List.length_append]; exact hlen
  have hx3:=bs_append A X;have hx4:bs (A++X)++bs D=bs U:=by rw[bs_append,← hU,List.append_assoc]
  rw[hU] at hpm;have z1:=JF A;have z2:=JF X;have z3:=JF D;have z4:=JF (A++X);have y4:(A++X).length≤4096:=by rw[List.length_append]; omega
  generalize A++X=AX at *;have hLS:=HLS.out;have hL3:L≤3000:=Nat.le_trans hLS HSL.out;have hiI:(i:Int)<6:=by omega
  have b1:¬ 9223372036854775807<A.length+X.length:=by omega
  have b2:¬ 9223372036854775807<AX.length+D.length:=by omega
  have HCP:Hid (∀ W,Below w6.heap.size w6 W→Calls Tryz.prog 16 #[.string (bs U)] W (PsP W (noRule,E,(L:Int)+(O:Int)))):=fun W hW=>by
   have:=parse_any' U W (by omega) (HL.out.below (Jd HB6.out hW));rw[hpm] at this;exact this
  have HCC:=Lib.hid hcc;clear hpm hU hcc hA hX hD hE hO hLA;go_upto_region 22 with fail;clear dil diN;have FCC:Hid (∀ W,Bel w6 W→W.cell? ⟨cb,i,none⟩=some (.string (bs X))):=fun W hW=>(HCC.out W hW).1
  go_cut [17,18] (fun s17 s18 wx=>s17=.int .i64 E∧s18=.int .i64 ((L:Int)+(O:Int))∧Hid (Bel w6 wx))
  case first=>
   go_region_held3 (fun W=>Below w6.heap.size w6 W∧W.cell? ⟨cb,i,none⟩=some (.string (bs X))) (first | exact ⟨HBL.out,FCC.out _ HBL.out⟩ | exact ⟨HBL.out.drew,FCC.out _ HBL.out.drew⟩ | exact es_alloc FCC.out (by assumption) | exact es_call FCC.out hbx (by assumption) | exact es_swap FCC.out (by first | exact HBL.out.size | exact Nat.le_trans HBL.out.size hbx.size | exact Nat.le_trans (Nat.le_trans HBL.out.size (Nat.le_of_lt (by simp))) hbx.size) (by assumption) | exact es_set FCC.out HBL.out.size (es_set FCC.out HBL.out.size (es_set FCC.out HBL.out.size (by assumption))) | go_keep) (first
    | (go_at_call 16; (with_reducible refine Calls.mono (HCP.out _ (by first | assumption | (apply And.left; assumption))) ?_); rintro e w' hp; obtain ⟨fa9,fn9,fc9,ga9,gn9,gc9,z9,rfl,hbx⟩:=hp.par; try (have hh:w'.heap[wl.heap.size]?=some (.cells #[.slice none 0 0,.slice none 0 0,.int .i64 0] 25):=(hbx.block _ (by simp)).trans (heap_alloc_new _ _); obtain ⟨c0,c1,c2⟩:=wthree hh; have f0:=Jc hh 0; have f1:=Jc hh 1; have f2:=Jc hh 2; have hl4:=Jb hh; clear hh)))
   all_goals
    go_wp2;go_meet;exact ⟨rfl,rfl,(by first | assumption | (apply And.left; assumption))⟩
  case rest=>
  obtain ⟨rfl,rfl,hbx⟩:=hcut;have HBX:Hid (Bel w6 wc):=hbx;clear hbx;obtain ⟨q0,q1,q2⟩:=HCC.out _ HBX.out;go_wp2;go_roundw
  case rel=>exact ⟨i+1,by omega,by go_num,HBX.out⟩
  case measure=>simp[intOf]; omega
 obtain rfl:i=6:=by omega
 clear hi hi6;have HBZ:=Lib.hid (Jd HB6.out HBL.out);have hT9:=HT6.out.below HBL.out;have HT9:=Lib.hid hT9;have hTl:=HM.out;clear HT6 HC HM hT9;obtain ⟨hw1,hw2⟩:-9223372036854775808≤n∧n≤9223372036854775807:=HWF.out;go_upto_region 25 with fail
 by_cases n0:n<0
 ·have d0:decide (n<0)=true:=decide_eq_true n0;go_wp2;go_ret;exact ⟨rfl,HBZ.out⟩
 have d0:decide (n<0)=false:=decide_eq_false n0
 by_cases n1:n≥(p:Int)+2
 ·have d1:decide (n≥(p:Int)+2)=true:=decide_eq_true n1;have d2:decide ((p:Int)+2≤n)=true:=decide_eq_true n1;go_wp2;go_ret;exact ⟨rfl,HBZ.out⟩
 have d1:decide (n≥(p:Int)+2)=false:=decide_eq_false n1;have d2:decide ((p:Int)+2≤n)=false:=decide_eq_false n1;obtain ⟨i,rfl⟩:∃ i:Nat,n=(i:Int):=⟨n.toNat,by omega⟩
 go_upto_region 27 with fail;clear d0 d1 d2;obtain ⟨t,o,hti,hto,hoS,hpo⟩:=errors_cut HR.out HFA.out.2.1 (by rw[← HSF.out]; have:=HSL.out; omega) (by rw[← HSF.out]; exact HSC.out) HTE.out (i:=i) (by omega);rw[← HSF.out] at hoS hpo;obtain ⟨g,o1,hgo,hg,a0,a1,a2,a3⟩:=HT9.out i t hti;injection hgo with hgo;injection hgo with hgo1 hgo2 hgo3;subst hgo1 hgo2;rw[hto] at a3;have hi2:i<p+3:=by omega
 clear a0 a1 a2 hti hto hg hTl;go_upto_region 28 with fail;clear a3;have hx1:(bs S).extract 0 o=bs (S.take o):=by rw[KY]; simp
 have cp:=parse_any' (S.take o) wl (by rw[List.length_take]; have:=HSL.out; omega) (HL.out.below HBZ.out);rw[hpo] at cp;have hol:o≤3000:=Nat.le_trans hoS HSL.out;clear hpo;go_wp2_with fail;refine cp.mono ?_;rintro e w11 hp;obtain ⟨fa9,fn9,fc9,ga9,gn9,gc9,z9,rfl,hbb⟩:=hp.par;have HFIN:Hid (Bel w (w11.alloc (.cells #[.slice fa9 fn9 fc9,.slice ga9 gn9 gc9,.int .i64 z9] 25))):=Jd HBZ.out (Jd hbb ((Below.refl _ _).alloc (Nat.le_refl _) _));clear cp hp hbb;go_wp2;go_ret;exact ⟨rfl,HFIN.out⟩
end Go.Proofs.YtdlkcjkjnehnkaaGreatDoor
