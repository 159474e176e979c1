import Derived.Test.YtdlkcjkjnehnkaaGreatDoorG49
namespace Go.Proofs.YtdlkcjkjnehnkaaGreatDoor
open Go Go.Lib
open Go.ChangeShapes Go.WideShapes Go.ChangeAt Go.RowKit
open Go.ChangeShapes Go.WideShapes Go.ChangeAt Go.RowKit
open Go.ChangeShapes Go.WideShapes Go.ChangeAt Go.RowKit Go.Lib
open Go.RowKit
open Go Go.ChangeShapes Go.WideShapes Go.ChangeAt Go.RowKit Go.Lib
open Go
open _root_.Go.Proofs.Tryz
set_option linter.all false
set_option maxRecDepth 100000
set_option maxHeartbeats 32000000
theorem two_of {w w6:World} {o0 o1:Obj} (h:World.alloc (World.alloc w o0) o1=w6):Bel w w6∧w6.heap[w.heap.size]?=some o0∧w6.heap[w.heap.size+1]?=some o1:=by
 subst h;have h0:=heap_alloc_new w o0;have h1:=heap_alloc_new (w.alloc o0) o1;simp only[World.size_alloc] at h1;exact ⟨((Below.refl _ _).alloc (Nat.le_refl _) _).alloc (by simp) _,Jg h0,h1⟩
theorem one_of {w w6:World} {o0:Obj} (h:World.alloc w o0=w6):Bel w w6∧w6.heap[w.heap.size]?=some o0:=by
 subst h;exact ⟨(Below.refl _ _).alloc (Nat.le_refl _) _,heap_alloc_new w o0⟩
theorem flat_gI (M:List It):flat (gI M)=[119,104,101,110,32]++(flat M++[32,116,104,101,110,32,115,104,111,119,32,34,34,32,100,101,102,97,117,108,116,32,115,104,111,119]):=by
 unfold gI;rw[flat_t,flat_s,J5];rfl
theorem flat_pp (x:List It):flat (pp x)=40::(flat x++[41]):=by
 unfold pp;rw[flat_t,J5];rfl
theorem x_up {w W:World} {x:Exp} {d:List Value} (h:ExpX w x d) (hb:Bel w W):ExpX W x d:=XAt.keep (fun q hq=>hb.block q hq) (fun q hq=>Nat.lt_of_lt_of_le hq hb.size) x _ h
theorem few_siz {r:RuleM} (h:fewM r=true):∀ c∈r.clauses,siz (utN c.cond)≤400:=by
 unfold fewM at h;simp only[Bool.and_eq_true,decide_eq_true_eq,List.all_eq_true] at h;obtain ⟨h1,h2,h3,h4⟩:=h;intro c hc;have g2:=Jjr hc;have g3:=Jda c.cond 0 (by omega);omega
theorem clause_x {w0:World} {x:ClM} {d:List Value} (h:ClX w0 (In w0) x d):∃ xa xc,d=[.int .i64 x.cond.kind,.int .i64 x.cond.num,.string (bs x.cond.name),.slice xa x.cond.kids.length xc,.int .i64 x.action,.string (bs x.reason)]∧ExpX w0 x.cond [.int .i64 x.cond.kind,.int .i64 x.cond.num,.string (bs x.cond.name),.slice xa x.cond.kids.length xc]:=by
 obtain ⟨dx,hx,rfl⟩:=h;obtain ⟨xa,xc,rfl,_⟩:=hx.form;exact ⟨xa,xc,rfl,hx⟩
set_option maxRecDepth 100000 in
set_option maxHeartbeats 40000000 in
theorem groups_card (a b:RuleM) (ca cb:Array Value) (w:World) (ha:RuleX w (In w) a ca) (hb:RuleX w (In w) b cb) (hna:RNm a) (hnb:RNm b) (hL:Laid w):Calls Tryz.prog 3 #[.agg ca,.agg cb] w (BelP w (.bool true)):=by
 have hxa:=ha;have hxb:=hb;obtain ⟨fa,fc,ga,gc,rfl,_,k1⟩:=ha.parts;obtain ⟨fa2,fc2,ga2,gc2,rfl,_,k2⟩:=hb.parts;obtain ⟨ad,cc,hae,g1⟩:=RowG.of ClX.len k1;obtain ⟨rfl,_,rfl⟩:ga=ad∧True∧gc=cc:=by injection hae with h1 h2 h3; exact ⟨h1,trivial,h3⟩
 obtain ⟨ad2,cc2,hae2,g2⟩:=RowG.of ClX.len k2;obtain ⟨rfl,_,rfl⟩:ga2=ad2∧True∧gc2=cc2:=by injection hae2 with h1 h2 h3; exact ⟨h1,trivial,h3⟩
 have HG1:=Lib.hid g1;have HG2:=Lib.hid g2;obtain ⟨hz0,hz1⟩:=Zx w (.cells #[.slice fa a.funcs.length fc,.slice ga a.clauses.length gc,.int .i64 a.action] 25) (.cells #[.slice fa2 b.funcs.length fc2,.slice ga2 b.clauses.length gc2,.int .i64 b.action] 25);have HX:=Lib.hid (BxB.of hz0);have HY:=Lib.hid (BxB.of hz1);have HB0:Hid (Bel w _):=K8 w (.cells #[.slice fa a.funcs.length fc,.slice ga a.clauses.length gc,.int .i64 a.action] 25) (.cells #[.slice fa2 b.funcs.length fc2,.slice ga2 b.clauses.length gc2,.int .i64 b.action] 25);have HRA:=Lib.hid hxa;have HRB:=Lib.hid hxb;have HNA:=Lib.hid hna;have HNB:=Lib.hid hnb;have HL:=Lib.hid hL;clear hz0 hz1 hxa hxb ha hb hna hnb hL k1 k2 hae hae2 g1 g2;go_enter Tryz.func3,Tryz.ntmps3;go_upto_region 1 with fail;generalize World.alloc (World.alloc w _) _=w1 at *;generalize w.heap.size+1=yb at *;generalize w.heap.size=xb at *;replace HB0:Hid (Bel w w1):=HB0;go_wp2_with fail;refine (Jhe w1 (HL.out.below HB0.out)).mono ?_;rintro e w2 ⟨rfl,hb2⟩;have HB2:Hid (Bel w w2):=Jd HB0.out hb2;have HW2:Hid (Bel w1 w2):=hb2;clear hb2;go_upto_region 2 with fail;have cf:=Jhc a _ w2 HRA.out HB2.out;obtain ⟨x0,x1,x2⟩:=wthree (HX.out _ HW2.out);obtain ⟨q,hq⟩:∃ q,fewM a=q:=⟨_,rfl⟩
 rw[hq] at cf;have HQ2:=Lib.hid hq;clear hq;go_wp2_with fail;refine cf.mono ?_;rintro e w3 ⟨rfl,hb3⟩;have HB3:Hid (Bel w w3):=Jd HB2.out hb3;have HW3:Hid (Bel w1 w3):=Jd HW2.out hb3;clear cf hb3 x0 x1 x2 HB2 HW2
 cases q with
 | false=>
  go_wp2;go_ret;exact ⟨rfl,HB3.out⟩
 | true=>
 have HFA:=Lib.hid (JbP HQ2.out HNA.out);have cf:=Jhc b _ w3 HRB.out HB3.out;obtain ⟨y0,y1,y2⟩:=wthree (HY.out _ HW3.out);obtain ⟨q,hq⟩:∃ q,fewM b=q:=⟨_,rfl⟩
 rw[hq] at cf;have HQ3:=Lib.hid hq;clear hq;go_wp2_with fail;refine cf.mono ?_;rintro e w4 ⟨rfl,hb4⟩;have HB4:Hid (Bel w w4):=Jd HB3.out hb4;have HW4:Hid (Bel w1 w4):=Jd HW3.out hb4;clear cf hb4 y0 y1 y2 HB3 HW3
 cases q with
 | false=>
  go_wp2;go_ret;exact ⟨rfl,HB4.out⟩
 | true=>
 have HFB:=Lib.hid (JbP HQ3.out HNB.out);have cf:=Zu a _ w4 (HRA.out.up HB4.out) HFA.out.1;obtain ⟨x0,x1,x2⟩:=wthree (HX.out _ HW4.out);obtain ⟨q,hq⟩:∃ q,rightM a=q:=⟨_,rfl⟩
 rw[hq] at cf;have HQ4:=Lib.hid hq;clear hq;go_wp2_with fail;refine cf.mono ?_;rintro e w5 ⟨rfl,hb5⟩;have HB5:Hid (Bel w w5):=Jd HB4.out hb5;have HW5:Hid (Bel w1 w5):=Jd HW4.out hb5;clear cf hb5 x0 x1 x2 HB4 HW4
 cases q with
 | false=>
  go_wp2;go_ret;exact ⟨rfl,HB5.out⟩
 | true=>
 have cf:=Zu b _ w5 (HRB.out.up HB5.out) HFB.out.1;obtain ⟨y0,y1,y2⟩:=wthree (HY.out _ HW5.out);obtain ⟨q,hq⟩:∃ q,rightM b=q:=⟨_,rfl⟩
 rw[hq] at cf;have HQ5:=Lib.hid hq;clear hq;go_wp2_with fail;refine cf.mono ?_;rintro e w6 ⟨rfl,hb6⟩;have HB6:Hid (Bel w w6):=Jd HB5.out hb6;have HW6:Hid (Bel w1 w6):=Jd HW5.out hb6;clear cf hb6 y0 y1 y2 HB5 HW5
 cases q with
 | false=>
  go_wp2;go_ret;exact ⟨rfl,HB6.out⟩
 | true=>
 obtain ⟨x0,x1,x2⟩:=wthree (HX.out _ HW6.out);obtain ⟨y0,y1,y2⟩:=wthree (HY.out _ HW6.out);obtain ⟨na,hna⟩:∃ na,a.clauses.length=na:=⟨_,rfl⟩
 obtain ⟨nb,hnb⟩:∃ nb,b.clauses.length=nb:=⟨_,rfl⟩
 obtain ⟨ma,hma⟩:∃ ma,a.funcs.length=ma:=⟨_,rfl⟩
 obtain ⟨mb,hmb⟩:∃ mb,b.funcs.length=mb:=⟨_,rfl⟩
 have HNa:=Lib.hid hna;have HNb:=Lib.hid hnb;have HMa:=Lib.hid hma;have HMb:=Lib.hid hmb;rw[hna] at x1;rw[hma] at x0;rw[hnb] at y1;rw[hmb] at y0;clear hna hnb hma hmb
 by_cases n1:na=0
 ·have q1:((na:Int)==0)=true:=beq_iff_eq.2 (by omega);clear n1;go_wp2;go_ret;exact ⟨rfl,HB6.out⟩
 have q1:((na:Int)==0)=false:=beq_eq_false_iff_ne.2 (by omega)
 by_cases n2:nb=0
 ·have q2:((nb:Int)==0)=true:=beq_iff_eq.2 (by omega);clear n2;go_wp2;go_ret;exact ⟨rfl,HB6.out⟩
 have q2:((nb:Int)==0)=false:=beq_eq_false_iff_ne.2 (by omega)
 by_cases n3:0<ma
 ·have q3:decide ((ma:Int)>0)=true:=decide_eq_true (by omega);have q3':decide (0<ma)=true:=decide_eq_true n3;clear n3;go_wp2;go_ret;exact ⟨rfl,HB6.out⟩
 have q3:decide ((ma:Int)>0)=false:=decide_eq_false (by omega);have q3':decide (0<ma)=false:=decide_eq_false n3
 by_cases n4:0<mb
 ·have q4:decide ((mb:Int)>0)=true:=decide_eq_true (by omega);have q4':decide (0<mb)=true:=decide_eq_true n4;clear n4;go_wp2;go_ret;exact ⟨rfl,HB6.out⟩
 have q4:decide ((mb:Int)>0)=false:=decide_eq_false (by omega);have q4':decide (0<mb)=false:=decide_eq_false n4;have HN4:Hid (0<na∧0<nb∧ma=0∧mb=0):=⟨by omega,by omega,by omega,by omega⟩
 have na0:(0:Int)<(na:Int):=by omega
 have nb0:(0:Int)<(nb:Int):=by omega
 clear n1 n2 n3 n4;go_upto_region 4 with fail;clear q1 q2 q3 q4 q3' q4';obtain ⟨X,hX⟩:∃ X,a.clauses[0]?=some X:=⟨_,List.getElem?_eq_getElem (by rw[HNa.out]; exact HN4.out.1)⟩
 obtain ⟨b1,o1,ha1,hk1⟩:=HG1.out (List.ne_nil_of_mem (List.mem_of_getElem? hX));subst ha1;obtain ⟨d1,hr1,hc1⟩:=hk1 0 X hX;obtain ⟨xa,xc,rfl,hex⟩:=clause_x hr1;have e0:=hc1 w6 HB6.out 0 _ rfl;have e1:=hc1 w6 HB6.out 1 _ rfl;have e2:=hc1 w6 HB6.out 2 _ rfl;have e3:=hc1 w6 HB6.out 3 _ rfl;simp only[Nat.zero_mul,Nat.add_zero] at e0 e1 e2 e3;have hfx:=oneR_of HQ4.out (List.eq_nil_of_length_eq_zero (HMa.out.trans HN4.out.2.2.1)) (List.mem_of_getElem? hX);have hsx:=few_siz HQ2.out X (List.mem_of_getElem? hX);have hnx:=(HNA.out.cl X (List.mem_of_getElem? hX)).1;obtain ⟨Y,hY⟩:∃ Y,b.clauses[0]?=some Y:=⟨_,List.getElem?_eq_getElem (by rw[HNb.out]; exact HN4.out.2.1)⟩
 obtain ⟨b2,o2,ha2,hk2⟩:=HG2.out (List.ne_nil_of_mem (List.mem_of_getElem? hY));subst ha2;obtain ⟨d2,hr2,hc2⟩:=hk2 0 Y hY;obtain ⟨ya,yc,rfl,hey⟩:=clause_x hr2;have hfy:=oneR_of HQ5.out (List.eq_nil_of_length_eq_zero (HMb.out.trans HN4.out.2.2.2)) (List.mem_of_getElem? hY);have hsy:=few_siz HQ3.out Y (List.mem_of_getElem? hY);have hny:=(HNB.out.cl Y (List.mem_of_getElem? hY)).1;generalize X.cond=x at *;generalize Y.cond=y at *;have HEX:=Lib.hid hex;have HEY:=Lib.hid hey;have HFX:=Lib.hid hfx;have HFY:=Lib.hid hfy;have HSX:=Lib.hid hsx;have HSY:=Lib.hid hsy;have HNX:=Lib.hid hnx;have HNY:=Lib.hid hny;have HC2:=Lib.hid hc2;clear hex hey hfx hfy hsx hsy hnx hny hc1 hc2 hk1 hk2 hr1 hr2 hX hY HG1 HG2 HNA HNB HFA HFB HQ2 HQ3 HQ4 HQ5 HRA HRB;go_upto_region 5 with fail;clear e0 e1 e2 e3 x0 x1 x2 y0 y1 y2;generalize hw7:World.alloc w6 _=w7 at *;obtain ⟨hb7,hz7⟩:=one_of hw7;clear hw7;have HB7:Hid (Bel w w7):=Jd HB6.out hb7;have HW7:Hid (Bel w1 w7):=Jd HW6.out hb7;have HKX:=Lib.hid (BxB.of hz7);clear hz7 hb7;generalize w6.heap.size=kx at *;obtain ⟨y0,y1,y2⟩:=wthree (HY.out _ HW7.out);rw[HNb.out] at y1;have e0:=HC2.out w7 HB7.out 0 _ rfl;have e1:=HC2.out w7 HB7.out 1 _ rfl;have e2:=HC2.out w7 HB7.out 2 _ rfl;have e3:=HC2.out w7 HB7.out 3 _ rfl;simp only[Nat.zero_mul,Nat.add_zero] at e0 e1 e2 e3;go_upto_region 6 with fail;clear e0 e1 e2 e3 y0 y1 y2 HC2;generalize hw8:World.alloc w7 _=w8 at *;obtain ⟨hb8,hz8⟩:=one_of hw8;clear hw8;have HB8:Hid (Bel w w8):=Jd HB7.out hb8;have HV8:Hid (Bel w7 w8):=hb8;have HKY:=Lib.hid (BxB.of hz8);clear hz8 hb8;generalize w7.heap.size=ky at *;have HZ8:Hid (Bel w8 w8):=Below.refl _ _;clear HB6 HW6 HW7 HX HY;have cf:=nest_any x [.int .i64 x.kind,.int .i64 x.num,.string (bs x.name),.slice xa x.kids.length xc] w8 (Nat.le_trans HSX.out (by decide)) HEX.out HB8.out;obtain ⟨x0,x1,x2,x3⟩:=wfour (HKX.out _ (Jd HV8.out HZ8.out));obtain ⟨q,hq⟩:∃ q,nest (utN x)=q:=⟨_,rfl⟩
 have hqb:q≤400:=by rw[← hq]; exact Nat.le_trans (JdC _) HSX.out
 rw[hq] at cf;have HNEx:=Lib.hid hq;clear hq;go_wp2_with fail;refine cf.mono ?_;rintro e w9 ⟨rfl,hb9⟩;have HB9:Hid (Bel w w9):=Jd HB8.out hb9;have HZ9:Hid (Bel w8 w9):=Jd HZ8.out hb9;clear cf hb9 x0 x1 x2 x3 HB8 HZ8
 by_cases n5:37<q
 ·have q5:decide ((q:Int)>37)=true:=decide_eq_true (by omega);have q5':decide (37<q)=true:=decide_eq_true n5;go_wp2;go_ret;exact ⟨rfl,HB9.out⟩
 have q5:decide ((q:Int)>37)=false:=decide_eq_false (by omega);have q5':decide (37<q)=false:=decide_eq_false n5;have HN5x:Hid (nest (utN x)≤37):=by unfold Hid; rw[HNEx.out]; omega
 clear n5;have cf:=nest_any y [.int .i64 y.kind,.int .i64 y.num,.string (bs y.name),.slice ya y.kids.length yc] w9 (Nat.le_trans HSY.out (by decide)) HEY.out HB9.out;obtain ⟨y0,y1,y2,y3⟩:=wfour (HKY.out _ HZ9.out);obtain ⟨q,hq⟩:∃ q,nest (utN y)=q:=⟨_,rfl⟩
 have hqb:q≤400:=by rw[← hq]; exact Nat.le_trans (JdC _) HSY.out
 rw[hq] at cf;have HNEy:=Lib.hid hq;clear hq;go_wp2_with fail;refine cf.mono ?_;rintro e w10 ⟨rfl,hb10⟩;have HB10:Hid (Bel w w10):=Jd HB9.out hb10;have HZ10:Hid (Bel w8 w10):=Jd HZ9.out hb10;clear cf hb10 y0 y1 y2 y3 HB9 HZ9
 by_cases n5:37<q
 ·have q5:decide ((q:Int)>37)=true:=decide_eq_true (by omega);have q5':decide (37<q)=true:=decide_eq_true n5;go_wp2;go_ret;exact ⟨rfl,HB10.out⟩
 have q5:decide ((q:Int)>37)=false:=decide_eq_false (by omega);have q5':decide (37<q)=false:=decide_eq_false n5;have HN5y:Hid (nest (utN y)≤37):=by unfold Hid; rw[HNEy.out]; omega
 clear n5;go_upto_region 8 with fail;have cf:=source_any x [.int .i64 x.kind,.int .i64 x.num,.string (bs x.name),.slice xa x.kids.length xc] w10 (Nat.le_trans HSX.out (by decide)) HNX.out HFX.out.1 HFX.out.2 HEX.out HB10.out (HL.out.below HB10.out);obtain ⟨x0,x1,x2,x3⟩:=wfour (HKX.out _ (Jd HV8.out HZ10.out));obtain ⟨C,hC⟩:∃ C,flat (iB0 x)=C:=⟨_,rfl⟩
 rw[hC] at cf;have HC:=Lib.hid hC;clear hC;go_wp2_with fail;refine cf.mono ?_;rintro e w11 ⟨rfl,hb11⟩;have HB11:Hid (Bel w w11):=Jd HB10.out hb11;have HZ11:Hid (Bel w8 w11):=Jd HZ10.out hb11;clear cf hb11 x0 x1 x2 x3 HB10 HZ10;go_upto_region 9 with fail;have cf:=source_any y [.int .i64 y.kind,.int .i64 y.num,.string (bs y.name),.slice ya y.kids.length yc] w11 (Nat.le_trans HSY.out (by decide)) HNY.out HFY.out.1 HFY.out.2 HEY.out HB11.out (HL.out.below HB11.out);obtain ⟨y0,y1,y2,y3⟩:=wfour (HKY.out _ HZ11.out);obtain ⟨D,hD⟩:∃ D,flat (iB0 y)=D:=⟨_,rfl⟩
 rw[hD] at cf;have HD:=Lib.hid hD;clear hD;go_wp2_with fail;refine cf.mono ?_;rintro e w12 ⟨rfl,hb12⟩;have HB12:Hid (Bel w w12):=Jd HB11.out hb12;have HZ12:Hid (Bel w8 w12):=Jd HZ11.out hb12;clear cf hb12 y0 y1 y2 y3 HB11 HZ11;go_upto_region 10 with fail;have zc:=JF C;have zd:=JF D
 have lc:C.length≤1000000:=by
  have h1:=one_len (Nat.le_trans HSX.out (by decide)) (oneR_right HFX.out.1 HFX.out.2);rw[← KQ (oneR_right HFX.out.1 HFX.out.2),source_eq HFX.out.1 HFX.out.2,flat_t,flat_s,J5,HC.out] at h1;simp only[List.length_append,List.length_cons] at h1;omega
 have ld:D.length≤1000000:=by
  have h1:=one_len (Nat.le_trans HSY.out (by decide)) (oneR_right HFY.out.1 HFY.out.2);rw[← KQ (oneR_right HFY.out.1 HFY.out.2),source_eq HFY.out.1 HFY.out.2,flat_t,flat_s,J5,HD.out] at h1;simp only[List.length_append,List.length_cons] at h1;omega
 have wz1:IntKind.i64.wrap (2*(C.length:Int))=2*(C.length:Int):=by rw[IntWalk.i64_in _ (by omega)]
 have wz2:IntKind.i64.wrap (2*(C.length:Int)+(D.length:Int))=2*(C.length:Int)+(D.length:Int):=by rw[IntWalk.i64_in _ (by omega)]
 by_cases n6:3900<2*C.length+D.length
 ·have q6:decide (2*(C.length:Int)+(D.length:Int)>3900)=true:=decide_eq_true (by omega);have q6b:decide ((3900:Int)<2*(C.length:Int)+(D.length:Int))=true:=decide_eq_true (by omega);clear n6;go_wp2;go_ret;exact ⟨rfl,HB12.out⟩
 have q6:decide (2*(C.length:Int)+(D.length:Int)>3900)=false:=decide_eq_false (by omega);have q6b:decide ((3900:Int)<2*(C.length:Int)+(D.length:Int))=false:=decide_eq_false (by omega);have lc3:2*C.length+D.length≤3900:=by omega
 have lc2:C.length≤1950:=by omega
 have ld2:D.length≤3900:=by omega
 obtain ⟨g1,g2,g3,g4,g5⟩:=groups_x HFX.out.1 HFX.out.2 HN5x.out HFY.out.1 HFY.out.2 HN5y.out (by rw[HC.out,HD.out]; omega);rw[flat_gI] at g1 g2 g3 g4 g5;have s1:flat (c1 (iB0 x))=[40,40]++C++[41,41]:=by unfold c1; rw[flat_pp,flat_pp,HC.out]; simp
 have s2:flat (c2 (iB0 x))=[110,111,116,32,40]++C++[41]:=by unfold c2; rw[flat_t,flat_s,flat_pp,HC.out]; simp[wr,tW,kNot]
 have s3:flat (c3 (iB0 x) (iB0 y))=[40]++C++[41,111,114,40]++D++[41]:=by unfold c3; rw[J5,flat_t,flat_pp,flat_pp,HC.out,HD.out]; simp[wr,tW,kOr]
 have s4:flat (c4 (iB0 x) (iB0 y))=[110,111,116,40]++C++[41,97,110,100,40]++D++[41]:=by unfold c4; rw[flat_t,J5,flat_t,flat_pp,flat_pp,HC.out,HD.out]; simp[wr,tW,kNot,kAnd]
 have s5:flat (c5 (iB0 x) (iB0 y))=[105,102,32]++C++[32,116,104,101,110,32]++D++[32,101,108,115,101,32,40]++C++[41]:=by unfold c5; simp only[flat_t,flat_s,J5,flat_pp,HC.out,HD.out]; simp[wr,tW,kIf,kThen,kElse]
 rw[s1] at g1;rw[s2] at g2;rw[s3] at g3;rw[s4] at g4;rw[s5] at g5;have G1:=Lib.hid g1;have G2:=Lib.hid g2;have G3:=Lib.hid g3;have G4:=Lib.hid g4;have G5:=Lib.hid g5;clear g1 g2 g3 g4 g5 s1 s2 s3 s4 s5 n6 wz1 wz2 lc ld;go_upto_region 12 with fail;clear q6 q6b;obtain ⟨x0,x1,x2,x3⟩:=wfour (HKX.out _ (Jd HV8.out HZ12.out));go_upto_region 13 with fail;generalize hw13:World.alloc (World.alloc w12 _) _=w13 at *;obtain ⟨hb13,hy13,hz13⟩:=two_of hw13;clear hw13;have HB13:Hid (Bel w w13):=Jd HB12.out hb13;have HZ13:Hid (Bel w8 w13):=Jd HZ12.out hb13;have HKN:=Lib.hid (BxB.of hz13);have HEN:Hid (ExpX w13 (.mk 7 0 [] [x]) [.int .i64 7,.int .i64 0,.string (bs []),.slice (some ⟨w12.heap.size,0,none⟩) 1 1]):=xat_row (P:=In w13) (l:=[x]) (row_one (x_up HEX.out HB13.out)) hy13 (Jb hy13);clear hb13 hy13 hz13 x0 x1 x2 x3 HB12 HZ12;generalize w12.heap.size+1=kn at *;generalize w12.heap.size=rn at *;have HV13:Hid (Bel w13 w13):=Below.refl _ _;obtain ⟨x0,x1,x2,x3⟩:=wfour (HKX.out _ (Jd HV8.out HZ13.out));obtain ⟨y0,y1,y2,y3⟩:=wfour (HKY.out _ HZ13.out);go_upto_region 14 with fail;generalize hw14:World.alloc (World.alloc w13 _) _=w14 at *;obtain ⟨hb14,hy14,hz14⟩:=two_of hw14;clear hw14;have HB14:Hid (Bel w w14):=Jd HB13.out hb14;have HZ14:Hid (Bel w8 w14):=Jd HZ13.out hb14;have HKO:=Lib.hid (BxB.of hz14);have HEO:Hid (ExpX w14 (.mk 17 0 [] [x,y]) [.int .i64 17,.int .i64 0,.string (bs []),.slice (some ⟨w13.heap.size,0,none⟩) 2 2]):=xat_row (P:=In w14) (l:=[x,y]) (row_more (x_up HEX.out HB14.out) (row_one (x_up HEY.out HB14.out))) hy14 (Jb hy14);have HV14:Hid (Bel w13 w14):=hb14;clear hb14 hy14 hz14 x0 x1 x2 x3 y0 y1 y2 y3 HB13 HZ13 HV13;generalize w13.heap.size+1=ko at *;generalize w13.heap.size=ro at *;obtain ⟨x0,x1,x2,x3⟩:=wfour (HKN.out _ HV14.out);obtain ⟨y0,y1,y2,y3⟩:=wfour (HKY.out _ HZ14.out);go_upto_region 15 with fail;generalize hw15:World.alloc (World.alloc w14 _) _=w15 at *;obtain ⟨hb15,hy15,hz15⟩:=two_of hw15;clear hw15;have HB15:Hid (Bel w w15):=Jd HB14.out hb15;have HZ15:Hid (Bel w8 w15):=Jd HZ14.out hb15;have HKA:=Lib.hid (BxB.of hz15);have HEA:Hid (ExpX w15 (.mk 16 0 [] [.mk 7 0 [] [x],y]) [.int .i64 16,.int .i64 0,.string (bs []),.slice (some ⟨w14.heap.size,0,none⟩) 2 2]):=xat_row (P:=In w15) (l:=[.mk 7 0 [] [x],y]) (row_more (x_up HEN.out (Jd HV14.out hb15)) (row_one (x_up HEY.out HB15.out))) hy15 (Jb hy15);have HP15:Hid (Bel w13 w15):=Jd HV14.out hb15;have HO15:Hid (Bel w14 w15):=hb15;have HA15:Hid (Bel w15 w15):=Below.refl _ _;clear hb15 hy15 hz15 x0 x1 x2 x3 y0 y1 y2 y3 HB14 HZ14 HV14;generalize w14.heap.size+1=ka at *;generalize w14.heap.size=rn2 at *;obtain ⟨Sa0,hSa0⟩:∃ Sa0,[40,40]++C=Sa0:=⟨_,rfl⟩
 have tSa0:(⟨#[40,40]⟩:ByteArray)++bs C=bs Sa0:=by rw[← hSa0]; exact bs_append _ _
 have lSa0:Sa0.length=2+C.length:=by rw[← hSa0]; simp only[List.length_append,List.length_cons,List.length_nil] <;> omega
 have zSa0:=JF Sa0;obtain ⟨Sa1,hSa1⟩:∃ Sa1,Sa0++[41,41]=Sa1:=⟨_,rfl⟩
 have tSa1:bs Sa0++(⟨#[41,41]⟩:ByteArray)=bs Sa1:=by rw[← hSa1]; exact bs_append _ _
 have lSa1:Sa1.length=2+C.length+2:=by rw[← hSa1]; simp only[List.length_append,List.length_cons,List.length_nil] <;> omega
 have zSa1:=JF Sa1;have hp:=G1.out;rw[hSa0,hSa1] at hp;have cf:=parsed_any Sa1 x [.int .i64 x.kind,.int .i64 x.num,.string (bs x.name),.slice xa x.kids.length xc] w15 hp (by omega) (Nat.le_trans HSX.out (by decide)) HEX.out HB15.out (HL.out.below HB15.out);obtain ⟨x0,x1,x2,x3⟩:=wfour (HKX.out _ (Jd HV8.out HZ15.out));clear hp hSa0 hSa1;go_wp2_with fail;refine cf.mono ?_;rintro e w16 ⟨rfl,hb16⟩;have HB16:Hid (Bel w w16):=Jd HB15.out hb16;have HZ16:Hid (Bel w8 w16):=Jd HZ15.out hb16;have HP16:Hid (Bel w13 w16):=Jd HP15.out hb16;have HO16:Hid (Bel w14 w16):=Jd HO15.out hb16;have HA16:Hid (Bel w15 w16):=Jd HA15.out hb16;clear cf hb16 x0 x1 x2 x3 tSa0 zSa0 tSa1 zSa1 lSa0 lSa1 HB15 HZ15 HP15 HO15 HA15;obtain ⟨Sb0,hSb0⟩:∃ Sb0,[110,111,116,32,40]++C=Sb0:=⟨_,rfl⟩
 have tSb0:(⟨#[110,111,116,32,40]⟩:ByteArray)++bs C=bs Sb0:=by rw[← hSb0]; exact bs_append _ _
 have lSb0:Sb0.length=5+C.length:=by rw[← hSb0]; simp only[List.length_append,List.length_cons,List.length_nil] <;> omega
 have zSb0:=JF Sb0;obtain ⟨Sb1,hSb1⟩:∃ Sb1,Sb0++[41]=Sb1:=⟨_,rfl⟩
 have tSb1:bs Sb0++(⟨#[41]⟩:ByteArray)=bs Sb1:=by rw[← hSb1]; exact bs_append _ _
 have lSb1:Sb1.length=5+C.length+1:=by rw[← hSb1]; simp only[List.length_append,List.length_cons,List.length_nil] <;> omega
 have zSb1:=JF Sb1;have hp:=G2.out;rw[hSb0,hSb1] at hp;have cf:=parsed_any Sb1 (.mk 7 0 [] [x]) [.int .i64 7,.int .i64 0,.string (bs []),.slice (some ⟨rn,0,none⟩) 1 1] w16 hp (by omega) (by rw[utN,utL,utL,JG,Ju,JE]; have:=HSX.out; omega) HEN.out HP16.out (HL.out.below HB16.out);obtain ⟨x0,x1,x2,x3⟩:=wfour (HKN.out _ HP16.out);clear hp hSb0 hSb1;go_wp2_with fail;refine cf.mono ?_;rintro e w17 ⟨rfl,hb17⟩;have HB17:Hid (Bel w w17):=Jd HB16.out hb17;have HZ17:Hid (Bel w8 w17):=Jd HZ16.out hb17;have HP17:Hid (Bel w13 w17):=Jd HP16.out hb17;have HO17:Hid (Bel w14 w17):=Jd HO16.out hb17;have HA17:Hid (Bel w15 w17):=Jd HA16.out hb17;clear cf hb17 x0 x1 x2 x3 tSb0 zSb0 tSb1 zSb1 lSb0 lSb1 HB16 HZ16 HP16 HO16 HA16;obtain ⟨Sc0,hSc0⟩:∃ Sc0,[40]++C=Sc0:=⟨_,rfl⟩
 have tSc0:(⟨#[40]⟩:ByteArray)++bs C=bs Sc0:=by rw[← hSc0]; exact bs_append _ _
 have lSc0:Sc0.length=1+C.length:=by rw[← hSc0]; simp only[List.length_append,List.length_cons,List.length_nil] <;> omega
 have zSc0:=JF Sc0;obtain ⟨Sc1,hSc1⟩:∃ Sc1,Sc0++[41,111,114,40]=Sc1:=⟨_,rfl⟩
 have tSc1:bs Sc0++(⟨#[41,111,114,40]⟩:ByteArray)=bs Sc1:=by rw[← hSc1]; exact bs_append _ _
 have lSc1:Sc1.length=1+C.length+4:=by rw[← hSc1]; simp only[List.length_append,List.length_cons,List.length_nil] <;> omega
 have zSc1:=JF Sc1;obtain ⟨Sc2,hSc2⟩:∃ Sc2,Sc1++D=Sc2:=⟨_,rfl⟩
 have tSc2:bs Sc1++bs D=bs Sc2:=by rw[← hSc2]; exact bs_append _ _
 have lSc2:Sc2.length=1+C.length+4+D.length:=by rw[← hSc2]; simp only[List.length_append,List.length_cons,List.length_nil] <;> omega
 have zSc2:=JF Sc2;obtain ⟨Sc3,hSc3⟩:∃ Sc3,Sc2++[41]=Sc3:=⟨_,rfl⟩
 have tSc3:bs Sc2++(⟨#[41]⟩:ByteArray)=bs Sc3:=by rw[← hSc3]; exact bs_append _ _
 have lSc3:Sc3.length=1+C.length+4+D.length+1:=by rw[← hSc3]; simp only[List.length_append,List.length_cons,List.length_nil] <;> omega
 have zSc3:=JF Sc3;have hp:=G3.out;rw[hSc0,hSc1,hSc2,hSc3] at hp;have cf:=parsed_any Sc3 (.mk 17 0 [] [x,y]) [.int .i64 17,.int .i64 0,.string (bs []),.slice (some ⟨ro,0,none⟩) 2 2] w17 hp (by omega) (by rw[utN,utL,utL,utL,JG,Ju,Ju,JE]; have:=HSX.out; have:=HSY.out; omega) HEO.out HO17.out (HL.out.below HB17.out);obtain ⟨x0,x1,x2,x3⟩:=wfour (HKO.out _ HO17.out);clear hp hSc0 hSc1 hSc2 hSc3;go_wp2_with fail;refine cf.mono ?_;rintro e w18 ⟨rfl,hb18⟩;have HB18:Hid (Bel w w18):=Jd HB17.out hb18;have HZ18:Hid (Bel w8 w18):=Jd HZ17.out hb18;have HP18:Hid (Bel w13 w18):=Jd HP17.out hb18;have HO18:Hid (Bel w14 w18):=Jd HO17.out hb18;have HA18:Hid (Bel w15 w18):=Jd HA17.out hb18;clear cf hb18 x0 x1 x2 x3 tSc0 zSc0 tSc1 zSc1 tSc2 zSc2 tSc3 zSc3 lSc0 lSc1 lSc2 lSc3 HB17 HZ17 HP17 HO17 HA17;obtain ⟨Sd0,hSd0⟩:∃ Sd0,[110,111,116,40]++C=Sd0:=⟨_,rfl⟩
 have tSd0:(⟨#[110,111,116,40]⟩:ByteArray)++bs C=bs Sd0:=by rw[← hSd0]; exact bs_append _ _
 have lSd0:Sd0.length=4+C.length:=by rw[← hSd0]; simp only[List.length_append,List.length_cons,List.length_nil] <;> omega
 have zSd0:=JF Sd0;obtain ⟨Sd1,hSd1⟩:∃ Sd1,Sd0++[41,97,110,100,40]=Sd1:=⟨_,rfl⟩
 have tSd1:bs Sd0++(⟨#[41,97,110,100,40]⟩:ByteArray)=bs Sd1:=by rw[← hSd1]; exact bs_append _ _
 have lSd1:Sd1.length=4+C.length+5:=by rw[← hSd1]; simp only[List.length_append,List.length_cons,List.length_nil] <;> omega
 have zSd1:=JF Sd1;obtain ⟨Sd2,hSd2⟩:∃ Sd2,Sd1++D=Sd2:=⟨_,rfl⟩
 have tSd2:bs Sd1++bs D=bs Sd2:=by rw[← hSd2]; exact bs_append _ _
 have lSd2:Sd2.length=4+C.length+5+D.length:=by rw[← hSd2]; simp only[List.length_append,List.length_cons,List.length_nil] <;> omega
 have zSd2:=JF Sd2;obtain ⟨Sd3,hSd3⟩:∃ Sd3,Sd2++[41]=Sd3:=⟨_,rfl⟩
 have tSd3:bs Sd2++(⟨#[41]⟩:ByteArray)=bs Sd3:=by rw[← hSd3]; exact bs_append _ _
 have lSd3:Sd3.length=4+C.length+5+D.length+1:=by rw[← hSd3]; simp only[List.length_append,List.length_cons,List.length_nil] <;> omega
 have zSd3:=JF Sd3;have hp:=G4.out;rw[hSd0,hSd1,hSd2,hSd3] at hp;have cf:=parsed_any Sd3 (.mk 16 0 [] [.mk 7 0 [] [x],y]) [.int .i64 16,.int .i64 0,.string (bs []),.slice (some ⟨rn2,0,none⟩) 2 2] w18 hp (by omega) (by rw[utN,utL,utL,utL,utN,utL,utL,JG,Ju,Ju,JE,JG,Ju,JE]; have:=HSX.out; have:=HSY.out; omega) HEA.out HA18.out (HL.out.below HB18.out);obtain ⟨x0,x1,x2,x3⟩:=wfour (HKA.out _ HA18.out);clear hp hSd0 hSd1 hSd2 hSd3;go_wp2_with fail;refine cf.mono ?_;rintro e w19 ⟨rfl,hb19⟩;have HB19:Hid (Bel w w19):=Jd HB18.out hb19;have HZ19:Hid (Bel w8 w19):=Jd HZ18.out hb19;have HP19:Hid (Bel w13 w19):=Jd HP18.out hb19;have HO19:Hid (Bel w14 w19):=Jd HO18.out hb19;have HA19:Hid (Bel w15 w19):=Jd HA18.out hb19;clear cf hb19 x0 x1 x2 x3 tSd0 zSd0 tSd1 zSd1 tSd2 zSd2 tSd3 zSd3 lSd0 lSd1 lSd2 lSd3 HB18 HZ18 HP18 HO18 HA18;obtain ⟨Se0,hSe0⟩:∃ Se0,[105,102,32]++C=Se0:=⟨_,rfl⟩
 have tSe0:(⟨#[105,102,32]⟩:ByteArray)++bs C=bs Se0:=by rw[← hSe0]; exact bs_append _ _
 have lSe0:Se0.length=3+C.length:=by rw[← hSe0]; simp only[List.length_append,List.length_cons,List.length_nil] <;> omega
 have zSe0:=JF Se0;obtain ⟨Se1,hSe1⟩:∃ Se1,Se0++[32,116,104,101,110,32]=Se1:=⟨_,rfl⟩
 have tSe1:bs Se0++(⟨#[32,116,104,101,110,32]⟩:ByteArray)=bs Se1:=by rw[← hSe1]; exact bs_append _ _
 have lSe1:Se1.length=3+C.length+6:=by rw[← hSe1]; simp only[List.length_append,List.length_cons,List.length_nil] <;> omega
 have zSe1:=JF Se1;obtain ⟨Se2,hSe2⟩:∃ Se2,Se1++D=Se2:=⟨_,rfl⟩
 have tSe2:bs Se1++bs D=bs Se2:=by rw[← hSe2]; exact bs_append _ _
 have lSe2:Se2.length=3+C.length+6+D.length:=by rw[← hSe2]; simp only[List.length_append,List.length_cons,List.length_nil] <;> omega
 have zSe2:=JF Se2;obtain ⟨Se3,hSe3⟩:∃ Se3,Se2++[32,101,108,115,101,32,40]=Se3:=⟨_,rfl⟩
 have tSe3:bs Se2++(⟨#[32,101,108,115,101,32,40]⟩:ByteArray)=bs Se3:=by rw[← hSe3]; exact bs_append _ _
 have lSe3:Se3.length=3+C.length+6+D.length+7:=by rw[← hSe3]; simp only[List.length_append,List.length_cons,List.length_nil] <;> omega
 have zSe3:=JF Se3;obtain ⟨Se4,hSe4⟩:∃ Se4,Se3++C=Se4:=⟨_,rfl⟩
 have tSe4:bs Se3++bs C=bs Se4:=by rw[← hSe4]; exact bs_append _ _
 have lSe4:Se4.length=3+C.length+6+D.length+7+C.length:=by rw[← hSe4]; simp only[List.length_append,List.length_cons,List.length_nil] <;> omega
 have zSe4:=JF Se4;obtain ⟨Se5,hSe5⟩:∃ Se5,Se4++[41]=Se5:=⟨_,rfl⟩
 have tSe5:bs Se4++(⟨#[41]⟩:ByteArray)=bs Se5:=by rw[← hSe5]; exact bs_append _ _
 have lSe5:Se5.length=3+C.length+6+D.length+7+C.length+1:=by rw[← hSe5]; simp only[List.length_append,List.length_cons,List.length_nil] <;> omega
 have zSe5:=JF Se5;have hp:=G5.out;rw[hSe0,hSe1,hSe2,hSe3,hSe4,hSe5] at hp;have hbr:Bel w19 (w19.alloc (.cells #[.int .i64 x.kind,.int .i64 x.num,.string (bs x.name),.slice xa x.kids.length xc,.int .i64 y.kind,.int .i64 y.num,.string (bs y.name),.slice ya y.kids.length yc,.int .i64 x.kind,.int .i64 x.num,.string (bs x.name),.slice xa x.kids.length xc] 30)):=(Below.refl _ _).alloc (Nat.le_refl _) _;have hzr:=heap_alloc_new w19 (.cells #[.int .i64 x.kind,.int .i64 x.num,.string (bs x.name),.slice xa x.kids.length xc,.int .i64 y.kind,.int .i64 y.num,.string (bs y.name),.slice ya y.kids.length yc,.int .i64 x.kind,.int .i64 x.num,.string (bs x.name),.slice xa x.kids.length xc] 30);have HEI:ExpX (w19.alloc (.cells #[.int .i64 x.kind,.int .i64 x.num,.string (bs x.name),.slice xa x.kids.length xc,.int .i64 y.kind,.int .i64 y.num,.string (bs y.name),.slice ya y.kids.length yc,.int .i64 x.kind,.int .i64 x.num,.string (bs x.name),.slice xa x.kids.length xc] 30)) (.mk 18 0 [] [x,y,x]) [.int .i64 18,.int .i64 0,.string (bs []),.slice (some ⟨w19.heap.size,0,none⟩) 3 3]:=xat_row (P:=In (w19.alloc (.cells #[.int .i64 x.kind,.int .i64 x.num,.string (bs x.name),.slice xa x.kids.length xc,.int .i64 y.kind,.int .i64 y.num,.string (bs y.name),.slice ya y.kids.length yc,.int .i64 x.kind,.int .i64 x.num,.string (bs x.name),.slice xa x.kids.length xc] 30))) (l:=[x,y,x]) (row_more (x_up HEX.out (Jd HB19.out hbr)) (row_more (x_up HEY.out (Jd HB19.out hbr)) (row_one (x_up HEX.out (Jd HB19.out hbr))))) hzr (Jb hzr);have cf:=parsed_any Se5 (.mk 18 0 [] [x,y,x]) _ (w19.alloc (.cells #[.int .i64 x.kind,.int .i64 x.num,.string (bs x.name),.slice xa x.kids.length xc,.int .i64 y.kind,.int .i64 y.num,.string (bs y.name),.slice ya y.kids.length yc,.int .i64 x.kind,.int .i64 x.num,.string (bs x.name),.slice xa x.kids.length xc] 30)) hp (by omega) (by rw[utN,utL,utL,utL,utL,JG,Ju,Ju,Ju,JE]; have:=HSX.out; have:=HSY.out; omega) HEI (Below.refl _ _) (HL.out.below (Jd HB19.out hbr));obtain ⟨x0,x1,x2,x3⟩:=wfour (HKX.out _ (Jd HV8.out HZ19.out));obtain ⟨y0,y1,y2,y3⟩:=wfour (HKY.out _ HZ19.out);have HBR:=Lib.hid hbr;clear hp hbr hzr HEI hSe0 hSe1 hSe2 hSe3 hSe4 hSe5;go_wp2_with fail;refine cf.mono ?_;rintro e w20 ⟨rfl,hb20⟩;have HF:Hid (Bel w w20):=Jd HB19.out (Jd HBR.out hb20);clear cf hb20 x0 x1 x2 x3 y0 y1 y2 y3;go_wp2;go_ret;exact ⟨rfl,HF.out⟩
end Go.Proofs.YtdlkcjkjnehnkaaGreatDoor
