import Derived.Test.YtdlkcjkjnehnkaaGreatDoorE41
import Derived.Test.YtdlkcjkjnehnkaaGreatDoorE44
namespace Go.Proofs.YtdlkcjkjnehnkaaGreatDoor
open Go Go.Lib
open Go.ChangeShapes Go.WideShapes Go.ChangeAt Go.RowKit Go.Lib
open Go.RowKit
open Go
open Go Go.ChangeShapes Go.WideShapes Go.ChangeAt Go.RowKit Go.Lib
open _root_.Go.Proofs.Tryz
set_option linter.all false
set_option maxRecDepth 100000
set_option maxHeartbeats 32000000
theorem RSm.len {r:RuleM} (h:RSm r) (hr:rightM r=true):(flat (iR r)).length≤140737488355328:=by
 have g1:=Jhf _ (Jlp hr h.few)
 have g2:=Jhi (fnF r) 163892 r.funcs fun f hf=>by
  obtain ⟨q2,q3⟩:=h.fn f hf;have:=Jmg (fnF r) f;omega
 have g3:=Jhj (fnF r) 114725 r.clauses fun c hc=>by
  have q:=h.cl c hc;have:=Jmh (fnF r) c;omega
 have g4:(iR r).length≤r.funcs.length*163892+(r.clauses.length*114725+4):=by
  unfold iR;simp only[List.length_cons,List.length_append,List.length_nil];omega
 have n1:=h.nf;have n2:=h.nc;omega
def anyO (ts:List Tok) (o:Int) (k:Nat):Bool:=(ts.take k).any fun t=>t.off==o
theorem anyO_step {ts:List Tok} {o:Int} {k:Nat} {t:Tok} (h:ts[k]?=some t):anyO ts o (k+1)=(anyO ts o k||t.off==o):=by
 unfold anyO;rw[List.take_add_one,h,List.any_append];simp
theorem anyO_full {ts:List Tok} {o:Int} (h:∃ t∈ts,t.off=o) {k:Nat} (hk:k=ts.length):anyO ts o k=true:=by
 obtain ⟨t,ht,e⟩:=h;unfold anyO;rw[hk,List.take_length,List.any_eq_true];exact ⟨t,ht,by simp[e]⟩
theorem row_keep {w W:World} {k:Nat} {o:Obj} (h:w.heap[k]?=some o) (hb:Below w.heap.size w W):W.heap[k]?=some o:=(hb.block _ (Jb h)).trans h
theorem scan_wf {l:List UInt8} {ts:List Tok} (h:sc 0 l=.ok ts):∀ t∈ts,wf64 t.n∧t.text.length≤50:=by
 obtain ⟨us,rfl,hu,_⟩:=Jjy l 0 ts h;intro t ht
 rcases List.mem_append.1 ht with g | g
 ·have:=hu t g;exact ⟨by unfold wf64; omega,by omega⟩
 ·rw[List.mem_singleton.1 g];exact ⟨⟨show (-9223372036854775808:Int)≤0 by decide,show (0:Int)≤9223372036854775807 by decide⟩,Nat.zero_le _⟩
set_option maxRecDepth 100000 in
set_option maxHeartbeats 16000000 in
theorem reads_card (l:List UInt8) (w:World) (hl:l.length≤9223372036854775807) (hL:Laid w):Calls Tryz.prog 6 #[.string (bs l)] w (BelP w (.bool true)):=by
 have HL:=Lib.hid hL;have ul:=JF l;clear hL;go_enter Tryz.func6,Tryz.ntmps6;go_upto_region 1 with fail;go_wp2_with fail;refine (Jhe w HL.out).mono ?_;rintro e w2 ⟨rfl,hb2⟩;have HB2:Hid (Bel w w2):=hb2;clear hb2;go_upto_region 2 with fail
 by_cases e3:3000<l.length
 ·have q3:decide ((l.length:Int)>3000)=true:=decide_eq_true (by omega);clear e3;go_wp2;go_ret;exact ⟨rfl,HB2.out⟩
 have q3:decide ((l.length:Int)>3000)=false:=decide_eq_false (by omega);have HE:Hid (l.length≤3000):=Nat.not_lt.1 e3;have cp:=parse_any' l w2 (by omega) (HL.out.below HB2.out);obtain ⟨r,er,ad,hX⟩:∃ r er ad,parseM l=(r,er,ad):=⟨_,_,_,rfl⟩
 rw[hX] at cp;have HX:=Lib.hid hX;clear e3 hX hl;go_upto_region 4 with fail;clear q3;go_wp2_with fail;refine cp.mono ?_;rintro e w3 hp;obtain ⟨c3,rfl,hx3,hb3⟩:=hp.inw;obtain ⟨fa,fc,ga,gc,rfl,_,_⟩:=hx3.parts;have hq3:Below w3.heap.size w3 (w3.alloc (.cells #[.slice fa r.funcs.length fc,.slice ga r.clauses.length gc,.int .i64 r.action] 25)):=(Below.refl _ _).alloc (Nat.le_refl _) _;have HB3:Hid (Bel w (w3.alloc (.cells #[.slice fa r.funcs.length fc,.slice ga r.clauses.length gc,.int .i64 r.action] 25))):=Jd HB2.out (Jd hb3 hq3);have HN3:=Lib.hid (heap_alloc_new w3 (.cells #[.slice fa r.funcs.length fc,.slice ga r.clauses.length gc,.int .i64 r.action] 25));have HY3:=Lib.hid (hx3.up hq3);clear hx3 hb3 hq3 cp hp;go_upto_region 5 with fail;generalize World.alloc w3 _=v3 at *;generalize w3.heap.size=k3 at *;have cs:=Jdh l v3 (by have:=HE.out; omega) (HL.out.below HB3.out);obtain ⟨T,f,pl,hS⟩:∃ T f pl,scanR l=(T,f,pl):=⟨_,_,_,rfl⟩
 rw[hS] at cs;have HS:=Lib.hid hS;clear hS;go_wp2_with fail;refine cs.mono ?_;rintro e w4 hp;obtain ⟨ta,tc,rfl,hT,hb4⟩:=scan_open hp;have HB4:Hid (Bel w w4):=Jd HB3.out hb4;have HN4:=Lib.hid (row_keep HN3.out hb4);have HY4:=Lib.hid (HY3.out.up hb4);have HT:=Lib.hid hT;clear hb4 hp cs hT HN3 HY3 HB3;go_upto_region 6 with fail
 rcases scanR_cases l with ⟨ts,h1,h2,h3⟩ | ⟨h1,h2⟩
 case inr=>
  rw[HS.out] at h1 h2;have hm:=parseM_scan (l:=l) (by rw[HS.out]; exact h1);rw[HS.out,HX.out] at hm;simp only[Prod.mk.injEq] at hm;obtain ⟨rfl,rfl,rfl⟩:=hm;have qf:(er==(0:Int))=false:=beq_eq_false_iff_ne.2 h1;clear h1 h2 HX HS HT;have cs:=Jaf (w0:=w4) noRule noRule _ #[.slice none 0 0,.slice none 0 0,.int .i64 0] w4 noRule_sz HY4.out (JdP _ _) (Below.refl _ _);rw[(JcZ noRule noRule).2 rfl] at cs;obtain ⟨r0,r1,r2⟩:=wthree HN4.out;go_wp2_with fail;refine cs.mono ?_;rintro e w5 ⟨rfl,hb5⟩;have HF:Hid (Bel w w5):=Jd HB4.out hb5;clear cs hb5 r0 r1 r2;go_wp2;go_ret;exact ⟨rfl,HF.out⟩
 rw[HS.out] at h2;simp only[Prod.mk.injEq] at h2;obtain ⟨rfl,rfl,rfl⟩:=h2;have HS1:=Lib.hid h1;clear h1 h3
 by_cases e0:er=0
 case neg=>
  have hbad:=parseM_bad HS1.out HS.out (by rw[HX.out]; exact e0);rw[HX.out] at hbad;obtain ⟨hr,ho⟩:=hbad;have hr:r=noRule:=hr;subst hr;have HO:=Lib.hid ho;have qe:(er==(0:Int))=false:=beq_eq_false_iff_ne.2 e0;clear ho e0;go_upto_region 10 with fail;clear qe;have hnl:T.length≤4097:=(Jgq HS.out).2.1;obtain ⟨n,hn⟩:∃ n,T.length=n:=⟨_,rfl⟩
  rw[hn] at hnl ⊢;have HN:=Lib.hid hn;clear hn;go_wp2;go_loopw [10,11] (fun v10 v11 wr=>∃ k:Nat,k≤n∧v11=.int .i64 k∧v10=.bool (anyO T ad k)∧w4=wr) (fun _ v11 _=>n-(intOf v11).toNat)
  case atStart=>exact ⟨0,by omega,rfl,rfl,rfl⟩
  case round=>
   obtain ⟨k,hk,rfl,rfl,rfl⟩:=hrel
   by_cases hlt:k<n
   ·obtain ⟨t,ht⟩:∃ t,T[k]?=some t:=⟨_,List.getElem?_eq_getElem (by have:=HN.out; omega)⟩
    obtain ⟨g,o,rfl,hg,a0,a1,a2,a3⟩:=HT.out k t ht;have HA:=Lib.hid (anyO_step (o:=ad) ht);obtain ⟨tk,tt,tn,tof⟩:=t;obtain ⟨q,hq⟩:∃ q,anyO T ad k=q:=⟨_,rfl⟩
    obtain ⟨p,hp⟩:∃ p,(tof==ad)=p:=⟨_,rfl⟩
    have HQ:=Lib.hid hq;have HP:=Lib.hid hp;rw[hq];clear hq ht
    cases q with
    | true=>
     clear hp;go_wp2;go_roundw
     case rel=>exact ⟨k+1,by omega,by go_num,by rw[HA.out,HQ.out]; rfl,by first | rfl | trivial⟩
     case measure=>simp[intOf]; omega
    | false=>
     go_wp2;go_roundw
     case rel=>exact ⟨k+1,by omega,by go_num,by rw[HA.out,HQ.out]; dsimp only; rw[HP.out]; cases p <;> rfl,by first | rfl | trivial⟩
     case measure=>simp[intOf]; omega
   ·have hkn:k=n:=by omega
    subst hkn;have qa:=anyO_full HO.out HN.out.symm;rw[qa];clear qa;have cs:=Jaf (w0:=w4) noRule noRule _ #[.slice none 0 0,.slice none 0 0,.int .i64 0] w4 noRule_sz HY4.out (JdP _ _) (Below.refl _ _);rw[(JcZ noRule noRule).2 rfl] at cs;obtain ⟨r0,r1,r2⟩:=wthree HN4.out;go_wp2_with fail;refine cs.mono ?_;rintro e w5 ⟨rfl,hb5⟩;have HF:Hid (Bel w w5):=Jd HB4.out hb5;clear cs hb5 r0 r1 r2;go_wp2;go_ret;exact ⟨rfl,HF.out⟩
 subst e0;have HALL:=Lib.hid (parseM_all (l:=l) (by rw[HX.out]));rw[Hid,HX.out] at HALL;replace HALL:Hid (rightM r=true∧RSz r∧RSm r):=HALL;have HWF:=Lib.hid (scan_wf HS1.out);have htl:T.length≤4097:=(Jgq HS.out).2.1;have HTL:=Lib.hid htl;clear htl;go_upto_region 15 with fail;have hwl:=writeL_len T HWF.out;have cw:=lwrite_any ta T.length tc T w4 HT.out rfl (by have:=HTL.out; omega) (fun t ht=>⟨(HWF.out t ht).1,Nat.le_trans (HWF.out t ht).2 (by decide)⟩) (HL.out.below HB4.out) (by have:=HTL.out; omega);obtain ⟨S,hSS⟩:∃ S,writeL T=S:=⟨_,rfl⟩
 rw[hSS] at cw hwl;have HSS:=Lib.hid hSS;have HSL:Hid (S.length≤4097*60):=Nat.le_trans hwl (Nat.mul_le_mul_right _ HTL.out);clear hSS hwl;go_wp2_with fail;refine cw.mono ?_;rintro e w5 ⟨rfl,hb5⟩;have HB5:Hid (Bel w w5):=Jd HB4.out hb5;have HN5:=Lib.hid (row_keep HN4.out hb5);have HY5:=Lib.hid (HY4.out.up hb5);clear cw hb5 HT HB4 HN4 HY4 HWF;go_upto_region 16 with fail;have uS:=JF S;have cp:=parse_any' S w5 (by have:=HSL.out; omega) (HL.out.below HB5.out);obtain ⟨q,eq,aq,hQ⟩:∃ q eq aq,parseM S=(q,eq,aq):=⟨_,_,_,rfl⟩
 rw[hQ] at cp;have HQ:=Lib.hid hQ;clear hQ;go_wp2_with fail;refine cp.mono ?_;rintro e w6 hp;obtain ⟨c6,rfl,hx6,hb6⟩:=hp.inw;obtain ⟨ha,hc,ia,ic,rfl,_,_⟩:=hx6.parts;have hq6:Below w6.heap.size w6 (w6.alloc (.cells #[.slice ha q.funcs.length hc,.slice ia q.clauses.length ic,.int .i64 q.action] 25)):=(Below.refl _ _).alloc (Nat.le_refl _) _;have HB6:Hid (Bel w (w6.alloc (.cells #[.slice ha q.funcs.length hc,.slice ia q.clauses.length ic,.int .i64 q.action] 25))):=Jd HB5.out (Jd hb6 hq6);have HN6:=Lib.hid (heap_alloc_new w6 (.cells #[.slice ha q.funcs.length hc,.slice ia q.clauses.length ic,.int .i64 q.action] 25));have HY6:=Lib.hid (hx6.up hq6);have HR6:=Lib.hid (row_keep HN5.out (Jd hb6 hq6));have HZ6:=Lib.hid (HY5.out.up (Jd hb6 hq6));clear hx6 hb6 hq6 cp hp HB5 HN5 HY5;go_upto_region 17 with fail;generalize World.alloc w6 _=v6 at *;generalize w6.heap.size=k6 at *;obtain ⟨r0,r1,r2⟩:=wthree HR6.out;have cw:=Zz r _ v6 HZ6.out HALL.out.2.1 (HL.out.below HB6.out) HALL.out.2.2.len;obtain ⟨U,hU⟩:∃ U,writeM r=U:=⟨_,rfl⟩
 have hul:U.length≤140737488355328:=by rw[← hU,KQ HALL.out.1]; exact HALL.out.2.2.len HALL.out.1
 rw[hU] at cw;have HU:=Lib.hid hU;have HUL:=Lib.hid hul;clear hU hul;go_wp2_with fail;refine cw.mono ?_;rintro e w7 ⟨rfl,hb7⟩;have HB7:Hid (Bel w w7):=Jd HB6.out hb7;have HR7:=Lib.hid (row_keep HR6.out hb7);have HZ7:=Lib.hid (HZ6.out.up hb7);have HN7:=Lib.hid (row_keep HN6.out hb7);have HY7:=Lib.hid (HY6.out.up hb7);clear cw hb7 r0 r1 r2 HB6 HR6 HZ6 HN6 HY6;go_upto_region 18 with fail;have uU:=JF U;have cp:=parse_any' U w7 (by have:=HUL.out; omega) (HL.out.below HB7.out);obtain ⟨x,ex,ax,hXX⟩:∃ x ex ax,parseM U=(x,ex,ax):=⟨_,_,_,rfl⟩
 rw[hXX] at cp;have HXX:=Lib.hid hXX;clear hXX;go_wp2_with fail;refine cp.mono ?_;rintro e w8 hp;obtain ⟨c8,rfl,hx8,hb8⟩:=hp.inw;obtain ⟨ja,jc,ka,kc,rfl,_,_⟩:=hx8.parts;have hq8:Below w8.heap.size w8 (w8.alloc (.cells #[.slice ja x.funcs.length jc,.slice ka x.clauses.length kc,.int .i64 x.action] 25)):=(Below.refl _ _).alloc (Nat.le_refl _) _;have HB8:Hid (Bel w (w8.alloc (.cells #[.slice ja x.funcs.length jc,.slice ka x.clauses.length kc,.int .i64 x.action] 25))):=Jd HB7.out (Jd hb8 hq8);have HN8:=Lib.hid (heap_alloc_new w8 (.cells #[.slice ja x.funcs.length jc,.slice ka x.clauses.length kc,.int .i64 x.action] 25));have HY8:=Lib.hid (hx8.up hq8);have HR8:=Lib.hid (row_keep HR7.out (Jd hb8 hq8));have HZ8:=Lib.hid (HZ7.out.up (Jd hb8 hq8));have HM8:=Lib.hid (row_keep HN7.out (Jd hb8 hq8));have HQ8:=Lib.hid (HY7.out.up (Jd hb8 hq8));clear hx8 hb8 hq8 cp hp HB7 HR7 HZ7 HN7 HY7;go_upto_region 19 with fail;generalize World.alloc w8 _=v8 at *;generalize w8.heap.size=k8 at *;obtain ⟨r0,r1,r2⟩:=wthree HR8.out;have cr:=Zu r _ v8 HZ8.out HALL.out.2.1;rw[HALL.out.1] at cr;go_wp2_with fail;refine cr.mono ?_;rintro e w9 ⟨rfl,hb9⟩;have HB9:Hid (Bel w w9):=Jd HB8.out hb9;have HR9:=Lib.hid (row_keep HR8.out hb9);have HZ9:=Lib.hid (HZ8.out.up hb9);have HM9:=Lib.hid (row_keep HM8.out hb9);have HQ9:=Lib.hid (HQ8.out.up hb9);have HN9:=Lib.hid (row_keep HN8.out hb9);have HY9:=Lib.hid (HY8.out.up hb9);clear cr hb9 r0 r1 r2 HB8 HR8 HZ8 HM8 HQ8 HN8 HY8
 have hsm:¬ 4096<S.length→r=q∧eq=0:=fun h=>by
  have h9:=parseM_again HS1.out HS.out (by rw[HX.out]) (by rw[HSS.out]; omega);rw[HSS.out,HQ.out,HX.out] at h9;simp only[Prod.mk.injEq] at h9;exact ⟨h9.1.symm,h9.2.1⟩
 have hum:¬ 4096<U.length→r=x∧ex=0:=fun h=>by
  have h9:=Zm HALL.out.1 HALL.out.2.2.few (by rw[HU.out]; omega);rw[HU.out,HXX.out] at h9;simp only[Prod.mk.injEq] at h9;exact ⟨h9.1.symm,h9.2.1⟩
 have HSM:=Lib.hid hsm;have HUM:=Lib.hid hum;clear hsm hum
 by_cases e4:4096<S.length
 ·have q4:decide ((S.length:Int)>4096)=true:=decide_eq_true (by omega);clear e4
  by_cases e5:4096<U.length
  ·have q5:decide ((U.length:Int)>4096)=true:=decide_eq_true (by omega);clear e5;go_wp2;go_ret;exact ⟨rfl,HB9.out⟩
  ·have q5:decide ((U.length:Int)>4096)=false:=decide_eq_false (by omega);obtain ⟨rfl,rfl⟩:=HUM.out e5;clear e5;obtain ⟨r0,r1,r2⟩:=wthree HR9.out;obtain ⟨y0,y1,y2⟩:=wthree HN9.out;have cs:=Jaf (w0:=w9) r r _ _ w9 HALL.out.2.1 HY9.out HZ9.out (Below.refl _ _);rw[(JcZ r r).2 rfl] at cs;go_wp2_with fail;refine cs.mono ?_;rintro e w10 ⟨rfl,hb10⟩;have HB10:Hid (Bel w w10):=Jd HB9.out hb10;have HR10:=Lib.hid (row_keep HR9.out hb10);have HZ10:=Lib.hid (HZ9.out.up hb10);have HN10:=Lib.hid (row_keep HN9.out hb10);have HY10:=Lib.hid (HY9.out.up hb10);clear cs hb10 r0 r1 r2 y0 y1 y2 HB9 HR9 HZ9 HN9 HY9;go_wp2;go_ret;exact ⟨rfl,HB10.out⟩
 ·have q4:decide ((S.length:Int)>4096)=false:=decide_eq_false (by omega);obtain ⟨rfl,rfl⟩:=HSM.out e4;clear e4;obtain ⟨r0,r1,r2⟩:=wthree HR9.out;obtain ⟨y0,y1,y2⟩:=wthree HM9.out;have cs:=Jaf (w0:=w9) r r _ _ w9 HALL.out.2.1 HQ9.out HZ9.out (Below.refl _ _);rw[(JcZ r r).2 rfl] at cs;go_wp2_with fail;refine cs.mono ?_;rintro e w10 ⟨rfl,hb10⟩;have HB10:Hid (Bel w w10):=Jd HB9.out hb10;have HR10:=Lib.hid (row_keep HR9.out hb10);have HZ10:=Lib.hid (HZ9.out.up hb10);have HN10:=Lib.hid (row_keep HN9.out hb10);have HY10:=Lib.hid (HY9.out.up hb10);clear cs hb10 r0 r1 r2 y0 y1 y2 HB9 HR9 HZ9 HN9 HY9
  by_cases e5:4096<U.length
  ·have q5:decide ((U.length:Int)>4096)=true:=decide_eq_true (by omega);clear e5;go_wp2;go_ret;exact ⟨rfl,HB10.out⟩
  ·have q5:decide ((U.length:Int)>4096)=false:=decide_eq_false (by omega);obtain ⟨rfl,rfl⟩:=HUM.out e5;clear e5;obtain ⟨r0,r1,r2⟩:=wthree HR10.out;obtain ⟨y0,y1,y2⟩:=wthree HN10.out;have cs:=Jaf (w0:=w10) r r _ _ w10 HALL.out.2.1 HY10.out HZ10.out (Below.refl _ _);rw[(JcZ r r).2 rfl] at cs;go_wp2_with fail;refine cs.mono ?_;rintro e w11 ⟨rfl,hb11⟩;have HB11:Hid (Bel w w11):=Jd HB10.out hb11;have HR11:=Lib.hid (row_keep HR10.out hb11);have HZ11:=Lib.hid (HZ10.out.up hb11);have HN11:=Lib.hid (row_keep HN10.out hb11);have HY11:=Lib.hid (HY10.out.up hb11);clear cs hb11 r0 r1 r2 y0 y1 y2 HB10 HR10 HZ10 HN10 HY10;go_wp2;go_ret;exact ⟨rfl,HB11.out⟩
end Go.Proofs.YtdlkcjkjnehnkaaGreatDoor
