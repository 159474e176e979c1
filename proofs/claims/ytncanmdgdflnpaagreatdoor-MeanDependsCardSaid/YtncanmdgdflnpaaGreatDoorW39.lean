
import Derived.Test.YtncanmdgdflnpaaGreatDoorW38
namespace Go.Proofs.YtncanmdgdflnpaaGreatDoor
open Go.ChangeShapes Go.WideShapes Go.ChangeAt Go.RowKit Go.Lib
open _root_.Go.Proofs.Tryz
set_option linter.all false
set_option maxRecDepth 100000
set_option maxHeartbeats 32000000
def kpW (r:RuleM) (F G:FactsM) (i:Nat):=sortM (fun s=>s) [] (keptM (fun c=>mentM r 5 ((fun s=>s) c)) F.words G.words i)
theorem JhZ (r:RuleM) {F G:FactsM} {i:Nat} {x} (h:(F.words++G.words)[i]?=some x):kpW r F G (i+1)=if mentM r 5 ((fun s=>s) x)=decide (i<F.words.length) then insM (fun s=>s) x (kpW r F G i) else kpW r F G i:=by
 unfold kpW;rw[ZN _ h];split
 ·rw[V8]
 ·rw[List.append_nil]
theorem Jik (r:RuleM) (F G:FactsM) (i:Nat):(kpW r F G i).length≤F.words.length+G.words.length:=by
 unfold kpW keptM;exact wx71
theorem Jgt (r:RuleM) (F G:FactsM):kpW r F G (F.words.length+G.words.length)=wordsM r F G:=by
 unfold kpW;rw[JbB _ _ _ zzl];rfl
theorem wx25 {P:Prop}(h:P:=by
  try simp only[Act.put,ZA,ZB,ZC]
  refine wpAnyH_done (by kernel_rfl) ?_ _
  have HN3:Hid (SBD gW 9 1 w6 (kpW r F G (i+1)) v7 w7):=by
   rw[HST.out,HPUT.out];have e1:T1.flatMap gW++[xs].flatMap gW++T2.flatMap gW=(T1++xs::T2).flatMap gW:=by simp
   have e2:p+1+m2=(T1++xs::T2).length:=by rw[List.length_append,List.length_cons,HL1.out,HL2.out]; omega
   exact wx134
  clear HA HB HPUT HST hH;go_wp2;go_roundw
  case rel=>exact ⟨i+1,by go_num,hin,HN3⟩
  case measure=>simp[intOf]; omega):P:=h
theorem Jgu (r:RuleM) (c:Array Value) (F G:FactsM) (la wa la2 wa2:Option Addr) (lc wcp lc2 wcp2:Nat) (w:World) (hx:RuleX w (In w) r c) (hz:RSz r) (hF:F.words.length≤100) (hG:G.words.length≤100) (hlab:LabsAt w (.slice la F.labels.length lc) F.labels) (hwd:WordsAt w (.slice wa F.words.length wcp) F.words) (hlab2:LabsAt w (.slice la2 G.labels.length lc2) G.labels) (hwd2:WordsAt w (.slice wa2 G.words.length wcp2) G.words) :
  Calls prog 18 #[.agg c,.agg (factsC F (.slice la F.labels.length lc) (.slice wa F.words.length wcp)),.agg (factsC G (.slice la2 G.labels.length lc2) (.slice wa2 G.words.length wcp2))] w (RowP RWrd w (wordsM r F G)):=by
 obtain ⟨hb1,hz0,hz1,hz2⟩:=boxes3 w (.cells c 30) (.cells (factsC F (.slice la F.labels.length lc) (.slice wa F.words.length wcp)) 25) (.cells (factsC G (.slice la2 G.labels.length lc2) (.slice wa2 G.words.length wcp2)) 25);have HR1:=Zh (RuleV.of hz0 (hx.up hb1));have HF1:=Zh (FactsV.of hz1 (hlab.up hb1) (hwd.up hb1));have HG1:=Zh (FactsV.of hz2 (hlab2.up hb1) (hwd2.up hb1));have HB1:=Zh (show Bel w _ from hb1);have HZ:=Zh hz;obtain ⟨fa,fc,ga,gc,rfl⟩:=hx.form;obtain ⟨RP,hRP⟩:∃ P:Ending→World→Prop,(RowP RWrd w (wordsM r F G))=P:=⟨_,rfl⟩
 rw[hRP];have HRP:=Zh hRP;obtain ⟨nn,hnn⟩:∃ n,F.words.length+G.words.length=n:=⟨_,rfl⟩
 have HN:=Zh (And.intro hF (And.intro hG hnn));clear hb1 hz0 hz1 hz2 hx hz hlab hwd hlab2 hwd2 hRP hnn hF hG;unfold factsC at HR1 HF1 HG1 HB1 ⊢;go_enter func18,ntmps18;go_upto_region 2 with fail;generalize World.alloc (World.alloc (World.alloc w _) _) _=w1 at *;generalize w.heap.size+1+1=gb at *;generalize w.heap.size+1=fb at *;generalize w.heap.size=rb at *;have HSF:Hid (∀ W,Below w1.heap.size w1 W→F.words=[]∨SInD gW W wa F.words):=fun W hW=>SInD.slice (fun _ _ h=>h) (HF1.out W hW).2.2
 have HSG:Hid (∀ W,Below w1.heap.size w1 W→G.words=[]∨SInD gW W wa2 G.words):=fun W hW=>SInD.slice (fun _ _ h=>h) (HG1.out W hW).2.2
 have HFC:Hid (∀ W,Below w1.heap.size w1 W→W.cell? ⟨fb,11,none⟩=some (.slice wa F.words.length wcp)):=fun W hW=>by
  obtain ⟨⟨q0,q1,q2,q3,q4,q5,q6,q7,q8,q9,q10,q11⟩,_⟩:=HF1.out W hW;exact q11
 have FF:Hid (∀ W,Below w1.heap.size w1 W→W.cell? ⟨fb,11,none⟩=some (.slice wa F.words.length wcp)∧W.cell? ⟨gb,11,none⟩=some (.slice wa2 G.words.length wcp2)):=fun W hW=>by
  obtain ⟨⟨q0,q1,q2,q3,q4,q5,q6,q7,q8,q9,q10,q11⟩,_⟩:=HG1.out W hW;exact ⟨HFC.out W hW,q11⟩
 have HB:=Zh (Below.refl w1.heap.size w1).drew;clear HF1 HG1;refine wp_region_held_drew (S:=(fun W=>Below w1.heap.size w1 W∧W.cell? ⟨fb,11,none⟩=some (.slice wa F.words.length wcp)∧W.cell? ⟨gb,11,none⟩=some (.slice wa2 G.words.length wcp2))) (by kernel_rfl) (⟨HB.out,FF.out _ HB.out⟩) (fun hH=>?_);refine ZT (i:=1) (v:=?vT1_1) rfl (Or.inl ⟨by rfl,?yT1_1⟩) ?_
 case yT1_1=>exact ZyQ
 try simp only[Act.put,ZA,ZB,ZC]
 refine ZT (i:=2) (v:=?vT1_2) rfl (Or.inl ⟨by rfl,?yT1_2⟩) ?_
 case yT1_2=>exact ZyQ
 try simp only[Act.put,ZA,ZB,ZC]
 refine ZT (i:=4) (v:=?vT1_4) rfl (Or.inl ⟨by rfl,?yT1_4⟩) ?_
 case yT1_4=>exact ZyQ
 try simp only[Act.put,ZA,ZB,ZC]
 refine ZT (i:=5) (v:=?vT1_5) rfl (Or.inl ⟨by rfl,?yT1_5⟩) ?_
 case yT1_5=>exact ZyQ
 try simp only[Act.put,ZA,ZB,ZC]
 refine ZS 0 rfl (fun K hK=>?_);go_simp;have HA:=Zh (Kw (Vj w1.drew 9 1) HB.out.size);replace HB:=Zh (HB.out.alloc HB.out.size (.cells #[] 9));refine hK.out _ _ (⟨HB.out,FF.out _ HB.out⟩) (fun hH=>?_);clear hK K
 try simp only[Act.put,ZA,ZB,ZC]
 refine ZS 3 rfl (fun K hK=>?_);rw[if_pos (by rfl)];refine Jr elW KG Vb _ _ rfl w1.heap.size (.slice (some ⟨w1.heap.size,0,none⟩) 0 0) 0 [] rfl HA.out wa wcp F.words.length F.words rfl (HSF.out _ HB.out) rfl (by have:=HN.out.1; omega) HB.out.size ?_;intro v4 w4 hown hbw hgw
 (try simp only[Nat.zero_add,List.nil_append] at hown)
 replace HB:=Zh (HB.out.trans hbw);replace HA:=Zh hown;clear hown hbw hgw;obtain ⟨a4,c4,hv4⟩:=JB HA.out;subst hv4;refine hK.out _ _ (⟨HB.out,FF.out _ HB.out⟩) (fun hH=>?_);clear hK K
 try simp only[Act.put,ZA,ZB,ZC]
 refine ZS 6 rfl (fun K hK=>?_);rw[if_pos (by rfl)];refine Jr elW KG Vb _ _ rfl w1.heap.size _ F.words.length _ rfl HA.out wa2 wcp2 G.words.length G.words rfl (HSG.out _ HB.out) rfl (by have:=HN.out.1; have:=HN.out.2.1; omega) HB.out.size ?_;intro v6 w6 hown hbw hgw
 (try simp only[Nat.zero_add,List.nil_append] at hown)
 replace HB:=Zh (HB.out.trans hbw);have HAL:Hid (w6.ownsRow w1.heap.size 9 1 v6 nn ((F.words++G.words).flatMap gW)):=by rw[Hid,List.flatMap_append,← HN.out.2.2]; exact hown
 clear hown hbw hgw HA;obtain ⟨a6,c6,hv6⟩:=JB HAL.out;subst hv6;refine hK.out _ _ (⟨HB.out,FF.out _ HB.out⟩) (fun hH=>?_);clear hK K
 try simp only[Act.put,ZA,ZB,ZC]
 refine ZT (i:=7) (v:=?vT4_7) rfl (Or.inl ⟨by rfl,?yT4_7⟩) ?_
 case yT4_7=>exact ZyQ
 try simp only[Act.put,ZA,ZB,ZC]
 refine wpAnyH_done (by kernel_rfl) ?_ _;have HB6:=HB;clear HB FF HSF HSG hH;have HBW6:Hid (Bel w w6):=Je HB1.out HB6.out;go_wp2_with fail;go_loopw [7,9] (fun v7 v9 wr=>∃ i:Nat,v9=.int .i64 i∧i≤nn∧Hid (SBD gW 9 1 w6 (kpW r F G i) v7 wr)) (fun _ v _=>nn-(intOf v).toNat)
 case atStart=>exact ⟨0,rfl,Nat.zero_le _,(by unfold kpW; rw[ZM]; exact ⟨⟨by simp[sortM],.inl ⟨rfl,rfl⟩⟩,Below.refl _ _⟩:SBD gW 9 1 w6 (kpW r F G 0) (.slice none 0 0) w6)⟩
 case round=>
 obtain ⟨i,rfl,hi,hz⟩:=hrel;obtain ⟨wo,rfl⟩:∃ wo:World,wo=wr:=⟨_,rfl⟩
 obtain ⟨R,hR⟩:∃ R,kpW r F G i=R:=⟨_,rfl⟩
 have hRl:R.length≤200:=by
  have:=Jik r F G i;rw[hR] at this;have:=HN.out.1;have:=HN.out.2.1;omega
 have hzz:=hz.out;rw[hR] at hzz;unfold SBD at hzz;obtain ⟨rn,hrn⟩:∃ n,R.length=n:=⟨_,rfl⟩
 rw[hrn] at hzz hRl;obtain ⟨va,vc,hva⟩:=JB hzz.1;rw[hva] at hzz;subst hva;have HBO:=Zh hzz.2;have HZO:=Zh hzz.1;have HRN:=Zh hrn;have HI:=Zh hRl;clear hz hzz hrn hRl
 by_cases hin:i<nn
 ·have di:decide ((i:Int)<(nn:Int))=true:=decide_eq_true (by omega);have diN:decide (i<nn)=true:=decide_eq_true hin;have bi:(i:Int)<(nn:Int):=by omega
  have wi:IntKind.i64.wrap ((i:Int)+1)=(i:Int)+1:=IntWalk.i64_in _ (by have:=HN.out; omega);obtain ⟨xs,hxi⟩:∃ c,(F.words++G.words)[i]?=some c:=⟨_,List.getElem?_eq_getElem (by rw[List.length_append,HN.out.2.2]; exact hin)⟩
  rcases VR HAL.out with ⟨_,_,h0⟩ | ⟨ab,rfl,hcap,hbb,hcell⟩
  ·omega
  have FX:Hid (∀ W,Below w6.heap.size w6 W→W.cell? ⟨ab,i,none⟩=some (.string (bs xs))):=by
   intro W hW
   have hc:∀ j u,(gW xs)[j]?=some u→W.cell? ⟨ab,i*1+j,none⟩=some u:=fun j u hu=>by
    have h:=hcell _ u (Zb (g:=gW) (sz:=1) KG hxi hu);exact (hW.cell (World.block_lt_of_cell? w6 _ h)).trans h
   have h:=hc 0 _ rfl; simpa using h
  obtain ⟨m,hm⟩:∃ m,mentM r 5 xs=m:=⟨_,rfl⟩
  obtain ⟨bF,hbF⟩:∃ b,decide ((i:Int)<(F.words.length:Int))=b:=⟨_,rfl⟩
  have hbFN:decide (i<F.words.length)=bF:=by rw[← hbF]; exact decide_eq_decide.2 (by omega)
  obtain ⟨q,hq⟩:∃ q,(m !=bF)=q:=⟨_,rfl⟩
  have hqe:(!(m==bF))=q:=hq
  have HST0:Hid (kpW r F G (i+1)=if q=true then R else insM (fun s=>s) xs R):=by
   have h:=JhZ r hxi;exact wx141
  obtain ⟨ra,rc,ka,kc,hrv⟩:=HR1.out;have hwo:∀ W,Below wo.heap.size wo W→Below w1.heap.size w1 W:=fun W hW=>Je (Je HB6.out HBO.out) hW
  have CM:Hid (∀ W,Below wo.heap.size wo W→Calls prog 20 #[.agg #[.slice ra r.funcs.length rc,.slice ka r.clauses.length kc,.int .i64 r.action],.int .i64 5,.string (bs xs)] W (BelP W (.bool m))):=fun W hW=>by
   have h:=Km r _ 5 xs W (RuleX.keep (fun _ _=>rfl) (fun q hq=>Nat.lt_of_lt_of_le hq (hwo W hW).size) (hrv W (hwo W hW)).2) HZ.out;rw[hm] at h;exact h
  have FF:Hid (∀ W,Below wo.heap.size wo W→(W.cell? ⟨rb,0,none⟩=some (.slice ra r.funcs.length rc)∧W.cell? ⟨rb,1,none⟩=some (.slice ka r.clauses.length kc)∧W.cell? ⟨rb,2,none⟩=some (.int .i64 r.action)∧W.cell? ⟨fb,11,none⟩=some (.slice wa F.words.length wcp)∧W.cell? ⟨ab,i,none⟩=some (.string (bs xs)))):=fun W hW=>by
   exact wx117
  have HIN:=Zh hin;clear hxi hcap hbb hcell hm hq hR hrv hwo;go_upto_region 6 with fail;have HB:=Zh (Below.refl wo.heap.size wo).drew;refine wp_region_held_drew (S:=(fun W=>Below wo.heap.size wo W∧(W.cell? ⟨rb,0,none⟩=some (.slice ra r.funcs.length rc)∧W.cell? ⟨rb,1,none⟩=some (.slice ka r.clauses.length kc)∧W.cell? ⟨rb,2,none⟩=some (.int .i64 r.action)∧W.cell? ⟨fb,11,none⟩=some (.slice wa F.words.length wcp)∧W.cell? ⟨ab,i,none⟩=some (.string (bs xs))))) (by kernel_rfl) (⟨HB.out,FF.out _ HB.out⟩) (fun hH=>?_);refine ZT (i:=0) (v:=?vT5_0) rfl (Or.inl ⟨by rfl,?yT5_0⟩) ?_
  case yT5_0=>exact ZyQ
  try simp only[Act.put,ZA,ZB,ZC]
  refine ZT (i:=1) (v:=?vT5_1) rfl (Or.inl ⟨by rfl,?yT5_1⟩) ?_
  case yT5_1=>exact ZyQ
  try simp only[Act.put,ZA,ZB,ZC]
  refine ZT (i:=2) (v:=?vT5_2) rfl (Or.inl ⟨by rfl,?yT5_2⟩) ?_
  case yT5_2=>exact ZyQ
  try simp only[Act.put,ZA,ZB,ZC]
  refine ZT (i:=3) (v:=?vT5_3) rfl (Or.inl ⟨by rfl,?yT5_3⟩) ?_
  case yT5_3=>exact ZyQ
  try simp only[Act.put,ZA,ZB,ZC]
  refine ZT (i:=4) (v:=?vT5_4) rfl (Or.inl ⟨by rfl,?yT5_4⟩) ?_
  case yT5_4=>exact ZyQ
  try simp only[Act.put,ZA,ZB,ZC]
  refine ZT (i:=6) (v:=?vT5_6) rfl (Or.inl ⟨by rfl,?yT5_6⟩) ?_
  case yT5_6=>exact ZyQ
  try simp only[Act.put,ZA,ZB,ZC]
  refine ZT (i:=7) (v:=?vT5_7) rfl (Or.inl ⟨by rfl,?yT5_7⟩) ?_
  case yT5_7=>exact ZyQ
  try simp only[Act.put,ZA,ZB,ZC]
  refine ZT (i:=8) (v:=?vT5_8) rfl (Or.inl ⟨by rfl,?yT5_8⟩) ?_
  case yT5_8=>exact ZyQ
  try simp only[Act.put,ZA,ZB,ZC]
  refine ZT (i:=9) (v:=?vT5_9) rfl (Or.inl ⟨by rfl,?yT5_9⟩) ?_
  case yT5_9=>exact ZyQ
  try simp only[Act.put,ZA,ZB,ZC]
  refine ZT (i:=10) (v:=?vT5_10) rfl (Or.inl ⟨by rfl,?yT5_10⟩) ?_
  case yT5_10=>exact ZyQ
  try simp only[Act.put,ZA,ZB,ZC]
  refine ZS 5 rfl (fun K hK=>?_)
  (go_simp; go_at_call 20; refine (CM.out _ HB.out).mono ?_; rintro e wd ⟨rfl,hbc⟩)
  replace HB:=Zh (HB.out.trans (hbc.mono HB.out.size));clear hbc;refine hK.out _ _ (⟨HB.out,FF.out _ HB.out⟩) (fun hH=>?_);clear hK K
  try simp only[Act.put,ZA,ZB,ZC]
  refine ZT (i:=11) (v:=?vT6_11) rfl (Or.inl ⟨by rfl,?yT6_11⟩) ?_
  case yT6_11=>exact ZyQ
  try simp only[Act.put,ZA,ZB,ZC]
  refine wpAnyH_done (by kernel_rfl) ?_ _
  cases q with
  | true=>
   have HN3:Hid (SBD gW 9 1 w6 (kpW r F G (i+1)) (.slice va rn vc) wd):=by
    exact wx124
   exact wx114
  | false=>
  have HST:Hid (kpW r F G (i+1)=insM (fun s=>s) xs R):=HST0.out;have HBD:Hid (Below w6.heap.size w6 wd):=HBO.out.trans (HB.out.mono HBO.out.size);have HZD:=Zh (JZ HZO.out HB.out);clear HST0 hH HB FF CM HZO HBO hbF hbFN hqe;go_wp2_with fail;go_loopw [10] (fun v10 wq=>∃ p:Nat,v10=.int .i64 p∧p≤rn∧Hid (posM (fun s=>s) xs R p=posM (fun s=>s) xs R rn∧Below wd.heap.size wd wq)) (fun v _=>(intOf v).toNat)
  case atStart=>exact ⟨rn,rfl,Nat.le_refl _,rfl,Below.refl _ _⟩
  case round=>
  obtain ⟨p,rfl,hp,hz⟩:=hrel;obtain ⟨wq,rfl⟩:∃ wq:World,wq=wr:=⟨_,rfl⟩
  have HPS:=Zh hz.out.1;have HBQ:=Zh hz.out.2;have HB6Q:Hid (Below w6.heap.size w6 wq):=HBD.out.trans (HBQ.out.mono HBD.out.size);clear hz
  obtain ⟨q,hq⟩:∃ q:Bool,(p=0→q=false)∧(∀ c,R[p-1]?=some c→p≠0→q=ltB xs ((fun s=>s) c)):=by
   by_cases h0:p=0
   ·exact ⟨false,fun _=>rfl,fun _ _ h=>absurd h0 h⟩
   ·obtain ⟨c,hc⟩:∃ c,R[p-1]?=some c:=⟨_,List.getElem?_eq_getElem (by have:=HRN.out; omega)⟩
    exact ⟨ltB xs ((fun s=>s) c),fun h=>absurd h h0,fun c' hc' _=>by rw[hc] at hc'; rw[Option.some.inj hc']⟩
  have HQ:=Zh hq;clear hq;go_upto_region 8 with fail;go_cut [51] (fun v wx=>v=.bool q∧Below wq.heap.size wq wx)
  case first=>
   by_cases h0:p=0
   ·have hq0:=HQ.out.1 h0;subst h0;subst hq0;go_region;go_wp2;go_meet;exact ⟨rfl,zzb.drew⟩
   ·have dp:decide (0<(p:Int))=true:=decide_eq_true (by omega);have dpN:decide (0<p)=true:=decide_eq_true (by omega);have wm:IntKind.i64.wrap ((p:Int)-1)=(p:Int)-1:=IntWalk.i64_in _ (by have:=HI.out; omega);have wm2:((p:Int)-1).toNat=p-1:=by omega
    have wm3:(0:Int)≤(p:Int)-1:=by omega
    have wm4:(1:Int)≤(p:Int):=by omega
    have wm4N:1≤p:=by omega
    have wm5:(p:Int)-1<(rn:Int):=by omega
    obtain ⟨ys,hy⟩:∃ c,R[p-1]?=some c:=⟨_,List.getElem?_eq_getElem (by have:=HRN.out; omega)⟩
    have hqq:=HQ.out.2 _ hy h0
    (try dsimp only at hqq)
    rcases VR (JZ HZD.out HBQ.out) with ⟨_,_,h9⟩ | ⟨bo,rfl,hcapo,_,hcello⟩
    ·omega
    have hcy:∀ j u,(gW ys)[j]?=some u→wq.cell? ⟨bo,(p-1)*1+j,none⟩=some u:=fun j u hu=>hcello _ u (Zb (g:=gW) (sz:=1) KG hy hu)
    have y0:wq.cell? ⟨bo,p-1,none⟩=some (.string (bs ys)):=by have h:=hcy 0 _ rfl; simpa using h
    have x0:=(FX.out wq HB6Q.out)
    exact wx49
  case rest=>
  obtain ⟨rfl,hb6⟩:=hcut
  cases q with
  | true=>
   have h0:p≠0:=by intro e; have:=HQ.out.1 e; cases this
   have wa1:IntKind.i64.wrap ((p:Int)-1)=((p-1:Nat):Int):=by rw[IntWalk.i64_in _ (by have:=HI.out; omega)]; omega
   have HN2:Hid (posM (fun s=>s) xs R (p-1)=posM (fun s=>s) xs R rn∧Below wd.heap.size wd wc):=by
    refine ⟨?_,HBQ.out.trans (hb6.mono HBQ.out.size)⟩;obtain ⟨c,hc⟩:∃ c,R[p-1]?=some c:=⟨_,List.getElem?_eq_getElem (by have:=HRN.out; omega)⟩
    have h:=VS (key:=(fun s=>s)) (x:=xs) hc;exact wx132
   exact wx121
  | false=>
  have HPUT:Hid (insM (fun s=>s) xs R=R.take p++xs::R.drop p):=by
   have h1:posM (fun s=>s) xs R rn=p:=by
    rw[← HPS.out]
    by_cases h0:p=0
    ·rw[h0]; rfl
    ·obtain ⟨c,hc⟩:∃ c,R[p-1]?=some c:=⟨_,List.getElem?_eq_getElem (by have:=HRN.out; omega)⟩
     have h:=VS (key:=(fun s=>s)) (x:=xs) hc;exact wx131
   unfold Hid insM;rw[HRN.out,h1]
  have HBC:Hid (Below wd.heap.size wd wc):=HBQ.out.trans (hb6.mono HBQ.out.size);have HB6C:Hid (Below w6.heap.size w6 wc):=HBD.out.trans (HBC.out.mono HBD.out.size);clear hb6 HBQ HB6Q HQ HPS HB6;have HB6:=HB6C;clear HB6C;generalize wc=wq at *;obtain ⟨A1,C1,A2,C2,hs1,hs2,hi1,hi2⟩:=JbA elW KG hp HRN.out (JZ HZD.out HBC.out);obtain ⟨m2,hm2⟩:∃ m,rn-p=m:=⟨_,rfl⟩
  rw[hm2] at hs2;have HM2:Hid (p+m2=rn):=by unfold Hid; omega
  have HL1:Hid ((R.take p).length=p):=by rw[Hid,List.length_take]; have:=HRN.out; omega
  have HL2:Hid ((R.drop p).length=m2):=by rw[Hid,List.length_drop]; have:=HRN.out; omega
  generalize R.take p=T1 at *;generalize R.drop p=T2 at *;have HS1:Hid (∀ W,Below wq.heap.size wq W→SInD gW W A1 T1):=fun W hb=>hi1.up hb
  have HS2:Hid (∀ W,Below wq.heap.size wq W→SInD gW W A2 T2):=fun W hb=>hi2.up hb
  have FF:Hid (∀ W,Below wq.heap.size wq W→(W.cell? ⟨ab,i,none⟩=some (.string (bs xs)))):=fun W hW=>FX.out W (HB6.out.trans (hW.mono HB6.out.size))
  replace HI:Hid (p≤200∧rn≤200):=⟨by have:=HI.out; omega,HI.out⟩
  clear hi1 hi2 hm2 FX HZD HBC HBD;go_upto_region 10 with fail;have HB:=Zh (Below.refl wq.heap.size wq).drew;refine wp_region_held_drew (S:=(fun W=>Below wq.heap.size wq W∧(W.cell? ⟨ab,i,none⟩=some (.string (bs xs))))) (by kernel_rfl) (⟨HB.out,FF.out _ HB.out⟩) (fun hH=>?_);refine ZT (i:=1) (v:=?vT7_1) rfl (Or.inl ⟨by rfl,?yT7_1⟩) ?_
  case yT7_1=>exact ZyQ
  try simp only[Act.put,ZA,ZB,ZC]
  refine ZT (i:=2) (v:=?vT7_2) rfl (Or.inl ⟨by rfl,?yT7_2⟩) ?_
  case yT7_2=>exact ZyQ
  try simp only[Act.put,ZA,ZB,ZC]
  refine ZT (i:=3) (v:=?vT7_3) rfl (Or.inl ⟨by rfl,?yT7_3⟩) ?_
  case yT7_3=>exact ZyQ
  try simp only[Act.put,ZA,ZB,ZC]
  refine ZT (i:=5) (v:=?vT7_5) rfl (Or.inl ⟨by rfl,?yT7_5⟩) ?_
  case yT7_5=>exact ZyQ
  try simp only[Act.put,ZA,ZB,ZC]
  refine ZT (i:=6) (v:=?vT7_6) rfl (Or.inl ⟨by rfl,?yT7_6⟩) ?_
  case yT7_6=>exact ZyQ
  try simp only[Act.put,ZA,ZB,ZC]
  refine ZT (i:=7) (v:=?vT7_7) rfl (Or.inl ⟨by rfl,?yT7_7⟩) ?_
  case yT7_7=>exact ZyQ
  try simp only[Act.put,ZA,ZB,ZC]
  refine ZT (i:=8) (v:=?vT7_8) rfl (Or.inl ⟨by rfl,?yT7_8⟩) ?_
  case yT7_8=>exact ZyQ
  try simp only[Act.put,ZA,ZB,ZC]
  refine ZT (i:=11) (v:=?vT7_11) rfl (Or.inl ⟨by rfl,?yT7_11⟩) ?_
  case yT7_11=>exact ZyQ
  try simp only[Act.put,ZA,ZB,ZC]
  refine ZT (i:=12) (v:=?vT7_12) rfl (Or.inl ⟨by rfl,?yT7_12⟩) ?_
  case yT7_12=>exact ZyQ
  try simp only[Act.put,ZA,ZB,ZC]
  refine ZT (i:=13) (v:=?vT7_13) rfl (Or.inl ⟨by rfl,?yT7_13⟩) ?_
  case yT7_13=>exact ZyQ
  try simp only[Act.put,ZA,ZB,ZC]
  refine ZR (rs:=[0,9]) (AllReadyH.cons rfl (fun K hK=>?_) (AllReadyH.cons rfl (fun K hK=>?_) AllReadyH.nil))
  ·go_simp;have HA:=Zh (Kw (Vj wq.drew 9 1) HB.out.size);replace HB:=Zh (HB.out.alloc HB.out.size (.cells #[] 9));refine hK.out _ _ (⟨HB.out,FF.out _ HB.out⟩) (fun hH=>?_);clear hK K
   try simp only[Act.put,ZA,ZB,ZC]
   refine ZR (rs:=[4,9]) (AllReadyH.cons rfl (fun K hK=>?_) (AllReadyH.cons rfl (fun K hK=>?_) AllReadyH.nil))
   ·rw[if_pos (by rfl)];refine Jr elW KG Vb _ _ rfl wq.heap.size (.slice (some ⟨wq.heap.size,0,none⟩) 0 0) 0 [] rfl HA.out _ _ p T1 HL1.out (.inr (HS1.out _ HB.out)) rfl (by have:=HI.out; omega) HB.out.size ?_;intro v4 w4 hown hbw hgw
    (try simp only[Nat.zero_add,List.nil_append] at hown)
    replace HB:=Zh (HB.out.trans hbw);replace HA:=Zh hown;clear hown hbw hgw;obtain ⟨a4,c4,hv4⟩:=JB HA.out;subst hv4;refine hK.out _ _ (⟨HB.out,FF.out _ HB.out⟩) (fun hH=>?_);clear hK K
    try simp only[Act.put,ZA,ZB,ZC]
    refine ZS 9 rfl (fun K hK=>?_);go_simp;have HX:=Zh (zzw w4 (.cells #[.string (bs xs)] 9));replace HA:=Zh (JZ HA.out (zzb.alloc zzl (.cells #[.string (bs xs)] 9)));replace HB:=Zh (HB.out.alloc HB.out.size (.cells #[.string (bs xs)] 9));refine hK.out _ _ (⟨HB.out,FF.out _ HB.out⟩) (fun hH=>?_);clear hK K
    try simp only[Act.put,ZA,ZB,ZC]
    refine ZS 10 rfl (fun K hK=>?_);rw[if_pos (by rfl)];refine Jr elW KG Vb _ _ rfl wq.heap.size _ p _ rfl HA.out _ 1 1 [xs] rfl (.inr (Vk (g:=gW) (x:=xs) HX.out)) rfl (by have:=HI.out; omega) HB.out.size ?_;intro v5 w5 hown hbw hgw
    (try simp only[Nat.zero_add,List.nil_append] at hown)
    clear HX;replace HB:=Zh (HB.out.trans hbw);replace HA:=Zh hown;clear hown hbw hgw;obtain ⟨a5,c5,hv5⟩:=JB HA.out;subst hv5;refine hK.out _ _ (⟨HB.out,FF.out _ HB.out⟩) (fun hH=>?_);clear hK K
    try simp only[Act.put,ZA,ZB,ZC]
    refine ZS 14 rfl (fun K hK=>?_);rw[if_pos (by rfl)];refine Jr elW KG Vb _ _ rfl wq.heap.size _ (p+1) _ rfl HA.out _ _ m2 T2 HL2.out (.inr (HS2.out _ HB.out)) rfl (by have:=HI.out; have:=HM2.out; omega) HB.out.size ?_;intro v7 w7 hown hbw hgw
    (try simp only[Nat.zero_add,List.nil_append] at hown)
    replace HB:=Zh (HB.out.trans hbw);replace HA:=Zh hown;clear hown hbw hgw;refine hK.out _ _ (⟨HB.out,FF.out _ HB.out⟩) (fun hH=>?_);clear hK K
    try simp only[Act.put,ZA,ZB,ZC]
    refine ZT (i:=15) (v:=?vT12_15) rfl (Or.inl ⟨by rfl,?yT12_15⟩) ?_
    case yT12_15=>exact ZyQ
    exact wx25
   ·go_simp;have HX:Hid (((wq.drew.alloc (.cells #[] 9)).alloc (.cells #[.string (bs xs)] 9)).heap[wq.heap.size+1]?=some (.cells #[.string (bs xs)] 9 (0,0))):=by have h9:=zzw (wq.drew.alloc (.cells #[] 9)) (.cells #[.string (bs xs)] 9); rw[World.size_alloc] at h9; exact h9
    replace HA:=Zh (JZ HA.out (zzb.alloc zzl (.cells #[.string (bs xs)] 9)));replace HB:=Zh (HB.out.alloc HB.out.size (.cells #[.string (bs xs)] 9));refine hK.out _ _ (⟨HB.out,FF.out _ HB.out⟩) (fun hH=>?_);clear hK K
    try simp only[Act.put,ZA,ZB,ZC]
    refine ZS 4 rfl (fun K hK=>?_);rw[if_pos (by rfl)];refine Jr elW KG Vb _ _ rfl wq.heap.size (.slice (some ⟨wq.heap.size,0,none⟩) 0 0) 0 [] rfl HA.out _ _ p T1 HL1.out (.inr (HS1.out _ HB.out)) rfl (by have:=HI.out; omega) HB.out.size ?_;intro v4 w4 hown hbw hgw
    (try simp only[Nat.zero_add,List.nil_append] at hown)
    replace HX:=Zh ((hgw.block _ (Array.getElem?_eq_some_iff.1 HX.out).1 (by simp[Value.ownBlock])).trans HX.out);replace HB:=Zh (HB.out.trans hbw);replace HA:=Zh hown;clear hown hbw hgw;obtain ⟨a4,c4,hv4⟩:=JB HA.out;subst hv4;refine hK.out _ _ (⟨HB.out,FF.out _ HB.out⟩) (fun hH=>?_);clear hK K
    try simp only[Act.put,ZA,ZB,ZC]
    refine ZS 10 rfl (fun K hK=>?_);rw[if_pos (by rfl)];refine Jr elW KG Vb _ _ rfl wq.heap.size _ p _ rfl HA.out _ 1 1 [xs] rfl (.inr (Vk (g:=gW) (x:=xs) HX.out)) rfl (by have:=HI.out; omega) HB.out.size ?_;intro v5 w5 hown hbw hgw
    (try simp only[Nat.zero_add,List.nil_append] at hown)
    clear HX;replace HB:=Zh (HB.out.trans hbw);replace HA:=Zh hown;clear hown hbw hgw;obtain ⟨a5,c5,hv5⟩:=JB HA.out;subst hv5;refine hK.out _ _ (⟨HB.out,FF.out _ HB.out⟩) (fun hH=>?_);clear hK K
    try simp only[Act.put,ZA,ZB,ZC]
    refine ZS 14 rfl (fun K hK=>?_);rw[if_pos (by rfl)];refine Jr elW KG Vb _ _ rfl wq.heap.size _ (p+1) _ rfl HA.out _ _ m2 T2 HL2.out (.inr (HS2.out _ HB.out)) rfl (by have:=HI.out; have:=HM2.out; omega) HB.out.size ?_;intro v7 w7 hown hbw hgw
    (try simp only[Nat.zero_add,List.nil_append] at hown)
    replace HB:=Zh (HB.out.trans hbw);replace HA:=Zh hown;clear hown hbw hgw;refine hK.out _ _ (⟨HB.out,FF.out _ HB.out⟩) (fun hH=>?_);clear hK K
    try simp only[Act.put,ZA,ZB,ZC]
    refine ZT (i:=15) (v:=?vT16_15) rfl (Or.inl ⟨by rfl,?yT16_15⟩) ?_
    case yT16_15=>exact ZyQ
    exact wx25
  ·go_simp;have HX:Hid ((wq.drew.alloc (.cells #[.string (bs xs)] 9)).heap[wq.heap.size]?=some (.cells #[.string (bs xs)] 9 (0,0))):=zzw wq.drew _;replace HB:=Zh (HB.out.alloc HB.out.size (.cells #[.string (bs xs)] 9));refine hK.out _ _ (⟨HB.out,FF.out _ HB.out⟩) (fun hH=>?_);clear hK K
   try simp only[Act.put,ZA,ZB,ZC]
   refine ZS 0 rfl (fun K hK=>?_);go_simp;have HA:Hid (((wq.drew.alloc (.cells #[.string (bs xs)] 9)).alloc (.cells #[] 9)).ownsRow wq.heap.size 9 1 (.slice (some ⟨wq.heap.size+1,0,none⟩) 0 0) 0 []):=by have h9:=Kw (Vj (wq.drew.alloc (.cells #[.string (bs xs)] 9)) 9 1) HB.out.size; rw[World.size_alloc] at h9; exact h9
   replace HX:=Zh ((Below.heap_alloc _ (.cells #[] 9) _ (Array.getElem?_eq_some_iff.1 HX.out).1).trans HX.out);replace HB:=Zh (HB.out.alloc HB.out.size (.cells #[] 9));refine hK.out _ _ (⟨HB.out,FF.out _ HB.out⟩) (fun hH=>?_);clear hK K
   try simp only[Act.put,ZA,ZB,ZC]
   refine ZS 4 rfl (fun K hK=>?_);rw[if_pos (by rfl)];refine Jr elW KG Vb _ _ rfl wq.heap.size (.slice (some ⟨wq.heap.size+1,0,none⟩) 0 0) 0 [] rfl HA.out _ _ p T1 HL1.out (.inr (HS1.out _ HB.out)) rfl (by have:=HI.out; omega) HB.out.size ?_;intro v4 w4 hown hbw hgw
   (try simp only[Nat.zero_add,List.nil_append] at hown)
   replace HX:=Zh ((hgw.block _ (Array.getElem?_eq_some_iff.1 HX.out).1 (by simp[Value.ownBlock])).trans HX.out);replace HB:=Zh (HB.out.trans hbw);replace HA:=Zh hown;clear hown hbw hgw;obtain ⟨a4,c4,hv4⟩:=JB HA.out;subst hv4;refine hK.out _ _ (⟨HB.out,FF.out _ HB.out⟩) (fun hH=>?_);clear hK K
   try simp only[Act.put,ZA,ZB,ZC]
   refine ZS 10 rfl (fun K hK=>?_);rw[if_pos (by rfl)];refine Jr elW KG Vb _ _ rfl wq.heap.size _ p _ rfl HA.out _ 1 1 [xs] rfl (.inr (Vk (g:=gW) (x:=xs) HX.out)) rfl (by have:=HI.out; omega) HB.out.size ?_;intro v5 w5 hown hbw hgw
   (try simp only[Nat.zero_add,List.nil_append] at hown)
   clear HX;replace HB:=Zh (HB.out.trans hbw);replace HA:=Zh hown;clear hown hbw hgw;obtain ⟨a5,c5,hv5⟩:=JB HA.out;subst hv5;refine hK.out _ _ (⟨HB.out,FF.out _ HB.out⟩) (fun hH=>?_);clear hK K
   try simp only[Act.put,ZA,ZB,ZC]
   refine ZS 14 rfl (fun K hK=>?_);rw[if_pos (by rfl)];refine Jr elW KG Vb _ _ rfl wq.heap.size _ (p+1) _ rfl HA.out _ _ m2 T2 HL2.out (.inr (HS2.out _ HB.out)) rfl (by have:=HI.out; have:=HM2.out; omega) HB.out.size ?_;intro v7 w7 hown hbw hgw
   (try simp only[Nat.zero_add,List.nil_append] at hown)
   replace HB:=Zh (HB.out.trans hbw);replace HA:=Zh hown;clear hown hbw hgw;refine hK.out _ _ (⟨HB.out,FF.out _ HB.out⟩) (fun hH=>?_);clear hK K
   try simp only[Act.put,ZA,ZB,ZC]
   refine ZT (i:=15) (v:=?vT21_15) rfl (Or.inl ⟨by rfl,?yT21_15⟩) ?_
   case yT21_15=>exact ZyQ
   exact wx25
 ·have di:decide ((i:Int)<(nn:Int))=false:=decide_eq_false (by omega);have diN:decide (i<nn)=false:=decide_eq_false hin;obtain rfl:i=nn:=by omega
  have hRR:R=wordsM r F G:=by rw[← hR,← HN.out.2.2,Jgt]
  have HFIN:Hid (RP (.returned (.slice va rn vc)) wo):=by
   rw[Hid,← HRP.out];subst hRR;refine ⟨va,vc,by rw[HRN.out],?_,Je HBW6.out HBO.out⟩;rw[HRN.out];exact Jeo HRN.out HZO.out HBW6.out.size
  clear hR hRR;go_wp2;exact HFIN.out
end Go.Proofs.YtncanmdgdflnpaaGreatDoor
namespace Go.Proofs.YtncanmdgdflnpaaGreatDoor
open _root_.Go.Proofs.Tryz
set_option linter.all false
set_option maxRecDepth 100000
set_option maxHeartbeats 32000000
mutual
theorem Jgv:∀ (a:Nd),siz (utN (treeN a))=siz a
 | .mk k n s o l=>by rw[treeN,utN,JA,JA,Jgw l]
theorem Jgw:∀ (l:List Nd),sizL (utL (treeL l))=sizL l
 | []=>by rw[treeL,utL]
 | a::l=>by rw[treeL,utL,Ju,Ju,Jgv a,Jgw l]
end
mutual
theorem JjI:∀ (a:Nd),WfN a→NmN (treeN a)
 | .mk k n s o l,h=>by
  rw[KV] at h;rw[treeN];unfold NmN;exact ⟨by omega,Jil l h.2.2.2.2⟩
theorem Jil:∀ (l:List Nd),WfL l→NmL (treeL l)
 | [],h=>by rw[treeL]; unfold NmL; trivial
 | a::l,h=>by
  rw[JN] at h;rw[treeL];unfold NmL;exact ⟨JjI a h.1,Jil l h.2⟩
end
theorem Jgx:RSz noRule:=⟨by decide,by decide,by simp[noRule],by simp[noRule]⟩
theorem Jia {l:List UInt8} {T:List Tok} {at':Int} (h:scanR l=(T,0,at')):Tk T:=by
 unfold scanR at h;split at h
 ·simp at h
 ·cases hs:sc 0 l with
  | err k=>rw[hs] at h; simp at h
  | ok ts=>
   rw[hs] at h;simp at h;obtain ⟨rfl,rfl⟩:=h;exact Jkl _ _ _ hs
theorem Jgy {s:Src} (hb:SrcB s) (hp:∀ x∈s.funcs,FnPr x) (hc:∀ x∈s.clauses,ClPr x) (he:least (resolveM s).2=none):RSz (ruleOf (resolveM s).1):=by
 obtain ⟨h1,h2,h3,h4⟩:=Zs (m:=8194) (fun f hf=>⟨(hb.f f hf).1,(hb.f f hf).2.1,(hb.f f hf).2.2.1,(hb.f f hf).2.2.2⟩) (fun c hc=>hb.c c hc) he;have n1:=hb.nf;have n2:=hb.nc;unfold ruleOf;refine ⟨by simp only[List.length_map]; omega,by simp only[List.length_map]; omega,fun f hf=>?_,fun c hc'=>?_⟩
 ·simp only[List.mem_map] at hf;obtain ⟨g,hg,rfl⟩:=hf;obtain ⟨q1,q2,q3,_⟩:=h1 g hg
  have hname:g.name.1.length≤1000000:=by
   unfold resolveM at hg;simp only[List.mem_map] at hg;obtain ⟨_,⟨x,hx,rfl⟩,rfl⟩:=hg;exact (hb.f x hx).1.2
  exact ⟨by dsimp only; omega,by dsimp only; omega,JjI _ q1,by dsimp only; rw[Jgv]; omega⟩
 ·simp only[List.mem_map] at hc';obtain ⟨g,hg,rfl⟩:=hc';obtain ⟨q1,q2,_⟩:=h2 g hg
  have hr:textB g.reason=true:=by
   unfold resolveM at hg;simp only[List.mem_map] at hg;obtain ⟨_,⟨x,hx,rfl⟩,rfl⟩:=hg;exact (hc x hx).reason
  unfold textB at hr;simp only[Bool.and_eq_true,decide_eq_true_eq] at hr;have hr2:=hr.2;exact ⟨JjI _ q1,by dsimp only; rw[Jgv]; omega,by dsimp only; omega⟩
theorem JbD {l:List UInt8} (h:(parseM l).2.1=0):rightM (parseM l).1=true∧RSz (parseM l).1:=by
 unfold parseM at h ⊢;split
 ·rename_i h0;rw[if_pos h0] at h;have hsc:scanR l=((scanR l).1,0,(scanR l).2.2):=by rw[← h0]
  obtain ⟨_,hT,htx,hT0,hfin⟩:=JaY hsc;have htk:=Jia hsc;generalize (scanR l).1=T at *;generalize 12*(T.length+1)=f at *
  cases hp:parseT f T with
  | none=>exact ⟨Jbm,Jgx⟩
  | some x=>
   rw[hp] at h;simp only[Option.getD_some] at h ⊢;obtain ⟨r,er,a⟩:=x;obtain rfl:er=0:=h;refine ⟨Jbn htk hp,?_⟩
   cases hs:srcP f T with
   | out=>unfold parseT at hp; rw[hs] at hp; cases hp
   | bad o=>unfold parseT at hp; rw[hs] at hp; simp at hp
   | ok s r'=>
    rw[ZtZ hs] at hp;unfold contM at hp
    cases hl:limitM s with
    | some o=>rw[hl] at hp; simp at hp
    | none=>
     rw[hl] at hp;simp only at hp
     cases hr:least (resolveM s).2 with
     | some o=>rw[hr] at hp; simp at hp
     | none=>
      rw[hr] at hp;simp only at hp
      cases hc:least (checkM (resolveM s).1) with
      | some o=>rw[hc] at hp; simp at hp
      | none=>
       rw[hc] at hp;simp only[Option.some.injEq,Prod.mk.injEq] at hp;rw[← hp.1];obtain ⟨g1,g2,_⟩:=JfW htk hs;exact Jgy (Jkb hs hT htx) g1 g2 hr
 ·rename_i h0;rw[if_neg h0] at h;exact absurd h h0
theorem RSz.len {r:RuleM} (h:RSz r):r.funcs.length≤9223372036854775807∧r.clauses.length≤9223372036854775807∧∀ f∈r.funcs,f.params.length≤9223372036854775807:=
 ⟨by have:=h.nf; omega,by have:=h.nc; omega,fun f hf=>by have:=(h.fn f hf).2.1; omega⟩
end Go.Proofs.YtncanmdgdflnpaaGreatDoor
