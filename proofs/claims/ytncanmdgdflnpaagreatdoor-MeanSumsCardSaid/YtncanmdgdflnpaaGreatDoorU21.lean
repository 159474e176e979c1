
import Derived.Test.YtncanmdgdflnpaaGreatDoorU17
import Derived.Test.YtncanmdgdflnpaaGreatDoorU20
namespace Go.Proofs.YtncanmdgdflnpaaGreatDoor
open Go.ChangeShapes Go.WideShapes Go.ChangeAt Go.RowKit Go.Lib
open _root_.Go.Proofs.Tryz
set_option linter.all false
set_option maxRecDepth 100000
set_option maxHeartbeats 32000000
theorem Yi (g o n vc:Nat) (h:n≤vc) (W:World):(Instr.slice 55 (.slice (some ⟨g,o,none⟩) n vc) none (some (.int .i64 n)) (some (.int .i64 n))).run prog W=.ok (.slice (some ⟨g,o,none⟩) n n) W:=by
 rw[run_slice_hm W 55 (some ⟨g,o,none⟩) n vc (show prog.underlying 55=some (.slice (prog.elem 55)) by kernel_rfl) .i64 .i64 n n (by omega) (by omega) (by omega)];rw[show (sizeOf (prog.elem 55)).run prog W=.ok 1 W by kernel_rfl];simp[Result.andThen,sliced,Addr.add]
theorem Yj (W:World):(Instr.slice 55 (.slice none 0 0) none (some (.int .i64 0)) (some (.int .i64 0))).run prog W=.ok (.slice none 0 0) W:=by kernel_rfl
theorem infoIntQ:(prog.info? 3).map (fun i=>(i.zero,i.size,i.bytes))=some (some (.int .i64 0),1,8):=by kernel_rfl
theorem JI {ops:Array Oper} {o:Oper} {ac:Act} {K:Act→World→Prop} {Q:Exit→Act→World→Prop} {E:Prop} (w:World) (hgd:o.guard=none) (s x:Operand)
  (ho:o.op=.call { callee:=.builtin .append,args:=#[s,x],argTypes:=#[55,55] }) (vars:List Int) (sv:Value) (hsv:(vars=[]∧sv=.slice none 0 0)∨∃ g o,sv=.slice (some ⟨g,o,none⟩) vars.length vars.length∧∀ i n,vars[i]?=some n→w.cell? ⟨g,o+i,none⟩=some (.int .i64 n)) (hs:ac.eval s=sv)
  (rr:Nat) (nm:Int) (hx:ac.eval x=.slice (some ⟨rr,0,none⟩) 1 1) (hrow:w.heap[rr]?=some (.cells #[.int .i64 nm] 3 (0,0)))
  (hlen:vars.length≤1000000000) (rb:Nat) (hrb:rb<w.heap.size)
  (h:∀ w' cc,IntsAt w' rb (.slice (some ⟨w.heap.size,0,none⟩) (vars.length+1) cc) (vars++[nm])→Below w.heap.size w w'→K (ac.put o.dst (.slice (some ⟨w.heap.size,0,none⟩) (vars.length+1) cc)) w') :
  if Region.wanted o (yielded ops ac.tmps)=true then Oper.wp prog o ac w K Q else E:=by
 have hw:Region.wanted o (yielded ops ac.tmps)=true:=by simp[Region.wanted,hgd]
 rw[if_pos hw];obtain ⟨i0,hi,hz0,hz1,hz2⟩:=info_parts infoIntQ
 have hnews:∀ j u,[Value.int .i64 nm][j]?=some u→w.cell? ((⟨rr,0,none⟩:Addr).add j)=some u:=fun j u hj=>by
  rw[show (⟨rr,0,none⟩:Addr).add j=⟨rr,j,none⟩ by unfold Addr.add; split <;> simp_all];exact Kc hrow hj
 have hvar:∀ (cs:Array Value) (cc:Nat),vars.length+1≤cc→(∀ (i:Nat) (n:Int),(vars++[nm])[i]?=some n→cs[i]?=some (Value.int .i64 n))→IntsAt (w.drew.alloc (.cells cs 3)) rb (.slice (some ⟨w.heap.size,0,none⟩) (vars.length+1) cc) (vars++[nm]):=by
  intro cs cc h1 h2;refine .inr ⟨w.heap.size,0,cc,by rw[List.length_append]; rfl,by rw[List.length_append]; exact h1,by omega,by simp,fun i n hs=>?_⟩;rw[Nat.zero_add];exact (Ja (heap_alloc_new w.drew (.cells cs 3)) i).trans (h2 i n hs)
 have hbel:∀ cs:Array Value,Below w.heap.size w (w.drew.alloc (.cells cs 3)):=fun cs=>((Below.refl w.heap.size w).drew).alloc (Nat.le_refl _) _
 unfold Oper.wp execOp
 rcases hsv with ⟨hv,rfl⟩ | ⟨g,o',rfl,hc⟩
 ·subst hv;have hr:=run_append_nil (P:=prog) w 55 o.type 3 i0 _ underlying55 hi hz0 ⟨rr,0,none⟩ 1 1 [.int .i64 nm] (by rw[hz1]; rfl) hnews (by decide) (by decide) (by rw[hz2]; decide);simp only[ho,resolve,invoke,builtin,Sem.run_bind,Sem.run_pure,Result.andThen_ok,List.map_toArray,List.map_cons,List.map_nil,hs,hx,hr];refine h _ _ (hvar _ _ (grownCap_ge w 1 0 3) fun i n hs=>?_) (hbel _);have:i=0:=by have:=(List.getElem?_eq_some_iff.1 hs).1; simp at this; exact this
  subst this;have hs':nm=n:=by simpa using hs
  subst hs';rw[Array.getElem?_append_left (by simp)];rfl
 ·have hr:=run_append_grow (P:=prog) w 55 o.type 3 i0 _ underlying55 hi hz0 ⟨g,o',none⟩ vars.length vars.length (vars.map fun n=>.int .i64 n) (by rw[hz1]; simp) (fun j u hj=>by
   rw[show (⟨g,o',none⟩:Addr).add j=⟨g,o'+j,none⟩ by unfold Addr.add; split <;> simp_all];rw[List.getElem?_map] at hj;obtain ⟨n,h1,rfl⟩:=Option.map_eq_some_iff.1 hj
   exact hc j n h1) ⟨rr,0,none⟩ 1 1 [.int .i64 nm] (by rw[hz1]; rfl) hnews (by omega) (by omega) (growslice_fits (by omega) (by rw[hz2]; omega))
  simp only[ho,resolve,invoke,builtin,Sem.run_bind,Sem.run_pure,Result.andThen_ok,List.map_toArray,List.map_cons,List.map_nil,hs,hx,hr];refine h _ _ (hvar _ _ (grownCap_ge w (vars.length+1) vars.length 3) fun i n hs=>?_) (hbel _);have hlt:=(List.getElem?_eq_some_iff.1 hs).1;rw[Array.getElem?_append_left (by simp at hlt ⊢; omega)];have e:(vars.map fun n=>Value.int .i64 n).toArray++[Value.int .i64 nm].toArray=((vars++[nm]).map fun n=>Value.int .i64 n).toArray:=by simp
  rw[e,List.getElem?_toArray,List.getElem?_map,hs];rfl
theorem TyPre.let1 {fs:List SigM} {rb:Nat} {M:Value} {W:World} {x:Option Int} {vars:List Int} {vv:Value} {nn:Int} {s:List UInt8} {off:Int} {b c:Nat} {y z:An} (h:TyPre fs rb M W x vars vv (.mk 19 nn s off b c [y,z])):TyPre fs rb M W x vars vv y∧∀ vars' vv',vars'.length=vars.length+1→IntsAt W rb vv' vars'→TyPre fs rb M W x vars' vv' z:=by
 have hat:=h.at';unfold An.At at hat;have hrf:=h.rf;rw[Km,if_neg (by simp)] at hrf;have hok:=h.ok;unfold An.nd TyOk at hok;have hok2:=hok.2.2;simp only[ndL,beq_self_eq_true] at hok2;have hwf:=h.wf;unfold An.nd WfN at hwf;have hw2:=hwf.2.2.2.2
 exact ⟨⟨(JJ (i:=0) hat.2 rfl).2,fun hm=>hrf (List.mem_cons_of_mem _ (Jx (by simp) _ hm)),h.flt,h.sigs,h.ints,hok2.1,Y9 hw2 _ (by simp[ndL])⟩,
  fun vars' vv' hl hi=>⟨(JJ (i:=1) hat.2 rfl).2,fun hm=>hrf (List.mem_cons_of_mem _ (Jx (by simp) _ hm)),h.flt,h.sigs,hi,by rw[hl]; exact hok2.2,Y9 hw2 _ (by simp[ndL])⟩⟩
theorem JiC (fs:List SigM) (rb:Nat) (M:Value) (hps:∀ s∈fs,s.params.length≤1000000000) (n:Nat) (IH:OfAt fs rb M n) (nn:Int) (s:List UInt8) (off:Int) (b c:Nat) (l:List An) (vars:List Int) (vv:Value) (x:Option Int) (w:World) (hn:sizL (ndL l)≤n) (hb:n+1+vars.length≤1000000000) (hpre:TyPre fs rb M w x vars vv (.mk 19 nn s off b c l))  :
  Calls prog 108 #[.pointer (some ⟨rb,0,none⟩),.agg (cellsN (.mk 19 nn s off b c l)),vv] w (TyP w rb M x (ofN fs vars (An.mk 19 nn s off b c l).nd).2 (.int .i64 (ofN fs vars (An.mk 19 nn s off b c l).nd).1)):=by
 obtain ⟨r,hr⟩:∃ r,ofN fs vars (An.mk 19 nn s off b c l).nd=r:=⟨_,rfl⟩
 rw[hr];obtain ⟨ty,es⟩:=r;dsimp only;obtain ⟨R,hR⟩:∃ R,TyP w rb M x es (.int .i64 ty)=R:=⟨_,rfl⟩
 rw[hR];have HR:Hid (R=TyP w rb M x es (.int .i64 ty)):=hR.symm;rw[An.nd,Kb] at hr;have hlen:l.length≤n:=by have:=Ju l; omega
 obtain ⟨ad,cc,hkv,had⟩:=Jn b c l
 have hcs:cellsN (.mk 19 nn s off b c l)=#[.int .i64 19,.int .i64 nn,.string (bs s),.int .i64 off,.slice ad l.length cc]:=by
  show #[_,_,_,_,kidsV b c l]=_
  rw[hkv]
 have hbA:Below w.heap.size w (w.alloc (.cells (cellsN (.mk 19 nn s off b c l)) 119)):=(Below.refl _ _).alloc (Nat.le_refl _) _;have hrl:=Jb hpre.flt;have hcb:w.heap.size≠rb:=by omega
 have HP:=Zh (hpre.up hbA);have HBA:=Zh (Chg.of_below hbA [rb]);have HCP:=Zh (heap_alloc_new w (.cells (cellsN (.mk 19 nn s off b c l)) 119));have HAD:=Zh had;have HCS:=Zh hcs;have HN:=Zh hn;rw[hcs] at HBA HCP ⊢;have HP2:Hid (TyPre fs rb M (w.alloc (.cells #[.int .i64 19,.int .i64 nn,.string (bs s),.int .i64 off,.slice ad l.length cc] 119)) x vars vv (.mk 19 nn s off b c l)):=by rw[← hcs]; exact HP.out
 clear hR hbA hkv had hcs hrl HP hpre hn
 obtain ⟨y,z,hl2⟩:∃ y z,l=[y,z]:=by
  have hwf:=HP2.out.wf;unfold An.nd WfN at hwf;have h2:=hwf.1 rfl;rw[J2,List.length_map] at h2
  match l,h2 with
  | [y,z],_=>exact ⟨y,z,rfl⟩
 subst hl2;have had':ad=some ⟨b,0,none⟩:=HAD.out (by simp);subst had';obtain ⟨yA,yn,yc,hcfy⟩:=Jf y;have HCFy:=Zh hcfy;clear hcfy;have HSy:Hid (siz y.nd≤n):=Nat.le_trans (JE (by simp:y∈[y,z])) HN.out;obtain ⟨zA,zn,zc,hcfz⟩:=Jf z;have HCFz:=Zh hcfz;clear hcfz;have HSz:Hid (siz z.nd≤n):=Nat.le_trans (JE (by simp:z∈[y,z])) HN.out;obtain ⟨ry,hry⟩:∃ ry,ofN fs vars y.nd=ry:=⟨_,rfl⟩
 obtain ⟨ty1,es1⟩:=ry
 have hr2:ty=(ofN fs (vars++[ty1]) z.nd).1∧es=es1++(ofN fs (vars++[ty1]) z.nd).2:=by
  simp[ndL,hry] at hr;exact ⟨hr.1.symm,hr.2.symm⟩
 have HRV:=Zh hr2;have HPC:=HP2;have HCC:=HCP;clear hr hr2 HP2 HCP HAD HCS HN;go_enter func108,ntmps108;go_upto_region 35 with fail;generalize World.alloc w _=w1 at *;generalize w.heap.size=cb at *;have cy:=IH y vars vv _ _ HSy.out (by omega) HPC.out.let1.1;rw[HCFy.out,hry] at cy;dsimp only at cy;have hat:=HPC.out.at';unfold An.At at hat;have hcl:=(JJ (i:=0) hat.2 rfl).1;rw[HCFy.out] at hcl;have c0:=hcl 0 _ rfl;have c1:=hcl 1 _ rfl;have c2:=hcl 2 _ rfl;have c3:=hcl 3 _ rfl;have c4:=hcl 4 _ rfl;simp only[Nat.zero_add,Nat.zero_mul,Nat.one_mul,Nat.reduceMul,Nat.reduceAdd,Nat.add_zero] at c0 c1 c2 c3 c4;have m4:=Ja HCC.out 4;simp only[ZD,ZE,ZF] at m4;go_wp2_with fail;clear hat hcl c0 c1 c2 c3 c4;clear m4 hry;refine cy.mono ?_;rintro e w2 ⟨rfl,hf2,hc2⟩;replace HPC:=Zh (HPC.out.chg hc2 hf2);replace HCC:=Zh (hc2.heap_some (by simp; exact hcb) HCC.out);replace HBA:=Zh (HBA.out.trans hc2);clear cy hf2 hc2;go_upto_region 36 with fail
 obtain ⟨sv,hsl,hsv⟩:∃ sv,(∀ W:World,(Instr.slice 55 vv none (some (.int .i64 vars.length)) (some (.int .i64 vars.length))).run prog W=.ok sv W)∧((vars=[]∧sv=.slice none 0 0)∨∃ g o,sv=.slice (some ⟨g,o,none⟩) vars.length vars.length∧∀ W',Below w2.drew.heap.size w2.drew W'→∀ i n,vars[i]?=some n→W'.cell? ⟨g,o+i,none⟩=some (.int .i64 n)):=by
  rcases HPC.out.ints with ⟨e1,e2⟩ | ⟨g,o,vc,e,h2,_,_,h5⟩
  ·subst e1 e2;exact ⟨_,Yj,.inl ⟨rfl,rfl⟩⟩
  ·subst e;exact ⟨_,Yi g o vars.length vc h2,.inr ⟨g,o,rfl,fun W' hb i n hi=>(hb.cell (World.block_lt_of_cell? _ _ (h5 i n hi))).trans (h5 i n hi)⟩⟩
 have hvs:∃ a m c',vv=.slice a m c'∧m=vars.length:=by
  rcases HPC.out.ints with ⟨e1,e2⟩ | ⟨g,o,vc,e,_⟩
  ·exact ⟨_,_,_,e2,by rw[e1]; rfl⟩
  ·exact ⟨_,_,_,e,rfl⟩
 obtain ⟨va,vn,vc2,rfl,hvn⟩:=hvs;subst hvn;have HSV:=Zh hsv;have hss:∃ a m c',sv=.slice a m c':=by rcases hsv with ⟨_,rfl⟩ | ⟨_,_,rfl,_⟩ <;> exact ⟨_,_,_,rfl⟩
 obtain ⟨sa,sm,sc,rfl⟩:=hss;have hvl:vars.length≤1000000000:=by omega
 clear hsv;refine wp_region_held_drew (S:=fun _=>True) (by kernel_rfl) (trivial) (fun hH=>?_);have hD:Below w2.heap.size w2 w2.drew:=(Below.refl w2.heap.size w2).drew;replace HPC:=Zh (HPC.out.up hD);replace HCC:=Zh ((hD.block _ (Jb HCC.out)).trans HCC.out);replace HBA:=Zh (HBA.out.trans (Chg.of_below hD [rb]));clear hD;generalize w2.drew=w3 at *;refine ZT (i:=0) (v:=?vT45_0) rfl (Or.inl ⟨by rfl,?yT45_0⟩) ?_
 case yT45_0=>exact ZyQ
 try simp only[Act.put,ZA,ZB,ZC]
 refine ZT (i:=1) (v:=?vT45_1) rfl (Or.inl ⟨by rfl,?yT45_1⟩) ?_
 case yT45_1=>exact ZyQ
 try simp only[Act.put,ZA,ZB,ZC]
 refine ZT (i:=5) (v:=?vT45_5) rfl (Or.inl ⟨by rfl,?yT45_5⟩) ?_
 case yT45_5=>exact ZyQ
 try simp only[Act.put,ZA,ZB,ZC]
 refine ZT (i:=6) (v:=?vT45_6) rfl (Or.inl ⟨by rfl,?yT45_6⟩) ?_
 case yT45_6=>exact ZyQ
 try simp only[Act.put,ZA,ZB,ZC]
 refine ZT (i:=7) (v:=?vT45_7) rfl (Or.inl ⟨by rfl,?yT45_7⟩) ?_
 case yT45_7=>exact ZyQ
 try simp only[Act.put,ZA,ZB,ZC]
 refine ZT (i:=8) (v:=?vT45_8) rfl (Or.inl ⟨by rfl,?yT45_8⟩) ?_
 case yT45_8=>exact ZyQ
 try simp only[Act.put,ZA,ZB,ZC]
 refine ZT (i:=9) (v:=?vT45_9) rfl (Or.inl ⟨by rfl,?yT45_9⟩) ?_
 case yT45_9=>exact ZyQ
 try simp only[Act.put,ZA,ZB,ZC]
 refine ZT (i:=10) (v:=?vT45_10) rfl (Or.inl ⟨by rfl,?yT45_10⟩) ?_
 case yT45_10=>exact ZyQ
 try simp only[Act.put,ZA,ZB,ZC]
 refine ZT (i:=11) (v:=?vT45_11) rfl (Or.inl ⟨by rfl,?yT45_11⟩) ?_
 case yT45_11=>exact ZyQ
 try simp only[Act.put,ZA,ZB,ZC]
 refine ZR (rs:=[2,12]) (AllReadyH.cons rfl (fun K hK=>?_) (AllReadyH.cons rfl (fun K hK=>?_) AllReadyH.nil))
 ·have m4:=Ja HCC.out 4;simp only[ZD,ZE,ZF] at m4;go_simp;clear m4;refine hK.out _ _ trivial (fun hH=>?_);clear hK K
  try simp only[Act.put,ZA,ZB,ZC]
  refine ZT (i:=3) (v:=?vT46_3) rfl (Or.inl ⟨by rfl,?yT46_3⟩) ?_
  case yT46_3=>exact ZyQ
  try simp only[Act.put,ZA,ZB,ZC]
  refine ZR (rs:=[4,12]) (AllReadyH.cons rfl (fun K hK=>?_) (AllReadyH.cons rfl (fun K hK=>?_) AllReadyH.nil))
  ·have hat:=HPC.out.at';unfold An.At at hat;have hcl:=(JJ (i:=1) hat.2 rfl).1;rw[HCFz.out] at hcl;have c0:=hcl 0 _ rfl;have c1:=hcl 1 _ rfl;have c2:=hcl 2 _ rfl;have c3:=hcl 3 _ rfl;have c4:=hcl 4 _ rfl;simp only[Nat.zero_add,Nat.zero_mul,Nat.one_mul,Nat.reduceMul,Nat.reduceAdd,Nat.add_zero] at c0 c1 c2 c3 c4;go_simp;clear hat hcl c0 c1 c2 c3 c4;refine hK.out _ _ trivial (fun hH=>?_);clear hK K
   try simp only[Act.put,ZA,ZB,ZC]
   refine ZS 12 rfl (fun K hK=>?_);go_simp;refine hK.out _ _ trivial (fun hH=>?_);have hb6:Below w3.heap.size w3 (w3.alloc (.cells #[.int .i64 ty1] 3)):=(Below.refl _ _).alloc (Nat.le_refl _) _;replace HPC:=Zh (HPC.out.up hb6);replace HCC:=Zh ((hb6.block _ (Jb HCC.out)).trans HCC.out);replace HBA:=Zh (HBA.out.trans (Chg.of_below hb6 [rb]));have HRW:=Zh (heap_alloc_new w3 (.cells #[.int .i64 ty1] 3));have HB6:=Zh hb6;clear hb6;clear hK K
   try simp only[Act.put,ZA,ZB,ZC]
   refine ZS 13 rfl (fun K hK=>?_);have hsv2:(vars=[]∧(Value.slice sa sm sc)=.slice none 0 0)∨∃ g o,(Value.slice sa sm sc)=.slice (some ⟨g,o,none⟩) vars.length vars.length∧∀ i n,vars[i]?=some n→(w3.alloc (.cells #[.int .i64 ty1] 3)).cell? ⟨g,o+i,none⟩=some (Value.int .i64 n):=HSV.out.imp id (fun ⟨g,o,h1,h2⟩=>⟨g,o,h1,h2 _ HB6.out⟩)
   (refine JI (w3.alloc (.cells #[.int .i64 ty1] 3)) (by rfl) (.tmp 118) (.tmp 120) (by rfl) vars _ hsv2 (by rfl) w3.heap.size ty1 (by rfl) HRW.out hvl rb (Jb HPC.out.flt) ?_; intro w5 cc5 hi5 hb5)
   replace HPC:=Zh (HPC.out.up hb5);replace HCC:=Zh ((hb5.block _ (Jb HCC.out)).trans HCC.out);replace HBA:=Zh (HBA.out.trans (Chg.of_below hb5 [rb]));have HI5:=Zh hi5;generalize (w3.alloc (.cells #[.int .i64 ty1] 3)).heap.size=g5 at *;clear hsv2 hi5 hb5 HRW HB6 HSV;refine hK.out _ _ trivial (fun hH=>?_);clear hK K
   try simp only[Act.put,ZA,ZB,ZC]
   refine ZS 14 rfl (fun K hK=>?_);have hl5:(vars++[ty1]).length=vars.length+1:=by simp
   have cn:=IH z (vars++[ty1]) (.slice (some ⟨g5,0,none⟩) (vars.length+1) cc5) _ _ HSz.out (by rw[hl5]; omega) (HPC.out.let1.2 _ _ hl5 HI5.out);rw[HCFz.out] at cn
   (go_simp; go_at_call 108; refine cn.mono ?_; intro e w6 h6)
   obtain ⟨he6,hf6,hc6⟩:=h6;subst he6;have HF6:=Zh hf6;replace HBA:=Zh (HBA.out.trans hc6);clear hf6 hc6 cn hl5;refine hK.out _ _ trivial (fun hH=>?_);clear hK K
   try simp only[Act.put,ZA,ZB,ZC]
   refine ZT (i:=15) (v:=?vT50_15) rfl (Or.inl ⟨by rfl,?yT50_15⟩) ?_
   case yT50_15=>exact ZyQ
   exact ux27
  ·go_simp;refine hK.out _ _ trivial (fun hH=>?_);have hb6:Below w3.heap.size w3 (w3.alloc (.cells #[.int .i64 ty1] 3)):=(Below.refl _ _).alloc (Nat.le_refl _) _;replace HPC:=Zh (HPC.out.up hb6);replace HCC:=Zh ((hb6.block _ (Jb HCC.out)).trans HCC.out);replace HBA:=Zh (HBA.out.trans (Chg.of_below hb6 [rb]));have HRW:=Zh (heap_alloc_new w3 (.cells #[.int .i64 ty1] 3));have HB6:=Zh hb6;clear hb6;clear hK K
   try simp only[Act.put,ZA,ZB,ZC]
   refine ZR (rs:=[4,13]) (AllReadyH.cons rfl (fun K hK=>?_) (AllReadyH.cons rfl (fun K hK=>?_) AllReadyH.nil))
   ·have hat:=HPC.out.at';unfold An.At at hat;have hcl:=(JJ (i:=1) hat.2 rfl).1;rw[HCFz.out] at hcl;have c0:=hcl 0 _ rfl;have c1:=hcl 1 _ rfl;have c2:=hcl 2 _ rfl;have c3:=hcl 3 _ rfl;have c4:=hcl 4 _ rfl;simp only[Nat.zero_add,Nat.zero_mul,Nat.one_mul,Nat.reduceMul,Nat.reduceAdd,Nat.add_zero] at c0 c1 c2 c3 c4;go_simp;clear hat hcl c0 c1 c2 c3 c4;refine hK.out _ _ trivial (fun hH=>?_);clear hK K
    try simp only[Act.put,ZA,ZB,ZC]
    refine ZS 13 rfl (fun K hK=>?_);have hsv2:(vars=[]∧(Value.slice sa sm sc)=.slice none 0 0)∨∃ g o,(Value.slice sa sm sc)=.slice (some ⟨g,o,none⟩) vars.length vars.length∧∀ i n,vars[i]?=some n→(w3.alloc (.cells #[.int .i64 ty1] 3)).cell? ⟨g,o+i,none⟩=some (Value.int .i64 n):=HSV.out.imp id (fun ⟨g,o,h1,h2⟩=>⟨g,o,h1,h2 _ HB6.out⟩)
    (refine JI (w3.alloc (.cells #[.int .i64 ty1] 3)) (by rfl) (.tmp 118) (.tmp 120) (by rfl) vars _ hsv2 (by rfl) w3.heap.size ty1 (by rfl) HRW.out hvl rb (Jb HPC.out.flt) ?_; intro w5 cc5 hi5 hb5)
    replace HPC:=Zh (HPC.out.up hb5);replace HCC:=Zh ((hb5.block _ (Jb HCC.out)).trans HCC.out);replace HBA:=Zh (HBA.out.trans (Chg.of_below hb5 [rb]));have HI5:=Zh hi5;generalize (w3.alloc (.cells #[.int .i64 ty1] 3)).heap.size=g5 at *;clear hsv2 hi5 hb5 HRW HB6 HSV;refine hK.out _ _ trivial (fun hH=>?_);clear hK K
    try simp only[Act.put,ZA,ZB,ZC]
    refine ZS 14 rfl (fun K hK=>?_);have hl5:(vars++[ty1]).length=vars.length+1:=by simp
    have cn:=IH z (vars++[ty1]) (.slice (some ⟨g5,0,none⟩) (vars.length+1) cc5) _ _ HSz.out (by rw[hl5]; omega) (HPC.out.let1.2 _ _ hl5 HI5.out);rw[HCFz.out] at cn
    (go_simp; go_at_call 108; refine cn.mono ?_; intro e w6 h6)
    obtain ⟨he6,hf6,hc6⟩:=h6;subst he6;have HF6:=Zh hf6;replace HBA:=Zh (HBA.out.trans hc6);clear hf6 hc6 cn hl5;refine hK.out _ _ trivial (fun hH=>?_);clear hK K
    try simp only[Act.put,ZA,ZB,ZC]
    refine ZT (i:=15) (v:=?vT54_15) rfl (Or.inl ⟨by rfl,?yT54_15⟩) ?_
    case yT54_15=>exact ZyQ
    exact ux27
   ·have hsv2:(vars=[]∧(Value.slice sa sm sc)=.slice none 0 0)∨∃ g o,(Value.slice sa sm sc)=.slice (some ⟨g,o,none⟩) vars.length vars.length∧∀ i n,vars[i]?=some n→(w3.alloc (.cells #[.int .i64 ty1] 3)).cell? ⟨g,o+i,none⟩=some (Value.int .i64 n):=HSV.out.imp id (fun ⟨g,o,h1,h2⟩=>⟨g,o,h1,h2 _ HB6.out⟩)
    (refine JI (w3.alloc (.cells #[.int .i64 ty1] 3)) (by rfl) (.tmp 118) (.tmp 120) (by rfl) vars _ hsv2 (by rfl) w3.heap.size ty1 (by rfl) HRW.out hvl rb (Jb HPC.out.flt) ?_; intro w5 cc5 hi5 hb5)
    replace HPC:=Zh (HPC.out.up hb5);replace HCC:=Zh ((hb5.block _ (Jb HCC.out)).trans HCC.out);replace HBA:=Zh (HBA.out.trans (Chg.of_below hb5 [rb]));have HI5:=Zh hi5;generalize (w3.alloc (.cells #[.int .i64 ty1] 3)).heap.size=g5 at *;clear hsv2 hi5 hb5 HRW HB6 HSV;refine hK.out _ _ trivial (fun hH=>?_);clear hK K
    try simp only[Act.put,ZA,ZB,ZC]
    refine ZS 4 rfl (fun K hK=>?_);have hat:=HPC.out.at';unfold An.At at hat;have hcl:=(JJ (i:=1) hat.2 rfl).1;rw[HCFz.out] at hcl;have c0:=hcl 0 _ rfl;have c1:=hcl 1 _ rfl;have c2:=hcl 2 _ rfl;have c3:=hcl 3 _ rfl;have c4:=hcl 4 _ rfl;simp only[Nat.zero_add,Nat.zero_mul,Nat.one_mul,Nat.reduceMul,Nat.reduceAdd,Nat.add_zero] at c0 c1 c2 c3 c4;go_simp;clear hat hcl c0 c1 c2 c3 c4;refine hK.out _ _ trivial (fun hH=>?_);clear hK K
    try simp only[Act.put,ZA,ZB,ZC]
    refine ZS 14 rfl (fun K hK=>?_);have hl5:(vars++[ty1]).length=vars.length+1:=by simp
    have cn:=IH z (vars++[ty1]) (.slice (some ⟨g5,0,none⟩) (vars.length+1) cc5) _ _ HSz.out (by rw[hl5]; omega) (HPC.out.let1.2 _ _ hl5 HI5.out);rw[HCFz.out] at cn
    (go_simp; go_at_call 108; refine cn.mono ?_; intro e w6 h6)
    obtain ⟨he6,hf6,hc6⟩:=h6;subst he6;have HF6:=Zh hf6;replace HBA:=Zh (HBA.out.trans hc6);clear hf6 hc6 cn hl5;refine hK.out _ _ trivial (fun hH=>?_);clear hK K
    try simp only[Act.put,ZA,ZB,ZC]
    refine ZT (i:=15) (v:=?vT57_15) rfl (Or.inl ⟨by rfl,?yT57_15⟩) ?_
    case yT57_15=>exact ZyQ
    exact ux27
 ·go_simp;refine hK.out _ _ trivial (fun hH=>?_);have hb6:Below w3.heap.size w3 (w3.alloc (.cells #[.int .i64 ty1] 3)):=(Below.refl _ _).alloc (Nat.le_refl _) _;replace HPC:=Zh (HPC.out.up hb6);replace HCC:=Zh ((hb6.block _ (Jb HCC.out)).trans HCC.out);replace HBA:=Zh (HBA.out.trans (Chg.of_below hb6 [rb]));have HRW:=Zh (heap_alloc_new w3 (.cells #[.int .i64 ty1] 3));have HB6:=Zh hb6;clear hb6;clear hK K
  try simp only[Act.put,ZA,ZB,ZC]
  refine ZR (rs:=[2,13]) (AllReadyH.cons rfl (fun K hK=>?_) (AllReadyH.cons rfl (fun K hK=>?_) AllReadyH.nil))
  ·have m4:=Ja HCC.out 4;simp only[ZD,ZE,ZF] at m4;go_simp;clear m4;refine hK.out _ _ trivial (fun hH=>?_);clear hK K
   try simp only[Act.put,ZA,ZB,ZC]
   refine ZT (i:=3) (v:=?vT59_3) rfl (Or.inl ⟨by rfl,?yT59_3⟩) ?_
   case yT59_3=>exact ZyQ
   try simp only[Act.put,ZA,ZB,ZC]
   refine ZR (rs:=[4,13]) (AllReadyH.cons rfl (fun K hK=>?_) (AllReadyH.cons rfl (fun K hK=>?_) AllReadyH.nil))
   ·have hat:=HPC.out.at';unfold An.At at hat;have hcl:=(JJ (i:=1) hat.2 rfl).1;rw[HCFz.out] at hcl;have c0:=hcl 0 _ rfl;have c1:=hcl 1 _ rfl;have c2:=hcl 2 _ rfl;have c3:=hcl 3 _ rfl;have c4:=hcl 4 _ rfl;simp only[Nat.zero_add,Nat.zero_mul,Nat.one_mul,Nat.reduceMul,Nat.reduceAdd,Nat.add_zero] at c0 c1 c2 c3 c4;go_simp;clear hat hcl c0 c1 c2 c3 c4;refine hK.out _ _ trivial (fun hH=>?_);clear hK K
    try simp only[Act.put,ZA,ZB,ZC]
    refine ZS 13 rfl (fun K hK=>?_);have hsv2:(vars=[]∧(Value.slice sa sm sc)=.slice none 0 0)∨∃ g o,(Value.slice sa sm sc)=.slice (some ⟨g,o,none⟩) vars.length vars.length∧∀ i n,vars[i]?=some n→(w3.alloc (.cells #[.int .i64 ty1] 3)).cell? ⟨g,o+i,none⟩=some (Value.int .i64 n):=HSV.out.imp id (fun ⟨g,o,h1,h2⟩=>⟨g,o,h1,h2 _ HB6.out⟩)
    (refine JI (w3.alloc (.cells #[.int .i64 ty1] 3)) (by rfl) (.tmp 118) (.tmp 120) (by rfl) vars _ hsv2 (by rfl) w3.heap.size ty1 (by rfl) HRW.out hvl rb (Jb HPC.out.flt) ?_; intro w5 cc5 hi5 hb5)
    replace HPC:=Zh (HPC.out.up hb5);replace HCC:=Zh ((hb5.block _ (Jb HCC.out)).trans HCC.out);replace HBA:=Zh (HBA.out.trans (Chg.of_below hb5 [rb]));have HI5:=Zh hi5;generalize (w3.alloc (.cells #[.int .i64 ty1] 3)).heap.size=g5 at *;clear hsv2 hi5 hb5 HRW HB6 HSV;refine hK.out _ _ trivial (fun hH=>?_);clear hK K
    try simp only[Act.put,ZA,ZB,ZC]
    refine ZS 14 rfl (fun K hK=>?_);have hl5:(vars++[ty1]).length=vars.length+1:=by simp
    have cn:=IH z (vars++[ty1]) (.slice (some ⟨g5,0,none⟩) (vars.length+1) cc5) _ _ HSz.out (by rw[hl5]; omega) (HPC.out.let1.2 _ _ hl5 HI5.out);rw[HCFz.out] at cn
    (go_simp; go_at_call 108; refine cn.mono ?_; intro e w6 h6)
    obtain ⟨he6,hf6,hc6⟩:=h6;subst he6;have HF6:=Zh hf6;replace HBA:=Zh (HBA.out.trans hc6);clear hf6 hc6 cn hl5;refine hK.out _ _ trivial (fun hH=>?_);clear hK K
    try simp only[Act.put,ZA,ZB,ZC]
    refine ZT (i:=15) (v:=?vT62_15) rfl (Or.inl ⟨by rfl,?yT62_15⟩) ?_
    case yT62_15=>exact ZyQ
    exact ux27
   ·have hsv2:(vars=[]∧(Value.slice sa sm sc)=.slice none 0 0)∨∃ g o,(Value.slice sa sm sc)=.slice (some ⟨g,o,none⟩) vars.length vars.length∧∀ i n,vars[i]?=some n→(w3.alloc (.cells #[.int .i64 ty1] 3)).cell? ⟨g,o+i,none⟩=some (Value.int .i64 n):=HSV.out.imp id (fun ⟨g,o,h1,h2⟩=>⟨g,o,h1,h2 _ HB6.out⟩)
    (refine JI (w3.alloc (.cells #[.int .i64 ty1] 3)) (by rfl) (.tmp 118) (.tmp 120) (by rfl) vars _ hsv2 (by rfl) w3.heap.size ty1 (by rfl) HRW.out hvl rb (Jb HPC.out.flt) ?_; intro w5 cc5 hi5 hb5)
    replace HPC:=Zh (HPC.out.up hb5);replace HCC:=Zh ((hb5.block _ (Jb HCC.out)).trans HCC.out);replace HBA:=Zh (HBA.out.trans (Chg.of_below hb5 [rb]));have HI5:=Zh hi5;generalize (w3.alloc (.cells #[.int .i64 ty1] 3)).heap.size=g5 at *;clear hsv2 hi5 hb5 HRW HB6 HSV;refine hK.out _ _ trivial (fun hH=>?_);clear hK K
    try simp only[Act.put,ZA,ZB,ZC]
    refine ZS 4 rfl (fun K hK=>?_);have hat:=HPC.out.at';unfold An.At at hat;have hcl:=(JJ (i:=1) hat.2 rfl).1;rw[HCFz.out] at hcl;have c0:=hcl 0 _ rfl;have c1:=hcl 1 _ rfl;have c2:=hcl 2 _ rfl;have c3:=hcl 3 _ rfl;have c4:=hcl 4 _ rfl;simp only[Nat.zero_add,Nat.zero_mul,Nat.one_mul,Nat.reduceMul,Nat.reduceAdd,Nat.add_zero] at c0 c1 c2 c3 c4;go_simp;clear hat hcl c0 c1 c2 c3 c4;refine hK.out _ _ trivial (fun hH=>?_);clear hK K
    try simp only[Act.put,ZA,ZB,ZC]
    refine ZS 14 rfl (fun K hK=>?_);have hl5:(vars++[ty1]).length=vars.length+1:=by simp
    have cn:=IH z (vars++[ty1]) (.slice (some ⟨g5,0,none⟩) (vars.length+1) cc5) _ _ HSz.out (by rw[hl5]; omega) (HPC.out.let1.2 _ _ hl5 HI5.out);rw[HCFz.out] at cn
    (go_simp; go_at_call 108; refine cn.mono ?_; intro e w6 h6)
    obtain ⟨he6,hf6,hc6⟩:=h6;subst he6;have HF6:=Zh hf6;replace HBA:=Zh (HBA.out.trans hc6);clear hf6 hc6 cn hl5;refine hK.out _ _ trivial (fun hH=>?_);clear hK K
    try simp only[Act.put,ZA,ZB,ZC]
    refine ZT (i:=15) (v:=?vT65_15) rfl (Or.inl ⟨by rfl,?yT65_15⟩) ?_
    case yT65_15=>exact ZyQ
    exact ux27
  ·have hsv2:(vars=[]∧(Value.slice sa sm sc)=.slice none 0 0)∨∃ g o,(Value.slice sa sm sc)=.slice (some ⟨g,o,none⟩) vars.length vars.length∧∀ i n,vars[i]?=some n→(w3.alloc (.cells #[.int .i64 ty1] 3)).cell? ⟨g,o+i,none⟩=some (Value.int .i64 n):=HSV.out.imp id (fun ⟨g,o,h1,h2⟩=>⟨g,o,h1,h2 _ HB6.out⟩)
   (refine JI (w3.alloc (.cells #[.int .i64 ty1] 3)) (by rfl) (.tmp 118) (.tmp 120) (by rfl) vars _ hsv2 (by rfl) w3.heap.size ty1 (by rfl) HRW.out hvl rb (Jb HPC.out.flt) ?_; intro w5 cc5 hi5 hb5)
   replace HPC:=Zh (HPC.out.up hb5);replace HCC:=Zh ((hb5.block _ (Jb HCC.out)).trans HCC.out);replace HBA:=Zh (HBA.out.trans (Chg.of_below hb5 [rb]));have HI5:=Zh hi5;generalize (w3.alloc (.cells #[.int .i64 ty1] 3)).heap.size=g5 at *;clear hsv2 hi5 hb5 HRW HB6 HSV;refine hK.out _ _ trivial (fun hH=>?_);clear hK K
   try simp only[Act.put,ZA,ZB,ZC]
   refine ZS 2 rfl (fun K hK=>?_);have m4:=Ja HCC.out 4;simp only[ZD,ZE,ZF] at m4;go_simp;clear m4;refine hK.out _ _ trivial (fun hH=>?_);clear hK K
   try simp only[Act.put,ZA,ZB,ZC]
   refine ZT (i:=3) (v:=?vT67_3) rfl (Or.inl ⟨by rfl,?yT67_3⟩) ?_
   case yT67_3=>exact ZyQ
   try simp only[Act.put,ZA,ZB,ZC]
   refine ZS 4 rfl (fun K hK=>?_);have hat:=HPC.out.at';unfold An.At at hat;have hcl:=(JJ (i:=1) hat.2 rfl).1;rw[HCFz.out] at hcl;have c0:=hcl 0 _ rfl;have c1:=hcl 1 _ rfl;have c2:=hcl 2 _ rfl;have c3:=hcl 3 _ rfl;have c4:=hcl 4 _ rfl;simp only[Nat.zero_add,Nat.zero_mul,Nat.one_mul,Nat.reduceMul,Nat.reduceAdd,Nat.add_zero] at c0 c1 c2 c3 c4;go_simp;clear hat hcl c0 c1 c2 c3 c4;refine hK.out _ _ trivial (fun hH=>?_);clear hK K
   try simp only[Act.put,ZA,ZB,ZC]
   refine ZS 14 rfl (fun K hK=>?_);have hl5:(vars++[ty1]).length=vars.length+1:=by simp
   have cn:=IH z (vars++[ty1]) (.slice (some ⟨g5,0,none⟩) (vars.length+1) cc5) _ _ HSz.out (by rw[hl5]; omega) (HPC.out.let1.2 _ _ hl5 HI5.out);rw[HCFz.out] at cn
   (go_simp; go_at_call 108; refine cn.mono ?_; intro e w6 h6)
   obtain ⟨he6,hf6,hc6⟩:=h6;subst he6;have HF6:=Zh hf6;replace HBA:=Zh (HBA.out.trans hc6);clear hf6 hc6 cn hl5;refine hK.out _ _ trivial (fun hH=>?_);clear hK K
   try simp only[Act.put,ZA,ZB,ZC]
   refine ZT (i:=15) (v:=?vT69_15) rfl (Or.inl ⟨by rfl,?yT69_15⟩) ?_
   case yT69_15=>exact ZyQ
   exact ux27
theorem Z7 (fs:List SigM) (rb:Nat) (M:Value) (hps:∀ s∈fs,s.params.length≤1000000000):∀ n,OfAt fs rb M n
 | 0=>fun a vars vv x w hn=>by
  have:=KA a.nd;omega
 | n+1=>fun a vars vv x w hn hb hpre=>by
  have IH:=Z7 fs rb M hps n;obtain ⟨k,nn,s,off,b,c,l⟩:=a;rw[V9] at hn;have hn':sizL (ndL l)≤n:=by omega
  by_cases h1:k=1
  ·subst h1;exact of_1 fs rb M hps n IH nn s off b c l vars vv x w hn' hb hpre
  by_cases h5:k=5
  ·subst h5;exact of_5 fs rb M hps n IH nn s off b c l vars vv x w hn' hb hpre
  by_cases h2:k=2
  ·subst h2;exact of_2 fs rb M hps n IH nn s off b c l vars vv x w hn' hb hpre
  by_cases h3:k=3
  ·subst h3;exact of_3 fs rb M hps n IH nn s off b c l vars vv x w hn' hb hpre
  by_cases h6:k=6
  ·subst h6;exact of_6 fs rb M hps n IH nn s off b c l vars vv x w hn' hb hpre
  by_cases h8:k=8
  ·subst h8;exact of_8 fs rb M hps n IH nn s off b c l vars vv x w hn' hb hpre
  by_cases h9:k=9
  ·subst h9;exact of_9 fs rb M hps n IH nn s off b c l vars vv x w hn' hb hpre
  by_cases h10:k=10
  ·subst h10;exact Jis fs rb M hps n IH nn s off b c l vars vv x w hn' hb hpre
  by_cases h11:k=11
  ·subst h11;exact Jit fs rb M hps n IH nn s off b c l vars vv x w hn' hb hpre
  by_cases h12:k=12
  ·subst h12;exact Jiu fs rb M hps n IH nn s off b c l vars vv x w hn' hb hpre
  by_cases h13:k=13
  ·subst h13;exact Jiv fs rb M hps n IH nn s off b c l vars vv x w hn' hb hpre
  by_cases h14:k=14
  ·subst h14;exact Jiw fs rb M hps n IH nn s off b c l vars vv x w hn' hb hpre
  by_cases h15:k=15
  ·subst h15;exact JiA fs rb M hps n IH nn s off b c l vars vv x w hn' hb hpre
  by_cases h7:k=7
  ·subst h7;exact of_7 fs rb M hps n IH nn s off b c l vars vv x w hn' hb hpre
  by_cases h16:k=16
  ·subst h16;exact Jix fs rb M hps n IH nn s off b c l vars vv x w hn' hb hpre
  by_cases h17:k=17
  ·subst h17;exact Jiy fs rb M hps n IH nn s off b c l vars vv x w hn' hb hpre
  by_cases h18:k=18
  ·subst h18;exact JiB fs rb M hps n IH nn s off b c l vars vv x w hn' hb hpre
  by_cases h19:k=19
  ·subst h19;exact JiC fs rb M hps n IH nn s off b c l vars vv x w hn' hb hpre
  by_cases h20:k=20
  ·subst h20;exact Jiz fs rb M hps n IH nn s off b c l vars vv x w hn' hb hpre
  exact Jha fs rb M hps n IH k nn s off b c l vars vv x w hn' hb hpre ⟨h1,h5,h2,h3,h6,h8,h9,h10,h11,h12,h13,h14,h15,h7,h16,h17,h18,h19,h20⟩
def sigC (f:FnA):List Value:=[.string ⟨#[]⟩,f.tv,.int .i64 f.result,.int .i64 0,.int .i64 0,.string ⟨#[]⟩,.slice none 0 0]
def sigM (f:FnA):SigM:=⟨f.types,f.result⟩
theorem JaW (f:FnA):(sigC f).length=7:=rfl
theorem infoFuncP:(prog.info? 79).map (fun i=>(i.zero,i.size,i.bytes))=some (some (.agg #[.string ⟨#[]⟩,.slice none 0 0,.int .i64 0,.int .i64 0,.int .i64 0,.string ⟨#[]⟩,.slice none 0 0]),7,104):=by kernel_rfl
theorem JdG {W:World} {rb:Nat} {f:FnA} (h:f.Ok W) (hr:f.hi≤rb):IntsAt W rb f.tv f.types:=by
 obtain ⟨m,m1,m2,m3,m4,m5⟩:=h.bmd;have ht:=h.town
 rcases ht.2 with ⟨e,e0⟩ | ⟨g,cap,cur,e,e2,e3,e4,_⟩
 ·exact .inl ⟨List.eq_nil_of_length_eq_zero e0,e⟩
 ·have hg:=m4 g (by rw[e]; rfl);have hw:=h.hle;refine .inr ⟨g,0,cap,e,e4,by omega,by omega,fun i n hi=>?_⟩
  ·have hc:=JM ht (j:=i) (u:=.int .i64 n) (by unfold intCells; rw[List.getElem?_map,hi]; rfl);rw[e] at hc;rw[Nat.zero_add];exact hc
theorem Jhb {W:World} {base rb:Nat} {v:Value} {l:List FnA} (h:W.ownsRow base 79 7 v l.length (l.flatMap sigC)) (hv:∀ f∈l,f.Ok W∧f.hi≤rb) (hrb:v.ownBlock≠some rb):SigsAt W rb v (l.map sigM):=by
 obtain ⟨ad,cc,e,had⟩:=KG h;refine ⟨ad,cc,by rw[List.length_map]; exact e,fun hne=>?_⟩
 have hpos:0<l.length:=by
  rcases l with _ | ⟨a,l⟩
  ·exact absurd rfl hne
  ·exact Nat.succ_pos _
 have ha:=had hpos;subst ha;refine ⟨Value.blk v,0,rfl,fun hb=>hrb (by rw[← hb]; exact KM h hpos),fun i s hs=>?_⟩;rw[List.getElem?_map] at hs;obtain ⟨f,hf,rfl⟩:=Option.map_eq_some_iff.1 hs;obtain ⟨o1,o2⟩:=hv f (List.mem_of_getElem? hf);refine ⟨⟨#[]⟩,f.tv,0,0,⟨#[]⟩,none,0,0,JdG o1 o2,fun j u hj=>?_⟩;have:=JM h (J7 JaW l i j f u hf hj);rw[Nat.zero_add];exact this
structure Ck (w W:World) (sb:Nat) (S:SrcA) (rb:Nat) (x:Option Int) (M:Value):Prop where
 ok:SrcOk W sb S
 flt:FltAt W rb 147 x M
 sigs:SigsAt W rb M (S.funcs.map sigM)
 bel:Below w.heap.size w W
 num:w.heap.size≤rb
 his:∀ iv∈S.ivs,iv.2≤w.heap.size
section
variable {w W W':World} {sb:Nat} {S:SrcA} {rb:Nat} {x:Option Int} {M:Value}
theorem Ck.mk' (h:SrcOk w sb S) (hf:FltAt W rb 147 x M) (hs:SigsAt W rb M (S.funcs.map sigM)) (hb:Below w.heap.size w W) (hn:w.heap.size≤rb):Ck w W sb S rb x M:=
 ⟨h.on (Chg.of_below hb []) (by simp),hf,hs,hb,hn,fun iv hi=>(h.ivs iv hi).2.2⟩
theorem Ck.up (h:Ck w W sb S rb x M) (hb:Below W.heap.size W W'):Ck w W' sb S rb x M:=
 ⟨h.ok.on (Chg.of_below hb []) (by simp),(hb.block _ (Jb h.flt)).trans h.flt,h.sigs.chg (Chg.of_below hb [rb]),Kf h.bel hb.os hb.tape hb.output hb.size (fun k hk=>hb.block k (Nat.lt_of_lt_of_le hk h.bel.size)),h.num,h.his⟩
theorem Ck.step (h0:SrcOk w sb S) (h:Ck w W sb S rb x M) {errs:List Int} {v:Value} {e:Ending} (ht:TyP W rb M x errs v e W'):Ck w W' sb S rb (addL x errs) M:=by
 obtain ⟨_,hf,hc⟩:=ht;have hn:=h.num;exact Ck.mk' h0 hf (h.sigs.chg hc) (Kf h.bel hc.os hc.tape hc.output hc.size (fun k hk=>hc.block k (Nat.lt_of_lt_of_le hk h.bel.size) (by simp; omega))) hn
theorem Ck.preF {f:FnA} (h:Ck w W sb S rb x M) (hf:f∈S.funcs) (hk:TyOk S.funcs.length f.types.length f.body.nd) (hw:WfN f.body.nd):TyPre (S.funcs.map sigM) rb M W x f.types f.tv f.body:=by
 obtain ⟨fo,f1,f2⟩:=h.ok.fok f hf;have hi:=h.his (f.lo,f.hi) (List.mem_append_left _ (List.mem_map.2 ⟨f,hf,rfl⟩));have hn:=h.num;have hfo:=Zd fo;dsimp only at hi;exact ⟨fo.bat,fun hm=>by have:=hfo _ hm; omega,h.flt,h.sigs,JdG fo (by omega),by rw[List.length_map]; exact hk,hw⟩
theorem Ck.preC {c:ClA} (h:Ck w W sb S rb x M) (hc:c∈S.clauses) (hk:TyOk S.funcs.length 0 c.cond.nd) (hw:WfN c.cond.nd):TyPre (S.funcs.map sigM) rb M W x [] (.slice none 0 0) c.cond:=by
 obtain ⟨co,c1⟩:=h.ok.cok c hc;have hi:=h.his (c.lo,c.hi) (List.mem_append_right _ (List.mem_map.2 ⟨c,hc,rfl⟩));have hn:=h.num;dsimp only at hi;exact ⟨co.at',fun hm=>by have:=(co.made.2 _ hm).2; omega,h.flt,h.sigs,.inl ⟨rfl,rfl⟩,by rw[List.length_map]; exact hk,hw⟩
end
def ckF (S:SrcA) (i:Nat):List Int:=((S.funcs.take i).map fun f=>needE (S.funcs.map sigM) f.types f.result f.body.nd).flatten
def ckC (S:SrcA) (i:Nat):List Int:=((S.clauses.take i).map fun c=>needE (S.funcs.map sigM) [] 1 c.cond.nd).flatten
theorem Jfy {S:SrcA} {i:Nat} {f:FnA} (h:S.funcs[i]?=some f):ckF S (i+1)=ckF S i++needE (S.funcs.map sigM) f.types f.result f.body.nd:=by unfold ckF; rw[JN h]; simp
theorem Jfz {S:SrcA} {i:Nat} {c:ClA} (h:S.clauses[i]?=some c):ckC S (i+1)=ckC S i++needE (S.funcs.map sigM) [] 1 c.cond.nd:=by unfold ckC; rw[JN h]; simp
theorem JhW (S:SrcA):ckF S S.funcs.length++ckC S S.clauses.length=checkM S.src:=by
 unfold ckF ckC checkM;rw[List.take_length,List.take_length];unfold SrcA.src;simp only[List.map_map];rfl
theorem JdH (w:World) (sb:Nat) (S:SrcA) (h:SrcOk w sb S) (h1:S.funcs.length≤100000000) (h2:S.clauses.length≤100000000)
  (h3:∀ f∈S.funcs,WfN f.body.nd∧siz f.body.nd≤100000000∧f.types.length≤100000000∧TyOk S.funcs.length f.types.length f.body.nd) (h4:∀ c∈S.clauses,WfN c.cond.nd∧siz c.cond.nd≤100000000∧TyOk S.funcs.length 0 c.cond.nd) :
  Calls prog 37 #[.pointer (some ⟨sb,0,none⟩)] w (EndP w 15 (least (checkM S.src))):=by
 obtain ⟨R,hR⟩:∃ R,EndP w 15 (least (checkM S.src))=R:=⟨_,rfl⟩
 rw[hR];have HR:Hid (R=EndP w 15 (least (checkM S.src))):=hR.symm;obtain ⟨fa,fc,hfv,hfa⟩:=KG h.fown;obtain ⟨ca,cc,hcv,hca⟩:=KG h.cown;have HFV:=Zh hfv;have HCV:=Zh hcv;have HFA:=Zh hfa;have HCA:=Zh hca;have H3:=Zh h3;have H4:=Zh h4;have HS:=Zh h;have b0:w.cell? ⟨sb,0,none⟩=some (.slice fa S.funcs.length fc):=by rw[Ja HS.out.box]; rw[hfv]; rfl
 clear hR hfv hcv hfa hca h h3 h4;go_enter func37,ntmps37;go_wp2_with fail;clear b0;go_loopg [2,15] S.funcs.length (fun g v2 v15 wr=>∃ i:Nat,g+i=S.funcs.length∧v15=.int .i64 i∧Hid (Below w.heap.size w wr)∧Hid (wr.ownsRow w.heap.size 79 7 v2 i ((S.funcs.take i).flatMap sigC)))
 case atStart=>exact ⟨0,rfl,rfl,Zh (Below.refl _ _),Zh ⟨rfl,.inl ⟨rfl,rfl⟩⟩⟩
 case round=>
 obtain ⟨wl,rfl⟩:∃ wl:World,wl=wr:=⟨_,rfl⟩
 obtain ⟨i,hg,rfl,hb,ho⟩:=hrel
 by_cases hi:i<S.funcs.length
 ·have hil:(i:Int)<(S.funcs.length:Int):=by omega
  obtain ⟨fn,hfn⟩:∃ fn,S.funcs[i]?=some fn:=⟨S.funcs[i],List.getElem?_eq_getElem hi⟩
  have had:=HFA.out (by omega);have hs1:=HS.out.on (Chg.of_below hb.out []) (by simp);obtain ⟨fo,_,_⟩:=hs1.fok fn (List.mem_of_getElem? hfn);have hcl:=Vi hs1 hfn;have HTS:Hid ((S.funcs.take (i+1)).flatMap sigC=(S.funcs.take i).flatMap sigC++sigC fn):=by rw[Hid,JN hfn]; simp
  obtain ⟨nm,of,ps,ts,res,b,pv,tv,flo,fhi⟩:=fn;obtain ⟨pa,pn,pc,hpv⟩:=Jh fo.pown;obtain ⟨ta,tn,tc,htv⟩:=Jh fo.town;obtain ⟨va,vn,vc,hvv⟩:=Jh ho.out;dsimp only at hpv htv;subst hpv htv hvv;obtain ⟨yA,yn,yc,hcg⟩:=Jf b;simp only[FnA.cells,hcg,List.cons_append,List.nil_append] at hcl;have c0:=hcl 0 _ rfl;have c1:=hcl 1 _ rfl;have c2:=hcl 2 _ rfl;have c3:=hcl 3 _ rfl;have c4:=hcl 4 _ rfl;have c5:=hcl 5 _ rfl;have c6:=hcl 6 _ rfl;have c7:=hcl 7 _ rfl;have c8:=hcl 8 _ rfl;have c9:=hcl 9 _ rfl;simp only[Nat.add_zero] at c0;have wk:IntKind.i64.wrap ((i:Int)+1)=(i:Int)+1:=IntWalk.i64_in _ (by omega);have HCP:=Zh (heap_alloc_new wl (.cells ([.string (bs nm),.int .i64 of,.slice pa pn pc,.slice ta tn tc,.int .i64 res,.int .i64 b.kind,.int .i64 b.num,.string (bs b.name),.int .i64 b.off,.slice yA yn yc]).toArray 121));have HB1:Hid (Below w.heap.size w (wl.alloc (.cells ([.string (bs nm),.int .i64 of,.slice pa pn pc,.slice ta tn tc,.int .i64 res,.int .i64 b.kind,.int .i64 b.num,.string (bs b.name),.int .i64 b.off,.slice yA yn yc]).toArray 121))):=hb.out.alloc hb.out.size _;have HOW:Hid ((wl.alloc (.cells ([.string (bs nm),.int .i64 of,.slice pa pn pc,.slice ta tn tc,.int .i64 res,.int .i64 b.kind,.int .i64 b.num,.string (bs b.name),.int .i64 b.off,.slice yA yn yc]).toArray 121)).ownsRow w.heap.size 79 7 (.slice va vn vc) i ((S.funcs.take i).flatMap sigC)):=ho.out.alloc _;have HG:=Zh hg;subst had;clear hcl hfn fo hg hcg hs1 hb ho;go_upto_region 4 with fail;clear c0 c1 c2 c3 c4 c5 c6 c7 c8 c9;generalize World.alloc wl _=w1 at *;generalize wl.heap.size=cb at *;have n2:=Ja HCP.out 2;have n3:=Ja HCP.out 3;have n4:=Ja HCP.out 4;simp only[ZD,ZE,ZF] at n2 n3 n4;obtain ⟨i0,hi0,hz0,hz1,hz2⟩:=info_parts infoFuncP;have HI:=Zh hi0;clear hi0;go_wp2_with (at_builtin; refine wpList_append_own _ rfl _ _ 27 rfl w.heap.size 79 i0 (.agg #[.string ⟨#[]⟩,.slice none 0 0,.int .i64 0,.int .i64 0,.int .i64 0,.string ⟨#[]⟩,.slice none 0 0]) 7 104 underlying27 HI.out hz0 hz1 hz2 rfl (by decide) _ _ _ rfl (HOW.out.alloc _) ⟨w1.heap.size,0,none⟩ 1 1 [.string ⟨#[]⟩,.slice ta tn tc,.int .i64 res,.int .i64 0,.int .i64 0,.string ⟨#[]⟩,.slice none 0 0] rfl rfl ?c1 ?c2 ?c3 ?c4 ?c5 ?_)
  case c2=>exact ⟨rfl,rfl,rfl,rfl,rfl,rfl⟩
  case c3=>unfold maxLen; omega
  case c4=>omega
  case c5=>have:=HB1.out.size; omega
  intro v' w' hown' hgrow _;have HO7:Hid (w'.ownsRow w.heap.size 79 7 v' (i+1) ((S.funcs.take (i+1)).flatMap sigC)):=by rw[Hid,HTS.out]; exact hown'
  have HB7:Hid (Below w.heap.size w w'):=by
   have hc:=JH hgrow;exact Kf HB1.out hc.os hc.tape hc.output hc.size (fun k hk=>hc.block k (by have:=HB1.out.size; omega) (fun hm=>by have:=(HOW.out.lt k (by simpa using hm)).1; omega))
  clear hown' hgrow HB1 HOW n2 n3 n4 HCP;go_wp2;go_roundg (S.funcs.length-(i+1))
  case measure=>have:=HG.out; omega
  case rel=>exact ⟨i+1,by omega,by go_num,HB7,HO7⟩
 ·have hil:¬ (i:Int)<(S.funcs.length:Int):=by omega
  obtain rfl:i=S.funcs.length:=by omega
  have ho2:=ho.out;rw[List.take_length] at ho2;obtain ⟨va,vn,vc,hvv⟩:=Jh ho2;subst hvv;have hb0:Below w.heap.size w (wl.alloc (.cells #[.bool false,.int .i64 0,.slice va vn vc] 147)):=hb.out.alloc hb.out.size _
  have HCK:Hid (Ck w (wl.alloc (.cells #[.bool false,.int .i64 0,.slice va vn vc] 147)) sb S wl.heap.size (addL none (ckF S 0)) (.slice va vn vc)):=by
   have hs2:=HS.out.on (Chg.of_below hb0 []) (by simp);refine Ck.mk' HS.out (heap_alloc_new _ _) (Jhb (ho2.alloc _) (fun f hf=>⟨(hs2.fok f hf).1,?_⟩) (fun e=>?_)) hb0 hb.out.size
   ·have:=(HS.out.ivs (f.lo,f.hi) (List.mem_append_left _ (List.mem_map.2 ⟨f,hf,rfl⟩))).2.2;have:=hb.out.size;dsimp only at *;omega
   ·have:=(ho2.lt _ e).2;omega
  have hbx:=HCK.out.ok.box;rw[HFV.out] at hbx;have b1:=Ja hbx 0;simp only[ZD,ZE,ZF] at b1;clear hi hg ho ho2 hb hb0 hbx
  have HPS:Hid (∀ s∈S.funcs.map sigM,s.params.length≤1000000000):=fun s hs=>by
   obtain ⟨f,hf,rfl⟩:=List.mem_map.1 hs;have:=(H3.out f hf).2.2.1
   show f.types.length≤_
   omega
  go_wp2_with fail;clear b1;generalize World.alloc wl _=w2 at *;generalize wl.heap.size=rb at *;generalize Value.slice va vn vc=M at *;go_loopg [36] S.funcs.length (fun g v36 wr=>∃ i:Nat,g+i=S.funcs.length∧v36=.int .i64 i∧Hid (Ck w wr sb S rb (addL none (ckF S i)) M))
  case atStart=>exact ⟨0,rfl,rfl,HCK⟩
  case round=>
  clear HCK hil;obtain ⟨wm,rfl⟩:∃ wm:World,wm=wr:=⟨_,rfl⟩
  obtain ⟨i,hg,rfl,hk⟩:=hrel
  by_cases hi:i<S.funcs.length
  ·have hil:(i:Int)<(S.funcs.length:Int):=by omega
   obtain ⟨fn,hfn⟩:∃ fn,S.funcs[i]?=some fn:=⟨S.funcs[i],List.getElem?_eq_getElem hi⟩
   have hmem:=List.mem_of_getElem? hfn;have had:=HFA.out (by omega);obtain ⟨fo,_,_⟩:=hk.out.ok.fok fn hmem;have hcl:=Vi hk.out.ok hfn;obtain ⟨hwf,hsz,htl,hty⟩:=H3.out fn hmem;have HES:=Zh (Jfy hfn);have hb1:Below wm.heap.size wm (wm.alloc (.cells fn.cells.toArray 121)):=(Below.refl _ _).alloc (Nat.le_refl _) _;have cn:=JB (S.funcs.map sigM) rb M fn.body fn.types fn.tv (addL none (ckF S i)) fn.result _ ((hk.out.up hb1).preF hmem hty hwf) (fun W hp=>Z7 _ rb M HPS.out (siz fn.body.nd) fn.body fn.types fn.tv _ W (Nat.le_refl _) (by omega) hp);have HK1:=Zh (hk.out.up hb1);obtain ⟨nm,of,ps,ts,res,b,pv,tv,flo,fhi⟩:=fn;obtain ⟨pa,pn,pc,hpv⟩:=Jh fo.pown;obtain ⟨ta,tn,tc,htv⟩:=Jh fo.town;dsimp only at hpv htv cn HES;subst hpv htv;obtain ⟨yA,yn,yc,hcg⟩:=Jf b;obtain ⟨E,hE⟩:∃ E,needE (S.funcs.map sigM) ts res b.nd=E:=⟨_,rfl⟩
   rw[hE] at cn HES;simp only[FnA.cells,hcg,List.cons_append,List.nil_append] at hcl cn HK1;have c0:=hcl 0 _ rfl;have c1:=hcl 1 _ rfl;have c2:=hcl 2 _ rfl;have c3:=hcl 3 _ rfl;have c4:=hcl 4 _ rfl;have c5:=hcl 5 _ rfl;have c6:=hcl 6 _ rfl;have c7:=hcl 7 _ rfl;have c8:=hcl 8 _ rfl;have c9:=hcl 9 _ rfl;simp only[Nat.add_zero] at c0;have wk:IntKind.i64.wrap ((i:Int)+1)=(i:Int)+1:=IntWalk.i64_in _ (by omega);have HG:=Zh hg;subst had;clear hcl hfn fo hg hcg hk hb1 hE hwf hsz htl hty hmem;go_wp2_with fail;clear c0 c1 c2 c3 c4 c5 c6 c7 c8 c9;refine cn.mono ?_;intro e w8 hr
   have HK8:Hid (Ck w w8 sb S rb (addL none (ckF S (i+1))) M):=by
    rw[Hid,HES.out,Js];exact HK1.out.step HS.out hr
   obtain rfl:=hr.1;clear hr cn HK1;go_wp2;go_roundg (S.funcs.length-(i+1))
   case measure=>have:=HG.out; omega
   case rel=>exact ⟨i+1,by omega,by go_num,HK8⟩
  ·have hil:¬ (i:Int)<(S.funcs.length:Int):=by omega
   obtain rfl:i=S.funcs.length:=by omega
   obtain ⟨X0,hX0⟩:∃ X0,addL none (ckF S S.funcs.length)=X0:=⟨_,rfl⟩
   rw[hX0] at hk;have HX0:=Zh hX0;have HCK:Hid (Ck w wm sb S rb (addL X0 (ckC S 0)) M):=hk;have hbx:=HCK.out.ok.box;rw[HCV.out] at hbx;have b1:=Ja hbx 1;simp only[ZD,ZE,ZF] at b1;clear hi hg hk hX0 hbx H3 HFA;go_wp2_with fail;clear b1;go_loopg [54] S.clauses.length (fun g v54 wr=>∃ i:Nat,g+i=S.clauses.length∧v54=.int .i64 i∧Hid (Ck w wr sb S rb (addL X0 (ckC S i)) M))
   case atStart=>exact ⟨0,rfl,rfl,HCK⟩
   case round=>
   clear HCK hil;obtain ⟨wc,rfl⟩:∃ wc:World,wc=wr:=⟨_,rfl⟩
   obtain ⟨i,hg,rfl,hk⟩:=hrel
   by_cases hi:i<S.clauses.length
   ·have hil:(i:Int)<(S.clauses.length:Int):=by omega
    obtain ⟨c,hcc⟩:∃ c,S.clauses[i]?=some c:=⟨S.clauses[i],List.getElem?_eq_getElem hi⟩
    have hmem:=List.mem_of_getElem? hcc;have had:=HCA.out (by omega);have hcl:=JbF hk.out.ok hcc;obtain ⟨hwf,hsz,hty⟩:=H4.out c hmem;have HES:=Zh (Jfz hcc);have hb1:Below wc.heap.size wc (wc.alloc (.cells c.cells.toArray 125)):=(Below.refl _ _).alloc (Nat.le_refl _) _;have cn:=JB (S.funcs.map sigM) rb M c.cond [] (.slice none 0 0) (addL X0 (ckC S i)) 1 _ ((hk.out.up hb1).preC hmem hty hwf) (fun W hp=>Z7 _ rb M HPS.out (siz c.cond.nd) c.cond [] (.slice none 0 0) _ W (Nat.le_refl _) (by simp; omega) hp);have HK1:=Zh (hk.out.up hb1);obtain ⟨b,ac,rs,clo,chi⟩:=c;obtain ⟨yA,yn,yc,hcg⟩:=Jf b;obtain ⟨E,hE⟩:∃ E,needE (S.funcs.map sigM) [] 1 b.nd=E:=⟨_,rfl⟩
    dsimp only at cn HES;rw[hE] at cn HES;simp only[ClA.cells,hcg,List.cons_append,List.nil_append] at hcl cn HK1;have c0:=hcl 0 _ rfl;have c1:=hcl 1 _ rfl;have c2:=hcl 2 _ rfl;have c3:=hcl 3 _ rfl;have c4:=hcl 4 _ rfl;have c5:=hcl 5 _ rfl;have c6:=hcl 6 _ rfl;simp only[Nat.add_zero] at c0;have wk:IntKind.i64.wrap ((i:Int)+1)=(i:Int)+1:=IntWalk.i64_in _ (by omega);have HG:=Zh hg;subst had;clear hcl hcc hg hcg hk hb1 hE hwf hsz hty hmem;go_wp2_with fail;clear c0 c1 c2 c3 c4 c5 c6;refine cn.mono ?_;intro e w8 hr
    have HK8:Hid (Ck w w8 sb S rb (addL X0 (ckC S (i+1))) M):=by
     rw[Hid,HES.out,Js];exact HK1.out.step HS.out hr
    obtain rfl:=hr.1;clear hr cn HK1;go_wp2;go_roundg (S.clauses.length-(i+1))
    case measure=>have:=HG.out; omega
    case rel=>exact ⟨i+1,by omega,by go_num,HK8⟩
   ·have hil:¬ (i:Int)<(S.clauses.length:Int):=by omega
    obtain rfl:i=S.clauses.length:=by omega
    have hk2:=hk.out;rw[← HX0.out,← Js,JhW,YD] at hk2;have HK:=Zh hk2;have r0:=Ja HK.out.flt 0;have r1:=Ja HK.out.flt 1;simp only[ZD,ZE,ZF] at r0 r1;clear hi hg hk hk2 HX0 HCA H4 HPS
    cases hL:least (checkM S.src) with
    | none=>
     rw[hL] at r0 r1;simp only[Option.isSome,Option.getD] at r0 r1;have HL:=Zh hL;clear hL;go_wp2;go_end0;rw[HR.out];unfold EndP;rw[HL.out];exact ⟨rfl,HK.out.bel⟩
    | some er=>
     rw[hL] at r0 r1;simp only[Option.isSome,Option.getD] at r0 r1;have HL:=Zh hL;clear hL;go_wp2;refine ⟨rfl,?_⟩;rw[HR.out];unfold EndP;rw[HL.out];exact ⟨rfl,HK.out.bel⟩
end Go.Proofs.YtncanmdgdflnpaaGreatDoor
