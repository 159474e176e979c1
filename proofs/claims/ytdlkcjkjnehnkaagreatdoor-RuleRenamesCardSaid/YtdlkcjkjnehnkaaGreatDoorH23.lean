import Derived.Test.YtdlkcjkjnehnkaaGreatDoorH22
open Nat(add_zero one_mul zero_add zero_mul)
namespace Go.Proofs.YtdlkcjkjnehnkaaGreatDoor
open Go.ChangeShapes Go.WideShapes Go.ChangeAt Go.RowKit Go.Lib
open _root_.Go.Proofs.Tryz
set_option linter.all false
set_option maxRecDepth 100000
set_option maxHeartbeats 32000000
theorem JcJ(g o n vc:Nat)(h:n<=vc)(W:World):(Instr.slice 42 (.slice (some ⟨g,o,none⟩) n vc) none (some (.int .i64 n)) (some (.int .i64 n))).run prog W=.ok (.slice (some ⟨g,o,none⟩) n n) W:=by
 rw[run_slice_hm W 42 (some ⟨g,o,none⟩) n vc (show prog.underlying 42=some (.slice (prog.elem 42)) by kernel_rfl) .i64 .i64 n n (by omega) (by omega) (by omega)];rw[show (sizeOf (prog.elem 42)).run prog W=.ok 1 W by kernel_rfl];simp[Result.andThen,sliced,Addr.add]
theorem JcK(ad:Option Addr)(vc:Nat)(W:World):∃ ad2,∀ W:World,(Instr.slice 42 (.slice ad 0 vc) none (some (.int .i64 0)) (some (.int .i64 0))).run prog W=.ok (.slice ad2 0 0) W:=by
 refine⟨ad,fun W=>?_⟩;rw[run_slice_hm W 42 ad 0 vc (show prog.underlying 42=some (.slice (prog.elem 42)) by kernel_rfl) .i64 .i64 0 0 (by omega) (by omega) (by omega)];rw[show (sizeOf (prog.elem 42)).run prog W=.ok 1 W by kernel_rfl]
 cases ad<;>simp[Result.andThen,sliced,Addr.add]
theorem QhQ:(prog.info? 3).map (fun i=>(i.zero,i.size,i.bytes))=some (some (.int .i64 0),1,8):=by kernel_rfl
theorem Qmw{P:Prop}(h:P:=by
  simp only[ho,resolve,invoke,builtin,Sem.run_bind,Sem.run_pure,Result.andThen_ok,List.map_toArray,List.map_cons,List.map_nil,hs,hx,hr];refine h _ _ (hvar _ _ (grownCap_ge w 1 0 3) fun i n hs=>?_) (hbel _);have:i=0:=by have:=(List.getElem?_eq_some_iff.1 hs).1;simp at this;exact this
  subst this;have hs':nm=n:=by simpa using hs
  subst hs';rw[Array.getElem?_append_left (by simp)]
  rfl):P:=h
theorem J9{ops:Array Oper}{o:Oper}{ac:Act}{K:Act->World->Prop}{Q:Exit->Act->World->Prop}{E:Prop}(w:World)(hgd:o.guard=none)(s x:Operand)
  (ho:o.op=.call { callee:=.builtin .append,args:=#[s,x],argTypes:=#[42,42] }) (vars:List Int) (sv:Value) (hsv:(vars=[]/\∃ ad,sv=.slice ad 0 0)\/∃ g o,sv=.slice (some ⟨g,o,none⟩) vars.length vars.length/\∀ i n,vars[i]?=some n->w.cell? ⟨g,o+i,none⟩=some (.int .i64 n)) (hs:ac.eval s=sv)
  (rr:Nat) (nm:Int) (hx:ac.eval x=.slice (some ⟨rr,0,none⟩) 1 1) (hrow:w.heap[rr]?=some (.cells #[.int .i64 nm] 3 (0,0)))
  (hlen:vars.length<=1000000000) (rb:Nat) (hrb:rb<w.heap.size)
  (h:∀ w' cc,QbZ w' rb (.slice (some ⟨w.heap.size,0,none⟩) (vars.length+1) cc) (vars++[nm])->Below w.heap.size w w'->K (ac.put o.dst (.slice (some ⟨w.heap.size,0,none⟩) (vars.length+1) cc)) w') :
  if Region.wanted o (yielded ops ac.tmps)=true then Oper.wp prog o ac w K Q else E:=by
 have hw:Region.wanted o (yielded ops ac.tmps)=true:=by simp[Region.wanted,hgd]
 rw[if_pos hw];obtain⟨i0,hi,hz0,hz1,hz2⟩:=info_parts QhQ
 have hnews:∀ j u,[Value.int .i64 nm][j]?=some u->w.cell? ((⟨rr,0,none⟩:Addr).add j)=some u:=fun j u hj=>by
  rw[show (⟨rr,0,none⟩:Addr).add j=⟨rr,j,none⟩ by unfold Addr.add;split<;>simp_all];exact KO hrow hj
 have hvar:∀ (cs:Array Value) (cc:Nat),vars.length+1<=cc->(∀ (i:Nat) (n:Int),(vars++[nm])[i]?=some n->cs[i]?=some (Value.int .i64 n))->QbZ (w.drew.alloc (.cells cs 3)) rb (.slice (some ⟨w.heap.size,0,none⟩) (vars.length+1) cc) (vars++[nm]):=by
  intro cs cc h1 h2;refine .inr ⟨w.heap.size,0,cc,by rw[List.length_append];rfl,by rw[List.length_append];exact h1,by omega,by simp,fun i n hs=>?_⟩;rw[zero_add];exact(Ja (zzw w.drew (.cells cs 3)) i).trans (h2 i n hs)
 have hbel:∀ cs:Array Value,Below w.heap.size w (w.drew.alloc (.cells cs 3)):=fun cs=>((Below.refl w.heap.size w).drew).alloc zzl _
 unfold Oper.wp execOp
 rcases hsv with⟨hv,ad,rfl⟩|⟨g,o',rfl,hc⟩
 ·subst hv
  cases ad with
  |some ad=>
   have hr:=run_append_grow (P:=prog) w 42 o.type 3 i0 _ underlying42 hi hz0 ad 0 0 [] (by rw[hz1];rfl) (fun j u hj=>by simp at hj) ⟨rr,0,none⟩ 1 1 [.int .i64 nm] (by rw[hz1];rfl) hnews (by omega) (by omega) (growslice_fits (by omega) (by rw[hz2];omega));exact Qmw
  |none=>
  have hr:=run_append_nil (P:=prog) w 42 o.type 3 i0 _ underlying42 hi hz0 ⟨rr,0,none⟩ 1 1 [.int .i64 nm] (by rw[hz1];rfl) hnews (by decide) (by decide) (by rw[hz2];decide);exact Qmw
 ·have hr:=run_append_grow (P:=prog) w 42 o.type 3 i0 _ underlying42 hi hz0 ⟨g,o',none⟩ vars.length vars.length (vars.map fun n=>.int .i64 n) (by rw[hz1];simp) (fun j u hj=>by
   rw[show (⟨g,o',none⟩:Addr).add j=⟨g,o'+j,none⟩ by unfold Addr.add;split<;>simp_all];rw[List.getElem?_map]at hj;obtain⟨n,h1,rfl⟩:=Option.map_eq_some_iff.1 hj
   exact hc j n h1) ⟨rr,0,none⟩ 1 1 [.int .i64 nm] (by rw[hz1];rfl) hnews (by omega) (by omega) (growslice_fits (by omega) (by rw[hz2];omega))
  simp only[ho,resolve,invoke,builtin,Sem.run_bind,Sem.run_pure,Result.andThen_ok,List.map_toArray,List.map_cons,List.map_nil,hs,hx,hr];refine h _ _ (hvar _ _ (grownCap_ge w (vars.length+1) vars.length 3) fun i n hs=>?_) (hbel _);have hlt:=(List.getElem?_eq_some_iff.1 hs).1;rw[Array.getElem?_append_left (by simp at hlt |-;omega)];have e:(vars.map fun n=>Value.int .i64 n).toArray++[Value.int .i64 nm].toArray=((vars++[nm]).map fun n=>Value.int .i64 n).toArray:=by simp
  rw[e,List.getElem?_toArray,List.getElem?_map,hs];rfl
theorem Qas.let1{fs:List Qbn}{rb:Nat}{M:Value}{W:World}{x:Option Int}{vars:List Int}{vv:Value}{nn:Int}{s:List UInt8}{off:Int}{b c:Nat}{y z:An}(h:Qas fs rb M W x vars vv (.mk 19 nn s off b c [y,z])):Qas fs rb M W x vars vv y/\∀ vars' vv',vars'.length=vars.length+1->QbZ W rb vv' vars'->Qas fs rb M W x vars' vv' z:=by
 have hat:=h.at';unfold An.At at hat;have hrf:=h.rf;rw[KP,if_neg (by simp)]at hrf;have hok:=h.ok;unfold An.nd QdW at hok;have hok2:=hok.2.2;simp only[ndL,beq_self_eq_true]at hok2;have hwf:=h.wf;unfold An.nd WfN at hwf;have hw2:=hwf.2.2.2.2
 exact⟨⟨(JT (i:=0) hat.2 rfl).2,fun hm=>hrf (List.mem_cons_of_mem _ (JB (by simp) _ hm)),h.flt,h.sigs,h.ints,hok2.1,JaB hw2 _ (by simp[ndL])⟩,
  fun vars' vv' hl hi=>⟨(JT (i:=1) hat.2 rfl).2,fun hm=>hrf (List.mem_cons_of_mem _ (JB (by simp) _ hm)),h.flt,h.sigs,hi,by rw[hl];exact hok2.2,JaB hw2 _ (by simp[ndL])⟩⟩
theorem JmA(fs:List Qbn)(rb:Nat)(M:Value)(hps:∀ s∈fs,s.params.length<=1000000000)(n:Nat)(IH:Qed fs rb M n)(nn:Int)(s:List UInt8)(off:Int)(b c:Nat)(l:List An)(vars:List Int)(vv:Value)(x:Option Int)(w:World)(hn:Qbq (ndL l)<=n)(hb:n+1+vars.length<=1000000000)(hpre:Qas fs rb M w x vars vv (.mk 19 nn s off b c l))  :
  Calls prog 85 #[.pointer (some ⟨rb,0,none⟩),.agg (Qaa (.mk 19 nn s off b c l)),vv] w (TyP w rb M x (ofN fs vars (An.mk 19 nn s off b c l).nd).2 (.int .i64 (ofN fs vars (An.mk 19 nn s off b c l).nd).1)):=by
 obtain⟨r,hr⟩:∃ r,ofN fs vars (An.mk 19 nn s off b c l).nd=r:=⟨_,rfl⟩
 rw[hr];obtain⟨ty,es⟩:=r;dsimp only;obtain⟨R,hR⟩:∃ R,TyP w rb M x es (.int .i64 ty)=R:=⟨_,rfl⟩
 rw[hR];have HR:Hid (R=TyP w rb M x es (.int .i64 ty)):=hR.symm;rw[An.nd,Ks]at hr;have hlen:l.length<=n:=by have:=Jx l;omega
 obtain⟨ad,cc,hkv,had⟩:=Jo b c l
 have hcs:Qaa (.mk 19 nn s off b c l)=#[.int .i64 19,.int .i64 nn,.string (bs s),.int .i64 off,.slice ad l.length cc]:=by
  show #[_,_,_,_,QaB b c l]=_
  rw[hkv]
 have hbA:Below w.heap.size w (w.alloc (.cells (Qaa (.mk 19 nn s off b c l)) 103)):=zzb.alloc zzl _;have hrl:=Jb hpre.flt;have hcb:w.heap.size≠rb:=by omega
 have HP:=Zh (hpre.up hbA);have HBA:=Zh (Chg.of_below hbA [rb]);have HCP:=Zh (zzw w (.cells (Qaa (.mk 19 nn s off b c l)) 103));have HAD:=Zh had;have HCS:=Zh hcs;have HN:=Zh hn;rw[hcs]at HBA HCP |-;have HP2:Hid (Qas fs rb M (w.alloc (.cells #[.int .i64 19,.int .i64 nn,.string (bs s),.int .i64 off,.slice ad l.length cc] 103)) x vars vv (.mk 19 nn s off b c l)):=by rw[<- hcs];exact HP.out
 clear hR hbA hkv had hcs hrl HP hpre hn
 obtain⟨y,z,hl2⟩:∃ y z,l=[y,z]:=by
  have hwf:=HP2.out.wf;unfold An.nd WfN at hwf;have h2:=hwf.1 rfl;rw[Kj,List.length_map]at h2
  match l,h2 with
  |[y,z],_=>exact⟨y,z,rfl⟩
 subst hl2;have had':ad=some ⟨b,0,none⟩:=HAD.out (by simp);subst had';obtain⟨yA,yn,yc,hcfy⟩:=Jf y;have HCFy:=Zh hcfy;clear hcfy;have HSy:Hid (siz y.nd<=n):=Nat.le_trans (JL (by simp:y∈[y,z])) HN.out;obtain⟨zA,zn,zc,hcfz⟩:=Jf z;have HCFz:=Zh hcfz;clear hcfz;have HSz:Hid (siz z.nd<=n):=Nat.le_trans (JL (by simp:z∈[y,z])) HN.out;obtain⟨ry,hry⟩:∃ ry,ofN fs vars y.nd=ry:=⟨_,rfl⟩
 obtain⟨ty1,es1⟩:=ry
 have hr2:ty=(ofN fs (vars++[ty1]) z.nd).1/\es=es1++(ofN fs (vars++[ty1]) z.nd).2:=by
  simp[ndL,hry]at hr;exact⟨hr.1.symm,hr.2.symm⟩
 have HRV:=Zh hr2;have HPC:=HP2;have HCC:=HCP;clear hr hr2 HP2 HCP HAD HCS HN;go_enter func85,ntmps85;go_upto_region 35 with fail;generalize World.alloc w _=w1 at *;generalize w.heap.size=cb at *;have cy:=IH y vars vv _ _ HSy.out (by omega) HPC.out.let1.1;rw[HCFy.out,hry]at cy;dsimp only at cy;have hat:=HPC.out.at';unfold An.At at hat;have hcl:=(JT (i:=0) hat.2 rfl).1;rw[HCFy.out]at hcl;have c0:=hcl 0 _ rfl;have c1:=hcl 1 _ rfl;have c2:=hcl 2 _ rfl;have c3:=hcl 3 _ rfl;have c4:=hcl 4 _ rfl;simp only[zero_add,zero_mul,one_mul,Nat.reduceMul,Nat.reduceAdd,add_zero]at c0 c1 c2 c3 c4;have m4:=Ja HCC.out 4;simp only[ZD,ZE,ZF]at m4;go_wp2_with fail;clear hat hcl c0 c1 c2 c3 c4;clear m4 hry;refine cy.mono ?_;rintro e w2 ⟨rfl,hf2,hc2⟩;replace HPC:=Zh (HPC.out.chg hc2 hf2);replace HCC:=Zh (hc2.heap_some (by simp;exact hcb) HCC.out);replace HBA:=Zh (HBA.out.trans hc2);clear cy hf2 hc2;go_upto_region 36 with fail
 obtain⟨sv,hsl,hsv⟩:∃ sv,(∀ W:World,(Instr.slice 42 vv none (some (.int .i64 vars.length)) (some (.int .i64 vars.length))).run prog W=.ok sv W)/\((vars=[]/\∃ ad,sv=.slice ad 0 0)\/∃ g o,sv=.slice (some ⟨g,o,none⟩) vars.length vars.length/\∀ W',Below w2.drew.heap.size w2.drew W'->∀ i n,vars[i]?=some n->W'.cell? ⟨g,o+i,none⟩=some (.int .i64 n)):=by
  rcases HPC.out.ints with⟨e1,ad,vc,e2⟩|⟨g,o,vc,e,h2,_,_,h5⟩
  ·subst e1 e2;obtain⟨ad2,hz⟩:=JcK ad vc w2;exact⟨_,hz,.inl ⟨rfl,ad2,rfl⟩⟩
  ·subst e;exact⟨_,JcJ g o vars.length vc h2,.inr ⟨g,o,rfl,fun W' hb i n hi=>(hb.cell (World.block_lt_of_cell? _ _ (h5 i n hi))).trans (h5 i n hi)⟩⟩
 have hvs:∃ a m c',vv=.slice a m c'/\m=vars.length:=by
  rcases HPC.out.ints with⟨e1,ad,vc,e2⟩|⟨g,o,vc,e,_⟩
  ·exact⟨_,_,_,e2,by rw[e1];rfl⟩
  ·exact⟨_,_,_,e,rfl⟩
 obtain⟨va,vn,vc2,rfl,hvn⟩:=hvs;subst hvn;have HSV:=Zh hsv;have hss:∃ a m c',sv=.slice a m c':=by rcases hsv with⟨_,_,rfl⟩|⟨_,_,rfl,_⟩<;>exact⟨_,_,_,rfl⟩
 obtain⟨sa,sm,sc,rfl⟩:=hss;have hvl:vars.length<=1000000000:=by omega
 clear hsv;refine wp_region_held_drew (S:=fun _=>True) (by kernel_rfl) (trivial) (fun hH=>?_);have hD:Below w2.heap.size w2 w2.drew:=(Below.refl w2.heap.size w2).drew;replace HPC:=Zh (HPC.out.up hD);replace HCC:=Zh ((hD.block _ (Jb HCC.out)).trans HCC.out);replace HBA:=Zh (HBA.out.trans (Chg.of_below hD [rb]));clear hD;generalize w2.drew=w3 at *;refine ZT (i:=0) (v:=?vT45_0) rfl (Or.inl ⟨by rfl,?yT45_0⟩) ?_
 case yT45_0=>exact ZyQ
 try simp only[Act.put,ZA,ZB,ZC]
 refine ZT (i:=1) (v:=?vT45_1) rfl (Or.inl ⟨by rfl,?yT45_1⟩) ?_
 case yT45_1=>exact ZyQ
 try simp only[Act.put,ZA,ZB,ZC]
 refine ZT (i:=5) (v:=?vT45_5) rfl (Or.inl ⟨by rfl,?yT45_5⟩) ?_
 case yT45_5=>exact ZyQ
 try simp only[Act.put,ZA,ZB,ZC]
 refine ZT (i:=6) (v:=?vT45_6) rfl (Or.inl ⟨by rfl,?yT45_6⟩) ?_
 case yT45_6=>exact ZyQ
 try simp only[Act.put,ZA,ZB,ZC]
 refine ZT (i:=7) (v:=?vT45_7) rfl (Or.inl ⟨by rfl,?yT45_7⟩) ?_
 case yT45_7=>exact ZyQ
 try simp only[Act.put,ZA,ZB,ZC]
 refine ZT (i:=8) (v:=?vT45_8) rfl (Or.inl ⟨by rfl,?yT45_8⟩) ?_
 case yT45_8=>exact ZyQ
 try simp only[Act.put,ZA,ZB,ZC]
 refine ZT (i:=9) (v:=?vT45_9) rfl (Or.inl ⟨by rfl,?yT45_9⟩) ?_
 case yT45_9=>exact ZyQ
 try simp only[Act.put,ZA,ZB,ZC]
 refine ZT (i:=10) (v:=?vT45_10) rfl (Or.inl ⟨by rfl,?yT45_10⟩) ?_
 case yT45_10=>exact ZyQ
 try simp only[Act.put,ZA,ZB,ZC]
 refine ZT (i:=11) (v:=?vT45_11) rfl (Or.inl ⟨by rfl,?yT45_11⟩) ?_
 case yT45_11=>exact ZyQ
 try simp only[Act.put,ZA,ZB,ZC]
 refine ZR (rs:=[2,12]) (AllReadyH.cons rfl (fun K hK=>?_) (AllReadyH.cons rfl (fun K hK=>?_) AllReadyH.nil))
 ·have m4:=Ja HCC.out 4;simp only[ZD,ZE,ZF]at m4;go_simp;clear m4;refine hK.out _ _ trivial (fun hH=>?_);clear hK K
  try simp only[Act.put,ZA,ZB,ZC]
  refine ZT (i:=3) (v:=?vT46_3) rfl (Or.inl ⟨by rfl,?yT46_3⟩) ?_
  case yT46_3=>exact ZyQ
  try simp only[Act.put,ZA,ZB,ZC]
  refine ZR (rs:=[4,12]) (AllReadyH.cons rfl (fun K hK=>?_) (AllReadyH.cons rfl (fun K hK=>?_) AllReadyH.nil))
  ·have hat:=HPC.out.at';unfold An.At at hat;have hcl:=(JT (i:=1) hat.2 rfl).1;rw[HCFz.out]at hcl;have c0:=hcl 0 _ rfl;have c1:=hcl 1 _ rfl;have c2:=hcl 2 _ rfl;have c3:=hcl 3 _ rfl;have c4:=hcl 4 _ rfl;simp only[zero_add,zero_mul,one_mul,Nat.reduceMul,Nat.reduceAdd,add_zero]at c0 c1 c2 c3 c4;go_simp;clear hat hcl c0 c1 c2 c3 c4;refine hK.out _ _ trivial (fun hH=>?_);clear hK K
   try simp only[Act.put,ZA,ZB,ZC]
   refine ZS 12 rfl (fun K hK=>?_);go_simp;refine hK.out _ _ trivial (fun hH=>?_);have hb6:Below w3.heap.size w3 (w3.alloc (.cells #[.int .i64 ty1] 3)):=zzb.alloc zzl _;replace HPC:=Zh (HPC.out.up hb6);replace HCC:=Zh ((hb6.block _ (Jb HCC.out)).trans HCC.out);replace HBA:=Zh (HBA.out.trans (Chg.of_below hb6 [rb]));have HRW:=Zh (zzw w3 (.cells #[.int .i64 ty1] 3));have HB6:=Zh hb6;clear hb6;clear hK K
   try simp only[Act.put,ZA,ZB,ZC]
   refine ZS 13 rfl (fun K hK=>?_);have hsv2:(vars=[]/\∃ ad,(Value.slice sa sm sc)=.slice ad 0 0)\/∃ g o,(Value.slice sa sm sc)=.slice (some ⟨g,o,none⟩) vars.length vars.length/\∀ i n,vars[i]?=some n->(w3.alloc (.cells #[.int .i64 ty1] 3)).cell? ⟨g,o+i,none⟩=some (Value.int .i64 n):=HSV.out.imp id (fun ⟨g,o,h1,h2⟩=>⟨g,o,h1,h2 _ HB6.out⟩)
   (refine J9 (w3.alloc (.cells #[.int .i64 ty1] 3)) (by rfl) (.tmp 118) (.tmp 120) (by rfl) vars _ hsv2 (by rfl) w3.heap.size ty1 (by rfl) HRW.out hvl rb (Jb HPC.out.flt) ?_;intro w5 cc5 hi5 hb5)
   replace HPC:=Zh (HPC.out.up hb5);replace HCC:=Zh ((hb5.block _ (Jb HCC.out)).trans HCC.out);replace HBA:=Zh (HBA.out.trans (Chg.of_below hb5 [rb]));have HI5:=Zh hi5;generalize (w3.alloc (.cells #[.int .i64 ty1] 3)).heap.size=g5 at *;clear hsv2 hi5 hb5 HRW HB6 HSV;refine hK.out _ _ trivial (fun hH=>?_);clear hK K
   try simp only[Act.put,ZA,ZB,ZC]
   refine ZS 14 rfl (fun K hK=>?_);have hl5:(vars++[ty1]).length=vars.length+1:=by simp
   have cn:=IH z (vars++[ty1]) (.slice (some ⟨g5,0,none⟩) (vars.length+1) cc5) _ _ HSz.out (by rw[hl5];omega) (HPC.out.let1.2 _ _ hl5 HI5.out);rw[HCFz.out]at cn
   (go_simp;go_at_call 85;refine cn.mono ?_;intro e w6 h6)
   obtain⟨he6,hf6,hc6⟩:=h6;subst he6;have HF6:=Zh hf6;replace HBA:=Zh (HBA.out.trans hc6);clear hf6 hc6 cn hl5;refine hK.out _ _ trivial (fun hH=>?_);clear hK K
   try simp only[Act.put,ZA,ZB,ZC]
   refine ZT (i:=15) (v:=?vT50_15) rfl (Or.inl ⟨by rfl,?yT50_15⟩) ?_
   case yT50_15=>exact ZyQ
   exact Qjj
  ·go_simp;refine hK.out _ _ trivial (fun hH=>?_);have hb6:Below w3.heap.size w3 (w3.alloc (.cells #[.int .i64 ty1] 3)):=zzb.alloc zzl _;replace HPC:=Zh (HPC.out.up hb6);replace HCC:=Zh ((hb6.block _ (Jb HCC.out)).trans HCC.out);replace HBA:=Zh (HBA.out.trans (Chg.of_below hb6 [rb]));have HRW:=Zh (zzw w3 (.cells #[.int .i64 ty1] 3));have HB6:=Zh hb6;clear hb6;clear hK K
   try simp only[Act.put,ZA,ZB,ZC]
   refine ZR (rs:=[4,13]) (AllReadyH.cons rfl (fun K hK=>?_) (AllReadyH.cons rfl (fun K hK=>?_) AllReadyH.nil))
   ·have hat:=HPC.out.at';unfold An.At at hat;have hcl:=(JT (i:=1) hat.2 rfl).1;rw[HCFz.out]at hcl;have c0:=hcl 0 _ rfl;have c1:=hcl 1 _ rfl;have c2:=hcl 2 _ rfl;have c3:=hcl 3 _ rfl;have c4:=hcl 4 _ rfl;simp only[zero_add,zero_mul,one_mul,Nat.reduceMul,Nat.reduceAdd,add_zero]at c0 c1 c2 c3 c4;go_simp;clear hat hcl c0 c1 c2 c3 c4;refine hK.out _ _ trivial (fun hH=>?_);clear hK K
    try simp only[Act.put,ZA,ZB,ZC]
    refine ZS 13 rfl (fun K hK=>?_);have hsv2:(vars=[]/\∃ ad,(Value.slice sa sm sc)=.slice ad 0 0)\/∃ g o,(Value.slice sa sm sc)=.slice (some ⟨g,o,none⟩) vars.length vars.length/\∀ i n,vars[i]?=some n->(w3.alloc (.cells #[.int .i64 ty1] 3)).cell? ⟨g,o+i,none⟩=some (Value.int .i64 n):=HSV.out.imp id (fun ⟨g,o,h1,h2⟩=>⟨g,o,h1,h2 _ HB6.out⟩)
    (refine J9 (w3.alloc (.cells #[.int .i64 ty1] 3)) (by rfl) (.tmp 118) (.tmp 120) (by rfl) vars _ hsv2 (by rfl) w3.heap.size ty1 (by rfl) HRW.out hvl rb (Jb HPC.out.flt) ?_;intro w5 cc5 hi5 hb5)
    replace HPC:=Zh (HPC.out.up hb5);replace HCC:=Zh ((hb5.block _ (Jb HCC.out)).trans HCC.out);replace HBA:=Zh (HBA.out.trans (Chg.of_below hb5 [rb]));have HI5:=Zh hi5;generalize (w3.alloc (.cells #[.int .i64 ty1] 3)).heap.size=g5 at *;clear hsv2 hi5 hb5 HRW HB6 HSV;refine hK.out _ _ trivial (fun hH=>?_);clear hK K
    try simp only[Act.put,ZA,ZB,ZC]
    refine ZS 14 rfl (fun K hK=>?_);have hl5:(vars++[ty1]).length=vars.length+1:=by simp
    have cn:=IH z (vars++[ty1]) (.slice (some ⟨g5,0,none⟩) (vars.length+1) cc5) _ _ HSz.out (by rw[hl5];omega) (HPC.out.let1.2 _ _ hl5 HI5.out);rw[HCFz.out]at cn
    (go_simp;go_at_call 85;refine cn.mono ?_;intro e w6 h6)
    obtain⟨he6,hf6,hc6⟩:=h6;subst he6;have HF6:=Zh hf6;replace HBA:=Zh (HBA.out.trans hc6);clear hf6 hc6 cn hl5;refine hK.out _ _ trivial (fun hH=>?_);clear hK K
    try simp only[Act.put,ZA,ZB,ZC]
    refine ZT (i:=15) (v:=?vT54_15) rfl (Or.inl ⟨by rfl,?yT54_15⟩) ?_
    case yT54_15=>exact ZyQ
    exact Qjj
   ·have hsv2:(vars=[]/\∃ ad,(Value.slice sa sm sc)=.slice ad 0 0)\/∃ g o,(Value.slice sa sm sc)=.slice (some ⟨g,o,none⟩) vars.length vars.length/\∀ i n,vars[i]?=some n->(w3.alloc (.cells #[.int .i64 ty1] 3)).cell? ⟨g,o+i,none⟩=some (Value.int .i64 n):=HSV.out.imp id (fun ⟨g,o,h1,h2⟩=>⟨g,o,h1,h2 _ HB6.out⟩)
    (refine J9 (w3.alloc (.cells #[.int .i64 ty1] 3)) (by rfl) (.tmp 118) (.tmp 120) (by rfl) vars _ hsv2 (by rfl) w3.heap.size ty1 (by rfl) HRW.out hvl rb (Jb HPC.out.flt) ?_;intro w5 cc5 hi5 hb5)
    replace HPC:=Zh (HPC.out.up hb5);replace HCC:=Zh ((hb5.block _ (Jb HCC.out)).trans HCC.out);replace HBA:=Zh (HBA.out.trans (Chg.of_below hb5 [rb]));have HI5:=Zh hi5;generalize (w3.alloc (.cells #[.int .i64 ty1] 3)).heap.size=g5 at *;clear hsv2 hi5 hb5 HRW HB6 HSV;refine hK.out _ _ trivial (fun hH=>?_);clear hK K
    try simp only[Act.put,ZA,ZB,ZC]
    refine ZS 4 rfl (fun K hK=>?_);have hat:=HPC.out.at';unfold An.At at hat;have hcl:=(JT (i:=1) hat.2 rfl).1;rw[HCFz.out]at hcl;have c0:=hcl 0 _ rfl;have c1:=hcl 1 _ rfl;have c2:=hcl 2 _ rfl;have c3:=hcl 3 _ rfl;have c4:=hcl 4 _ rfl;simp only[zero_add,zero_mul,one_mul,Nat.reduceMul,Nat.reduceAdd,add_zero]at c0 c1 c2 c3 c4;go_simp;clear hat hcl c0 c1 c2 c3 c4;refine hK.out _ _ trivial (fun hH=>?_);clear hK K
    try simp only[Act.put,ZA,ZB,ZC]
    refine ZS 14 rfl (fun K hK=>?_);have hl5:(vars++[ty1]).length=vars.length+1:=by simp
    have cn:=IH z (vars++[ty1]) (.slice (some ⟨g5,0,none⟩) (vars.length+1) cc5) _ _ HSz.out (by rw[hl5];omega) (HPC.out.let1.2 _ _ hl5 HI5.out);rw[HCFz.out]at cn
    (go_simp;go_at_call 85;refine cn.mono ?_;intro e w6 h6)
    obtain⟨he6,hf6,hc6⟩:=h6;subst he6;have HF6:=Zh hf6;replace HBA:=Zh (HBA.out.trans hc6);clear hf6 hc6 cn hl5;refine hK.out _ _ trivial (fun hH=>?_);clear hK K
    try simp only[Act.put,ZA,ZB,ZC]
    refine ZT (i:=15) (v:=?vT57_15) rfl (Or.inl ⟨by rfl,?yT57_15⟩) ?_
    case yT57_15=>exact ZyQ
    exact Qjj
 ·go_simp;refine hK.out _ _ trivial (fun hH=>?_);have hb6:Below w3.heap.size w3 (w3.alloc (.cells #[.int .i64 ty1] 3)):=zzb.alloc zzl _;replace HPC:=Zh (HPC.out.up hb6);replace HCC:=Zh ((hb6.block _ (Jb HCC.out)).trans HCC.out);replace HBA:=Zh (HBA.out.trans (Chg.of_below hb6 [rb]));have HRW:=Zh (zzw w3 (.cells #[.int .i64 ty1] 3));have HB6:=Zh hb6;clear hb6;clear hK K
  try simp only[Act.put,ZA,ZB,ZC]
  refine ZR (rs:=[2,13]) (AllReadyH.cons rfl (fun K hK=>?_) (AllReadyH.cons rfl (fun K hK=>?_) AllReadyH.nil))
  ·have m4:=Ja HCC.out 4;simp only[ZD,ZE,ZF]at m4;go_simp;clear m4;refine hK.out _ _ trivial (fun hH=>?_);clear hK K
   try simp only[Act.put,ZA,ZB,ZC]
   refine ZT (i:=3) (v:=?vT59_3) rfl (Or.inl ⟨by rfl,?yT59_3⟩) ?_
   case yT59_3=>exact ZyQ
   try simp only[Act.put,ZA,ZB,ZC]
   refine ZR (rs:=[4,13]) (AllReadyH.cons rfl (fun K hK=>?_) (AllReadyH.cons rfl (fun K hK=>?_) AllReadyH.nil))
   ·have hat:=HPC.out.at';unfold An.At at hat;have hcl:=(JT (i:=1) hat.2 rfl).1;rw[HCFz.out]at hcl;have c0:=hcl 0 _ rfl;have c1:=hcl 1 _ rfl;have c2:=hcl 2 _ rfl;have c3:=hcl 3 _ rfl;have c4:=hcl 4 _ rfl;simp only[zero_add,zero_mul,one_mul,Nat.reduceMul,Nat.reduceAdd,add_zero]at c0 c1 c2 c3 c4;go_simp;clear hat hcl c0 c1 c2 c3 c4;refine hK.out _ _ trivial (fun hH=>?_);clear hK K
    try simp only[Act.put,ZA,ZB,ZC]
    refine ZS 13 rfl (fun K hK=>?_);have hsv2:(vars=[]/\∃ ad,(Value.slice sa sm sc)=.slice ad 0 0)\/∃ g o,(Value.slice sa sm sc)=.slice (some ⟨g,o,none⟩) vars.length vars.length/\∀ i n,vars[i]?=some n->(w3.alloc (.cells #[.int .i64 ty1] 3)).cell? ⟨g,o+i,none⟩=some (Value.int .i64 n):=HSV.out.imp id (fun ⟨g,o,h1,h2⟩=>⟨g,o,h1,h2 _ HB6.out⟩)
    (refine J9 (w3.alloc (.cells #[.int .i64 ty1] 3)) (by rfl) (.tmp 118) (.tmp 120) (by rfl) vars _ hsv2 (by rfl) w3.heap.size ty1 (by rfl) HRW.out hvl rb (Jb HPC.out.flt) ?_;intro w5 cc5 hi5 hb5)
    replace HPC:=Zh (HPC.out.up hb5);replace HCC:=Zh ((hb5.block _ (Jb HCC.out)).trans HCC.out);replace HBA:=Zh (HBA.out.trans (Chg.of_below hb5 [rb]));have HI5:=Zh hi5;generalize (w3.alloc (.cells #[.int .i64 ty1] 3)).heap.size=g5 at *;clear hsv2 hi5 hb5 HRW HB6 HSV;refine hK.out _ _ trivial (fun hH=>?_);clear hK K
    try simp only[Act.put,ZA,ZB,ZC]
    refine ZS 14 rfl (fun K hK=>?_);have hl5:(vars++[ty1]).length=vars.length+1:=by simp
    have cn:=IH z (vars++[ty1]) (.slice (some ⟨g5,0,none⟩) (vars.length+1) cc5) _ _ HSz.out (by rw[hl5];omega) (HPC.out.let1.2 _ _ hl5 HI5.out);rw[HCFz.out]at cn
    (go_simp;go_at_call 85;refine cn.mono ?_;intro e w6 h6)
    obtain⟨he6,hf6,hc6⟩:=h6;subst he6;have HF6:=Zh hf6;replace HBA:=Zh (HBA.out.trans hc6);clear hf6 hc6 cn hl5;refine hK.out _ _ trivial (fun hH=>?_);clear hK K
    try simp only[Act.put,ZA,ZB,ZC]
    refine ZT (i:=15) (v:=?vT62_15) rfl (Or.inl ⟨by rfl,?yT62_15⟩) ?_
    case yT62_15=>exact ZyQ
    exact Qjj
   ·have hsv2:(vars=[]/\∃ ad,(Value.slice sa sm sc)=.slice ad 0 0)\/∃ g o,(Value.slice sa sm sc)=.slice (some ⟨g,o,none⟩) vars.length vars.length/\∀ i n,vars[i]?=some n->(w3.alloc (.cells #[.int .i64 ty1] 3)).cell? ⟨g,o+i,none⟩=some (Value.int .i64 n):=HSV.out.imp id (fun ⟨g,o,h1,h2⟩=>⟨g,o,h1,h2 _ HB6.out⟩)
    (refine J9 (w3.alloc (.cells #[.int .i64 ty1] 3)) (by rfl) (.tmp 118) (.tmp 120) (by rfl) vars _ hsv2 (by rfl) w3.heap.size ty1 (by rfl) HRW.out hvl rb (Jb HPC.out.flt) ?_;intro w5 cc5 hi5 hb5)
    replace HPC:=Zh (HPC.out.up hb5);replace HCC:=Zh ((hb5.block _ (Jb HCC.out)).trans HCC.out);replace HBA:=Zh (HBA.out.trans (Chg.of_below hb5 [rb]));have HI5:=Zh hi5;generalize (w3.alloc (.cells #[.int .i64 ty1] 3)).heap.size=g5 at *;clear hsv2 hi5 hb5 HRW HB6 HSV;refine hK.out _ _ trivial (fun hH=>?_);clear hK K
    try simp only[Act.put,ZA,ZB,ZC]
    refine ZS 4 rfl (fun K hK=>?_);have hat:=HPC.out.at';unfold An.At at hat;have hcl:=(JT (i:=1) hat.2 rfl).1;rw[HCFz.out]at hcl;have c0:=hcl 0 _ rfl;have c1:=hcl 1 _ rfl;have c2:=hcl 2 _ rfl;have c3:=hcl 3 _ rfl;have c4:=hcl 4 _ rfl;simp only[zero_add,zero_mul,one_mul,Nat.reduceMul,Nat.reduceAdd,add_zero]at c0 c1 c2 c3 c4;go_simp;clear hat hcl c0 c1 c2 c3 c4;refine hK.out _ _ trivial (fun hH=>?_);clear hK K
    try simp only[Act.put,ZA,ZB,ZC]
    refine ZS 14 rfl (fun K hK=>?_);have hl5:(vars++[ty1]).length=vars.length+1:=by simp
    have cn:=IH z (vars++[ty1]) (.slice (some ⟨g5,0,none⟩) (vars.length+1) cc5) _ _ HSz.out (by rw[hl5];omega) (HPC.out.let1.2 _ _ hl5 HI5.out);rw[HCFz.out]at cn
    (go_simp;go_at_call 85;refine cn.mono ?_;intro e w6 h6)
    obtain⟨he6,hf6,hc6⟩:=h6;subst he6;have HF6:=Zh hf6;replace HBA:=Zh (HBA.out.trans hc6);clear hf6 hc6 cn hl5;refine hK.out _ _ trivial (fun hH=>?_);clear hK K
    try simp only[Act.put,ZA,ZB,ZC]
    refine ZT (i:=15) (v:=?vT65_15) rfl (Or.inl ⟨by rfl,?yT65_15⟩) ?_
    case yT65_15=>exact ZyQ
    exact Qjj
  ·have hsv2:(vars=[]/\∃ ad,(Value.slice sa sm sc)=.slice ad 0 0)\/∃ g o,(Value.slice sa sm sc)=.slice (some ⟨g,o,none⟩) vars.length vars.length/\∀ i n,vars[i]?=some n->(w3.alloc (.cells #[.int .i64 ty1] 3)).cell? ⟨g,o+i,none⟩=some (Value.int .i64 n):=HSV.out.imp id (fun ⟨g,o,h1,h2⟩=>⟨g,o,h1,h2 _ HB6.out⟩)
   (refine J9 (w3.alloc (.cells #[.int .i64 ty1] 3)) (by rfl) (.tmp 118) (.tmp 120) (by rfl) vars _ hsv2 (by rfl) w3.heap.size ty1 (by rfl) HRW.out hvl rb (Jb HPC.out.flt) ?_;intro w5 cc5 hi5 hb5)
   replace HPC:=Zh (HPC.out.up hb5);replace HCC:=Zh ((hb5.block _ (Jb HCC.out)).trans HCC.out);replace HBA:=Zh (HBA.out.trans (Chg.of_below hb5 [rb]));have HI5:=Zh hi5;generalize (w3.alloc (.cells #[.int .i64 ty1] 3)).heap.size=g5 at *;clear hsv2 hi5 hb5 HRW HB6 HSV;refine hK.out _ _ trivial (fun hH=>?_);clear hK K
   try simp only[Act.put,ZA,ZB,ZC]
   refine ZS 2 rfl (fun K hK=>?_);have m4:=Ja HCC.out 4;simp only[ZD,ZE,ZF]at m4;go_simp;clear m4;refine hK.out _ _ trivial (fun hH=>?_);clear hK K
   try simp only[Act.put,ZA,ZB,ZC]
   refine ZT (i:=3) (v:=?vT67_3) rfl (Or.inl ⟨by rfl,?yT67_3⟩) ?_
   case yT67_3=>exact ZyQ
   try simp only[Act.put,ZA,ZB,ZC]
   refine ZS 4 rfl (fun K hK=>?_);have hat:=HPC.out.at';unfold An.At at hat;have hcl:=(JT (i:=1) hat.2 rfl).1;rw[HCFz.out]at hcl;have c0:=hcl 0 _ rfl;have c1:=hcl 1 _ rfl;have c2:=hcl 2 _ rfl;have c3:=hcl 3 _ rfl;have c4:=hcl 4 _ rfl;simp only[zero_add,zero_mul,one_mul,Nat.reduceMul,Nat.reduceAdd,add_zero]at c0 c1 c2 c3 c4;go_simp;clear hat hcl c0 c1 c2 c3 c4;refine hK.out _ _ trivial (fun hH=>?_);clear hK K
   try simp only[Act.put,ZA,ZB,ZC]
   refine ZS 14 rfl (fun K hK=>?_);have hl5:(vars++[ty1]).length=vars.length+1:=by simp
   have cn:=IH z (vars++[ty1]) (.slice (some ⟨g5,0,none⟩) (vars.length+1) cc5) _ _ HSz.out (by rw[hl5];omega) (HPC.out.let1.2 _ _ hl5 HI5.out);rw[HCFz.out]at cn
   (go_simp;go_at_call 85;refine cn.mono ?_;intro e w6 h6)
   obtain⟨he6,hf6,hc6⟩:=h6;subst he6;have HF6:=Zh hf6;replace HBA:=Zh (HBA.out.trans hc6);clear hf6 hc6 cn hl5;refine hK.out _ _ trivial (fun hH=>?_);clear hK K
   try simp only[Act.put,ZA,ZB,ZC]
   refine ZT (i:=15) (v:=?vT69_15) rfl (Or.inl ⟨by rfl,?yT69_15⟩) ?_
   case yT69_15=>exact ZyQ
   exact Qjj
theorem Jby(fs:List Qbn)(rb:Nat)(M:Value)(hps:∀ s∈fs,s.params.length<=1000000000):∀ n,Qed fs rb M n
 |0=>fun a vars vv x w hn=>by
  have:=VC a.nd;omega
 |n+1=>fun a vars vv x w hn hb hpre=>by
  have IH:=Jby fs rb M hps n;obtain⟨k,nn,s,off,b,c,l⟩:=a;rw[Y8]at hn;have hn':Qbq (ndL l)<=n:=by omega
  by_cases h1:k=1
  ·subst h1;exact QmU fs rb M hps n IH nn s off b c l vars vv x w hn' hb hpre
  by_cases h5:k=5
  ·subst h5;exact QmR fs rb M hps n IH nn s off b c l vars vv x w hn' hb hpre
  by_cases h2:k=2
  ·subst h2;exact QmT fs rb M hps n IH nn s off b c l vars vv x w hn' hb hpre
  by_cases h3:k=3
  ·subst h3;exact QmS fs rb M hps n IH nn s off b c l vars vv x w hn' hb hpre
  by_cases h6:k=6
  ·subst h6;exact QmQ fs rb M hps n IH nn s off b c l vars vv x w hn' hb hpre
  by_cases h8:k=8
  ·subst h8;exact QmO fs rb M hps n IH nn s off b c l vars vv x w hn' hb hpre
  by_cases h9:k=9
  ·subst h9;exact QmN fs rb M hps n IH nn s off b c l vars vv x w hn' hb hpre
  by_cases h10:k=10
  ·subst h10;exact Jmq fs rb M hps n IH nn s off b c l vars vv x w hn' hb hpre
  by_cases h11:k=11
  ·subst h11;exact Jmr fs rb M hps n IH nn s off b c l vars vv x w hn' hb hpre
  by_cases h12:k=12
  ·subst h12;exact Jms fs rb M hps n IH nn s off b c l vars vv x w hn' hb hpre
  by_cases h13:k=13
  ·subst h13;exact Jmt fs rb M hps n IH nn s off b c l vars vv x w hn' hb hpre
  by_cases h14:k=14
  ·subst h14;exact Jmu fs rb M hps n IH nn s off b c l vars vv x w hn' hb hpre
  by_cases h15:k=15
  ·subst h15;exact Jmy fs rb M hps n IH nn s off b c l vars vv x w hn' hb hpre
  by_cases h7:k=7
  ·subst h7;exact QmP fs rb M hps n IH nn s off b c l vars vv x w hn' hb hpre
  by_cases h16:k=16
  ·subst h16;exact Jmv fs rb M hps n IH nn s off b c l vars vv x w hn' hb hpre
  by_cases h17:k=17
  ·subst h17;exact Jmw fs rb M hps n IH nn s off b c l vars vv x w hn' hb hpre
  by_cases h18:k=18
  ·subst h18;exact Jmz fs rb M hps n IH nn s off b c l vars vv x w hn' hb hpre
  by_cases h19:k=19
  ·subst h19;exact JmA fs rb M hps n IH nn s off b c l vars vv x w hn' hb hpre
  by_cases h20:k=20
  ·subst h20;exact Jmx fs rb M hps n IH nn s off b c l vars vv x w hn' hb hpre
  exact Jkm fs rb M hps n IH k nn s off b c l vars vv x w hn' hb hpre ⟨h1,h5,h2,h3,h6,h8,h9,h10,h11,h12,h13,h14,h15,h7,h16,h17,h18,h19,h20⟩
end Go.Proofs.YtdlkcjkjnehnkaaGreatDoor
