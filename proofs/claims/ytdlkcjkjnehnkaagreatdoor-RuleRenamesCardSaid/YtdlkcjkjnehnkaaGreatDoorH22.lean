import Derived.Test.YtdlkcjkjnehnkaaGreatDoorH21
open Nat(add_zero le_trans one_mul zero_add zero_mul)
namespace Go.Proofs.YtdlkcjkjnehnkaaGreatDoor
open Go.ChangeShapes Go.WideShapes Go.ChangeAt Go.RowKit Go.Lib
open _root_.Go.Proofs.Tryz
set_option linter.all false
set_option maxRecDepth 100000
set_option maxHeartbeats 32000000
theorem bx2{P:Prop}(h:P:=by
  have c0:=hcl 0 _ rfl;have c1:=hcl 1 _ rfl;have c2:=hcl 2 _ rfl;have c3:=hcl 3 _ rfl;have c4:=hcl 4 _ rfl;simp only[Nat.zero_add,Nat.zero_mul,Nat.one_mul,Nat.reduceMul,Nat.reduceAdd,Nat.add_zero]at c0 c1 c2 c3 c4;go_simp;clear hat hcl c0 c1 c2 c3 c4;refine hK.out _ _ trivial (fun hH=>?_);clear hK K
  try simp only[Act.put,ZA,ZB,ZC]
  refine ZS 12 rfl (fun K hK=>?_);have cn:=IH y vars vv _ _ HSy.out (by omega) (HPC.out.kid (by decide) y (by simp));rw[HCFy.out]at cn
  (go_simp;go_at_call 85;refine cn.mono ?_;intro e w5 h5)
  obtain⟨he5,hf5,hc5⟩:=h5;subst he5;replace HPC:=Zh (HPC.out.chg hc5 hf5);replace HCC:=Zh (hc5.heap_some (by simp;exact hcb) HCC.out);replace HBA:=Zh (HBA.out.trans hc5);clear hf5 hc5 cn;refine hK.out _ _ trivial (fun hH=>?_);clear hK K
  try simp only[Act.put,ZA,ZB,ZC]
  refine ZS 13 rfl (fun K hK=>?_);have cn:=JH fs rb M z vars vv _ (ofN fs vars y.nd).1 _ (HPC.out.kid (by decide) z (by simp)) (fun W2 hp2=>IH z vars vv _ W2 HSz.out (by omega) hp2);rw[HCFz.out]at cn
  (go_simp;go_at_call 55;refine cn.mono ?_;intro e w6 h6)
  obtain⟨he6,hf6,hc6⟩:=h6;subst he6;have HF6:=Zh hf6;replace HBA:=Zh (HBA.out.trans hc6);clear hf6 hc6 cn;refine hK.out _ _ trivial (fun hH=>?_);clear hK K
  try simp only[Act.put,ZA,ZB,ZC]
  refine wpAnyH_done (by kernel_rfl) ?_ _;go_wp2;rw[HR.out,HRV.out.1,HRV.out.2]
  exact⟨rfl,by rw[Jv];exact HF6.out,HBA.out⟩):P:=h
theorem bx8{P:Prop}(h:P:=by
  try simp only[Act.put,ZA,ZB,ZC]
  refine ZR (rs:=[4,12]) (AllReadyH.cons rfl (fun K hK=>?_) (AllReadyH.cons rfl (fun K hK=>?_) AllReadyH.nil))
  ·have hat:=HPC.out.at';unfold An.At at hat;have hcl:=(JT (i:=1) hat.2 rfl).1;rw[HCFz.out]at hcl;exact bx2
  ·have cn:=IH y vars vv _ _ HSy.out (by omega) (HPC.out.kid (by decide) y (by simp));rw[HCFy.out]at cn
   (go_simp;go_at_call 85;refine cn.mono ?_;intro e w5 h5)
   obtain⟨he5,hf5,hc5⟩:=h5;subst he5;replace HPC:=Zh (HPC.out.chg hc5 hf5);replace HCC:=Zh (hc5.heap_some (by simp;exact hcb) HCC.out);replace HBA:=Zh (HBA.out.trans hc5);clear hf5 hc5 cn;refine hK.out _ _ trivial (fun hH=>?_);clear hK K
   try simp only[Act.put,ZA,ZB,ZC]
   refine ZS 4 rfl (fun K hK=>?_);have hat:=HPC.out.at';unfold An.At at hat;have hcl:=(JT (i:=1) hat.2 rfl).1;rw[HCFz.out]at hcl;have c0:=hcl 0 _ rfl;have c1:=hcl 1 _ rfl;have c2:=hcl 2 _ rfl;have c3:=hcl 3 _ rfl;have c4:=hcl 4 _ rfl;simp only[Nat.zero_add,Nat.zero_mul,Nat.one_mul,Nat.reduceMul,Nat.reduceAdd,Nat.add_zero]at c0 c1 c2 c3 c4;go_simp;clear hat hcl c0 c1 c2 c3 c4;refine hK.out _ _ trivial (fun hH=>?_);clear hK K
   try simp only[Act.put,ZA,ZB,ZC]
   refine ZS 13 rfl (fun K hK=>?_);have cn:=JH fs rb M z vars vv _ (ofN fs vars y.nd).1 _ (HPC.out.kid (by decide) z (by simp)) (fun W2 hp2=>IH z vars vv _ W2 HSz.out (by omega) hp2);rw[HCFz.out]at cn
   (go_simp;go_at_call 55;refine cn.mono ?_;intro e w6 h6)
   obtain⟨he6,hf6,hc6⟩:=h6;subst he6;have HF6:=Zh hf6;replace HBA:=Zh (HBA.out.trans hc6);clear hf6 hc6 cn;refine hK.out _ _ trivial (fun hH=>?_);clear hK K
   try simp only[Act.put,ZA,ZB,ZC]
   refine wpAnyH_done (by kernel_rfl) ?_ _;go_wp2;rw[HR.out,HRV.out.1,HRV.out.2]
   exact⟨rfl,by rw[Jv];exact HF6.out,HBA.out⟩):P:=h
theorem Qme{P:Prop}(h:P:=by
  try simp only[Act.put,ZA,ZB,ZC]
  refine ZS 10 rfl (fun K hK=>?_);have hat:=HPC.out.at';unfold An.At at hat;have hcl:=(JT (i:=0) hat.2 rfl).1;rw[HCFy.out]at hcl
  exact bx2):P:=h
theorem QmI{P:Prop}(h:P:=by
  try simp only[Act.put,ZA,ZB,ZC]
  refine ZR (rs:=[4,10]) (AllReadyH.cons rfl (fun K hK=>?_) (AllReadyH.cons rfl (fun K hK=>?_) AllReadyH.nil))
  ·have hat:=HPC.out.at';unfold An.At at hat;have hcl:=(JT (i:=1) hat.2 rfl).1;rw[HCFz.out]at hcl;have c0:=hcl 0 _ rfl;have c1:=hcl 1 _ rfl;have c2:=hcl 2 _ rfl;have c3:=hcl 3 _ rfl;have c4:=hcl 4 _ rfl;simp only[Nat.zero_add,Nat.zero_mul,Nat.one_mul,Nat.reduceMul,Nat.reduceAdd,Nat.add_zero]at c0 c1 c2 c3 c4;go_simp;clear hat hcl c0 c1 c2 c3 c4;refine hK.out _ _ trivial (fun hH=>?_);clear hK K;exact Qme
  ·have hat:=HPC.out.at';unfold An.At at hat;have hcl:=(JT (i:=0) hat.2 rfl).1;rw[HCFy.out]at hcl;have c0:=hcl 0 _ rfl;have c1:=hcl 1 _ rfl;have c2:=hcl 2 _ rfl;have c3:=hcl 3 _ rfl;have c4:=hcl 4 _ rfl;simp only[Nat.zero_add,Nat.zero_mul,Nat.one_mul,Nat.reduceMul,Nat.reduceAdd,Nat.add_zero]at c0 c1 c2 c3 c4;go_simp;clear hat hcl c0 c1 c2 c3 c4;refine hK.out _ _ trivial (fun hH=>?_);clear hK K
   exact bx8):P:=h
theorem Qjj{P:Prop}(h:P:=by
  try simp only[Act.put,ZA,ZB,ZC]
  refine wpAnyH_done (by kernel_rfl) ?_ _;go_wp2;rw[HR.out,HRV.out.1,HRV.out.2]
  exact⟨rfl,by rw[Jv];exact HF6.out,HBA.out⟩):P:=h
theorem Jmy(fs:List Qbn)(rb:Nat)(M:Value)(hps:∀ s∈fs,s.params.length<=1000000000)(n:Nat)(IH:Qed fs rb M n)(nn:Int)(s:List UInt8)(off:Int)(b c:Nat)(l:List An)(vars:List Int)(vv:Value)(x:Option Int)(w:World)(hn:Qbq (ndL l)<=n)(hb:n+1+vars.length<=1000000000)(hpre:Qas fs rb M w x vars vv (.mk 15 nn s off b c l))  :
  Calls prog 85 #[.pointer (some ⟨rb,0,none⟩),.agg (Qaa (.mk 15 nn s off b c l)),vv] w (TyP w rb M x (ofN fs vars (An.mk 15 nn s off b c l).nd).2 (.int .i64 (ofN fs vars (An.mk 15 nn s off b c l).nd).1)):=by
 obtain⟨r,hr⟩:∃ r,ofN fs vars (An.mk 15 nn s off b c l).nd=r:=⟨_,rfl⟩
 rw[hr];obtain⟨ty,es⟩:=r;dsimp only;obtain⟨R,hR⟩:∃ R,TyP w rb M x es (.int .i64 ty)=R:=⟨_,rfl⟩
 rw[hR];have HR:Hid (R=TyP w rb M x es (.int .i64 ty)):=hR.symm;rw[An.nd,Ks]at hr;have hlen:l.length<=n:=by have:=Jx l;omega
 obtain⟨ad,cc,hkv,had⟩:=Jo b c l
 have hcs:Qaa (.mk 15 nn s off b c l)=#[.int .i64 15,.int .i64 nn,.string (bs s),.int .i64 off,.slice ad l.length cc]:=by
  show #[_,_,_,_,QaB b c l]=_
  rw[hkv]
 have hbA:Below w.heap.size w (w.alloc (.cells (Qaa (.mk 15 nn s off b c l)) 103)):=zzb.alloc zzl _;have hrl:=Jb hpre.flt;have hcb:w.heap.size≠rb:=by omega
 have HP:=Zh (hpre.up hbA);have HBA:=Zh (Chg.of_below hbA [rb]);have HCP:=Zh (zzw w (.cells (Qaa (.mk 15 nn s off b c l)) 103));have HAD:=Zh had;have HCS:=Zh hcs;have HN:=Zh hn;rw[hcs]at HBA HCP |-;have HP2:Hid (Qas fs rb M (w.alloc (.cells #[.int .i64 15,.int .i64 nn,.string (bs s),.int .i64 off,.slice ad l.length cc] 103)) x vars vv (.mk 15 nn s off b c l)):=by rw[<- hcs];exact HP.out
 clear hR hbA hkv had hcs hrl HP hpre hn
 obtain⟨y,z,hl2⟩:∃ y z,l=[y,z]:=by
  have hwf:=HP2.out.wf;unfold An.nd WfN at hwf;have h2:=hwf.2.1 rfl;rw[Kj,List.length_map]at h2
  match l,h2 with
  |[y,z],_=>exact⟨y,z,rfl⟩
 subst hl2;have had':ad=some ⟨b,0,none⟩:=HAD.out (by simp);subst had';obtain⟨yA,yn,yc,hcfy⟩:=Jf y;have HCFy:=Zh hcfy;clear hcfy;have HSy:Hid (siz y.nd<=n):=le_trans (JL (by simp:y∈[y,z])) HN.out;obtain⟨zA,zn,zc,hcfz⟩:=Jf z;have HCFz:=Zh hcfz;clear hcfz;have HSz:Hid (siz z.nd<=n):=le_trans (JL (by simp:z∈[y,z])) HN.out
 have hr2:ty=1/\es=(ofN fs vars y.nd).2++Qbz fs vars (ofN fs vars y.nd).1 z.nd:=by
  simp[ndL]at hr;obtain⟨h1,h2⟩:=hr;refine⟨h1.symm,?_⟩;rw[<- h2];simp[Qbz]
 have HRV:=Zh hr2;have HPC:=HP2;have HCC:=HCP;clear hr hr2 HP2 HCP HAD HCS HN;go_enter func85,ntmps85;go_upto_region 22 with fail;generalize World.alloc w _=w1 at *;generalize w.heap.size=cb at *;refine wp_region_held_drew (S:=fun _=>True) (by kernel_rfl) (trivial) (fun hH=>?_);have hD:Below w1.heap.size w1 w1.drew:=(Below.refl w1.heap.size w1).drew;replace HPC:=Zh (HPC.out.up hD);replace HCC:=Zh ((hD.block _ (Jb HCC.out)).trans HCC.out);replace HBA:=Zh (HBA.out.trans (Chg.of_below hD [rb]));clear hD;generalize w1.drew=w3 at *;refine ZT (i:=0) (v:=?vT1_0) rfl (Or.inl ⟨by rfl,?yT1_0⟩) ?_
 case yT1_0=>exact ZyQ
 try simp only[Act.put,ZA,ZB,ZC]
 refine ZT (i:=1) (v:=?vT1_1) rfl (Or.inl ⟨by rfl,?yT1_1⟩) ?_
 case yT1_1=>exact ZyQ
 try simp only[Act.put,ZA,ZB,ZC]
 refine ZT (i:=5) (v:=?vT1_5) rfl (Or.inl ⟨by rfl,?yT1_5⟩) ?_
 case yT1_5=>exact ZyQ
 try simp only[Act.put,ZA,ZB,ZC]
 refine ZT (i:=6) (v:=?vT1_6) rfl (Or.inl ⟨by rfl,?yT1_6⟩) ?_
 case yT1_6=>exact ZyQ
 try simp only[Act.put,ZA,ZB,ZC]
 refine ZT (i:=7) (v:=?vT1_7) rfl (Or.inl ⟨by rfl,?yT1_7⟩) ?_
 case yT1_7=>exact ZyQ
 try simp only[Act.put,ZA,ZB,ZC]
 refine ZT (i:=11) (v:=?vT1_11) rfl (Or.inl ⟨by rfl,?yT1_11⟩) ?_
 case yT1_11=>exact ZyQ
 try simp only[Act.put,ZA,ZB,ZC]
 refine ZR (rs:=[2,8]) (AllReadyH.cons rfl (fun K hK=>?_) (AllReadyH.cons rfl (fun K hK=>?_) AllReadyH.nil))
 ·have m4:=Ja HCC.out 4;simp only[ZD,ZE,ZF]at m4;go_simp;clear m4;refine hK.out _ _ trivial (fun hH=>?_);clear hK K
  try simp only[Act.put,ZA,ZB,ZC]
  refine ZT (i:=3) (v:=?vT2_3) rfl (Or.inl ⟨by rfl,?yT2_3⟩) ?_
  case yT2_3=>exact ZyQ
  try simp only[Act.put,ZA,ZB,ZC]
  refine ZR (rs:=[4,8]) (AllReadyH.cons rfl (fun K hK=>?_) (AllReadyH.cons rfl (fun K hK=>?_) AllReadyH.nil))
  ·have hat:=HPC.out.at';unfold An.At at hat;have hcl:=(JT (i:=1) hat.2 rfl).1;rw[HCFz.out]at hcl;have c0:=hcl 0 _ rfl;have c1:=hcl 1 _ rfl;have c2:=hcl 2 _ rfl;have c3:=hcl 3 _ rfl;have c4:=hcl 4 _ rfl;simp only[zero_add,zero_mul,one_mul,Nat.reduceMul,Nat.reduceAdd,add_zero]at c0 c1 c2 c3 c4;go_simp;clear hat hcl c0 c1 c2 c3 c4;refine hK.out _ _ trivial (fun hH=>?_);clear hK K
   try simp only[Act.put,ZA,ZB,ZC]
   refine ZS 8 rfl (fun K hK=>?_);have m4:=Ja HCC.out 4;simp only[ZD,ZE,ZF]at m4;go_simp;clear m4;refine hK.out _ _ trivial (fun hH=>?_);clear hK K
   try simp only[Act.put,ZA,ZB,ZC]
   refine ZT (i:=9) (v:=?vT4_9) rfl (Or.inl ⟨by rfl,?yT4_9⟩) ?_
   case yT4_9=>exact ZyQ
   exact Qme
  ·have m4:=Ja HCC.out 4;simp only[ZD,ZE,ZF]at m4;go_simp;clear m4;refine hK.out _ _ trivial (fun hH=>?_);clear hK K
   try simp only[Act.put,ZA,ZB,ZC]
   refine ZT (i:=9) (v:=?vT8_9) rfl (Or.inl ⟨by rfl,?yT8_9⟩) ?_
   case yT8_9=>exact ZyQ
   exact QmI
 ·have m4:=Ja HCC.out 4;simp only[ZD,ZE,ZF]at m4;go_simp;clear m4;refine hK.out _ _ trivial (fun hH=>?_);clear hK K
  try simp only[Act.put,ZA,ZB,ZC]
  refine ZT (i:=9) (v:=?vT20_9) rfl (Or.inl ⟨by rfl,?yT20_9⟩) ?_
  case yT20_9=>exact ZyQ
  try simp only[Act.put,ZA,ZB,ZC]
  refine ZR (rs:=[2,10]) (AllReadyH.cons rfl (fun K hK=>?_) (AllReadyH.cons rfl (fun K hK=>?_) AllReadyH.nil))
  ·have m4:=Ja HCC.out 4;simp only[ZD,ZE,ZF]at m4;go_simp;clear m4;refine hK.out _ _ trivial (fun hH=>?_);clear hK K
   try simp only[Act.put,ZA,ZB,ZC]
   refine ZT (i:=3) (v:=?vT21_3) rfl (Or.inl ⟨by rfl,?yT21_3⟩) ?_
   case yT21_3=>exact ZyQ
   exact QmI
  ·have hat:=HPC.out.at';unfold An.At at hat;have hcl:=(JT (i:=0) hat.2 rfl).1;rw[HCFy.out]at hcl;have c0:=hcl 0 _ rfl;have c1:=hcl 1 _ rfl;have c2:=hcl 2 _ rfl;have c3:=hcl 3 _ rfl;have c4:=hcl 4 _ rfl;simp only[zero_add,zero_mul,one_mul,Nat.reduceMul,Nat.reduceAdd,add_zero]at c0 c1 c2 c3 c4;go_simp;clear hat hcl c0 c1 c2 c3 c4;refine hK.out _ _ trivial (fun hH=>?_);clear hK K
   try simp only[Act.put,ZA,ZB,ZC]
   refine ZR (rs:=[2,12]) (AllReadyH.cons rfl (fun K hK=>?_) (AllReadyH.cons rfl (fun K hK=>?_) AllReadyH.nil))
   ·have m4:=Ja HCC.out 4;simp only[ZD,ZE,ZF]at m4;go_simp;clear m4;refine hK.out _ _ trivial (fun hH=>?_);clear hK K
    try simp only[Act.put,ZA,ZB,ZC]
    refine ZT (i:=3) (v:=?vT34_3) rfl (Or.inl ⟨by rfl,?yT34_3⟩) ?_
    case yT34_3=>exact ZyQ
    exact bx8
   ·have cn:=IH y vars vv _ _ HSy.out (by omega) (HPC.out.kid (by decide) y (by simp));rw[HCFy.out]at cn
    (go_simp;go_at_call 85;refine cn.mono ?_;intro e w5 h5)
    obtain⟨he5,hf5,hc5⟩:=h5;subst he5;replace HPC:=Zh (HPC.out.chg hc5 hf5);replace HCC:=Zh (hc5.heap_some (by simp;exact hcb) HCC.out);replace HBA:=Zh (HBA.out.trans hc5);clear hf5 hc5 cn;refine hK.out _ _ trivial (fun hH=>?_);clear hK K
    try simp only[Act.put,ZA,ZB,ZC]
    refine ZS 2 rfl (fun K hK=>?_);have m4:=Ja HCC.out 4;simp only[ZD,ZE,ZF]at m4;go_simp;clear m4;refine hK.out _ _ trivial (fun hH=>?_);clear hK K
    try simp only[Act.put,ZA,ZB,ZC]
    refine ZT (i:=3) (v:=?vT42_3) rfl (Or.inl ⟨by rfl,?yT42_3⟩) ?_
    case yT42_3=>exact ZyQ
    try simp only[Act.put,ZA,ZB,ZC]
    refine ZS 4 rfl (fun K hK=>?_);have hat:=HPC.out.at';unfold An.At at hat;have hcl:=(JT (i:=1) hat.2 rfl).1;rw[HCFz.out]at hcl;have c0:=hcl 0 _ rfl;have c1:=hcl 1 _ rfl;have c2:=hcl 2 _ rfl;have c3:=hcl 3 _ rfl;have c4:=hcl 4 _ rfl;simp only[zero_add,zero_mul,one_mul,Nat.reduceMul,Nat.reduceAdd,add_zero]at c0 c1 c2 c3 c4;go_simp;clear hat hcl c0 c1 c2 c3 c4;refine hK.out _ _ trivial (fun hH=>?_);clear hK K
    try simp only[Act.put,ZA,ZB,ZC]
    refine ZS 13 rfl (fun K hK=>?_);have cn:=JH fs rb M z vars vv _ (ofN fs vars y.nd).1 _ (HPC.out.kid (by decide) z (by simp)) (fun W2 hp2=>IH z vars vv _ W2 HSz.out (by omega) hp2);rw[HCFz.out]at cn
    (go_simp;go_at_call 55;refine cn.mono ?_;intro e w6 h6)
    obtain⟨he6,hf6,hc6⟩:=h6;subst he6;have HF6:=Zh hf6;replace HBA:=Zh (HBA.out.trans hc6);clear hf6 hc6 cn;refine hK.out _ _ trivial (fun hH=>?_);clear hK K;exact Qjj
theorem Jmz(fs:List Qbn)(rb:Nat)(M:Value)(hps:∀ s∈fs,s.params.length<=1000000000)(n:Nat)(IH:Qed fs rb M n)(nn:Int)(s:List UInt8)(off:Int)(b c:Nat)(l:List An)(vars:List Int)(vv:Value)(x:Option Int)(w:World)(hn:Qbq (ndL l)<=n)(hb:n+1+vars.length<=1000000000)(hpre:Qas fs rb M w x vars vv (.mk 18 nn s off b c l))  :
  Calls prog 85 #[.pointer (some ⟨rb,0,none⟩),.agg (Qaa (.mk 18 nn s off b c l)),vv] w (TyP w rb M x (ofN fs vars (An.mk 18 nn s off b c l).nd).2 (.int .i64 (ofN fs vars (An.mk 18 nn s off b c l).nd).1)):=by
 obtain⟨r,hr⟩:∃ r,ofN fs vars (An.mk 18 nn s off b c l).nd=r:=⟨_,rfl⟩
 rw[hr];obtain⟨ty,es⟩:=r;dsimp only;obtain⟨R,hR⟩:∃ R,TyP w rb M x es (.int .i64 ty)=R:=⟨_,rfl⟩
 rw[hR];have HR:Hid (R=TyP w rb M x es (.int .i64 ty)):=hR.symm;rw[An.nd,Ks]at hr;have hlen:l.length<=n:=by have:=Jx l;omega
 obtain⟨ad,cc,hkv,had⟩:=Jo b c l
 have hcs:Qaa (.mk 18 nn s off b c l)=#[.int .i64 18,.int .i64 nn,.string (bs s),.int .i64 off,.slice ad l.length cc]:=by
  show #[_,_,_,_,QaB b c l]=_
  rw[hkv]
 have hbA:Below w.heap.size w (w.alloc (.cells (Qaa (.mk 18 nn s off b c l)) 103)):=zzb.alloc zzl _;have hrl:=Jb hpre.flt;have hcb:w.heap.size≠rb:=by omega
 have HP:=Zh (hpre.up hbA);have HBA:=Zh (Chg.of_below hbA [rb]);have HCP:=Zh (zzw w (.cells (Qaa (.mk 18 nn s off b c l)) 103));have HAD:=Zh had;have HCS:=Zh hcs;have HN:=Zh hn;rw[hcs]at HBA HCP |-;have HP2:Hid (Qas fs rb M (w.alloc (.cells #[.int .i64 18,.int .i64 nn,.string (bs s),.int .i64 off,.slice ad l.length cc] 103)) x vars vv (.mk 18 nn s off b c l)):=by rw[<- hcs];exact HP.out
 clear hR hbA hkv had hcs hrl HP hpre hn
 obtain⟨u,y,z,hl2⟩:∃ u y z,l=[u,y,z]:=by
  have hwf:=HP2.out.wf;unfold An.nd WfN at hwf;have h2:=hwf.2.2.1 rfl;rw[Kj,List.length_map]at h2
  match l,h2 with
  |[u,y,z],_=>exact⟨u,y,z,rfl⟩
 subst hl2;have had':ad=some ⟨b,0,none⟩:=HAD.out (by simp);subst had';obtain⟨uA,un,uc,hcfu⟩:=Jf u;have HCFu:=Zh hcfu;clear hcfu;have HSu:Hid (siz u.nd<=n):=le_trans (JL (by simp:u∈[u,y,z])) HN.out;obtain⟨yA,yn,yc,hcfy⟩:=Jf y;have HCFy:=Zh hcfy;clear hcfy;have HSy:Hid (siz y.nd<=n):=le_trans (JL (by simp:y∈[u,y,z])) HN.out;obtain⟨zA,zn,zc,hcfz⟩:=Jf z;have HCFz:=Zh hcfz;clear hcfz;have HSz:Hid (siz z.nd<=n):=le_trans (JL (by simp:z∈[u,y,z])) HN.out
 have hr2:ty=(ofN fs vars y.nd).1/\es=Qbz fs vars 1 u.nd++((ofN fs vars y.nd).2++Qbz fs vars (ofN fs vars y.nd).1 z.nd):=by
  simp[ndL]at hr;obtain⟨h1,h2⟩:=hr;refine⟨h1.symm,?_⟩;rw[<- h2];simp[Qbz]
 have HRV:=Zh hr2;have HPC:=HP2;have HCC:=HCP;clear hr hr2 HP2 HCP HAD HCS HN;go_enter func85,ntmps85;go_upto_region 30 with fail;generalize World.alloc w _=w1 at *;generalize w.heap.size=cb at *;have cu:=JH fs rb M u vars vv _ 1 _ (HPC.out.kid (by decide) u (by simp)) (fun W2 hp2=>IH u vars vv _ W2 HSu.out (by omega) hp2);rw[HCFu.out]at cu;have hat:=HPC.out.at';unfold An.At at hat;have hcl:=(JT (i:=0) hat.2 rfl).1;rw[HCFu.out]at hcl;have c0:=hcl 0 _ rfl;have c1:=hcl 1 _ rfl;have c2:=hcl 2 _ rfl;have c3:=hcl 3 _ rfl;have c4:=hcl 4 _ rfl;simp only[zero_add,zero_mul,one_mul,Nat.reduceMul,Nat.reduceAdd,add_zero]at c0 c1 c2 c3 c4;have m4:=Ja HCC.out 4;simp only[ZD,ZE,ZF]at m4;go_wp2_with fail;clear hat hcl c0 c1 c2 c3 c4;clear m4;refine cu.mono ?_;rintro e w2 ⟨rfl,hf2,hc2⟩;replace HPC:=Zh (HPC.out.chg hc2 hf2);replace HCC:=Zh (hc2.heap_some (by simp;exact hcb) HCC.out);replace HBA:=Zh (HBA.out.trans hc2);clear cu hf2 hc2;have cy:=IH y vars vv _ _ HSy.out (by omega) (HPC.out.kid (by decide) y (by simp));rw[HCFy.out]at cy;have hat:=HPC.out.at';unfold An.At at hat;have hcl:=(JT (i:=1) hat.2 rfl).1;rw[HCFy.out]at hcl;have c0:=hcl 0 _ rfl;have c1:=hcl 1 _ rfl;have c2:=hcl 2 _ rfl;have c3:=hcl 3 _ rfl;have c4:=hcl 4 _ rfl;simp only[zero_add,zero_mul,one_mul,Nat.reduceMul,Nat.reduceAdd,add_zero]at c0 c1 c2 c3 c4;have m4:=Ja HCC.out 4;simp only[ZD,ZE,ZF]at m4;go_wp2_with fail;clear hat hcl c0 c1 c2 c3 c4;clear m4;refine cy.mono ?_;rintro e w3 ⟨rfl,hf3,hc3⟩;replace HPC:=Zh (HPC.out.chg hc3 hf3);replace HCC:=Zh (hc3.heap_some (by simp;exact hcb) HCC.out);replace HBA:=Zh (HBA.out.trans hc3);clear cy hf3 hc3;have cz:=JH fs rb M z vars vv _ (ofN fs vars y.nd).1 _ (HPC.out.kid (by decide) z (by simp)) (fun W2 hp2=>IH z vars vv _ W2 HSz.out (by omega) hp2);rw[HCFz.out]at cz;have hat:=HPC.out.at';unfold An.At at hat;have hcl:=(JT (i:=2) hat.2 rfl).1;rw[HCFz.out]at hcl;have c0:=hcl 0 _ rfl;have c1:=hcl 1 _ rfl;have c2:=hcl 2 _ rfl;have c3:=hcl 3 _ rfl;have c4:=hcl 4 _ rfl;simp only[zero_add,zero_mul,one_mul,Nat.reduceMul,Nat.reduceAdd,add_zero]at c0 c1 c2 c3 c4;have m4:=Ja HCC.out 4;simp only[ZD,ZE,ZF]at m4;go_wp2_with fail;clear hat hcl c0 c1 c2 c3 c4;clear m4;refine cz.mono ?_;rintro e w4 ⟨rfl,hf4,hc4⟩;have HF4:=Zh hf4;replace HBA:=Zh (HBA.out.trans hc4);clear cz hf4 hc4;go_wp2;rw[HR.out,HRV.out.1,HRV.out.2];exact⟨rfl,by rw[Jv,Jv];exact HF4.out,HBA.out⟩
end Go.Proofs.YtdlkcjkjnehnkaaGreatDoor
