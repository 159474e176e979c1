import Derived.Test.YtfafpklefknomaaGreatDoorR18
open Nat(add_zero le_refl le_trans one_mul zero_add zero_mul)
namespace Go.Proofs.YtfafpklefknomaaGreatDoor
open Go.ChangeShapes Go.WideShapes Go.ChangeAt Go.RowKit Go.Lib
open _root_.Go.Proofs.Tryz
set_option linter.all false
set_option maxRecDepth 100000
set_option maxHeartbeats 32000000
theorem ux2{P:Prop}(h:P:=by
  have c0:=hcl 0 _ rfl;have c1:=hcl 1 _ rfl;have c2:=hcl 2 _ rfl;have c3:=hcl 3 _ rfl;have c4:=hcl 4 _ rfl;simp only[Nat.zero_add,Nat.zero_mul,Nat.one_mul,Nat.reduceMul,Nat.reduceAdd,Nat.add_zero]at c0 c1 c2 c3 c4;go_simp;clear hat hcl c0 c1 c2 c3 c4;refine hK.out _ _ trivial (λhH=>?_);clear hK K
  try simp only[Act.put,ZA,ZB,ZC]
  refine ZS 12 rfl (λK hK=>?_);have cn:=IH y vars vv _ _ HSy.o (by omega) (HPC.o.kid (by decide) y (by simp));rw[HCFy.o]at cn
  (go_simp;go_at_call 114;refine cn.mono ?_;intro e w5 h5)
  obtain⟨he5,hf5,hc5⟩:=h5;subst he5;replace HPC:=Zh (HPC.o.chg hc5 hf5);replace HCC:=Zh (hc5.heap_some (by simp;exact hcb) HCC.o);replace HBA:=Zh (HBA.o.trans hc5);clear hf5 hc5 cn;refine hK.out _ _ trivial (λhH=>?_);clear hK K
  try simp only[Act.put,ZA,ZB,ZC]
  refine ZS 13 rfl (λK hK=>?_);have cn:=JH fs rb M z vars vv _ (ofN fs vars y.nd).1 _ (HPC.o.kid (by decide) z (by simp)) (λW2 hp2=>IH z vars vv _ W2 HSz.o (by omega) hp2);rw[HCFz.o]at cn
  (go_simp;go_at_call 57;refine cn.mono ?_;intro e w6 h6)
  obtain⟨he6,hf6,hc6⟩:=h6;subst he6;have HF6:=Zh hf6;replace HBA:=Zh (HBA.o.trans hc6);clear hf6 hc6 cn;refine hK.out _ _ trivial (λhH=>?_);clear hK K
  try simp only[Act.put,ZA,ZB,ZC]
  refine wpAnyH_done (by kernel_rfl) ?_ _;go_wp2;rw[HR.o,HRV.o.1,HRV.o.2]
  exact⟨rfl,by rw[Jw];exact HF6.o,HBA.o⟩):P:=h
theorem ux9{P:Prop}(h:P:=by
  try simp only[Act.put,ZA,ZB,ZC]
  refine ZR (rs:=[4,12]) (AllReadyH.cons rfl (λK hK=>?_) (AllReadyH.cons rfl (λK hK=>?_) AllReadyH.nil))
  ·have hat:=HPC.o.at';unfold An.At at hat;have hcl:=(JW (i:=1) hat.2 rfl).1;rw[HCFz.o]at hcl;exact ux2
  ·have cn:=IH y vars vv _ _ HSy.o (by omega) (HPC.o.kid (by decide) y (by simp));rw[HCFy.o]at cn
   (go_simp;go_at_call 114;refine cn.mono ?_;intro e w5 h5)
   obtain⟨he5,hf5,hc5⟩:=h5;subst he5;replace HPC:=Zh (HPC.o.chg hc5 hf5);replace HCC:=Zh (hc5.heap_some (by simp;exact hcb) HCC.o);replace HBA:=Zh (HBA.o.trans hc5);clear hf5 hc5 cn;refine hK.out _ _ trivial (λhH=>?_);clear hK K
   try simp only[Act.put,ZA,ZB,ZC]
   refine ZS 4 rfl (λK hK=>?_);have hat:=HPC.o.at';unfold An.At at hat;have hcl:=(JW (i:=1) hat.2 rfl).1;rw[HCFz.o]at hcl;have c0:=hcl 0 _ rfl;have c1:=hcl 1 _ rfl;have c2:=hcl 2 _ rfl;have c3:=hcl 3 _ rfl;have c4:=hcl 4 _ rfl;simp only[Nat.zero_add,Nat.zero_mul,Nat.one_mul,Nat.reduceMul,Nat.reduceAdd,Nat.add_zero]at c0 c1 c2 c3 c4;go_simp;clear hat hcl c0 c1 c2 c3 c4;refine hK.out _ _ trivial (λhH=>?_);clear hK K
   try simp only[Act.put,ZA,ZB,ZC]
   refine ZS 13 rfl (λK hK=>?_);have cn:=JH fs rb M z vars vv _ (ofN fs vars y.nd).1 _ (HPC.o.kid (by decide) z (by simp)) (λW2 hp2=>IH z vars vv _ W2 HSz.o (by omega) hp2);rw[HCFz.o]at cn
   (go_simp;go_at_call 57;refine cn.mono ?_;intro e w6 h6)
   obtain⟨he6,hf6,hc6⟩:=h6;subst he6;have HF6:=Zh hf6;replace HBA:=Zh (HBA.o.trans hc6);clear hf6 hc6 cn;refine hK.out _ _ trivial (λhH=>?_);clear hK K
   try simp only[Act.put,ZA,ZB,ZC]
   refine wpAnyH_done (by kernel_rfl) ?_ _;go_wp2;rw[HR.o,HRV.o.1,HRV.o.2]
   exact⟨rfl,by rw[Jw];exact HF6.o,HBA.o⟩):P:=h
theorem QhW{P:Prop}(h:P:=by
  try simp only[Act.put,ZA,ZB,ZC]
  refine ZS 10 rfl (λK hK=>?_);have hat:=HPC.o.at';unfold An.At at hat;have hcl:=(JW (i:=0) hat.2 rfl).1;rw[HCFy.o]at hcl
  exact ux2):P:=h
theorem Qke{P:Prop}(h:P:=by
  try simp only[Act.put,ZA,ZB,ZC]
  refine ZR (rs:=[4,10]) (AllReadyH.cons rfl (λK hK=>?_) (AllReadyH.cons rfl (λK hK=>?_) AllReadyH.nil))
  ·have hat:=HPC.o.at';unfold An.At at hat;have hcl:=(JW (i:=1) hat.2 rfl).1;rw[HCFz.o]at hcl;have c0:=hcl 0 _ rfl;have c1:=hcl 1 _ rfl;have c2:=hcl 2 _ rfl;have c3:=hcl 3 _ rfl;have c4:=hcl 4 _ rfl;simp only[Nat.zero_add,Nat.zero_mul,Nat.one_mul,Nat.reduceMul,Nat.reduceAdd,Nat.add_zero]at c0 c1 c2 c3 c4;go_simp;clear hat hcl c0 c1 c2 c3 c4;refine hK.out _ _ trivial (λhH=>?_);clear hK K;exact QhW
  ·have hat:=HPC.o.at';unfold An.At at hat;have hcl:=(JW (i:=0) hat.2 rfl).1;rw[HCFy.o]at hcl;have c0:=hcl 0 _ rfl;have c1:=hcl 1 _ rfl;have c2:=hcl 2 _ rfl;have c3:=hcl 3 _ rfl;have c4:=hcl 4 _ rfl;simp only[Nat.zero_add,Nat.zero_mul,Nat.one_mul,Nat.reduceMul,Nat.reduceAdd,Nat.add_zero]at c0 c1 c2 c3 c4;go_simp;clear hat hcl c0 c1 c2 c3 c4;refine hK.out _ _ trivial (λhH=>?_);clear hK K
   exact ux9):P:=h
theorem Qgq{P:Prop}(h:P:=by
  try simp only[Act.put,ZA,ZB,ZC]
  refine wpAnyH_done (by kernel_rfl) ?_ _;go_wp2;rw[HR.o,HRV.o.1,HRV.o.2]
  exact⟨rfl,by rw[Jw];exact HF6.o,HBA.o⟩):P:=h
section
variable (fs:List QaN)(rb:Nat)(M:Value)(hps:∀s∈fs,s.params.length<=1000000000)(n:Nat)(IH:QdS fs rb M n)(nn:Int)(s:By)(off:Int)(b c:Nat)(l:List An)(vars:List Int)(vv:Value)(x:Option Int)(w:World)(hn:Qbd (ndL l)<=n)(hb:n+1+vars.length<=1000000000)
include fs rb M hps n IH nn s off b c l vars vv x w hn hb
theorem JoC(hpre:Qas fs rb M w x vars vv (.mk 15 nn s off b c l))  :
  Calls prog 114 #[Pt rb,.agg (Qaa (.mk 15 nn s off b c l)),vv] w (TyP w rb M x (ofN fs vars (An.mk 15 nn s off b c l).nd).2 (Iv (ofN fs vars (An.mk 15 nn s off b c l).nd).1)):=by
 obtain⟨r,hr⟩:∃r,ofN fs vars (An.mk 15 nn s off b c l).nd=r:=⟨_,rfl⟩
 rw[hr];obtain⟨ty,es⟩:=r;dsimp only;obtain⟨R,hR⟩:∃R,TyP w rb M x es (Iv ty)=R:=⟨_,rfl⟩
 rw[hR];have HR:Hi (R=TyP w rb M x es (Iv ty)):=hR.symm;rw[An.nd,Kv]at hr;have eA:l.length<=n:=by have:=Jy l;omega
 obtain⟨ad,cc,hkv,cA⟩:=Jp b c l
 have vA:Qaa (.mk 15 nn s off b c l)=#[Iv 15,Iv nn,Sv s,Iv off,.slice ad l.length cc]:=by
  show #[_,_,_,_,Qaz b c l]=_
  rw[hkv]
 have aA:Below w.heap.size w (w.alloc (.cells (Qaa (.mk 15 nn s off b c l)) 127)):=zO.alloc (Nat.le_refl _) _;have gA:=Jb hpre.flt;have hcb:w.heap.size≠rb:=zo;have HP:=Zh (hpre.up aA);have HBA:=Zh (Chg.of_below aA [rb]);have HCP:=Zh (zQ w (.cells (Qaa (.mk 15 nn s off b c l)) 127));have HAD:=Zh cA;have HCS:=Zh vA;have HN:=Zh hn;rw[vA]at HBA HCP |-;have HP2:Hi (Qas fs rb M (w.alloc (.cells #[Iv 15,Iv nn,Sv s,Iv off,.slice ad l.length cc] 127)) x vars vv (.mk 15 nn s off b c l)):=by rw[<- vA];exact HP.o
 clear hR aA hkv cA vA gA HP hpre hn
 obtain⟨y,z,dA⟩:∃y z,l=[y,z]:=by
  have hwf:=HP2.o.wf;unfold An.nd WfN at hwf;have h2:=hwf.2.1 rfl;rw[Kk,List.length_map]at h2
  match l,h2 with
  |[y,z],_=>exact⟨y,z,rfl⟩
 subst dA;have had':ad=some ⟨b,0,none⟩:=HAD.o zq;subst had';obtain⟨yA,yn,yc,uA⟩:=Jg y;have HCFy:=Zh uA;clear uA;have HSy:Hi (siz y.nd<=n):=le_trans (JM (by simp:y∈[y,z])) HN.o;obtain⟨zA,zn,zc,xA⟩:=Jg z;have HCFz:=Zh xA;clear xA;have HSz:Hi (siz z.nd<=n):=le_trans (JM (by simp:z∈[y,z])) HN.o
 have bA:ty=1/\es=(ofN fs vars y.nd).2++QbF fs vars (ofN fs vars y.nd).1 z.nd:=by
  simp[ndL]at hr;obtain⟨h1,h2⟩:=hr;refine⟨h1.symm,?_⟩;rw[<- h2];simp[QbF]
 have HRV:=Zh bA;have HPC:=HP2;have HCC:=HCP;clear hr bA HP2 HCP HAD HCS HN;go_enter func114,ntmps114;go_upto_region 22 with fail;generalize World.alloc w _=w1 at *;generalize w.heap.size=cb at *;refine wp_region_held_drew (S:=λ_=>True) zk (trivial) λhH=>?_;have hD:Below w1.heap.size w1 w1.drew:=(Below.refl w1.heap.size w1).drew;replace HPC:=Zh (HPC.o.up hD);replace HCC:=Zh ((hD.block _ (Jb HCC.o)).trans HCC.o);replace HBA:=Zh (HBA.o.trans (Chg.of_below hD [rb]));clear hD;generalize w1.drew=w3 at *;refine zK 0 ?_
 try simp only[zX]
 refine zK 1 ?_;try simp only[zX]
 refine zK 5 ?_;try simp only[zX]
 refine zK 6 ?_;try simp only[zX]
 refine zK 7 ?_;try simp only[zX]
 refine zK 11 ?_;try simp only[zX]
 refine ZR (rs:=[2,8]) (AllReadyH.cons rfl (λK hK=>?_) (AllReadyH.cons rfl (λK hK=>?_) AllReadyH.nil))
 ·have m4:=Ja HCC.o 4;simp only[zW]at m4;go_simp;clear m4;refine zU hK trivial λhH=>?_;clear hK K
  try simp only[zX]
  refine zK 3 ?_;try simp only[zX]
  refine ZR (rs:=[4,8]) (AllReadyH.cons rfl (λK hK=>?_) (AllReadyH.cons rfl (λK hK=>?_) AllReadyH.nil))
  ·have hat:=HPC.o.at';unfold An.At at hat;have hcl:=(JW (i:=1) hat.2 rfl).1;rw[HCFz.o]at hcl;have c0:=hcl 0 _ rfl;have c1:=hcl 1 _ rfl;have c2:=hcl 2 _ rfl;have c3:=hcl 3 _ rfl;have c4:=hcl 4 _ rfl;simp only[zero_add,zero_mul,one_mul,Nat.reduceMul,Nat.reduceAdd,add_zero]at c0 c1 c2 c3 c4;go_simp;clear hat hcl c0 c1 c2 c3 c4;refine zU hK trivial λhH=>?_;clear hK K
   try simp only[zX]
   refine ZS 8 rfl λK hK=>?_;have m4:=Ja HCC.o 4;simp only[zW]at m4;go_simp;clear m4;refine zU hK trivial λhH=>?_;clear hK K
   try simp only[zX]
   refine zK 9 ?_
   exact QhW
  ·have m4:=Ja HCC.o 4;simp only[zW]at m4;go_simp;clear m4;refine zU hK trivial λhH=>?_;clear hK K
   try simp only[zX]
   refine zK 9 ?_
   exact Qke
 ·have m4:=Ja HCC.o 4;simp only[zW]at m4;go_simp;clear m4;refine zU hK trivial λhH=>?_;clear hK K
  try simp only[zX]
  refine zK 9 ?_;try simp only[zX]
  refine ZR (rs:=[2,10]) (AllReadyH.cons rfl (λK hK=>?_) (AllReadyH.cons rfl (λK hK=>?_) AllReadyH.nil))
  ·have m4:=Ja HCC.o 4;simp only[zW]at m4;go_simp;clear m4;refine zU hK trivial λhH=>?_;clear hK K
   try simp only[zX]
   refine zK 3 ?_
   exact Qke
  ·have hat:=HPC.o.at';unfold An.At at hat;have hcl:=(JW (i:=0) hat.2 rfl).1;rw[HCFy.o]at hcl;have c0:=hcl 0 _ rfl;have c1:=hcl 1 _ rfl;have c2:=hcl 2 _ rfl;have c3:=hcl 3 _ rfl;have c4:=hcl 4 _ rfl;simp only[zero_add,zero_mul,one_mul,Nat.reduceMul,Nat.reduceAdd,add_zero]at c0 c1 c2 c3 c4;go_simp;clear hat hcl c0 c1 c2 c3 c4;refine zU hK trivial λhH=>?_;clear hK K
   try simp only[zX]
   refine ZR (rs:=[2,12]) (AllReadyH.cons rfl (λK hK=>?_) (AllReadyH.cons rfl (λK hK=>?_) AllReadyH.nil))
   ·have m4:=Ja HCC.o 4;simp only[zW]at m4;go_simp;clear m4;refine zU hK trivial λhH=>?_;clear hK K
    try simp only[zX]
    refine zK 3 ?_
    exact ux9
   ·have cn:=IH y vars vv _ _ HSy.o zo (HPC.o.kid zp y zq);rw[HCFy.o]at cn
    (go_simp;go_at_call 114;refine cn.mono ?_;intro e w5 h5)
    obtain⟨he5,hf5,hc5⟩:=h5;subst he5;replace HPC:=Zh (HPC.o.chg hc5 hf5);replace HCC:=Zh (hc5.heap_some (by simp;exact hcb) HCC.o);replace HBA:=Zh (HBA.o.trans hc5);clear hf5 hc5 cn;refine zU hK trivial λhH=>?_;clear hK K
    try simp only[zX]
    refine ZS 2 rfl λK hK=>?_;have m4:=Ja HCC.o 4;simp only[zW]at m4;go_simp;clear m4;refine zU hK trivial λhH=>?_;clear hK K
    try simp only[zX]
    refine zK 3 ?_;try simp only[zX]
    refine ZS 4 rfl λK hK=>?_;have hat:=HPC.o.at';unfold An.At at hat;have hcl:=(JW (i:=1) hat.2 rfl).1;rw[HCFz.o]at hcl;have c0:=hcl 0 _ rfl;have c1:=hcl 1 _ rfl;have c2:=hcl 2 _ rfl;have c3:=hcl 3 _ rfl;have c4:=hcl 4 _ rfl;simp only[zero_add,zero_mul,one_mul,Nat.reduceMul,Nat.reduceAdd,add_zero]at c0 c1 c2 c3 c4;go_simp;clear hat hcl c0 c1 c2 c3 c4;refine zU hK trivial λhH=>?_;clear hK K
    try simp only[zX]
    refine ZS 13 rfl λK hK=>?_;have cn:=JH fs rb M z vars vv _ (ofN fs vars y.nd).1 _ (HPC.o.kid zp z zq) λW2 hp2=>IH z vars vv _ W2 HSz.o zo hp2;rw[HCFz.o]at cn
    (go_simp;go_at_call 57;refine cn.mono ?_;intro e w6 h6)
    obtain⟨he6,hf6,hc6⟩:=h6;subst he6;have HF6:=Zh hf6;replace HBA:=Zh (HBA.o.trans hc6);clear hf6 hc6 cn;refine zU hK trivial λhH=>?_;clear hK K;exact Qgq
theorem JoD(hpre:Qas fs rb M w x vars vv (.mk 18 nn s off b c l))  :
  Calls prog 114 #[Pt rb,.agg (Qaa (.mk 18 nn s off b c l)),vv] w (TyP w rb M x (ofN fs vars (An.mk 18 nn s off b c l).nd).2 (Iv (ofN fs vars (An.mk 18 nn s off b c l).nd).1)):=by
 obtain⟨r,hr⟩:∃r,ofN fs vars (An.mk 18 nn s off b c l).nd=r:=⟨_,rfl⟩
 rw[hr];obtain⟨ty,es⟩:=r;dsimp only;obtain⟨R,hR⟩:∃R,TyP w rb M x es (Iv ty)=R:=⟨_,rfl⟩
 rw[hR];have HR:Hi (R=TyP w rb M x es (Iv ty)):=hR.symm;rw[An.nd,Kv]at hr;have nA:l.length<=n:=by have:=Jy l;omega
 obtain⟨ad,cc,hkv,gA⟩:=Jp b c l
 have cA:Qaa (.mk 18 nn s off b c l)=#[Iv 18,Iv nn,Sv s,Iv off,.slice ad l.length cc]:=by
  show #[_,_,_,_,Qaz b c l]=_
  rw[hkv]
 have dA:Below w.heap.size w (w.alloc (.cells (Qaa (.mk 18 nn s off b c l)) 127)):=zO.alloc (Nat.le_refl _) _;have pA:=Jb hpre.flt;have hcb:w.heap.size≠rb:=zo;have HP:=Zh (hpre.up dA);have HBA:=Zh (Chg.of_below dA [rb]);have HCP:=Zh (zQ w (.cells (Qaa (.mk 18 nn s off b c l)) 127));have HAD:=Zh gA;have HCS:=Zh cA;have HN:=Zh hn;rw[cA]at HBA HCP |-;have HP2:Hi (Qas fs rb M (w.alloc (.cells #[Iv 18,Iv nn,Sv s,Iv off,.slice ad l.length cc] 127)) x vars vv (.mk 18 nn s off b c l)):=by rw[<- cA];exact HP.o
 clear hR dA hkv gA cA pA HP hpre hn
 obtain⟨u,y,z,mA⟩:∃u y z,l=[u,y,z]:=by
  have hwf:=HP2.o.wf;unfold An.nd WfN at hwf;have h2:=hwf.2.2.1 rfl;rw[Kk,List.length_map]at h2
  match l,h2 with
  |[u,y,z],_=>exact⟨u,y,z,rfl⟩
 subst mA;have had':ad=some ⟨b,0,none⟩:=HAD.o zq;subst had';obtain⟨uA,un,uc,aA⟩:=Jg u;have bA:=Zh aA;clear aA;have kA:Hi (siz u.nd<=n):=le_trans (JM (by simp:u∈[u,y,z])) HN.o;obtain⟨yA,yn,yc,vA⟩:=Jg y;have HCFy:=Zh vA;clear vA;have HSy:Hi (siz y.nd<=n):=le_trans (JM (by simp:y∈[u,y,z])) HN.o;obtain⟨zA,zn,zc,xA⟩:=Jg z;have HCFz:=Zh xA;clear xA;have HSz:Hi (siz z.nd<=n):=le_trans (JM (by simp:z∈[u,y,z])) HN.o
 have eA:ty=(ofN fs vars y.nd).1/\es=QbF fs vars 1 u.nd++((ofN fs vars y.nd).2++QbF fs vars (ofN fs vars y.nd).1 z.nd):=by
  simp[ndL]at hr;obtain⟨h1,h2⟩:=hr;refine⟨h1.symm,?_⟩;rw[<- h2];simp[QbF]
 have HRV:=Zh eA;have HPC:=HP2;have HCC:=HCP;clear hr eA HP2 HCP HAD HCS HN;go_enter func114,ntmps114;go_upto_region 30 with fail;generalize World.alloc w _=w1 at *;generalize w.heap.size=cb at *;have cu:=JH fs rb M u vars vv _ 1 _ (HPC.o.kid zp u zq) λW2 hp2=>IH u vars vv _ W2 kA.o zo hp2;rw[bA.o]at cu;have hat:=HPC.o.at';unfold An.At at hat;have hcl:=(JW (i:=0) hat.2 rfl).1;rw[bA.o]at hcl;have c0:=hcl 0 _ rfl;have c1:=hcl 1 _ rfl;have c2:=hcl 2 _ rfl;have c3:=hcl 3 _ rfl;have c4:=hcl 4 _ rfl;simp only[zero_add,zero_mul,one_mul,Nat.reduceMul,Nat.reduceAdd,add_zero]at c0 c1 c2 c3 c4;have m4:=Ja HCC.o 4;simp only[zW]at m4;go_wp2_with fail;clear hat hcl c0 c1 c2 c3 c4;clear m4;refine cu.mono ?_;rintro e w2 ⟨rfl,hf2,hc2⟩;replace HPC:=Zh (HPC.o.chg hc2 hf2);replace HCC:=Zh (hc2.heap_some (by simp;exact hcb) HCC.o);replace HBA:=Zh (HBA.o.trans hc2);clear cu hf2 hc2;have cy:=IH y vars vv _ _ HSy.o zo (HPC.o.kid zp y zq);rw[HCFy.o]at cy;have hat:=HPC.o.at';unfold An.At at hat;have hcl:=(JW (i:=1) hat.2 rfl).1;rw[HCFy.o]at hcl;have c0:=hcl 0 _ rfl;have c1:=hcl 1 _ rfl;have c2:=hcl 2 _ rfl;have c3:=hcl 3 _ rfl;have c4:=hcl 4 _ rfl;simp only[zero_add,zero_mul,one_mul,Nat.reduceMul,Nat.reduceAdd,add_zero]at c0 c1 c2 c3 c4;have m4:=Ja HCC.o 4;simp only[zW]at m4;go_wp2_with fail;clear hat hcl c0 c1 c2 c3 c4;clear m4;refine cy.mono ?_;rintro e w3 ⟨rfl,hA,hc3⟩;replace HPC:=Zh (HPC.o.chg hc3 hA);replace HCC:=Zh (hc3.heap_some (by simp;exact hcb) HCC.o);replace HBA:=Zh (HBA.o.trans hc3);clear cy hA hc3;have cz:=JH fs rb M z vars vv _ (ofN fs vars y.nd).1 _ (HPC.o.kid zp z zq) λW2 hp2=>IH z vars vv _ W2 HSz.o zo hp2;rw[HCFz.o]at cz;have hat:=HPC.o.at';unfold An.At at hat;have hcl:=(JW (i:=2) hat.2 rfl).1;rw[HCFz.o]at hcl;have c0:=hcl 0 _ rfl;have c1:=hcl 1 _ rfl;have c2:=hcl 2 _ rfl;have c3:=hcl 3 _ rfl;have c4:=hcl 4 _ rfl;simp only[zero_add,zero_mul,one_mul,Nat.reduceMul,Nat.reduceAdd,add_zero]at c0 c1 c2 c3 c4;have m4:=Ja HCC.o 4;simp only[zW]at m4;go_wp2_with fail;clear hat hcl c0 c1 c2 c3 c4;clear m4;refine cz.mono ?_;rintro e w4 ⟨rfl,iA,jA⟩;have HF4:=Zh iA;replace HBA:=Zh (HBA.o.trans jA);clear cz iA jA;go_wp2;rw[HR.o,HRV.o.1,HRV.o.2];exact⟨rfl,by rw[Jw,Jw];exact HF4.o,HBA.o⟩
end
def Z3(g o n vc:Nat)(h:n<=vc)(W:World):(Instr.slice 29 (.slice (some ⟨g,o,none⟩) n vc) none (some (Iv n)) (some (Iv n))).run prog W=.ok (.slice (some ⟨g,o,none⟩) n n) W:=by
 rw[run_slice_hm W 29 (some ⟨g,o,none⟩) n vc (show prog.underlying 29=some (.slice (prog.elem 29)) by kernel_rfl) .i64 .i64 n n zo zo zo];rw[show (sizeOf (prog.elem 29)).run prog W=.ok 1 W by kernel_rfl];simp[Result.andThen,sliced,Addr.add]
def Z4(ad:Option Addr)(vc:Nat)(W:World):∃ad2,∀W:World,(Instr.slice 29 (.slice ad 0 vc) none (some (Iv 0)) (some (Iv 0))).run prog W=.ok (.slice ad2 0 0) W:=by
 refine⟨ad,λW=>?_⟩;rw[run_slice_hm W 29 ad 0 vc (show prog.underlying 29=some (.slice (prog.elem 29)) by kernel_rfl) .i64 .i64 0 0 zo zo zo];rw[show (sizeOf (prog.elem 29)).run prog W=.ok 1 W by kernel_rfl]
 cases ad<;>simp[Result.andThen,sliced,Addr.add]
def QeQ:(prog.info? 3).map (λi=>(i.zero,i.size,i.bytes))=some (some (Iv 0),1,8):=zk
theorem QjM{P:Prop}(h:P:=by
  simp only[ho,resolve,invoke,builtin,Sem.run_bind,Sem.run_pure,Result.andThen_ok,List.map_toArray,List.map_cons,List.map_nil,hs,hx,hr];refine h _ _ (hvar _ _ (grownCap_ge w 1 0 3) λi n hs=>?_) (hbel _);have:i=0:=by have:=(List.getElem?_eq_some_iff.1 hs).1;simp at this;exact this
  subst this;have hs':nm=n:=by simpa using hs
  subst hs';rw[Array.getElem?_append_left (by simp)]
  rfl):P:=h
def JQ{ops:Array Oper}{o:Oper}{ac:Act}{K:Act->World->Prop}{Q:Exit->Act->World->Prop}{E:Prop}(w:World)(hgd:o.guard=none)(s x:Operand)
  (ho:o.op=.call { callee:=.builtin .append,args:=#[s,x],argTypes:=#[29,29] }) (vars:List Int) (sv:Value) (hsv:(vars=[]/\∃ad,sv=.slice ad 0 0)\/∃g o,sv=.slice (some ⟨g,o,none⟩) vars.length vars.length/\∀i n,vars[i]?=some n->w.cell? ⟨g,o+i,none⟩=some (Iv n)) (hs:ac.eval s=sv)
  (rr:Nat) (nm:Int) (hx:ac.eval x=.slice (some ⟨rr,0,none⟩) 1 1) (hrow:w.heap[rr]?=some (.cells #[Iv nm] 3 (0,0)))
  (hlen:vars.length<=1000000000) (rb:Nat) (hrb:rb<w.heap.size)
  (h:∀w' cc,Qbo w' rb (.slice (some ⟨w.heap.size,0,none⟩) (vars.length+1) cc) (vars++[nm])->Below w.heap.size w w'->K (ac.put o.dst (.slice (some ⟨w.heap.size,0,none⟩) (vars.length+1) cc)) w') :
  if Region.wanted o (yielded ops ac.tmps)=true then Oper.wp prog o ac w K Q else E:=by
 have hw:Region.wanted o (yielded ops ac.tmps)=true:=by simp[Region.wanted,hgd]
 rw[if_pos hw];obtain⟨i0,hi,uA,yA,zA⟩:=info_parts QeQ
 have xA:∀j u,[Value.int .i64 nm][j]?=some u->w.cell? ((⟨rr,0,none⟩:Addr).add j)=some u:=λj u hj=>by
  rw[show (⟨rr,0,none⟩:Addr).add j=⟨rr,j,none⟩ by unfold Addr.add;split<;>simp_all];exact KP hrow hj
 have hvar:∀(cs:Array Value) (cc:Nat),vars.length+1<=cc->(∀(i:Nat) (n:Int),(vars++[nm])[i]?=some n->cs[i]?=some (Value.int .i64 n))->Qbo (w.drew.alloc (.cells cs 3)) rb (.slice (some ⟨w.heap.size,0,none⟩) (vars.length+1) cc) (vars++[nm]):=by
  intro cs cc h1 h2;refine .inr ⟨w.heap.size,0,cc,by rw[List.length_append];rfl,by rw[List.length_append];exact h1,by omega,by simp,λi n hs=>?_⟩;rw[zero_add];exact(Ja (zQ w.drew (.cells cs 3)) i).trans (h2 i n hs)
 have hbel:∀cs:Array Value,Below w.heap.size w (w.drew.alloc (.cells cs 3)):=λcs=>((Below.refl w.heap.size w).drew).alloc zP _
 unfold Oper.wp execOp
 rcases hsv with⟨hv,ad,rfl⟩|⟨g,o',rfl,hc⟩
 ·subst hv
  cases ad with
  |some ad=>
   have hr:=run_append_grow (P:=prog) w 29 o.type 3 i0 _ underlying29 hi uA ad 0 0 [] (by rw[yA];rfl) (λj u hj=>by simp at hj) ⟨rr,0,none⟩ 1 1 [Iv nm] (by rw[yA];rfl) xA zo zo (growslice_fits zo (by rw[zA];omega));exact QjM
  |none=>
  have hr:=run_append_nil (P:=prog) w 29 o.type 3 i0 _ underlying29 hi uA ⟨rr,0,none⟩ 1 1 [Iv nm] (by rw[yA];rfl) xA zp zp (by rw[zA];decide);exact QjM
 ·have hr:=run_append_grow (P:=prog) w 29 o.type 3 i0 _ underlying29 hi uA ⟨g,o',none⟩ vars.length vars.length (vars.map λn=>Iv n) (by rw[yA];simp) (λj u hj=>by
   rw[show (⟨g,o',none⟩:Addr).add j=⟨g,o'+j,none⟩ by unfold Addr.add;split<;>simp_all];rw[List.getElem?_map]at hj;obtain⟨n,h1,rfl⟩:=Option.map_eq_some_iff.1 hj
   exact hc j n h1) ⟨rr,0,none⟩ 1 1 [Iv nm] (by rw[yA];rfl) xA zo zo (growslice_fits zo (by rw[zA];omega))
  simp only[ho,resolve,invoke,builtin,Sem.run_bind,Sem.run_pure,Result.andThen_ok,List.map_toArray,List.map_cons,List.map_nil,hs,hx,hr];refine h _ _ (hvar _ _ (grownCap_ge w (vars.length+1) vars.length 3) λi n hs=>?_) (hbel _);have hlt:=(List.getElem?_eq_some_iff.1 hs).1;rw[Array.getElem?_append_left (by simp at hlt |-;omega)];have e:(vars.map λn=>Value.int .i64 n).toArray++[Value.int .i64 nm].toArray=((vars++[nm]).map λn=>Value.int .i64 n).toArray:=zq;rw[e,List.getElem?_toArray,List.getElem?_map,hs];rfl
def Qas.let1{fs:List QaN}{rb:Nat}{M:Value}{W:World}{x:Option Int}{vars:List Int}{vv:Value}{nn:Int}{s:By}{off:Int}{b c:Nat}{y z:An}(h:Qas fs rb M W x vars vv (.mk 19 nn s off b c [y,z])):Qas fs rb M W x vars vv y/\∀vars' vv',vars'.length=vars.length+1->Qbo W rb vv' vars'->Qas fs rb M W x vars' vv' z:=by
 have hat:=h.at';unfold An.At at hat;have yA:=h.rf;rw[KQ,if_neg zq]at yA;have zA:=h.ok;unfold An.nd QdK at zA;have xA:=zA.2.2;simp only[ndL,beq_self_eq_true]at xA;have hwf:=h.wf;unfold An.nd WfN at hwf;have uA:=hwf.2.2.2.2
 exact⟨⟨(JW (i:=0) hat.2 rfl).2,λhm=>yA (List.mem_cons_of_mem _ (JC zq _ hm)),h.flt,h.sigs,h.ints,xA.1,Jbx uA _ (by simp[ndL])⟩,
  λvars' vv' hl hi=>⟨(JW (i:=1) hat.2 rfl).2,λhm=>yA (List.mem_cons_of_mem _ (JC zq _ hm)),h.flt,h.sigs,hi,by rw[hl];exact xA.2,Jbx uA _ (by simp[ndL])⟩⟩
def JoE(fs:List QaN)(rb:Nat)(M:Value)(hps:∀s∈fs,s.params.length<=1000000000)(n:Nat)(IH:QdS fs rb M n)(nn:Int)(s:By)(off:Int)(b c:Nat)(l:List An)(vars:List Int)(vv:Value)(x:Option Int)(w:World)(hn:Qbd (ndL l)<=n)(hb:n+1+vars.length<=1000000000)(hpre:Qas fs rb M w x vars vv (.mk 19 nn s off b c l))  :
  Calls prog 114 #[Pt rb,.agg (Qaa (.mk 19 nn s off b c l)),vv] w (TyP w rb M x (ofN fs vars (An.mk 19 nn s off b c l).nd).2 (Iv (ofN fs vars (An.mk 19 nn s off b c l).nd).1)):=by
 obtain⟨r,hr⟩:∃r,ofN fs vars (An.mk 19 nn s off b c l).nd=r:=⟨_,rfl⟩
 rw[hr];obtain⟨ty,es⟩:=r;dsimp only;obtain⟨R,hR⟩:∃R,TyP w rb M x es (Iv ty)=R:=⟨_,rfl⟩
 rw[hR];have HR:Hi (R=TyP w rb M x es (Iv ty)):=hR.symm;rw[An.nd,Kv]at hr;have mA:l.length<=n:=by have:=Jy l;omega
 obtain⟨ad,cc,hkv,hA⟩:=Jp b c l
 have bA:Qaa (.mk 19 nn s off b c l)=#[Iv 19,Iv nn,Sv s,Iv off,.slice ad l.length cc]:=by
  show #[_,_,_,_,Qaz b c l]=_
  rw[hkv]
 have eA:Below w.heap.size w (w.alloc (.cells (Qaa (.mk 19 nn s off b c l)) 127)):=zO.alloc zP _;have qA:=Jb hpre.flt;have hcb:w.heap.size≠rb:=zo;have HP:=Zh (hpre.up eA);have HBA:=Zh (Chg.of_below eA [rb]);have HCP:=Zh (zQ w (.cells (Qaa (.mk 19 nn s off b c l)) 127));have HAD:=Zh hA;have HCS:=Zh bA;have HN:=Zh hn;rw[bA]at HBA HCP |-;have HP2:Hi (Qas fs rb M (w.alloc (.cells #[Iv 19,Iv nn,Sv s,Iv off,.slice ad l.length cc] 127)) x vars vv (.mk 19 nn s off b c l)):=by rw[<- bA];exact HP.o
 clear hR eA hkv hA bA qA HP hpre hn
 obtain⟨y,z,kA⟩:∃y z,l=[y,z]:=by
  have hwf:=HP2.o.wf;unfold An.nd WfN at hwf;have h2:=hwf.1 rfl;rw[Kk,List.length_map]at h2
  match l,h2 with
  |[y,z],_=>exact⟨y,z,rfl⟩
 subst kA;have had':ad=some ⟨b,0,none⟩:=HAD.o zq;subst had';obtain⟨yA,yn,yc,aA⟩:=Jg y;have HCFy:=Zh aA;clear aA;have HSy:Hi (siz y.nd<=n):=Nat.le_trans (JM (by simp:y∈[y,z])) HN.o;obtain⟨zA,zn,zc,vA⟩:=Jg z;have HCFz:=Zh vA;clear vA;have HSz:Hi (siz z.nd<=n):=Nat.le_trans (JM (by simp:z∈[y,z])) HN.o;obtain⟨ry,dA⟩:∃ry,ofN fs vars y.nd=ry:=⟨_,rfl⟩
 obtain⟨ty1,jA⟩:=ry
 have gA:ty=(ofN fs (vars++[ty1]) z.nd).1/\es=jA++(ofN fs (vars++[ty1]) z.nd).2:=by
  simp[ndL,dA]at hr;exact⟨hr.1.symm,hr.2.symm⟩
 have HRV:=Zh gA;have HPC:=HP2;have HCC:=HCP;clear hr gA HP2 HCP HAD HCS HN;go_enter func114,ntmps114;go_upto_region 35 with fail;generalize World.alloc w _=w1 at *;generalize w.heap.size=cb at *;have cy:=IH y vars vv _ _ HSy.o zo HPC.o.let1.1;rw[HCFy.o,dA]at cy;dsimp only at cy;have hat:=HPC.o.at';unfold An.At at hat;have hcl:=(JW (i:=0) hat.2 rfl).1;rw[HCFy.o]at hcl;have c0:=hcl 0 _ rfl;have c1:=hcl 1 _ rfl;have c2:=hcl 2 _ rfl;have c3:=hcl 3 _ rfl;have c4:=hcl 4 _ rfl;simp only[zero_add,zero_mul,one_mul,Nat.reduceMul,Nat.reduceAdd,add_zero]at c0 c1 c2 c3 c4;have m4:=Ja HCC.o 4;simp only[zW]at m4;go_wp2_with fail;clear hat hcl c0 c1 c2 c3 c4;clear m4 dA;refine cy.mono ?_;rintro e w2 ⟨rfl,hf2,hc2⟩;replace HPC:=Zh (HPC.o.chg hc2 hf2);replace HCC:=Zh (hc2.heap_some (by simp;exact hcb) HCC.o);replace HBA:=Zh (HBA.o.trans hc2);clear cy hf2 hc2;go_upto_region 36 with fail
 obtain⟨sv,tA,cA⟩:∃sv,(∀W:World,(Instr.slice 29 vv none (some (Iv vars.length)) (some (Iv vars.length))).run prog W=.ok sv W)/\((vars=[]/\∃ad,sv=.slice ad 0 0)\/∃g o,sv=.slice (some ⟨g,o,none⟩) vars.length vars.length/\∀W',Below w2.drew.heap.size w2.drew W'->∀i n,vars[i]?=some n->W'.cell? ⟨g,o+i,none⟩=some (Iv n)):=by
  rcases HPC.o.ints with⟨e1,ad,vc,e2⟩|⟨g,o,vc,e,h2,_,_,h5⟩
  ·subst e1 e2;obtain⟨iA,hz⟩:=Z4 ad vc w2;exact⟨_,hz,.inl ⟨rfl,iA,rfl⟩⟩
  ·subst e;exact⟨_,Z3 g o vars.length vc h2,.inr ⟨g,o,rfl,λW' hb i n hi=>(hb.cell (World.block_lt_of_cell? _ _ (h5 i n hi))).trans (h5 i n hi)⟩⟩
 have nA:∃a m c',vv=.slice a m c'/\m=vars.length:=by
  rcases HPC.o.ints with⟨e1,ad,vc,e2⟩|⟨g,o,vc,e,_⟩
  ·exact⟨_,_,_,e2,by rw[e1];rfl⟩
  ·exact⟨_,_,_,e,rfl⟩
 obtain⟨va,vn,sA,rfl,pA⟩:=nA;subst pA;have HSV:=Zh cA;have rA:∃a m c',sv=.slice a m c':=by rcases cA with⟨_,_,rfl⟩|⟨_,_,rfl,_⟩<;>exact⟨_,_,_,rfl⟩
 obtain⟨sa,sm,sc,rfl⟩:=rA;have hvl:vars.length<=1000000000:=zo;clear cA;refine wp_region_held_drew (S:=λ_=>True) zk (trivial) λhH=>?_;have hD:Below w2.heap.size w2 w2.drew:=(Below.refl w2.heap.size w2).drew;replace HPC:=Zh (HPC.o.up hD);replace HCC:=Zh ((hD.block _ (Jb HCC.o)).trans HCC.o);replace HBA:=Zh (HBA.o.trans (Chg.of_below hD [rb]));clear hD;generalize w2.drew=w3 at *;refine zK 0 ?_
 try simp only[zX]
 refine zK 1 ?_;try simp only[zX]
 refine zK 5 ?_;try simp only[zX]
 refine zK 6 ?_;try simp only[zX]
 refine zK 7 ?_;try simp only[zX]
 refine zK 8 ?_;try simp only[zX]
 refine zK 9 ?_;try simp only[zX]
 refine zK 10 ?_;try simp only[zX]
 refine zK 11 ?_;try simp only[zX]
 refine ZR (rs:=[2,12]) (AllReadyH.cons rfl (λK hK=>?_) (AllReadyH.cons rfl (λK hK=>?_) AllReadyH.nil))
 ·have m4:=Ja HCC.o 4;simp only[zW]at m4;go_simp;clear m4;refine zU hK trivial λhH=>?_;clear hK K
  try simp only[zX]
  refine zK 3 ?_;try simp only[zX]
  refine ZR (rs:=[4,12]) (AllReadyH.cons rfl (λK hK=>?_) (AllReadyH.cons rfl (λK hK=>?_) AllReadyH.nil))
  ·have hat:=HPC.o.at';unfold An.At at hat;have hcl:=(JW (i:=1) hat.2 rfl).1;rw[HCFz.o]at hcl;have c0:=hcl 0 _ rfl;have c1:=hcl 1 _ rfl;have c2:=hcl 2 _ rfl;have c3:=hcl 3 _ rfl;have c4:=hcl 4 _ rfl;simp only[zero_add,zero_mul,one_mul,Nat.reduceMul,Nat.reduceAdd,add_zero]at c0 c1 c2 c3 c4;go_simp;clear hat hcl c0 c1 c2 c3 c4;refine zU hK trivial λhH=>?_;clear hK K
   try simp only[zX]
   refine ZS 12 rfl λK hK=>?_;go_simp;refine zU hK trivial λhH=>?_;have hb6:Below w3.heap.size w3 (w3.alloc (.cells #[Iv ty1] 3)):=zO.alloc zP _;replace HPC:=Zh (HPC.o.up hb6);replace HCC:=Zh ((hb6.block _ (Jb HCC.o)).trans HCC.o);replace HBA:=Zh (HBA.o.trans (Chg.of_below hb6 [rb]));have HRW:=Zh (zQ w3 (.cells #[Iv ty1] 3));have HB6:=Zh hb6;clear hb6;clear hK K
   try simp only[zX]
   refine ZS 13 rfl λK hK=>?_;have xA:(vars=[]/\∃ad,(Value.slice sa sm sc)=.slice ad 0 0)\/∃g o,(Value.slice sa sm sc)=.slice (some ⟨g,o,none⟩) vars.length vars.length/\∀i n,vars[i]?=some n->(w3.alloc (.cells #[Iv ty1] 3)).cell? ⟨g,o+i,none⟩=some (Value.int .i64 n):=HSV.o.imp id λ⟨g,o,h1,h2⟩=>⟨g,o,h1,h2 _ HB6.o⟩
   (refine JQ (w3.alloc (.cells #[Iv ty1] 3)) zt (.tmp 118) (.tmp 120) zt vars _ xA zt w3.heap.size ty1 zt HRW.o hvl rb (Jb HPC.o.flt) ?_;intro w5 cc5 hi5 hb5)
   replace HPC:=Zh (HPC.o.up hb5);replace HCC:=Zh ((hb5.block _ (Jb HCC.o)).trans HCC.o);replace HBA:=Zh (HBA.o.trans (Chg.of_below hb5 [rb]));have uA:=Zh hi5;generalize (w3.alloc (.cells #[Iv ty1] 3)).heap.size=g5 at *;clear xA hi5 hb5 HRW HB6 HSV;refine zU hK trivial λhH=>?_;clear hK K
   try simp only[zX]
   refine ZS 14 rfl λK hK=>?_;have hl5:(vars++[ty1]).length=vars.length+1:=zq
   have cn:=IH z (vars++[ty1]) (.slice (some ⟨g5,0,none⟩) (vars.length+1) cc5) _ _ HSz.o (by rw[hl5];omega) (HPC.o.let1.2 _ _ hl5 uA.o);rw[HCFz.o]at cn
   (go_simp;go_at_call 114;refine cn.mono ?_;intro e w6 h6)
   obtain⟨he6,hf6,hc6⟩:=h6;subst he6;have HF6:=Zh hf6;replace HBA:=Zh (HBA.o.trans hc6);clear hf6 hc6 cn hl5;refine zU hK trivial λhH=>?_;clear hK K
   try simp only[zX]
   refine zK 15 ?_
   exact Qgq
  ·go_simp;refine zU hK trivial λhH=>?_;have hb6:Below w3.heap.size w3 (w3.alloc (.cells #[Iv ty1] 3)):=zO.alloc zP _;replace HPC:=Zh (HPC.o.up hb6);replace HCC:=Zh ((hb6.block _ (Jb HCC.o)).trans HCC.o);replace HBA:=Zh (HBA.o.trans (Chg.of_below hb6 [rb]));have HRW:=Zh (zQ w3 (.cells #[Iv ty1] 3));have HB6:=Zh hb6;clear hb6;clear hK K
   try simp only[zX]
   refine ZR (rs:=[4,13]) (AllReadyH.cons rfl (λK hK=>?_) (AllReadyH.cons rfl (λK hK=>?_) AllReadyH.nil))
   ·have hat:=HPC.o.at';unfold An.At at hat;have hcl:=(JW (i:=1) hat.2 rfl).1;rw[HCFz.o]at hcl;have c0:=hcl 0 _ rfl;have c1:=hcl 1 _ rfl;have c2:=hcl 2 _ rfl;have c3:=hcl 3 _ rfl;have c4:=hcl 4 _ rfl;simp only[zero_add,zero_mul,one_mul,Nat.reduceMul,Nat.reduceAdd,add_zero]at c0 c1 c2 c3 c4;go_simp;clear hat hcl c0 c1 c2 c3 c4;refine zU hK trivial λhH=>?_;clear hK K
    try simp only[zX]
    refine ZS 13 rfl λK hK=>?_;have xA:(vars=[]/\∃ad,(Value.slice sa sm sc)=.slice ad 0 0)\/∃g o,(Value.slice sa sm sc)=.slice (some ⟨g,o,none⟩) vars.length vars.length/\∀i n,vars[i]?=some n->(w3.alloc (.cells #[Iv ty1] 3)).cell? ⟨g,o+i,none⟩=some (Value.int .i64 n):=HSV.o.imp id λ⟨g,o,h1,h2⟩=>⟨g,o,h1,h2 _ HB6.o⟩
    (refine JQ (w3.alloc (.cells #[Iv ty1] 3)) zt (.tmp 118) (.tmp 120) zt vars _ xA zt w3.heap.size ty1 zt HRW.o hvl rb (Jb HPC.o.flt) ?_;intro w5 cc5 hi5 hb5)
    replace HPC:=Zh (HPC.o.up hb5);replace HCC:=Zh ((hb5.block _ (Jb HCC.o)).trans HCC.o);replace HBA:=Zh (HBA.o.trans (Chg.of_below hb5 [rb]));have uA:=Zh hi5;generalize (w3.alloc (.cells #[Iv ty1] 3)).heap.size=g5 at *;clear xA hi5 hb5 HRW HB6 HSV;refine zU hK trivial λhH=>?_;clear hK K
    try simp only[zX]
    refine ZS 14 rfl λK hK=>?_;have hl5:(vars++[ty1]).length=vars.length+1:=zq
    have cn:=IH z (vars++[ty1]) (.slice (some ⟨g5,0,none⟩) (vars.length+1) cc5) _ _ HSz.o (by rw[hl5];omega) (HPC.o.let1.2 _ _ hl5 uA.o);rw[HCFz.o]at cn
    (go_simp;go_at_call 114;refine cn.mono ?_;intro e w6 h6)
    obtain⟨he6,hf6,hc6⟩:=h6;subst he6;have HF6:=Zh hf6;replace HBA:=Zh (HBA.o.trans hc6);clear hf6 hc6 cn hl5;refine zU hK trivial λhH=>?_;clear hK K
    try simp only[zX]
    refine zK 15 ?_
    exact Qgq
   ·have xA:(vars=[]/\∃ad,(Value.slice sa sm sc)=.slice ad 0 0)\/∃g o,(Value.slice sa sm sc)=.slice (some ⟨g,o,none⟩) vars.length vars.length/\∀i n,vars[i]?=some n->(w3.alloc (.cells #[Iv ty1] 3)).cell? ⟨g,o+i,none⟩=some (Value.int .i64 n):=HSV.o.imp id λ⟨g,o,h1,h2⟩=>⟨g,o,h1,h2 _ HB6.o⟩
    (refine JQ (w3.alloc (.cells #[Iv ty1] 3)) zt (.tmp 118) (.tmp 120) zt vars _ xA zt w3.heap.size ty1 zt HRW.o hvl rb (Jb HPC.o.flt) ?_;intro w5 cc5 hi5 hb5)
    replace HPC:=Zh (HPC.o.up hb5);replace HCC:=Zh ((hb5.block _ (Jb HCC.o)).trans HCC.o);replace HBA:=Zh (HBA.o.trans (Chg.of_below hb5 [rb]));have uA:=Zh hi5;generalize (w3.alloc (.cells #[Iv ty1] 3)).heap.size=g5 at *;clear xA hi5 hb5 HRW HB6 HSV;refine zU hK trivial λhH=>?_;clear hK K
    try simp only[zX]
    refine ZS 4 rfl λK hK=>?_;have hat:=HPC.o.at';unfold An.At at hat;have hcl:=(JW (i:=1) hat.2 rfl).1;rw[HCFz.o]at hcl;have c0:=hcl 0 _ rfl;have c1:=hcl 1 _ rfl;have c2:=hcl 2 _ rfl;have c3:=hcl 3 _ rfl;have c4:=hcl 4 _ rfl;simp only[zero_add,zero_mul,one_mul,Nat.reduceMul,Nat.reduceAdd,add_zero]at c0 c1 c2 c3 c4;go_simp;clear hat hcl c0 c1 c2 c3 c4;refine zU hK trivial λhH=>?_;clear hK K
    try simp only[zX]
    refine ZS 14 rfl λK hK=>?_;have hl5:(vars++[ty1]).length=vars.length+1:=zq
    have cn:=IH z (vars++[ty1]) (.slice (some ⟨g5,0,none⟩) (vars.length+1) cc5) _ _ HSz.o (by rw[hl5];omega) (HPC.o.let1.2 _ _ hl5 uA.o);rw[HCFz.o]at cn
    (go_simp;go_at_call 114;refine cn.mono ?_;intro e w6 h6)
    obtain⟨he6,hf6,hc6⟩:=h6;subst he6;have HF6:=Zh hf6;replace HBA:=Zh (HBA.o.trans hc6);clear hf6 hc6 cn hl5;refine zU hK trivial λhH=>?_;clear hK K
    try simp only[zX]
    refine zK 15 ?_
    exact Qgq
 ·go_simp;refine zU hK trivial λhH=>?_;have hb6:Below w3.heap.size w3 (w3.alloc (.cells #[Iv ty1] 3)):=zO.alloc zP _;replace HPC:=Zh (HPC.o.up hb6);replace HCC:=Zh ((hb6.block _ (Jb HCC.o)).trans HCC.o);replace HBA:=Zh (HBA.o.trans (Chg.of_below hb6 [rb]));have HRW:=Zh (zQ w3 (.cells #[Iv ty1] 3));have HB6:=Zh hb6;clear hb6;clear hK K
  try simp only[zX]
  refine ZR (rs:=[2,13]) (AllReadyH.cons rfl (λK hK=>?_) (AllReadyH.cons rfl (λK hK=>?_) AllReadyH.nil))
  ·have m4:=Ja HCC.o 4;simp only[zW]at m4;go_simp;clear m4;refine zU hK trivial λhH=>?_;clear hK K
   try simp only[zX]
   refine zK 3 ?_;try simp only[zX]
   refine ZR (rs:=[4,13]) (AllReadyH.cons rfl (λK hK=>?_) (AllReadyH.cons rfl (λK hK=>?_) AllReadyH.nil))
   ·have hat:=HPC.o.at';unfold An.At at hat;have hcl:=(JW (i:=1) hat.2 rfl).1;rw[HCFz.o]at hcl;have c0:=hcl 0 _ rfl;have c1:=hcl 1 _ rfl;have c2:=hcl 2 _ rfl;have c3:=hcl 3 _ rfl;have c4:=hcl 4 _ rfl;simp only[zero_add,zero_mul,one_mul,Nat.reduceMul,Nat.reduceAdd,add_zero]at c0 c1 c2 c3 c4;go_simp;clear hat hcl c0 c1 c2 c3 c4;refine zU hK trivial λhH=>?_;clear hK K
    try simp only[zX]
    refine ZS 13 rfl λK hK=>?_;have xA:(vars=[]/\∃ad,(Value.slice sa sm sc)=.slice ad 0 0)\/∃g o,(Value.slice sa sm sc)=.slice (some ⟨g,o,none⟩) vars.length vars.length/\∀i n,vars[i]?=some n->(w3.alloc (.cells #[Iv ty1] 3)).cell? ⟨g,o+i,none⟩=some (Value.int .i64 n):=HSV.o.imp id λ⟨g,o,h1,h2⟩=>⟨g,o,h1,h2 _ HB6.o⟩
    (refine JQ (w3.alloc (.cells #[Iv ty1] 3)) zt (.tmp 118) (.tmp 120) zt vars _ xA zt w3.heap.size ty1 zt HRW.o hvl rb (Jb HPC.o.flt) ?_;intro w5 cc5 hi5 hb5)
    replace HPC:=Zh (HPC.o.up hb5);replace HCC:=Zh ((hb5.block _ (Jb HCC.o)).trans HCC.o);replace HBA:=Zh (HBA.o.trans (Chg.of_below hb5 [rb]));have uA:=Zh hi5;generalize (w3.alloc (.cells #[Iv ty1] 3)).heap.size=g5 at *;clear xA hi5 hb5 HRW HB6 HSV;refine zU hK trivial λhH=>?_;clear hK K
    try simp only[zX]
    refine ZS 14 rfl λK hK=>?_;have hl5:(vars++[ty1]).length=vars.length+1:=zq
    have cn:=IH z (vars++[ty1]) (.slice (some ⟨g5,0,none⟩) (vars.length+1) cc5) _ _ HSz.o (by rw[hl5];omega) (HPC.o.let1.2 _ _ hl5 uA.o);rw[HCFz.o]at cn
    (go_simp;go_at_call 114;refine cn.mono ?_;intro e w6 h6)
    obtain⟨he6,hf6,hc6⟩:=h6;subst he6;have HF6:=Zh hf6;replace HBA:=Zh (HBA.o.trans hc6);clear hf6 hc6 cn hl5;refine zU hK trivial λhH=>?_;clear hK K
    try simp only[zX]
    refine zK 15 ?_
    exact Qgq
   ·have xA:(vars=[]/\∃ad,(Value.slice sa sm sc)=.slice ad 0 0)\/∃g o,(Value.slice sa sm sc)=.slice (some ⟨g,o,none⟩) vars.length vars.length/\∀i n,vars[i]?=some n->(w3.alloc (.cells #[Iv ty1] 3)).cell? ⟨g,o+i,none⟩=some (Value.int .i64 n):=HSV.o.imp id λ⟨g,o,h1,h2⟩=>⟨g,o,h1,h2 _ HB6.o⟩
    (refine JQ (w3.alloc (.cells #[Iv ty1] 3)) zt (.tmp 118) (.tmp 120) zt vars _ xA zt w3.heap.size ty1 zt HRW.o hvl rb (Jb HPC.o.flt) ?_;intro w5 cc5 hi5 hb5)
    replace HPC:=Zh (HPC.o.up hb5);replace HCC:=Zh ((hb5.block _ (Jb HCC.o)).trans HCC.o);replace HBA:=Zh (HBA.o.trans (Chg.of_below hb5 [rb]));have uA:=Zh hi5;generalize (w3.alloc (.cells #[Iv ty1] 3)).heap.size=g5 at *;clear xA hi5 hb5 HRW HB6 HSV;refine zU hK trivial λhH=>?_;clear hK K
    try simp only[zX]
    refine ZS 4 rfl λK hK=>?_;have hat:=HPC.o.at';unfold An.At at hat;have hcl:=(JW (i:=1) hat.2 rfl).1;rw[HCFz.o]at hcl;have c0:=hcl 0 _ rfl;have c1:=hcl 1 _ rfl;have c2:=hcl 2 _ rfl;have c3:=hcl 3 _ rfl;have c4:=hcl 4 _ rfl;simp only[zero_add,zero_mul,one_mul,Nat.reduceMul,Nat.reduceAdd,add_zero]at c0 c1 c2 c3 c4;go_simp;clear hat hcl c0 c1 c2 c3 c4;refine zU hK trivial λhH=>?_;clear hK K
    try simp only[zX]
    refine ZS 14 rfl λK hK=>?_;have hl5:(vars++[ty1]).length=vars.length+1:=zq
    have cn:=IH z (vars++[ty1]) (.slice (some ⟨g5,0,none⟩) (vars.length+1) cc5) _ _ HSz.o (by rw[hl5];omega) (HPC.o.let1.2 _ _ hl5 uA.o);rw[HCFz.o]at cn
    (go_simp;go_at_call 114;refine cn.mono ?_;intro e w6 h6)
    obtain⟨he6,hf6,hc6⟩:=h6;subst he6;have HF6:=Zh hf6;replace HBA:=Zh (HBA.o.trans hc6);clear hf6 hc6 cn hl5;refine zU hK trivial λhH=>?_;clear hK K
    try simp only[zX]
    refine zK 15 ?_
    exact Qgq
  ·have xA:(vars=[]/\∃ad,(Value.slice sa sm sc)=.slice ad 0 0)\/∃g o,(Value.slice sa sm sc)=.slice (some ⟨g,o,none⟩) vars.length vars.length/\∀i n,vars[i]?=some n->(w3.alloc (.cells #[Iv ty1] 3)).cell? ⟨g,o+i,none⟩=some (Value.int .i64 n):=HSV.o.imp id λ⟨g,o,h1,h2⟩=>⟨g,o,h1,h2 _ HB6.o⟩
   (refine JQ (w3.alloc (.cells #[Iv ty1] 3)) zt (.tmp 118) (.tmp 120) zt vars _ xA zt w3.heap.size ty1 zt HRW.o hvl rb (Jb HPC.o.flt) ?_;intro w5 cc5 hi5 hb5)
   replace HPC:=Zh (HPC.o.up hb5);replace HCC:=Zh ((hb5.block _ (Jb HCC.o)).trans HCC.o);replace HBA:=Zh (HBA.o.trans (Chg.of_below hb5 [rb]));have uA:=Zh hi5;generalize (w3.alloc (.cells #[Iv ty1] 3)).heap.size=g5 at *;clear xA hi5 hb5 HRW HB6 HSV;refine zU hK trivial λhH=>?_;clear hK K
   try simp only[zX]
   refine ZS 2 rfl λK hK=>?_;have m4:=Ja HCC.o 4;simp only[zW]at m4;go_simp;clear m4;refine zU hK trivial λhH=>?_;clear hK K
   try simp only[zX]
   refine zK 3 ?_;try simp only[zX]
   refine ZS 4 rfl λK hK=>?_;have hat:=HPC.o.at';unfold An.At at hat;have hcl:=(JW (i:=1) hat.2 rfl).1;rw[HCFz.o]at hcl;have c0:=hcl 0 _ rfl;have c1:=hcl 1 _ rfl;have c2:=hcl 2 _ rfl;have c3:=hcl 3 _ rfl;have c4:=hcl 4 _ rfl;simp only[zero_add,zero_mul,one_mul,Nat.reduceMul,Nat.reduceAdd,add_zero]at c0 c1 c2 c3 c4;go_simp;clear hat hcl c0 c1 c2 c3 c4;refine zU hK trivial λhH=>?_;clear hK K
   try simp only[zX]
   refine ZS 14 rfl λK hK=>?_;have hl5:(vars++[ty1]).length=vars.length+1:=zq
   have cn:=IH z (vars++[ty1]) (.slice (some ⟨g5,0,none⟩) (vars.length+1) cc5) _ _ HSz.o (by rw[hl5];omega) (HPC.o.let1.2 _ _ hl5 uA.o);rw[HCFz.o]at cn
   (go_simp;go_at_call 114;refine cn.mono ?_;intro e w6 h6)
   obtain⟨he6,hf6,hc6⟩:=h6;subst he6;have HF6:=Zh hf6;replace HBA:=Zh (HBA.o.trans hc6);clear hf6 hc6 cn hl5;refine zU hK trivial λhH=>?_;clear hK K
   try simp only[zX]
   refine zK 15 ?_
   exact Qgq
def JcC(fs:List QaN)(rb:Nat)(M:Value)(hps:∀s∈fs,s.params.length<=1000000000):∀n,QdS fs rb M n
 |0=>λa vars vv x w hn=>by
  have:=Vh a.nd;omega
 |n+1=>λa vars vv x w hn hb hpre=>by
  have IH:=JcC fs rb M hps n;obtain⟨k,nn,s,off,b,c,l⟩:=a;rw[ZV]at hn;have xA:Qbd (ndL l)<=n:=zo
  by_cases h1:k=1
  ·subst h1;exact QkE fs rb M hps n IH nn s off b c l vars vv x w xA hb hpre
  by_cases h5:k=5
  ·subst h5;exact QkB fs rb M hps n IH nn s off b c l vars vv x w xA hb hpre
  by_cases h2:k=2
  ·subst h2;exact QkD fs rb M hps n IH nn s off b c l vars vv x w xA hb hpre
  by_cases h3:k=3
  ·subst h3;exact QkC fs rb M hps n IH nn s off b c l vars vv x w xA hb hpre
  by_cases h6:k=6
  ·subst h6;exact QkA fs rb M hps n IH nn s off b c l vars vv x w xA hb hpre
  by_cases h8:k=8
  ·subst h8;exact Qky fs rb M hps n IH nn s off b c l vars vv x w xA hb hpre
  by_cases h9:k=9
  ·subst h9;exact Qkx fs rb M hps n IH nn s off b c l vars vv x w xA hb hpre
  by_cases h10:k=10
  ·subst h10;exact Jou fs rb M hps n IH nn s off b c l vars vv x w xA hb hpre
  by_cases h11:k=11
  ·subst h11;exact Jov fs rb M hps n IH nn s off b c l vars vv x w xA hb hpre
  by_cases h12:k=12
  ·subst h12;exact Jow fs rb M hps n IH nn s off b c l vars vv x w xA hb hpre
  by_cases h13:k=13
  ·subst h13;exact Jox fs rb M hps n IH nn s off b c l vars vv x w xA hb hpre
  by_cases h14:k=14
  ·subst h14;exact Joy fs rb M hps n IH nn s off b c l vars vv x w xA hb hpre
  by_cases h15:k=15
  ·subst h15;exact JoC fs rb M hps n IH nn s off b c l vars vv x w xA hb hpre
  by_cases h7:k=7
  ·subst h7;exact Qkz fs rb M hps n IH nn s off b c l vars vv x w xA hb hpre
  by_cases h16:k=16
  ·subst h16;exact Joz fs rb M hps n IH nn s off b c l vars vv x w xA hb hpre
  by_cases h17:k=17
  ·subst h17;exact JoA fs rb M hps n IH nn s off b c l vars vv x w xA hb hpre
  by_cases h18:k=18
  ·subst h18;exact JoD fs rb M hps n IH nn s off b c l vars vv x w xA hb hpre
  by_cases h19:k=19
  ·subst h19;exact JoE fs rb M hps n IH nn s off b c l vars vv x w xA hb hpre
  by_cases h20:k=20
  ·subst h20;exact JoB fs rb M hps n IH nn s off b c l vars vv x w xA hb hpre
  exact JlY fs rb M hps n IH k nn s off b c l vars vv x w xA hb hpre ⟨h1,h5,h2,h3,h6,h8,h9,h10,h11,h12,h13,h14,h15,h7,h16,h17,h18,h19,h20⟩
end Go.Proofs.YtfafpklefknomaaGreatDoor
