/- The law answers true for all inputs; there are no conditions. -/
import Derived.Test.YtfafpklefknomaaGreatDoorCards
import Derived.Test.YtfafpklefknomaaGreatDoorTie
import Derived.SevenTiedAt
import Derived.ChangeVars
import Derived.ChangeMaps5
import Derived.JoinedOf
import Derived.JoinedAt
import Derived.RowKit
import Derived.RowKit3
import Derived.RowKitTokens
import Derived.SizedLaws
import Derived.Test.YtfafpklefknomaaGreatDoorM13
namespace Go.Proofs.YtfafpklefknomaaGreatDoor
open Go Go.ChangeShapes Go.WideShapes Go.ChangeAt Go.RowKit Go.Lib
open _root_.Go.Proofs.Tryz
set_option linter.all false
set_option maxRecDepth 100000
set_option maxHeartbeats 40000000
def vright_comp (r:Qah) (hz:RSz r) (hl:(Qac r).ops.length<=40000000) (p:Nat) (w:World) (hp:p<=w.heap.size) (d:Array Value) (h:CV w p (Qai r) d):Calls prog 16 #[.agg d] w (Qbj w (.bool (Qat r))):=by
 unfold Qai at h
 cases hr:Qat r with
 |true=>
  rw[if_pos hr]at h;exact Y4 r ⟨hr,hl,hz.nf,λf hf=>(hz.fn f hf).2.1⟩ p w hp d h
 |false=>
  rw[if_neg (by rw[hr];simp)]at h;exact Jdj p w hp d h
abbrev cel3 (W:World) (b:Nat) (x y z:Value):Prop:=W.cell? ⟨b,0,none⟩=some x/\W.cell? ⟨b,1,none⟩=some y/\W.cell? ⟨b,2,none⟩=some z
abbrev cel4 (W:World) (b:Nat) (x y z u:Value):Prop:=W.cell? ⟨b,0,none⟩=some x/\W.cell? ⟨b,1,none⟩=some y/\W.cell? ⟨b,2,none⟩=some z/\W.cell? ⟨b,3,none⟩=some u
abbrev cel12 (W:World) (b:Nat) (x0 x1 x2 x3 x4 x5 x6 x7 x8 x9 x10 x11:Value):Prop:=W.cell? ⟨b,0,none⟩=some x0/\W.cell? ⟨b,1,none⟩=some x1/\W.cell? ⟨b,2,none⟩=some x2/\W.cell? ⟨b,3,none⟩=some x3/\W.cell? ⟨b,4,none⟩=some x4/\W.cell? ⟨b,5,none⟩=some x5/\W.cell? ⟨b,6,none⟩=some x6/\W.cell? ⟨b,7,none⟩=some x7/\W.cell? ⟨b,8,none⟩=some x8/\W.cell? ⟨b,9,none⟩=some x9/\W.cell? ⟨b,10,none⟩=some x10/\W.cell? ⟨b,11,none⟩=some x11
def wtwelve {W:World} {b t:Nat} {x0 x1 x2 x3 x4 x5 x6 x7 x8 x9 x10 x11:Value} {fr:Nat×Nat} (h:W.heap[b]?=some (.cells #[x0,x1,x2,x3,x4,x5,x6,x7,x8,x9,x10,x11] t fr)):cel12 W b x0 x1 x2 x3 x4 x5 x6 x7 x8 x9 x10 x11:=
 ⟨Ja h 0,Ja h 1,Ja h 2,Ja h 3,Ja h 4,Ja h 5,Ja h 6,Ja h 7,Ja h 8,Ja h 9,Ja h 10,Ja h 11⟩
def vrunM_self (r:Qah) (F:Qaj):QbB r (Qai r) F=QdM r F:=by unfold QbB;rw[if_pos rfl]
def neq_outs (X Y:QeD) (W:World):(binOp .neq 48 (.agg (yd X.action X.reason X.used X.fault)) (.agg (yd Y.action Y.reason Y.used Y.fault))).run prog W=.ok (.bool (!decide (X=Y))) W:=Jam (JbT X Y W)
def means_card (l:By) (r:Qah) (cr:Array Value) (F:Qaj) (la wa:Option Addr) (lc wc:Nat) (w:World) (hsl:l.length<=281474976710655) (GF:QaV w (In w) r cr) (QH:RNm r) (gH:∀f∈r.funcs,f.params.length<=200000000000000) (hF:FSz F) (hlab:Qbx w (.slice la F.labels.length lc) F.labels) (hwd:QaT w (.slice wa F.words.length wc) F.words) (hL:Laid w):
  Calls prog 6 #[Sv l,.agg cr,.agg (QaI F (.slice la F.labels.length lc) (.slice wa F.words.length wc))] w (Qbj w (.bool true)):=by
 obtain⟨R,hR⟩:=yt (Qbj w (.bool true))
 rw[hR];have HR:Hi (Qbj w (.bool true)=R):=hR;obtain⟨fr,gr,cr,dr,rfl,_,_⟩:=GF.parts;obtain⟨nr,LF⟩:∃n,r.funcs.length=n:=⟨_,rfl⟩
 obtain⟨mr,MF⟩:∃n,r.clauses.length=n:=⟨_,rfl⟩
 obtain⟨ln,oG⟩:∃n,F.labels.length=n:=⟨_,rfl⟩
 obtain⟨wn,hwn⟩:∃n,F.words.length=n:=⟨_,rfl⟩
 rw[LF,MF]at GF |-;rw[oG]at hlab |-;rw[hwn]at hwd |-;unfold QaI;have R0:=Jaa w (.cells (zY fr nr gr cr mr dr r.action) 25) (.cells (zV la ln lc F.likes F.boosts F.replies F.reports F.age F.home F.scope F.length F.follows F.reply wa wn wc) 45);have HB:=Zh (Yc w (.cells (zY fr nr gr cr mr dr r.action) 25) (.cells (zV la ln lc F.likes F.boosts F.replies F.reports F.age F.home F.scope F.length F.follows F.reply wa wn wc) 45));have PG:=Zh (BxB.of R0.1);have aG:=Zh (BxB.of R0.2);have R3:=Zh (λW (hb:Bel w W)=>JbS r _ W GF hb gH);have HYR:=Zh GF;have HNR:=Zh QH;have SG:=Zh hF;have HLA:=Zh hlab;have HWA:=Zh hwd;have HL:=Zh hL;have HSL:=Zh hsl;have ul:(bs l).size=l.length:=JJ _;clear R0 GF QH gH hF hlab hwd hL LF MF oG hwn hR hsl;go_enter func6,ntmps6;go_upto_region 1 with fail
 try simp only[World.size_alloc]
 obtain⟨fb,iH⟩:=yt (w.heap.size+1)
 obtain⟨rb,fA⟩:=yt w.heap.size
 rw[iH]at aG |-;rw[fA]at PG |-;clear iH fA;generalize World.alloc (World.alloc w _) _=w1 at*;go_wp2_with fail;refine(Jdq w1 (HL.o.below HB.o)).mono ?_;rintro e w2 ⟨rfl,I0⟩;have M9:Hi (yr w1 w2):=I0;clear I0
 have C0:Hi (∀W,yr w1 W->R (.returned (.bool true)) W):=λW hW=>by
  rw[<-HR.o];exact⟨rfl,Jd HB.o hW⟩
 clear HR;have RR:=Zh (λW (hb:yr w1 W)=>HYR.o.up' (Jd HB.o hb));have FR:=Zh (λW (hb:yr w1 W)=>And.intro (HLA.o.up (Jd HB.o hb)) (HWA.o.up (Jd HB.o hb)))
 by_cases hlen:1000<l.length
 ·have ht:decide ((l.length:Int)>1000)=true:=zG zo;have HT:=C0.o _ M9.o;clear C0 hlen;go_wp2;exact HT
 have ht:decide ((l.length:Int)>1000)=false:=zH zo;clear hlen;have cp:=Qdn l w2 HSL.o (HL.o.below (Jd HB.o M9.o));go_wp2_with fail;refine cp.mono ?_;clear cp ht ul;intro e u3 hp;obtain⟨cq0,rfl,FD,hb⟩:=hp.inw;obtain⟨fq,gq,cq,dq,rfl,_,_⟩:=FD.parts;have ID:=Zh (λh:(Qcl l).2.1=0=>And.intro (Zb h).1 (And.intro (Zb h).2 (JgF h)));obtain⟨Y,hY⟩:=yt (Qcl l)
 rw[hY]at FD ID |-;obtain⟨q,er,off⟩:=Y;clear hY;dsimp only at FD ID |-;obtain⟨nq,NF⟩:∃n,q.funcs.length=n:=⟨_,rfl⟩
 obtain⟨mq,PF⟩:∃n,q.clauses.length=n:=⟨_,rfl⟩
 rw[NF,PF]at FD |-;have RF:=Zh (BxB.of (zQ u3 (.cells (zY fq nq gq cq mq dq q.action) 25)));have SF:=Zh (FD.up' (zO.alloc zP (.cells (zY fq nq gq cq mq dq q.action) 25)));have R7:Hi (yr w1 (u3.alloc (.cells (zY fq nq gq cq mq dq q.action) 25))):=Jd (Jd M9.o hb) (zO.alloc zP _);clear FD hb NF PF hp;go_upto_region 5 with fail;generalize World.alloc u3 _=w3 at*;generalize u3.heap.size=qb at*;go_upto_if 25 with fail;go_cut [] (λwx=>Hi (yr w1 wx))
 case first=>as_aux_lemma=>
  by_cases TG:er=0
  rotate_left
  ·have h1:decide (er=0)=false:=zH TG;have h2:(er==0)=false:=zM TG;clear TG ID SF RF;go_wp2;go_meet;exact R7
  subst TG;have OA:=Zh (ID.o rfl);clear ID;go_upto_region 6 with fail;obtain⟨q0,q1,q2⟩:=Qay (RF.o _ zO);have cc:=Ki q _ w3 SF.o OA.o.2.1 (λ_=>OA.o.2.2);go_wp2_with fail;refine cc.mono ?_;rintro e u6 ⟨dd,rfl,PD,hb⟩;have G8:=Zh (Qfm.of PD);have TB:Hi (yr w3 (u6.alloc (.cells dd 31))):=Jd hb (zO.alloc zP _);obtain⟨a0,b0,a1,b1,a2,b2,a3,b3,rfl,_,_,_,_⟩:=PD.g;clear cc q0 q1 q2 hb PD;have N4:Hi (QbI (Qai q)):=Ve OA.o.2.1 OA.o.2.2;obtain⟨C,hC⟩:=yt (Qai q)
  rw[hC]at G8 N4 TB |-;obtain⟨x0,TF⟩:∃n,C.ops.length=n:=⟨_,rfl⟩
  obtain⟨x1,hx1⟩:∃n,C.starts.length=n:=⟨_,rfl⟩
  obtain⟨x2,hx2⟩:∃n,C.params.length=n:=⟨_,rfl⟩
  obtain⟨x3,UF⟩:∃n,C.slots.length=n:=⟨_,rfl⟩
  rw[TF,hx1,hx2,UF]at G8 TB |-;have HC:=Zh hC;clear hC TF hx1 hx2 UF;go_upto_region 7 with fail;generalize World.alloc u6 _=w6 at*;generalize u6.heap.size=cb at*;have C8:Hi (yr w1 w6):=Jd R7.o TB.o;have OD:=Zh (λW (hb:yr w6 W)=>G8.o.cv.up hb);have UG:=Zh (λW (hb:yr w6 W)=>G8.o.box W hb);have WG:=Zh (λW (hb:yr w6 W)=>RF.o W (Jd TB.o hb));have XG:=Zh (λW (hb:yr w6 W)=>aG.o W (Jd C8.o hb));have QA:=Zh (λW (hb:yr w6 W)=>And.intro (Qay (WG.o W hb)) (And.intro (Qao (UG.o W hb)) (wtwelve (XG.o W hb))));have RQ:=Zh (λW (hb:yr w6 W)=>SF.o.up' (Jd TB.o hb));have VG:=Zh (λW (hb:yr w6 W)=>vright_comp q OA.o.2.1 OA.o.2.2 w6.heap.size W hb.size _ (by rw[HC.o];exact OD.o W hb));have VR:=Zh (λW (hb:yr w6 W)=>KM q F C _ _ (.slice la ln lc) (.slice wa wn wc) w6.heap.size W (RQ.o _ hb) OA.o.2.1 (λ_=>OA.o.2.2) SG.o (FR.o _ (Jd C8.o hb)).1 (FR.o _ (Jd C8.o hb)).2 hb.size (OD.o _ hb) N4.o);have MR:=Zh (λW (hb:yr w6 W)=>Jes q F _ (.slice la ln lc) (.slice wa wn wc) W (RQ.o _ hb) OA.o.2.1 SG.o (FR.o _ (Jd C8.o hb)).1 (FR.o _ (Jd C8.o hb)).2);have hvs:QbB q C F=QdM q F:=by rw[<-HC.o];exact vrunM_self q F
  rw[hvs]at VR;obtain⟨X,hX⟩:=yt (QdM q F)
  rw[hX]at VR MR;rw[OA.o.1]at VG
  have qn:∀W,(binOp .neq 48 (.agg (yd X.action X.reason X.used X.fault)) (.agg (yd X.action X.reason X.used X.fault))).run prog W=.ok (.bool false) W:=λW=>by
   have h:=neq_outs X X W;rw[zG (rfl:X=X)]at h;exact h
  clear hvs hX;have TC:Hi (yr w6 w6.drew):=zO.drew;refine wp_region_held_drew (S:=(λW=>cel3 W qb (.slice fq nq gq) (.slice cq mq dq) (Iv q.action)/\cel4 W cb (.slice a0 x0 b0) (.slice a1 x1 b1) (.slice a2 x2 b2) (.slice a3 x3 b3)/\cel12 W fb (.slice la ln lc) (Iv F.likes) (Iv F.boosts) (Iv F.replies) (Iv F.reports) (Iv F.age) (Iv F.home) (Iv F.scope) (Iv F.length) (.bool F.follows) (.bool F.reply) (.slice wa wn wc))) zk (QA.o _ TC.o) (λhH=>?_);refine zK 0 ?_
  try simp only[zX]
  refine ZS 1 rfl (λK hK=>?_);have cr:=VG.o _ TC.o
  (go_simp;go_at_call 16;refine cr.mono ?_;clear cr;rintro e wvHSG ⟨rfl,S8⟩)
  have UC:Hi (yr w6 wvHSG):=Jd TC.o S8;clear S8;refine zU hK (QA.o _ UC.o) (λhH=>?_);clear hK K
  try simp only[zX]
  refine zK 2 ?_;refine zK 3 ?_;refine zK 4 ?_;refine zK 5 ?_;refine zK 6 ?_;refine zK 8 ?_;refine zK 9 ?_;try simp only[zX]
  refine ZS 7 rfl (λK hK=>?_);have cr:=VR.o _ UC.o;unfold QaI Qfk Qex at cr
  (go_simp;go_at_call 12;refine cr.mono ?_;clear cr;rintro e wvHSI ⟨rfl,S8⟩)
  have WC:Hi (yr w6 wvHSI):=Jd UC.o S8;clear S8;refine zU hK (QA.o _ WC.o) (λhH=>?_);clear hK K
  try simp only[zX]
  refine ZS 10 rfl (λK hK=>?_);have cr:=MR.o _ WC.o;unfold QaI Qfk Qex at cr
  (go_simp;go_at_call 17;refine cr.mono ?_;clear cr;rintro e wvHSJ ⟨rfl,S8⟩)
  have QD:Hi (yr w6 wvHSJ):=Jd WC.o S8;clear S8;refine zU hK (QA.o _ QD.o) (λhH=>?_);clear hK K
  try simp only[zX]
  refine zK 11 ?_;refine zK 12 ?_;try simp only[zX]
  refine wpAnyH_done zk ?_ _;have WF:=Zh (Jd C8.o QD.o);clear hH QA VR MR VG RQ qn TC UC WC QD OD UG WG XG G8 TB N4 HC C8 SF RF OA R7;go_wp2;go_meet;exact WF
 case rest=>as_aux_lemma=>
 obtain⟨wZ,rfl⟩:=zJ wc
 have WF:Hi (yr w1 wZ):=hcut;clear ID SF RF R7 hcut;obtain⟨q0,q1,q2⟩:=Qay (PG.o _ WF.o);have cl:=R3.o wZ (Jd HB.o WF.o);go_wp2_with fail;refine cl.mono ?_;rintro e w4 ⟨rfl,hb⟩;have E9:Hi (yr w1 w4):=Jd WF.o hb;clear cl hb q0 q1 q2 R3
 cases hr:QfZ r with
 |false=>
  have HT:=C0.o _ E9.o;clear C0;go_wp2;exact HT
 |true=>
 have UB:=Zh (V0 hr HNR.o);clear hr;go_upto_region 11 with fail;obtain⟨q0,q1,q2⟩:=Qay (PG.o _ E9.o);have cc:=Ki r _ w4 (RR.o _ E9.o) UB.o.1 (λ_=>UB.o.2.1);go_wp2_with fail;refine cc.mono ?_;rintro e u6 ⟨dd,rfl,PD,hb⟩;have G8:=Zh (Qfm.of PD);have TB:Hi (yr w4 (u6.alloc (.cells dd 31))):=Jd hb (zO.alloc zP _);obtain⟨a0,b0,a1,b1,a2,b2,a3,b3,rfl,_,_,_,_⟩:=PD.g;clear cc q0 q1 q2 hb PD;have N4:Hi (QbI (Qai r)):=Ve UB.o.1 UB.o.2.1;obtain⟨C,hC⟩:=yt (Qai r)
 rw[hC]at G8 N4 TB |-;obtain⟨x0,TF⟩:∃n,C.ops.length=n:=⟨_,rfl⟩
 obtain⟨x1,hx1⟩:∃n,C.starts.length=n:=⟨_,rfl⟩
 obtain⟨x2,hx2⟩:∃n,C.params.length=n:=⟨_,rfl⟩
 obtain⟨x3,UF⟩:∃n,C.slots.length=n:=⟨_,rfl⟩
 rw[TF,hx1,hx2,UF]at G8 TB |-;have HC:=Zh hC;clear hC TF hx1 hx2 UF;go_upto_region 12 with fail;generalize World.alloc u6 _=w6 at*;generalize u6.heap.size=cb at*;have C8:Hi (yr w1 w6):=Jd E9.o TB.o;have OD:=Zh (λW (hb:yr w6 W)=>G8.o.cv.up hb);have UG:=Zh (λW (hb:yr w6 W)=>G8.o.box W hb);have WG:=Zh (λW (hb:yr w6 W)=>PG.o W (Jd C8.o hb));have XG:=Zh (λW (hb:yr w6 W)=>aG.o W (Jd C8.o hb));have QA:=Zh (λW (hb:yr w6 W)=>And.intro (Qay (WG.o W hb)) (And.intro (Qao (UG.o W hb)) (wtwelve (XG.o W hb))));have VG:=Zh (λW (hb:yr w6 W)=>vright_comp r UB.o.1 UB.o.2.1 w6.heap.size W hb.size _ (by rw[HC.o];exact OD.o W hb));have RG:=Zh (λW (hb:yr w6 W)=>KR r _ W (RR.o _ (Jd C8.o hb)) UB.o.1);have VR:=Zh (λW (hb:yr w6 W)=>KM r F C _ _ (.slice la ln lc) (.slice wa wn wc) w6.heap.size W (RR.o _ (Jd C8.o hb)) UB.o.1 (λ_=>UB.o.2.1) SG.o (FR.o _ (Jd C8.o hb)).1 (FR.o _ (Jd C8.o hb)).2 hb.size (OD.o _ hb) N4.o);have MR:=Zh (λW (hb:yr w6 W)=>Jes r F _ (.slice la ln lc) (.slice wa wn wc) W (RR.o _ (Jd C8.o hb)) UB.o.1 SG.o (FR.o _ (Jd C8.o hb)).1 (FR.o _ (Jd C8.o hb)).2);have hvs:QbB r C F=QdM r F:=by rw[<-HC.o];exact vrunM_self r F
 rw[hvs]at VR;obtain⟨X,hX⟩:=yt (QdM r F)
 obtain⟨B,hB⟩:=yt (Qat r)
 rw[hX]at VR MR;rw[hB]at VG RG
 have qn:∀W,(binOp .eql 48 (.agg (yd X.action X.reason X.used X.fault)) (.agg (yd X.action X.reason X.used X.fault))).run prog W=.ok (.bool true) W:=λW=>by
  have h:=JbT X X W;rw[zG (rfl:X=X)]at h;exact h
 clear hvs hX hB;have TC:Hi (yr w6 w6.drew):=zO.drew;refine wp_region_held_drew (S:=(λW=>cel3 W rb (.slice fr nr gr) (.slice cr mr dr) (Iv r.action)/\cel4 W cb (.slice a0 x0 b0) (.slice a1 x1 b1) (.slice a2 x2 b2) (.slice a3 x3 b3)/\cel12 W fb (.slice la ln lc) (Iv F.likes) (Iv F.boosts) (Iv F.replies) (Iv F.reports) (Iv F.age) (Iv F.home) (Iv F.scope) (Iv F.length) (.bool F.follows) (.bool F.reply) (.slice wa wn wc))) zk (QA.o _ TC.o) (λhH=>?_);refine zK 0 ?_
 refine zK 1 ?_;refine zK 2 ?_;refine zK 4 ?_;try simp only[zX]
 refine ZS 3 rfl (λK hK=>?_);have cr:=VG.o _ TC.o
 (go_simp;go_at_call 16;refine cr.mono ?_;clear cr;rintro e wvHSG ⟨rfl,S8⟩)
 have UC:Hi (yr w6 wvHSG):=Jd TC.o S8;clear S8;refine zU hK (QA.o _ UC.o) (λhH=>?_);clear hK K
 try simp only[zX]
 refine ZS 5 rfl (λK hK=>?_);have cr:=RG.o _ UC.o
 (go_simp;go_at_call 11;refine cr.mono ?_;clear cr;rintro e wvHSH ⟨rfl,S8⟩)
 have bG:Hi (yr w6 wvHSH):=Jd UC.o S8;clear S8;refine zU hK (QA.o _ bG.o) (λhH=>?_);clear hK K
 try simp only[zX]
 refine zK 6 ?_;refine zK 7 ?_;refine zK 8 ?_;refine zK 9 ?_;refine zK 10 ?_;refine zK 11 ?_;refine zK 13 ?_;refine zK 14 ?_;try simp only[zX]
 refine ZS 12 rfl (λK hK=>?_);have cr:=VR.o _ bG.o;unfold QaI Qfk Qex at cr
 (go_simp;go_at_call 12;refine cr.mono ?_;clear cr;rintro e wvHSI ⟨rfl,S8⟩)
 have WC:Hi (yr w6 wvHSI):=Jd bG.o S8;clear S8;refine zU hK (QA.o _ WC.o) (λhH=>?_);clear hK K
 try simp only[zX]
 refine ZS 15 rfl (λK hK=>?_);have cr:=MR.o _ WC.o;unfold QaI Qfk Qex at cr
 (go_simp;go_at_call 17;refine cr.mono ?_;clear cr;rintro e wvHSJ ⟨rfl,S8⟩)
 have QD:Hi (yr w6 wvHSJ):=Jd WC.o S8;clear S8;refine zU hK (QA.o _ QD.o) (λhH=>?_);clear hK K
 try simp only[zX]
 refine zK 16 ?_;refine zK 17 ?_;refine zK 18 ?_;try simp only[zX]
 refine wpAnyH_done zk ?_ _;have HT:=C0.o _ (Jd C8.o QD.o);clear hH C0 VR MR VG RG qn;go_wp2;exact HT
open Go.ChangeMaps (open_string shut_string)
def vmmeans_lifted (os:Os) (started:os.Started) (H:Type) (enc:TypeId×Value->H):
  ReturnsInHanded {} Tryz.checked os 6 .any (λw args=>(Rows.vmMeansSpec.pre enc Tryz.prog Tryz.f6 Rows.vmMeansRow.domain false w args/\laidMet Tryz.prog Qbn w)/\sizedMet enc Tryz.prog Tryz.f6 (OpenSpec.ofChange Rows.vmMeansSpec) false w args)
   (Rows.vmMeansSpec.post enc Tryz.prog Tryz.f6 false true false false):=by
 refine returnsInHanded_of_change_and (C:=Tryz.checked) (X:=λw _=>laidMet Tryz.prog Qbn w) (λ_ _ _ hh h=>h.of_heap hh) own started zk Tryz.func6
  (ChangeSpec.witness_at (enc:=enc) (C:=Tryz.checked) (os:=os) (X:=λw _=>laidMet Tryz.prog Qbn w) false (QdD os) #[.string ⟨#[]⟩,.agg #[.slice none 0 0,.slice none 0 0,.int .i64 0],.agg (QaI ⟨[],0,0,0,0,0,0,0,0,false,false,[]⟩ (.slice none 0 0) (.slice none 0 0))] 8 rfl zk zk zk zk zk (Yh os _)) ?_
 intro W base args ds gs before XF hW _ AF hL _;have hsz:(DataW.weightsEach Tryz.prog (Tryz.f6.params.toList++Rows.vmMeansSpec.plain.varTypes Tryz.prog) (ds++gs)).all (·<=reachBytes)=true:=AF;clear AF;have hval:∀(j:Nat) t v,Tryz.f6.params[j]?=some t->args[j]?=some v->Value.okWide Tryz.prog W .any base t v:=XF;have hW':=hW;obtain⟨p,q,hA0,hV,rfl,_,_⟩:=hW;have hA:DataW.TrodAll enc Tryz.prog W 0 (λ_=>true) true Tryz.f6.params.toList args.toList ds p:=hA0;rw[Tryz.params6]at hA hval hsz;obtain⟨v0,vs0,d0,ds0,p0,q0,hargs,rfl,rfl,h0,r0⟩:=trodAll_cons hA;obtain⟨v1,vs1,d1,ds1,p1,q1,rfl,rfl,rfl,h1,r1⟩:=trodAll_cons r0;obtain⟨v2,vs2,d2,ds2,p2,q2,rfl,rfl,rfl,h2,r2⟩:=trodAll_cons r1;obtain⟨rfl,rfl,rfl⟩:=trodAll_nil r2;obtain rfl:args=#[v0,v1,v2]:=by cases args;simp_all
 obtain⟨rfl,rfl⟩:=trodVars_none hV;obtain⟨s0,rfl,rfl,rfl,hs0⟩:=open_string Tryz.underlying9 (hval 0 9 v0 rfl rfl) h0
 have BF:s0.size<=140737488355328:=by
  have h1:=sized_string hsz (j:=0) (t:=9) rfl rfl;have h2:=reachBytes_lt;have e1:s0.size=s0.data.size:=rfl;have e2:s0.data.toList.length=s0.data.size:=Array.length_toList;have e3:(2:Nat) ^ 47=140737488355328:=zp
  omega
 obtain⟨a0,rfl⟩:=Zv s0;obtain⟨R1,c1,rfl,hx1,P4⟩:=Jax (hval 1 25 v1 rfl rfl) h1;have lw1:Qbs Tryz.prog 25 d1:=λn hn=>by simpa using List.all_eq_true.1 hsz n (DataW.weights_mem_each (j:=1) (t:=25) (d:=d1) rfl rfl n hn)
 have R5:=Yf h1 hx1 lw1;obtain⟨F2,la2,wa2,lc2,wc2,rfl,DF,cG⟩:=Jbh (hval 2 45 v2 rfl rfl) h2;have lw2:Qbs Tryz.prog 45 d2:=λn hn=>by simpa using List.all_eq_true.1 hsz n (DataW.weights_mem_each (j:=2) (t:=45) (d:=d2) rfl rfl n hn)
 have hz2:=Jdu h2 lw2;refine(means_card a0 R1 c1 F2 la2 wa2 lc2 wc2 W (by rw[JJ]at BF;omega) hx1 P4 R5 hz2 DF cG (JgI hL)).mono λe W' hp=>?_
 obtain⟨rfl,hB⟩:=hp;exact⟨_,rfl,Jjn Qgz zk rfl Tryz.underlying4 rfl hW' rfl hB⟩

def vmmeans_row:Rows.VmMeansSaid:=
 OpenClaim.holds_of_wide 6 Tryz.f6 rfl rfl rfl rfl rfl rfl rfl ⟨rfl,rfl,rfl,rfl,rfl⟩ rfl rfl rfl rfl rfl zk Tryz.func6 zk
  (of_decide_eq_true zk) (by unfold Func.isWrapper;first|(rw[if_pos (by decide +kernel)];kernel_rfl)|(rw[if_neg (by decide +kernel)];exact⟨rfl,rfl⟩))
  (λos started H enc _=>vmmeans_lifted os started H enc)

theorem vmmeans_holds:Rows.VmMeansCardSaid:=
 Claim7.holds_tied_plain_at .later [] [.data,.data,.data,.sentinel,.sentinel] true (true,"c573b91482fd6b8a772737d294aaa2fd4cd42aa7bdd6a57ff6af265af274f823") true
  vmmeans_row (λ_ h=>by cases h) zk (λ_ h=>by cases h) vmMeans_row_tie rfl ⟨rfl,rfl⟩ zk rfl
  (λf fn hf hfn=>by
   obtain rfl:f=6:=Option.some.inj ((show Tryz.prog.funcNamed "agora/agoralaw33.VmMeans"=some 6 by kernel_rfl).symm.trans hf) |>.symm;obtain rfl:fn=Tryz.f6:=(Option.some.inj (Tryz.func6.symm.trans hfn)).symm
   exact⟨by kernel_rfl,λj t ht=>by
    rw[Tryz.params6]at ht
    have h3:t=9\/t=25\/t=45:=by
     match j with
     |0=>simp at ht;subst ht;decide
     |1=>simp at ht;subst ht;decide
     |2=>simp at ht;subst ht;decide
     |(j+3)=>simp at ht
    rcases h3 with h3|h3|h3<;>subst h3
    ·exact(show Tryz.prog.wantsStandIn 9=false by kernel_rfl)
    ·exact(show Tryz.prog.wantsStandIn 25=false by kernel_rfl)
    ·exact(show Tryz.prog.wantsStandIn 45=false by kernel_rfl)⟩)
  zk

end Go.Proofs.YtfafpklefknomaaGreatDoor



