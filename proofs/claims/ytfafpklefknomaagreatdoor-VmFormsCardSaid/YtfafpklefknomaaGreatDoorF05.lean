import Derived.Deep.CutBlock
import Derived.Test.YtfafpklefknomaaGreatDoorF04
namespace Go.Proofs.YtfafpklefknomaaGreatDoor
open Go Go.ChangeShapes Go.WideShapes Go.ChangeAt Go.RowKit Go.Lib
open _root_.Go.Proofs.Tryz
set_option linter.all false
set_option maxRecDepth 100000
set_option maxHeartbeats 40000000
theorem zAa{P:Prop}(h:P:=by
  try simp only[zX]
  refine zK 48 ?_;try simp only[zX]
  refine zK 49 ?_;try simp only[zX]
  refine wpAnyH_done zk ?_ _;clear hH;go_wp2;go_meet;exact⟨rfl,rfl,rfl,rfl,HWM.o.drew⟩):P:=h
def forms_card(r:Qah)(cr:Array Value)(w:World)(hxr:QaV w (In w) r cr)(hnr:RNm r)(hpr:∀f∈r.funcs,f.params.length<=200000000000000)(hL:Laid w):
  Calls prog 3 #[.agg cr] w (Qbj w (.bool true)):=by
 obtain⟨R,hR⟩:∃R,Qbj w (.bool true)=R:=⟨_,rfl⟩
 rw[hR];have HR:Hi (Qbj w (.bool true)=R):=hR;have hxr0:=hxr;obtain⟨fv,cv,rfl,f1,k1⟩:=hxr;obtain⟨fr,gr,rfl,g1⟩:=Qdy.of FnX.len f1;obtain⟨cr,dr,rfl,g2⟩:=Qdy.of ClX.len k1;obtain⟨nf,hnf⟩:∃n,r.funcs.length=n:=⟨_,rfl⟩
 obtain⟨nc,hnc⟩:∃n,r.clauses.length=n:=⟨_,rfl⟩
 rw[hnf,hnc]at hxr0 |-;have HX:=Zh (BxB.of (zQ w (.cells #[.slice fr nf gr,.slice cr nc dr,Iv r.action] 25)));have HB:Hi (Below w.heap.size w (w.alloc (.cells #[.slice fr nf gr,.slice cr nc dr,Iv r.action] 25))):=zO.alloc zP _;have HRW:=Zh (λW (hb:Bel w W)=>JbS r _ W hxr0 hb hpr);have HY:=Zh hxr0;have HN:=Zh hnr;have HL:=Zh hL;have HG1:=Zh g1;have HG2:=Zh g2;have HNF:=Zh hnf;have HNC:=Zh hnc;clear hxr0 hnr hpr hL g1 g2 f1 k1 hnf hnc hR;go_enter func3,ntmps3;go_upto_region 1 with fail;obtain⟨qb,hqb⟩:∃qb,w.heap.size=qb:=⟨_,rfl⟩
 rw[hqb]at HX |-;clear hqb;generalize World.alloc w _=w1 at*;go_wp2_with fail;refine(Jdq w1 (HL.o.below HB.o)).mono ?_;rintro e w2 ⟨rfl,hb2⟩;have HW2:Hi (Below w1.heap.size w1 w2):=hb2;clear hb2;obtain⟨q0,q1,q2⟩:=Qay (HX.o _ HW2.o);have cl:=HRW.o w2 (Jd HB.o HW2.o);go_wp2_with fail;refine cl.mono ?_;rintro e w3 ⟨rfl,hb⟩;have HW3:Hi (Below w1.heap.size w1 w3):=Jd HW2.o hb;clear cl hb q0 q1 q2 HRW
 have HFIN:Hi (∀W,Below w1.heap.size w1 W->R (.returned (.bool true)) W):=λW hW=>by
  rw[<-HR.o];exact⟨rfl,Jd HB.o hW⟩
 clear HR
 cases hq:QfZ r with
 |false=>
  have HT:=HFIN.o _ HW3.o;clear HFIN;go_wp2;exact HT
 |true=>
 have HZ:=Zh (V0 hq HN.o);clear hq;have RR:=Zh (λW (hb:Below w1.heap.size w1 W)=>HY.o.up' (Jd HB.o hb));obtain⟨q0,q1,q2⟩:=Qay (HX.o _ HW3.o);have cc:=Ki r _ w3 (RR.o _ HW3.o) HZ.o.1 (λ_=>HZ.o.2.1);go_wp2_with fail;refine cc.mono ?_;rintro e u4 ⟨dd,rfl,hcv,hb⟩;have hB:=Qfm.of hcv;have HV0:Hi (Below w3.heap.size w3 (u4.alloc (.cells dd 31))):=Jd hb (zO.alloc zP _);obtain⟨a0,b0,a1,b1,a2,b2,a3,b3,hdd,o0,o1,o2,o3⟩:=hB.cv.g;subst hdd;have HBX:=Zh hB.box;have HO0:=Zh o0;have HO1:=Zh o1;have HO2:=Zh o2;have HO3:=Zh o3;clear cc q0 q1 q2 hb hcv hB o0 o1 o2 o3;obtain⟨C,hC⟩:∃C,Qai r=C:=⟨_,rfl⟩
 rw[hC]at HBX HV0 HO0 HO1 HO2 HO3 |-;obtain⟨x0,hx0⟩:∃n,C.ops.length=n:=⟨_,rfl⟩
 obtain⟨x1,hx1⟩:∃n,C.starts.length=n:=⟨_,rfl⟩
 obtain⟨x2,hx2⟩:∃n,C.params.length=n:=⟨_,rfl⟩
 obtain⟨x3,hx3⟩:∃n,C.slots.length=n:=⟨_,rfl⟩
 rw[hx0,hx1,hx2,hx3]at HBX HV0 HO0 HO1 HO2 HO3 |-;go_upto_region 5 with fail;generalize World.alloc u4 _=w4 at*;generalize u4.heap.size=cb at*;have HW4:Hi (Below w1.heap.size w1 w4):=Jd HW3.o HV0.o;obtain⟨q0,q1,q2⟩:=Qay (HX.o _ HW4.o);have ch:=KR r _ w4 (RR.o _ HW4.o) HZ.o.1;go_wp2_with fail;refine ch.mono ?_;clear ch q0 q1 q2;rintro e w5 ⟨rfl,hb⟩;have HW5:Hi (Below w4.heap.size w4 w5):=hb;clear hb
 cases hr:Qat r with
 |false=>
  have hC0:C=QcK:=by rw[<-hC];unfold Qai;rw[if_neg (by rw[hr];simp)]
  have e0:x0=0:=by rw[<-hx0,hC0];rfl
  have e1:x1=0:=by rw[<-hx1,hC0];rfl
  have e2:x2=0:=by rw[<-hx2,hC0];rfl
  have e3:x3=0:=by rw[<-hx3,hC0];rfl
  subst e0 e1 e2 e3;obtain⟨y0,y1,y2,y3⟩:=Qao (HBX.o _ HW5.o);have HT:=HFIN.o _ (Jd HW4.o HW5.o);clear HFIN hx0 hx1 hx2 hx3 hC0 hC;go_wp2;exact HT
 |true=>
 obtain rfl:C=Qac r:=by rw[<-hC];unfold Qai;rw[if_pos hr]
 obtain⟨l1,l2,l3,l4⟩:=JL r;obtain rfl:nf=x1:=by rw[<-hx1,l1,HNF.o]
 obtain rfl:nf=x2:=by rw[<-hx2,l2,HNF.o]
 obtain rfl:nf+1=x3:=by rw[<-hx3,l3,HNF.o]
 have HK:Hi (Qat r=true):=hr;have HLN:Hi ((Qac r).ops.length=x0):=hx0;have hle:x0<=40000000:=by rw[<-hx0];exact HZ.o.2.1
 have hnf6:nf<=6:=by rw[<-HNF.o];exact HZ.o.2.2.1
 have hnc6:nc<=6:=by rw[<-HNC.o];exact HZ.o.2.2.2
 clear hC hx0 hx1 hx2 hx3 l1 l2 l3 l4 hr;obtain⟨y0,y1,y2,y3⟩:=Qao (HBX.o _ HW5.o);obtain⟨q0,q1,q2⟩:=Qay (HX.o _ (Jd HW4.o HW5.o));have wkf:IntKind.i64.wrap ((nf:Int)+1)=((nf+1:Nat):Int):=by rw[IntWalk.i64_in _ zo];omega
 go_wp2_with fail;clear y0 y1 y2 y3 q0 q1 q2
 go_loopg [5,6,7,8,9] x0 (λg v5 v6 v7 v8 v9 wr=>∃i p a b c:Nat,g+i=x0/\v5=Iv (a:Int)/\v6=Iv (b:Int)/\v7=Iv (c:Int)/\v8=Iv (p:Int)/\v9=Iv (i:Int)/\
  Hi (Below w4.heap.size w4 wr/\FpI r i p/\cnt 21 ((Qac r).ops.take i)=a/\cnt 22 ((Qac r).ops.take i)=b/\cnt 20 ((Qac r).ops.take i)=c))
 case atStart=>exact⟨0,0,0,0,0,rfl,rfl,rfl,rfl,rfl,rfl,HW5.o,FpI.zero r,rfl,rfl,rfl⟩
 case round=>
 clear HW5;obtain⟨wl,rfl⟩:=zJ wr
 obtain⟨i,p,a,b,c,hg,rfl,rfl,rfl,rfl,rfl,hws⟩:=hrel;have HWL:=Zh hws.o.1;have HFP:=Zh hws.o.2.1;have HCN:=Zh hws.o.2.2;clear hws;obtain⟨y0,y1,y2,y3⟩:=Qao (HBX.o _ HWL.o)
 by_cases hi:i<x0
 ·have dil:decide ((i:Int)<(x0:Int))=true:=zG zo;have diN:decide (i<x0)=true:=zG hi;have hil:i<(Qac r).ops.length:=by rw[HLN.o];exact hi
  obtain⟨o,ho⟩:∃o,(Qac r).ops[i]?=some o:=⟨_,List.getElem?_eq_getElem hil⟩
  obtain⟨ob,oo,rfl,k0⟩:=HO0.o i o ho;obtain⟨p0,p1,p2⟩:=k0 _ HWL.o;obtain⟨s1,s2,s3,s4⟩:=HFP.o.step HK.o hil;obtain⟨pn,hpn⟩:∃pn,fpN r i p=pn:=⟨_,rfl⟩
  rw[hpn]at s1 s2 s3 s4;have HPN:=Zh hpn;have HFO:=Zh (FpO.of HK.o s1 s2 s3 ho);have HFL:=Zh (FpI.last HK.o s1 s3);have HS4:=Zh s4;have HS:=Zh (And.intro s1 s3);have HC1:Hi (cnt 21 ((Qac r).ops.take (i+1))=a+(if o.code=21 then 1 else 0)):=by rw[Hi,cnt_snoc ho,HCN.o.1]
  have HC2:Hi (cnt 22 ((Qac r).ops.take (i+1))=b+(if o.code=22 then 1 else 0)):=by rw[Hi,cnt_snoc ho,HCN.o.2.1]
  have HC3:Hi (cnt 20 ((Qac r).ops.take (i+1))=c+(if o.code=20 then 1 else 0)):=by rw[Hi,cnt_snoc ho,HCN.o.2.2]
  have HHI:=Zh (And.intro hg hi);have j0:0<=(i:Int):=zo
  have j1:(i:Int)<(x0:Int):=zo
  have HAB:Hi (a<=40000000/\b<=40000000/\c<=40000000):=by
   have hh:∀k,cnt k ((Qac r).ops.take i)<=40000000:=λk=>by
    have h1:cnt k ((Qac r).ops.take i)<=((Qac r).ops.take i).length:=List.countP_le_length;rw[List.length_take]at h1;omega
   exact⟨by rw[<-HCN.o.1];exact hh _,by rw[<-HCN.o.2.1];exact hh _,by rw[<-HCN.o.2.2];exact hh _⟩
  obtain⟨oc,on,om⟩:=o;obtain⟨A,hA⟩:∃n,a+(if oc=21 then 1 else 0)=n:=⟨_,rfl⟩
  obtain⟨B,hBB⟩:∃n,b+(if oc=22 then 1 else 0)=n:=⟨_,rfl⟩
  obtain⟨D,hD⟩:∃n,c+(if oc=20 then 1 else 0)=n:=⟨_,rfl⟩
  replace HC1:Hi (cnt 21 ((Qac r).ops.take (i+1))=A):=by rw[Hi,<-hA];exact HC1.o
  replace HC2:Hi (cnt 22 ((Qac r).ops.take (i+1))=B):=by rw[Hi,<-hBB];exact HC2.o
  replace HC3:Hi (cnt 20 ((Qac r).ops.take (i+1))=D):=by rw[Hi,<-hD];exact HC3.o
  have HA:=Zh hA;have HBB:=Zh hBB;have HD:=Zh hD;clear hpn s1 s2 s3 s4 ho hil hg hi k0 hA hBB hD;dsimp only at p0 p1 p2;go_upto_block 1 with fail;go_cut [5,6,7,8] (λv5 v6 v7 v8 wx=>v5=Iv (A:Int)/\v6=Iv (B:Int)/\v7=Iv (D:Int)/\v8=Iv (pn:Int)/\Below w4.heap.size w4 wx)
  case first=>as_aux_lemma=>
   go_upto_region 17 with fail;have HOX:=Zh (BxB.of (zQ wl (.cells #[Iv oc,Iv on,Sv om] 34)));have HWM:Hi (Below w4.heap.size w4 (wl.alloc (.cells #[Iv oc,Iv on,Sv om] 34))):=HWL.o.alloc HWL.o.size _;clear y0 y1 y2 y3 p0 p1 p2;have HPB:Hi (wl.heap.size<(wl.alloc (.cells #[Iv oc,Iv on,Sv om] 34)).heap.size):=by rw[Hi,World.size_alloc];omega
   generalize World.alloc wl _=wm at*;generalize wl.heap.size=pb at*;obtain⟨y0,y1,y2,y3⟩:=Qao (HBX.o _ HWM.o);obtain⟨adv,hadv⟩:∃q:Bool,decide (p<nf/\bnd (Qac r) p=i)=q:=⟨_,rfl⟩
   have hpn2:pn=if adv=true then p+1 else p:=by
    have hpn:=HPN.o;unfold fpN at hpn;rw[HNF.o]at hpn;rw[<-hpn,<-hadv]
    by_cases e:p<nf/\bnd (Qac r) p=i
    ·rw[if_pos e,if_pos (zG e)]
    ·rw[if_neg e,if_neg (by rw[zH e];simp)]
   have HAD:=Zh hadv;have HP2:=Zh hpn2;clear hadv hpn2;go_cut [101] (λv wx=>v=.bool adv/\wm=wx)
   case first=>as_aux_lemma=>
    have had:=HAD.o
    by_cases e1:p<nf
    ·have d1:decide ((p:Int)<(nf:Int))=true:=zG zo;have d1n:decide (p<nf)=true:=zG e1;have j2:0<=(p:Int):=zo
     have j3:(p:Int)<(nf:Int):=zo
     obtain⟨c1,k1,ha1,kk1⟩:=HO1.o p _ (fp_start HK.o (by rw[HNF.o];exact e1)).1;subst ha1;have z1:=kk1 _ HWM.o;generalize bnd (Qac r) p=E at*
     by_cases e2:E=i
     ·subst e2;have hq:adv=true:=by rw[<-had];exact zG ⟨e1,rfl⟩
      subst hq;clear had kk1 e1;go_wp2;go_meet;exact⟨rfl,rfl⟩
     ·have d2:((E:Int)==(i:Int))=false:=zM zo;have d2n:(E==i)=false:=zM e2;have hq:adv=false:=by rw[<-had];exact zH (λh=>e2 h.2)
      subst hq;clear had kk1 e1 e2;go_wp2;go_meet;exact⟨rfl,rfl⟩
    ·have d1:decide ((p:Int)<(nf:Int))=false:=zH zo;have d1n:decide (p<nf)=false:=zH e1;have hq:adv=false:=by rw[<-had];exact zH (λh=>e1 h.1)
     subst hq;clear had e1;go_wp2;go_meet;exact⟨rfl,rfl⟩
   case rest=>as_aux_lemma=>
   obtain⟨rfl,rfl⟩:=hcut;go_upto_if 101 with fail;go_cut [8] (λv wx=>v=Iv (pn:Int)/\wm=wx)
   case first=>as_aux_lemma=>
    have hp:=HP2.o
    have wk:IntKind.i64.wrap ((p:Int)+1)=((p+1:Nat):Int):=by
     have:=HS.o.1;have:=HFP.o.1;have:=HZ.o.2.2.1;rw[IntWalk.i64_in _ zo];omega
    cases adv with
    |true=>
     rw[if_pos rfl]at hp;subst hp;go_wp2;go_meet;exact⟨rfl,rfl⟩
    |false=>
     rw[if_neg zp]at hp;subst hp;go_wp2;go_meet;exact⟨rfl,rfl⟩
   case rest=>as_aux_lemma=>
   obtain⟨rfl,rfl⟩:=hcut;obtain⟨lt,hlt⟩:∃q:Bool,decide (i+1=bnd (Qac r) pn)=q:=⟨_,rfl⟩
   have HLT:=Zh hlt;clear hlt;go_upto_region 19 with fail;go_cut [11] (λv wx=>v=.bool lt/\wm=wx)
   case first=>as_aux_lemma=>
    have wk:IntKind.i64.wrap ((i:Int)+1)=((i+1:Nat):Int):=by rw[IntWalk.i64_in _ zo];omega
    have hl:=HFL.o;rw[HLN.o,HNF.o]at hl;have hlt:=HLT.o
    by_cases e1:i+1=x0
    ·have hq:lt=true:=by rw[<-hlt];exact zG (hl.2 (.inl e1))
     subst hq;subst e1;clear hl hlt;go_wp2;go_meet;exact⟨rfl,rfl⟩
    ·have d1:(((i+1:Nat):Int)==(x0:Int))=false:=zM zo;have d1b:((i:Int)+1==(x0:Int))=false:=zM zo
     by_cases e2:pn<nf
     ·have d2:decide ((pn:Int)<(nf:Int))=true:=zG zo;have d2n:decide (pn<nf)=true:=zG e2;have j2:0<=(pn:Int):=zo
      have j3:(pn:Int)<(nf:Int):=zo
      obtain⟨c1,k1,ha1,kk1⟩:=HO1.o pn _ (fp_start HK.o (by rw[HNF.o];exact e2)).1;subst ha1;have z1:=kk1 _ HWM.o;generalize bnd (Qac r) pn=E at*
      by_cases e3:E=i+1
      ·have hq:lt=true:=by rw[<-hlt];exact zG e3.symm
       subst hq;subst e3;clear hl hlt kk1 e1 e2;go_wp2;go_meet;exact⟨rfl,rfl⟩
      ·have hq:lt=false:=by rw[<-hlt];exact zH (λh=>e3 h.symm)
       have d3:((E:Int)==((i+1:Nat):Int))=false:=zM zo;have d3b:((E:Int)==(i:Int)+1)=false:=zM zo;subst hq;clear hl hlt kk1 e1 e2 e3;go_wp2;go_meet;exact⟨rfl,rfl⟩
     ·have d2:decide ((pn:Int)<(nf:Int))=false:=zH zo;have d2n:decide (pn<nf)=false:=zH e2
      have hq:lt=false:=by
       rw[<-hlt]
       exact zH (λh=>by
        rcases hl.1 h with h|h
        ·exact e1 h
        ·exact e2 h.1)
      subst hq;clear hl hlt e1 e2;go_wp2;go_meet;exact⟨rfl,rfl⟩
   case rest=>as_aux_lemma=>
   obtain⟨rfl,rfl⟩:=hcut;obtain⟨up,hup⟩:∃q:Bool,decide (pn<nf)=q:=⟨_,rfl⟩
   have HUP:=Zh hup;clear hup;go_upto_region 21 with fail;go_cut [134] (λv wx=>v=.bool up/\wm=wx)
   case first=>as_aux_lemma=>
    have hup:=HUP.o
    by_cases e2:pn<nf
    ·have d2:decide ((pn:Int)<(nf:Int))=true:=zG zo;have d2n:decide (pn<nf)=true:=zG e2;obtain rfl:true=up:=d2n.symm.trans hup;clear hup e2;go_wp2;go_meet;exact⟨rfl,rfl⟩
    ·have d2:decide ((pn:Int)<(nf:Int))=false:=zH zo;have d2n:decide (pn<nf)=false:=zH e2;obtain rfl:false=up:=d2n.symm.trans hup;clear hup e2;go_wp2;go_meet;exact⟨rfl,rfl⟩
   case rest=>as_aux_lemma=>
   obtain⟨rfl,rfl⟩:=hcut;go_upto_if 134 with fail;obtain⟨E,hE⟩:∃E,bnd (Qac r) pn=E:=⟨_,rfl⟩
   have HE:=Zh hE;clear hE;go_cut [12] (λv wx=>v=Iv (E:Int)/\wm=wx)
   case first=>as_aux_lemma=>
    have hup:=HUP.o
    cases up with
    |true=>
     have e2:pn<nf:=of_decide_eq_true hup;have j2:0<=(pn:Int):=zo
     have j3:(pn:Int)<(nf:Int):=zo
     obtain⟨c1,k1,ha1,kk1⟩:=HO1.o pn _ (fp_start HK.o (by rw[HNF.o];exact e2)).1;subst ha1;have z1:=kk1 _ HWM.o;rw[HE.o]at z1;clear kk1 e2 hup;go_wp2;go_meet;exact⟨rfl,rfl⟩
    |false=>
     have e2:¬pn<nf:=of_decide_eq_false hup
     have hE:E=x0:=by
      have h1:=HS.o.1;rw[HNF.o]at h1;have h2:=fp_all r;rw[HNF.o,HLN.o,show nf=pn by omega,HE.o]at h2;exact h2
     subst hE;clear e2 hup;go_wp2;go_meet;exact⟨rfl,rfl⟩
   case rest=>as_aux_lemma=>
   obtain⟨rfl,rfl⟩:=hcut;obtain⟨c3,k3,ha3,kk3⟩:=HO3.o nf _ (by have:=(YI r).1;rw[HNF.o]at this;exact this);subst ha3;have z3:=kk3 _ HWM.o;have j2:(nf:Int)<((nf+1:Nat):Int):=zo
   have j3:(nf:Int)<(nf:Int)+1:=zo
   obtain⟨q0,q1,q2⟩:=Qay (HX.o _ (Jd HW4.o HWM.o));obtain⟨u2,hu2⟩:∃q:Bool,decide (0<pn)=q:=⟨_,rfl⟩
   have HU2:=Zh hu2;clear hu2;go_upto_region 24 with fail;go_cut [148] (λv wx=>v=.bool u2/\wm=wx)
   case first=>as_aux_lemma=>
    have hup:=HU2.o
    by_cases e2:0<pn
    ·have d2:decide ((pn:Int)>0)=true:=zG zo;have d2b:decide (0<(pn:Int))=true:=zG zo;have d2n:decide (0<pn)=true:=zG e2;obtain rfl:true=u2:=d2n.symm.trans hup;clear hup e2;go_wp2;go_meet;exact⟨rfl,rfl⟩
    ·have d2:decide ((pn:Int)>0)=false:=zH zo;have d2b:decide (0<(pn:Int))=false:=zH zo;have d2n:decide (0<pn)=false:=zH e2;obtain rfl:false=u2:=d2n.symm.trans hup;clear hup e2;go_wp2;go_meet;exact⟨rfl,rfl⟩
   case rest=>as_aux_lemma=>
   obtain⟨rfl,rfl⟩:=hcut;go_upto_if 148 with fail;obtain⟨Z,hZ⟩:∃Z,QbK (Qac r) pn=Z:=⟨_,rfl⟩
   have HZZ:=Zh hZ;clear hZ;go_cut [13] (λv wx=>v=Iv Z/\wm=wx)
   case first=>as_aux_lemma=>
    have hup:=HU2.o
    cases u2 with
    |true=>
     have e2:0<pn:=of_decide_eq_true hup;have hpf:pn<=nf:=by have h1:=HS.o.1;rw[HNF.o]at h1;exact h1
     have hn6:=HZ.o.2.2.1;rw[HNF.o]at hn6;have wk:IntKind.i64.wrap ((pn:Int)-1)=((pn-1:Nat):Int):=by rw[IntWalk.i64_in _ zo];omega
     obtain⟨f,hf,_,hs3,_,_⟩:=YH (r:=r) (i:=pn-1) (by rw[HNF.o];omega);rw[show pn-1+1=pn by omega,HZZ.o]at hs3;obtain⟨c4,k4,ha4,kk4⟩:=HO3.o (pn-1) _ hs3;have ha4:=Option.some.inj ha4;simp only[Addr.mk.injEq]at ha4;obtain⟨rfl,rfl,_⟩:=ha4;have z4:=kk4 _ HWM.o;have j4:0<=((pn-1:Nat):Int):=zo
     have j5:((pn-1:Nat):Int)<((nf+1:Nat):Int):=zo
     have j6:((pn-1:Nat):Int)<(nf:Int)+1:=zo
     clear hup e2 hpf hn6 kk3 kk4 z3 hf hs3;generalize pn-1=pm at*;go_wp2;go_meet;exact⟨rfl,rfl⟩
    |false=>
     have e2:¬0<pn:=of_decide_eq_false hup;obtain rfl:pn=0:=zo
     have hz:QbK (Qac r) 0=Z:=HZZ.o;rw[hz]at z3;clear kk3 hup e2;go_wp2;go_meet;exact⟨by rw[hz],rfl⟩
   case rest=>as_aux_lemma=>
   obtain⟨rfl,rfl⟩:=hcut;clear kk3 z3;go_upto_region 26 with fail;obtain⟨v0,v1,v2⟩:=Qay (HOX.o _ zO);have hA:=HA.o;have hB:=HBB.o;have hD:=HD.o;have hab:=HAB.o;have wka:IntKind.i64.wrap ((a:Int)+1)=((a+1:Nat):Int):=by rw[IntWalk.i64_in _ zo];omega
   have wkb:IntKind.i64.wrap ((b:Int)+1)=((b+1:Nat):Int):=by rw[IntWalk.i64_in _ zo];omega
   have wkc:IntKind.i64.wrap ((c:Int)+1)=((c+1:Nat):Int):=by rw[IntWalk.i64_in _ zo];omega
   clear hab
   by_cases k21:oc=21
   ·subst k21;rw[if_pos rfl]at hA;rw[if_neg zp]at hB hD;obtain rfl:A=a+1:=hA.symm;obtain rfl:B=b:=hB.symm;obtain rfl:D=c:=hD.symm;clear hA hB hD;go_wp2;go_meet;exact⟨rfl,rfl,rfl,rfl,HWM.o⟩
   have e21:(oc==21)=false:=zM k21;rw[if_neg k21]at hA;obtain rfl:A=a:=hA.symm
   by_cases k20:oc=20
   ·subst k20;rw[if_pos rfl]at hD;rw[if_neg zp]at hB;obtain rfl:D=c+1:=hD.symm;obtain rfl:B=b:=hB.symm;have hq:lt=true:=by rw[<-HLT.o];exact zG (HFO.o.ret rfl)
    subst hq;clear hA hB hD k21;go_wp2;go_meet;exact⟨rfl,rfl,rfl,rfl,HWM.o⟩
   have e20:(oc==20)=false:=zM k20;rw[if_neg k20]at hD;obtain rfl:D=c:=hD.symm
   by_cases k22:oc=22
   ·subst k22;rw[if_pos rfl]at hB;obtain rfl:B=b+1:=hB.symm;have hbs:bs []=⟨#[]⟩:=rfl;have hcb:cnt 22 ((Qac r).ops.take i)=b:=HCN.o.2.1;have hfin:=HFO.o.fin rfl;rw[hcb]at hfin;dsimp only at hfin;clear hA hB hD k21 k20 hcb
    rcases hfin with⟨x,hx,hn,hm⟩|⟨hx,hn,hm,hl⟩
    ·subst hn hm;have hbl:b<nc:=by rw[<-HNC.o];exact(List.getElem?_eq_some_iff.1 hx).1
     obtain⟨c4,k4,ha4,kk4⟩:=HG2.o (List.ne_nil_of_mem (List.mem_of_getElem? hx));subst ha4;obtain⟨d4,hr4,hc4⟩:=kk4 b x hx;obtain⟨xa,xc,rfl,_⟩:=hr4.form
     have KC:Hi (∀W,Below w4.heap.size w4 W->W.cell? ⟨c4,k4+b*6+4,none⟩=some (Iv x.action)/\W.cell? ⟨c4,k4+b*6+5,none⟩=some (.string (bs x.reason))):=λW hW=>by
      have hl:=Jd HB.o (Jd HW4.o hW);exact⟨hc4 W hl 4 _ rfl,hc4 W hl 5 _ rfl⟩
     have d1:decide ((b:Int)<(nc:Int))=true:=zG zo;have d1n:decide (b<nc)=true:=zG hbl;have d2:((b:Int)==(nc:Int))=false:=zM zo;have d2n:(b==nc)=false:=zM zo;have j4:0<=(b:Int):=zo
     have j5:(b:Int)<(nc:Int):=zo
     clear hx hbl kk4 hr4 hc4;go_upto_region 34 with fail;refine wp_region_held_drew (S:=(λW=>W.cell? ⟨qb,1,none⟩=some (.slice (some ⟨c4,k4,none⟩) nc dr)/\W.cell? ⟨pb,1,none⟩=some (Iv x.action)/\W.cell? ⟨pb,2,none⟩=some (.string (bs x.reason))/\W.cell? ⟨c4,k4+b*6+4,none⟩=some (Iv x.action)/\W.cell? ⟨c4,k4+b*6+5,none⟩=some (.string (bs x.reason)))) zk (⟨(Qay (HX.o _ (Jd HW4.o HWM.o.drew))).2.1,(Qay (HOX.o _ zO.drew)).2.1,(Qay (HOX.o _ zO.drew)).2.2,(KC.o _ HWM.o.drew).1,(KC.o _ HWM.o.drew).2⟩) (λhH=>?_);refine zK 0 ?_
     try simp only[zX]
     refine zK 1 ?_;try simp only[zX]
     refine zK 2 ?_;try simp only[zX]
     refine zK 3 ?_;try simp only[zX]
     refine zK 4 ?_;try simp only[zX]
     refine zK 5 ?_;try simp only[zX]
     refine zK 6 ?_;try simp only[zX]
     refine zK 7 ?_;try simp only[zX]
     refine zK 8 ?_;try simp only[zX]
     refine zK 9 ?_;try simp only[zX]
     refine zK 10 ?_;try simp only[zX]
     refine zK 11 ?_;try simp only[zX]
     refine zK 12 ?_;try simp only[zX]
     refine zK 13 ?_;try simp only[zX]
     refine zK 14 ?_;try simp only[zX]
     refine zK 15 ?_;try simp only[zX]
     refine zK 16 ?_;try simp only[zX]
     refine zK 17 ?_;try simp only[zX]
     refine zK 18 ?_;try simp only[zX]
     refine zK 19 ?_;try simp only[zX]
     refine zK 20 ?_;try simp only[zX]
     refine zK 21 ?_;try simp only[zX]
     refine zK 22 ?_;try simp only[zX]
     refine zK 23 ?_;try simp only[zX]
     refine zK 24 ?_;try simp only[zX]
     refine zK 25 ?_;try simp only[zX]
     refine zK 26 ?_;try simp only[zX]
     refine zK 27 ?_;try simp only[zX]
     refine zK 28 ?_;try simp only[zX]
     refine zK 29 ?_;try simp only[zX]
     refine zK 30 ?_;try simp only[zX]
     refine zK 31 ?_;try simp only[zX]
     refine zK 32 ?_;try simp only[zX]
     refine zK 33 ?_;try simp only[zX]
     refine zL 34 ?_
     try simp only[zX]
     refine zL 35 ?_
     try simp only[zX]
     refine zL 36 ?_
     try simp only[zX]
     refine zL 37 ?_
     try simp only[zX]
     refine zL 38 ?_
     try simp only[zX]
     refine zL 39 ?_
     try simp only[zX]
     refine zL 40 ?_
     try simp only[zX]
     refine zL 41 ?_
     try simp only[zX]
     refine zL 42 ?_
     try simp only[zX]
     refine zL 43 ?_
     try simp only[zX]
     refine zL 44 ?_
     try simp only[zX]
     refine zL 45 ?_
     try simp only[zX]
     refine zL 46 ?_
     try simp only[zX]
     refine zL 47 ?_
     exact zAa
    ·subst hn hm;have hbl:b=nc:=by rw[<-HNC.o];exact hx
     subst hbl;have hq:lt=true:=by rw[<-HLT.o];exact zG hl
     subst hq;unfold Sv at v2;rw[hbs]at v2;have d1:decide ((b:Int)<(b:Int))=false:=zH zo;clear hx hl;go_upto_region 34 with fail;refine wp_region_held_drew (S:=(λW=>W.cell? ⟨qb,1,none⟩=some (.slice cr b dr)/\W.cell? ⟨qb,2,none⟩=some (Iv r.action)/\W.cell? ⟨pb,1,none⟩=some (Iv r.action)/\W.cell? ⟨pb,2,none⟩=some (.string ⟨#[]⟩))) zk (⟨(Qay (HX.o _ (Jd HW4.o HWM.o.drew))).2.1,(Qay (HX.o _ (Jd HW4.o HWM.o.drew))).2.2,(Qay (HOX.o _ zO.drew)).2.1,(Qay (HOX.o _ zO.drew)).2.2⟩) (λhH=>?_);refine zK 0 ?_
     try simp only[zX]
     refine zK 1 ?_;try simp only[zX]
     refine zK 2 ?_;try simp only[zX]
     refine zK 3 ?_;try simp only[zX]
     refine zK 4 ?_;try simp only[zX]
     refine zK 5 ?_;try simp only[zX]
     refine zL 6 ?_
     try simp only[zX]
     refine zL 7 ?_
     try simp only[zX]
     refine zL 8 ?_
     try simp only[zX]
     refine zL 9 ?_
     try simp only[zX]
     refine zL 10 ?_
     try simp only[zX]
     refine zL 11 ?_
     try simp only[zX]
     refine zL 12 ?_
     try simp only[zX]
     refine zL 13 ?_
     try simp only[zX]
     refine zL 14 ?_
     try simp only[zX]
     refine zL 15 ?_
     try simp only[zX]
     refine zL 16 ?_
     try simp only[zX]
     refine zL 17 ?_
     try simp only[zX]
     refine zL 18 ?_
     try simp only[zX]
     refine zL 19 ?_
     try simp only[zX]
     refine zL 20 ?_
     try simp only[zX]
     refine zL 21 ?_
     try simp only[zX]
     refine zL 22 ?_
     try simp only[zX]
     refine zL 23 ?_
     try simp only[zX]
     refine zL 24 ?_
     try simp only[zX]
     refine zL 25 ?_
     try simp only[zX]
     refine zK 26 ?_;try simp only[zX]
     refine zK 27 ?_;try simp only[zX]
     refine zK 28 ?_;try simp only[zX]
     refine zK 29 ?_;try simp only[zX]
     refine zK 30 ?_;try simp only[zX]
     refine zK 31 ?_;try simp only[zX]
     refine zK 32 ?_;try simp only[zX]
     refine zK 33 ?_;try simp only[zX]
     refine zK 34 ?_;try simp only[zX]
     refine zK 35 ?_;try simp only[zX]
     refine zK 36 ?_;try simp only[zX]
     refine zK 37 ?_;try simp only[zX]
     refine zK 38 ?_;try simp only[zX]
     refine zK 39 ?_;try simp only[zX]
     refine zK 40 ?_;try simp only[zX]
     refine zK 41 ?_;try simp only[zX]
     refine zK 42 ?_;try simp only[zX]
     refine zK 43 ?_;try simp only[zX]
     refine zK 44 ?_;try simp only[zX]
     refine zK 45 ?_;try simp only[zX]
     refine zK 46 ?_;try simp only[zX]
     refine zK 47 ?_;exact zAa
   have e22:(oc==22)=false:=zM k22;rw[if_neg k22]at hB;obtain rfl:B=b:=hB.symm;clear hA hB hD k20 k21 k22 wka wkb wkc
   by_cases kj:oc=16\/oc=17\/oc=18
   ·obtain⟨h1,h2⟩:=HFO.o.jmp kj;rw[HE.o]at h2;dsimp only at h1 h2;have d1:decide (on<=(i:Int))=false:=zH zo;have d2:decide (on>=(E:Int))=false:=zH zo;have d2b:decide ((E:Int)<=on)=false:=zH zo;clear h1 h2
    rcases kj with rfl|rfl|rfl
    ·go_wp2;go_meet;exact⟨rfl,rfl,rfl,rfl,HWM.o⟩
    ·go_wp2;go_meet;exact⟨rfl,rfl,rfl,rfl,HWM.o⟩
    ·go_wp2;go_meet;exact⟨rfl,rfl,rfl,rfl,HWM.o⟩
   have e16:(oc==16)=false:=zM (λh=>kj (.inl h));have e17:(oc==17)=false:=zM (λh=>kj (.inr (.inl h)));have e18:(oc==18)=false:=zM (λh=>kj (.inr (.inr h)));clear kj
   by_cases kv:oc=1\/oc=2
   ·obtain⟨h1,h2⟩:=HFO.o.var kv;rw[HZZ.o]at h2;dsimp only at h1 h2;have d1:decide (on<0)=false:=zH zo;have d2:decide (on>=Z)=false:=zH zo;have d2b:decide (Z<=on)=false:=zH zo;clear h1 h2
    rcases kv with rfl|rfl
    ·go_wp2;go_meet;exact⟨rfl,rfl,rfl,rfl,HWM.o⟩
    ·go_wp2;go_meet;exact⟨rfl,rfl,rfl,rfl,HWM.o⟩
   have e1:(oc==1)=false:=zM (λh=>kv (.inl h));have e2:(oc==2)=false:=zM (λh=>kv (.inr h));clear kv;go_wp2;go_meet;exact⟨rfl,rfl,rfl,rfl,HWM.o⟩
  case rest=>as_aux_lemma=>
  obtain⟨rfl,rfl,rfl,rfl,hb5⟩:=hcut;obtain⟨wz,rfl⟩:=zJ wc
  have HWZ:=Zh hb5;clear hb5 y0 y1 y2 y3;have wk:IntKind.i64.wrap ((i:Int)+1)=((i+1:Nat):Int):=by rw[IntWalk.i64_in _ zo];omega
  go_wp2;go_roundg (x0-(i+1))
  case measure=>have:=HHI.o;omega
  case rel=>exact⟨i+1,pn,A,B,D,by have:=HHI.o;omega,rfl,rfl,rfl,rfl,rfl,HWZ.o,HS4.o,HC1.o,HC2.o,HC3.o⟩
 ·obtain rfl:i=x0:=by have:=hg;omega
  have hp:=HFP.o.done HK.o HLN.o.symm;rw[HNF.o]at hp;subst hp;obtain⟨n1,n2,n3⟩:=HCN.o;rw[List.take_of_length_le (by rw[HLN.o];exact Nat.le_refl _)]at n1 n2 n3;obtain⟨m1,m2,m3⟩:=codeM_cnt HK.o;rw[HNC.o]at m1 m2;rw[HNF.o]at m3;obtain rfl:a=nc:=by rw[<-n1,m1]
  obtain rfl:b=a+1:=by rw[<-n2,m2]
  obtain rfl:c=p:=by rw[<-n3,m3]
  have dil:decide ((i:Int)<(i:Int))=false:=zH zo;have HAB:Hi (a<=6/\c<=6):=⟨by rw[<-HNC.o];exact HZ.o.2.2.2,by rw[<-HNF.o];exact HZ.o.2.2.1⟩
  clear n1 n2 n3 m1 m2 m3 hg hi HCN HFP;go_wp2_with fail;clear y0 y1 y2 y3;go_loopg [14] c (λg v14 wr=>∃i:Nat,g+i=c/\v14=Iv (i:Int)/\Hi (Below w4.heap.size w4 wr))
  case atStart=>exact⟨0,rfl,rfl,HWL.o⟩
  case round=>
  clear HWL;obtain⟨wl,rfl⟩:=zJ wr
  obtain⟨j,hg,rfl,hws⟩:=hrel;obtain⟨y0,y1,y2,y3⟩:=Qao (HBX.o _ hws.o);obtain⟨q0,q1,q2⟩:=Qay (HX.o _ (Jd HW4.o hws.o))
  by_cases hj:j<c
  ·have dil:decide ((j:Int)<(c:Int))=true:=zG zo;have diN:decide (j<c)=true:=zG hj;obtain⟨f,hf,e2,_,_,_⟩:=YH (r:=r) (i:=j) (by rw[HNF.o];exact hj);obtain⟨c2,k2,ha2,kk2⟩:=HO2.o j _ e2;subst ha2;obtain⟨c4,k4,ha4,kk4⟩:=HG1.o (List.ne_nil_of_mem (List.mem_of_getElem? hf));subst ha4;obtain⟨d4,hr4,hc4⟩:=kk4 j f hf;obtain⟨pa,pc,xa,xc,rfl,_,_⟩:=hr4.form;obtain⟨m,hm⟩:∃m,f.params.length=m:=⟨_,rfl⟩
   have z2:=kk2 _ hws.o;have z4:wl.cell? ⟨c4,k4+j*7+1,none⟩=some (.slice pa f.params.length pc):=hc4 wl (Jd HB.o (Jd HW4.o hws.o)) 1 _ rfl;rw[hm]at z2 z4;have j0:0<=(j:Int):=zo
   have j1:(j:Int)<(c:Int):=zo
   have hab:=HAB.o;have wk:IntKind.i64.wrap ((j:Int)+1)=((j+1:Nat):Int):=by rw[IntWalk.i64_in _ zo];omega
   have HGI:=Zh (And.intro hg hj);have HWD:=Zh hws.o.drew;clear hf e2 kk2 kk4 hr4 hc4 hm hg hj hab y0 y1 y3 q1 q2 hws;go_upto_region 49 with fail;go_region_held (λW=>W.cell? ⟨cb,2,none⟩=some (.slice (some ⟨c2,k2,none⟩) c b2)/\W.cell? ⟨qb,0,none⟩=some (.slice (some ⟨c4,k4,none⟩) c gr)/\W.cell? ⟨c2,k2+j,none⟩=some (Iv m)/\W.cell? ⟨c4,k4+j*7+1,none⟩=some (.slice pa m pc)) (go_keep) (fail);clear y2 q0 z2 z4;go_wp2;go_roundg (c-(j+1))
   case measure=>have:=HGI.o;omega
   case rel=>exact⟨j+1,by have:=HGI.o;omega,rfl,HWD.o⟩
  ·have dil:decide ((j:Int)<(c:Int))=false:=zH zo;have diN:decide (j<c)=false:=zH hj;have wk:IntKind.i64.wrap ((a:Int)+1)=((a+1:Nat):Int):=by have:=HAB.o;rw[IntWalk.i64_in _ zo];omega
   have HT:=HFIN.o _ (Jd HW4.o hws.o);clear HFIN hg hj;go_wp2;exact HT
end Go.Proofs.YtfafpklefknomaaGreatDoor


