import Derived.Test.YtfafpklefknomaaGreatDoorR20
open Nat(le_refl le_trans)
namespace Go.Proofs.YtfafpklefknomaaGreatDoor
open Go.ChangeShapes Go.WideShapes Go.ChangeAt Go.RowKit Go.Lib
open _root_.Go.Proofs.Tryz
set_option linter.all false
set_option maxRecDepth 100000
set_option maxHeartbeats 32000000
theorem zw{P:Prop}(h:P:=by exact ⟨_,_,cA.o.keep (λb hP=>hb6.block b hP.2.1) λb hP=>hP.up hb6.size,aA.keep (λ_ _=>rfl) (JeW uA.o kA.o),by rw[vA];rfl⟩):P:=h
def QcV:(prog.info? 39).map (λi=>(i.zero,i.size,i.bytes))=some (some (.agg #[Iv 0,Iv 0,Em,Nl,Iv 0,Em]),6,80):=zk
def QeP:(prog.info? 25).map (·.size)=some 3:=zk
def QgJ{w:World}{T t:Nat}{a0 a1 a2:Value}(v0 v1 v2:Value)(h:w.heap[T]?=some (.cells #[a0,a1,a2] t (0,0))) :
  (((w.setCell ⟨T,0,none⟩ v0).setCell ⟨T,1,none⟩ v1).setCell ⟨T,2,none⟩ v2).heap[T]?=some (.cells #[v0,v1,v2] t (0,0)):=
 heap_setCell_same _ _ 2 _ _ v2 (heap_setCell_same _ _ 1 _ _ v1 (heap_setCell_same _ _ 0 _ _ v0 h))
def OkB(w:World)(sb lo:Nat)(W:World)(V:Value)(b:Nat):Prop:=sb<b/\b<W.heap.size/\V.ownBlock≠some b/\(b<w.heap.size\/lo<=b)
def OkB.up{w:World}{sb lo:Nat}{W W':World}{V:Value}{b:Nat}(h:OkB w sb lo W V b)(hs:W.heap.size<=W'.heap.size):OkB w sb lo W' V b:=⟨h.1,Nat.lt_of_lt_of_le h.2.1 hs,h.2.2⟩
def Jhx{w:World}{sb lo rs bx:Nat}{w6 w7:World}{V V':Value}{X:Obj}{j:Nat}(hl:w.heap.size<=rs/\rs<bx/\bx<lo)(hV:∀g,V.ownBlock=some g->lo<=g/\g<w6.heap.size)
  (hgr:(w6.alloc X).grownBy w7 V.ownBlock) (hfr:V'.ownBlock=V.ownBlock\/V'.ownBlock=some (w6.alloc X).heap.size) :
  (∀b,b<w6.heap.size->V.ownBlock≠some b->b≠bx->(w7.setCell ⟨bx,j,none⟩ V').heap[b]?=w6.heap[b]?)/\(∀b,OkB w sb lo w6 V b->OkB w sb lo (w7.setCell ⟨bx,j,none⟩ V') V' b/\b≠bx)/\Chg [bx] w7 (w7.setCell ⟨bx,j,none⟩ V')/\w6.heap.size<=(w7.setCell ⟨bx,j,none⟩ V').heap.size/\
   (∀o,w6.heap[bx]?=some o->w7.heap[bx]?=some o):=by
 have hc7:=JP hgr;have hst:Chg [bx] w7 (w7.setCell ⟨bx,j,none⟩ V'):=(Chg.refl _ _).setCell (.inl (by simp:bx∈[bx])) (p:=⟨bx,j,none⟩) V';have hsz:w6.heap.size<=(w7.setCell ⟨bx,j,none⟩ V').heap.size:=le_trans hc7.size hst.size;refine⟨λq hq hn hne=>(hst.block q (Nat.lt_of_lt_of_le hq hc7.size) (by simpa using hne)).trans (hc7.block q hq (by simpa using hn)),λb hb=>?_,hst,hsz,λo ho=>hc7.heap_some (λhm=>by have:=(hV bx (by simpa using hm)).1;omega) ho⟩;obtain⟨h1,h2,h3,h4⟩:=hb;refine⟨⟨h1,by omega,λe1=>?_,h4⟩,by omega⟩
 rcases hfr with e2|e2
 ·exact h3 (e2.symm.trans e1)
 ·rw[e2]at e1;simp at e1;omega
structure R1(w:World)(sb rs bx lo:Nat)(act:Int)(W:World)(fl:List FnM)(V:Value)(xs:List Value):Prop where
 own:W.ownsRow lo 41 7 V fl.length xs
 row:QbM (FnX W (OkB w sb lo W V)) fl xs
 box:W.heap[bx]?=some (.cells #[V,Nl,Iv act] 25 (0,0))
 res:W.heap[rs]?=some (.cells #[Nl,Nl,Iv 0] 25 (0,0))
 bel:Below w.heap.size w W
 low:w.heap.size<=rs/\rs<bx/\bx<lo/\lo<=W.heap.size
structure R2(w:World)(sb rs bx lo:Nat)(act:Int)(W:World)(fl:List FnM)(V:Value)(cl:List ClM)(U:Value)(ys:List Value):Prop where
 fsl:Qan W (OkB w sb lo W U) (FnX W (OkB w sb lo W U)) fl V
 own:W.ownsRow lo 39 6 U cl.length ys
 row:QbM (ClX W (OkB w sb lo W U)) cl ys
 box:W.heap[bx]?=some (.cells #[V,U,Iv act] 25 (0,0))
 res:W.heap[rs]?=some (.cells #[Nl,Nl,Iv 0] 25 (0,0))
 bel:Below w.heap.size w W
 low:w.heap.size<=rs/\rs<bx/\bx<lo/\lo<=W.heap.size
def Jd{w W W':World}(h:Below w.heap.size w W)(hb:Below W.heap.size W W'):Below w.heap.size w W':=
 ⟨hb.os.trans h.os,hb.tape.trans h.tape,hb.output.trans h.output,le_trans h.size hb.size,λq hq=>(hb.block q (Nat.lt_of_lt_of_le hq h.size)).trans (h.block q hq)⟩
section
variable {w:World} {sb rs bx lo:Nat} {act:Int} {W W':World} {fl:List FnM} {V:Value} {xs:List Value} {cl:List ClM} {U:Value} {ys:List Value}
def R1.up(h:R1 w sb rs bx lo act W fl V xs)(hb:Below W.heap.size W W'):R1 w sb rs bx lo act W' fl V xs:=by
 obtain⟨l1,l2,l3,l4⟩:=h.low;exact⟨JA h.own (Chg.of_below hb []) zq,h.row.imp (FnX.keep (λb hP=>hb.block b hP.2.1) λb hP=>hP.up hb.size),(hb.block _ (Jb h.box)).trans h.box,(hb.block _ (Jb h.res)).trans h.res,Jd h.bel hb,l1,l2,l3,le_trans l4 hb.size⟩
def R2.up(h:R2 w sb rs bx lo act W fl V cl U ys)(hb:Below W.heap.size W W'):R2 w sb rs bx lo act W' fl V cl U ys:=by
 obtain⟨l1,l2,l3,l4⟩:=h.low;exact⟨h.fsl.keep (λb hP=>hb.block b hP.2.1) (λb hP=>hP.up hb.size) (FnX.keep (λb hP=>hb.block b hP.2.1) λb hP=>hP.up hb.size),JA h.own (Chg.of_below hb []) zq,h.row.imp (ClX.keep (λb hP=>hb.block b hP.2.1) λb hP=>hP.up hb.size),(hb.block _ (Jb h.box)).trans h.box,(hb.block _ (Jb h.res)).trans h.res,Jd h.bel hb,l1,l2,l3,le_trans l4 hb.size⟩
def JeV{w6 w7:World}{V':Value}{X:Obj}{j:Nat}(h:Below w.heap.size w w6)(hl:w.heap.size<=rs/\rs<bx/\bx<lo)(hV:∀g,V.ownBlock=some g->lo<=g/\g<w6.heap.size)
  (hgr:(w6.alloc X).grownBy w7 V.ownBlock):Below w.heap.size w (w7.setCell ⟨bx,j,none⟩ V'):=by
 have hc7:=JP hgr;have hst:Chg [bx] w7 (w7.setCell ⟨bx,j,none⟩ V'):=(Chg.refl _ _).setCell (.inl (by simp:bx∈[bx])) (p:=⟨bx,j,none⟩) V';have h1:=h.size;have h2:=hc7.size;exact⟨hst.os.trans (hc7.os.trans h.os),hst.tape.trans (hc7.tape.trans h.tape),hst.output.trans (hc7.output.trans h.output),by have:=hst.size;omega,λq hq=>(hst.block q zo zr).trans ((hc7.block q zo λhm=>by have:=(hV q (by simpa using hm)).1;omega).trans (h.block q hq))⟩
theorem QhA{P:Prop}(h:P:=by
  obtain⟨l1,l2,l3,l4⟩:=h.low;have h1:=hP.1;have h2:=hP.2
  exact⟨by omega,h2,λe1=>by have:=(h.own.lt b e1).2;omega,.inr (by omega)⟩):P:=h
def JeW{w1 w6:World}(h:R1 w sb rs bx lo act w1 fl V xs)(hsb:sb<w.heap.size):∀b,Qfj w1 w6 b->OkB w sb lo w6 V b:=λb hP=>by
 exact QhA
def JcD{w1 w6:World}(h:R2 w sb rs bx lo act w1 fl V cl U ys)(hsb:sb<w.heap.size):∀b,Qfj w1 w6 b->OkB w sb lo w6 U b:=λb hP=>by
 exact QhA
def R1.step{w1 w6 w7:World}{f:FnM}{c:List Value}{V':Value}{X:Obj}(h:R1 w sb rs bx lo act w1 fl V xs)(hb:Below w1.heap.size w1 w6)(hx:FnX w6 (OkB w sb lo w6 V) f c)
  (hown:w7.ownsRow lo 41 7 V' (fl.length+1) (xs++c)) (hgr:(w6.alloc X).grownBy w7 V.ownBlock) (hfr:V'.ownBlock=V.ownBlock\/V'.ownBlock=some (w6.alloc X).heap.size) :
  R1 w sb rs bx lo act (w7.setCell ⟨bx,0,none⟩ V') (fl++[f]) V' (xs++c)/\w7.heap[bx]?=some (.cells #[V,Nl,Iv act] 25 (0,0)):=by
 have h6:=h.up hb;obtain⟨l1,l2,l3,l4⟩:=h6.low;have hV:∀g,V.ownBlock=some g->lo<=g/\g<w6.heap.size:=λg hg=>h6.own.lt g hg
 obtain⟨g1,g2,hst,hsz,g5⟩:=Jhx (w:=w) (sb:=sb) (j:=0) ⟨l1,l2,l3⟩ hV hgr hfr;have hk:∀b,OkB w sb lo w6 V b->(w7.setCell ⟨bx,0,none⟩ V').heap[b]?=w6.heap[b]?:=λb hb=>g1 b hb.2.1 hb.2.2.1 (g2 b hb).2
 have hq:∀b,OkB w sb lo w6 V b->OkB w sb lo (w7.setCell ⟨bx,0,none⟩ V') V' b:=λb hb=>(g2 b hb).1
 have hbx7:=g5 _ h6.box;refine⟨⟨?_,QbM.snoc (FnX.keep hk hq f c hx) (h6.row.imp (FnX.keep hk hq)),Jm hbx7 0 V',?_,JeV h6.bel ⟨l1,l2,l3⟩ hV hgr,l1,l2,l3,le_trans l4 hsz⟩,hbx7⟩
 ·rw[List.length_append];exact JA hown hst zr
 ·exact(g1 rs (Jb h6.res) (λe1=>by have:=(hV _ e1).1;omega) zo).trans h6.res
def R2.step{w1 w6 w7:World}{f:ClM}{c:List Value}{U':Value}{X:Obj}(h:R2 w sb rs bx lo act w1 fl V cl U ys)(hb:Below w1.heap.size w1 w6)(hx:ClX w6 (OkB w sb lo w6 U) f c)
  (hown:w7.ownsRow lo 39 6 U' (cl.length+1) (ys++c)) (hgr:(w6.alloc X).grownBy w7 U.ownBlock) (hfr:U'.ownBlock=U.ownBlock\/U'.ownBlock=some (w6.alloc X).heap.size) :
  R2 w sb rs bx lo act (w7.setCell ⟨bx,1,none⟩ U') fl V (cl++[f]) U' (ys++c)/\w7.heap[bx]?=some (.cells #[V,U,Iv act] 25 (0,0)):=by
 have h6:=h.up hb;obtain⟨l1,l2,l3,l4⟩:=h6.low;have hV:∀g,U.ownBlock=some g->lo<=g/\g<w6.heap.size:=λg hg=>h6.own.lt g hg
 obtain⟨g1,g2,hst,hsz,g5⟩:=Jhx (w:=w) (sb:=sb) (j:=1) ⟨l1,l2,l3⟩ hV hgr hfr;have hk:∀b,OkB w sb lo w6 U b->(w7.setCell ⟨bx,1,none⟩ U').heap[b]?=w6.heap[b]?:=λb hb=>g1 b hb.2.1 hb.2.2.1 (g2 b hb).2
 have hq:∀b,OkB w sb lo w6 U b->OkB w sb lo (w7.setCell ⟨bx,1,none⟩ U') U' b:=λb hb=>(g2 b hb).1
 have hbx7:=g5 _ h6.box;refine⟨⟨h6.fsl.keep hk hq (FnX.keep hk hq),?_,QbM.snoc (ClX.keep hk hq f c hx) (h6.row.imp (ClX.keep hk hq)),Jm hbx7 1 U',?_,JeV h6.bel ⟨l1,l2,l3⟩ hV hgr,l1,l2,l3,le_trans l4 hsz⟩,hbx7⟩
 ·rw[List.length_append];exact JA hown hst zr
 ·exact(g1 rs (Jb h6.res) (λe1=>by have:=(hV _ e1).1;omega) zo).trans h6.res
def R1.next(h:R1 w sb rs bx lo act W fl V xs)(hsb:sb<w.heap.size):R2 w sb rs bx lo act W fl V [] Nl []:=by
 obtain⟨l1,l2,l3,l4⟩:=h.low;have hq:∀b,OkB w sb lo W V b->OkB w sb lo W Nl b:=λb hb=>⟨hb.1,hb.2.1,by simp[Value.ownBlock],hb.2.2.2⟩
 exact⟨Qan.own h.own (h.row.imp (FnX.keep (λ_ _=>rfl) hq)) λg hg=>by have:=h.own.lt g hg;exact⟨by omega,this.2,by simp[Value.ownBlock],.inr this.1⟩,⟨rfl,.inl ⟨rfl,rfl⟩⟩,rfl,h.box,h.res,h.bel,l1,l2,l3,l4⟩
def R2.fin(h:R2 w sb rs bx lo act W fl V cl U ys)(hsb:sb<w.heap.size):let W':=((W.setCell ⟨rs,0,none⟩ V).setCell ⟨rs,1,none⟩ U).setCell ⟨rs,2,none⟩ (Iv act)
  QaV W' (λb=>sb<b/\b<W'.heap.size) ⟨fl,cl,act⟩ #[V,U,Iv act]/\Below w.heap.size w W':=by
 intro W';obtain⟨l1,l2,l3,l4⟩:=h.low;have hst:Chg [rs] W W':=(((Chg.refl _ _).setCell (.inl zq) _).setCell (.inl zq) _).setCell (.inl zq) _;have hsz:=hst.size;have hk:∀b,OkB w sb lo W U b->W'.heap[b]?=W.heap[b]?:=λb hb=>hst.block b hb.2.1 (by obtain⟨_,_,_,h4⟩:=hb;simp;omega)
 have hq:∀b,OkB w sb lo W U b->sb<b/\b<W'.heap.size:=λb hb=>⟨hb.1,by have:=hb.2.1;omega⟩
 refine⟨⟨_,_,rfl,h.fsl.keep hk hq (FnX.keep hk hq),Qan.own (JA h.own hst zr) (h.row.imp (ClX.keep hk hq)) λg hg=>?_⟩,((h.bel.setCell l1 _).setCell l1 _).setCell l1 _⟩;have:=h.own.lt g hg;exact⟨by omega,by omega⟩
end
def Jma{W:World}{sb:Nat}{f:FnA}(P:Nat->Prop)(h:f.Ok W)(hP:∀g,f.lo<=g->g<f.hi->P g):QbR W P f.types f.tv:=by
 obtain⟨m,m1,m2,m3,m4,m5⟩:=h.bmd;have ht:=h.town
 rcases ht.2 with⟨e,e0⟩|⟨g,cap,cur,e,e2,e3,e4,_⟩
 ·exact⟨none,0,by rw[e,e0],by omega,.inl (List.eq_nil_of_length_eq_zero e0)⟩
 ·have hg:=m4 g (by rw[e];rfl);refine⟨_,cap,e,e4,.inr ⟨g,0,rfl,hP g e2 zo,λi n hi=>?_⟩⟩;have hc:=J0 ht (j:=i) (u:=Iv n) (by unfold Qad;rw[List.getElem?_map,hi];rfl);rw[e]at hc;rw[Nat.zero_add];exact hc
def fnM(f:FnA):FnM:=⟨f.name,f.types,f.result,Qab f.body.nd⟩
def clM(c:ClA):ClM:=⟨Qab c.cond.nd,c.action,c.reason⟩
def JjY(S:Qap):QaE S.src=⟨S.funcs.map fnM,S.clauses.map clM,S.action⟩:=by
 unfold QaE Qap.src;simp only[List.map_map];rfl
def RlP(w:World)(sb:Nat)(r:Qah)(e:Ending)(w':World):Prop:=∃c,e=.returned (.agg c)/\QaV w' (λb=>sb<b/\b<w'.heap.size) r c/\Below w.heap.size w w'
theorem QiP{P:Prop}(h:P:=by
  try simp only[Act.put,ZA,ZB,ZC]
  refine ZS 13 rfl (λK hK=>?_);have hbx:=HBX.o;have b0:=Ja hbx 1;have f0:=Jc hbx 1;have hl7:=Jb hbx;simp only[ZD,ZE,ZF]at b0;go_simp;clear b0 hbx f0 hl7 HBX;replace HCP:=Zh (((Chg.refl [bx] w7).setCell (.inl (by simp)) (p:=⟨bx,1,none⟩) (.slice a7 m7 c7)).heap_some (by have:=HCB.o.1;simp;omega) HCP.o);refine hK.out _ _ HCP.o (λhH=>?_);clear hK K
  try simp only[Act.put,ZA,ZB,ZC]
  refine wpAnyH_done (by kernel_rfl) ?_ _;go_wp2;go_roundg (S.clauses.length-(i+1))
  case measure=>have:=HG.o;omega
  case rel=>exact⟨i+1,by omega,by go_num,⟨_,_,by rw[HTS.o,HFM.o];exact HST.o⟩⟩):P:=h
theorem QiO{P:Prop}(h:P:=by
  try simp only[Act.put,ZA,ZB,ZC]
  refine ZS 16 rfl (λK hK=>?_);have hbx:=HBX.o;have b0:=Ja hbx 0;have f0:=Jc hbx 0;have hl7:=Jb hbx;simp only[ZD,ZE,ZF]at b0;go_simp;clear b0 hbx f0 hl7 HBX;replace HCP:=Zh (((Chg.refl [bx] w7).setCell (.inl (by simp)) (p:=⟨bx,0,none⟩) (.slice a7 m7 c7)).heap_some (by have:=HCB.o.1;simp;omega) HCP.o);refine hK.out _ _ HCP.o (λhH=>?_);clear hK K
  try simp only[Act.put,ZA,ZB,ZC]
  refine wpAnyH_done (by kernel_rfl) ?_ _;go_wp2;go_roundg (S.funcs.length-(i+1))
  case measure=>have:=HG.o;omega
  case rel=>exact⟨i+1,by omega,by go_num,⟨_,_,by rw[HTS.o,HFM.o];exact HST.o⟩⟩):P:=h
def Jhy(w:World)(sb:Nat)(S:Qap)(h:QaH w sb S)(h1:S.funcs.length<=100000000)(h2:S.clauses.length<=100000000)
  (h3:∀f∈S.funcs,siz f.body.nd<=100000000) (h4:∀c∈S.clauses,siz c.cond.nd<=100000000) :
  Calls prog 38 #[Pt sb] w (RlP w sb (QaE S.src)):=by
 obtain⟨R,hR⟩:∃R,RlP w sb (QaE S.src)=R:=⟨_,rfl⟩
 rw[hR];have HR:Hi (R=RlP w sb (QaE S.src)):=hR.symm;obtain⟨fa,fc,rA,tA⟩:=Vr h.fown;obtain⟨ca,cc,uB,xB⟩:=Vr h.cown;have gB:=Zh rA;have HCV:=Zh uB;have aB:=Zh tA;have eB:=Zh xB;have H3:=Zh h3;have H4:=Zh h4;have HS:=Zh h;have kA:Hi (sb<w.heap.size):=Jb h.box;have pA:Below w.heap.size w ((w.alloc (.cells #[Nl,Nl,Iv 0] 25)).alloc (.cells #[Nl,Nl,Iv S.action] 25)):=(zO.alloc zP _).alloc zq _
 have dB:Hi (R1 w sb w.heap.size (w.heap.size+1) (w.heap.size+1+1) S.action ((w.alloc (.cells #[Nl,Nl,Iv 0] 25)).alloc (.cells #[Nl,Nl,Iv S.action] 25)) [] Nl []):=by
  have e2:=zQ (w.alloc (.cells #[Nl,Nl,Iv 0] 25)) (.cells #[Nl,Nl,Iv S.action] 25);simp only[World.size_alloc]at e2;exact⟨⟨rfl,.inl ⟨rfl,rfl⟩⟩,rfl,e2,Jf (zQ _ _),pA,by omega,by omega,by omega,by simp⟩
 have zB:=h.on (Chg.of_below ((Below.refl w.heap.size w).alloc zP (.cells #[Nl,Nl,Iv 0] 25)) []) zq;have vB:=h.on (Chg.of_below pA []) zq;have a2:(w.alloc (.cells #[Nl,Nl,Iv 0] 25)).cell? ⟨sb,2,none⟩=some (Iv S.action):=by rw[Ja zB.box];rfl
 have b0:((w.alloc (.cells #[Nl,Nl,Iv 0] 25)).alloc (.cells #[Nl,Nl,Iv S.action] 25)).cell? ⟨sb,0,none⟩=some (.slice fa S.funcs.length fc):=by rw[Ja vB.box];rw[rA];rfl
 clear hR rA uB tA xB h h3 h4 pA zB vB;go_enter func38,ntmps38;go_wp2_with fail;clear a2 b0;generalize World.alloc (World.alloc w _) _=w1 at *;generalize w.heap.size+1+1=lo at *;generalize w.heap.size+1=bx at *;go_loopg [18] S.funcs.length λg v18 wr=>∃i:Nat,g+i=S.funcs.length/\v18=Iv i/\Hi (∃V xs,R1 w sb w.heap.size bx lo S.action wr ((S.funcs.take i).map fnM) V xs)
 case atStart=>exact⟨0,rfl,rfl,⟨_,_,dB.o⟩⟩
 case round=>
 clear dB;obtain⟨wl,rfl⟩:=zJ wr;obtain⟨i,hg,rfl,xA⟩:=hrel;obtain⟨V,xs,xA⟩:=xA.o;obtain⟨va,vn,vc,rfl⟩:=Jk xA.own
 by_cases hi:i<S.funcs.length
 ·have hil:(i:Int)<(S.funcs.length:Int):=zo;obtain⟨fn,gA⟩:∃fn,S.funcs[i]?=some fn:=⟨S.funcs[i],List.getElem?_eq_getElem hi⟩
  have nA:=aB.o zo;have hmem:=List.mem_of_getElem? gA;have eA:=HS.o.on (Chg.of_below xA.bel []) zq;obtain⟨fo,hlo,_⟩:=eA.fok fn hmem;have hcl:=Yv eA gA;have HTS:Hi ((S.funcs.take (i+1)).map fnM=(S.funcs.take i).map fnM++[fnM fn]):=by rw[Hi,J1 gA];simp
  have jA:Hi (((S.funcs.take i).map fnM).length<=100000000):=by rw[Hi,List.length_map,List.length_take];omega
  have HFO:Hi (fn.Ok wl/\sb<fn.lo/\fn.hi<=w.heap.size):=⟨fo,hlo,(HS.o.fok fn hmem).1.hle⟩
  have HSZ:=Zh (H3.o fn hmem);have hB:Hi (∃fn',fn'=fn):=⟨_,rfl⟩
  have hb2:Below wl.heap.size wl (wl.alloc (.cells fn.cells.toArray 147)):=zO.alloc zP _;have HCP:=Zh (zQ wl (.cells fn.cells.toArray 147));have uA:=Zh (xA.up hb2);have zA:Hi (fn.body.At (wl.alloc (.cells fn.cells.toArray 147))):=Jct fo.bat hb2
  have cA:Hi (QbR (wl.alloc (.cells fn.cells.toArray 147)) (OkB w sb lo wl (.slice va vn vc)) fn.types fn.tv):=by
   refine(Jma (sb:=sb) _ fo λg g1 g2=>?_).keep (λb hP=>hb2.block b hP.2.1) λb hP=>hP;have:=(HS.o.fok fn hmem).1.hle;have:=xA.low;exact⟨by omega,by omega,λe1=>by have:=(xA.own.lt g e1).1;omega,.inl zo⟩
  have HFM:Hi (fnM fn=⟨fn.name,fn.types,fn.result,Qab fn.body.nd⟩):=rfl;obtain⟨nm,of,ps,ts,res,b,pv,tv,mB,kB⟩:=fn;obtain⟨pa,pn,pc,cB⟩:=Jk fo.pown;obtain⟨ta,tn,tc,bB⟩:=Jk fo.town;dsimp only at cB bB zA cA HFM HSZ;subst cB bB;obtain⟨yA,yn,yc,hcg⟩:=Jg b;simp only[FnA.cells,hcg,List.cons_append,List.nil_append]at hcl HCP uA zA cA;have mA:=Zh hcg;have c0:=hcl 0 _ rfl;have c1:=hcl 1 _ rfl;have c2:=hcl 2 _ rfl;have c3:=hcl 3 _ rfl;have c4:=hcl 4 _ rfl;have c5:=hcl 5 _ rfl;have c6:=hcl 6 _ rfl;have c7:=hcl 7 _ rfl;have c8:=hcl 8 _ rfl;have c9:=hcl 9 _ rfl;simp only[Nat.add_zero]at c0;have wk:=zI i;have HG:=Zh hg;have HCB:Hi (bx<wl.heap.size/\∀g,(Value.slice va vn vc).ownBlock=some g->g<wl.heap.size):=⟨by have:=xA.low;omega,λg hg=>(xA.own.lt g hg).2⟩
  subst nA;clear hcl gA fo hg hcg eA xA hb2 hmem hlo HFO hB;go_upto_region 5 with fail;clear c0 c1 c2 c3 c4 c5 c6 c7 c8 c9;have HWS:Hi (wl.heap.size<=(World.alloc wl (.cells #[Sv nm,Iv of,.slice pa pn pc,.slice ta tn tc,Iv res,Iv b.kind,Iv b.num,.string (bs b.name),Iv b.off,.slice yA yn yc] 147)).heap.size):=by rw[Hi,World.size_alloc];omega
  replace cA:Hi (QbR (World.alloc wl (.cells #[Sv nm,Iv of,.slice pa pn pc,.slice ta tn tc,Iv res,Iv b.kind,Iv b.num,.string (bs b.name),Iv b.off,.slice yA yn yc] 147)) (OkB w sb lo (World.alloc wl (.cells #[Sv nm,Iv of,.slice pa pn pc,.slice ta tn tc,Iv res,Iv b.kind,Iv b.num,.string (bs b.name),Iv b.off,.slice yA yn yc] 147)) (.slice va vn vc)) ts (.slice ta tn tc)):=cA.o.keep (λ_ _=>rfl) λb hP=>hP.up HWS.o;generalize World.alloc wl _=wk0 at *;generalize wl.heap.size=cb at *;refine wp_region_held_drew (S:=λW=>W.heap[cb]?=some (.cells #[Sv nm,Iv of,.slice pa pn pc,.slice ta tn tc,Iv res,Iv b.kind,Iv b.num,.string (bs b.name),Iv b.off,.slice yA yn yc] 147 (0,0))) zk ((((Below.refl wk0.heap.size wk0).drew).block _ (Jb HCP.o)).trans HCP.o) λhH=>?_;have hD:Below wk0.heap.size wk0 wk0.drew:=(Below.refl wk0.heap.size wk0).drew;replace uA:=Zh (uA.o.up hD);replace zA:Hi (b.At wk0.drew):=Jct zA.o hD;replace cA:Hi (QbR wk0.drew (OkB w sb lo wk0.drew (.slice va vn vc)) ts (.slice ta tn tc)):=cA.o.keep (λb hP=>hD.block b hP.2.1) λb hP=>hP.up hD.size;replace HCP:=Zh ((hD.block _ (Jb HCP.o)).trans HCP.o);have HB0:=Zh uA.o.box;clear hD;generalize wk0.drew=wk1 at *;refine zK 0 ?_
  try simp only[zX]
  refine zK 2 ?_;try simp only[zX]
  refine zK 3 ?_;try simp only[zX]
  refine ZT (i:=4) (v:=?vT1_4) rfl (Or.inl ⟨by rfl,?yT1_4⟩) ?_
  case yT1_4=>(intro wX hSw;(try dsimp only at hSw);have p0:=Ja hSw 0;simp only[zW]at p0;go_simp<;>with_reducible rfl)
  try simp only[zX]
  refine zK 5 ?_;try simp only[zX]
  refine ZT (i:=6) (v:=?vT1_6) rfl (Or.inl ⟨by rfl,?yT1_6⟩) ?_
  case yT1_6=>(intro wX hSw;(try dsimp only at hSw);have p3:=Ja hSw 3;simp only[zW]at p3;go_simp<;>with_reducible rfl)
  try simp only[zX]
  refine zK 7 ?_;try simp only[zX]
  refine ZT (i:=8) (v:=?vT1_8) rfl (Or.inl ⟨by rfl,?yT1_8⟩) ?_
  case yT1_8=>(intro wX hSw;(try dsimp only at hSw);have p4:=Ja hSw 4;simp only[zW]at p4;go_simp<;>with_reducible rfl)
  try simp only[zX]
  refine zK 9 ?_;try simp only[zX]
  refine ZT (i:=10) (v:=?vT1_10) rfl (Or.inl ⟨by rfl,?yT1_10⟩) ?_
  case yT1_10=>(intro wX hSw;(try dsimp only at hSw);have p5:=Ja hSw 5;have p6:=Ja hSw 6;have p7:=Ja hSw 7;have p8:=Ja hSw 8;have p9:=Ja hSw 9;simp only[zW]at p5 p6 p7 p8 p9;go_simp<;>with_reducible rfl)
  try simp only[zX]
  refine ZR (rs:=[1,11]) (AllReadyH.cons rfl (λK hK=>?_) (AllReadyH.cons rfl (λK hK=>?_) AllReadyH.nil))
  ·have hbx:=HB0.o;have b0:=Ja hbx 0;simp only[zW]at b0;go_simp;clear b0 hbx;refine zU hK HCP.o λhH=>?_;clear hK K
   try simp only[zX]
   refine ZS 11 rfl λK hK=>?_;have ci:=Yw (siz b.nd) HSZ.o b _ zP zA.o;rw[mA.o]at ci
   (go_simp;go_at_call 99;refine ci.mono ?_;intro e w6 h6)
   clear ci;obtain⟨cy,rfl,aA,hb6⟩:=h6;obtain⟨ka,km,vA,iA⟩:=aA.form;have qA:=Zh aA;have HB6:=Zh hb6;have sA:=Zh vA;replace HCP:=Zh ((hb6.block _ (Jb HCP.o)).trans HCP.o);have bA:=HCP;have dA:=Zh (uA.o.up hb6);have hA:Hi (FnX w6 (OkB w sb lo w6 (.slice va vn vc)) ⟨nm,ts,res,Qab b.nd⟩ [Sv nm,.slice ta tn tc,Iv res,Iv (Qab b.nd).kind,Iv (Qab b.nd).num,.string (bs (Qab b.nd).name),.slice ka (Qab b.nd).kids.length km]):=zw
   have HOW:Hi ((w6.alloc (.cells #[Sv nm,.slice ta tn tc,Iv res,Iv (Qab b.nd).kind,Iv (Qab b.nd).num,.string (bs (Qab b.nd).name),.slice ka (Qab b.nd).kids.length km] 41)).ownsRow lo 41 7 (.slice va vn vc) ((S.funcs.take i).map fnM).length xs):=dA.o.own.alloc _;have HRW:Hi ((w6.alloc (.cells #[Sv nm,.slice ta tn tc,Iv res,Iv (Qab b.nd).kind,Iv (Qab b.nd).num,.string (bs (Qab b.nd).name),.slice ka (Qab b.nd).kids.length km] 41)).heap[w6.heap.size]?=some (.cells ([Sv nm,.slice ta tn tc,Iv res,Iv (Qab b.nd).kind,Iv (Qab b.nd).num,.string (bs (Qab b.nd).name),.slice ka (Qab b.nd).kids.length km]).toArray 41 (0,0))):=zQ _ _;have hlo6:lo<=(w6.alloc (.cells #[Sv nm,.slice ta tn tc,Iv res,Iv (Qab b.nd).kind,Iv (Qab b.nd).num,.string (bs (Qab b.nd).name),.slice ka (Qab b.nd).kids.length km] 41)).heap.size:=by have:=dA.o.low;rw[World.size_alloc];omega
   have HBX:=Zh dA.o.box;rw[vA];clear aA hb6 vA iA HB0;refine zU hK HCP.o λhH=>?_;clear hK K
   try simp only[zX]
   refine zK 12 ?_;try simp only[zX]
   refine ZS 13 rfl λK hK=>?_;go_simp;replace HCP:=Zh (Jf (X:=.cells #[Sv nm,.slice ta tn tc,Iv res,Iv (Qab b.nd).kind,Iv (Qab b.nd).num,.string (bs (Qab b.nd).name),.slice ka (Qab b.nd).kids.length km] 41) HCP.o);refine zU hK HCP.o λhH=>?_;replace HBX:Hi ((w6.alloc (.cells #[Sv nm,.slice ta tn tc,Iv res,Iv (Qab b.nd).kind,Iv (Qab b.nd).num,.string (bs (Qab b.nd).name),.slice ka (Qab b.nd).kids.length km] 41)).heap[bx]?=some (.cells #[.slice va vn vc,Nl,Iv S.action] 25 (0,0))):=Jf HBX.o;clear hK K
   try simp only[zX]
   refine ZS 14 rfl λK hK=>?_
   (refine Jq (w6.alloc (.cells #[Sv nm,.slice ta tn tc,Iv res,Iv (Qab b.nd).kind,Iv (Qab b.nd).num,.string (bs (Qab b.nd).name),.slice ka (Qab b.nd).kids.length km] 41)) zt (.tmp 23) (.tmp 35) 22 41 _ 7 104 zt underlying22 Qde rfl zp lo (.slice va vn vc) ((S.funcs.take i).map fnM).length xs [Sv nm,.slice ta tn tc,Iv res,Iv (Qab b.nd).kind,Iv (Qab b.nd).num,.string (bs (Qab b.nd).name),.slice ka (Qab b.nd).kids.length km] zt HOW.o w6.heap.size zt HRW.o rfl (by intro u hu;simp at hu;rcases hu with rfl|rfl|rfl|rfl|rfl|rfl|rfl<;>rfl) jA.o zp hlo6 ?_;intro v7 w7 hown7 hgr7 hfr7)
   obtain⟨a7,m7,c7,rfl⟩:=Jk hown7;have hst:=R1.step (V':=.slice a7 m7 c7) uA.o HB6.o hA.o hown7 hgr7 hfr7;replace HCP:=Zh ((JP (v:=.slice va vn vc) hgr7).heap_some (λhm=>by have:=HCB.o.2 cb (by simpa using hm);omega) bA.o);replace HBX:=Zh hst.2;have HST:=Zh hst.1;clear hown7 hgr7 hfr7 hst HOW HRW hlo6;refine zU hK HCP.o λhH=>?_;clear hK K
   try simp only[zX]
   refine zK 15 ?_
   exact QiO
  ·have ci:=Yw (siz b.nd) HSZ.o b _ zP zA.o;rw[mA.o]at ci
   (go_simp;go_at_call 99;refine ci.mono ?_;intro e w6 h6)
   clear ci;obtain⟨cy,rfl,aA,hb6⟩:=h6;obtain⟨ka,km,vA,iA⟩:=aA.form;have qA:=Zh aA;have HB6:=Zh hb6;have sA:=Zh vA;replace HCP:=Zh ((hb6.block _ (Jb HCP.o)).trans HCP.o);have bA:=HCP;have dA:=Zh (uA.o.up hb6);have hA:Hi (FnX w6 (OkB w sb lo w6 (.slice va vn vc)) ⟨nm,ts,res,Qab b.nd⟩ [Sv nm,.slice ta tn tc,Iv res,Iv (Qab b.nd).kind,Iv (Qab b.nd).num,.string (bs (Qab b.nd).name),.slice ka (Qab b.nd).kids.length km]):=zw
   have HOW:Hi ((w6.alloc (.cells #[Sv nm,.slice ta tn tc,Iv res,Iv (Qab b.nd).kind,Iv (Qab b.nd).num,.string (bs (Qab b.nd).name),.slice ka (Qab b.nd).kids.length km] 41)).ownsRow lo 41 7 (.slice va vn vc) ((S.funcs.take i).map fnM).length xs):=dA.o.own.alloc _;have HRW:Hi ((w6.alloc (.cells #[Sv nm,.slice ta tn tc,Iv res,Iv (Qab b.nd).kind,Iv (Qab b.nd).num,.string (bs (Qab b.nd).name),.slice ka (Qab b.nd).kids.length km] 41)).heap[w6.heap.size]?=some (.cells ([Sv nm,.slice ta tn tc,Iv res,Iv (Qab b.nd).kind,Iv (Qab b.nd).num,.string (bs (Qab b.nd).name),.slice ka (Qab b.nd).kids.length km]).toArray 41 (0,0))):=zQ _ _;have hlo6:lo<=(w6.alloc (.cells #[Sv nm,.slice ta tn tc,Iv res,Iv (Qab b.nd).kind,Iv (Qab b.nd).num,.string (bs (Qab b.nd).name),.slice ka (Qab b.nd).kids.length km] 41)).heap.size:=by have:=dA.o.low;rw[World.size_alloc];omega
   have HBX:=Zh dA.o.box;rw[vA];clear aA hb6 vA iA HB0;refine zU hK HCP.o λhH=>?_;clear hK K
   try simp only[zX]
   refine zK 12 ?_;try simp only[zX]
   refine ZR (rs:=[1,13]) (AllReadyH.cons rfl (λK hK=>?_) (AllReadyH.cons rfl (λK hK=>?_) AllReadyH.nil))
   ·have hbx:=HBX.o;have b0:=Ja hbx 0;simp only[zW]at b0;go_simp;clear b0 hbx;refine zU hK HCP.o λhH=>?_;clear hK K
    try simp only[zX]
    refine ZS 13 rfl λK hK=>?_;go_simp;replace HCP:=Zh (Jf (X:=.cells #[Sv nm,.slice ta tn tc,Iv res,Iv (Qab b.nd).kind,Iv (Qab b.nd).num,.string (bs (Qab b.nd).name),.slice ka (Qab b.nd).kids.length km] 41) HCP.o);refine zU hK HCP.o λhH=>?_;replace HBX:Hi ((w6.alloc (.cells #[Sv nm,.slice ta tn tc,Iv res,Iv (Qab b.nd).kind,Iv (Qab b.nd).num,.string (bs (Qab b.nd).name),.slice ka (Qab b.nd).kids.length km] 41)).heap[bx]?=some (.cells #[.slice va vn vc,Nl,Iv S.action] 25 (0,0))):=Jf HBX.o;clear hK K
    try simp only[zX]
    refine ZS 14 rfl λK hK=>?_
    (refine Jq (w6.alloc (.cells #[Sv nm,.slice ta tn tc,Iv res,Iv (Qab b.nd).kind,Iv (Qab b.nd).num,.string (bs (Qab b.nd).name),.slice ka (Qab b.nd).kids.length km] 41)) zt (.tmp 23) (.tmp 35) 22 41 _ 7 104 zt underlying22 Qde rfl zp lo (.slice va vn vc) ((S.funcs.take i).map fnM).length xs [Sv nm,.slice ta tn tc,Iv res,Iv (Qab b.nd).kind,Iv (Qab b.nd).num,.string (bs (Qab b.nd).name),.slice ka (Qab b.nd).kids.length km] zt HOW.o w6.heap.size zt HRW.o rfl (by intro u hu;simp at hu;rcases hu with rfl|rfl|rfl|rfl|rfl|rfl|rfl<;>rfl) jA.o zp hlo6 ?_;intro v7 w7 hown7 hgr7 hfr7)
    obtain⟨a7,m7,c7,rfl⟩:=Jk hown7;have hst:=R1.step (V':=.slice a7 m7 c7) uA.o HB6.o hA.o hown7 hgr7 hfr7;replace HCP:=Zh ((JP (v:=.slice va vn vc) hgr7).heap_some (λhm=>by have:=HCB.o.2 cb (by simpa using hm);omega) bA.o);replace HBX:=Zh hst.2;have HST:=Zh hst.1;clear hown7 hgr7 hfr7 hst HOW HRW hlo6;refine zU hK HCP.o λhH=>?_;clear hK K
    try simp only[zX]
    refine zK 15 ?_
    exact QiO
   ·go_simp;replace HCP:=Zh (Jf (X:=.cells #[Sv nm,.slice ta tn tc,Iv res,Iv (Qab b.nd).kind,Iv (Qab b.nd).num,.string (bs (Qab b.nd).name),.slice ka (Qab b.nd).kids.length km] 41) HCP.o);refine zU hK HCP.o λhH=>?_;replace HBX:Hi ((w6.alloc (.cells #[Sv nm,.slice ta tn tc,Iv res,Iv (Qab b.nd).kind,Iv (Qab b.nd).num,.string (bs (Qab b.nd).name),.slice ka (Qab b.nd).kids.length km] 41)).heap[bx]?=some (.cells #[.slice va vn vc,Nl,Iv S.action] 25 (0,0))):=Jf HBX.o;clear hK K
    try simp only[zX]
    refine ZS 1 rfl λK hK=>?_;have hbx:=HBX.o;have b0:=Ja hbx 0;simp only[zW]at b0;go_simp;clear b0 hbx;refine zU hK HCP.o λhH=>?_;clear hK K
    try simp only[zX]
    refine ZS 14 rfl λK hK=>?_
    (refine Jq (w6.alloc (.cells #[Sv nm,.slice ta tn tc,Iv res,Iv (Qab b.nd).kind,Iv (Qab b.nd).num,.string (bs (Qab b.nd).name),.slice ka (Qab b.nd).kids.length km] 41)) zt (.tmp 23) (.tmp 35) 22 41 _ 7 104 zt underlying22 Qde rfl zp lo (.slice va vn vc) ((S.funcs.take i).map fnM).length xs [Sv nm,.slice ta tn tc,Iv res,Iv (Qab b.nd).kind,Iv (Qab b.nd).num,.string (bs (Qab b.nd).name),.slice ka (Qab b.nd).kids.length km] zt HOW.o w6.heap.size zt HRW.o rfl (by intro u hu;simp at hu;rcases hu with rfl|rfl|rfl|rfl|rfl|rfl|rfl<;>rfl) jA.o zp hlo6 ?_;intro v7 w7 hown7 hgr7 hfr7)
    obtain⟨a7,m7,c7,rfl⟩:=Jk hown7;have hst:=R1.step (V':=.slice a7 m7 c7) uA.o HB6.o hA.o hown7 hgr7 hfr7;replace HCP:=Zh ((JP (v:=.slice va vn vc) hgr7).heap_some (λhm=>by have:=HCB.o.2 cb (by simpa using hm);omega) bA.o);replace HBX:=Zh hst.2;have HST:=Zh hst.1;clear hown7 hgr7 hfr7 hst HOW HRW hlo6;refine zU hK HCP.o λhH=>?_;clear hK K
    try simp only[zX]
    refine zK 15 ?_
    exact QiO
 ·have hil:¬(i:Int)<(S.funcs.length:Int):=zo;obtain rfl:i=S.funcs.length:=zo;rw[List.take_length]at xA;have eA:=HS.o.on (Chg.of_below xA.bel []) zq;have b1:wl.cell? ⟨sb,1,none⟩=some (.slice ca S.clauses.length cc):=by rw[Ja eA.box];rw[HCV.o];rfl
  have yB:=Zh (xA.next kA.o);clear hi hg xA eA H3 aB gB;go_wp2_with fail;clear b1;go_loopg [44] S.clauses.length λg v44 wr=>∃i:Nat,g+i=S.clauses.length/\v44=Iv i/\Hi (∃U ys,R2 w sb w.heap.size bx lo S.action wr (S.funcs.map fnM) (.slice va vn vc) ((S.clauses.take i).map clM) U ys)
  case atStart=>exact⟨0,rfl,rfl,⟨_,_,yB.o⟩⟩
  case round=>
  clear yB hil;obtain⟨wm,rfl⟩:=zJ wr;obtain⟨i,hg,rfl,xA⟩:=hrel;obtain⟨U,ys,xA⟩:=xA.o;obtain⟨ua,un,uc,rfl⟩:=Jk xA.own
  by_cases hi:i<S.clauses.length
  ·have hil:(i:Int)<(S.clauses.length:Int):=zo;obtain⟨cn,gA⟩:∃cn,S.clauses[i]?=some cn:=⟨S.clauses[i],List.getElem?_eq_getElem hi⟩
   have nA:=eB.o zo;have hmem:=List.mem_of_getElem? gA;have eA:=HS.o.on (Chg.of_below xA.bel []) zq;obtain⟨fo,hlo⟩:=eA.cok cn hmem;have hcl:=JeU eA gA;have HTS:Hi ((S.clauses.take (i+1)).map clM=(S.clauses.take i).map clM++[clM cn]):=by rw[Hi,J1 gA];simp
   have jA:Hi (((S.clauses.take i).map clM).length<=100000000):=by rw[Hi,List.length_map,List.length_take];omega
   have HSZ:=Zh (H4.o cn hmem);have hb2:Below wm.heap.size wm (wm.alloc (.cells cn.cells.toArray 151)):=zO.alloc zP _;have HCP:=Zh (zQ wm (.cells cn.cells.toArray 151));have uA:=Zh (xA.up hb2);have zA:Hi (cn.cond.At (wm.alloc (.cells cn.cells.toArray 151))):=Jct fo.at' hb2;have HFM:Hi (clM cn=⟨Qab cn.cond.nd,cn.action,cn.reason⟩):=rfl;obtain⟨b,ac,rz,jB,iB⟩:=cn;dsimp only at zA HFM HSZ;obtain⟨yA,yn,yc,hcg⟩:=Jg b;simp only[ClA.cells,hcg,List.cons_append,List.nil_append]at hcl HCP uA zA;have mA:=Zh hcg;have c0:=hcl 0 _ rfl;have c1:=hcl 1 _ rfl;have c2:=hcl 2 _ rfl;have c3:=hcl 3 _ rfl;have c4:=hcl 4 _ rfl;have c5:=hcl 5 _ rfl;have c6:=hcl 6 _ rfl;simp only[Nat.add_zero]at c0;have wk:=zI i;have HG:=Zh hg;have HCB:Hi (bx<wm.heap.size/\∀g,(Value.slice ua un uc).ownBlock=some g->g<wm.heap.size):=⟨by have:=xA.low;omega,λg hg=>(xA.own.lt g hg).2⟩
   subst nA;clear hcl gA fo hg hcg eA xA hb2 hmem hlo;go_upto_region 10 with fail;clear c0 c1 c2 c3 c4 c5 c6;generalize World.alloc wm _=wk0 at *;generalize wm.heap.size=cb at *;refine wp_region_held_drew (S:=λW=>W.heap[cb]?=some (.cells #[Iv b.kind,Iv b.num,.string (bs b.name),Iv b.off,.slice yA yn yc,Iv ac,Sv rz] 151 (0,0))) zk ((((Below.refl wk0.heap.size wk0).drew).block _ (Jb HCP.o)).trans HCP.o) λhH=>?_;have hD:Below wk0.heap.size wk0 wk0.drew:=(Below.refl wk0.heap.size wk0).drew;replace uA:=Zh (uA.o.up hD);replace zA:Hi (b.At wk0.drew):=Jct zA.o hD;replace HCP:=Zh ((hD.block _ (Jb HCP.o)).trans HCP.o);have HB0:=Zh uA.o.box;clear hD;generalize wk0.drew=wk1 at *;refine zK 0 ?_
   try simp only[zX]
   refine zK 2 ?_;try simp only[zX]
   refine ZT (i:=3) (v:=?vT16_3) rfl (Or.inl ⟨by rfl,?yT16_3⟩) ?_
   case yT16_3=>(intro wX hSw;(try dsimp only at hSw);have p0:=Ja hSw 0;have p1:=Ja hSw 1;have p2:=Ja hSw 2;have p3:=Ja hSw 3;have p4:=Ja hSw 4;simp only[zW]at p0 p1 p2 p3 p4;go_simp<;>with_reducible rfl)
   try simp only[zX]
   refine zK 5 ?_;try simp only[zX]
   refine ZT (i:=6) (v:=?vT16_6) rfl (Or.inl ⟨by rfl,?yT16_6⟩) ?_
   case yT16_6=>(intro wX hSw;(try dsimp only at hSw);have p5:=Ja hSw 5;simp only[zW]at p5;go_simp<;>with_reducible rfl)
   try simp only[zX]
   refine zK 7 ?_;try simp only[zX]
   refine ZT (i:=8) (v:=?vT16_8) rfl (Or.inl ⟨by rfl,?yT16_8⟩) ?_
   case yT16_8=>(intro wX hSw;(try dsimp only at hSw);have p6:=Ja hSw 6;simp only[zW]at p6;go_simp<;>with_reducible rfl)
   try simp only[zX]
   refine ZR (rs:=[1,4]) (AllReadyH.cons rfl (λK hK=>?_) (AllReadyH.cons rfl (λK hK=>?_) AllReadyH.nil))
   ·have hbx:=HB0.o;have b0:=Ja hbx 1;simp only[zW]at b0;go_simp;clear b0 hbx;refine zU hK HCP.o λhH=>?_;clear hK K
    try simp only[zX]
    refine ZS 4 rfl λK hK=>?_;have ci:=Yw (siz b.nd) HSZ.o b _ zP zA.o;rw[mA.o]at ci
    (go_simp;go_at_call 99;refine ci.mono ?_;intro e w6 h6)
    clear ci;obtain⟨cy,rfl,aA,hb6⟩:=h6;obtain⟨ka,km,vA,iA⟩:=aA.form;have qA:=Zh aA;have HB6:=Zh hb6;have sA:=Zh vA;replace HCP:=Zh ((hb6.block _ (Jb HCP.o)).trans HCP.o);have bA:=HCP;have dA:=Zh (uA.o.up hb6);have hA:Hi (ClX w6 (OkB w sb lo w6 (.slice ua un uc)) ⟨Qab b.nd,ac,rz⟩ [Iv (Qab b.nd).kind,Iv (Qab b.nd).num,.string (bs (Qab b.nd).name),.slice ka (Qab b.nd).kids.length km,Iv ac,Sv rz]):=⟨_,aA.keep (λ_ _=>rfl) (JcD uA.o kA.o),by rw[vA];rfl⟩
    have HOW:Hi ((w6.alloc (.cells #[Iv (Qab b.nd).kind,Iv (Qab b.nd).num,.string (bs (Qab b.nd).name),.slice ka (Qab b.nd).kids.length km,Iv ac,Sv rz] 39)).ownsRow lo 39 6 (.slice ua un uc) ((S.clauses.take i).map clM).length ys):=dA.o.own.alloc _;have HRW:Hi ((w6.alloc (.cells #[Iv (Qab b.nd).kind,Iv (Qab b.nd).num,.string (bs (Qab b.nd).name),.slice ka (Qab b.nd).kids.length km,Iv ac,Sv rz] 39)).heap[w6.heap.size]?=some (.cells ([Iv (Qab b.nd).kind,Iv (Qab b.nd).num,.string (bs (Qab b.nd).name),.slice ka (Qab b.nd).kids.length km,Iv ac,Sv rz]).toArray 39 (0,0))):=zQ _ _;have hlo6:lo<=(w6.alloc (.cells #[Iv (Qab b.nd).kind,Iv (Qab b.nd).num,.string (bs (Qab b.nd).name),.slice ka (Qab b.nd).kids.length km,Iv ac,Sv rz] 39)).heap.size:=by have:=dA.o.low;rw[World.size_alloc];omega
    have HBX:=Zh dA.o.box;rw[vA];clear aA hb6 vA iA HB0;refine zU hK HCP.o λhH=>?_;clear hK K
    try simp only[zX]
    refine zK 9 ?_;try simp only[zX]
    refine ZS 10 rfl λK hK=>?_;go_simp;replace HCP:=Zh (Jf (X:=.cells #[Iv (Qab b.nd).kind,Iv (Qab b.nd).num,.string (bs (Qab b.nd).name),.slice ka (Qab b.nd).kids.length km,Iv ac,Sv rz] 39) HCP.o);refine zU hK HCP.o λhH=>?_;replace HBX:Hi ((w6.alloc (.cells #[Iv (Qab b.nd).kind,Iv (Qab b.nd).num,.string (bs (Qab b.nd).name),.slice ka (Qab b.nd).kids.length km,Iv ac,Sv rz] 39)).heap[bx]?=some (.cells #[.slice va vn vc,.slice ua un uc,Iv S.action] 25 (0,0))):=Jf HBX.o;clear hK K
    try simp only[zX]
    refine ZS 11 rfl λK hK=>?_
    (refine Jq (w6.alloc (.cells #[Iv (Qab b.nd).kind,Iv (Qab b.nd).num,.string (bs (Qab b.nd).name),.slice ka (Qab b.nd).kids.length km,Iv ac,Sv rz] 39)) zt (.tmp 49) (.tmp 58) 23 39 _ 6 80 zt underlying23 QcV rfl zp lo (.slice ua un uc) ((S.clauses.take i).map clM).length ys [Iv (Qab b.nd).kind,Iv (Qab b.nd).num,.string (bs (Qab b.nd).name),.slice ka (Qab b.nd).kids.length km,Iv ac,Sv rz] zt HOW.o w6.heap.size zt HRW.o rfl (by intro u hu;simp at hu;rcases hu with rfl|rfl|rfl|rfl|rfl|rfl<;>rfl) jA.o zp hlo6 ?_;intro v7 w7 hown7 hgr7 hfr7)
    obtain⟨a7,m7,c7,rfl⟩:=Jk hown7;have hst:=R2.step (U':=.slice a7 m7 c7) uA.o HB6.o hA.o hown7 hgr7 hfr7;replace HCP:=Zh ((JP (v:=.slice ua un uc) hgr7).heap_some (λhm=>by have:=HCB.o.2 cb (by simpa using hm);omega) bA.o);replace HBX:=Zh hst.2;have HST:=Zh hst.1;clear hown7 hgr7 hfr7 hst HOW HRW hlo6;refine zU hK HCP.o λhH=>?_;clear hK K
    try simp only[zX]
    refine zK 12 ?_
    exact QiP
   ·have ci:=Yw (siz b.nd) HSZ.o b _ zP zA.o;rw[mA.o]at ci
    (go_simp;go_at_call 99;refine ci.mono ?_;intro e w6 h6)
    clear ci;obtain⟨cy,rfl,aA,hb6⟩:=h6;obtain⟨ka,km,vA,iA⟩:=aA.form;have qA:=Zh aA;have HB6:=Zh hb6;have sA:=Zh vA;replace HCP:=Zh ((hb6.block _ (Jb HCP.o)).trans HCP.o);have bA:=HCP;have dA:=Zh (uA.o.up hb6);have hA:Hi (ClX w6 (OkB w sb lo w6 (.slice ua un uc)) ⟨Qab b.nd,ac,rz⟩ [Iv (Qab b.nd).kind,Iv (Qab b.nd).num,.string (bs (Qab b.nd).name),.slice ka (Qab b.nd).kids.length km,Iv ac,Sv rz]):=⟨_,aA.keep (λ_ _=>rfl) (JcD uA.o kA.o),by rw[vA];rfl⟩
    have HOW:Hi ((w6.alloc (.cells #[Iv (Qab b.nd).kind,Iv (Qab b.nd).num,.string (bs (Qab b.nd).name),.slice ka (Qab b.nd).kids.length km,Iv ac,Sv rz] 39)).ownsRow lo 39 6 (.slice ua un uc) ((S.clauses.take i).map clM).length ys):=dA.o.own.alloc _;have HRW:Hi ((w6.alloc (.cells #[Iv (Qab b.nd).kind,Iv (Qab b.nd).num,.string (bs (Qab b.nd).name),.slice ka (Qab b.nd).kids.length km,Iv ac,Sv rz] 39)).heap[w6.heap.size]?=some (.cells ([Iv (Qab b.nd).kind,Iv (Qab b.nd).num,.string (bs (Qab b.nd).name),.slice ka (Qab b.nd).kids.length km,Iv ac,Sv rz]).toArray 39 (0,0))):=zQ _ _;have hlo6:lo<=(w6.alloc (.cells #[Iv (Qab b.nd).kind,Iv (Qab b.nd).num,.string (bs (Qab b.nd).name),.slice ka (Qab b.nd).kids.length km,Iv ac,Sv rz] 39)).heap.size:=by have:=dA.o.low;rw[World.size_alloc];omega
    have HBX:=Zh dA.o.box;rw[vA];clear aA hb6 vA iA HB0;refine zU hK HCP.o λhH=>?_;clear hK K
    try simp only[zX]
    refine zK 9 ?_;try simp only[zX]
    refine ZR (rs:=[1,10]) (AllReadyH.cons rfl (λK hK=>?_) (AllReadyH.cons rfl (λK hK=>?_) AllReadyH.nil))
    ·have hbx:=HBX.o;have b0:=Ja hbx 1;simp only[zW]at b0;go_simp;clear b0 hbx;refine zU hK HCP.o λhH=>?_;clear hK K
     try simp only[zX]
     refine ZS 10 rfl λK hK=>?_;go_simp;replace HCP:=Zh (Jf (X:=.cells #[Iv (Qab b.nd).kind,Iv (Qab b.nd).num,.string (bs (Qab b.nd).name),.slice ka (Qab b.nd).kids.length km,Iv ac,Sv rz] 39) HCP.o);refine zU hK HCP.o λhH=>?_;replace HBX:Hi ((w6.alloc (.cells #[Iv (Qab b.nd).kind,Iv (Qab b.nd).num,.string (bs (Qab b.nd).name),.slice ka (Qab b.nd).kids.length km,Iv ac,Sv rz] 39)).heap[bx]?=some (.cells #[.slice va vn vc,.slice ua un uc,Iv S.action] 25 (0,0))):=Jf HBX.o;clear hK K
     try simp only[zX]
     refine ZS 11 rfl λK hK=>?_
     (refine Jq (w6.alloc (.cells #[Iv (Qab b.nd).kind,Iv (Qab b.nd).num,.string (bs (Qab b.nd).name),.slice ka (Qab b.nd).kids.length km,Iv ac,Sv rz] 39)) zt (.tmp 49) (.tmp 58) 23 39 _ 6 80 zt underlying23 QcV rfl zp lo (.slice ua un uc) ((S.clauses.take i).map clM).length ys [Iv (Qab b.nd).kind,Iv (Qab b.nd).num,.string (bs (Qab b.nd).name),.slice ka (Qab b.nd).kids.length km,Iv ac,Sv rz] zt HOW.o w6.heap.size zt HRW.o rfl (by intro u hu;simp at hu;rcases hu with rfl|rfl|rfl|rfl|rfl|rfl<;>rfl) jA.o zp hlo6 ?_;intro v7 w7 hown7 hgr7 hfr7)
     obtain⟨a7,m7,c7,rfl⟩:=Jk hown7;have hst:=R2.step (U':=.slice a7 m7 c7) uA.o HB6.o hA.o hown7 hgr7 hfr7;replace HCP:=Zh ((JP (v:=.slice ua un uc) hgr7).heap_some (λhm=>by have:=HCB.o.2 cb (by simpa using hm);omega) bA.o);replace HBX:=Zh hst.2;have HST:=Zh hst.1;clear hown7 hgr7 hfr7 hst HOW HRW hlo6;refine zU hK HCP.o λhH=>?_;clear hK K
     try simp only[zX]
     refine zK 12 ?_
     exact QiP
    ·go_simp;replace HCP:=Zh (Jf (X:=.cells #[Iv (Qab b.nd).kind,Iv (Qab b.nd).num,.string (bs (Qab b.nd).name),.slice ka (Qab b.nd).kids.length km,Iv ac,Sv rz] 39) HCP.o);refine zU hK HCP.o λhH=>?_;replace HBX:Hi ((w6.alloc (.cells #[Iv (Qab b.nd).kind,Iv (Qab b.nd).num,.string (bs (Qab b.nd).name),.slice ka (Qab b.nd).kids.length km,Iv ac,Sv rz] 39)).heap[bx]?=some (.cells #[.slice va vn vc,.slice ua un uc,Iv S.action] 25 (0,0))):=Jf HBX.o;clear hK K
     try simp only[zX]
     refine ZS 1 rfl λK hK=>?_;have hbx:=HBX.o;have b0:=Ja hbx 1;simp only[zW]at b0;go_simp;clear b0 hbx;refine zU hK HCP.o λhH=>?_;clear hK K
     try simp only[zX]
     refine ZS 11 rfl λK hK=>?_
     (refine Jq (w6.alloc (.cells #[Iv (Qab b.nd).kind,Iv (Qab b.nd).num,.string (bs (Qab b.nd).name),.slice ka (Qab b.nd).kids.length km,Iv ac,Sv rz] 39)) zt (.tmp 49) (.tmp 58) 23 39 _ 6 80 zt underlying23 QcV rfl zp lo (.slice ua un uc) ((S.clauses.take i).map clM).length ys [Iv (Qab b.nd).kind,Iv (Qab b.nd).num,.string (bs (Qab b.nd).name),.slice ka (Qab b.nd).kids.length km,Iv ac,Sv rz] zt HOW.o w6.heap.size zt HRW.o rfl (by intro u hu;simp at hu;rcases hu with rfl|rfl|rfl|rfl|rfl|rfl<;>rfl) jA.o zp hlo6 ?_;intro v7 w7 hown7 hgr7 hfr7)
     obtain⟨a7,m7,c7,rfl⟩:=Jk hown7;have hst:=R2.step (U':=.slice a7 m7 c7) uA.o HB6.o hA.o hown7 hgr7 hfr7;replace HCP:=Zh ((JP (v:=.slice ua un uc) hgr7).heap_some (λhm=>by have:=HCB.o.2 cb (by simpa using hm);omega) bA.o);replace HBX:=Zh hst.2;have HST:=Zh hst.1;clear hown7 hgr7 hfr7 hst HOW HRW hlo6;refine zU hK HCP.o λhH=>?_;clear hK K
     try simp only[zX]
     refine zK 12 ?_
     exact QiP
  ·have hil:¬(i:Int)<(S.clauses.length:Int):=zo;obtain rfl:i=S.clauses.length:=zo;rw[List.take_length]at xA;have uA:=Zh xA;have hbx:=xA.box;have hrs:=xA.res;have b0:=Ja hbx 0;have b1:=Ja hbx 1;have b2:=Ja hbx 2;have z0:=Ja hrs 0;have z1:=Ja hrs 1;have z2:=Ja hrs 2;simp only[zW]at b0 b1 b2 z0 z1 z2;have y0:=Jc hrs 0;have y1:=Jc hrs 1;have y2:=Jc hrs 2;clear hi hg xA hbx hrs;go_wp2;refine bodyPost_ret (v:=.agg #[.slice va vn vc,.slice ua un uc,Iv S.action]) (results_cell_row rfl _ _ w.heap.size 25 _ (0,0) _ rfl (QgJ _ _ _ uA.o.res) underlying25 rfl QeP) rfl ?_;rw[HR.o,JjY];obtain⟨e1,e2⟩:=uA.o.fin kA.o;exact⟨_,rfl,e1,e2⟩
end Go.Proofs.YtfafpklefknomaaGreatDoor
