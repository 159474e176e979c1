import Derived.Defers
import Derived.Recover
import GoSem.Op.String
import Derived.Test.YtfafpklefknomaaGreatDoorM05
import Derived.Test.YtfafpklefknomaaGreatDoorM00
open Nat(le_refl le_trans)
open List(append_eq_nil_iff length_map map_cons sum_cons)
namespace Go.Proofs.YtfafpklefknomaaGreatDoor
open Go.ChangeShapes Go.WideShapes Go.ChangeAt Go.RowKit Go.Lib
open _root_.Go.Proofs.Tryz
set_option linter.all false
set_option maxRecDepth 100000
set_option maxHeartbeats 32000000
def zw{P:Prop}(h:P:=by exact ⟨_,_,cA.o.keep (λb hP=>M2.block b hP.2.1) λb hP=>hP.up M2.size,aA.keep (λ_ _=>rfl) (JeW uA.o kA.o),by rw[vA];rfl⟩):P:=h
def QcV:(prog.info? 39).map (λi=>(i.zero,i.size,i.bytes))=some (some (.agg #[Iv 0,Iv 0,Em,Nl,Iv 0,Em]),6,80):=zk
def QeP:(prog.info? 25).map (·.size)=some 3:=zk
variable{w W W' w6 w7 w1:World}
def QgJ{T t:Nat}{a0 a1 a2:Value}(v0 v1 v2:Value)(h:w.heap[T]?=some (.cells #[a0,a1,a2] t (0,0))):
  (((w.setCell ⟨T,0,none⟩ v0).setCell ⟨T,1,none⟩ v1).setCell ⟨T,2,none⟩ v2).heap[T]?=some (.cells #[v0,v1,v2] t (0,0)):=
 heap_setCell_same _ _ 2 _ _ v2 (heap_setCell_same _ _ 1 _ _ v1 (heap_setCell_same _ _ 0 _ _ v0 h))
def OkB(w:World)(sb lo:Nat)(W:World)(V:Value)(b:Nat):Prop:=sb<b/\b<W.heap.size/\V.ownBlock≠some b/\(b<w.heap.size\/lo<=b)
variable{sb f u nf M0:Nat}
def OkB.up{lo:Nat}{V:Value}{b:Nat}(h:OkB w sb lo W V b)(hs:W.heap.size<=W'.heap.size):OkB w sb lo W' V b:=⟨h.1,Nat.lt_of_lt_of_le h.2.1 hs,h.2.2⟩
variable{V' f0 f1 f2:Value}{X:Obj}
def Jhx{lo rs bx:Nat}{V:Value}{j:Nat}(hl:w.heap.size<=rs/\rs<bx/\bx<lo)(hV:∀g,V.ownBlock=some g->lo<=g/\g<w6.heap.size)
  (hgr:(w6.alloc X).grownBy w7 V.ownBlock) (O0:V'.ownBlock=V.ownBlock\/V'.ownBlock=some (w6.alloc X).heap.size):
  (∀b,b<w6.heap.size->V.ownBlock≠some b->b≠bx->(w7.setCell ⟨bx,j,none⟩ V').heap[b]?=w6.heap[b]?)/\(∀b,OkB w sb lo w6 V b->OkB w sb lo (w7.setCell ⟨bx,j,none⟩ V') V' b/\b≠bx)/\Chg [bx] w7 (w7.setCell ⟨bx,j,none⟩ V')/\w6.heap.size<=(w7.setCell ⟨bx,j,none⟩ V').heap.size/\
   (∀o,w6.heap[bx]?=some o->w7.heap[bx]?=some o):=by
 have I4:=JP hgr;have hst:Chg [bx] w7 (w7.setCell ⟨bx,j,none⟩ V'):=(Chg.refl _ _).setCell (.inl (by simp:bx∈[bx])) (p:=⟨bx,j,none⟩) V';have hsz:w6.heap.size<=(w7.setCell ⟨bx,j,none⟩ V').heap.size:=le_trans I4.size hst.size;refine⟨λq hq hn hne=>(hst.block q (Nat.lt_of_lt_of_le hq I4.size) (by simpa using hne)).trans (I4.block q hq (by simpa using hn)),λb hb=>?_,hst,hsz,λo ho=>I4.heap_some (λhm=>by have:=(hV bx (by simpa using hm)).1;omega) ho⟩;obtain⟨h1,h2,h3,h4⟩:=hb;refine⟨⟨h1,by omega,λe1=>?_,h4⟩,by omega⟩
 rcases O0 with e2|e2
 ·exact h3 (e2.symm.trans e1)
 ·rw[e2]at e1;simp at e1;omega
structure R1(w:World)(sb rs bx lo:Nat)(act:Int)(W:World)(fl:List FnM)(V:Value)(xs:List Value):Prop where
 own:W.ownsRow lo 41 7 V fl.length xs
 row:QbM (FnX W (OkB w sb lo W V)) fl xs
 box:W.heap[bx]?=some (.cells #[V,Nl,Iv act] 25 (0,0))
 res:W.heap[rs]?=some (.cells #[Nl,Nl,Iv 0] 25 (0,0))
 bel:yr w W
 low:w.heap.size<=rs/\rs<bx/\bx<lo/\lo<=W.heap.size
structure R2(w:World)(sb rs bx lo:Nat)(act:Int)(W:World)(fl:List FnM)(V:Value)(cl:List ClM)(U:Value)(ys:List Value):Prop where
 fsl:Qan W (OkB w sb lo W U) (FnX W (OkB w sb lo W U)) fl V
 own:W.ownsRow lo 39 6 U cl.length ys
 row:QbM (ClX W (OkB w sb lo W U)) cl ys
 box:W.heap[bx]?=some (.cells #[V,U,Iv act] 25 (0,0))
 res:W.heap[rs]?=some (.cells #[Nl,Nl,Iv 0] 25 (0,0))
 bel:yr w W
 low:w.heap.size<=rs/\rs<bx/\bx<lo/\lo<=W.heap.size
def Jd(h:yr w W)(hb:yr W W'):yr w W':=
 ⟨hb.os.trans h.os,hb.tape.trans h.tape,hb.output.trans h.output,le_trans h.size hb.size,λq hq=>(hb.block q (Nat.lt_of_lt_of_le hq h.size)).trans (h.block q hq)⟩
section
variable {w:World}{sb rs bx lo:Nat}{act:Int}{W W':World}{fl:List FnM}{V:Value}{xs:List Value}{cl:List ClM}{U:Value}{ys:List Value}
def R1.up(h:R1 w sb rs bx lo act W fl V xs)(hb:yr W W'):R1 w sb rs bx lo act W' fl V xs:=by
 obtain⟨l1,l2,l3,l4⟩:=h.low;exact⟨JA h.own (Chg.of_below hb []) zq,h.row.imp (FnX.keep (λb hP=>hb.block b hP.2.1) λb hP=>hP.up hb.size),(hb.block _ (Jb h.box)).trans h.box,(hb.block _ (Jb h.res)).trans h.res,Jd h.bel hb,l1,l2,l3,le_trans l4 hb.size⟩
def R2.up(h:R2 w sb rs bx lo act W fl V cl U ys)(hb:yr W W'):R2 w sb rs bx lo act W' fl V cl U ys:=by
 obtain⟨l1,l2,l3,l4⟩:=h.low;exact⟨h.fsl.keep (λb hP=>hb.block b hP.2.1) (λb hP=>hP.up hb.size) (FnX.keep (λb hP=>hb.block b hP.2.1) λb hP=>hP.up hb.size),JA h.own (Chg.of_below hb []) zq,h.row.imp (ClX.keep (λb hP=>hb.block b hP.2.1) λb hP=>hP.up hb.size),(hb.block _ (Jb h.box)).trans h.box,(hb.block _ (Jb h.res)).trans h.res,Jd h.bel hb,l1,l2,l3,le_trans l4 hb.size⟩
def JeV{j:Nat}(h:yr w w6)(hl:w.heap.size<=rs/\rs<bx/\bx<lo)(hV:∀g,V.ownBlock=some g->lo<=g/\g<w6.heap.size)
  (hgr:(w6.alloc X).grownBy w7 V.ownBlock):yr w (w7.setCell ⟨bx,j,none⟩ V'):=by
 have I4:=JP hgr;have hst:Chg [bx] w7 (w7.setCell ⟨bx,j,none⟩ V'):=(Chg.refl _ _).setCell (.inl (by simp:bx∈[bx])) (p:=⟨bx,j,none⟩) V';have h1:=h.size;have h2:=I4.size;exact⟨hst.os.trans (I4.os.trans h.os),hst.tape.trans (I4.tape.trans h.tape),hst.output.trans (I4.output.trans h.output),by have:=hst.size;omega,λq hq=>(hst.block q zo zr).trans ((I4.block q zo λhm=>by have:=(hV q (by simpa using hm)).1;omega).trans (h.block q hq))⟩
def QhA{P:Prop}(h:P:=by
  obtain⟨l1,l2,l3,l4⟩:=h.low;have h1:=hP.1;have h2:=hP.2
  exact⟨by omega,h2,λe1=>by have:=(h.own.lt b e1).2;omega,.inr (by omega)⟩):P:=h
def JeW(h:R1 w sb rs bx lo act w1 fl V xs)(lG:sb<w.heap.size):∀b,Qfj w1 w6 b->OkB w sb lo w6 V b:=λb hP=>by
 exact QhA
def JcD(h:R2 w sb rs bx lo act w1 fl V cl U ys)(lG:sb<w.heap.size):∀b,Qfj w1 w6 b->OkB w sb lo w6 U b:=λb hP=>by
 exact QhA
def R1.step{f:FnM}{c:List Value}(h:R1 w sb rs bx lo act w1 fl V xs)(hb:yr w1 w6)(hx:FnX w6 (OkB w sb lo w6 V) f c)
  (hown:w7.ownsRow lo 41 7 V' (fl.length+1) (xs++c)) (hgr:(w6.alloc X).grownBy w7 V.ownBlock) (O0:V'.ownBlock=V.ownBlock\/V'.ownBlock=some (w6.alloc X).heap.size):
  R1 w sb rs bx lo act (w7.setCell ⟨bx,0,none⟩ V') (fl++[f]) V' (xs++c)/\w7.heap[bx]?=some (.cells #[V,Nl,Iv act] 25 (0,0)):=by
 have h6:=h.up hb;obtain⟨l1,l2,l3,l4⟩:=h6.low;have hV:∀g,V.ownBlock=some g->lo<=g/\g<w6.heap.size:=λg hg=>h6.own.lt g hg
 obtain⟨g1,g2,hst,hsz,g5⟩:=Jhx (w:=w) (sb:=sb) (j:=0) ⟨l1,l2,l3⟩ hV hgr O0;have hk:∀b,OkB w sb lo w6 V b->(w7.setCell ⟨bx,0,none⟩ V').heap[b]?=w6.heap[b]?:=λb hb=>g1 b hb.2.1 hb.2.2.1 (g2 b hb).2
 have hq:∀b,OkB w sb lo w6 V b->OkB w sb lo (w7.setCell ⟨bx,0,none⟩ V') V' b:=λb hb=>(g2 b hb).1
 have X4:=g5 _ h6.box;refine⟨⟨?_,QbM.snoc (FnX.keep hk hq f c hx) (h6.row.imp (FnX.keep hk hq)),Jm X4 0 V',?_,JeV h6.bel ⟨l1,l2,l3⟩ hV hgr,l1,l2,l3,le_trans l4 hsz⟩,X4⟩
 ·rw[List.length_append];exact JA hown hst zr
 ·exact(g1 rs (Jb h6.res) (λe1=>by have:=(hV _ e1).1;omega) zo).trans h6.res
def R2.step{f:ClM}{c:List Value}{U':Value}(h:R2 w sb rs bx lo act w1 fl V cl U ys)(hb:yr w1 w6)(hx:ClX w6 (OkB w sb lo w6 U) f c)
  (hown:w7.ownsRow lo 39 6 U' (cl.length+1) (ys++c)) (hgr:(w6.alloc X).grownBy w7 U.ownBlock) (O0:U'.ownBlock=U.ownBlock\/U'.ownBlock=some (w6.alloc X).heap.size):
  R2 w sb rs bx lo act (w7.setCell ⟨bx,1,none⟩ U') fl V (cl++[f]) U' (ys++c)/\w7.heap[bx]?=some (.cells #[V,U,Iv act] 25 (0,0)):=by
 have h6:=h.up hb;obtain⟨l1,l2,l3,l4⟩:=h6.low;have hV:∀g,U.ownBlock=some g->lo<=g/\g<w6.heap.size:=λg hg=>h6.own.lt g hg
 obtain⟨g1,g2,hst,hsz,g5⟩:=Jhx (w:=w) (sb:=sb) (j:=1) ⟨l1,l2,l3⟩ hV hgr O0;have hk:∀b,OkB w sb lo w6 U b->(w7.setCell ⟨bx,1,none⟩ U').heap[b]?=w6.heap[b]?:=λb hb=>g1 b hb.2.1 hb.2.2.1 (g2 b hb).2
 have hq:∀b,OkB w sb lo w6 U b->OkB w sb lo (w7.setCell ⟨bx,1,none⟩ U') U' b:=λb hb=>(g2 b hb).1
 have X4:=g5 _ h6.box;refine⟨⟨h6.fsl.keep hk hq (FnX.keep hk hq),?_,QbM.snoc (ClX.keep hk hq f c hx) (h6.row.imp (ClX.keep hk hq)),Jm X4 1 U',?_,JeV h6.bel ⟨l1,l2,l3⟩ hV hgr,l1,l2,l3,le_trans l4 hsz⟩,X4⟩
 ·rw[List.length_append];exact JA hown hst zr
 ·exact(g1 rs (Jb h6.res) (λe1=>by have:=(hV _ e1).1;omega) zo).trans h6.res
def R1.next(h:R1 w sb rs bx lo act W fl V xs)(lG:sb<w.heap.size):R2 w sb rs bx lo act W fl V [] Nl []:=by
 obtain⟨l1,l2,l3,l4⟩:=h.low;have hq:∀b,OkB w sb lo W V b->OkB w sb lo W Nl b:=λb hb=>⟨hb.1,hb.2.1,by simp[Value.ownBlock],hb.2.2.2⟩
 exact⟨Qan.own h.own (h.row.imp (FnX.keep (λ_ _=>rfl) hq)) λg hg=>by have:=h.own.lt g hg;exact⟨by omega,this.2,by simp[Value.ownBlock],.inr this.1⟩,⟨rfl,.inl ⟨rfl,rfl⟩⟩,rfl,h.box,h.res,h.bel,l1,l2,l3,l4⟩
def R2.fin(h:R2 w sb rs bx lo act W fl V cl U ys)(lG:sb<w.heap.size):let W':=((W.setCell ⟨rs,0,none⟩ V).setCell ⟨rs,1,none⟩ U).setCell ⟨rs,2,none⟩ (Iv act)
  QaV W' (λb=>sb<b/\b<W'.heap.size) ⟨fl,cl,act⟩ #[V,U,Iv act]/\yr w W':=by
 intro W';obtain⟨l1,l2,l3,l4⟩:=h.low;have hst:Chg [rs] W W':=(((Chg.refl _ _).setCell (.inl zq) _).setCell (.inl zq) _).setCell (.inl zq) _;have hsz:=hst.size;have hk:∀b,OkB w sb lo W U b->W'.heap[b]?=W.heap[b]?:=λb hb=>hst.block b hb.2.1 (by obtain⟨_,_,_,h4⟩:=hb;simp;omega)
 have hq:∀b,OkB w sb lo W U b->sb<b/\b<W'.heap.size:=λb hb=>⟨hb.1,by have:=hb.2.1;omega⟩
 refine⟨⟨_,_,rfl,h.fsl.keep hk hq (FnX.keep hk hq),Qan.own (JA h.own hst zr) (h.row.imp (ClX.keep hk hq)) λg hg=>?_⟩,((h.bel.setCell l1 _).setCell l1 _).setCell l1 _⟩;have:=h.own.lt g hg;exact⟨by omega,by omega⟩
end
def Jma{sb:Nat}{f:FnA}(P:Nat->Prop)(h:f.Ok W)(hP:∀g,f.lo<=g->g<f.hi->P g):QbR W P f.types f.tv:=by
 obtain⟨m,m1,m2,m3,m4,m5⟩:=h.bmd;have ht:=h.town
 rcases ht.2 with⟨e,e0⟩|⟨g,cap,cur,e,e2,e3,e4,_⟩
 ·exact⟨none,0,by rw[e,e0],by omega,.inl (List.eq_nil_of_length_eq_zero e0)⟩
 ·have hg:=m4 g (by rw[e];rfl);refine⟨_,cap,e,e4,.inr ⟨g,0,rfl,hP g e2 zo,λi n hi=>?_⟩⟩;have hc:=J0 ht (j:=i) (u:=Iv n) (by unfold Qad;rw[List.getElem?_map,hi];rfl);rw[e]at hc;rw[Nat.zero_add];exact hc
def fnM(f:FnA):FnM:=⟨f.name,f.types,f.result,Qab f.body.nd⟩
def clM(c:ClA):ClM:=⟨Qab c.cond.nd,c.action,c.reason⟩
def JjY(S:Qap):QaE S.src=⟨S.funcs.map fnM,S.clauses.map clM,S.action⟩:=by
 unfold QaE Qap.src;simp only[List.map_map];rfl
def RlP(w:World)(sb:Nat)(r:Qah)(e:Ending)(w':World):Prop:=∃c,e=.returned (.agg c)/\QaV w' (λb=>sb<b/\b<w'.heap.size) r c/\yr w w'
def QiP{P:Prop}(h:P:=by
  try simp only[Act.put,ZA,ZB,ZC]
  refine ZS 13 rfl (λK hK=>?_);have R0:=N2.o;have b0:=Ja R0 1;have f0:=Jc R0 1;have T9:=Jb R0;simp only[ZD,ZE,ZF]at b0;go_simp;clear b0 R0 f0 T9 N2;replace A0:=Zh (((Chg.refl [bx] w7).setCell (.inl (by simp)) (p:=⟨bx,1,none⟩) (.slice a7 m7 c7)).heap_some (by have:=Y6.o.1;simp;omega) A0.o);refine hK.out _ _ A0.o (λhH=>?_);clear hK K
  try simp only[Act.put,ZA,ZB,ZC]
  refine wpAnyH_done (by kernel_rfl) ?_ _;go_wp2;go_roundg (S.clauses.length-(i+1))
  case measure=>have:=HG.o;omega
  case rel=>exact⟨i+1,by omega,by go_num,⟨_,_,by rw[i7.o,NC.o];exact D2.o⟩⟩):P:=h
def QiO{P:Prop}(h:P:=by
  try simp only[Act.put,ZA,ZB,ZC]
  refine ZS 16 rfl (λK hK=>?_);have R0:=N2.o;have b0:=Ja R0 0;have f0:=Jc R0 0;have T9:=Jb R0;simp only[ZD,ZE,ZF]at b0;go_simp;clear b0 R0 f0 T9 N2;replace A0:=Zh (((Chg.refl [bx] w7).setCell (.inl (by simp)) (p:=⟨bx,0,none⟩) (.slice a7 m7 c7)).heap_some (by have:=Y6.o.1;simp;omega) A0.o);refine hK.out _ _ A0.o (λhH=>?_);clear hK K
  try simp only[Act.put,ZA,ZB,ZC]
  refine wpAnyH_done (by kernel_rfl) ?_ _;go_wp2;go_roundg (S.funcs.length-(i+1))
  case measure=>have:=HG.o;omega
  case rel=>exact⟨i+1,by omega,by go_num,⟨_,_,by rw[i7.o,NC.o];exact D2.o⟩⟩):P:=h
def zAn{P:Prop}(h:P:=by
  try simp only[zX]
  refine ZS 14 rfl λK hK=>?_
  (refine Jq (w6.alloc (.cells (zZ nm ta tn tc res (Qab b.nd).kind (Qab b.nd).num (Qab b.nd).name ka (Qab b.nd).kids.length km) 41)) zt (.tmp 23) (.tmp 35) 22 41 _ 7 104 zt underlying22 Qde rfl zp lo (.slice va vn vc) ((S.funcs.take i).map fnM).length xs [Sv nm,.slice ta tn tc,Iv res,Iv (Qab b.nd).kind,Iv (Qab b.nd).num,Sv (Qab b.nd).name,.slice ka (Qab b.nd).kids.length km] zt HOW.o w6.heap.size zt R3.o rfl (by intro u hu;simp at hu;rcases hu with rfl|rfl|rfl|rfl|rfl|rfl|rfl<;>rfl) jA.o zp Q2 ?_;intro v7 w7 N1 P3 O3)
  obtain⟨a7,m7,c7,rfl⟩:=Jk N1;have hst:=R1.step (V':=.slice a7 m7 c7) uA.o U7.o hA.o N1 P3 O3;replace A0:=Zh ((JP (v:=.slice va vn vc) P3).heap_some (λhm=>by have:=Y6.o.2 cb (by simpa using hm);omega) bA.o);replace N2:=Zh hst.2;have D2:=Zh hst.1;clear N1 P3 O3 hst HOW R3 Q2;refine zU hK A0.o λhH=>?_;clear hK K
  try simp only[zX]
  refine zK 15 ?_
  exact QiO):P:=h
def zAo{P:Prop}(h:P:=by
  try simp only[zX]
  refine ZS 11 rfl λK hK=>?_
  (refine Jq (w6.alloc (.cells (yg (Qab b.nd).kind (Qab b.nd).num (Qab b.nd).name ka (Qab b.nd).kids.length km ac rz) 39)) zt (.tmp 49) (.tmp 58) 23 39 _ 6 80 zt underlying23 QcV rfl zp lo (.slice ua un uc) ((S.clauses.take i).map clM).length ys [Iv (Qab b.nd).kind,Iv (Qab b.nd).num,Sv (Qab b.nd).name,.slice ka (Qab b.nd).kids.length km,Iv ac,Sv rz] zt HOW.o w6.heap.size zt R3.o rfl (by intro u hu;simp at hu;rcases hu with rfl|rfl|rfl|rfl|rfl|rfl<;>rfl) jA.o zp Q2 ?_;intro v7 w7 N1 P3 O3)
  obtain⟨a7,m7,c7,rfl⟩:=Jk N1;have hst:=R2.step (U':=.slice a7 m7 c7) uA.o U7.o hA.o N1 P3 O3;replace A0:=Zh ((JP (v:=.slice ua un uc) P3).heap_some (λhm=>by have:=Y6.o.2 cb (by simpa using hm);omega) bA.o);replace N2:=Zh hst.2;have D2:=Zh hst.1;clear N1 P3 O3 hst HOW R3 Q2;refine zU hK A0.o λhH=>?_;clear hK K
  try simp only[zX]
  refine zK 12 ?_
  exact QiP):P:=h
def zAp{P:Prop}(h:P:=by
  try simp only[zX]
  refine ZS 13 rfl λK hK=>?_;go_simp;replace A0:=Zh (Jf (X:=.cells (zZ nm ta tn tc res (Qab b.nd).kind (Qab b.nd).num (Qab b.nd).name ka (Qab b.nd).kids.length km) 41) A0.o);refine zU hK A0.o λhH=>?_;replace N2:Hi ((w6.alloc (.cells (zZ nm ta tn tc res (Qab b.nd).kind (Qab b.nd).num (Qab b.nd).name ka (Qab b.nd).kids.length km) 41)).heap[bx]?=some (.cells #[.slice va vn vc,Nl,Iv S.action] 25 (0,0))):=Jf N2.o;clear hK K
  exact zAn):P:=h
def zAq{P:Prop}(h:P:=by
  try simp only[zX]
  refine ZS 10 rfl λK hK=>?_;go_simp;replace A0:=Zh (Jf (X:=.cells (yg (Qab b.nd).kind (Qab b.nd).num (Qab b.nd).name ka (Qab b.nd).kids.length km ac rz) 39) A0.o);refine zU hK A0.o λhH=>?_;replace N2:Hi ((w6.alloc (.cells (yg (Qab b.nd).kind (Qab b.nd).num (Qab b.nd).name ka (Qab b.nd).kids.length km ac rz) 39)).heap[bx]?=some (.cells (zY va vn vc ua un uc S.action) 25 (0,0))):=Jf N2.o;clear hK K
  exact zAo):P:=h
def Jhy(w:World)(sb:Nat)(S:Qap)(h:QaH w sb S)(h1:S.funcs.length<=100000000)(h2:S.clauses.length<=100000000)
  (h3:∀f∈S.funcs,siz f.body.nd<=100000000) (h4:∀c∈S.clauses,siz c.cond.nd<=100000000):
  Calls prog 38 #[Pt sb] w (RlP w sb (QaE S.src)):=by
 obtain⟨R,hR⟩:=yt (RlP w sb (QaE S.src))
 rw[hR];have HR:Hi (R=RlP w sb (QaE S.src)):=hR.symm;obtain⟨fa,fc,rA,tA⟩:=Vr h.fown;obtain⟨ca,cc,uB,xB⟩:=Vr h.cown;have gB:=Zh rA;have E6:=Zh uB;have aB:=Zh tA;have eB:=Zh xB;have H3:=Zh h3;have H4:=Zh h4;have HS:=Zh h;have kA:Hi (sb<w.heap.size):=Jb h.box;have pA:yr w ((w.alloc (.cells #[Nl,Nl,Iv 0] 25)).alloc (.cells #[Nl,Nl,Iv S.action] 25)):=(zO.alloc zP _).alloc zq _
 have dB:Hi (R1 w sb w.heap.size (w.heap.size+1) (w.heap.size+1+1) S.action ((w.alloc (.cells #[Nl,Nl,Iv 0] 25)).alloc (.cells #[Nl,Nl,Iv S.action] 25)) [] Nl []):=by
  have e2:=zQ (w.alloc (.cells #[Nl,Nl,Iv 0] 25)) (.cells #[Nl,Nl,Iv S.action] 25);simp only[World.size_alloc]at e2;exact⟨⟨rfl,.inl ⟨rfl,rfl⟩⟩,rfl,e2,Jf (zQ _ _),pA,by omega,by omega,by omega,by simp⟩
 have zB:=h.on (Chg.of_below ((Below.refl w.heap.size w).alloc zP (.cells #[Nl,Nl,Iv 0] 25)) []) zq;have vB:=h.on (Chg.of_below pA []) zq;have a2:(w.alloc (.cells #[Nl,Nl,Iv 0] 25)).cell? ⟨sb,2,none⟩=some (Iv S.action):=by rw[Ja zB.box];rfl
 have b0:((w.alloc (.cells #[Nl,Nl,Iv 0] 25)).alloc (.cells #[Nl,Nl,Iv S.action] 25)).cell? ⟨sb,0,none⟩=some (.slice fa S.funcs.length fc):=by rw[Ja vB.box];rw[rA];rfl
 clear hR rA uB tA xB h h3 h4 pA zB vB;go_enter func38,ntmps38;go_wp2_with fail;clear a2 b0;generalize World.alloc (World.alloc w _) _=w1 at*;generalize w.heap.size+1+1=lo at*;generalize w.heap.size+1=bx at*;go_loopg [18] S.funcs.length λg v18 wr=>∃i:Nat,g+i=S.funcs.length/\v18=Iv i/\Hi (∃V xs,R1 w sb w.heap.size bx lo S.action wr ((S.funcs.take i).map fnM) V xs)
 case atStart=>exact⟨0,rfl,rfl,⟨_,_,dB.o⟩⟩
 case round=>
 clear dB;obtain⟨wl,rfl⟩:=zJ wr;obtain⟨i,hg,rfl,xA⟩:=hrel;obtain⟨V,xs,xA⟩:=xA.o;obtain⟨va,vn,vc,rfl⟩:=Jk xA.own
 by_cases hi:i<S.funcs.length
 ·have hil:(i:Int)<(S.funcs.length:Int):=zo;obtain⟨fn,gA⟩:∃fn,S.funcs[i]?=some fn:=⟨S.funcs[i],List.getElem?_eq_getElem hi⟩
  have nA:=aB.o zo;have hmem:=List.mem_of_getElem? gA;have eA:=HS.o.on (Chg.of_below xA.bel []) zq;obtain⟨fo,hlo,_⟩:=eA.fok fn hmem;have hcl:=Yv eA gA;have i7:Hi ((S.funcs.take (i+1)).map fnM=(S.funcs.take i).map fnM++[fnM fn]):=by rw[Hi,J1 gA];simp
  have jA:Hi (((S.funcs.take i).map fnM).length<=100000000):=by rw[Hi,List.length_map,List.length_take];omega
  have TE:Hi (fn.Ok wl/\sb<fn.lo/\fn.hi<=w.heap.size):=⟨fo,hlo,(HS.o.fok fn hmem).1.hle⟩
  have Q6:=Zh (H3.o fn hmem);have hB:Hi (∃fn',fn'=fn):=⟨_,rfl⟩
  have I0:yr wl (wl.alloc (.cells fn.cells.toArray 147)):=zO.alloc zP _;have A0:=Zh (zQ wl (.cells fn.cells.toArray 147));have uA:=Zh (xA.up I0);have zA:Hi (fn.body.At (wl.alloc (.cells fn.cells.toArray 147))):=Jct fo.bat I0
  have cA:Hi (QbR (wl.alloc (.cells fn.cells.toArray 147)) (OkB w sb lo wl (.slice va vn vc)) fn.types fn.tv):=by
   refine(Jma (sb:=sb) _ fo λg g1 g2=>?_).keep (λb hP=>I0.block b hP.2.1) λb hP=>hP;have:=(HS.o.fok fn hmem).1.hle;have:=xA.low;exact⟨by omega,by omega,λe1=>by have:=(xA.own.lt g e1).1;omega,.inl zo⟩
  have NC:Hi (fnM fn=⟨fn.name,fn.types,fn.result,Qab fn.body.nd⟩):=rfl;obtain⟨nm,of,ps,ts,res,b,pv,tv,mB,kB⟩:=fn;obtain⟨pa,pn,pc,cB⟩:=Jk fo.pown;obtain⟨ta,tn,tc,bB⟩:=Jk fo.town;dsimp only at cB bB zA cA NC Q6;subst cB bB;obtain⟨yA,yn,yc,Q4⟩:=Jg b;simp only[FnA.cells,Q4,List.cons_append,List.nil_append]at hcl A0 uA zA cA;have mA:=Zh Q4;have c0:=hcl 0 _ rfl;have c1:=hcl 1 _ rfl;have c2:=hcl 2 _ rfl;have c3:=hcl 3 _ rfl;have c4:=hcl 4 _ rfl;have c5:=hcl 5 _ rfl;have c6:=hcl 6 _ rfl;have c7:=hcl 7 _ rfl;have c8:=hcl 8 _ rfl;have c9:=hcl 9 _ rfl;simp only[Nat.add_zero]at c0;have wk:=zI i;have HG:=Zh hg;have Y6:Hi (bx<wl.heap.size/\∀g,(Value.slice va vn vc).ownBlock=some g->g<wl.heap.size):=⟨by have:=xA.low;omega,λg hg=>(xA.own.lt g hg).2⟩
  subst nA;clear hcl gA fo hg Q4 eA xA I0 hmem hlo TE hB;go_upto_region 5 with fail;clear c0 c1 c2 c3 c4 c5 c6 c7 c8 c9;have m8:Hi (wl.heap.size<=(World.alloc wl (.cells #[Sv nm,Iv of,.slice pa pn pc,.slice ta tn tc,Iv res,Iv b.kind,Iv b.num,Sv b.name,Iv b.off,.slice yA yn yc] 147)).heap.size):=by rw[Hi,World.size_alloc];omega
  replace cA:Hi (QbR (World.alloc wl (.cells #[Sv nm,Iv of,.slice pa pn pc,.slice ta tn tc,Iv res,Iv b.kind,Iv b.num,Sv b.name,Iv b.off,.slice yA yn yc] 147)) (OkB w sb lo (World.alloc wl (.cells #[Sv nm,Iv of,.slice pa pn pc,.slice ta tn tc,Iv res,Iv b.kind,Iv b.num,Sv b.name,Iv b.off,.slice yA yn yc] 147)) (.slice va vn vc)) ts (.slice ta tn tc)):=cA.o.keep (λ_ _=>rfl) λb hP=>hP.up m8.o;generalize World.alloc wl _=wk0 at*;generalize wl.heap.size=cb at*;refine wp_region_held_drew (S:=λW=>W.heap[cb]?=some (.cells #[Sv nm,Iv of,.slice pa pn pc,.slice ta tn tc,Iv res,Iv b.kind,Iv b.num,Sv b.name,Iv b.off,.slice yA yn yc] 147 (0,0))) zk ((((Below.refl wk0.heap.size wk0).drew).block _ (Jb A0.o)).trans A0.o) λhH=>?_;have hD:yr wk0 wk0.drew:=(Below.refl wk0.heap.size wk0).drew;replace uA:=Zh (uA.o.up hD);replace zA:Hi (b.At wk0.drew):=Jct zA.o hD;replace cA:Hi (QbR wk0.drew (OkB w sb lo wk0.drew (.slice va vn vc)) ts (.slice ta tn tc)):=cA.o.keep (λb hP=>hD.block b hP.2.1) λb hP=>hP.up hD.size;replace A0:=Zh ((hD.block _ (Jb A0.o)).trans A0.o);have H5:=Zh uA.o.box;clear hD;generalize wk0.drew=wk1 at*;refine zK 0 ?_
  refine zK 2 ?_;refine zK 3 ?_;try simp only[zX]
  refine ZT (i:=4) (v:=?vT1_4) rfl (Or.inl ⟨by rfl,?yT1_4⟩) ?_
  case yT1_4=>(intro wX hSw;(try dsimp only at hSw);have p0:=Ja hSw 0;simp only[zW]at p0;go_simp<;>with_reducible rfl)
  try simp only[zX]
  refine zK 5 ?_;try simp only[zX]
  refine ZT (i:=6) (v:=?vT1_6) rfl (Or.inl ⟨by rfl,?yT1_6⟩) ?_
  case yT1_6=>(intro wX hSw;(try dsimp only at hSw);have p3:=Ja hSw 3;simp only[zW]at p3;go_simp<;>with_reducible rfl)
  try simp only[zX]
  refine zK 7 ?_;try simp only[zX]
  refine ZT (i:=8) (v:=?vT1_8) rfl (Or.inl ⟨by rfl,?yT1_8⟩) ?_
  case yT1_8=>(intro wX hSw;(try dsimp only at hSw);have p4:=Ja hSw 4;simp only[zW]at p4;go_simp<;>with_reducible rfl)
  try simp only[zX]
  refine zK 9 ?_;try simp only[zX]
  refine ZT (i:=10) (v:=?vT1_10) rfl (Or.inl ⟨by rfl,?yT1_10⟩) ?_
  case yT1_10=>(intro wX hSw;(try dsimp only at hSw);have p5:=Ja hSw 5;have p6:=Ja hSw 6;have p7:=Ja hSw 7;have p8:=Ja hSw 8;have p9:=Ja hSw 9;simp only[zW]at p5 p6 p7 p8 p9;go_simp<;>with_reducible rfl)
  try simp only[zX]
  refine ZR (rs:=[1,11]) (AllReadyH.cons rfl (λK hK=>?_) (AllReadyH.cons rfl (λK hK=>?_) AllReadyH.nil))
  ·have R0:=H5.o;have b0:=Ja R0 0;simp only[zW]at b0;go_simp;clear b0 R0;refine zU hK A0.o λhH=>?_;clear hK K
   try simp only[zX]
   refine ZS 11 rfl λK hK=>?_;have ci:=Yw (siz b.nd) Q6.o b _ zP zA.o;rw[mA.o]at ci
   (go_simp;go_at_call 99;refine ci.mono ?_;intro e w6 h6)
   clear ci;obtain⟨cy,rfl,aA,M2⟩:=h6;obtain⟨ka,km,vA,iA⟩:=aA.form;have qA:=Zh aA;have U7:=Zh M2;have sA:=Zh vA;replace A0:=Zh ((M2.block _ (Jb A0.o)).trans A0.o);have bA:=A0;have dA:=Zh (uA.o.up M2);have hA:Hi (FnX w6 (OkB w sb lo w6 (.slice va vn vc)) ⟨nm,ts,res,Qab b.nd⟩ [Sv nm,.slice ta tn tc,Iv res,Iv (Qab b.nd).kind,Iv (Qab b.nd).num,Sv (Qab b.nd).name,.slice ka (Qab b.nd).kids.length km]):=zw
   have HOW:Hi ((w6.alloc (.cells (zZ nm ta tn tc res (Qab b.nd).kind (Qab b.nd).num (Qab b.nd).name ka (Qab b.nd).kids.length km) 41)).ownsRow lo 41 7 (.slice va vn vc) ((S.funcs.take i).map fnM).length xs):=dA.o.own.alloc _;have R3:Hi ((w6.alloc (.cells (zZ nm ta tn tc res (Qab b.nd).kind (Qab b.nd).num (Qab b.nd).name ka (Qab b.nd).kids.length km) 41)).heap[w6.heap.size]?=some (.cells ([Sv nm,.slice ta tn tc,Iv res,Iv (Qab b.nd).kind,Iv (Qab b.nd).num,Sv (Qab b.nd).name,.slice ka (Qab b.nd).kids.length km]).toArray 41 (0,0))):=zQ _ _;have Q2:lo<=(w6.alloc (.cells (zZ nm ta tn tc res (Qab b.nd).kind (Qab b.nd).num (Qab b.nd).name ka (Qab b.nd).kids.length km) 41)).heap.size:=by have:=dA.o.low;rw[World.size_alloc];omega
   have N2:=Zh dA.o.box;rw[vA];clear aA M2 vA iA H5;refine zU hK A0.o λhH=>?_;clear hK K
   try simp only[zX]
   refine zK 12 ?_;exact zAp
  ·have ci:=Yw (siz b.nd) Q6.o b _ zP zA.o;rw[mA.o]at ci
   (go_simp;go_at_call 99;refine ci.mono ?_;intro e w6 h6)
   clear ci;obtain⟨cy,rfl,aA,M2⟩:=h6;obtain⟨ka,km,vA,iA⟩:=aA.form;have qA:=Zh aA;have U7:=Zh M2;have sA:=Zh vA;replace A0:=Zh ((M2.block _ (Jb A0.o)).trans A0.o);have bA:=A0;have dA:=Zh (uA.o.up M2);have hA:Hi (FnX w6 (OkB w sb lo w6 (.slice va vn vc)) ⟨nm,ts,res,Qab b.nd⟩ [Sv nm,.slice ta tn tc,Iv res,Iv (Qab b.nd).kind,Iv (Qab b.nd).num,Sv (Qab b.nd).name,.slice ka (Qab b.nd).kids.length km]):=zw
   have HOW:Hi ((w6.alloc (.cells (zZ nm ta tn tc res (Qab b.nd).kind (Qab b.nd).num (Qab b.nd).name ka (Qab b.nd).kids.length km) 41)).ownsRow lo 41 7 (.slice va vn vc) ((S.funcs.take i).map fnM).length xs):=dA.o.own.alloc _;have R3:Hi ((w6.alloc (.cells (zZ nm ta tn tc res (Qab b.nd).kind (Qab b.nd).num (Qab b.nd).name ka (Qab b.nd).kids.length km) 41)).heap[w6.heap.size]?=some (.cells ([Sv nm,.slice ta tn tc,Iv res,Iv (Qab b.nd).kind,Iv (Qab b.nd).num,Sv (Qab b.nd).name,.slice ka (Qab b.nd).kids.length km]).toArray 41 (0,0))):=zQ _ _;have Q2:lo<=(w6.alloc (.cells (zZ nm ta tn tc res (Qab b.nd).kind (Qab b.nd).num (Qab b.nd).name ka (Qab b.nd).kids.length km) 41)).heap.size:=by have:=dA.o.low;rw[World.size_alloc];omega
   have N2:=Zh dA.o.box;rw[vA];clear aA M2 vA iA H5;refine zU hK A0.o λhH=>?_;clear hK K
   try simp only[zX]
   refine zK 12 ?_;try simp only[zX]
   refine ZR (rs:=[1,13]) (AllReadyH.cons rfl (λK hK=>?_) (AllReadyH.cons rfl (λK hK=>?_) AllReadyH.nil))
   ·have R0:=N2.o;have b0:=Ja R0 0;simp only[zW]at b0;go_simp;clear b0 R0;refine zU hK A0.o λhH=>?_;clear hK K
    exact zAp
   ·go_simp;replace A0:=Zh (Jf (X:=.cells (zZ nm ta tn tc res (Qab b.nd).kind (Qab b.nd).num (Qab b.nd).name ka (Qab b.nd).kids.length km) 41) A0.o);refine zU hK A0.o λhH=>?_;replace N2:Hi ((w6.alloc (.cells (zZ nm ta tn tc res (Qab b.nd).kind (Qab b.nd).num (Qab b.nd).name ka (Qab b.nd).kids.length km) 41)).heap[bx]?=some (.cells #[.slice va vn vc,Nl,Iv S.action] 25 (0,0))):=Jf N2.o;clear hK K
    try simp only[zX]
    refine ZS 1 rfl λK hK=>?_;have R0:=N2.o;have b0:=Ja R0 0;simp only[zW]at b0;go_simp;clear b0 R0;refine zU hK A0.o λhH=>?_;clear hK K
    exact zAn
 ·have hil:¬(i:Int)<(S.funcs.length:Int):=zo;obtain rfl:i=S.funcs.length:=zo;rw[List.take_length]at xA;have eA:=HS.o.on (Chg.of_below xA.bel []) zq;have b1:wl.cell? ⟨sb,1,none⟩=some (.slice ca S.clauses.length cc):=by rw[Ja eA.box];rw[E6.o];rfl
  have yB:=Zh (xA.next kA.o);clear hi hg xA eA H3 aB gB;go_wp2_with fail;clear b1;go_loopg [44] S.clauses.length λg v44 wr=>∃i:Nat,g+i=S.clauses.length/\v44=Iv i/\Hi (∃U ys,R2 w sb w.heap.size bx lo S.action wr (S.funcs.map fnM) (.slice va vn vc) ((S.clauses.take i).map clM) U ys)
  case atStart=>exact⟨0,rfl,rfl,⟨_,_,yB.o⟩⟩
  case round=>
  clear yB hil;obtain⟨wm,rfl⟩:=zJ wr;obtain⟨i,hg,rfl,xA⟩:=hrel;obtain⟨U,ys,xA⟩:=xA.o;obtain⟨ua,un,uc,rfl⟩:=Jk xA.own
  by_cases hi:i<S.clauses.length
  ·have hil:(i:Int)<(S.clauses.length:Int):=zo;obtain⟨cn,gA⟩:∃cn,S.clauses[i]?=some cn:=⟨S.clauses[i],List.getElem?_eq_getElem hi⟩
   have nA:=eB.o zo;have hmem:=List.mem_of_getElem? gA;have eA:=HS.o.on (Chg.of_below xA.bel []) zq;obtain⟨fo,hlo⟩:=eA.cok cn hmem;have hcl:=JeU eA gA;have i7:Hi ((S.clauses.take (i+1)).map clM=(S.clauses.take i).map clM++[clM cn]):=by rw[Hi,J1 gA];simp
   have jA:Hi (((S.clauses.take i).map clM).length<=100000000):=by rw[Hi,List.length_map,List.length_take];omega
   have Q6:=Zh (H4.o cn hmem);have I0:yr wm (wm.alloc (.cells cn.cells.toArray 151)):=zO.alloc zP _;have A0:=Zh (zQ wm (.cells cn.cells.toArray 151));have uA:=Zh (xA.up I0);have zA:Hi (cn.cond.At (wm.alloc (.cells cn.cells.toArray 151))):=Jct fo.at' I0;have NC:Hi (clM cn=⟨Qab cn.cond.nd,cn.action,cn.reason⟩):=rfl;obtain⟨b,ac,rz,jB,iB⟩:=cn;dsimp only at zA NC Q6;obtain⟨yA,yn,yc,Q4⟩:=Jg b;simp only[ClA.cells,Q4,List.cons_append,List.nil_append]at hcl A0 uA zA;have mA:=Zh Q4;have c0:=hcl 0 _ rfl;have c1:=hcl 1 _ rfl;have c2:=hcl 2 _ rfl;have c3:=hcl 3 _ rfl;have c4:=hcl 4 _ rfl;have c5:=hcl 5 _ rfl;have c6:=hcl 6 _ rfl;simp only[Nat.add_zero]at c0;have wk:=zI i;have HG:=Zh hg;have Y6:Hi (bx<wm.heap.size/\∀g,(Value.slice ua un uc).ownBlock=some g->g<wm.heap.size):=⟨by have:=xA.low;omega,λg hg=>(xA.own.lt g hg).2⟩
   subst nA;clear hcl gA fo hg Q4 eA xA I0 hmem hlo;go_upto_region 10 with fail;clear c0 c1 c2 c3 c4 c5 c6;generalize World.alloc wm _=wk0 at*;generalize wm.heap.size=cb at*;refine wp_region_held_drew (S:=λW=>W.heap[cb]?=some (.cells #[Iv b.kind,Iv b.num,Sv b.name,Iv b.off,.slice yA yn yc,Iv ac,Sv rz] 151 (0,0))) zk ((((Below.refl wk0.heap.size wk0).drew).block _ (Jb A0.o)).trans A0.o) λhH=>?_;have hD:yr wk0 wk0.drew:=(Below.refl wk0.heap.size wk0).drew;replace uA:=Zh (uA.o.up hD);replace zA:Hi (b.At wk0.drew):=Jct zA.o hD;replace A0:=Zh ((hD.block _ (Jb A0.o)).trans A0.o);have H5:=Zh uA.o.box;clear hD;generalize wk0.drew=wk1 at*;refine zK 0 ?_
   refine zK 2 ?_;try simp only[zX]
   refine ZT (i:=3) (v:=?vT16_3) rfl (Or.inl ⟨by rfl,?yT16_3⟩) ?_
   case yT16_3=>(intro wX hSw;(try dsimp only at hSw);have p0:=Ja hSw 0;have p1:=Ja hSw 1;have p2:=Ja hSw 2;have p3:=Ja hSw 3;have p4:=Ja hSw 4;simp only[zW]at p0 p1 p2 p3 p4;go_simp<;>with_reducible rfl)
   try simp only[zX]
   refine zK 5 ?_;try simp only[zX]
   refine ZT (i:=6) (v:=?vT16_6) rfl (Or.inl ⟨by rfl,?yT16_6⟩) ?_
   case yT16_6=>(intro wX hSw;(try dsimp only at hSw);have p5:=Ja hSw 5;simp only[zW]at p5;go_simp<;>with_reducible rfl)
   try simp only[zX]
   refine zK 7 ?_;try simp only[zX]
   refine ZT (i:=8) (v:=?vT16_8) rfl (Or.inl ⟨by rfl,?yT16_8⟩) ?_
   case yT16_8=>(intro wX hSw;(try dsimp only at hSw);have p6:=Ja hSw 6;simp only[zW]at p6;go_simp<;>with_reducible rfl)
   try simp only[zX]
   refine ZR (rs:=[1,4]) (AllReadyH.cons rfl (λK hK=>?_) (AllReadyH.cons rfl (λK hK=>?_) AllReadyH.nil))
   ·have R0:=H5.o;have b0:=Ja R0 1;simp only[zW]at b0;go_simp;clear b0 R0;refine zU hK A0.o λhH=>?_;clear hK K
    try simp only[zX]
    refine ZS 4 rfl λK hK=>?_;have ci:=Yw (siz b.nd) Q6.o b _ zP zA.o;rw[mA.o]at ci
    (go_simp;go_at_call 99;refine ci.mono ?_;intro e w6 h6)
    clear ci;obtain⟨cy,rfl,aA,M2⟩:=h6;obtain⟨ka,km,vA,iA⟩:=aA.form;have qA:=Zh aA;have U7:=Zh M2;have sA:=Zh vA;replace A0:=Zh ((M2.block _ (Jb A0.o)).trans A0.o);have bA:=A0;have dA:=Zh (uA.o.up M2);have hA:Hi (ClX w6 (OkB w sb lo w6 (.slice ua un uc)) ⟨Qab b.nd,ac,rz⟩ [Iv (Qab b.nd).kind,Iv (Qab b.nd).num,Sv (Qab b.nd).name,.slice ka (Qab b.nd).kids.length km,Iv ac,Sv rz]):=⟨_,aA.keep (λ_ _=>rfl) (JcD uA.o kA.o),by rw[vA];rfl⟩
    have HOW:Hi ((w6.alloc (.cells (yg (Qab b.nd).kind (Qab b.nd).num (Qab b.nd).name ka (Qab b.nd).kids.length km ac rz) 39)).ownsRow lo 39 6 (.slice ua un uc) ((S.clauses.take i).map clM).length ys):=dA.o.own.alloc _;have R3:Hi ((w6.alloc (.cells (yg (Qab b.nd).kind (Qab b.nd).num (Qab b.nd).name ka (Qab b.nd).kids.length km ac rz) 39)).heap[w6.heap.size]?=some (.cells ([Iv (Qab b.nd).kind,Iv (Qab b.nd).num,Sv (Qab b.nd).name,.slice ka (Qab b.nd).kids.length km,Iv ac,Sv rz]).toArray 39 (0,0))):=zQ _ _;have Q2:lo<=(w6.alloc (.cells (yg (Qab b.nd).kind (Qab b.nd).num (Qab b.nd).name ka (Qab b.nd).kids.length km ac rz) 39)).heap.size:=by have:=dA.o.low;rw[World.size_alloc];omega
    have N2:=Zh dA.o.box;rw[vA];clear aA M2 vA iA H5;refine zU hK A0.o λhH=>?_;clear hK K
    try simp only[zX]
    refine zK 9 ?_;exact zAq
   ·have ci:=Yw (siz b.nd) Q6.o b _ zP zA.o;rw[mA.o]at ci
    (go_simp;go_at_call 99;refine ci.mono ?_;intro e w6 h6)
    clear ci;obtain⟨cy,rfl,aA,M2⟩:=h6;obtain⟨ka,km,vA,iA⟩:=aA.form;have qA:=Zh aA;have U7:=Zh M2;have sA:=Zh vA;replace A0:=Zh ((M2.block _ (Jb A0.o)).trans A0.o);have bA:=A0;have dA:=Zh (uA.o.up M2);have hA:Hi (ClX w6 (OkB w sb lo w6 (.slice ua un uc)) ⟨Qab b.nd,ac,rz⟩ [Iv (Qab b.nd).kind,Iv (Qab b.nd).num,Sv (Qab b.nd).name,.slice ka (Qab b.nd).kids.length km,Iv ac,Sv rz]):=⟨_,aA.keep (λ_ _=>rfl) (JcD uA.o kA.o),by rw[vA];rfl⟩
    have HOW:Hi ((w6.alloc (.cells (yg (Qab b.nd).kind (Qab b.nd).num (Qab b.nd).name ka (Qab b.nd).kids.length km ac rz) 39)).ownsRow lo 39 6 (.slice ua un uc) ((S.clauses.take i).map clM).length ys):=dA.o.own.alloc _;have R3:Hi ((w6.alloc (.cells (yg (Qab b.nd).kind (Qab b.nd).num (Qab b.nd).name ka (Qab b.nd).kids.length km ac rz) 39)).heap[w6.heap.size]?=some (.cells ([Iv (Qab b.nd).kind,Iv (Qab b.nd).num,Sv (Qab b.nd).name,.slice ka (Qab b.nd).kids.length km,Iv ac,Sv rz]).toArray 39 (0,0))):=zQ _ _;have Q2:lo<=(w6.alloc (.cells (yg (Qab b.nd).kind (Qab b.nd).num (Qab b.nd).name ka (Qab b.nd).kids.length km ac rz) 39)).heap.size:=by have:=dA.o.low;rw[World.size_alloc];omega
    have N2:=Zh dA.o.box;rw[vA];clear aA M2 vA iA H5;refine zU hK A0.o λhH=>?_;clear hK K
    try simp only[zX]
    refine zK 9 ?_;try simp only[zX]
    refine ZR (rs:=[1,10]) (AllReadyH.cons rfl (λK hK=>?_) (AllReadyH.cons rfl (λK hK=>?_) AllReadyH.nil))
    ·have R0:=N2.o;have b0:=Ja R0 1;simp only[zW]at b0;go_simp;clear b0 R0;refine zU hK A0.o λhH=>?_;clear hK K
     exact zAq
    ·go_simp;replace A0:=Zh (Jf (X:=.cells (yg (Qab b.nd).kind (Qab b.nd).num (Qab b.nd).name ka (Qab b.nd).kids.length km ac rz) 39) A0.o);refine zU hK A0.o λhH=>?_;replace N2:Hi ((w6.alloc (.cells (yg (Qab b.nd).kind (Qab b.nd).num (Qab b.nd).name ka (Qab b.nd).kids.length km ac rz) 39)).heap[bx]?=some (.cells (zY va vn vc ua un uc S.action) 25 (0,0))):=Jf N2.o;clear hK K
     try simp only[zX]
     refine ZS 1 rfl λK hK=>?_;have R0:=N2.o;have b0:=Ja R0 1;simp only[zW]at b0;go_simp;clear b0 R0;refine zU hK A0.o λhH=>?_;clear hK K
     exact zAo
  ·have hil:¬(i:Int)<(S.clauses.length:Int):=zo;obtain rfl:i=S.clauses.length:=zo;rw[List.take_length]at xA;have uA:=Zh xA;have R0:=xA.box;have M1:=xA.res;have b0:=Ja R0 0;have b1:=Ja R0 1;have b2:=Ja R0 2;have z0:=Ja M1 0;have z1:=Ja M1 1;have z2:=Ja M1 2;simp only[zW]at b0 b1 b2 z0 z1 z2;have y0:=Jc M1 0;have y1:=Jc M1 1;have y2:=Jc M1 2;clear hi hg xA R0 M1;go_wp2;refine bodyPost_ret (v:=.agg (zY va vn vc ua un uc S.action)) (results_cell_row rfl _ _ w.heap.size 25 _ (0,0) _ rfl (QgJ _ _ _ uA.o.res) underlying25 rfl QeP) rfl ?_;rw[HR.o,JjY];obtain⟨e1,e2⟩:=uA.o.fin kA.o;exact⟨_,rfl,e1,e2⟩
def Sh(r:List Tok):Prop:=∀t∈r,t.text.length<=1000000
variable{T r r':List Tok}
def Sh.tail(h:Sh r):Sh r.tail:=λt ht=>h t (List.mem_of_mem_tail ht)
def Sh.hd(h:Sh r):(hd r).text.length<=1000000:=by
 cases r with
 |nil=>show ([]:By).length<=_;simp
 |cons a l=>exact h a zq
variable{t k n o a:Int}{s:By}
def Kz(hs:Sh r)(h:acc k s r=some r'):Sh r':=by
 unfold acc at h;split at h
 ·injection h with h;subst h;exact hs.tail
 ·cases h
def zAr{P:Prop}(h:P:=by
  rename_i r1 h1;injection h with h0 h;subst h;exact Kz hs h1):P:=h
def J2{u:Unit}(hs:Sh r)(h:Qar k s r=.ok u r'):Sh r':=by
 unfold Qar at h;split at h
 ·exact zAr
 ·cases h
def Yx{nm:By×Int}(hs:Sh r)(h:Qbb r=.ok nm r'):Sh r'/\nm.1.length<=1000000:=by
 unfold Qbb at h;split at h
 ·injection h with h0 h;subst h h0;exact⟨hs.tail,hs.hd⟩
 ·cases h
def JeX(hs:Sh r)(h:Qct r=.ok s r'):Sh r'/\s.length<=1000000:=by
 unfold Qct at h;split at h
 ·injection h with h0 h;subst h h0;exact⟨hs.tail,hs.hd⟩
 ·cases h
def JfY(hs:Sh r)(h:QaL r=.ok s r'):Sh r'/\s.length<=1000000:=by
 unfold QaL at h;obtain⟨_,r1,h1,h⟩:=Je h;obtain⟨_,r2,h2,h⟩:=Je h;obtain⟨_,r3,h3,h⟩:=Je h;injection h with h0 h;subst h h0;have s1:=J2 hs h1;obtain⟨s2,g2⟩:=JeX s1 h2;exact⟨J2 s2 h3,g2⟩
def Jhz(hs:Sh r)(h:Qdu r=.ok t r'):Sh r':=by
 unfold Qdu at h;split at h
 ·exact zAr
 ·split at h
  ·exact zAr
  ·cases h
def Jmb(hs:Sh r)(h:Qdg r=.ok t r'):Sh r':=by
 unfold Qdg at h
 repeat' split at h
 all_goals first
  |(rename_i r1 h1;injection h with h0 h;subst h;exact Kz hs h1)
  |cases h
variable{l:List Nd}
def Vs:WfN (.mk k n s o l)↔(k=19->l.length=2)/\(k=15->l.length=2)/\(k=18->l.length=3)/\s.length<=1000000/\WfL l:=by unfold WfN;rfl
def JS{a:Nd}:WfL (a::l)↔WfN a/\WfL l:=by rw[WfL]
def VA:WfL []:=by unfold WfL;trivial
def JhA{a:Nd}(h:WfL l)(ha:WfN a):WfL (l++[a]):=by
 induction l with
 |nil=>exact JS.2 ⟨ha,VA⟩
 |cons x r ih=>
  have:=JS.1 h;exact JS.2 ⟨this.1,ih this.2⟩
def Jmc{a:Nd}(h:WfN a)(o:Int):WfN (.mk a.kind a.num a.name o a.kids):=by cases a;rw[Vs]at *;exact h
def wf1{a:Nd}(M3:k≠19)(E8:k≠15)(C6:k≠18)(hs:s.length<=1000000)(ha:WfN a):WfN (.mk k n s o [a]):=
 Vs.2 ⟨λh=>absurd h M3,λh=>absurd h E8,λh=>absurd h C6,hs,JS.2 ⟨ha,VA⟩⟩
def wf0(M3:k≠19)(E8:k≠15)(C6:k≠18)(hs:s.length<=1000000):WfN (.mk k n s o []):=
 Vs.2 ⟨λh=>absurd h M3,λh=>absurd h E8,λh=>absurd h C6,hs,VA⟩
variable{b:Nd}
def wf2{a:Nd}(C6:k≠18)(hs:s.length<=1000000)(ha:WfN a)(hb:WfN b):WfN (.mk k n s o [a,b]):=
 Vs.2 ⟨λ_=>rfl,λ_=>rfl,λh=>absurd h C6,hs,JS.2 ⟨ha,JS.2 ⟨hb,VA⟩⟩⟩
def QgZ{P:Prop}(h:P:=by
  unfold opK at h
  repeat' split at h
  all_goals first
   |(injection h with h;subst h;decide)
   |cases h):P:=h
def JnD{lv:Nat}{t:Tok}(h:opK lv t=some k):k≠18:=by
 exact QgZ
def Qha{P:Prop}(h:P:=by
  unfold Qeh at h
  repeat' split at h
  all_goals first
   |(injection h with h;subst h;decide)
   |cases h):P:=h
def Jmd{t:Tok}(h:Qeh t=some k):k≠18:=by
 exact Qha
def Jme{t:Tok}{a:Nd}(C6:k≠18)(ha:WfN a)(hb:WfN b):WfN (QdV t k a b):=by
 unfold QdV;split
 ·exact wf2 C6 zq hb ha
 ·split
  ·exact wf1 zp zp zp zq (wf2 C6 zq ha hb)
  ·exact wf2 C6 zq ha hb
def QkL:Md->Prop
 |.loop _ _ a=>WfN a
 |.args nm _ l=>nm.length<=1000000/\WfL l
 |_=>True
def Qjp{P:Prop}(h:P:=by
  obtain⟨_,r2,h2,h⟩:=Je h;injection h with h0 h;subst h h0;obtain⟨g2,s2⟩:=KX f _ _ _ _ (Kz hs h1) h2 trivial
  exact⟨wf1 (by decide) (by decide) (by decide) (by simp) g2,s2⟩):P:=h
def QhY{P:Prop}(h:P:=by
  obtain⟨_,r2,h2,h⟩:=Je h;injection h with h0 h;subst h h0;obtain⟨s2,g2⟩:=JfY (Kz hs h1) h2
  exact⟨wf0 (by decide) (by decide) (by decide) g2,s2⟩):P:=h
def Qhh{P:Prop}(h:P:=by
  injection h with h0 h;subst h h0
  exact⟨wf0 (by decide) (by decide) (by decide) (by simp),Kz hs h1⟩):P:=h
def KX:∀(f:Nat)(md:Md)(r r':List Tok)(a:Nd),Sh r->pM f md r=.ok a r'->QkL md->WfN a/\Sh r'
 |0,md,r,r',a,hs,h,he=>by unfold pM at h;cases h
 |f+1,.expr,r,r',a,hs,h,he=>by
  rw[pM]at h;split at h
  ·rename_i r1 h1;obtain⟨_,r2,h2,h⟩:=Je h;obtain⟨_,r3,h3,h⟩:=Je h;obtain⟨_,r4,h4,h⟩:=Je h;obtain⟨_,r5,h5,h⟩:=Je h;obtain⟨_,r6,h6,h⟩:=Je h;injection h with h0 h;subst h h0;have s1:=Kz hs h1;obtain⟨s2,g2⟩:=Yx s1 h2;have s3:=J2 s2 h3;obtain⟨g4,s4⟩:=KX f _ _ _ _ s3 h4 trivial;have s5:=J2 s4 h5;obtain⟨g6,s6⟩:=KX f _ _ _ _ s5 h6 trivial;exact⟨wf2 zp g2 g4 g6,s6⟩
  ·split at h
   ·rename_i r1 h1;obtain⟨_,r2,h2,h⟩:=Je h;obtain⟨_,r3,h3,h⟩:=Je h;obtain⟨_,r4,h4,h⟩:=Je h;obtain⟨_,r5,h5,h⟩:=Je h;obtain⟨_,r6,h6,h⟩:=Je h;injection h with h0 h;subst h h0;have s1:=Kz hs h1;obtain⟨g2,s2⟩:=KX f _ _ _ _ s1 h2 trivial;have s3:=J2 s2 h3;obtain⟨g4,s4⟩:=KX f _ _ _ _ s3 h4 trivial;have s5:=J2 s4 h5;obtain⟨g6,s6⟩:=KX f _ _ _ _ s5 h6 trivial;exact⟨Vs.2 ⟨λh=>absurd h zp,λh=>absurd h zp,λ_=>rfl,by simp,JS.2 ⟨g2,JS.2 ⟨g4,JS.2 ⟨g6,VA⟩⟩⟩⟩,s6⟩
   ·exact KX f _ _ _ _ hs h trivial
 |f+1,.level lv,r,r',a,hs,h,he=>by
  rw[pM]at h;split at h
  ·split at h
   ·rename_i r1 h1;exact Qjp
   ·exact KX f _ _ _ _ hs h trivial
  ·split at h
   ·split at h
    ·rename_i r1 h1;exact Qjp
    ·exact KX f _ _ _ _ hs h trivial
   ·obtain⟨_,r1,h1,h⟩:=Je h;obtain⟨g1,s1⟩:=KX f _ _ _ _ hs h1 trivial;exact KX f _ _ _ _ s1 h g1
 |f+1,.loop lv o b,r,r',a,hs,h,he=>by
  rw[pM]at h;split at h
  ·injection h with h0 h;subst h h0;exact⟨he,hs⟩
  ·rename_i k hk;obtain⟨_,r1,h1,h⟩:=Je h;obtain⟨g1,s1⟩:=KX f _ _ _ _ hs.tail h1 trivial;exact KX f _ _ _ _ s1 h (show WfN _ from wf2 (JnD hk) zq he g1)
 |f+1,.cmp,r,r',a,hs,h,he=>by
  rw[pM]at h;obtain⟨x,r1,h1,h⟩:=Je h;obtain⟨g1,s1⟩:=KX f _ _ _ _ hs h1 trivial;split at h
  ·injection h with h0 h;subst h h0;exact⟨g1,s1⟩
  ·rename_i k hk;obtain⟨y,r2,h2,h⟩:=Je h;obtain⟨g2,s2⟩:=KX f _ _ _ _ s1.tail h2 trivial;injection h with h0 h;subst h h0;exact⟨Jme (Jmd hk) g1 g2,s2⟩
 |f+1,.prim,r,r',a,hs,h,he=>by
  rw[pM]at h;split at h
  ·injection h with h0 h;subst h h0;exact⟨wf0 zp zp zp zq,hs.tail⟩
  split at h
  ·rename_i r1 h1;obtain⟨x,r2,h2,h⟩:=Je h;obtain⟨_,r3,h3,h⟩:=Je h;injection h with h0 h;subst h h0;obtain⟨g2,s2⟩:=KX f _ _ _ _ (Kz hs h1) h2 trivial;exact⟨Jmc g2 _,J2 s2 h3⟩
  split at h
  ·rename_i r1 h1;exact Qhh
  split at h
  ·rename_i r1 h1;exact Qhh
  split at h
  ·rename_i r1 h1;exact QhY
  split at h
  ·rename_i r1 h1;exact QhY
  split at h
  ·injection h with h0 h;subst h h0;exact⟨wf0 zp zp zp hs.hd,hs.tail⟩
  ·exact KX f _ _ _ _ hs h trivial
 |f+1,.named,r,r',a,hs,h,he=>by
  rw[pM]at h;obtain⟨nm,r1,h1,h⟩:=Je h;obtain⟨s1,g1⟩:=Yx hs h1;split at h
  ·injection h with h0 h;subst h h0;exact⟨wf0 zp zp zp g1,s1⟩
  ·rename_i r2 h2;split at h
   ·rename_i r3 h3;injection h with h0 h;subst h h0;exact⟨wf0 zp zp zp g1,Kz (Kz s1 h2) h3⟩
   ·exact KX f _ _ _ _ (Kz s1 h2) h (show _/\_ from⟨g1,VA⟩)
 |f+1,.args nm o l,r,r',a,hs,h,he=>by
  obtain⟨yA,xA⟩:nm.length<=1000000/\WfL l:=he;rw[pM]at h;obtain⟨x,r1,h1,h⟩:=Je h;obtain⟨g1,s1⟩:=KX f _ _ _ _ hs h1 trivial;split at h
  ·rename_i r2 h2;exact KX f _ _ _ _ (Kz s1 h2) h (show _/\_ from⟨yA,JhA xA g1⟩)
  ·obtain⟨_,r2,h2,h⟩:=Je h;injection h with h0 h;subst h h0;exact⟨Vs.2 ⟨λh=>absurd h zp,λh=>absurd h zp,λh=>absurd h zp,yA,JhA xA g1⟩,J2 s1 h2⟩
def QgR(f:FnS):Prop:=WfN f.body/\f.name.1.length<=1000000
def Qip(c:ClS):Prop:=WfN c.cond
def JaO:∀(f:Nat)(ps:List (By×Int))(ts:List Int)(r r':List Tok) a,Sh r->QaQ f ps ts r=.ok a r'->Sh r'
 |0,_,_,_,_,_,_,h=>by cases h
 |f+1,ps,ts,r,r',a,hs,h=>by
  rw[QaQ]at h;obtain⟨_,r1,h1,h⟩:=Je h;obtain⟨_,r2,h2,h⟩:=Je h;obtain⟨_,r3,h3,h⟩:=Je h;have s3:=Jhz (J2 (Yx hs h1).1 h2) h3;split at h
  ·rename_i r4 h4;exact JaO f _ _ _ _ _ (Kz s3 h4) h
  ·obtain⟨_,r4,h4,h⟩:=Je h;injection h with h0 h;subst h h0;exact J2 s3 h4
def Jmf{x:FnS}(hs:Sh r)(h:Qeg f r=.ok x r'):QgR x/\Sh r':=by
 unfold Qeg at h;obtain⟨nm,r1,h1,h⟩:=Je h;obtain⟨_,r2,h2,h⟩:=Je h;obtain⟨pt,r3,h3,h⟩:=Je h;obtain⟨_,r4,h4,h⟩:=Je h;obtain⟨_,r5,h5,h⟩:=Je h;obtain⟨_,r6,h6,h⟩:=Je h;obtain⟨_,r7,h7,h⟩:=Je h;injection h with h0 h;subst h h0;obtain⟨s1,g1⟩:=Yx hs h1;have s2:=J2 s1 h2
 have s3:Sh r3:=by
  split at h3
  ·rename_i r9 h9;injection h3 with h0 h3;subst h3;exact Kz s2 h9
  ·exact JaO _ _ _ _ _ _ s2 h3
 have s6:=J2 (Jhz (J2 s3 h4) h5) h6;obtain⟨g7,s7⟩:=KX _ _ _ _ _ s6 h7 trivial;exact⟨⟨g7,g1⟩,s7⟩
def JeY(g:Nat):∀(f:Nat)(l:List FnS)(r r':List Tok) a,Sh r->(∀x∈l,QgR x)->QcF g f l r=.ok a r'->(∀x∈a,QgR x)/\Sh r'
 |0,_,_,_,_,_,_,h=>by cases h
 |f+1,l,r,r',a,hs,hl,h=>by
  rw[QcF]at h;split at h
  ·rename_i r1 h1;obtain⟨x,r2,h2,h⟩:=Je h;obtain⟨g1,g2⟩:=Jmf (Kz hs h1) h2
   exact JeY g f _ _ _ _ g2 (by
    intro y hy
    rcases List.mem_append.1 hy with hy|hy
    ·exact hl y hy
    ·obtain rfl:y=x:=by simpa using hy
     exact g1) h
  ·injection h with h0 h;subst h h0;exact⟨hl,hs⟩
def Z5(g:Nat):∀(f:Nat)(l:List ClS)(r r':List Tok) a,Sh r->(∀x∈l,Qip x)->QaP g f l r=.ok a r'->(∀x∈a,Qip x)/\Sh r'
 |0,_,_,_,_,_,_,h=>by cases h
 |f+1,l,r,r',a,hs,hl,h=>by
  rw[QaP]at h;split at h
  ·rename_i r1 h1;obtain⟨x,r2,h2,h⟩:=Je h;obtain⟨_,r3,h3,h⟩:=Je h;obtain⟨_,r4,h4,h⟩:=Je h;obtain⟨_,r5,h5,h⟩:=Je h;obtain⟨g1,s2⟩:=KX _ _ _ _ _ (Kz hs h1) h2 trivial;have s4:=Jmb (J2 s2 h3) h4
   exact Z5 g f _ _ _ _ (JeX s4 h5).1 (by
    intro y hy
    rcases List.mem_append.1 hy with hy|hy
    ·exact hl y hy
    ·obtain rfl:y=_:=by simpa using hy
     exact g1) h
  ·injection h with h0 h;subst h h0;exact⟨hl,hs⟩
def Jmg{s:Src}(hs:Sh r)(h:QdU f r=.ok s r'):(∀x∈s.funcs,QgR x)/\∀x∈s.clauses,Qip x:=by
 unfold QdU at h;obtain⟨fs,r1,h1,h⟩:=Je h;obtain⟨cs,r2,h2,h⟩:=Je h;obtain⟨_,r3,h3,h⟩:=Je h;obtain⟨_,r4,h4,h⟩:=Je h;obtain⟨g1,s1⟩:=JeY _ _ _ _ _ _ hs zq h1;obtain⟨g2,s2⟩:=Z5 _ _ _ _ _ _ s1 zq h2;split at h
 ·injection h with h0 h;subst h0;exact⟨g1,g2⟩
 ·cases h
def JaP{fs:List By}{k:Nat}(h:Qal fs s=some k):k<fs.length:=by
 unfold Qal at h;rw[List.findIdx?_eq_some_iff_findIdx_eq]at h;exact h.1
def QhN{P:Prop}(h:P:=by
  subst hk
  exact⟨Vs.2 ⟨λh=>absurd h (by decide),λh=>absurd h (by decide),λh=>absurd h (by decide),by simp,q1⟩,by rw[JD,JD,q2]⟩):P:=h
mutual
def V8(fs:List By):∀(M0:List By)(a:Nd),WfN a->WfN (QcQ fs M0 a).1/\siz (QcQ fs M0 a).1=siz a
 |M0,.mk k n s o l,h=>by
  rw[Vs]at h;obtain⟨w19,w15,w18,ws,wl⟩:=h;rw[Vx];obtain⟨q1,q2,q3⟩:=JhB fs M0 l wl;split
  ·rename_i hk;exact QhN
  split
  ·rename_i hk;exact QhN
  split
  ·rename_i hk;subst hk
   match l,w19 rfl,wl with
   |[a,b],_,wl=>
    rw[JS,JS]at wl;obtain⟨x1,x2⟩:=V8 fs M0 a wl.1;obtain⟨y1,y2⟩:=V8 fs (M0++[s]) b wl.2.1;exact⟨wf2 (by decide) (by simp) x1 y1,by simp only[JD,Ju,JG,x2,y2]⟩
  ·exact⟨Vs.2 ⟨λh=>by rw[q3];exact w19 h,λh=>by rw[q3];exact w15 h,λh=>by rw[q3];exact w18 h,ws,q1⟩,by rw[JD,JD,q2]⟩
def JhB(fs:List By):∀(M0:List By)(l:List Nd),WfL l->WfL (QbS fs M0 l).1/\Qbd (QbS fs M0 l).1=Qbd l/\(QbS fs M0 l).1.length=l.length
 |M0,[],h=>by rw[QbS];exact⟨VA,rfl,rfl⟩
 |M0,a::l,h=>by
  rw[JS]at h;rw[QbS];obtain⟨x1,x2⟩:=V8 fs M0 a h.1;obtain⟨y1,y2,y3⟩:=JhB fs M0 l h.2;exact⟨JS.2 ⟨x1,y1⟩,by simp only[Ju,x2,y2],by simp only[List.length_cons,y3]⟩
end
def JbC{nv:Nat}(h2:k=2->0<=n/\n<nv)(T3:k=20->0<=n/\n<nf)(M3:k≠19)(hl:QdJ nf nv l):QdK nf nv (.mk k n s o l):=by
 unfold QdK;refine⟨h2,T3,?_⟩;rw[zM M3];exact hl
mutual
def Z6(fs:List By):∀(M0:List By)(a:Nd),WfN a->(QcQ fs M0 a).2=[]->QdK fs.length M0.length (QcQ fs M0 a).1
 |M0,.mk k n s o l,hw,h=>by
  rw[Vs]at hw;obtain⟨w19,w15,w18,ws,wl⟩:=hw;rw[Vx]at h |-;split at h
  ·rename_i hk;subst hk;rw[if_pos rfl];simp only[append_eq_nil_iff]at h;have hx:=(Yr s _ M0 rfl).2;have hlt:¬QaY M0 s<0:=λhc=>by rw[if_pos hc]at h;exact absurd h.1 (by simp)
   exact JbC (λ_=>⟨by omega,hx⟩) (λh=>absurd h (by decide)) (by decide) (JbD fs M0 l wl h.2)
  rename_i GC;rw[if_neg GC];split at h
  ·rename_i hk;subst hk;rw[if_pos rfl];simp only[append_eq_nil_iff]at h
   cases hf:Qal fs s with
   |none=>
    rw[hf]at h;simp at h
   |some q=>
    have hlt:=JaP hf;exact JbC (λh=>absurd h (by decide)) (λ_=>⟨by simp[Option.getD],by simp only[Option.getD];omega⟩) (by decide) (JbD fs M0 l wl h.2)
  rename_i O8;rw[if_neg O8];split at h
  ·rename_i hk;subst hk;rw[if_pos rfl]
   match l,w19 rfl,wl,h with
   |[a,b],_,wl,h=>
    rw[JS,JS]at wl;simp only[append_eq_nil_iff]at h;have x:=Z6 fs M0 a wl.1 h.1;have y:=Z6 fs (M0++[s]) b wl.2.1 h.2;rw[List.length_append,List.length_singleton]at y;unfold QdK;exact⟨λh=>absurd h (by decide),λh=>absurd h (by decide),x,y⟩
  ·rename_i Q8;rw[if_neg Q8];exact JbC (λh=>absurd h GC) (λh=>absurd h O8) Q8 (JbD fs M0 l wl h)
def JbD(fs:List By):∀(M0:List By)(l:List Nd),WfL l->(QbS fs M0 l).2=[]->QdJ fs.length M0.length (QbS fs M0 l).1
 |M0,[],hw,h=>by rw[QbS];unfold QdJ;trivial
 |M0,a::l,hw,h=>by
  rw[JS]at hw;rw[QbS]at h |-;simp only[append_eq_nil_iff]at h;unfold QdJ;exact⟨Z6 fs M0 a hw.1 h.1,JbD fs M0 l hw.2 h.2⟩
end
def YT{l:List Int}(h:QaZ l=none):l=[]:=by
 cases l with
 |nil=>rfl
 |cons a l=>rw[QaZ]at h;cases h
def JaQ{s:Src}{m:Nat}(h1:∀f∈s.funcs,QgR f/\siz f.body<=m/\f.types.length<=m/\f.params.length=f.types.length)(h2:∀c∈s.clauses,Qip c/\siz c.cond<=m)(he:QaZ (Qae s).2=none):
  (∀f∈(Qae s).1.funcs,WfN f.body/\siz f.body<=m/\f.types.length<=m/\QdK (Qae s).1.funcs.length f.types.length f.body)/\(∀c∈(Qae s).1.clauses,WfN c.cond/\siz c.cond<=m/\QdK (Qae s).1.funcs.length 0 c.cond)/\(Qae s).1.funcs.length=s.funcs.length/\(Qae s).1.clauses.length=s.clauses.length:=by
 have hn:=YT he;unfold Qae at hn |-;simp only[append_eq_nil_iff,List.flatten_eq_nil_iff]at hn;obtain⟨⟨_,e1⟩,e2⟩:=hn;have hfl:(s.funcs.map (·.name.1)).length=s.funcs.length:=zq;refine⟨λf hf=>?_,λc hc=>?_,by simp,by simp⟩
 ·simp only[List.mem_map]at hf;obtain⟨_,⟨g,hg,rfl⟩,rfl⟩:=hf;obtain⟨q1,q2,q3,q4⟩:=h1 g hg;have e:=e1 (resF (s.funcs.map (·.name.1)) g).2 (List.mem_map.2 ⟨_,List.mem_map.2 ⟨g,hg,rfl⟩,rfl⟩);unfold resF at e;simp only[append_eq_nil_iff]at e;obtain⟨w1,w2⟩:=V8 (s.funcs.map (·.name.1)) (g.params.map (·.1)) g.body q1.1;have ty:=Z6 (s.funcs.map (·.name.1)) (g.params.map (·.1)) g.body q1.1 e.2;rw[length_map,length_map,q4]at ty;refine⟨w1,by show siz (QcQ _ _ _).1<=m;rw[w2];exact q2,q3,?_⟩;simp only[length_map];exact ty
 ·simp only[List.mem_map]at hc;obtain⟨_,⟨g,hg,rfl⟩,rfl⟩:=hc;obtain⟨q1,q2⟩:=h2 g hg;have e:=e2 (resC (s.funcs.map (·.name.1)) g).2 (List.mem_map.2 ⟨_,List.mem_map.2 ⟨g,hg,rfl⟩,rfl⟩);unfold resC at e;obtain⟨w1,w2⟩:=V8 (s.funcs.map (·.name.1)) [] g.cond q1;have ty:=Z6 (s.funcs.map (·.name.1)) [] g.cond q1 e;rw[length_map]at ty;refine⟨w1,by show siz (QcQ _ _ _).1<=m;rw[w2];exact q2,?_⟩;simp only[length_map];exact ty
def JdW(p q s:Addr)(w:World):
  CallsD prog 33 #[.pointer (some p),.pointer (some q),.pointer (some s)] .returning w λe u' w'=>e=.returned (.tuple #[])/\u'=.returning/\yr w w':=by
 have ta:∀w,(Instr.typeAssert .nilIface 20 88 true).run prog w=.ok (.tuple #[.agg (yq 0 0),.bool false]) w:=λ_=>by kernel_rfl
 refine callsD_of_wpS func33 rfl λc₀ cs hu=>?_
 apply wpS_seq;apply wpS_region;simp[wpOpsS,go_sem,recoverD,hu,ntmps33,Exit.thenS,ta];apply wpS_seq;apply wpS_region;simp[wpOpsS,go_sem,Exit.thenS];refine wpS_cond (t:=false) (by simp[Act.eval,Array.replicate]) ?_;simp only[Bool.false_eq_true,if_false];refine wpS_of_wp (wp_skip ?_)
 cases c₀
 simp only[bodyPostS,results,results33];refine⟨by simp,.returning,by simp_all,.tuple #[],by simp[go_sem],rfl,rfl,zO.alloc (Nat.le_refl _) _⟩
def JhC{r e a:Nat}(er o:Int){e0 a0:Value}{tr te ta:Nat}(hr:w.heap[r]?=some (.cells #[f0,f1,f2] tr (0,0)))(he:w.heap[e]?=some (.cells #[e0] te (0,0)))(ha:w.heap[a]?=some (.cells #[a0] ta (0,0)))(h1:r≠e)(h2:r≠a)(h3:e≠a)(X:Obj):
  ∀W,W=((((((w.setCell ⟨r,0,none⟩ Nl).setCell ⟨r,1,none⟩ Nl).setCell ⟨r,2,none⟩ (Iv 0)).setCell ⟨e,0,none⟩ (Iv er)).setCell ⟨a,0,none⟩ (Iv o)).alloc X).drew->
  W.heap[r]?=some (.cells #[Nl,Nl,Iv 0] tr (0,0))/\W.heap[e]?=some (.cells #[Iv er] te (0,0))/\W.heap[a]?=some (.cells #[Iv o] ta (0,0))/\Chg [r,e,a] w W:=by
 rintro W rfl;have g1:=QgJ Nl Nl (Iv 0) hr
 have g2:((((w.setCell ⟨r,0,none⟩ Nl).setCell ⟨r,1,none⟩ Nl).setCell ⟨r,2,none⟩ (Iv 0)).setCell ⟨e,0,none⟩ (Iv er)).heap[e]?=some (.cells #[Iv er] te (0,0)):=
  heap_setCell_same _ _ 0 _ _ _ (Ji (Ji (Ji he (λh=>h1 h.symm) _) (λh=>h1 h.symm) _) (λh=>h1 h.symm) _)
 refine⟨?_,?_,?_,?_⟩
 ·show ((World.alloc _ X).heap)[r]?=_
  exact Jf (Ji (Ji g1 h1 _) h2 _)
 ·show ((World.alloc _ X).heap)[e]?=_
  exact Jf (Ji g2 h3 _)
 ·show ((World.alloc _ X).heap)[a]?=_
  refine Jf (heap_setCell_same _ _ 0 _ _ _ (Ji (Ji (Ji (Ji ha (λh=>h2 h.symm) _) (λh=>h2 h.symm) _) (λh=>h2 h.symm) _) (λh=>h3 h.symm) _))
 ·exact((((((Chg.refl _ _).setCell (.inl zq) _).setCell (.inl zq) _).setCell (.inl zq) _).setCell (.inl zq) _).setCell (.inl zq) _).alloc _ |>.drew
def Zc(r e a:Nat)(er o:Int)(older:List PanicEntry)(f0 f1 f2:Value)(e0 a0:Int)(w:World)(hr:w.heap[r]?=some (.cells #[f0,f1,f2] 25 (0,0)))(he:w.heap[e]?=some (.cells #[Iv e0] 46 (0,0)))(ha:w.heap[a]?=some (.cells #[Iv a0] 3 (0,0)))(h1:r≠e)(h2:r≠a)(h3:e≠a):
  CallsD prog 33 #[Pt r,Pt e,Pt a] (.panicking ({v:=Qff er o,recovered:=false}::older)) w λen u' w'=>
   en=.returned (.tuple #[])/\u'=.panicking ({v:=Qff er o,recovered:=true}::older)/\w'.heap[r]?=some (.cells #[Nl,Nl,Iv 0] 25 (0,0))/\w'.heap[e]?=some (.cells #[Iv er] 46 (0,0))/\w'.heap[a]?=some (.cells #[Iv o] 3 (0,0))/\Chg [r,e,a] w w':=by
 have ta:∀w,(Instr.typeAssert (Qff er o) 20 88 true).run prog w=.ok (.tuple #[.agg (yq er o),.bool true]) w:=λ_=>by kernel_rfl
 refine callsD_of_wpS func33 rfl λc₀ cs hu=>?_
 apply wpS_seq;apply wpS_region;simp[wpOpsS,go_sem,recoverD,hu,ntmps33,Exit.thenS,ta];apply wpS_seq;apply wpS_region;simp[wpOpsS,go_sem,Exit.thenS];refine wpS_cond (t:=true) (by simp[Act.eval,Array.replicate]) ?_;simp only[if_true];refine wpS_of_wp ?_;have hl:=Jb hr;have xA:=Jb he;have yA:=Jb ha;have r0:=Ja hr 0;have r1:=Ja hr 1;have r2:=Ja hr 2;have e1:=Ja he 0;have a1:=Ja ha 0;have q0:=Jc hr 0;have q1:=Jc hr 1;have q2:=Jc hr 2;have q3:=Jc he 0;have q4:=Jc ha 0;simp only[zW]at r0 r1 r2 e1 a1;have n1:=Ne.symm h1;have n2:=Ne.symm h2;have n3:=Ne.symm h3;go_region
 all_goals have fin:=JhC er o hr he ha h1 h2 h3 (.cells (yq er o) 88)
 all_goals clear hr he ha r0 r1 r2 e1 a1 q0 q1 q2 q3 q4 hl xA yA ta
 all_goals (cases c₀;simp only[bodyPostS,results,results33];refine⟨by trivial,_,rfl,.tuple #[],by simp[go_sem],rfl,rfl,fin _ rfl⟩)
def Qcl(l:By):Qah×Int×Int:=
 if (Qbi l).2.1=0 then (Qcc (12*((Qbi l).1.length+1)) (Qbi l).1).getD (QaR,0,0) else (QaR,(Qbi l).2.1,(Qbi l).2.2)
def PsP(w:World)(X:Qah×Int×Int)(e:Ending)(w':World):Prop:=
 ∃c,e=.returned (.tuple #[.agg c,Iv X.2.1,Iv X.2.2])/\QaV w' (λb=>w.heap.size<=b/\b<w'.heap.size) X.1 c/\yr w w'
def JeZ(W:World)(P:Nat->Prop):QaV W P QaR #[Nl,Nl,Iv 0]:=
 ⟨_,_,rfl,⟨none,0,[],rfl,Nat.le_refl _,rfl,.inl rfl⟩,⟨none,0,[],rfl,Nat.le_refl _,rfl,.inl rfl⟩⟩
structure Res(w W:World)(rs:Array Value)(er a:Int):Prop where
 r:W.heap[w.heap.size]?=some (.cells rs 25 (0,0))
 e:W.heap[w.heap.size+1]?=some (.cells #[Iv er] 46 (0,0))
 a:W.heap[w.heap.size+2]?=some (.cells #[Iv a] 3 (0,0))
 bel:yr w W
variable{rs:Array Value}
def Vj{er:Int}(h:Res w W rs er a)(hs:rs.size=3)(tmps:Array Value)(h2:tmps.getD 2 undef=Pt w.heap.size)(h3:tmps.getD 3 undef=.pointer (some ⟨w.heap.size+1,0,none⟩))(h4:tmps.getD 4 undef=.pointer (some ⟨w.heap.size+2,0,none⟩)):
  (results f15 tmps).run prog W=.ok (.tuple #[.agg rs,Iv er,Iv a]) W:=by
 have q2:tmps[2]?.getD undef=Pt w.heap.size:=by simpa using h2
 have q3:tmps[3]?.getD undef=.pointer (some ⟨w.heap.size+1,0,none⟩):=by simpa using h3
 have q4:tmps[4]?.getD undef=.pointer (some ⟨w.heap.size+2,0,none⟩):=by simpa using h4
 have c1:W.cell? ⟨w.heap.size+1,0,none⟩=some (Iv er):=Ja h.e 0;have c2:W.cell? ⟨w.heap.size+2,0,none⟩=some (Iv a):=Ja h.a 0;have l1:=run_loadVar_row (P:=prog) W w.heap.size 25 25 rs (0,0) _ h.r underlying25 rfl (by rw[hs];exact QeP);have l2:(loadVar 46 ⟨w.heap.size+1,0,none⟩).run prog W=.ok (Iv er) W:=by simp[go_sem,c1]
 have l3:(loadVar 3 ⟨w.heap.size+2,0,none⟩).run prog W=.ok (Iv a) W:=by simp[go_sem,c2]
 simp[results,results15,q2,q3,q4,asAddr,l1,l2,l3]
def Res.up{er:Int}(h:Res w W rs er a)(hb:yr W W'):Res w W' rs er a:=
 ⟨(hb.block _ (Jb h.r)).trans h.r,(hb.block _ (Jb h.e)).trans h.e,(hb.block _ (Jb h.a)).trans h.a,Jd h.bel hb⟩
def Res.setE{er:Int}(h:Res w W rs er a)(n:Int):Res w (W.setCell ⟨w.heap.size+1,0,none⟩ (Iv n)) rs n a:=
 ⟨Ji h.r zq _,heap_setCell_same _ _ 0 _ _ _ h.e,Ji h.a zq _,h.bel.setCell zq _⟩
def Res.setA{er:Int}(h:Res w W rs er a)(n:Int):Res w (W.setCell ⟨w.heap.size+2,0,none⟩ (Iv n)) rs er n:=
 ⟨Ji h.r zq _,Ji h.e zq _,heap_setCell_same _ _ 0 _ _ _ h.a,h.bel.setCell zq _⟩
def Res.setR{er:Int}(h:Res w W #[f0,f1,f2] er a)(v0 v1 v2:Value):Res w (((W.setCell ⟨w.heap.size,0,none⟩ v0).setCell ⟨w.heap.size,1,none⟩ v1).setCell ⟨w.heap.size,2,none⟩ v2) #[v0,v1,v2] er a:=
 ⟨QgJ v0 v1 v2 h.r,Ji (Ji (Ji h.e zq _) zq _) zq _,Ji (Ji (Ji h.a zq _) zq _) zq _,((h.bel.setCell zq _).setCell zq _).setCell zq _⟩
def Res.drew{er:Int}(h:Res w W rs er a):Res w W.drew rs er a:=⟨h.r,h.e,h.a,h.bel.drew⟩
structure QkN(w W:World)(f0 f1 f2:Value)(er a:Int):Prop where
 r0:W.cell? ⟨w.heap.size,0,none⟩=some f0
 r1:W.cell? ⟨w.heap.size,1,none⟩=some f1
 r2:W.cell? ⟨w.heap.size,2,none⟩=some f2
 e0:W.cell? ⟨w.heap.size+1,0,none⟩=some (Iv er)
 a0:W.cell? ⟨w.heap.size+2,0,none⟩=some (Iv a)
 q0:W.frozen? ⟨w.heap.size,0,none⟩=false
 q1:W.frozen? ⟨w.heap.size,1,none⟩=false
 q2:W.frozen? ⟨w.heap.size,2,none⟩=false
 q3:W.frozen? ⟨w.heap.size+1,0,none⟩=false
 q4:W.frozen? ⟨w.heap.size+2,0,none⟩=false
def Res.cells{er:Int}(h:Res w W #[f0,f1,f2] er a):QkN w W f0 f1 f2 er a:=
 ⟨Ja h.r 0,Ja h.r 1,Ja h.r 2,Ja h.e 0,Ja h.a 0,Jc h.r 0,Jc h.r 1,Jc h.r 2,Jc h.e 0,Jc h.a 0⟩
def QjS{P:Prop}(h:P:=by
  have e1:=zQ (w.alloc (.cells (zY none 0 0 none 0 0 0) 25)) (.cells #[Iv 0] 46);have e2:=zQ ((w.alloc (.cells (zY none 0 0 none 0 0 0) 25)).alloc (.cells #[Iv 0] 46)) (.cells #[Iv 0] 3);simp only[World.size_alloc]at e1 e2
  exact⟨Jf (Jf (zQ _ _)),Jf e1,e2,((zO.alloc (Nat.le_refl _) _).alloc (by simp) _).alloc (by simp;omega) _⟩):P:=h
def JfZ(l:By)(w:World)(hl:l.length<=281474976710655)(hL:Laid w)(h:(Qbi l).2.1≠0):
  Calls prog 15 #[Sv l] w (PsP w (QaR,(Qbi l).2.1,(Qbi l).2.2)):=by
 obtain⟨T,er,at',uA⟩:∃T er at',Qbi l=(T,er,at'):=⟨_,_,_,rfl⟩
 rw[uA]at h |-;simp only at h |-;have dA:(er==(0:Int))=false:=by simpa using h
 have aA:Res w (((w.alloc (.cells #[Nl,Nl,Iv 0] 25)).alloc (.cells #[Iv 0] 46)).alloc (.cells #[Iv 0] 3)) #[Nl,Nl,Iv 0] 0 0:=by
  exact QjS
 have yA:=Zh aA;clear aA h;go_enter_defers func15,ntmps15;go_wp2_with fail;generalize World.alloc (World.alloc (World.alloc w _) _) _=w1 at*;have bA:=hL.below yA.o.bel;refine(JeD l w1 hl bA).mono ?_;rw[uA];rintro e w2 ⟨v,rfl,xA,hb⟩;obtain⟨va,vc,rfl⟩:=Jv xA;have vA:=Zh (yA.o.up hb);clear yA xA hb uA bA hL;obtain⟨r0,r1,r2,e0,a0,q0,q1,q2,q3,q4⟩:=vA.o.cells;have zA:=Zh ((vA.o.setE er).setA at');clear r0 r1 r2 q0 q1 q2 vA;go_wp2_with fail;clear e0 a0 q3 q4;generalize World.setCell (World.setCell w2 _ _) _ _=w3 at*;obtain⟨r0,r1,r2,e0,a0,q0,q1,q2,q3,q4⟩:=zA.o.cells;have cA:=Zh ((((zA.o.setR Nl Nl (Iv 0)).setE er).setA at').drew);clear zA;go_wp2_with fail;go_region
 all_goals clear r0 r1 r2 e0 a0 q0 q1 q2 q3 q4
 all_goals go_wp2
 all_goals (refine⟨_,Vj cA.o rfl _ rfl rfl rfl,?_⟩;exact⟨_,rfl,JeZ _ _,cA.o.bel⟩)
def JnE:∀(l:By)(k:Nat)(ts:List Tok),sc k l=.ok ts->ts.length<=l.length+1:=by
 refine Jbn (P:=λk l=>∀ts,sc k l=.ok ts->ts.length<=l.length+1) ?_ ?_ ?_ ?_
 ·intro k ts h;rw[JeC]at h;injection h with h;subst h;simp
 ·intro k c r hs ih ts h;rw[Jjo k r hs]at h;have:=ih ts h;simp;omega
 ·intro k c r hs ht ts h;rw[Jbl k r hs ht]at h
  cases h
 ·intro k c r t n hs ht _ _ ih ts h;rw[Jbm k r hs ht]at h;obtain⟨r',h1,rfl⟩:=Jdy h;have:=ih _ h1;have hn:=(JbW ht).2;simp only[List.length_drop,List.length_cons]at this |-;have h3:n<=r.length+1:=by have:=hn.2.1;simpa using this
  omega
def Z7{l:By}{at':Int}(h:Qbi l=(T,0,at')):at'=0/\T.length<=4097/\(∀t∈T,t.text.length<=24)/\0<T.length/\∀i t,T[i]?=some t->(t.kind=4↔i+1=T.length):=by
 unfold Qbi at h;split at h
 ·simp at h
 ·cases hs:sc 0 l with
  |err k=>rw[hs]at h;simp at h
  |ok ts=>
   rw[hs]at h;simp at h;obtain⟨rfl,rfl⟩:=h;have h1:=JnE _ _ _ hs;obtain⟨us,rfl,h2,_⟩:=JlC _ _ _ hs;refine⟨rfl,by omega,?_,by simp,?_⟩
   ·intro t ht
    rcases List.mem_append.1 ht with ht|ht
    ·exact(h2 t ht).2.2.1
    ·simp at ht;subst ht;simp
   ·intro i t hi
    by_cases hl:i<us.length
    ·rw[List.getElem?_append_left hl]at hi;have:=(h2 t (List.mem_of_getElem? hi)).2.1;simp;omega
    ·rw[List.getElem?_append_right zo]at hi;have:i-us.length=0:=by have:=(List.getElem?_eq_some_iff.1 hi).1;simp at this;omega
     rw[this]at hi;simp at hi;subst hi;simp;omega
def Jmh{base:Nat}{v:Value}(h:W.ownsRow base 134 4 v T.length (QaO T))(h0:0<T.length):∃A C,v=.slice A T.length C/\∃b,A=some ⟨b,0,none⟩/\b<W.heap.size/\∀i t,T[i]?=some t->∀j u,(Qda t).toList[j]?=some u->W.cell? ⟨b,i*4+j,none⟩=some u:=by
 obtain⟨A,C,hv,hA⟩:=Vr h;refine⟨A,C,hv,Value.blk v,hA h0,?_,λi t hi j u hj=>?_⟩
 ·have hc:(QaO T)[0]?≠none:=by
   cases T with
   |nil=>simp at h0
   |cons t r=>simp[QaO]
  obtain⟨u,hu⟩:=Option.ne_none_iff_exists'.1 hc;exact JaD (J0 h hu)
 ·refine J0 h ?_
  have e:∀T:List Tok,QaO T=T.flatMap λt=>(Qda t).toList:=by
   intro T
   induction T with
   |nil=>rfl
   |cons a r ih=>rw[QaO,ih,List.flatMap_cons];rfl
  rw[e];exact Kq (cells:=λt=>(Qda t).toList) (size:=4) (λ_=>rfl) T i j t u hi hj
def JnF{base:Nat}{v:Value}(h:W.ownsRow base 134 4 v T.length (QaO T))(h0:0<T.length)(hr:T.length<=4097)(hf:∀i t,T[i]?=some t->(t.kind=4↔i+1=T.length)):
  ∃A C,v=.slice A T.length C/\PAt (W.alloc (.cells #[v,Iv 0] 92)) W.heap.size A C T 0:=by
 obtain⟨A,C,rfl,b,rfl,hb,hc⟩:=Jmh h h0;refine⟨_,C,rfl,zQ _ _,⟨b,0,rfl,by omega,λi t hi j u hj=>?_⟩,h0,hf,by omega⟩;rw[Nat.zero_add];have:=hc i t hi j u hj;exact(World.cell?_of_block (a:=⟨b,i*4+j,none⟩) (Below.heap_alloc _ _ _ hb)).trans this
def Res.on{S:List Nat}{er:Int}(h:Res w W rs er a)(hc:Chg S W W')(hs:∀b∈S,w.heap.size+3<=b):Res w W' rs er a:=
 ⟨hc.heap_some (λhm=>by have:=hs _ hm;omega) h.r,hc.heap_some (λhm=>by have:=hs _ hm;omega) h.e,hc.heap_some (λhm=>by have:=hs _ hm;omega) h.a,
  ⟨hc.os.trans h.bel.os,hc.tape.trans h.bel.tape,hc.output.trans h.bel.output,le_trans h.bel.size hc.size,λq hq=>(hc.block q (Nat.lt_of_lt_of_le hq h.bel.size) λhm=>by have:=hs _ hm;omega).trans (h.bel.block q hq)⟩⟩
def Res.low{er:Int}(h:Res w W rs er a)(hc:Below sb W W')(hs:w.heap.size+3<=sb):Res w W' rs er a:=
 ⟨(hc.block _ zo).trans h.r,(hc.block _ zo).trans h.e,(hc.block _ zo).trans h.a,
  ⟨hc.os.trans h.bel.os,hc.tape.trans h.bel.tape,hc.output.trans h.bel.output,le_trans h.bel.size hc.size,λq hq=>(hc.block q zo).trans (h.bel.block q hq)⟩⟩
def ZtZ{e0 a0:Int}(er o:Int)(h:Res w W #[f0,f1,f2] e0 a0)(tmps:Array Value)(h2:tmps.getD 2 undef=Pt w.heap.size)(h3:tmps.getD 3 undef=.pointer (some ⟨w.heap.size+1,0,none⟩))(h4:tmps.getD 4 undef=.pointer (some ⟨w.heap.size+2,0,none⟩)):
  Leaves prog f15 tmps (PsP w (QaR,er,o)) [{target:=.fn (.func 33) #[Pt w.heap.size,.pointer (some ⟨w.heap.size+1,0,none⟩),.pointer (some ⟨w.heap.size+2,0,none⟩)],args:=#[]}] (.panicking [{v:=Qff er o,recovered:=false}]) W:=by
 refine leaves_cons (f:=33) (args:=#[Pt w.heap.size,.pointer (some ⟨w.heap.size+1,0,none⟩),.pointer (some ⟨w.heap.size+2,0,none⟩)]) zq (by simp[go_sem]) ?_;refine(Zc _ _ _ er o [] f0 f1 f2 e0 a0 W h.r h.e h.a zo zo zo).mono ?_;rintro e u' xA ⟨rfl,rfl,g1,g2,g3,hc⟩;have hR:Res w xA #[Nl,Nl,Iv 0] er o:=⟨g1,g2,g3,⟨hc.os.trans h.bel.os,hc.tape.trans h.bel.tape,hc.output.trans h.bel.output,le_trans h.bel.size hc.size,λq hq=>(hc.block q (Nat.lt_of_lt_of_le hq h.bel.size) zr).trans (h.bel.block q hq)⟩⟩
 exact⟨_,Vj hR rfl tmps h2 h3 h4,_,rfl,JeZ _ _,hR.bel⟩
def Jmi{c:Array Value}{e0 a0:Int}{r:Qah}(h:Res w W c e0 a0)(hs:c.size=3)(hx:QaV W (λb=>w.heap.size<=b/\b<W.heap.size) r c)(tmps:Array Value)(h2:tmps.getD 2 undef=Pt w.heap.size)(h3:tmps.getD 3 undef=.pointer (some ⟨w.heap.size+1,0,none⟩))(h4:tmps.getD 4 undef=.pointer (some ⟨w.heap.size+2,0,none⟩)):
  Leaves prog f15 tmps (PsP w (r,e0,a0)) [{target:=.fn (.func 33) #[Pt w.heap.size,.pointer (some ⟨w.heap.size+1,0,none⟩),.pointer (some ⟨w.heap.size+2,0,none⟩)],args:=#[]}] .returning W:=by
 refine leaves_cons (f:=33) (args:=#[Pt w.heap.size,.pointer (some ⟨w.heap.size+1,0,none⟩),.pointer (some ⟨w.heap.size+2,0,none⟩)]) zq (by simp[go_sem]) ?_;refine(JdW _ _ _ W).mono ?_;rintro e u' xA ⟨rfl,rfl,hb⟩;have hR:=h.up hb;exact⟨_,Vj hR hs tmps h2 h3 h4,c,rfl,hx.keep (λb hb'=>hb.block b hb'.2) λb hb'=>⟨hb'.1,Nat.lt_of_lt_of_le hb'.2 hb.size⟩,hR.bel⟩
def QdI(s:Src):Qah×Int×Int:=
 match QbN s with
 |some o=>(QaR,7,o)
 |none=>
  match QaZ (Qae s).2 with
  |some o=>(QaR,16,o)
  |none=>
   match QaZ (QbH (Qae s).1) with
   |some o=>(QaR,15,o)
   |none=>(QaE (Qae s).1,0,0)
def YU{s:Src}(h:QdU f T=.ok s r):Qcc f T=some (QdI s):=by
 unfold Qcc QdI;rw[h];simp only
 cases QbN s<;>simp only
 cases QaZ (Qae s).2<;>simp only
 cases QaZ (QbH (Qae s).1)<;>rfl
def JhD{s:Src}(h:QbN s=some o):QdI s=(QaR,7,o):=by unfold QdI;rw[h]
def JhE{s:Src}(h:QbN s=none)(h2:QaZ (Qae s).2=some o):QdI s=(QaR,16,o):=by unfold QdI;rw[h,h2]
def JjZ{s:Src}(h:QbN s=none)(h2:QaZ (Qae s).2=none):QdI s=match QaZ (QbH (Qae s).1) with|some o=>(QaR,15,o)|none=>(QaE (Qae s).1,0,0):=by unfold QdI;rw[h,h2]
def JhF:∀l:List FnS,l.length<=Qcn l
 |[]=>by simp
 |f::l=>by
  have:=JhF l;unfold Qcn at this |-;simp only[map_cons,sum_cons,List.length_cons];have:1<=f.siz:=by unfold FnS.siz;omega
  omega
def JhG:∀l:List ClS,l.length<=Qcp l
 |[]=>by simp
 |f::l=>by
  have:=JhG l;unfold Qcp at this |-;simp only[map_cons,sum_cons,List.length_cons];have:1<=f.siz:=by unfold ClS.siz;omega
  omega
def JhH{f:FnS}:∀{l:List FnS},f∈l->f.siz<=Qcn l
 |a::l,h=>by
  unfold Qcn;simp only[map_cons,sum_cons]
  rcases List.mem_cons.1 h with rfl|h
  ·omega
  ·have:=JhH h;unfold Qcn at this;omega
def JhI{f:ClS}:∀{l:List ClS},f∈l->f.siz<=Qcp l
 |a::l,h=>by
  unfold Qcp;simp only[map_cons,sum_cons]
  rcases List.mem_cons.1 h with rfl|h
  ·omega
  ·have:=JhI h;unfold Qcp at this;omega
structure Qil(s:Src):Prop where
 nf:s.funcs.length<=8194
 nc:s.clauses.length<=8194
 f:∀x∈s.funcs,QgR x/\siz x.body<=8194/\x.types.length<=8194/\x.params.length=x.types.length
 c:∀x∈s.clauses,Qip x/\siz x.cond<=8194
def Jmj{s:Src}(h:QdU f T=.ok s r)(hT:T.length<=4097)(hx:∀t∈T,t.text.length<=24):Qil s:=by
 obtain⟨h1,h2⟩:=JeN h;obtain⟨h3,h4⟩:=Jmg (λt ht=>le_trans (hx t ht) zp) h;have q1:=JhF s.funcs;have q2:=JhG s.clauses;refine⟨by omega,by omega,λx hx=>?_,λx hx=>?_⟩
 ·have q:=JhH hx;have e:x.siz=siz x.body+x.params.length+x.types.length+1:=rfl;exact⟨h3 x hx,by omega,by omega,h2 x hx⟩
 ·have q:=JhI hx;have e:x.siz=siz x.cond+1:=rfl;exact⟨h4 x hx,by omega⟩
variable{S:Qap}
def Jka(h:Qil S.src):∀r∈S.rootsA,siz r.2.nd<=1000000000:=by
 intro r hr;have hm:r.2.nd∈S.src.roots:=by rw[<-JeR];exact List.mem_map.2 ⟨r,hr,rfl⟩
 unfold Src.roots at hm
 rcases List.mem_append.1 hm with hm|hm
 ·obtain⟨f,hf,e⟩:=List.mem_map.1 hm;rw[<-e];exact le_trans (h.f f hf).2.1 zp
 ·obtain⟨f,hf,e⟩:=List.mem_map.1 hm;rw[<-e];exact le_trans (h.c f hf).2 zp
def JcE:S.src.funcs.length=S.funcs.length:=by simp[Qap.src]
def JhJ:S.src.clauses.length=S.clauses.length:=by simp[Qap.src]
def Jmk{f:FnA}(h:f∈S.funcs):f.src∈S.src.funcs:=List.mem_map.2 ⟨f,h,rfl⟩
def Jml{c:ClA}(h:c∈S.clauses):c.src∈S.src.clauses:=List.mem_map.2 ⟨c,h,rfl⟩
def Jga(l:By)(w:World)(hl:l.length<=281474976710655)(hL:Laid w)(T:List Tok)(at0:Int)(mG:Qbi l=(T,0,at0)):
  Calls prog 15 #[Sv l] w (PsP w ((Qcc (12*(T.length+1)) T).getD (QaR,0,0))):=by
 obtain⟨X,hX⟩:=yt ((Qcc (12*(T.length+1)) T).getD (QaR,0,0))
 rw[hX];have HX:=Zh hX;obtain⟨rfl,hT,vA,cA,xA⟩:=Z7 mG;obtain⟨f,hf⟩:∃f,f=12*(T.length+1):=⟨_,rfl⟩
 rw[<-hf]at HX;have HF:=Zh hf;have HT:=Zh (And.intro hT (And.intro vA (And.intro cA xA)))
 have aB:Res w (((w.alloc (.cells #[Nl,Nl,Iv 0] 25)).alloc (.cells #[Iv 0] 46)).alloc (.cells #[Iv 0] 3)) #[Nl,Nl,Iv 0] 0 0:=by
  exact QjS
 have gA:=Zh aB;have qB:∀(fn:Fn)(first cap:Array Value)(w:World),(Instr.makeFunc fn first cap).run prog w=.ok (.func fn first cap) w:=λ_ _ _ _=>rfl
 clear aB hX hf hT vA cA xA;go_enter_defers func15,ntmps15;go_wp2_with fail;generalize World.alloc (World.alloc (World.alloc w _) _) _=w1 at*;have bB:=hL.below gA.o.bel;refine(JeD l w1 hl bB).mono ?_;rw[mG];rintro e w2 ⟨v,rfl,zA,hb⟩;obtain⟨va,vc,rfl⟩:=Jv zA;have pB:Hi (w.heap.size+3<=w1.heap.size):=by have:=Jb gA.o.a;unfold Hi;omega
 have tA:=Zh (gA.o.up hb);have HOW:Hi _:=Zh zA;clear gA zA hb mG bB hL;obtain⟨r0,r1,r2,e0,a0,q0,q1,q2,q3,q4⟩:=tA.o.cells;have hA:=Zh ((tA.o.setE 0).setA 0)
 have hB:Hi (((w2.setCell ⟨w.heap.size+1,0,none⟩ (Iv 0)).setCell ⟨w.heap.size+2,0,none⟩ (Iv 0)).ownsRow w1.heap.size 134 4 (.slice va T.length vc) T.length (QaO T)):=by
  have hst:Chg [w.heap.size+1,w.heap.size+2] w2 ((w2.setCell ⟨w.heap.size+1,0,none⟩ (Iv 0)).setCell ⟨w.heap.size+2,0,none⟩ (Iv 0)):=((Chg.refl _ _).setCell (.inl zq) _).setCell (.inl zq) _;refine JA HOW.o hst ?_;intro g hg;have:=pB.o;simp at hg;omega
 have nB:Hi (((w2.setCell ⟨w.heap.size+1,0,none⟩ (Iv 0)).setCell ⟨w.heap.size+2,0,none⟩ (Iv 0)).heap.size=w2.heap.size):=by unfold Hi;simp[World.setCell]
 clear r0 r1 r2 q0 q1 q2 tA HOW;go_wp2_with fail;clear e0 a0 q3 q4;generalize World.setCell (World.setCell w2 _ _) _ _=w3 at*;obtain⟨r0,r1,r2,e0,a0,q0,q1,q2,q3,q4⟩:=hA.o.cells;clear r0 r1 r2 q0 q1 q2 q3 q4 a0;go_wp2_with fail;rw[<-nB.o];obtain⟨hT,vA,cA,xA⟩:=HT.o;obtain⟨A,C,dB,hP⟩:=JnF hB.o cA hT xA;obtain⟨rfl,rfl⟩:va=A/\vc=C:=by injection dB with h1 _ h2;exact⟨h1,h2⟩
 have jA:QdU f T≠.out:=Jhc (zu HF.o);have iB:yr w3 (w3.alloc (.cells #[.slice va T.length vc,Iv 0] 92)):=zO.alloc (Nat.le_refl _) _;have qA:=Zh (hA.o.up iB);have vB:(w3.alloc (.cells #[.slice va T.length vc,Iv 0] 92)).heap.size=w3.heap.size+1:=zq;have O7:Hi (w.heap.size+3<=w3.heap.size):=by have:=Jb hA.o.a;unfold Hi;omega
 have hC:=JjE f w3.heap.size va vc T (zu HF.o) (λt ht=>le_trans (vA t ht) zp) 0 _ hP (by rw[List.drop_zero];exact jA);rw[List.drop_zero]at hC;clear e0 hB iB dB hP hA;generalize kB:w3.alloc (.cells #[.slice va T.length vc,Iv 0] 92)=w4 at*;have uB:=Zh vB;clear vB kB;refine hC.mono ?_
 cases hsp:QdU f T with
 |out=>exact absurd hsp jA
 |bad o=>
  rintro e w5 ⟨rfl,hc⟩;have hX:X=(QaR,2,o):=by rw[<-HX.o];unfold Qcc;rw[hsp];rfl
  have mB:Res w w5 _ 0 0:=qA.o.on hc (by intro b hb;simp at hb;have:=O7.o;omega);rw[hX];exact ZtZ 2 o mB _ rfl rfl rfl
 |ok s r=>
  rintro e w5 ⟨S,hS,rfl,cB,hc⟩;have HB:Hi (Qil S.src):=by unfold Hi;rw[hS];exact Jmj hsp hT vA
  have sA:=Zh (qA.o.on hc (by intro b hb;simp at hb;have:=O7.o;omega));have mA:Hi (w.heap.size+3<=w4.heap.size):=by have:=uB.o;have:=O7.o;unfold Hi;omega
  have yA:Hi (X=QdI S.src):=by rw[hS];exact HX.o.symm.trans (by rw[YU hsp];rfl)
  have kA:=Zh cB;clear hC hc hsp hS cB qA uB O7 jA hT vA cA xA HT HF;generalize w4.heap.size=sb at*;go_wp2_with fail;refine(Jhg w5 sb S kA.o (by rw[<-JcE];exact le_trans HB.o.nf zp) (by rw[<-JhJ];exact le_trans HB.o.nc zp) (Jka HB.o)).mono ?_
  cases hlm:QbN S.src with
  |some o=>
   rintro e w6 ⟨rfl,M2⟩;have hX:X=(QaR,7,o):=yA.o.trans (JhD hlm);rw[hX];exact ZtZ 7 o (sA.o.up M2) _ rfl rfl rfl
  |none=>
  rintro e w6 ⟨rfl,M2⟩;have nA:=Zh (sA.o.up M2);have eA:=Zh (kA.o.on (Chg.of_below M2 []) zq);have xB:=Zh hlm;clear sA kA M2 hlm;go_wp2_with fail;refine(JdU w6 sb S eA.o (by rw[<-JcE];exact le_trans HB.o.nf zp) (by rw[<-JhJ];exact le_trans HB.o.nc zp) (λg hg=>?c1) λc hg=>?c2).mono ?_
  case c1=>
   have q:=HB.o.f _ (Jmk hg);exact⟨q.1.1,le_trans q.2.1 zp,q.1.2,by have h1:g.params.length=g.types.length:=q.2.2.2;have h2:g.types.length<=8194:=q.2.2.1;show g.params.length<=_;omega⟩
  case c2=>
   have q:=HB.o.c _ (Jml hg);exact⟨q.1,le_trans q.2 zp⟩
  intro e w7 h7;unfold RsP at h7
  cases M1:QaZ (Qae S.src).2 with
  |some o=>
   rw[M1]at h7;obtain⟨rfl,r8⟩:=h7;have hX:X=(QaR,16,o):=yA.o.trans (JhE xB.o M1);rw[hX];exact ZtZ 16 o (nA.o.low r8 mA.o) _ rfl rfl rfl
  |none=>
  rw[M1]at h7;obtain⟨rfl,r8,S',zB,bA⟩:=h7;have yB:=Zh (nA.o.low r8 mA.o);replace yA:Hi (X=match QaZ (QbH (Qae S.src).1) with|some o=>(QaR,15,o)|none=>(QaE (Qae S.src).1,0,0)):=yA.o.trans (JjZ xB.o M1);have iA:=JaQ (m:=8194) (λg hg=>HB.o.f g hg) (λc hc=>HB.o.c c hc) M1;rw[<-zB]at iA;rw[<-zB]at yA;have aA:=Zh iA
  have T7:Hi (S'.funcs.length<=8194/\S'.clauses.length<=8194):=by
   have h1:=iA.2.2;have h2:=HB.o.nf;have h3:=HB.o.nc;rw[JcE,JhJ]at h1;exact⟨by omega,by omega⟩
  have uA:=Zh bA;clear nA eA r8 M1 zB bA iA HB xB;go_wp2_with fail;refine(Jhu w7 sb S' uA.o (le_trans T7.o.1 zp) (le_trans T7.o.2 zp) (λg hg=>?c3) λc hg=>?c4).mono ?_
  case c3=>
   have q:=aA.o.1 _ (Jmk hg);rw[JcE]at q;exact⟨q.1,le_trans q.2.1 zp,le_trans q.2.2.1 zp,q.2.2.2⟩
  case c4=>
   have q:=aA.o.2.1 _ (Jml hg);rw[JcE]at q;exact⟨q.1,le_trans q.2.1 zp,q.2.2⟩
  cases nG:QaZ (QbH S'.src) with
  |some o=>
   rintro e w8 ⟨rfl,L5⟩;have hX:X=(QaR,15,o):=by rw[yA.o,nG]
   rw[hX];exact ZtZ 15 o (yB.o.up L5) _ rfl rfl rfl
  |none=>
  rintro e w8 ⟨rfl,L5⟩;have jB:=Zh (yB.o.up L5);have dA:=Zh (uA.o.on (Chg.of_below L5 []) zq);have hX:X=(QaE S'.src,0,0):=by rw[yA.o,nG]
  clear yB uA L5 nG yA HX;subst hX;go_wp2_with fail;refine(Jhy w8 sb S' dA.o (le_trans T7.o.1 zp) (le_trans T7.o.2 zp) (λg hg=>le_trans (aA.o.1 _ (Jmk hg)).2.1 zp) λc hg=>le_trans (aA.o.2.1 _ (Jml hg)).2.1 zp).mono ?_;rintro e w9 ⟨c,rfl,hx,gB⟩;have eB:=Zh hx;have rA:=Zh (jB.o.up gB);obtain⟨fv,cv,rfl,⟨fa,fc,fx,rfl,_⟩,⟨ca,cc,cx,rfl,_⟩⟩:=hx;generalize (QaE S'.src).funcs.length=fl at*;generalize (QaE S'.src).clauses.length=cl at*;obtain⟨r0,r1,r2,e0,a0,q0,q1,q2,q3,q4⟩:=rA.o.cells;have pA:=Zh (((rA.o.setR (.slice fa fl fc) (.slice ca cl cc) (Iv (QaE S'.src).action)).setE 0).setA 0)
  have N6:Hi (QaV (((((w9.setCell ⟨w.heap.size,0,none⟩ (.slice fa fl fc)).setCell ⟨w.heap.size,1,none⟩ (.slice ca cl cc)).setCell ⟨w.heap.size,2,none⟩ (Iv (QaE S'.src).action)).setCell ⟨w.heap.size+1,0,none⟩ (Iv 0)).setCell ⟨w.heap.size+2,0,none⟩ (Iv 0)) (λb=>w.heap.size<=b/\b<(((((w9.setCell ⟨w.heap.size,0,none⟩ (.slice fa fl fc)).setCell ⟨w.heap.size,1,none⟩ (.slice ca cl cc)).setCell ⟨w.heap.size,2,none⟩ (Iv (QaE S'.src).action)).setCell ⟨w.heap.size+1,0,none⟩ (Iv 0)).setCell ⟨w.heap.size+2,0,none⟩ (Iv 0)).heap.size) (QaE S'.src) (zY fa fl fc ca cl cc (QaE S'.src).action)):=by
   have hst:Chg [w.heap.size,w.heap.size+1,w.heap.size+2] w9 (((((w9.setCell ⟨w.heap.size,0,none⟩ (.slice fa fl fc)).setCell ⟨w.heap.size,1,none⟩ (.slice ca cl cc)).setCell ⟨w.heap.size,2,none⟩ (Iv (QaE S'.src).action)).setCell ⟨w.heap.size+1,0,none⟩ (Iv 0)).setCell ⟨w.heap.size+2,0,none⟩ (Iv 0)):=(((((Chg.refl _ _).setCell (.inl zq) _).setCell (.inl zq) _).setCell (.inl zq) _).setCell (.inl zq) _).setCell (.inl zq) _;have h1:=mA.o;exact eB.o.keep (λb hb=>hst.block b hb.2 (by have:=hb.1;simp;omega)) λb hb=>⟨by have:=hb.1;omega,Nat.lt_of_lt_of_le hb.2 hst.size⟩
  clear jB dA gB rA eB aA T7;go_wp2_with fail;exact Jmi pA.o rfl N6.o _ rfl rfl rfl
def Qdn(l:By)(w:World)(hl:l.length<=281474976710655)(hL:Laid w):Calls prog 15 #[Sv l] w (PsP w (Qcl l)):=by
 unfold Qcl
 by_cases h:(Qbi l).2.1=0
 ·rw[if_pos h];exact Jga l w hl hL _ (Qbi l).2.2 (by rw[<-h])
 ·rw[if_neg h];exact JfZ l w hl hL h
open Go Go.Lib
def ltB(a b:By):Bool:=Op.bytesLess a b
mutual
def utN:Exp->Nd
 |.mk k n s l=>.mk k n s 0 (utL l)
def utL:List Exp->List Nd
 |[]=>[]
 |a::l=>utN a::utL l
end
def Qam(nf M0:Nat)(k n:Int)(s:By):Bool:=
 (if k=0 then decide (0<=n)&&decide (n<=1125899906842624)
  else if k=1 then n==0||n==1
  else if k=2 then decide (0<=n)&&decide (n<(M0:Int))
  else if k=19 then n==(M0:Int)
  else if k=20 then decide (0<=n)&&decide (n<(nf:Int))
  else n==0) &&
 (if k=3 then (QaU s).isSome else if k=4\/k=5 then QcD s else s==[])&&decide (0<=k)&&decide (k<21)
def QaM(pa:List Nat)(k n:Int):Nat:=
 if k=0\/k=1\/k=2\/k=3\/k=4\/k=5 then 0
 else if k=6\/k=7 then 1
 else if k=18 then 3
 else if k=20 then pa.getD n.toNat 0
 else 2
mutual
def QaK(pa:List Nat):Nat->Nat->Exp->Bool
 |M0,Qag,.mk k n s l=>decide (1<=Qag)&&Qam pa.length M0 k n s&&l.length==QaM pa k n&&QaB pa M0 (Qag-1) k 0 l
def QaB(pa:List Nat):Nat->Nat->Int->Nat->List Exp->Bool
 |_,_,_,_,[]=>true
 |M0,Qag,k,i,a::l=>QaK pa (if k=19/\i=1 then M0+1 else M0) Qag a&&QaB pa M0 Qag k (i+1) l
end
def Qah.pa(r:Qah):List Nat:=r.funcs.map (·.params.length)
def Qah.sigs(r:Qah):List QaN:=r.funcs.map λf=>⟨f.params,f.result⟩
def Qbq(r:Qah):Bool:=r.funcs.all (λf=>QaK r.pa f.params.length 40 f.body)&&r.clauses.all λc=>QaK r.pa 0 40 c.cond
def Qbz(r:Qah):Bool:=r.funcs.all (λf=>QcT r.sigs f.params f.result (utN f.body)==[])&&r.clauses.all λc=>QcT r.sigs [] 1 (utN c.cond)==[]
def QbY(t:Int):Bool:=t==0||t==1
def QbU:List By->List FnM->Bool
 |_,[]=>true
 |seen,f::l=>Qbr f.name&&!decide (f.name∈seen)&&QbY f.result&&f.params.all QbY&&QbU (seen++[f.name]) l
def QdR(n:Int):Bool:=decide (0<=n)&&decide (n<=3)
def QgH(l:List ClM):Bool:=l.all λc=>QdR c.action&&QcD c.reason
def Qat(r:Qah):Bool:=QbU [] r.funcs&&QgH r.clauses&&QdR r.action&&Qbq r&&Qbz r
structure Qaj where
 labels:List (By×Int)
 likes:Int
 boosts:Int
 replies:Int
 reports:Int
 age:Int
 home:Int
 scope:Int
 length:Int
 follows:Bool
 reply:Bool
 words:List By
def QfR(n:Int):Bool:=decide (0<=n)&&decide (n<=1125899906842624)
def Qaj.nums(f:Qaj):List Int:=[f.likes,f.boosts,f.replies,f.reports,f.age,f.home,f.scope,f.length]
def Qba:Option By->List (By×Int)->Bool
 |_,[]=>true
 |p,c::l=>decide (1<=c.2)&&decide (c.2<=1125899906842624)&&(match p with|none=>true|some q=>ltB q c.1)&&Qba (some c.1) l
def Qcz:Option By->List By->Bool
 |_,[]=>true
 |p,c::l=>(match p with|none=>true|some q=>ltB q c)&&Qcz (some c) l
def QaF(f:Qaj):Bool:=f.nums.all QfR&&Qba none f.labels&&Qcz none f.words
def Qcs(b:Bool):Int:=if b=true then 1 else 0
def QcM(f:Qaj)(s:By):Int:=
 if s=Qco then f.likes else if s=Qch then f.boosts else if s=QbD then f.replies else if s=QbC then f.reports
 else if s=QfI then f.age else if s=QdQ then f.home else if s=QcS then f.scope else if s=Qcg then f.length
 else if s=QbE then Qcs f.follows else Qcs f.reply
def Qcm:List (By×Int)->By->Int
 |[],_=>0
 |c::l,s=>if c.1=s then c.2 else Qcm l s
def QcZ(l:List By)(s:By):Int:=Qcs (decide (s∈l))
inductive RN(α:Type) where
 |fault (er:Int) (used:Nat)
 |val (a:α) (used:Nat)
variable{α:Type}
def RN.bind{β:Type}(x:RN α)(f:α->Nat->RN β):RN β:=match x with|.fault e u=>.fault e u|.val a u=>f a u
def clI(n:Int):Int:=if n < -1125899906842624 then -1125899906842624 else if 1125899906842624<n then 1125899906842624 else n
def Qax(k a b:Int)(u:Nat):RN Int:=
 if k=6 then .val (clI (0-a)) u
 else if k=7 then .val (1-a) u
 else if k=8 then .val (clI (a+b)) u
 else if k=9 then .val (clI (a-b)) u
 else if k=10 then .val (clI (a*b)) u
 else if k=11 then (if b=0 then .fault 1 u else .val (clI (a.tdiv b)) u)
 else if k=12 then (if b=0 then .fault 1 u else .val (clI (a.tmod b)) u)
 else if k=13 then .val (Qcs (decide (a<b))) u
 else if k=14 then .val (Qcs (decide (a<=b))) u
 else .val (Qcs (decide (a=b))) u
mutual
def evN(call:Int->List Int->Nat->RN Int)(F:Qaj):List Int->Nat->Exp->RN Int
 |M0,u,.mk k n s l=>
  if k=0\/k=1 then .val n u
  else if k=2 then .val (M0.getD n.toNat 0) u
  else if k=3 then .val (QcM F s) u
  else if k=4 then .val (Qcm F.labels s) u
  else if k=5 then .val (QcZ F.words s) u
  else if k=16 then
   match l with
   |[a,b]=>(evN call F M0 u a).bind λv u'=>if v=0 then .val 0 u' else evN call F M0 u' b
   |_=>.val 0 u
  else if k=17 then
   match l with
   |[a,b]=>(evN call F M0 u a).bind λv u'=>if v=0 then evN call F M0 u' b else .val 1 u'
   |_=>.val 0 u
  else if k=18 then
   match l with
   |[c,a,b]=>(evN call F M0 u c).bind λv u'=>if v=0 then evN call F M0 u' b else evN call F M0 u' a
   |_=>.val 0 u
  else if k=19 then
   match l with
   |[a,b]=>(evN call F M0 u a).bind λv u'=>evN call F (M0++[v]) u' b
   |_=>.val 0 u
  else (evL call F M0 u l).bind λvs u'=>if k=20 then call n vs u' else Qax k (vs.getD 0 0) (vs.getD 1 0) u'
def evL(call:Int->List Int->Nat->RN Int)(F:Qaj):List Int->Nat->List Exp->RN (List Int)
 |_,u,[]=>.val [] u
 |M0,u,a::l=>(evN call F M0 u a).bind λv u'=>(evL call F M0 u' l).bind λvs u''=>.val (v::vs) u''
end
def J5(call:Int->List Int->Nat->RN Int)(F:Qaj)(M0:List Int)(u:Nat)(k n:Int)(s:By)(l:List Exp):evN call F M0 u (.mk k n s l) =
  if k=0\/k=1 then .val n u
  else if k=2 then .val (M0.getD n.toNat 0) u
  else if k=3 then .val (QcM F s) u
  else if k=4 then .val (Qcm F.labels s) u
  else if k=5 then .val (QcZ F.words s) u
  else if k=16 then
   match l with
   |[a,b]=>(evN call F M0 u a).bind λv u'=>if v=0 then .val 0 u' else evN call F M0 u' b
   |_=>.val 0 u
  else if k=17 then
   match l with
   |[a,b]=>(evN call F M0 u a).bind λv u'=>if v=0 then evN call F M0 u' b else .val 1 u'
   |_=>.val 0 u
  else if k=18 then
   match l with
   |[c,a,b]=>(evN call F M0 u c).bind λv u'=>if v=0 then evN call F M0 u' b else evN call F M0 u' a
   |_=>.val 0 u
  else if k=19 then
   match l with
   |[a,b]=>(evN call F M0 u a).bind λv u'=>evN call F (M0++[v]) u' b
   |_=>.val 0 u
  else (evL call F M0 u l).bind λvs u'=>if k=20 then call n vs u' else Qax k (vs.getD 0 0) (vs.getD 1 0) u':=by
 conv=>lhs;unfold evN
def Zd(fs:List QaN)(M0:List Int)(k n:Int)(s:By)(o:Int)(l:List Nd):ofN fs M0 (.mk k n s o l) =
  if k=1\/k=5 then (1,[])
  else if k=2 then (M0.getD n.toNat 0,[])
  else if k=3 then ((QaU s).getD 0,[])
  else if k=6\/(8<=k/\k<=12) then (0,Qbp fs M0 0 l)
  else if k=13\/k=14 then (1,Qbp fs M0 0 l)
  else if k=15 then
   match l with
   |[a,b]=>let x:=ofN fs M0 a;let y:=ofN fs M0 b;(1,x.2++y.2++if y.1≠x.1 then [b.off] else [])
   |_=>(1,[])
  else if k=7\/k=16\/k=17 then (1,Qbp fs M0 1 l)
  else if k=18 then
   match l with
   |[c,a,b]=>let z:=ofN fs M0 c;let x:=ofN fs M0 a;let y:=ofN fs M0 b;(x.1,z.2++(if z.1≠1 then [c.off] else [])++x.2++y.2++if y.1≠x.1 then [b.off] else [])
   |_=>(0,[])
  else if k=19 then
   match l with
   |[a,b]=>let x:=ofN fs M0 a;let y:=ofN fs (M0++[x.1]) b;(y.1,x.2++y.2)
   |_=>(0,[])
  else if k=20 then
   let f:=fs.getD n.toNat ⟨[],0⟩
   (f.result,(if l.length≠f.params.length then [o] else [])++QcX fs M0 (l.length==f.params.length) f.params l)
  else (0,[]):=by
 conv=>lhs;unfold ofN
 rfl
def Qjb:Exp:=.mk 0 0 [] []
def Qja:FnM:=⟨[],[],0,Qjb⟩
def Qcb(fs:List FnM)(F:Qaj):Nat->Int->List Int->Nat->RN Int
 |0,_,_,u=>if u=10000 then .fault 14 u else .fault 7 (u+1)
 |d+1,n,args,u=>if u=10000 then .fault 14 u else evN (Qcb fs F d) F args (u+1) (fs.getD n.toNat Qja).body
structure QeD where
 action:Int
 reason:By
 used:Nat
 fault:Int
deriving DecidableEq
def Qfc(r:Qah)(F:Qaj):Nat->List ClM->QeD
 |u,[]=>⟨r.action,[],u,0⟩
 |u,c::l=>
  if u=10000 then⟨0,[],u,14⟩
  else match evN (Qcb r.funcs F 100) F [] (u+1) c.cond with
   |.fault e u'=>⟨0,[],u',e⟩
   |.val v u'=>if v=0 then Qfc r F u' l else⟨c.action,c.reason,u',0⟩
def QdM(r:Qah)(F:Qaj):QeD:=if Qat r=true/\QaF F=true then Qfc r F 0 r.clauses else⟨0,[],0,1⟩
def VOk(t v:Int):Prop:=(t=0/\-1125899906842624<=v/\v<=1125899906842624)\/(t=1/\(v=0\/v=1))
def QdC(ts vs:List Int):Prop:=ts.length=vs.length/\∀(i:Nat)(t v:Int),ts[i]?=some t->vs[i]?=some v->VOk t v
def QdC.nil:QdC [] []:=⟨rfl,λi t v h=>by simp at h⟩
def QdC.cons{v:Int}{ts vs:List Int}(h:VOk t v)(k:QdC ts vs):QdC (t::ts) (v::vs):=by
 refine⟨by simp[k.1],λi a b ha hb=>?_⟩
 cases i with
 |zero=>simp at ha hb;subst ha;subst hb;exact h
 |succ i=>simp at ha hb;exact k.2 i a b ha hb
def QdC.snoc{v:Int}{ts vs:List Int}(k:QdC ts vs)(h:VOk t v):QdC (ts++[t]) (vs++[v]):=by
 refine⟨by simp[k.1],λi a b ha hb=>?_⟩
 by_cases hi:i<ts.length
 ·rw[List.getElem?_append_left hi]at ha;rw[List.getElem?_append_left (by rw[<-k.1];exact hi)]at hb;exact k.2 i a b ha hb
 ·rw[List.getElem?_append_right zo]at ha;rw[List.getElem?_append_right (by rw[<-k.1];omega),<-k.1]at hb;have:i-ts.length=0:=by have:=(List.getElem?_eq_some_iff.1 ha).1;simp at this;omega
  rw[this]at ha hb;simp at ha hb;subst ha;subst hb;exact h
def Qev{α:Type}(R:α->Prop)(u:Nat):RN α->Prop
 |.fault e u'=>u<=u'/\u'<=10000/\(e=1\/e=7\/e=14/\u'=10000)
 |.val v u'=>u<=u'/\u'<=10000/\R v
def Qev.bind{β:Type}{R:α->Prop}{S:β->Prop}{x:RN α}{f:α->Nat->RN β}(h:Qev R u x)(k:∀v u',u<=u'->u'<=10000->R v->Qev S u' (f v u')):Qev S u (x.bind f):=by
 cases x with
 |fault e u'=>exact h
 |val v u'=>
  obtain⟨h1,h2,h3⟩:=h;have:=k v u' h1 h2 h3;unfold RN.bind;simp only
  cases hf:f v u' with
  |fault e u2=>rw[hf]at this;exact⟨by have:=this.1;omega,this.2⟩
  |val v2 u2=>rw[hf]at this;exact⟨by have:=this.1;omega,this.2⟩
def Qev.le{R:α->Prop}{u':Nat}{x:RN α}(h:Qev R u' x)(hu:u<=u'):Qev R u x:=by
 cases x with
 |fault e v=>exact⟨by have:=h.1;omega,h.2⟩
 |val a v=>exact⟨by have:=h.1;omega,h.2⟩
def TyL(fs:List QaN)(M0:List Int):List Int->List Nd->Prop
 |[],[]=>True
 |t::ts,a::l=>ofN fs M0 a=(t,[])/\TyL fs M0 ts l
 |_,_=>False
variable{fs:List QaN}
def V9{M0:List Int}{a:Nd}(h:QcT fs M0 t a=[]):ofN fs M0 a=(t,[]):=by
 unfold QcT at h;simp only[append_eq_nil_iff]at h;obtain⟨h1,h2⟩:=h;split at h2
 ·cases h2
 ·rename_i hn;simp at hn;exact Prod.ext hn h1
def J9{fs:List QaN}{M0:List Int}{t:Int}:∀{l:List Nd},Qbp fs M0 t l=[]->TyL fs M0 (List.replicate l.length t) l
 |[],_=>trivial
 |a::l,h=>by
  rw[Qbp]at h;simp only[append_eq_nil_iff]at h;exact⟨V9 (by unfold QcT;simp only[append_eq_nil_iff];exact h.1),J9 h.2⟩
def JbE{fs:List QaN}{M0:List Int}:∀{ps:List Int}{l:List Nd},l.length=ps.length->QcX fs M0 true ps l=[]->TyL fs M0 ps l
 |[],[],_,_=>trivial
 |[],a::l,hl,_=>by simp at hl
 |p::ps,[],hl,_=>by simp at hl
 |p::ps,a::l,hl,h=>by
  rw[QcX]at h;simp only[append_eq_nil_iff,true_and,List.headD_cons,List.tail_cons]at h;refine⟨V9 (t:=p) (by unfold QcT;simp only[append_eq_nil_iff];exact h.1),JbE (by simpa using hl) h.2⟩
def Ya(b:Bool):VOk 1 (Qcs b):=by cases b<;>exact .inr ⟨rfl,by simp[Qcs]⟩
def JhK(n:Int):VOk 0 (clI n):=by
 refine .inl ⟨rfl,?_⟩;unfold clI;split
 ·omega
 split<;>omega
def Jlg(h:QfR n=true):VOk 0 n:=by simp[QfR]at h;exact .inl ⟨rfl,by omega,by omega⟩
def Jkb{F:Qaj}(h:QaF F=true)(ht:QaU s=some t):VOk t (QcM F s):=by
 unfold QaF Qaj.nums at h;simp only[List.all_cons,List.all_nil,Bool.and_true,Bool.and_eq_true]at h;obtain⟨⟨⟨h1,h2,h3,h4,h5,h6,h7,h8⟩,_⟩,_⟩:=h;unfold QaU at ht;split at ht
 ·rename_i hm;obtain rfl:(0:Int)=t:=by simpa using ht
  simp only[List.mem_cons,List.not_mem_nil,or_false]at hm
  rcases hm with rfl|rfl|rfl|rfl|rfl|rfl|rfl|rfl<;>refine Jlg ?_<;>simp only[QcM,Qco,Qch,QbD,QbC,QfI,QdQ,QcS,Qcg]<;>simp<;>assumption
 ·split at ht
  ·rename_i hm;obtain rfl:(1:Int)=t:=by simpa using ht
   simp only[List.mem_cons,List.not_mem_nil,or_false]at hm
   rcases hm with rfl|rfl
   ·rw[show QcM F QbE=Qcs F.follows by simp[QcM,Qco,Qch,QbD,QbC,QfI,QdQ,QcS,Qcg,QbE]];exact Ya _
   ·rw[show QcM F Qep=Qcs F.reply by simp[QcM,Qco,Qch,QbD,QbC,QfI,QdQ,QcS,Qcg,QbE,Qep]];exact Ya _
  ·cases ht
def JbF:∀{l:List (By×Int)}{p:Option By}(s:By),Qba p l=true->VOk 0 (Qcm l s)
 |[],_,s,_=>.inl ⟨rfl,by simp[Qcm],by simp[Qcm]⟩
 |c::l,p,s,h=>by
  unfold Qba at h;simp only[Bool.and_eq_true,decide_eq_true_eq]at h;rw[Qcm];split
  ·exact .inl ⟨rfl,by omega,by omega⟩
  ·exact JbF s h.2
def JcF{F:Qaj}(h:QaF F=true):Qba none F.labels=true:=by
 unfold QaF at h;simp only[Bool.and_eq_true]at h;exact h.1.2
def JdX(h0:0<=n)(h1:n<(fs.length:Int)):∃f,fs[n.toNat]?=some f:=⟨fs[n.toNat]'(by omega),List.getElem?_eq_getElem _⟩
def JT{l:List Exp}(h:l.length=2):∃a b,l=[a,b]:=by
 match l,h with
 |[a,b],_=>exact⟨a,b,rfl⟩
def Vb{l:List Exp}(h:l.length=3):∃a b c,l=[a,b,c]:=by
 match l,h with
 |[a,b,c],_=>exact⟨a,b,c,rfl⟩
def Jz(l:List Exp):(utL l).length=l.length:=by
 induction l with
 |nil=>rw[utL];rfl
 |cons a l ih=>rw[utL,List.length_cons,List.length_cons,ih]
def JI{pa:List Nat}{Qag:Nat}{l:List Exp}(h:QaK pa M0 Qag (.mk k n s l)=true):
  1<=Qag/\Qam pa.length M0 k n s=true/\l.length=QaM pa k n/\QaB pa M0 (Qag-1) k 0 l=true:=by
 rw[QaK]at h;simp only[Bool.and_eq_true,decide_eq_true_eq,beq_iff_eq]at h;exact⟨h.1.1.1,h.1.1.2,h.1.2,h.2⟩
def Yy(h:Qam nf M0 k n s=true):k=0\/k=1\/k=2\/k=3\/k=4\/k=5\/k=6\/k=7\/(8<=k/\k<=14)\/k=15\/k=16\/k=17\/k=18\/k=19\/k=20:=by
 unfold Qam at h;simp only[Bool.and_eq_true,decide_eq_true_eq]at h;omega
def JbG{b:Int}(hu:u<=10000)(ha:VOk (if k=7 then 1 else 0) a)(hb:k≠6->k≠7->VOk 0 b)(hk:k=6\/k=7\/(8<=k/\k<=14)):Qev (VOk (if 13<=k\/k=7 then 1 else 0)) u (Qax k a b u):=by
 unfold Qax
 by_cases h6:k=6
 ·subst h6;simp only[if_true];exact⟨le_refl _,hu,by simpa using JhK _⟩
 rw[if_neg h6]
 by_cases h7:k=7
 ·subst h7;simp only[if_true];refine⟨le_refl _,hu,?_⟩
  rcases ha with⟨h,_⟩|⟨_,h⟩
  ·exact absurd h zp
  ·refine .inr ⟨rfl,?_⟩;omega
 rw[if_neg h7];generalize hG:(if 13<=k\/k=7 then (1:Int) else 0)=G;have hlo:∀n:Int,k<=12->Qev (VOk G) u (.val (clI n) u):=λn hn=>by rw[if_neg zo]at hG;subst hG;exact⟨le_refl _,hu,JhK n⟩
 have xA:∀n:Bool,13<=k->Qev (VOk G) u (.val (Qcs n) u):=λn hn=>by rw[if_pos (.inl hn)]at hG;subst hG;exact⟨le_refl _,hu,Ya n⟩
 split
 ·exact hlo _ zo
 split
 ·exact hlo _ zo
 split
 ·exact hlo _ zo
 split
 ·split
  ·exact⟨le_refl _,hu,.inl rfl⟩
  ·exact hlo _ zo
 split
 ·split
  ·exact⟨le_refl _,hu,.inl rfl⟩
  ·exact hlo _ zo
 split
 ·exact xA _ zo
 split
 ·exact xA _ zo
 ·exact xA _ zo
def JoF(a b:Int)(hu:u<=10000):Qev (VOk 1) u (Qax 15 a b u):=by
 unfold Qax;simp only[show ¬(15:Int)=6 by decide,show ¬(15:Int)=7 by decide,show ¬(15:Int)=8 by decide,show ¬(15:Int)=9 by decide,show ¬(15:Int)=10 by decide,show ¬(15:Int)=11 by decide,show ¬(15:Int)=12 by decide,show ¬(15:Int)=13 by decide,show ¬(15:Int)=14 by decide,if_false];exact⟨le_refl _,hu,Ya _⟩
def Qet(fs:List QaN)(call:Int->List Int->Nat->RN Int):Prop:=∀n args u f,0<=n->fs[n.toNat]?=some f->QdC f.params args->u<=10000->Qev (VOk f.result) u (call n args u)
def QbP(fs:List QaN):List Nat:=fs.map (·.params.length)
def K5(fs:List QaN):(QbP fs).length=fs.length:=by simp[QbP]
def TyL.two{M0:List Int}{t1 t2:Int}{a:Nd}(h:TyL fs M0 [t1,t2] [a,b]):ofN fs M0 a=(t1,[])/\ofN fs M0 b=(t2,[]):=⟨h.1,h.2.1⟩
def Kb{pa:List Nat}{Qag:Nat}{a b:Exp}(h:QaB pa M0 Qag k 0 [a,b]=true):QaK pa M0 Qag a=true/\QaK pa (if k=19 then M0+1 else M0) Qag b=true:=by
 rw[QaB,QaB,QaB]at h;simp at h;exact h
def Yb{pa:List Nat}{Qag:Nat}{a b c:Exp}(hk:k≠19)(h:QaB pa M0 Qag k 0 [a,b,c]=true):QaK pa M0 Qag a=true/\QaK pa M0 Qag b=true/\QaK pa M0 Qag c=true:=by
 rw[QaB,QaB,QaB,QaB]at h;simp[hk]at h;exact h
mutual
def KA{fs:List QaN}{F:Qaj}{call:Int->List Int->Nat->RN Int}(hF:QaF F=true)(hc:Qet fs call):
  ∀(e:Exp)(M0 vals:List Int)(Qag u:Nat)(t:Int),QaK (QbP fs) M0.length Qag e=true->ofN fs M0 (utN e)=(t,[])->QdC M0 vals->u<=10000->Qev (VOk t) u (evN call F vals u e)
 |.mk k n s l,M0,vals,Qag,u,t,hf,ht,hv,hu=>by
  obtain⟨_,hfi,har,hk⟩:=JI hf;have s8:=Yy hfi;have hfi':=hfi;unfold Qam at hfi;rw[K5]at hfi;simp only[Bool.and_eq_true,decide_eq_true_eq]at hfi;obtain⟨⟨⟨hn,hs⟩,_⟩,_⟩:=hfi;rw[utN,Zd]at ht;rw[J5]
  rcases s8 with rfl|rfl|rfl|rfl|rfl|rfl|rfl|rfl|h8|rfl|rfl|rfl|rfl|rfl|rfl
  ·
   simp at ht hn |-;subst ht;exact⟨le_refl _,hu,.inl ⟨rfl,by omega,by omega⟩⟩
  ·
   simp at ht hn |-;subst ht;exact⟨le_refl _,hu,.inr ⟨rfl,hn⟩⟩
  ·
   simp at ht hn |-;refine⟨le_refl _,hu,?_⟩;have h1:n.toNat<M0.length:=by omega
   have h2:n.toNat<vals.length:=by rw[<-hv.1];exact h1
   rw[List.getElem?_eq_getElem h1]at ht;rw[List.getElem?_eq_getElem h2];simp at ht |-;subst ht;exact hv.2 _ _ _ (List.getElem?_eq_getElem h1) (List.getElem?_eq_getElem h2)
  ·
   simp at ht hn hs |-;obtain⟨t',ht'⟩:=Option.isSome_iff_exists.1 hs;rw[ht']at ht;simp at ht;subst ht;exact⟨le_refl _,hu,Jkb hF ht'⟩
  ·
   simp at ht |-;subst ht;exact⟨le_refl _,hu,JbF s (JcF hF)⟩
  ·
   simp at ht |-;subst ht;exact⟨le_refl _,hu,Ya _⟩
  ·
   simp at ht |-;obtain⟨rfl,ht⟩:=ht;have hl:l.length=1:=har;have hty:=J9 ht;rw[Jz,hl]at hty;refine(VB hF hc l M0 vals (Qag-1) u [0] 6 0 (by decide) hk hty hv hu).bind λvs u' h1 h2 h3=>?_
   have h0:vs.length=1:=h3.1.symm
   match vs,h0,h3 with
   |[a],_,h3=>exact JbG (k:=6) h2 (h3.2 0 0 a rfl rfl) (λh=>absurd rfl h) (.inl rfl)
  ·
   simp at ht |-;obtain⟨rfl,ht⟩:=ht;have hl:l.length=1:=har;have hty:=J9 ht;rw[Jz,hl]at hty;refine(VB hF hc l M0 vals (Qag-1) u [1] 7 0 (by decide) hk hty hv hu).bind λvs u' h1 h2 h3=>?_
   have h0:vs.length=1:=h3.1.symm
   match vs,h0,h3 with
   |[a],_,h3=>exact JbG (k:=7) h2 (h3.2 0 1 a rfl rfl) (λ_ h=>absurd rfl h) (.inr (.inl rfl))
  ·
   have hl:l.length=2:=by rw[har];unfold QaM;(iterate 4 rw[if_neg (by omega)])
   obtain⟨h81,h82⟩:=h8
   have hty:TyL fs M0 [0,0] (utL l)/\t=if 13<=k\/k=7 then 1 else 0:=by
    by_cases m6:13<=k
    ·(iterate 4 rw[if_neg (by omega)]at ht);rw[if_pos (by omega)]at ht;simp at ht;have hty:=J9 ht.2;rw[Jz,hl]at hty;exact⟨hty,by rw[if_pos (.inl m6)];exact ht.1.symm⟩
    ·rw[if_neg (by omega),if_neg (by omega),if_neg (by omega),if_pos (by omega)]at ht;simp at ht;have hty:=J9 ht.2;rw[Jz,hl]at hty;exact⟨hty,by rw[if_neg (by omega)];exact ht.1.symm⟩
   obtain⟨hty,ht'⟩:=hty;(iterate 9 rw[if_neg (by omega)]);refine(VB hF hc l M0 vals (Qag-1) u [0,0] k 0 (by omega) hk hty hv hu).bind λvs u' h1 h2 h3=>?_
   have h0:vs.length=2:=h3.1.symm;rw[if_neg (by omega),ht']
   match vs,h0,h3 with
   |[a,b],_,h3=>exact JbG h2 (by rw[if_neg (by omega)];exact h3.2 0 0 a rfl rfl) (λ_ _=>h3.2 1 0 b rfl rfl) (by omega)
  ·
   have hl:l.length=2:=har;obtain⟨a,b,rfl⟩:=JT hl;simp[utL]at ht |-;obtain⟨rfl,h1,h2,h3⟩:=ht;refine(VB hF hc [a,b] M0 vals (Qag-1) u [(ofN fs M0 (utN a)).1,(ofN fs M0 (utN b)).1] 15 0 (by decide) hk (by rw[utL,utL,utL];exact⟨Prod.ext rfl h1,Prod.ext rfl h2,trivial⟩) hv hu).bind λvs u' _ h2 _=>?_
   exact JoF _ _ h2
  ·
   have hl:l.length=2:=har;obtain⟨a,b,rfl⟩:=JT hl;simp at ht |-;obtain⟨rfl,ht⟩:=ht;have hty:=J9 ht;rw[Jz,hl,utL,utL,utL]at hty;obtain⟨ha,hb⟩:=TyL.two hty;obtain⟨fa,fb⟩:=Kb hk;simp at fb;refine(KA hF hc a M0 vals _ u 1 fa ha hv hu).bind λv u' h1 h2 h3=>?_
   split
   ·exact⟨le_refl _,h2,.inr ⟨rfl,.inl rfl⟩⟩
   ·exact KA hF hc b M0 vals _ u' 1 fb hb hv h2
  ·
   have hl:l.length=2:=har;obtain⟨a,b,rfl⟩:=JT hl;simp at ht |-;obtain⟨rfl,ht⟩:=ht;have hty:=J9 ht;rw[Jz,hl,utL,utL,utL]at hty;obtain⟨ha,hb⟩:=TyL.two hty;obtain⟨fa,fb⟩:=Kb hk;simp at fb;refine(KA hF hc a M0 vals _ u 1 fa ha hv hu).bind λv u' h1 h2 h3=>?_
   split
   ·exact KA hF hc b M0 vals _ u' 1 fb hb hv h2
   ·exact⟨le_refl _,h2,.inr ⟨rfl,.inr rfl⟩⟩
  ·
   have hl:l.length=3:=har;obtain⟨c,a,b,rfl⟩:=Vb hl;simp[utL]at ht |-;obtain⟨h0,h1,h2,h3,h4,h5⟩:=ht;obtain⟨fc,fa,fb⟩:=Yb (by decide) hk;refine(KA hF hc c M0 vals _ u 1 fc (Prod.ext h2 h1) hv hu).bind λv u' g1 g2 g3=>?_
   split
   ·exact KA hF hc b M0 vals _ u' t fb (Prod.ext (h5.trans h0) h4) hv g2
   ·exact KA hF hc a M0 vals _ u' t fa (Prod.ext h0 h3) hv g2
  ·
   have hl:l.length=2:=har;obtain⟨a,b,rfl⟩:=JT hl;simp[utL]at ht |-;obtain⟨h1,h2,h3⟩:=ht;obtain⟨fa,fb⟩:=Kb hk;simp at fb;have ha:ofN fs M0 (utN a)=((ofN fs M0 (utN a)).1,[]):=Prod.ext rfl h2;have hb:ofN fs (M0++[(ofN fs M0 (utN a)).1]) (utN b)=(t,[]):=Prod.ext h1 h3;refine(KA hF hc a M0 vals _ u (ofN fs M0 (utN a)).1 fa ha hv hu).bind λv u' g1 g2 g3=>?_
   exact KA hF hc b (M0++[(ofN fs M0 (utN a)).1]) (vals++[v]) _ u' t (by rw[List.length_append];exact fb) hb (hv.snoc g3) g2
  ·
   simp at ht hn |-;obtain⟨f,hf'⟩:=JdX hn.1 hn.2;rw[hf']at ht;simp at ht;obtain⟨rfl,h1,h2⟩:=ht;have h1':(utL l).length=f.params.length:=h1;rw[h1']at h2;simp at h2;have hty:=JbE h1' h2;refine(VB hF hc l M0 vals (Qag-1) u f.params 20 0 (by decide) hk hty hv hu).bind λvs u' g1 g2 g3=>?_
   exact hc n vs u' f hn.1 hf' g3 g2
def VB{fs:List QaN}{F:Qaj}{call:Int->List Int->Nat->RN Int}(hF:QaF F=true)(hc:Qet fs call):
  ∀(l:List Exp)(M0 vals:List Int)(Qag u:Nat)(ts:List Int)(k:Int)(i:Nat),k≠19->QaB (QbP fs) M0.length Qag k i l=true->TyL fs M0 ts (utL l)->QdC M0 vals->u<=10000->Qev (QdC ts) u (evL call F vals u l)
 |[],M0,vals,Qag,u,ts,k,i,hk,hf,ht,hv,hu=>by
  rw[utL]at ht;rw[evL]
  cases ts with
  |nil=>exact⟨le_refl _,hu,QdC.nil⟩
  |cons t ts=>exact ht.elim
 |a::l,M0,vals,Qag,u,ts,k,i,hk,hf,ht,hv,hu=>by
  rw[utL]at ht;rw[evL];rw[QaB]at hf;simp only[Bool.and_eq_true]at hf;rw[if_neg λh=>hk h.1]at hf
  cases ts with
  |nil=>exact ht.elim
  |cons t ts=>
   refine(KA hF hc a M0 vals Qag u t hf.1 ht.1 hv hu).bind λv u' g1 g2 g3=>?_
   refine(VB hF hc l M0 vals Qag u' ts k (i+1) hk hf.2 ht.2 hv g2).bind λvs u2 k1 k2 k3=>?_
   exact⟨le_refl _,k2,QdC.cons g3 k3⟩
end
def JhL(h:(QaU s).isSome=true):s.length<=1000000:=by
 unfold QaU at h;split at h
 ·rename_i hm;simp only[List.mem_cons,List.not_mem_nil,or_false]at hm
  rcases hm with rfl|rfl|rfl|rfl|rfl|rfl|rfl|rfl<;>decide
 ·split at h
  ·rename_i hm;simp only[List.mem_cons,List.not_mem_nil,or_false]at hm
   rcases hm with rfl|rfl<;>decide
  ·cases h
def JdY(h:Qam nf M0 k n s=true):s.length<=1000000:=by
 unfold Qam at h;simp only[Bool.and_eq_true,decide_eq_true_eq]at h;have hs:=h.1.1.2;split at hs
 ·exact JhL hs
 split at hs
 ·unfold QcD at hs;simp only[Bool.and_eq_true,decide_eq_true_eq]at hs;omega
 ·simp at hs;subst hs;simp
mutual
def Yz{pa:List Nat}:∀(e:Exp)(M0 Qag:Nat),QaK pa M0 Qag e=true->QdK pa.length M0 (utN e)/\WfN (utN e)
 |.mk k n s l,M0,Qag,h=>by
  obtain⟨_,hf,ha,hl⟩:=JI h;have T4:=JdY hf;have hlen:=Jz l
  by_cases M3:k=19
  ·subst M3;obtain⟨a,b,rfl⟩:=JT (show l.length=2 from ha);obtain⟨fa,fb⟩:=Kb hl;obtain⟨a1,a2⟩:=Yz a _ _ fa;obtain⟨b1,b2⟩:=Yz b _ _ fb;rw[utN,utL,utL,utL];simp at b1;refine⟨?_,wf2 (by decide) T4 a2 b2⟩;unfold QdK;exact⟨λh=>absurd h (by decide),λh=>absurd h (by decide),a1,b1⟩
  ·obtain⟨q1,q2⟩:=Jfa l M0 (Qag-1) k 0 M3 hl;rw[utN];unfold Qam at hf;simp only[Bool.and_eq_true,decide_eq_true_eq]at hf;have hn:=hf.1.1.1;refine⟨JbC (λh=>?_) (λh=>?_) M3 q1,Vs.2 ⟨λh=>absurd h M3,λh=>?_,λh=>?_,T4,q2⟩⟩
   ·subst h;simp at hn;exact hn
   ·subst h;simp at hn;exact hn
   ·subst h;rw[hlen];exact ha
   ·subst h;rw[hlen];exact ha
def Jfa{pa:List Nat}:∀(l:List Exp)(M0 Qag:Nat)(k:Int)(i:Nat),k≠19->QaB pa M0 Qag k i l=true->QdJ pa.length M0 (utL l)/\WfL (utL l)
 |[],M0,Qag,k,i,hk,h=>by
  rw[utL];unfold QdJ;exact⟨trivial,VA⟩
 |a::l,M0,Qag,k,i,hk,h=>by
  rw[QaB]at h;simp only[Bool.and_eq_true]at h;rw[if_neg λh=>hk h.1]at h;obtain⟨a1,a2⟩:=Yz a _ _ h.1;obtain⟨b1,b2⟩:=Jfa l _ _ _ _ hk h.2;rw[utL];unfold QdJ;exact⟨⟨a1,b1⟩,JS.2 ⟨a2,b2⟩⟩
end
end Go.Proofs.YtfafpklefknomaaGreatDoor



