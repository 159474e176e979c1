import Derived.Test.YtdlkcjkjnehnkaaGreatDoorH24
import Derived.Test.YtdlkcjkjnehnkaaGreatDoorH25
open Nat(le_trans)
namespace Go.Proofs.YtdlkcjkjnehnkaaGreatDoor
open Go.ChangeShapes Go.WideShapes Go.ChangeAt Go.RowKit Go.Lib
open _root_.Go.Proofs.Tryz
set_option linter.all false
set_option maxRecDepth 100000
set_option maxHeartbeats 32000000
theorem QcR:(prog.info? 32).map (fun i=>(i.zero,i.size,i.bytes))=some (some (.agg #[.int .i64 0,.int .i64 0,.string ⟨#[]⟩,.slice none 0 0,.int .i64 0,.string ⟨#[]⟩]),6,80):=by kernel_rfl
theorem QfH:(prog.info? 25).map (·.size)=some 3:=by kernel_rfl
theorem QhX{w:World}{T t:Nat}{a0 a1 a2:Value}(v0 v1 v2:Value)(h:w.heap[T]?=some (.cells #[a0,a1,a2] t (0,0))) :
  (((w.setCell ⟨T,0,none⟩ v0).setCell ⟨T,1,none⟩ v1).setCell ⟨T,2,none⟩ v2).heap[T]?=some (.cells #[v0,v1,v2] t (0,0)):=
 heap_setCell_same _ _ 2 _ _ v2 (heap_setCell_same _ _ 1 _ _ v1 (heap_setCell_same _ _ 0 _ _ v0 h))
def OkB(w:World)(sb lo:Nat)(W:World)(V:Value)(b:Nat):Prop:=sb<b/\b<W.heap.size/\V.ownBlock≠some b/\(b<w.heap.size\/lo<=b)
theorem OkB.up{w:World}{sb lo:Nat}{W W':World}{V:Value}{b:Nat}(h:OkB w sb lo W V b)(hs:W.heap.size<=W'.heap.size):OkB w sb lo W' V b:=⟨h.1,Nat.lt_of_lt_of_le h.2.1 hs,h.2.2⟩
theorem Jgf{w:World}{sb lo rs bx:Nat}{w6 w7:World}{V V':Value}{X:Obj}{j:Nat}(hl:w.heap.size<=rs/\rs<bx/\bx<lo)(hV:∀ g,V.ownBlock=some g->lo<=g/\g<w6.heap.size)
  (hgr:(w6.alloc X).grownBy w7 V.ownBlock) (hfr:V'.ownBlock=V.ownBlock\/V'.ownBlock=some (w6.alloc X).heap.size) :
  (∀ b,b<w6.heap.size->V.ownBlock≠some b->b≠bx->(w7.setCell ⟨bx,j,none⟩ V').heap[b]?=w6.heap[b]?)/\(∀ b,OkB w sb lo w6 V b->OkB w sb lo (w7.setCell ⟨bx,j,none⟩ V') V' b/\b≠bx)/\Chg [bx] w7 (w7.setCell ⟨bx,j,none⟩ V')/\w6.heap.size<=(w7.setCell ⟨bx,j,none⟩ V').heap.size/\
   (∀ o,w6.heap[bx]?=some o->w7.heap[bx]?=some o):=by
 have hc7:=JR hgr;have hst:Chg [bx] w7 (w7.setCell ⟨bx,j,none⟩ V'):=(Chg.refl _ _).setCell (.inl (by simp:bx∈[bx])) (p:=⟨bx,j,none⟩) V';have hsz:w6.heap.size<=(w7.setCell ⟨bx,j,none⟩ V').heap.size:=le_trans hc7.size hst.size;refine⟨fun q hq hn hne=>(hst.block q (Nat.lt_of_lt_of_le hq hc7.size) (by simpa using hne)).trans (hc7.block q hq (by simpa using hn)),fun b hb=>?_,hst,hsz,fun o ho=>hc7.heap_some (fun hm=>by have:=(hV bx (by simpa using hm)).1;omega) ho⟩;obtain⟨h1,h2,h3,h4⟩:=hb;refine⟨⟨h1,by omega,fun e1=>?_,h4⟩,by omega⟩
 rcases hfr with e2|e2
 ·exact h3 (e2.symm.trans e1)
 ·rw[e2]at e1;simp at e1;omega
structure R1(w:World)(sb rs bx lo:Nat)(act:Int)(W:World)(fl:List FnM)(V:Value)(xs:List Value):Prop where
 own:W.ownsRow lo 44 7 V fl.length xs
 row:QbR (FnX W (OkB w sb lo W V)) fl xs
 box:W.heap[bx]?=some (.cells #[V,.slice none 0 0,.int .i64 act] 25 (0,0))
 res:W.heap[rs]?=some (.cells #[.slice none 0 0,.slice none 0 0,.int .i64 0] 25 (0,0))
 bel:Below w.heap.size w W
 low:w.heap.size<=rs/\rs<bx/\bx<lo/\lo<=W.heap.size
structure R2(w:World)(sb rs bx lo:Nat)(act:Int)(W:World)(fl:List FnM)(V:Value)(cl:List ClM)(U:Value)(ys:List Value):Prop where
 fsl:QaI W (OkB w sb lo W U) (FnX W (OkB w sb lo W U)) fl V
 own:W.ownsRow lo 32 6 U cl.length ys
 row:QbR (ClX W (OkB w sb lo W U)) cl ys
 box:W.heap[bx]?=some (.cells #[V,U,.int .i64 act] 25 (0,0))
 res:W.heap[rs]?=some (.cells #[.slice none 0 0,.slice none 0 0,.int .i64 0] 25 (0,0))
 bel:Below w.heap.size w W
 low:w.heap.size<=rs/\rs<bx/\bx<lo/\lo<=W.heap.size
section
variable {w:World} {sb rs bx lo:Nat} {act:Int} {W W':World} {fl:List FnM} {V:Value} {xs:List Value} {cl:List ClM} {U:Value} {ys:List Value}
theorem R1.up(h:R1 w sb rs bx lo act W fl V xs)(hb:Below W.heap.size W W'):R1 w sb rs bx lo act W' fl V xs:=by
 obtain⟨l1,l2,l3,l4⟩:=h.low;exact⟨Jz h.own (Chg.of_below hb []) (by simp),h.row.imp (FnX.keep (fun b hP=>hb.block b hP.2.1) (fun b hP=>hP.up hb.size)),(hb.block _ (Jb h.box)).trans h.box,(hb.block _ (Jb h.res)).trans h.res,Jd h.bel hb,l1,l2,l3,le_trans l4 hb.size⟩
theorem R2.up(h:R2 w sb rs bx lo act W fl V cl U ys)(hb:Below W.heap.size W W'):R2 w sb rs bx lo act W' fl V cl U ys:=by
 obtain⟨l1,l2,l3,l4⟩:=h.low;exact⟨h.fsl.keep (fun b hP=>hb.block b hP.2.1) (fun b hP=>hP.up hb.size) (FnX.keep (fun b hP=>hb.block b hP.2.1) (fun b hP=>hP.up hb.size)),Jz h.own (Chg.of_below hb []) (by simp),h.row.imp (ClX.keep (fun b hP=>hb.block b hP.2.1) (fun b hP=>hP.up hb.size)),(hb.block _ (Jb h.box)).trans h.box,(hb.block _ (Jb h.res)).trans h.res,Jd h.bel hb,l1,l2,l3,le_trans l4 hb.size⟩
theorem JdN{w6 w7:World}{V':Value}{X:Obj}{j:Nat}(h:Below w.heap.size w w6)(hl:w.heap.size<=rs/\rs<bx/\bx<lo)(hV:∀ g,V.ownBlock=some g->lo<=g/\g<w6.heap.size)
  (hgr:(w6.alloc X).grownBy w7 V.ownBlock):Below w.heap.size w (w7.setCell ⟨bx,j,none⟩ V'):=by
 have hc7:=JR hgr;have hst:Chg [bx] w7 (w7.setCell ⟨bx,j,none⟩ V'):=(Chg.refl _ _).setCell (.inl (by simp:bx∈[bx])) (p:=⟨bx,j,none⟩) V';have h1:=h.size;have h2:=hc7.size;exact⟨hst.os.trans (hc7.os.trans h.os),hst.tape.trans (hc7.tape.trans h.tape),hst.output.trans (hc7.output.trans h.output),by have:=hst.size;omega,fun q hq=>(hst.block q (by omega) (by simp;omega)).trans ((hc7.block q (by omega) (fun hm=>by have:=(hV q (by simpa using hm)).1;omega)).trans (h.block q hq))⟩
theorem Qkx{P:Prop}(h:P:=by
  obtain⟨l1,l2,l3,l4⟩:=h.low;have h1:=hP.1;have h2:=hP.2
  exact⟨by omega,h2,fun e1=>by have:=(h.own.lt b e1).2;omega,.inr (by omega)⟩):P:=h
theorem JdO{w1 w6:World}(h:R1 w sb rs bx lo act w1 fl V xs)(hsb:sb<w.heap.size):∀ b,Qgo w1 w6 b->OkB w sb lo w6 V b:=fun b hP=>by
 exact Qkx
theorem JbB{w1 w6:World}(h:R2 w sb rs bx lo act w1 fl V cl U ys)(hsb:sb<w.heap.size):∀ b,Qgo w1 w6 b->OkB w sb lo w6 U b:=fun b hP=>by
 exact Qkx
theorem R1.step{w1 w6 w7:World}{f:FnM}{c:List Value}{V':Value}{X:Obj}(h:R1 w sb rs bx lo act w1 fl V xs)(hb:Below w1.heap.size w1 w6)(hx:FnX w6 (OkB w sb lo w6 V) f c)
  (hown:w7.ownsRow lo 44 7 V' (fl.length+1) (xs++c)) (hgr:(w6.alloc X).grownBy w7 V.ownBlock) (hfr:V'.ownBlock=V.ownBlock\/V'.ownBlock=some (w6.alloc X).heap.size) :
  R1 w sb rs bx lo act (w7.setCell ⟨bx,0,none⟩ V') (fl++[f]) V' (xs++c)/\w7.heap[bx]?=some (.cells #[V,.slice none 0 0,.int .i64 act] 25 (0,0)):=by
 have h6:=h.up hb;obtain⟨l1,l2,l3,l4⟩:=h6.low;have hV:∀ g,V.ownBlock=some g->lo<=g/\g<w6.heap.size:=fun g hg=>h6.own.lt g hg
 obtain⟨g1,g2,hst,hsz,g5⟩:=Jgf (w:=w) (sb:=sb) (j:=0) ⟨l1,l2,l3⟩ hV hgr hfr;have hk:∀ b,OkB w sb lo w6 V b->(w7.setCell ⟨bx,0,none⟩ V').heap[b]?=w6.heap[b]?:=fun b hb=>g1 b hb.2.1 hb.2.2.1 (g2 b hb).2
 have hq:∀ b,OkB w sb lo w6 V b->OkB w sb lo (w7.setCell ⟨bx,0,none⟩ V') V' b:=fun b hb=>(g2 b hb).1
 have hbx7:=g5 _ h6.box;refine⟨⟨?_,QbR.snoc (FnX.keep hk hq f c hx) (h6.row.imp (FnX.keep hk hq)),J3 hbx7 0 V',?_,JdN h6.bel ⟨l1,l2,l3⟩ hV hgr,l1,l2,l3,le_trans l4 hsz⟩,hbx7⟩
 ·rw[List.length_append];exact Jz hown hst (by simp;omega)
 ·exact(g1 rs (Jb h6.res) (fun e1=>by have:=(hV _ e1).1;omega) (by omega)).trans h6.res
theorem R2.step{w1 w6 w7:World}{f:ClM}{c:List Value}{U':Value}{X:Obj}(h:R2 w sb rs bx lo act w1 fl V cl U ys)(hb:Below w1.heap.size w1 w6)(hx:ClX w6 (OkB w sb lo w6 U) f c)
  (hown:w7.ownsRow lo 32 6 U' (cl.length+1) (ys++c)) (hgr:(w6.alloc X).grownBy w7 U.ownBlock) (hfr:U'.ownBlock=U.ownBlock\/U'.ownBlock=some (w6.alloc X).heap.size) :
  R2 w sb rs bx lo act (w7.setCell ⟨bx,1,none⟩ U') fl V (cl++[f]) U' (ys++c)/\w7.heap[bx]?=some (.cells #[V,U,.int .i64 act] 25 (0,0)):=by
 have h6:=h.up hb;obtain⟨l1,l2,l3,l4⟩:=h6.low;have hV:∀ g,U.ownBlock=some g->lo<=g/\g<w6.heap.size:=fun g hg=>h6.own.lt g hg
 obtain⟨g1,g2,hst,hsz,g5⟩:=Jgf (w:=w) (sb:=sb) (j:=1) ⟨l1,l2,l3⟩ hV hgr hfr;have hk:∀ b,OkB w sb lo w6 U b->(w7.setCell ⟨bx,1,none⟩ U').heap[b]?=w6.heap[b]?:=fun b hb=>g1 b hb.2.1 hb.2.2.1 (g2 b hb).2
 have hq:∀ b,OkB w sb lo w6 U b->OkB w sb lo (w7.setCell ⟨bx,1,none⟩ U') U' b:=fun b hb=>(g2 b hb).1
 have hbx7:=g5 _ h6.box;refine⟨⟨h6.fsl.keep hk hq (FnX.keep hk hq),?_,QbR.snoc (ClX.keep hk hq f c hx) (h6.row.imp (ClX.keep hk hq)),J3 hbx7 1 U',?_,JdN h6.bel ⟨l1,l2,l3⟩ hV hgr,l1,l2,l3,le_trans l4 hsz⟩,hbx7⟩
 ·rw[List.length_append];exact Jz hown hst (by simp;omega)
 ·exact(g1 rs (Jb h6.res) (fun e1=>by have:=(hV _ e1).1;omega) (by omega)).trans h6.res
theorem R1.next(h:R1 w sb rs bx lo act W fl V xs)(hsb:sb<w.heap.size):R2 w sb rs bx lo act W fl V [] (.slice none 0 0) []:=by
 obtain⟨l1,l2,l3,l4⟩:=h.low;have hq:∀ b,OkB w sb lo W V b->OkB w sb lo W (.slice none 0 0) b:=fun b hb=>⟨hb.1,hb.2.1,by simp[Value.ownBlock],hb.2.2.2⟩
 exact⟨QaI.own h.own (h.row.imp (FnX.keep (fun _ _=>rfl) hq)) (fun g hg=>by have:=h.own.lt g hg;exact⟨by omega,this.2,by simp[Value.ownBlock],.inr this.1⟩),⟨rfl,.inl ⟨rfl,rfl⟩⟩,rfl,h.box,h.res,h.bel,l1,l2,l3,l4⟩
theorem R2.fin(h:R2 w sb rs bx lo act W fl V cl U ys)(hsb:sb<w.heap.size):let W':=((W.setCell ⟨rs,0,none⟩ V).setCell ⟨rs,1,none⟩ U).setCell ⟨rs,2,none⟩ (.int .i64 act)
  QaZ W' (fun b=>sb<b/\b<W'.heap.size) ⟨fl,cl,act⟩ #[V,U,.int .i64 act]/\Below w.heap.size w W':=by
 intro W';obtain⟨l1,l2,l3,l4⟩:=h.low;have hst:Chg [rs] W W':=(((Chg.refl _ _).setCell (.inl (by simp)) _).setCell (.inl (by simp)) _).setCell (.inl (by simp)) _;have hsz:=hst.size;have hk:∀ b,OkB w sb lo W U b->W'.heap[b]?=W.heap[b]?:=fun b hb=>hst.block b hb.2.1 (by obtain⟨_,_,_,h4⟩:=hb;simp;omega)
 have hq:∀ b,OkB w sb lo W U b->sb<b/\b<W'.heap.size:=fun b hb=>⟨hb.1,by have:=hb.2.1;omega⟩
 refine⟨⟨_,_,rfl,h.fsl.keep hk hq (FnX.keep hk hq),QaI.own (Jz h.own hst (by simp;omega)) (h.row.imp (ClX.keep hk hq)) (fun g hg=>?_)⟩,((h.bel.setCell l1 _).setCell l1 _).setCell l1 _⟩;have:=h.own.lt g hg;exact⟨by omega,by omega⟩
end
theorem Jku{W:World}{sb:Nat}{f:FnA}(P:Nat->Prop)(h:f.Ok W)(hP:∀ g,f.lo<=g->g<f.hi->P g):QbF W P f.types f.tv:=by
 obtain⟨m,m1,m2,m3,m4,m5⟩:=h.bmd;have ht:=h.town
 rcases ht.2 with⟨e,e0⟩|⟨g,cap,cur,e,e2,e3,e4,_⟩
 ·exact⟨none,0,by rw[e,e0],by omega,.inl (List.eq_nil_of_length_eq_zero e0)⟩
 ·have hg:=m4 g (by rw[e];rfl);refine⟨_,cap,e,e4,.inr ⟨g,0,rfl,hP g e2 (by omega),fun i n hi=>?_⟩⟩;have hc:=JZ ht (j:=i) (u:=.int .i64 n) (by unfold Qbx;rw[List.getElem?_map,hi];rfl);rw[e]at hc;rw[Nat.zero_add];exact hc
def fnM(f:FnA):FnM:=⟨f.name,f.types,f.result,Qab f.body.nd⟩
def clM(c:ClA):ClM:=⟨Qab c.cond.nd,c.action,c.reason⟩
theorem Jio(S:Qap):QaN S.src=⟨S.funcs.map fnM,S.clauses.map clM,S.action⟩:=by
 unfold QaN Qap.src;simp only[List.map_map];rfl
def RlP(w:World)(sb:Nat)(r:Qaq)(e:Ending)(w':World):Prop:=∃ c,e=.returned (.agg c)/\QaZ w' (fun b=>sb<b/\b<w'.heap.size) r c/\Below w.heap.size w w'
theorem QlF{P:Prop}(h:P:=by
  try simp only[Act.put,ZA,ZB,ZC]
  refine ZS 13 rfl (fun K hK=>?_);have hbx:=HBX.out;have b0:=Ja hbx 1;have f0:=Jc hbx 1;have hl7:=Jb hbx;simp only[ZD,ZE,ZF]at b0;go_simp;clear b0 hbx f0 hl7 HBX;replace HCP:=Zh (((Chg.refl [bx] w7).setCell (.inl (by simp)) (p:=⟨bx,1,none⟩) (.slice a7 m7 c7)).heap_some (by have:=HCB.out.1;simp;omega) HCP.out);refine hK.out _ _ HCP.out (fun hH=>?_);clear hK K
  try simp only[Act.put,ZA,ZB,ZC]
  refine wpAnyH_done (by kernel_rfl) ?_ _;go_wp2;go_roundg (S.clauses.length-(i+1))
  case measure=>have:=HG.out;omega
  case rel=>exact⟨i+1,by omega,by go_num,⟨_,_,by rw[HTS.out,HFM.out];exact HST.out⟩⟩):P:=h
theorem QlE{P:Prop}(h:P:=by
  try simp only[Act.put,ZA,ZB,ZC]
  refine ZS 16 rfl (fun K hK=>?_);have hbx:=HBX.out;have b0:=Ja hbx 0;have f0:=Jc hbx 0;have hl7:=Jb hbx;simp only[ZD,ZE,ZF]at b0;go_simp;clear b0 hbx f0 hl7 HBX;replace HCP:=Zh (((Chg.refl [bx] w7).setCell (.inl (by simp)) (p:=⟨bx,0,none⟩) (.slice a7 m7 c7)).heap_some (by have:=HCB.out.1;simp;omega) HCP.out);refine hK.out _ _ HCP.out (fun hH=>?_);clear hK K
  try simp only[Act.put,ZA,ZB,ZC]
  refine wpAnyH_done (by kernel_rfl) ?_ _;go_wp2;go_roundg (S.funcs.length-(i+1))
  case measure=>have:=HG.out;omega
  case rel=>exact⟨i+1,by omega,by go_num,⟨_,_,by rw[HTS.out,HFM.out];exact HST.out⟩⟩):P:=h
theorem Jgg(w:World)(sb:Nat)(S:Qap)(h:QaL w sb S)(h1:S.funcs.length<=100000000)(h2:S.clauses.length<=100000000)
  (h3:∀ f∈S.funcs,siz f.body.nd<=100000000) (h4:∀ c∈S.clauses,siz c.cond.nd<=100000000) :
  Calls prog 41 #[.pointer (some ⟨sb,0,none⟩)] w (RlP w sb (QaN S.src)):=by
 obtain⟨R,hR⟩:∃ R,RlP w sb (QaN S.src)=R:=⟨_,rfl⟩
 rw[hR];have HR:Hid (R=RlP w sb (QaN S.src)):=hR.symm;obtain⟨fa,fc,hfv,hfa⟩:=Va h.fown;obtain⟨ca,cc,hcv,hca⟩:=Va h.cown;have HFV:=Zh hfv;have HCV:=Zh hcv;have HFA:=Zh hfa;have HCA:=Zh hca;have H3:=Zh h3;have H4:=Zh h4;have HS:=Zh h;have HSB:Hid (sb<w.heap.size):=Jb h.box;have hb0:Below w.heap.size w ((w.alloc (.cells #[.slice none 0 0,.slice none 0 0,.int .i64 0] 25)).alloc (.cells #[.slice none 0 0,.slice none 0 0,.int .i64 S.action] 25)):=(zzb.alloc zzl _).alloc (by simp) _
 have HI0:Hid (R1 w sb w.heap.size (w.heap.size+1) (w.heap.size+1+1) S.action ((w.alloc (.cells #[.slice none 0 0,.slice none 0 0,.int .i64 0] 25)).alloc (.cells #[.slice none 0 0,.slice none 0 0,.int .i64 S.action] 25)) [] (.slice none 0 0) []):=by
  have e2:=zzw (w.alloc (.cells #[.slice none 0 0,.slice none 0 0,.int .i64 0] 25)) (.cells #[.slice none 0 0,.slice none 0 0,.int .i64 S.action] 25);simp only[World.size_alloc]at e2;exact⟨⟨rfl,.inl ⟨rfl,rfl⟩⟩,rfl,e2,Jg (zzw _ _),hb0,by omega,by omega,by omega,by simp⟩
 have hs0:=h.on (Chg.of_below ((Below.refl w.heap.size w).alloc zzl (.cells #[.slice none 0 0,.slice none 0 0,.int .i64 0] 25)) []) (by simp);have hs1:=h.on (Chg.of_below hb0 []) (by simp);have a2:(w.alloc (.cells #[.slice none 0 0,.slice none 0 0,.int .i64 0] 25)).cell? ⟨sb,2,none⟩=some (.int .i64 S.action):=by rw[Ja hs0.box];rfl
 have b0:((w.alloc (.cells #[.slice none 0 0,.slice none 0 0,.int .i64 0] 25)).alloc (.cells #[.slice none 0 0,.slice none 0 0,.int .i64 S.action] 25)).cell? ⟨sb,0,none⟩=some (.slice fa S.funcs.length fc):=by rw[Ja hs1.box];rw[hfv];rfl
 clear hR hfv hcv hfa hca h h3 h4 hb0 hs0 hs1;go_enter func41,ntmps41;go_wp2_with fail;clear a2 b0;generalize World.alloc (World.alloc w _) _=w1 at *;generalize w.heap.size+1+1=lo at *;generalize w.heap.size+1=bx at *;go_loopg [18] S.funcs.length (fun g v18 wr=>∃ i:Nat,g+i=S.funcs.length/\v18=.int .i64 i/\Hid (∃ V xs,R1 w sb w.heap.size bx lo S.action wr ((S.funcs.take i).map fnM) V xs))
 case atStart=>exact⟨0,rfl,rfl,⟨_,_,HI0.out⟩⟩
 case round=>
 clear HI0;obtain⟨wl,rfl⟩:∃ wl:World,wl=wr:=⟨_,rfl⟩
 obtain⟨i,hg,rfl,hti⟩:=hrel;obtain⟨V,xs,hti⟩:=hti.out;obtain⟨va,vn,vc,rfl⟩:=Jh hti.own
 by_cases hi:i<S.funcs.length
 ·have hil:(i:Int)<(S.funcs.length:Int):=by omega
  obtain⟨fn,hfn⟩:∃ fn,S.funcs[i]?=some fn:=⟨S.funcs[i],List.getElem?_eq_getElem hi⟩
  have had:=HFA.out (by omega);have hmem:=List.mem_of_getElem? hfn;have hsl:=HS.out.on (Chg.of_below hti.bel []) (by simp);obtain⟨fo,hlo,_⟩:=hsl.fok fn hmem;have hcl:=VY hsl hfn;have HTS:Hid ((S.funcs.take (i+1)).map fnM=(S.funcs.take i).map fnM++[fnM fn]):=by rw[Hid,J0 hfn];simp
  have HLN:Hid (((S.funcs.take i).map fnM).length<=100000000):=by rw[Hid,List.length_map,List.length_take];omega
  have HFO:Hid (fn.Ok wl/\sb<fn.lo/\fn.hi<=w.heap.size):=⟨fo,hlo,(HS.out.fok fn hmem).1.hle⟩
  have HSZ:=Zh (H3.out fn hmem);have HFN:Hid (∃ fn',fn'=fn):=⟨_,rfl⟩
  have hb2:Below wl.heap.size wl (wl.alloc (.cells fn.cells.toArray 126)):=zzb.alloc zzl _;have HCP:=Zh (zzw wl (.cells fn.cells.toArray 126));have HTI:=Zh (hti.up hb2);have HBAT:Hid (fn.body.At (wl.alloc (.cells fn.cells.toArray 126))):=Jbo fo.bat hb2
  have HNUM:Hid (QbF (wl.alloc (.cells fn.cells.toArray 126)) (OkB w sb lo wl (.slice va vn vc)) fn.types fn.tv):=by
   refine(Jku (sb:=sb) _ fo (fun g g1 g2=>?_)).keep (fun b hP=>hb2.block b hP.2.1) (fun b hP=>hP);have:=(HS.out.fok fn hmem).1.hle;have:=hti.low;exact⟨by omega,by omega,fun e1=>by have:=(hti.own.lt g e1).1;omega,.inl (by omega)⟩
  have HFM:Hid (fnM fn=⟨fn.name,fn.types,fn.result,Qab fn.body.nd⟩):=rfl;obtain⟨nm,of,ps,ts,res,b,pv,tv,flo,fhi⟩:=fn;obtain⟨pa,pn,pc,hpv⟩:=Jh fo.pown;obtain⟨ta,tn,tc,htv⟩:=Jh fo.town;dsimp only at hpv htv HBAT HNUM HFM HSZ;subst hpv htv;obtain⟨yA,yn,yc,hcg⟩:=Jf b;simp only[FnA.cells,hcg,List.cons_append,List.nil_append]at hcl HCP HTI HBAT HNUM;have HYF:=Zh hcg;have c0:=hcl 0 _ rfl;have c1:=hcl 1 _ rfl;have c2:=hcl 2 _ rfl;have c3:=hcl 3 _ rfl;have c4:=hcl 4 _ rfl;have c5:=hcl 5 _ rfl;have c6:=hcl 6 _ rfl;have c7:=hcl 7 _ rfl;have c8:=hcl 8 _ rfl;have c9:=hcl 9 _ rfl;simp only[Nat.add_zero]at c0;have wk:IntKind.i64.wrap ((i:Int)+1)=(i:Int)+1:=IntWalk.i64_in _ (by omega);have HG:=Zh hg;have HCB:Hid (bx<wl.heap.size/\∀ g,(Value.slice va vn vc).ownBlock=some g->g<wl.heap.size):=⟨by have:=hti.low;omega,fun g hg=>(hti.own.lt g hg).2⟩
  subst had;clear hcl hfn fo hg hcg hsl hti hb2 hmem hlo HFO HFN;go_upto_region 5 with fail;clear c0 c1 c2 c3 c4 c5 c6 c7 c8 c9;have HWS:Hid (wl.heap.size<=(World.alloc wl (.cells #[.string (bs nm),.int .i64 of,.slice pa pn pc,.slice ta tn tc,.int .i64 res,.int .i64 b.kind,.int .i64 b.num,.string (bs b.name),.int .i64 b.off,.slice yA yn yc] 126)).heap.size):=by rw[Hid,World.size_alloc];omega
  replace HNUM:Hid (QbF (World.alloc wl (.cells #[.string (bs nm),.int .i64 of,.slice pa pn pc,.slice ta tn tc,.int .i64 res,.int .i64 b.kind,.int .i64 b.num,.string (bs b.name),.int .i64 b.off,.slice yA yn yc] 126)) (OkB w sb lo (World.alloc wl (.cells #[.string (bs nm),.int .i64 of,.slice pa pn pc,.slice ta tn tc,.int .i64 res,.int .i64 b.kind,.int .i64 b.num,.string (bs b.name),.int .i64 b.off,.slice yA yn yc] 126)) (.slice va vn vc)) ts (.slice ta tn tc)):=HNUM.out.keep (fun _ _=>rfl) (fun b hP=>hP.up HWS.out);generalize World.alloc wl _=wk0 at *;generalize wl.heap.size=cb at *;refine wp_region_held_drew (S:=fun W=>W.heap[cb]?=some (.cells #[.string (bs nm),.int .i64 of,.slice pa pn pc,.slice ta tn tc,.int .i64 res,.int .i64 b.kind,.int .i64 b.num,.string (bs b.name),.int .i64 b.off,.slice yA yn yc] 126 (0,0))) (by kernel_rfl) ((((Below.refl wk0.heap.size wk0).drew).block _ (Jb HCP.out)).trans HCP.out) (fun hH=>?_);have hD:Below wk0.heap.size wk0 wk0.drew:=(Below.refl wk0.heap.size wk0).drew;replace HTI:=Zh (HTI.out.up hD);replace HBAT:Hid (b.At wk0.drew):=Jbo HBAT.out hD;replace HNUM:Hid (QbF wk0.drew (OkB w sb lo wk0.drew (.slice va vn vc)) ts (.slice ta tn tc)):=HNUM.out.keep (fun b hP=>hD.block b hP.2.1) (fun b hP=>hP.up hD.size);replace HCP:=Zh ((hD.block _ (Jb HCP.out)).trans HCP.out);have HB0:=Zh HTI.out.box;clear hD;generalize wk0.drew=wk1 at *;refine ZT (i:=0) (v:=?vT1_0) rfl (Or.inl ⟨by rfl,?yT1_0⟩) ?_
  case yT1_0=>exact ZyQ
  try simp only[Act.put,ZA,ZB,ZC]
  refine ZT (i:=2) (v:=?vT1_2) rfl (Or.inl ⟨by rfl,?yT1_2⟩) ?_
  case yT1_2=>exact ZyQ
  try simp only[Act.put,ZA,ZB,ZC]
  refine ZT (i:=3) (v:=?vT1_3) rfl (Or.inl ⟨by rfl,?yT1_3⟩) ?_
  case yT1_3=>exact ZyQ
  try simp only[Act.put,ZA,ZB,ZC]
  refine ZT (i:=4) (v:=?vT1_4) rfl (Or.inl ⟨by rfl,?yT1_4⟩) ?_
  case yT1_4=>(intro wX hSw;(try dsimp only at hSw);have p0:=Ja hSw 0;simp only[ZD,ZE,ZF]at p0;go_simp<;>with_reducible rfl)
  try simp only[Act.put,ZA,ZB,ZC]
  refine ZT (i:=5) (v:=?vT1_5) rfl (Or.inl ⟨by rfl,?yT1_5⟩) ?_
  case yT1_5=>exact ZyQ
  try simp only[Act.put,ZA,ZB,ZC]
  refine ZT (i:=6) (v:=?vT1_6) rfl (Or.inl ⟨by rfl,?yT1_6⟩) ?_
  case yT1_6=>(intro wX hSw;(try dsimp only at hSw);have p3:=Ja hSw 3;simp only[ZD,ZE,ZF]at p3;go_simp<;>with_reducible rfl)
  try simp only[Act.put,ZA,ZB,ZC]
  refine ZT (i:=7) (v:=?vT1_7) rfl (Or.inl ⟨by rfl,?yT1_7⟩) ?_
  case yT1_7=>exact ZyQ
  try simp only[Act.put,ZA,ZB,ZC]
  refine ZT (i:=8) (v:=?vT1_8) rfl (Or.inl ⟨by rfl,?yT1_8⟩) ?_
  case yT1_8=>(intro wX hSw;(try dsimp only at hSw);have p4:=Ja hSw 4;simp only[ZD,ZE,ZF]at p4;go_simp<;>with_reducible rfl)
  try simp only[Act.put,ZA,ZB,ZC]
  refine ZT (i:=9) (v:=?vT1_9) rfl (Or.inl ⟨by rfl,?yT1_9⟩) ?_
  case yT1_9=>exact ZyQ
  try simp only[Act.put,ZA,ZB,ZC]
  refine ZT (i:=10) (v:=?vT1_10) rfl (Or.inl ⟨by rfl,?yT1_10⟩) ?_
  case yT1_10=>(intro wX hSw;(try dsimp only at hSw);have p5:=Ja hSw 5;have p6:=Ja hSw 6;have p7:=Ja hSw 7;have p8:=Ja hSw 8;have p9:=Ja hSw 9;simp only[ZD,ZE,ZF]at p5 p6 p7 p8 p9;go_simp<;>with_reducible rfl)
  try simp only[Act.put,ZA,ZB,ZC]
  refine ZR (rs:=[1,11]) (AllReadyH.cons rfl (fun K hK=>?_) (AllReadyH.cons rfl (fun K hK=>?_) AllReadyH.nil))
  ·have hbx:=HB0.out;have b0:=Ja hbx 0;simp only[ZD,ZE,ZF]at b0;go_simp;clear b0 hbx;refine hK.out _ _ HCP.out (fun hH=>?_);clear hK K
   try simp only[Act.put,ZA,ZB,ZC]
   refine ZS 11 rfl (fun K hK=>?_);have ci:=V0 (siz b.nd) HSZ.out b _ zzl HBAT.out;rw[HYF.out]at ci
   (go_simp;go_at_call 78;refine ci.mono ?_;intro e w6 h6)
   clear ci;obtain⟨cy,rfl,hx6,hb6⟩:=h6;obtain⟨ka,km,hcy,hcm⟩:=hx6.form;have HX6:=Zh hx6;have HB6:=Zh hb6;have HCY:=Zh hcy;replace HCP:=Zh ((hb6.block _ (Jb HCP.out)).trans HCP.out);have HCP6:=HCP;have HT6:=Zh (HTI.out.up hb6);have HFX:Hid (FnX w6 (OkB w sb lo w6 (.slice va vn vc)) ⟨nm,ts,res,Qab b.nd⟩ [.string (bs nm),.slice ta tn tc,.int .i64 res,.int .i64 (Qab b.nd).kind,.int .i64 (Qab b.nd).num,.string (bs (Qab b.nd).name),.slice ka (Qab b.nd).kids.length km]):=⟨_,_,HNUM.out.keep (fun b hP=>hb6.block b hP.2.1) (fun b hP=>hP.up hb6.size),hx6.keep (fun _ _=>rfl) (JdO HTI.out HSB.out),by rw[hcy];rfl⟩
   have HOW:Hid ((w6.alloc (.cells #[.string (bs nm),.slice ta tn tc,.int .i64 res,.int .i64 (Qab b.nd).kind,.int .i64 (Qab b.nd).num,.string (bs (Qab b.nd).name),.slice ka (Qab b.nd).kids.length km] 44)).ownsRow lo 44 7 (.slice va vn vc) ((S.funcs.take i).map fnM).length xs):=HT6.out.own.alloc _;have HRW:Hid ((w6.alloc (.cells #[.string (bs nm),.slice ta tn tc,.int .i64 res,.int .i64 (Qab b.nd).kind,.int .i64 (Qab b.nd).num,.string (bs (Qab b.nd).name),.slice ka (Qab b.nd).kids.length km] 44)).heap[w6.heap.size]?=some (.cells ([.string (bs nm),.slice ta tn tc,.int .i64 res,.int .i64 (Qab b.nd).kind,.int .i64 (Qab b.nd).num,.string (bs (Qab b.nd).name),.slice ka (Qab b.nd).kids.length km]).toArray 44 (0,0))):=zzw _ _;have hlo6:lo<=(w6.alloc (.cells #[.string (bs nm),.slice ta tn tc,.int .i64 res,.int .i64 (Qab b.nd).kind,.int .i64 (Qab b.nd).num,.string (bs (Qab b.nd).name),.slice ka (Qab b.nd).kids.length km] 44)).heap.size:=by have:=HT6.out.low;rw[World.size_alloc];omega
   have HBX:=Zh HT6.out.box;rw[hcy];clear hx6 hb6 hcy hcm HB0;refine hK.out _ _ HCP.out (fun hH=>?_);clear hK K
   try simp only[Act.put,ZA,ZB,ZC]
   refine ZT (i:=12) (v:=?vT3_12) rfl (Or.inl ⟨by rfl,?yT3_12⟩) ?_
   case yT3_12=>exact ZyQ
   try simp only[Act.put,ZA,ZB,ZC]
   refine ZS 13 rfl (fun K hK=>?_);go_simp;replace HCP:=Zh (Jg (X:=.cells #[.string (bs nm),.slice ta tn tc,.int .i64 res,.int .i64 (Qab b.nd).kind,.int .i64 (Qab b.nd).num,.string (bs (Qab b.nd).name),.slice ka (Qab b.nd).kids.length km] 44) HCP.out);refine hK.out _ _ HCP.out (fun hH=>?_);replace HBX:Hid ((w6.alloc (.cells #[.string (bs nm),.slice ta tn tc,.int .i64 res,.int .i64 (Qab b.nd).kind,.int .i64 (Qab b.nd).num,.string (bs (Qab b.nd).name),.slice ka (Qab b.nd).kids.length km] 44)).heap[bx]?=some (.cells #[.slice va vn vc,.slice none 0 0,.int .i64 S.action] 25 (0,0))):=Jg HBX.out;clear hK K
   try simp only[Act.put,ZA,ZB,ZC]
   refine ZS 14 rfl (fun K hK=>?_)
   (refine Jt (w6.alloc (.cells #[.string (bs nm),.slice ta tn tc,.int .i64 res,.int .i64 (Qab b.nd).kind,.int .i64 (Qab b.nd).num,.string (bs (Qab b.nd).name),.slice ka (Qab b.nd).kids.length km] 44)) (by rfl) (.tmp 23) (.tmp 35) 22 44 _ 7 104 (by rfl) underlying22 QcZ rfl (by decide) lo (.slice va vn vc) ((S.funcs.take i).map fnM).length xs [.string (bs nm),.slice ta tn tc,.int .i64 res,.int .i64 (Qab b.nd).kind,.int .i64 (Qab b.nd).num,.string (bs (Qab b.nd).name),.slice ka (Qab b.nd).kids.length km] (by rfl) HOW.out w6.heap.size (by rfl) HRW.out rfl (by intro u hu;simp at hu;rcases hu with rfl|rfl|rfl|rfl|rfl|rfl|rfl<;>rfl) HLN.out (by decide) hlo6 ?_;intro v7 w7 hown7 hgr7 hfr7)
   obtain⟨a7,m7,c7,rfl⟩:=Jh hown7;have hst:=R1.step (V':=.slice a7 m7 c7) HTI.out HB6.out HFX.out hown7 hgr7 hfr7;replace HCP:=Zh ((JR (v:=.slice va vn vc) hgr7).heap_some (fun hm=>by have:=HCB.out.2 cb (by simpa using hm);omega) HCP6.out);replace HBX:=Zh hst.2;have HST:=Zh hst.1;clear hown7 hgr7 hfr7 hst HOW HRW hlo6;refine hK.out _ _ HCP.out (fun hH=>?_);clear hK K
   try simp only[Act.put,ZA,ZB,ZC]
   refine ZT (i:=15) (v:=?vT5_15) rfl (Or.inl ⟨by rfl,?yT5_15⟩) ?_
   case yT5_15=>exact ZyQ
   exact QlE
  ·have ci:=V0 (siz b.nd) HSZ.out b _ zzl HBAT.out;rw[HYF.out]at ci
   (go_simp;go_at_call 78;refine ci.mono ?_;intro e w6 h6)
   clear ci;obtain⟨cy,rfl,hx6,hb6⟩:=h6;obtain⟨ka,km,hcy,hcm⟩:=hx6.form;have HX6:=Zh hx6;have HB6:=Zh hb6;have HCY:=Zh hcy;replace HCP:=Zh ((hb6.block _ (Jb HCP.out)).trans HCP.out);have HCP6:=HCP;have HT6:=Zh (HTI.out.up hb6);have HFX:Hid (FnX w6 (OkB w sb lo w6 (.slice va vn vc)) ⟨nm,ts,res,Qab b.nd⟩ [.string (bs nm),.slice ta tn tc,.int .i64 res,.int .i64 (Qab b.nd).kind,.int .i64 (Qab b.nd).num,.string (bs (Qab b.nd).name),.slice ka (Qab b.nd).kids.length km]):=⟨_,_,HNUM.out.keep (fun b hP=>hb6.block b hP.2.1) (fun b hP=>hP.up hb6.size),hx6.keep (fun _ _=>rfl) (JdO HTI.out HSB.out),by rw[hcy];rfl⟩
   have HOW:Hid ((w6.alloc (.cells #[.string (bs nm),.slice ta tn tc,.int .i64 res,.int .i64 (Qab b.nd).kind,.int .i64 (Qab b.nd).num,.string (bs (Qab b.nd).name),.slice ka (Qab b.nd).kids.length km] 44)).ownsRow lo 44 7 (.slice va vn vc) ((S.funcs.take i).map fnM).length xs):=HT6.out.own.alloc _;have HRW:Hid ((w6.alloc (.cells #[.string (bs nm),.slice ta tn tc,.int .i64 res,.int .i64 (Qab b.nd).kind,.int .i64 (Qab b.nd).num,.string (bs (Qab b.nd).name),.slice ka (Qab b.nd).kids.length km] 44)).heap[w6.heap.size]?=some (.cells ([.string (bs nm),.slice ta tn tc,.int .i64 res,.int .i64 (Qab b.nd).kind,.int .i64 (Qab b.nd).num,.string (bs (Qab b.nd).name),.slice ka (Qab b.nd).kids.length km]).toArray 44 (0,0))):=zzw _ _;have hlo6:lo<=(w6.alloc (.cells #[.string (bs nm),.slice ta tn tc,.int .i64 res,.int .i64 (Qab b.nd).kind,.int .i64 (Qab b.nd).num,.string (bs (Qab b.nd).name),.slice ka (Qab b.nd).kids.length km] 44)).heap.size:=by have:=HT6.out.low;rw[World.size_alloc];omega
   have HBX:=Zh HT6.out.box;rw[hcy];clear hx6 hb6 hcy hcm HB0;refine hK.out _ _ HCP.out (fun hH=>?_);clear hK K
   try simp only[Act.put,ZA,ZB,ZC]
   refine ZT (i:=12) (v:=?vT7_12) rfl (Or.inl ⟨by rfl,?yT7_12⟩) ?_
   case yT7_12=>exact ZyQ
   try simp only[Act.put,ZA,ZB,ZC]
   refine ZR (rs:=[1,13]) (AllReadyH.cons rfl (fun K hK=>?_) (AllReadyH.cons rfl (fun K hK=>?_) AllReadyH.nil))
   ·have hbx:=HBX.out;have b0:=Ja hbx 0;simp only[ZD,ZE,ZF]at b0;go_simp;clear b0 hbx;refine hK.out _ _ HCP.out (fun hH=>?_);clear hK K
    try simp only[Act.put,ZA,ZB,ZC]
    refine ZS 13 rfl (fun K hK=>?_);go_simp;replace HCP:=Zh (Jg (X:=.cells #[.string (bs nm),.slice ta tn tc,.int .i64 res,.int .i64 (Qab b.nd).kind,.int .i64 (Qab b.nd).num,.string (bs (Qab b.nd).name),.slice ka (Qab b.nd).kids.length km] 44) HCP.out);refine hK.out _ _ HCP.out (fun hH=>?_);replace HBX:Hid ((w6.alloc (.cells #[.string (bs nm),.slice ta tn tc,.int .i64 res,.int .i64 (Qab b.nd).kind,.int .i64 (Qab b.nd).num,.string (bs (Qab b.nd).name),.slice ka (Qab b.nd).kids.length km] 44)).heap[bx]?=some (.cells #[.slice va vn vc,.slice none 0 0,.int .i64 S.action] 25 (0,0))):=Jg HBX.out;clear hK K
    try simp only[Act.put,ZA,ZB,ZC]
    refine ZS 14 rfl (fun K hK=>?_)
    (refine Jt (w6.alloc (.cells #[.string (bs nm),.slice ta tn tc,.int .i64 res,.int .i64 (Qab b.nd).kind,.int .i64 (Qab b.nd).num,.string (bs (Qab b.nd).name),.slice ka (Qab b.nd).kids.length km] 44)) (by rfl) (.tmp 23) (.tmp 35) 22 44 _ 7 104 (by rfl) underlying22 QcZ rfl (by decide) lo (.slice va vn vc) ((S.funcs.take i).map fnM).length xs [.string (bs nm),.slice ta tn tc,.int .i64 res,.int .i64 (Qab b.nd).kind,.int .i64 (Qab b.nd).num,.string (bs (Qab b.nd).name),.slice ka (Qab b.nd).kids.length km] (by rfl) HOW.out w6.heap.size (by rfl) HRW.out rfl (by intro u hu;simp at hu;rcases hu with rfl|rfl|rfl|rfl|rfl|rfl|rfl<;>rfl) HLN.out (by decide) hlo6 ?_;intro v7 w7 hown7 hgr7 hfr7)
    obtain⟨a7,m7,c7,rfl⟩:=Jh hown7;have hst:=R1.step (V':=.slice a7 m7 c7) HTI.out HB6.out HFX.out hown7 hgr7 hfr7;replace HCP:=Zh ((JR (v:=.slice va vn vc) hgr7).heap_some (fun hm=>by have:=HCB.out.2 cb (by simpa using hm);omega) HCP6.out);replace HBX:=Zh hst.2;have HST:=Zh hst.1;clear hown7 hgr7 hfr7 hst HOW HRW hlo6;refine hK.out _ _ HCP.out (fun hH=>?_);clear hK K
    try simp only[Act.put,ZA,ZB,ZC]
    refine ZT (i:=15) (v:=?vT10_15) rfl (Or.inl ⟨by rfl,?yT10_15⟩) ?_
    case yT10_15=>exact ZyQ
    exact QlE
   ·go_simp;replace HCP:=Zh (Jg (X:=.cells #[.string (bs nm),.slice ta tn tc,.int .i64 res,.int .i64 (Qab b.nd).kind,.int .i64 (Qab b.nd).num,.string (bs (Qab b.nd).name),.slice ka (Qab b.nd).kids.length km] 44) HCP.out);refine hK.out _ _ HCP.out (fun hH=>?_);replace HBX:Hid ((w6.alloc (.cells #[.string (bs nm),.slice ta tn tc,.int .i64 res,.int .i64 (Qab b.nd).kind,.int .i64 (Qab b.nd).num,.string (bs (Qab b.nd).name),.slice ka (Qab b.nd).kids.length km] 44)).heap[bx]?=some (.cells #[.slice va vn vc,.slice none 0 0,.int .i64 S.action] 25 (0,0))):=Jg HBX.out;clear hK K
    try simp only[Act.put,ZA,ZB,ZC]
    refine ZS 1 rfl (fun K hK=>?_);have hbx:=HBX.out;have b0:=Ja hbx 0;simp only[ZD,ZE,ZF]at b0;go_simp;clear b0 hbx;refine hK.out _ _ HCP.out (fun hH=>?_);clear hK K
    try simp only[Act.put,ZA,ZB,ZC]
    refine ZS 14 rfl (fun K hK=>?_)
    (refine Jt (w6.alloc (.cells #[.string (bs nm),.slice ta tn tc,.int .i64 res,.int .i64 (Qab b.nd).kind,.int .i64 (Qab b.nd).num,.string (bs (Qab b.nd).name),.slice ka (Qab b.nd).kids.length km] 44)) (by rfl) (.tmp 23) (.tmp 35) 22 44 _ 7 104 (by rfl) underlying22 QcZ rfl (by decide) lo (.slice va vn vc) ((S.funcs.take i).map fnM).length xs [.string (bs nm),.slice ta tn tc,.int .i64 res,.int .i64 (Qab b.nd).kind,.int .i64 (Qab b.nd).num,.string (bs (Qab b.nd).name),.slice ka (Qab b.nd).kids.length km] (by rfl) HOW.out w6.heap.size (by rfl) HRW.out rfl (by intro u hu;simp at hu;rcases hu with rfl|rfl|rfl|rfl|rfl|rfl|rfl<;>rfl) HLN.out (by decide) hlo6 ?_;intro v7 w7 hown7 hgr7 hfr7)
    obtain⟨a7,m7,c7,rfl⟩:=Jh hown7;have hst:=R1.step (V':=.slice a7 m7 c7) HTI.out HB6.out HFX.out hown7 hgr7 hfr7;replace HCP:=Zh ((JR (v:=.slice va vn vc) hgr7).heap_some (fun hm=>by have:=HCB.out.2 cb (by simpa using hm);omega) HCP6.out);replace HBX:=Zh hst.2;have HST:=Zh hst.1;clear hown7 hgr7 hfr7 hst HOW HRW hlo6;refine hK.out _ _ HCP.out (fun hH=>?_);clear hK K
    try simp only[Act.put,ZA,ZB,ZC]
    refine ZT (i:=15) (v:=?vT14_15) rfl (Or.inl ⟨by rfl,?yT14_15⟩) ?_
    case yT14_15=>exact ZyQ
    exact QlE
 ·have hil:¬ (i:Int)<(S.funcs.length:Int):=by omega
  obtain rfl:i=S.funcs.length:=by omega
  rw[List.take_length]at hti;have hsl:=HS.out.on (Chg.of_below hti.bel []) (by simp);have b1:wl.cell? ⟨sb,1,none⟩=some (.slice ca S.clauses.length cc):=by rw[Ja hsl.box];rw[HCV.out];rfl
  have HI1:=Zh (hti.next HSB.out);clear hi hg hti hsl H3 HFA HFV;go_wp2_with fail;clear b1;go_loopg [44] S.clauses.length (fun g v44 wr=>∃ i:Nat,g+i=S.clauses.length/\v44=.int .i64 i/\Hid (∃ U ys,R2 w sb w.heap.size bx lo S.action wr (S.funcs.map fnM) (.slice va vn vc) ((S.clauses.take i).map clM) U ys))
  case atStart=>exact⟨0,rfl,rfl,⟨_,_,HI1.out⟩⟩
  case round=>
  clear HI1 hil;obtain⟨wm,rfl⟩:∃ wm:World,wm=wr:=⟨_,rfl⟩
  obtain⟨i,hg,rfl,hti⟩:=hrel;obtain⟨U,ys,hti⟩:=hti.out;obtain⟨ua,un,uc,rfl⟩:=Jh hti.own
  by_cases hi:i<S.clauses.length
  ·have hil:(i:Int)<(S.clauses.length:Int):=by omega
   obtain⟨cn,hfn⟩:∃ cn,S.clauses[i]?=some cn:=⟨S.clauses[i],List.getElem?_eq_getElem hi⟩
   have had:=HCA.out (by omega);have hmem:=List.mem_of_getElem? hfn;have hsl:=HS.out.on (Chg.of_below hti.bel []) (by simp);obtain⟨fo,hlo⟩:=hsl.cok cn hmem;have hcl:=JdJ hsl hfn;have HTS:Hid ((S.clauses.take (i+1)).map clM=(S.clauses.take i).map clM++[clM cn]):=by rw[Hid,J0 hfn];simp
   have HLN:Hid (((S.clauses.take i).map clM).length<=100000000):=by rw[Hid,List.length_map,List.length_take];omega
   have HSZ:=Zh (H4.out cn hmem);have hb2:Below wm.heap.size wm (wm.alloc (.cells cn.cells.toArray 130)):=zzb.alloc zzl _;have HCP:=Zh (zzw wm (.cells cn.cells.toArray 130));have HTI:=Zh (hti.up hb2);have HBAT:Hid (cn.cond.At (wm.alloc (.cells cn.cells.toArray 130))):=Jbo fo.at' hb2;have HFM:Hid (clM cn=⟨Qab cn.cond.nd,cn.action,cn.reason⟩):=rfl;obtain⟨b,ac,rz,clo,chi⟩:=cn;dsimp only at HBAT HFM HSZ;obtain⟨yA,yn,yc,hcg⟩:=Jf b;simp only[ClA.cells,hcg,List.cons_append,List.nil_append]at hcl HCP HTI HBAT;have HYF:=Zh hcg;have c0:=hcl 0 _ rfl;have c1:=hcl 1 _ rfl;have c2:=hcl 2 _ rfl;have c3:=hcl 3 _ rfl;have c4:=hcl 4 _ rfl;have c5:=hcl 5 _ rfl;have c6:=hcl 6 _ rfl;simp only[Nat.add_zero]at c0;have wk:IntKind.i64.wrap ((i:Int)+1)=(i:Int)+1:=IntWalk.i64_in _ (by omega);have HG:=Zh hg;have HCB:Hid (bx<wm.heap.size/\∀ g,(Value.slice ua un uc).ownBlock=some g->g<wm.heap.size):=⟨by have:=hti.low;omega,fun g hg=>(hti.own.lt g hg).2⟩
   subst had;clear hcl hfn fo hg hcg hsl hti hb2 hmem hlo;go_upto_region 10 with fail;clear c0 c1 c2 c3 c4 c5 c6;generalize World.alloc wm _=wk0 at *;generalize wm.heap.size=cb at *;refine wp_region_held_drew (S:=fun W=>W.heap[cb]?=some (.cells #[.int .i64 b.kind,.int .i64 b.num,.string (bs b.name),.int .i64 b.off,.slice yA yn yc,.int .i64 ac,.string (bs rz)] 130 (0,0))) (by kernel_rfl) ((((Below.refl wk0.heap.size wk0).drew).block _ (Jb HCP.out)).trans HCP.out) (fun hH=>?_);have hD:Below wk0.heap.size wk0 wk0.drew:=(Below.refl wk0.heap.size wk0).drew;replace HTI:=Zh (HTI.out.up hD);replace HBAT:Hid (b.At wk0.drew):=Jbo HBAT.out hD;replace HCP:=Zh ((hD.block _ (Jb HCP.out)).trans HCP.out);have HB0:=Zh HTI.out.box;clear hD;generalize wk0.drew=wk1 at *;refine ZT (i:=0) (v:=?vT16_0) rfl (Or.inl ⟨by rfl,?yT16_0⟩) ?_
   case yT16_0=>exact ZyQ
   try simp only[Act.put,ZA,ZB,ZC]
   refine ZT (i:=2) (v:=?vT16_2) rfl (Or.inl ⟨by rfl,?yT16_2⟩) ?_
   case yT16_2=>exact ZyQ
   try simp only[Act.put,ZA,ZB,ZC]
   refine ZT (i:=3) (v:=?vT16_3) rfl (Or.inl ⟨by rfl,?yT16_3⟩) ?_
   case yT16_3=>(intro wX hSw;(try dsimp only at hSw);have p0:=Ja hSw 0;have p1:=Ja hSw 1;have p2:=Ja hSw 2;have p3:=Ja hSw 3;have p4:=Ja hSw 4;simp only[ZD,ZE,ZF]at p0 p1 p2 p3 p4;go_simp<;>with_reducible rfl)
   try simp only[Act.put,ZA,ZB,ZC]
   refine ZT (i:=5) (v:=?vT16_5) rfl (Or.inl ⟨by rfl,?yT16_5⟩) ?_
   case yT16_5=>exact ZyQ
   try simp only[Act.put,ZA,ZB,ZC]
   refine ZT (i:=6) (v:=?vT16_6) rfl (Or.inl ⟨by rfl,?yT16_6⟩) ?_
   case yT16_6=>(intro wX hSw;(try dsimp only at hSw);have p5:=Ja hSw 5;simp only[ZD,ZE,ZF]at p5;go_simp<;>with_reducible rfl)
   try simp only[Act.put,ZA,ZB,ZC]
   refine ZT (i:=7) (v:=?vT16_7) rfl (Or.inl ⟨by rfl,?yT16_7⟩) ?_
   case yT16_7=>exact ZyQ
   try simp only[Act.put,ZA,ZB,ZC]
   refine ZT (i:=8) (v:=?vT16_8) rfl (Or.inl ⟨by rfl,?yT16_8⟩) ?_
   case yT16_8=>(intro wX hSw;(try dsimp only at hSw);have p6:=Ja hSw 6;simp only[ZD,ZE,ZF]at p6;go_simp<;>with_reducible rfl)
   try simp only[Act.put,ZA,ZB,ZC]
   refine ZR (rs:=[1,4]) (AllReadyH.cons rfl (fun K hK=>?_) (AllReadyH.cons rfl (fun K hK=>?_) AllReadyH.nil))
   ·have hbx:=HB0.out;have b0:=Ja hbx 1;simp only[ZD,ZE,ZF]at b0;go_simp;clear b0 hbx;refine hK.out _ _ HCP.out (fun hH=>?_);clear hK K
    try simp only[Act.put,ZA,ZB,ZC]
    refine ZS 4 rfl (fun K hK=>?_);have ci:=V0 (siz b.nd) HSZ.out b _ zzl HBAT.out;rw[HYF.out]at ci
    (go_simp;go_at_call 78;refine ci.mono ?_;intro e w6 h6)
    clear ci;obtain⟨cy,rfl,hx6,hb6⟩:=h6;obtain⟨ka,km,hcy,hcm⟩:=hx6.form;have HX6:=Zh hx6;have HB6:=Zh hb6;have HCY:=Zh hcy;replace HCP:=Zh ((hb6.block _ (Jb HCP.out)).trans HCP.out);have HCP6:=HCP;have HT6:=Zh (HTI.out.up hb6);have HFX:Hid (ClX w6 (OkB w sb lo w6 (.slice ua un uc)) ⟨Qab b.nd,ac,rz⟩ [.int .i64 (Qab b.nd).kind,.int .i64 (Qab b.nd).num,.string (bs (Qab b.nd).name),.slice ka (Qab b.nd).kids.length km,.int .i64 ac,.string (bs rz)]):=⟨_,hx6.keep (fun _ _=>rfl) (JbB HTI.out HSB.out),by rw[hcy];rfl⟩
    have HOW:Hid ((w6.alloc (.cells #[.int .i64 (Qab b.nd).kind,.int .i64 (Qab b.nd).num,.string (bs (Qab b.nd).name),.slice ka (Qab b.nd).kids.length km,.int .i64 ac,.string (bs rz)] 32)).ownsRow lo 32 6 (.slice ua un uc) ((S.clauses.take i).map clM).length ys):=HT6.out.own.alloc _;have HRW:Hid ((w6.alloc (.cells #[.int .i64 (Qab b.nd).kind,.int .i64 (Qab b.nd).num,.string (bs (Qab b.nd).name),.slice ka (Qab b.nd).kids.length km,.int .i64 ac,.string (bs rz)] 32)).heap[w6.heap.size]?=some (.cells ([.int .i64 (Qab b.nd).kind,.int .i64 (Qab b.nd).num,.string (bs (Qab b.nd).name),.slice ka (Qab b.nd).kids.length km,.int .i64 ac,.string (bs rz)]).toArray 32 (0,0))):=zzw _ _;have hlo6:lo<=(w6.alloc (.cells #[.int .i64 (Qab b.nd).kind,.int .i64 (Qab b.nd).num,.string (bs (Qab b.nd).name),.slice ka (Qab b.nd).kids.length km,.int .i64 ac,.string (bs rz)] 32)).heap.size:=by have:=HT6.out.low;rw[World.size_alloc];omega
    have HBX:=Zh HT6.out.box;rw[hcy];clear hx6 hb6 hcy hcm HB0;refine hK.out _ _ HCP.out (fun hH=>?_);clear hK K
    try simp only[Act.put,ZA,ZB,ZC]
    refine ZT (i:=9) (v:=?vT18_9) rfl (Or.inl ⟨by rfl,?yT18_9⟩) ?_
    case yT18_9=>exact ZyQ
    try simp only[Act.put,ZA,ZB,ZC]
    refine ZS 10 rfl (fun K hK=>?_);go_simp;replace HCP:=Zh (Jg (X:=.cells #[.int .i64 (Qab b.nd).kind,.int .i64 (Qab b.nd).num,.string (bs (Qab b.nd).name),.slice ka (Qab b.nd).kids.length km,.int .i64 ac,.string (bs rz)] 32) HCP.out);refine hK.out _ _ HCP.out (fun hH=>?_);replace HBX:Hid ((w6.alloc (.cells #[.int .i64 (Qab b.nd).kind,.int .i64 (Qab b.nd).num,.string (bs (Qab b.nd).name),.slice ka (Qab b.nd).kids.length km,.int .i64 ac,.string (bs rz)] 32)).heap[bx]?=some (.cells #[.slice va vn vc,.slice ua un uc,.int .i64 S.action] 25 (0,0))):=Jg HBX.out;clear hK K
    try simp only[Act.put,ZA,ZB,ZC]
    refine ZS 11 rfl (fun K hK=>?_)
    (refine Jt (w6.alloc (.cells #[.int .i64 (Qab b.nd).kind,.int .i64 (Qab b.nd).num,.string (bs (Qab b.nd).name),.slice ka (Qab b.nd).kids.length km,.int .i64 ac,.string (bs rz)] 32)) (by rfl) (.tmp 49) (.tmp 58) 23 32 _ 6 80 (by rfl) underlying23 QcR rfl (by decide) lo (.slice ua un uc) ((S.clauses.take i).map clM).length ys [.int .i64 (Qab b.nd).kind,.int .i64 (Qab b.nd).num,.string (bs (Qab b.nd).name),.slice ka (Qab b.nd).kids.length km,.int .i64 ac,.string (bs rz)] (by rfl) HOW.out w6.heap.size (by rfl) HRW.out rfl (by intro u hu;simp at hu;rcases hu with rfl|rfl|rfl|rfl|rfl|rfl<;>rfl) HLN.out (by decide) hlo6 ?_;intro v7 w7 hown7 hgr7 hfr7)
    obtain⟨a7,m7,c7,rfl⟩:=Jh hown7;have hst:=R2.step (U':=.slice a7 m7 c7) HTI.out HB6.out HFX.out hown7 hgr7 hfr7;replace HCP:=Zh ((JR (v:=.slice ua un uc) hgr7).heap_some (fun hm=>by have:=HCB.out.2 cb (by simpa using hm);omega) HCP6.out);replace HBX:=Zh hst.2;have HST:=Zh hst.1;clear hown7 hgr7 hfr7 hst HOW HRW hlo6;refine hK.out _ _ HCP.out (fun hH=>?_);clear hK K
    try simp only[Act.put,ZA,ZB,ZC]
    refine ZT (i:=12) (v:=?vT20_12) rfl (Or.inl ⟨by rfl,?yT20_12⟩) ?_
    case yT20_12=>exact ZyQ
    exact QlF
   ·have ci:=V0 (siz b.nd) HSZ.out b _ zzl HBAT.out;rw[HYF.out]at ci
    (go_simp;go_at_call 78;refine ci.mono ?_;intro e w6 h6)
    clear ci;obtain⟨cy,rfl,hx6,hb6⟩:=h6;obtain⟨ka,km,hcy,hcm⟩:=hx6.form;have HX6:=Zh hx6;have HB6:=Zh hb6;have HCY:=Zh hcy;replace HCP:=Zh ((hb6.block _ (Jb HCP.out)).trans HCP.out);have HCP6:=HCP;have HT6:=Zh (HTI.out.up hb6);have HFX:Hid (ClX w6 (OkB w sb lo w6 (.slice ua un uc)) ⟨Qab b.nd,ac,rz⟩ [.int .i64 (Qab b.nd).kind,.int .i64 (Qab b.nd).num,.string (bs (Qab b.nd).name),.slice ka (Qab b.nd).kids.length km,.int .i64 ac,.string (bs rz)]):=⟨_,hx6.keep (fun _ _=>rfl) (JbB HTI.out HSB.out),by rw[hcy];rfl⟩
    have HOW:Hid ((w6.alloc (.cells #[.int .i64 (Qab b.nd).kind,.int .i64 (Qab b.nd).num,.string (bs (Qab b.nd).name),.slice ka (Qab b.nd).kids.length km,.int .i64 ac,.string (bs rz)] 32)).ownsRow lo 32 6 (.slice ua un uc) ((S.clauses.take i).map clM).length ys):=HT6.out.own.alloc _;have HRW:Hid ((w6.alloc (.cells #[.int .i64 (Qab b.nd).kind,.int .i64 (Qab b.nd).num,.string (bs (Qab b.nd).name),.slice ka (Qab b.nd).kids.length km,.int .i64 ac,.string (bs rz)] 32)).heap[w6.heap.size]?=some (.cells ([.int .i64 (Qab b.nd).kind,.int .i64 (Qab b.nd).num,.string (bs (Qab b.nd).name),.slice ka (Qab b.nd).kids.length km,.int .i64 ac,.string (bs rz)]).toArray 32 (0,0))):=zzw _ _;have hlo6:lo<=(w6.alloc (.cells #[.int .i64 (Qab b.nd).kind,.int .i64 (Qab b.nd).num,.string (bs (Qab b.nd).name),.slice ka (Qab b.nd).kids.length km,.int .i64 ac,.string (bs rz)] 32)).heap.size:=by have:=HT6.out.low;rw[World.size_alloc];omega
    have HBX:=Zh HT6.out.box;rw[hcy];clear hx6 hb6 hcy hcm HB0;refine hK.out _ _ HCP.out (fun hH=>?_);clear hK K
    try simp only[Act.put,ZA,ZB,ZC]
    refine ZT (i:=9) (v:=?vT22_9) rfl (Or.inl ⟨by rfl,?yT22_9⟩) ?_
    case yT22_9=>exact ZyQ
    try simp only[Act.put,ZA,ZB,ZC]
    refine ZR (rs:=[1,10]) (AllReadyH.cons rfl (fun K hK=>?_) (AllReadyH.cons rfl (fun K hK=>?_) AllReadyH.nil))
    ·have hbx:=HBX.out;have b0:=Ja hbx 1;simp only[ZD,ZE,ZF]at b0;go_simp;clear b0 hbx;refine hK.out _ _ HCP.out (fun hH=>?_);clear hK K
     try simp only[Act.put,ZA,ZB,ZC]
     refine ZS 10 rfl (fun K hK=>?_);go_simp;replace HCP:=Zh (Jg (X:=.cells #[.int .i64 (Qab b.nd).kind,.int .i64 (Qab b.nd).num,.string (bs (Qab b.nd).name),.slice ka (Qab b.nd).kids.length km,.int .i64 ac,.string (bs rz)] 32) HCP.out);refine hK.out _ _ HCP.out (fun hH=>?_);replace HBX:Hid ((w6.alloc (.cells #[.int .i64 (Qab b.nd).kind,.int .i64 (Qab b.nd).num,.string (bs (Qab b.nd).name),.slice ka (Qab b.nd).kids.length km,.int .i64 ac,.string (bs rz)] 32)).heap[bx]?=some (.cells #[.slice va vn vc,.slice ua un uc,.int .i64 S.action] 25 (0,0))):=Jg HBX.out;clear hK K
     try simp only[Act.put,ZA,ZB,ZC]
     refine ZS 11 rfl (fun K hK=>?_)
     (refine Jt (w6.alloc (.cells #[.int .i64 (Qab b.nd).kind,.int .i64 (Qab b.nd).num,.string (bs (Qab b.nd).name),.slice ka (Qab b.nd).kids.length km,.int .i64 ac,.string (bs rz)] 32)) (by rfl) (.tmp 49) (.tmp 58) 23 32 _ 6 80 (by rfl) underlying23 QcR rfl (by decide) lo (.slice ua un uc) ((S.clauses.take i).map clM).length ys [.int .i64 (Qab b.nd).kind,.int .i64 (Qab b.nd).num,.string (bs (Qab b.nd).name),.slice ka (Qab b.nd).kids.length km,.int .i64 ac,.string (bs rz)] (by rfl) HOW.out w6.heap.size (by rfl) HRW.out rfl (by intro u hu;simp at hu;rcases hu with rfl|rfl|rfl|rfl|rfl|rfl<;>rfl) HLN.out (by decide) hlo6 ?_;intro v7 w7 hown7 hgr7 hfr7)
     obtain⟨a7,m7,c7,rfl⟩:=Jh hown7;have hst:=R2.step (U':=.slice a7 m7 c7) HTI.out HB6.out HFX.out hown7 hgr7 hfr7;replace HCP:=Zh ((JR (v:=.slice ua un uc) hgr7).heap_some (fun hm=>by have:=HCB.out.2 cb (by simpa using hm);omega) HCP6.out);replace HBX:=Zh hst.2;have HST:=Zh hst.1;clear hown7 hgr7 hfr7 hst HOW HRW hlo6;refine hK.out _ _ HCP.out (fun hH=>?_);clear hK K
     try simp only[Act.put,ZA,ZB,ZC]
     refine ZT (i:=12) (v:=?vT25_12) rfl (Or.inl ⟨by rfl,?yT25_12⟩) ?_
     case yT25_12=>exact ZyQ
     exact QlF
    ·go_simp;replace HCP:=Zh (Jg (X:=.cells #[.int .i64 (Qab b.nd).kind,.int .i64 (Qab b.nd).num,.string (bs (Qab b.nd).name),.slice ka (Qab b.nd).kids.length km,.int .i64 ac,.string (bs rz)] 32) HCP.out);refine hK.out _ _ HCP.out (fun hH=>?_);replace HBX:Hid ((w6.alloc (.cells #[.int .i64 (Qab b.nd).kind,.int .i64 (Qab b.nd).num,.string (bs (Qab b.nd).name),.slice ka (Qab b.nd).kids.length km,.int .i64 ac,.string (bs rz)] 32)).heap[bx]?=some (.cells #[.slice va vn vc,.slice ua un uc,.int .i64 S.action] 25 (0,0))):=Jg HBX.out;clear hK K
     try simp only[Act.put,ZA,ZB,ZC]
     refine ZS 1 rfl (fun K hK=>?_);have hbx:=HBX.out;have b0:=Ja hbx 1;simp only[ZD,ZE,ZF]at b0;go_simp;clear b0 hbx;refine hK.out _ _ HCP.out (fun hH=>?_);clear hK K
     try simp only[Act.put,ZA,ZB,ZC]
     refine ZS 11 rfl (fun K hK=>?_)
     (refine Jt (w6.alloc (.cells #[.int .i64 (Qab b.nd).kind,.int .i64 (Qab b.nd).num,.string (bs (Qab b.nd).name),.slice ka (Qab b.nd).kids.length km,.int .i64 ac,.string (bs rz)] 32)) (by rfl) (.tmp 49) (.tmp 58) 23 32 _ 6 80 (by rfl) underlying23 QcR rfl (by decide) lo (.slice ua un uc) ((S.clauses.take i).map clM).length ys [.int .i64 (Qab b.nd).kind,.int .i64 (Qab b.nd).num,.string (bs (Qab b.nd).name),.slice ka (Qab b.nd).kids.length km,.int .i64 ac,.string (bs rz)] (by rfl) HOW.out w6.heap.size (by rfl) HRW.out rfl (by intro u hu;simp at hu;rcases hu with rfl|rfl|rfl|rfl|rfl|rfl<;>rfl) HLN.out (by decide) hlo6 ?_;intro v7 w7 hown7 hgr7 hfr7)
     obtain⟨a7,m7,c7,rfl⟩:=Jh hown7;have hst:=R2.step (U':=.slice a7 m7 c7) HTI.out HB6.out HFX.out hown7 hgr7 hfr7;replace HCP:=Zh ((JR (v:=.slice ua un uc) hgr7).heap_some (fun hm=>by have:=HCB.out.2 cb (by simpa using hm);omega) HCP6.out);replace HBX:=Zh hst.2;have HST:=Zh hst.1;clear hown7 hgr7 hfr7 hst HOW HRW hlo6;refine hK.out _ _ HCP.out (fun hH=>?_);clear hK K
     try simp only[Act.put,ZA,ZB,ZC]
     refine ZT (i:=12) (v:=?vT29_12) rfl (Or.inl ⟨by rfl,?yT29_12⟩) ?_
     case yT29_12=>exact ZyQ
     exact QlF
  ·have hil:¬ (i:Int)<(S.clauses.length:Int):=by omega
   obtain rfl:i=S.clauses.length:=by omega
   rw[List.take_length]at hti;have HTI:=Zh hti;have hbx:=hti.box;have hrs:=hti.res;have b0:=Ja hbx 0;have b1:=Ja hbx 1;have b2:=Ja hbx 2;have z0:=Ja hrs 0;have z1:=Ja hrs 1;have z2:=Ja hrs 2;simp only[ZD,ZE,ZF]at b0 b1 b2 z0 z1 z2;have y0:=Jc hrs 0;have y1:=Jc hrs 1;have y2:=Jc hrs 2;clear hi hg hti hbx hrs;go_wp2;refine bodyPost_ret (v:=.agg #[.slice va vn vc,.slice ua un uc,.int .i64 S.action]) (results_cell_row rfl _ _ w.heap.size 25 _ (0,0) _ rfl (QhX _ _ _ HTI.out.res) underlying25 rfl QfH) rfl ?_;rw[HR.out,Jio];obtain⟨e1,e2⟩:=HTI.out.fin HSB.out;exact⟨_,rfl,e1,e2⟩
end Go.Proofs.YtdlkcjkjnehnkaaGreatDoor
