import Derived.Test.YtdlkcjkjnehnkaaGreatDoorH20
open Nat(le_trans)
namespace Go.Proofs.YtdlkcjkjnehnkaaGreatDoor
open Go.ChangeShapes Go.WideShapes Go.ChangeAt Go.RowKit Go.Lib
open _root_.Go.Proofs.Tryz
set_option linter.all false
set_option maxRecDepth 100000
set_option maxHeartbeats 32000000
theorem Qcy.snoc{W:World}{P:Nat->Prop}{e:Exp}{c:Array Value}(he:XAt W P e c):∀ {l:List Exp} {xs:List Value},Qcy W P l xs->Qcy W P (l++[e]) (xs++c.toList)
 |[],xs,h=>by
  unfold Qcy at h;subst h
  show Qcy W P [e] _
  unfold Qcy;exact⟨c,[],he,by simp,by unfold Qcy;rfl⟩
 |a::l,xs,h=>by
  unfold Qcy at h;obtain⟨c',r,h1,rfl,h3⟩:=h
  show Qcy W P (a::(l++[e])) _
  unfold Qcy;exact⟨c',r++c.toList,h1,by simp,h3.snoc he⟩
theorem QbR.snoc{α:Type}{R:α->List Value->Prop}{e:α}{c:List Value}(he:R e c):∀ {l:List α} {xs:List Value},QbR R l xs->QbR R (l++[e]) (xs++c)
 |[],xs,h=>by
  obtain rfl:xs=[]:=h;exact⟨c,[],he,by simp,rfl⟩
 |a::l,xs,⟨c',r,h1,h2,h3⟩=>⟨c',r++c,h1,by rw[h2,List.append_assoc],QbR.snoc he h3⟩
theorem QgY:(prog.info? 30).map (fun i=>(i.zero,i.size,i.bytes))=some (some (.agg #[.int .i64 0,.int .i64 0,.string ⟨#[]⟩,.slice none 0 0]),4,56):=by kernel_rfl
theorem QhT:(prog.info? 30).map (·.size)=some 4:=by kernel_rfl
def Qgo(w W:World)(b:Nat):Prop:=w.heap.size<=b/\b<W.heap.size
structure TrI(w:World)(rs bx lo:Nat)(k n:Int)(s:List UInt8)(W:World)(l:List Exp)(V:Value)(xs:List Value):Prop where
 own:W.ownsRow lo 30 4 V l.length xs
 row:Qcy W (fun b=>lo<=b/\b<W.heap.size/\V.ownBlock≠some b) l xs
 box:W.heap[bx]?=some (.cells #[.int .i64 k,.int .i64 n,.string (bs s),V] 30 (0,0))
 res:W.heap[rs]?=some (.cells #[.int .i64 0,.int .i64 0,.string ⟨#[]⟩,.slice none 0 0] 30 (0,0))
 bel:Below w.heap.size w W
 low:w.heap.size<=rs/\rs<bx/\bx<lo/\lo<=W.heap.size
section
variable {w:World} {rs bx lo:Nat} {k n:Int} {s:List UInt8} {W W':World} {l:List Exp} {V:Value} {xs:List Value}
theorem TrI.up(h:TrI w rs bx lo k n s W l V xs)(hb:Below W.heap.size W W'):TrI w rs bx lo k n s W' l V xs:=by
 obtain⟨l1,l2,l3,l4⟩:=h.low;have hc:=Chg.of_below hb []
 exact⟨Jz h.own hc (by simp),Qcy.keep (fun b hP=>hb.block b hP.2.1) (fun b hP=>⟨hP.1,Nat.lt_of_lt_of_le hP.2.1 hb.size,hP.2.2⟩) _ _ h.row,(hb.block _ (Jb h.box)).trans h.box,(hb.block _ (Jb h.res)).trans h.res,
  ⟨hb.os.trans h.bel.os,hb.tape.trans h.bel.tape,hb.output.trans h.bel.output,le_trans h.bel.size hb.size,fun q hq=>(hb.block q (Nat.lt_of_lt_of_le hq h.bel.size)).trans (h.bel.block q hq)⟩,l1,l2,l3,le_trans l4 hb.size⟩
theorem TrI.step{w1 w6 w7:World}{e:Exp}{c:Array Value}{V':Value}{X:Obj}(h:TrI w rs bx lo k n s w1 l V xs)(hb:Below w1.heap.size w1 w6)(hx:XAt w6 (Qgo w1 w6) e c)
  (hown:w7.ownsRow lo 30 4 V' (l.length+1) (xs++c.toList)) (hgr:(w6.alloc X).grownBy w7 V.ownBlock) (hfr:V'.ownBlock=V.ownBlock\/V'.ownBlock=some (w6.alloc X).heap.size) :
  TrI w rs bx lo k n s (w7.setCell ⟨bx,3,none⟩ V') (l++[e]) V' (xs++c.toList)/\w7.heap[bx]?=some (.cells #[.int .i64 k,.int .i64 n,.string (bs s),V] 30 (0,0)):=by
 have h6:=h.up hb;obtain⟨l1,l2,l3,l4⟩:=h6.low;have hrow:∀ g,V.ownBlock=some g->lo<=g/\g<w1.heap.size:=fun g hg=>h.own.lt g hg
 have hc7:=JR hgr;have hbx7:w7.heap[bx]?=some (.cells #[.int .i64 k,.int .i64 n,.string (bs s),V] 30 (0,0)):=hc7.heap_some (fun hm=>by have:=(hrow bx (by simpa using hm)).1;omega) h6.box;have hst:Chg [bx] w7 (w7.setCell ⟨bx,3,none⟩ V'):=(Chg.refl _ _).setCell (.inl (by simp:bx∈[bx])) (p:=⟨bx,3,none⟩) V';have hkeep:∀ q,q<w6.heap.size->V.ownBlock≠some q->q≠bx->(w7.setCell ⟨bx,3,none⟩ V').heap[q]?=w6.heap[q]?:=fun q hq hn hne=>(hst.block q (Nat.lt_of_lt_of_le hq hc7.size) (by simpa using hne)).trans (hc7.block q hq (by simpa using hn))
 have hsz:w6.heap.size<=(w7.setCell ⟨bx,3,none⟩ V').heap.size:=le_trans hc7.size hst.size
 have hV':∀ b,b<w6.heap.size->V.ownBlock≠some b->V'.ownBlock≠some b:=by
  intro b hb1 hb2 e1
  rcases hfr with e2|e2
  ·exact hb2 (e2.symm.trans e1)
  ·rw[e2]at e1;simp at e1;omega
 have hb16:=hb.size;refine⟨⟨?_,Qcy.snoc ?_ ?_,?_,?_,?_,l1,l2,l3,le_trans l4 hsz⟩,hbx7⟩
 ·rw[List.length_append];exact Jz hown hst (by simp;omega)
 ·refine XAt.keep (P:=Qgo w1 w6) (fun b hP=>?_) (fun b hP=>?_) _ _ hx
  ·exact hkeep b hP.2 (fun e1=>by have h1:=(hrow b e1).2;have h2:=hP.1;omega) (by have h2:=hP.1;have:=h.low;omega)
  ·have h2:=hP.1;have h3:=hP.2;have:=h.low;exact⟨by omega,by omega,hV' b h3 (fun e1=>by have h1:=(hrow b e1).2;omega)⟩
 ·exact Qcy.keep (fun b hP=>hkeep b hP.2.1 hP.2.2 (by have:=hP.1;omega)) (fun b hP=>⟨hP.1,by have:=hP.2.1;omega,hV' b hP.2.1 hP.2.2⟩) _ _ h6.row
 ·exact J3 hbx7 3 V'
 ·exact(hkeep _ (Jb h6.res) (fun e1=>by have h1:=(hrow _ e1).1;omega) (by omega)).trans h6.res
 ·have hlw:w.heap.size<=w6.heap.size:=h6.bel.size;exact Qms
theorem TrI.fin(h:TrI w rs bx lo k n s W l V xs):let W':=(((W.setCell ⟨rs,0,none⟩ (.int .i64 k)).setCell ⟨rs,1,none⟩ (.int .i64 n)).setCell ⟨rs,2,none⟩ (.string (bs s))).setCell ⟨rs,3,none⟩ V
  XAt W' (Qgo w W') (.mk k n s l) #[.int .i64 k,.int .i64 n,.string (bs s),V]/\Below w.heap.size w W':=by
 intro W';obtain⟨l1,l2,l3,l4⟩:=h.low;have hst:Chg [rs] W W':=((((Chg.refl _ _).setCell (.inl (by simp)) _).setCell (.inl (by simp)) _).setCell (.inl (by simp)) _).setCell (.inl (by simp)) _;have hsz:=hst.size;refine⟨XAt.own (Jz h.own hst (by simp;omega)) (Qcy.keep (fun b hP=>hst.block b hP.2.1 (by have:=hP.1;simp;omega)) (fun b hP=>⟨by have:=hP.1;omega,by have:=hP.2.1;omega⟩) _ _ h.row) (fun g hg=>?_),Qlk _ _ _ _ h.bel l1⟩;have:=h.own.lt g hg;exact⟨by omega,by omega⟩
end
theorem Jgd(l:List Nd)(a:Nd):QaJ (l++[a])=QaJ l++[Qab a]:=by
 induction l with
 |nil=>simp[QaJ]
 |cons x r ih=>simp[QaJ,ih]
def TrP(w:World)(x:Exp)(e:Ending)(w':World):Prop:=∃ c,e=.returned (.agg c)/\XAt w' (Qgo w w') x c/\Below w.heap.size w w'
theorem Jge(n:Nat)(IH:∀ (a:An) (w:World),siz a.nd<=n->a.At w->Calls prog 78 #[.agg (Qaa a)] w (TrP w (Qab a.nd)))(k nn:Int)(s:List UInt8)(off:Int)(b c:Nat)(l:List An)(w:World)(hn:Qbq (ndL l)<=n)(hb:n<=100000000)(hat:(An.mk k nn s off b c l).At w) :
  Calls prog 78 #[.agg (Qaa (.mk k nn s off b c l))] w (TrP w (.mk k nn s (QaJ (ndL l)))):=by
 obtain⟨R,hR⟩:∃ R,TrP w (.mk k nn s (QaJ (ndL l)))=R:=⟨_,rfl⟩
 rw[hR];have HR:Hid (R=TrP w (.mk k nn s (QaJ (ndL l)))):=hR.symm;obtain⟨ad,cc,hkv,had⟩:=Jo b c l
 have hcs:Qaa (.mk k nn s off b c l)=#[.int .i64 k,.int .i64 nn,.string (bs s),.int .i64 off,.slice ad l.length cc]:=by
  show #[_,_,_,_,QaB b c l]=_
  rw[hkv]
 have hbA:Below w.heap.size w (((w.alloc (.cells #[.int .i64 k,.int .i64 nn,.string (bs s),.int .i64 off,.slice ad l.length cc] 103)).alloc (.cells #[.int .i64 0,.int .i64 0,.string ⟨#[]⟩,.slice none 0 0] 30)).alloc (.cells #[.int .i64 k,.int .i64 nn,.string (bs s),.slice none 0 0] 30)):=((zzb.alloc zzl _).alloc (by simp) _).alloc (by simp;omega) _
 have HI0:Hid (TrI w (w.heap.size+1) (w.heap.size+1+1) (w.heap.size+1+1+1) k nn s (((w.alloc (.cells #[.int .i64 k,.int .i64 nn,.string (bs s),.int .i64 off,.slice ad l.length cc] 103)).alloc (.cells #[.int .i64 0,.int .i64 0,.string ⟨#[]⟩,.slice none 0 0] 30)).alloc (.cells #[.int .i64 k,.int .i64 nn,.string (bs s),.slice none 0 0] 30)) [] (.slice none 0 0) []):=by
  have e1:=zzw (w.alloc (.cells #[.int .i64 k,.int .i64 nn,.string (bs s),.int .i64 off,.slice ad l.length cc] 103)) (.cells #[.int .i64 0,.int .i64 0,.string ⟨#[]⟩,.slice none 0 0] 30);have e2:=zzw ((w.alloc (.cells #[.int .i64 k,.int .i64 nn,.string (bs s),.int .i64 off,.slice ad l.length cc] 103)).alloc (.cells #[.int .i64 0,.int .i64 0,.string ⟨#[]⟩,.slice none 0 0] 30)) (.cells #[.int .i64 k,.int .i64 nn,.string (bs s),.slice none 0 0] 30);simp only[World.size_alloc]at e1 e2;exact⟨⟨rfl,.inl ⟨rfl,rfl⟩⟩,by unfold Qcy;rfl,e2,Jg e1,hbA,by omega,by omega,by omega,by simp⟩
 have HNB:Hid ((((w.alloc (.cells #[.int .i64 k,.int .i64 nn,.string (bs s),.int .i64 off,.slice ad l.length cc] 103)).alloc (.cells #[.int .i64 0,.int .i64 0,.string ⟨#[]⟩,.slice none 0 0] 30)).alloc (.cells #[.int .i64 k,.int .i64 nn,.string (bs s),.slice none 0 0] 30)).heap[w.heap.size]?=some (.cells #[.int .i64 k,.int .i64 nn,.string (bs s),.int .i64 off,.slice ad l.length cc] 103 (0,0))):=Jg (Jg (zzw _ _));have HAT:=Zh hat;have HAD:=Zh had;have HIH:=Zh IH;have hll:l.length<=100000000:=by have:=Jx l;omega
 have HSZ:=Zh hn;rw[hcs];clear hR hbA hkv had hcs IH hat hn;go_enter func78,ntmps78;go_wp2_with fail;generalize World.alloc (World.alloc (World.alloc w _) _) _=w1 at *;generalize w.heap.size+1+1+1=lo at *;generalize w.heap.size+1+1=bx at *;generalize w.heap.size+1=rs at *;have HLW:Hid (w.heap.size<w1.heap.size):=Jb HNB.out;have n4:=Ja HNB.out 4;simp only[ZD,ZE,ZF]at n4;go_wp2_with fail;clear n4;go_loopg [16] l.length (fun g v16 wr=>∃ i:Nat,g+i=l.length/\v16=.int .i64 i/\Hid (∃ V xs,TrI w rs bx lo k nn s wr (QaJ (ndL (l.take i))) V xs)/\Hid (Below w.heap.size w wr))
 case atStart=>exact⟨0,rfl,rfl,⟨_,_,HI0.out⟩,HI0.out.bel⟩
 case round=>
 clear HI0 HNB;obtain⟨wl,rfl⟩:∃ wl:World,wl=wr:=⟨_,rfl⟩
 obtain⟨i,hg,rfl,hti,hbw⟩:=hrel;obtain⟨V,xs,hti⟩:=hti.out;obtain⟨va,vn,vc,rfl⟩:=Jh hti.own
 by_cases hi:i<l.length
 ·have hil:(i:Int)<(l.length:Int):=by omega
  obtain⟨y,hy⟩:∃ y,l[i]?=some y:=⟨l[i],List.getElem?_eq_getElem hi⟩
  have hmem:=List.mem_of_getElem? hy;have had':ad=some ⟨b,0,none⟩:=HAD.out (List.ne_nil_of_mem hmem);have hat:=HAT.out;have hat2:(An.mk k nn s off b c l).At wl:=JJ _ hat fun q hq=>hbw.out.block q (Jbn _ hat q hq)
  unfold An.At at hat2;obtain⟨hcl,hya⟩:=JT hat2.2 hy;rw[Nat.zero_add]at hcl;obtain⟨yA,yn,yc,hcf⟩:=Jf y;rw[hcf]at hcl;have c0:=hcl 0 _ rfl;have c1:=hcl 1 _ rfl;have c2:=hcl 2 _ rfl;have c3:=hcl 3 _ rfl;have c4:=hcl 4 _ rfl;simp only[Nat.add_zero]at c0;have wk:IntKind.i64.wrap ((i:Int)+1)=(i:Int)+1:=IntWalk.i64_in _ (by omega);have hb2:Below wl.heap.size wl (wl.alloc (.cells #[.int .i64 y.kind,.int .i64 y.num,.string (bs y.name),.int .i64 y.off,.slice yA yn yc] 103)):=zzb.alloc zzl _;have HTI:=Zh (hti.up hb2);have HYA:=Zh (JJ y hya fun q hq=>hb2.block q (Jbn y hya q hq));have HCP:=Zh (zzw wl (.cells #[.int .i64 y.kind,.int .i64 y.num,.string (bs y.name),.int .i64 y.off,.slice yA yn yc] 103));have HTS:Hid (QaJ (ndL (l.take (i+1)))=QaJ (ndL (l.take i))++[Qab y.nd]):=by rw[Hid,List.take_add_one,hy];show QaJ (ndL (_++[y]))=_;rw[K3,Jgd]
  have HLN:Hid ((QaJ (ndL (l.take i))).length<=100000000):=by
   have e1:∀ q:List Nd,(QaJ q).length=q.length:=fun q=>by induction q with
    |nil=>rfl
    |cons x r ih=>simp[QaJ,ih]
   have e2:∀ q:List An,(ndL q).length=q.length:=fun q=>by rw[Kj,List.length_map]
   rw[Hid,e1,e2,List.length_take];omega
  have HYS:Hid (siz y.nd<=n):=by have:=JL hmem;have:=HSZ.out;rw[Hid];omega
  have HYF:=Zh hcf;have HG:=Zh hg;subst had';clear hat hat2 hcl hcf hb2 hti hy hmem HAD hg hya hbw;go_upto_region 5 with fail;clear c0 c1 c2 c3 c4;generalize World.alloc wl _=wk0 at *;generalize wl.heap.size=cb at *;have hD:Below wk0.heap.size wk0 wk0.drew:=(Below.refl wk0.heap.size wk0).drew;replace HTI:=Zh (HTI.out.up hD);replace HYA:=Zh (JJ y HYA.out fun q hq=>hD.block q (Jbn y HYA.out q hq));replace HCP:=Zh ((hD.block _ (Jb HCP.out)).trans HCP.out);clear hD;have b3:=Ja HTI.out.box 3;simp only[ZD,ZE,ZF]at b3;refine LB (fun W=>W.cell? ⟨bx,3,none⟩=some (.slice va vn vc)) 7 (b3) fun hH=>?_
  generalize wk0.drew=wk1 at *;refine LK 0 rfl ?_;refine LK 1 rfl ?_;refine LO 2 rfl fun K hK=>?_
  have hbx:=HCP.out;have p0:=Ja hbx 0;have p1:=Ja hbx 1;have p2:=Ja hbx 2;have p3:=Ja hbx 3;have p4:=Ja hbx 4;simp only[ZD,ZE,ZF]at p0 p1 p2 p3 p4;go_simp;clear p0 p1 p2 p3 p4 hbx;refine hK.out _ _ (b3) fun hH=>?_
  clear hK K;refine LO 3 rfl fun K hK=>?_
  have ci:=HIH.out y _ HYS.out HYA.out;rw[HYF.out]at ci
  (go_simp;go_at_call 78;refine ci.mono ?_;intro e w6 h6)
  clear ci;obtain⟨cy,rfl,hx6,hb6⟩:=h6;obtain⟨ca,cm,hcy,hcm⟩:=hx6.form;have HX6:=Zh hx6;have HB6:=Zh hb6;have HCY:=Zh hcy;replace HCP:=Zh ((hb6.block _ (Jb HCP.out)).trans HCP.out);have HT6:=Zh (HTI.out.up hb6);have HOW:Hid ((w6.alloc (.cells cy 30)).ownsRow lo 30 4 (.slice va vn vc) (QaJ (ndL (l.take i))).length xs):=HT6.out.own.alloc _;have HRW:Hid ((w6.alloc (.cells cy 30)).heap[w6.heap.size]?=some (.cells cy.toList.toArray 30 (0,0))):=zzw _ _;have hlo6:lo<=(w6.alloc (.cells cy 30)).heap.size:=by have:=HT6.out.low;rw[World.size_alloc];omega
  replace b3:=Ja HT6.out.box 3;simp only[ZD,ZE,ZF]at b3;rw[hcy]at HOW HRW hlo6 |-;clear hx6 hb6 hcy hcm;refine hK.out _ _ (b3) fun hH=>?_
  clear hK K;refine LO 4 rfl fun K hK=>?_
  go_simp;refine hK.out _ _ (by simp[*,World.cell?_alloc_some]) fun hH=>?_
  clear hK K;refine LO 5 rfl fun K hK=>?_
  (refine Jt (w6.alloc (.cells #[.int .i64 (Qab y.nd).kind,.int .i64 (Qab y.nd).num,.string (bs (Qab y.nd).name),.slice ca (Qab y.nd).kids.length cm] 30)) (by rfl) (.tmp 21) (.tmp 24) 28 30 _ 4 56 (by rfl) underlying28 QgY rfl (by decide) lo (.slice va vn vc) (QaJ (ndL (l.take i))).length xs [.int .i64 (Qab y.nd).kind,.int .i64 (Qab y.nd).num,.string (bs (Qab y.nd).name),.slice ca (Qab y.nd).kids.length cm] (by rfl) HOW.out w6.heap.size (by rfl) HRW.out rfl (by intro u hu;simp at hu;rcases hu with rfl|rfl|rfl|rfl<;>rfl) HLN.out (by decide) hlo6 ?_;intro v7 w7 hown7 hgr7 hfr7)
  obtain⟨a7,m7,c7,rfl⟩:=Jh hown7;have hst:=TrI.step (V':=.slice a7 m7 c7) HTI.out HB6.out HX6.out (by rw[HCY.out];exact hown7) hgr7 hfr7;replace b3:=Ja hst.2 3;simp only[ZD,ZE,ZF]at b3;have f3:=Jc hst.2 3;have hl7:=Jb hst.2;have HST:=Zh hst.1;clear hown7 hgr7 hfr7 hst HOW HRW hlo6;refine hK.out _ _ (b3) fun hH=>?_
  clear hK K;refine LK 6 rfl ?_;refine LZ 7 rfl fun K hK=>?_
  go_simp;clear b3 f3 hl7;refine hK.out _ _ ?_;clear hK K;have HB7:Hid (Below w.heap.size w (w7.setCell ⟨bx,3,none⟩ (.slice a7 m7 c7))):=HST.out.bel;go_wp2;go_roundg (l.length-(i+1))
  case measure=>have:=HG.out;omega
  case rel=>exact⟨i+1,by omega,by go_num,⟨_,_,by rw[HTS.out];exact HST.out⟩,HB7⟩
 ·have hil:¬ (i:Int)<(l.length:Int):=by omega
  obtain rfl:i=l.length:=by omega
  rw[List.take_length]at hti;have HTI:=Zh hti;have hbx:=hti.box;have hrs:=hti.res;have b0:=Ja hbx 0;have b1:=Ja hbx 1;have b2:=Ja hbx 2;have b3:=Ja hbx 3;have z0:=Ja hrs 0;have z1:=Ja hrs 1;have z2:=Ja hrs 2;have z3:=Ja hrs 3;simp only[ZD,ZE,ZF]at b0 b1 b2 b3 z0 z1 z2 z3;have y0:=Jc hrs 0;have y1:=Jc hrs 1;have y2:=Jc hrs 2;have y3:=Jc hrs 3;clear hi hg hti hbx hrs;go_wp2;refine bodyPost_ret (v:=.agg #[.int .i64 k,.int .i64 nn,.string (bs s),.slice va vn vc]) (results_cell_row rfl _ _ rs 30 _ (0,0) _ rfl (QlH _ _ _ _ HTI.out.res) underlying30 rfl QhT) rfl ?_;rw[HR.out];obtain⟨e1,e2⟩:=HTI.out.fin;exact⟨_,rfl,e1,e2⟩
theorem V0:∀ n,n<=100000000->∀ (a:An) (w:World),siz a.nd<=n->a.At w->Calls prog 78 #[.agg (Qaa a)] w (TrP w (Qab a.nd))
 |0,_,a,w,h,_=>by have:=VC a.nd;omega
 |n+1,hn,.mk k nn s off b c l,w,h,hat=>by
  rw[Y8]at h;have e:Qab (An.mk k nn s off b c l).nd=.mk k nn s (QaJ (ndL l)):=by unfold An.nd;rw[Qab]
  rw[e];exact Jge n (fun a w h1 h2=>V0 n (by omega) a w h1 h2) k nn s off b c l w (by omega) (by omega) hat
end Go.Proofs.YtdlkcjkjnehnkaaGreatDoor
