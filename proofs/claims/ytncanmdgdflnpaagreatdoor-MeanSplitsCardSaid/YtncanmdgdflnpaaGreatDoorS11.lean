
import Derived.Test.YtncanmdgdflnpaaGreatDoorS10
namespace Go.Proofs.YtncanmdgdflnpaaGreatDoor
open Go.ChangeShapes Go.WideShapes Go.ChangeAt Go.RowKit Go.Lib
open _root_.Go.Proofs.Tryz
set_option linter.all false
set_option maxRecDepth 100000
set_option maxHeartbeats 32000000
theorem JiK (f:Nat) {r r1:List Tok} (h:acc 0 kLet r=some r1):pM (f+1) .expr r=(identP r1).bind fun nm r2=>(accept 3 [61] r2).bind fun _ r3=>(pM f .expr r3).bind fun v r4=>(accept 0 kIn r4).bind fun _ r5=>(pM f .expr r5).bind fun b r6=>.ok (.mk 19 0 nm.1 (hd r).off [v,b]) r6:=by rw[pM,h]
theorem Jjk (f:Nat) {r r1:List Tok} (h0:acc 0 kLet r=none) (h:acc 0 kIf r=some r1):pM (f+1) .expr r=(pM f .expr r1).bind fun c r2=>(accept 0 kThen r2).bind fun _ r3=>(pM f .expr r3).bind fun y r4=>(accept 0 kElse r4).bind fun _ r5=>(pM f .expr r5).bind fun z r6=>.ok (.mk 18 0 [] (hd r).off [c,y,z]) r6:=by rw[pM,h0,h]
theorem Jjl (f:Nat) {r:List Tok} (h0:acc 0 kLet r=none) (h:acc 0 kIf r=none):pM (f+1) .expr r=pM f (.level 1) r:=by rw[pM,h0,h]
theorem J1 {α β:Type} (a:α) (r:List Tok) (f:α→List Tok→PR β):(PR.ok a r).bind f=f a r:=rfl
structure Bx (p lo hi:Nat) (W:World) (bx:Nat) (a:An):Prop where
 at':a.At W
 made:Made lo hi a
 hle:lo≤hi∧hi≤W.heap.size
 box:W.heap[bx]?=some (.cells (cellsN a) 119 (0,0))
 ne:bx≠p
 lt:p<lo
theorem Bx.on {p lo hi:Nat} {W W':World} {bx:Nat} {a:An} (h:Bx p lo hi W bx a) (hc:Chg [p] W W'):Bx p lo hi W' bx a:=
 ⟨Y2 h.at' h.made hc h.hle.2 (fun b hb=>by have:=h.lt; simp at hb; omega),h.made,⟨h.hle.1,Nat.le_trans h.hle.2 hc.size⟩,hc.heap_some (by simp; exact h.ne) h.box,h.ne,h.lt⟩
theorem Bx.make {p:Nat} {w2 w3:World} {a:An} {A:Option Addr} {C:Nat} {T:List Tok} {k:Nat} (hat:a.At w3) (hm:Made w2.heap.size w3.heap.size a) (hp:p<w2.heap.size) (hP:PAt w3 p A C T k) (hs:w2.heap.size≤w3.heap.size):Bx p w2.heap.size w3.heap.size (w3.alloc (.cells (cellsN a) 119)) w3.heap.size a:=
 ⟨Kg hat hm ((Below.refl _ _).alloc (Nat.le_refl _) _) (Nat.le_refl _),hm,⟨hs,by simp⟩,heap_alloc_new _ _,Ne.symm (Nat.ne_of_lt hP.chg1),hp⟩
theorem sx1 {P:Prop}(h:P:=by
  try simp only[Act.put,ZA,ZB,ZC]
  refine ZS 8 rfl (fun K hK=>?_);have hbx:=HRS.out;obtain ⟨b0,b1,b2,b3,b4⟩:=Jg hbx;have hf:=fun j=>Jc hbx j
  have f0:=hf 0;have f1:=hf 1;have f2:=hf 2;have f3:=hf 3;have f4:=hf 4;have hl4:=Jb hbx;clear hf;go_simp;clear b0 b1 b2 b3 b4 hbx f0 f1 f2 f3 f4 hl4;refine hK.out _ _ trivial (fun hH=>?_);clear hK K
  try simp only[Act.put,ZA,ZB,ZC]
  refine wpAnyH_done (by kernel_rfl) ?_ _;have HMD:Hid (MadeL lova w9.heap.size [va,b]):=⟨bxa,HBXva.out.hle.1,HBXva.out.made,w9.heap.size,HBXva.out.hle.2,HB9.out.2.1.mono HLO9.out (Nat.le_refl _),Nat.le_refl _⟩
  have HFIN:=Zh (fun v0 v1 v2 v3 v4=>V6 (w:=w) (W3:=w9) (kids:=[va,b]) (cs:=#[.int .i64 va.kind,.int .i64 va.num,.string (bs va.name),.int .i64 va.off,.slice vaA van vac,.int .i64 b.kind,.int .i64 b.num,.string (bs b.name),.int .i64 b.off,.slice yA yn yc]) (by simp) (by simp[rowN,HCFva.out,HCG.out]) (by simp; exact ⟨HBXva.out.at',HB9.out.1⟩) HMD.out HLHva.out HB9.out.2.2.1 (HC.out.trans HB9.out.2.2.2) HPL.out HTL.out 19 0 nm of 2 v0 v1 v2 v3 v4);have HX6:Hid (X=.ok (An.mk 19 0 nm of w9.heap.size 2 [va,b]).nd (T.drop k9)):=by rw[Hid,← HEQ.out,HX9.out]; rfl
  go_wp2;refine bodyPost_ret (v:=.agg (cellsN (An.mk 19 0 nm of w9.heap.size 2 [va,b]))) (results_cell_row rfl _ _ w.heap.size 119 _ (0,0) _ rfl (KY _ _ _ _ _ _ HRS.out) underlying119 rfl infoNode) rfl ?_;rw[HR.out,HX6.out];obtain ⟨e1,e2,e3,e4⟩:=HFIN.out _ _ _ _ _
  exact ⟨_,rfl,rfl,e1,e2,⟨k9,rfl,e3⟩,e4⟩):P:=h
theorem sx2 {P:Prop}(h:P:=by
  try simp only[Act.put,ZA,ZB,ZC]
  refine ZS 7 rfl (fun K hK=>?_);have hbx:=HRS.out;obtain ⟨b0,b1,b2,b3,b4⟩:=Jg hbx;have hf:=fun j=>Jc hbx j
  have f0:=hf 0;have f1:=hf 1;have f2:=hf 2;have f3:=hf 3;have f4:=hf 4;have hl4:=Jb hbx;clear hf;go_simp;clear b0 b1 b2 b3 b4 hbx f0 f1 f2 f3 f4 hl4;refine hK.out _ _ trivial (fun hH=>?_);clear hK K
  try simp only[Act.put,ZA,ZB,ZC]
  refine wpAnyH_done (by kernel_rfl) ?_ _;have HMD:Hid (MadeL lova w9.heap.size [va,vb,b]):=⟨bxa,HBXva.out.hle.1,HBXva.out.made,bxb,Nat.le_trans HLAB.out HBXvb.out.hle.1,HBXvb.out.made.mono HLAB.out (Nat.le_refl _),w9.heap.size,HBXvb.out.hle.2,HB9.out.2.1.mono HLO9.out (Nat.le_refl _),Nat.le_refl _⟩
  have HFIN:=Zh (fun v0 v1 v2 v3 v4=>V6 (w:=w) (W3:=w9) (kids:=[va,vb,b]) (cs:=#[.int .i64 va.kind,.int .i64 va.num,.string (bs va.name),.int .i64 va.off,.slice vaA van vac,.int .i64 vb.kind,.int .i64 vb.num,.string (bs vb.name),.int .i64 vb.off,.slice vbA vbn vbc,.int .i64 b.kind,.int .i64 b.num,.string (bs b.name),.int .i64 b.off,.slice yA yn yc]) (by simp) (by simp[rowN,HCFva.out,HCFvb.out,HCG.out]) (by simp; exact ⟨HBXva.out.at',HBXvb.out.at',HB9.out.1⟩) HMD.out HLHva.out HB9.out.2.2.1 (HC.out.trans HB9.out.2.2.2) HPL.out HTL.out 18 0 [] of 3 v0 v1 v2 v3 v4);have HX6:Hid (X=.ok (An.mk 18 0 [] of w9.heap.size 3 [va,vb,b]).nd (T.drop k9)):=by rw[Hid,← HEQ.out,HX9.out]; rfl
  go_wp2;refine bodyPost_ret (v:=.agg (cellsN (An.mk 18 0 [] of w9.heap.size 3 [va,vb,b]))) (results_cell_row rfl _ _ w.heap.size 119 _ (0,0) _ rfl (KY _ _ _ _ _ _ HRS.out) underlying119 rfl infoNode) rfl ?_;rw[HR.out,HX6.out];obtain ⟨e1,e2,e3,e4⟩:=HFIN.out _ _ _ _ _
  exact ⟨_,rfl,rfl,e1,e2,⟨k9,rfl,e3⟩,e4⟩):P:=h
theorem sx37 {P:Prop}(h:P:=by
  rw[hx9] at h9;obtain ⟨rfl,hc9⟩:=h9;refine ⟨rfl,?_⟩;rw[HR.out,← HEQ.out,hx9]
  exact ⟨rfl,HC.out.trans hc9⟩):P:=h
theorem sx79 {P:Prop}(h:P:=by
  obtain ⟨rfl,hc2⟩:=h2;refine ⟨rfl,?_⟩;rw[HR.out,← HX1.out,ha]
  exact ⟨rfl,HC.out.trans hc2⟩):P:=h
theorem sx95 {P:Prop}(h:P:=by
  rw[hx4] at h3;obtain ⟨rfl,hc3⟩:=h3;refine ⟨rfl,?_⟩;rw[HR.out,← HX1.out,hx4]
  exact ⟨rfl,HC.out.trans hc3⟩):P:=h
theorem JfQ (f p:Nat) (A:Option Addr) (C:Nat) (T:List Tok) (hx:∀ t∈T,t.text.length≤1000000)
  (I1:∀ k w,PAt w p A C T k→pM f .expr (T.drop k)≠.out→Calls prog 65 #[.pointer (some ⟨p,0,none⟩)] w (NdP p A C T w (pM f .expr (T.drop k))))
  (I2:∀ k w,PAt w p A C T k→pM f (.level 1) (T.drop k)≠.out→Calls prog 105 #[.pointer (some ⟨p,0,none⟩),.int .i64 1] w (NdP p A C T w (pM f (.level 1) (T.drop k))))
  (k:Nat) (w:World) (h:PAt w p A C T k) (hne:pM (f+1) .expr (T.drop k)≠.out) :
  Calls prog 65 #[.pointer (some ⟨p,0,none⟩)] w (NdP p A C T w (pM (f+1) .expr (T.drop k))):=by
 obtain ⟨X,hX⟩:∃ X,pM (f+1) .expr (T.drop k)=X:=⟨_,rfl⟩
 have HX0:=Zh hX;rw[hX] at hne ⊢;obtain ⟨R,hR⟩:∃ R,NdP p A C T w X=R:=⟨_,rfl⟩
 rw[hR];have HR:Hid (R=NdP p A C T w X):=hR.symm;have HNE:=Zh hne;have hZ:=heap_alloc_new w (.cells #[.int .i64 0,.int .i64 0,.string ⟨#[]⟩,.int .i64 0,.slice none 0 0] 119);have hB:=(Below.refl w.heap.size w).alloc (Nat.le_refl _) (.cells #[.int .i64 0,.int .i64 0,.string ⟨#[]⟩,.int .i64 0,.slice none 0 0] 119);have cp:=JK p A C T k _ (h.chg hB);obtain ⟨of,hof⟩:∃ of,(hd (T.drop k)).off=of:=⟨_,rfl⟩
 unfold TokP at cp;have hfl:∀ (t:Tok) (W:World),(Instr.field 105 (.agg (tokZ t)) 3).run prog W=.ok (.int .i64 t.off) W:=fun t W=>by obtain ⟨a,b,c,d⟩:=t; kernel_rfl
 have hfl':=hfl (hd (T.drop k));rw[hof] at hfl';have HOF:=Zh hof;generalize tokZ (hd (T.drop k))=tv at *;have HP:=Zh (h.chg hB);have HZ:=Zh hZ;have HB:=Zh hB;have HPL:=Zh h.chg1;have HTL:=Zh h.tokLt;have hpz:w.heap.size≠p:=by have:=HPL.out; omega
 clear h hne hR hZ hB hfl hof hX;go_enter func65,ntmps65;go_wp2_with fail;refine cp.mono ?_;rintro e w1 ⟨rfl,hb1⟩;replace HP:=Zh (HP.out.chg hb1);have HRS:Hid (w1.heap[w.heap.size]?=some (.cells #[.int .i64 0,.int .i64 0,.string ⟨#[]⟩,.int .i64 0,.slice none 0 0] 119 (0,0))):=(hb1.block _ (Jb HZ.out)).trans HZ.out;have HC:=Zh (Chg.of_below (HB.out.trans (hb1.mono HB.out.size)) [p]);clear cp hb1 HZ HB;go_wp2_with fail;refine (Jr p A C T k 0 kLet w1 HP.out (by decide)).mono ?_;intro e w2 h2
 rcases h2 with ⟨g1,g2,rfl,hp2,hc2⟩ | ⟨g1,rfl,hb2⟩
 ·have hx1:=HX0.out;rw[JiK f (JF g1 g2),HOF.out] at hx1;have HX1:=Zh hx1;replace HP:=Zh hp2;replace HC:=Zh (HC.out.trans hc2);replace HRS:=Zh (hc2.heap_some (by simp; exact hpz) HRS.out);clear g1 g2 hp2 hc2 hx1 I2 HX0 HOF;go_wp2_with fail;refine (KF p A C T (k+1) _ HP.out hx).mono ?_;intro e w3 h3
  rcases Kk (T.drop (k+1)) with ⟨nm,r,hi⟩ | hi
  rotate_left
  ·rw[hi] at h3;obtain ⟨rfl,hc3⟩:=h3;refine ⟨rfl,?_⟩;rw[HR.out,← HX1.out,hi];exact ⟨rfl,HC.out.trans hc3⟩
  rw[hi] at h3;obtain ⟨rfl,⟨k3,hr3,hp3⟩,hc3⟩:=h3;subst hr3;obtain ⟨nm,of2⟩:=nm;have hx1:=HX1.out;rw[hi] at hx1;rw[J1] at hx1
  try dsimp only at hx1
  replace HX1:=Zh hx1;have hA3:Below w3.heap.size w3 (w3.alloc (.cells #[.string (bs nm),.int .i64 of2] 115)):=(Below.refl _ _).alloc (Nat.le_refl _) _;have HLB:=Zh (heap_alloc_new w3 (.cells #[.string (bs nm),.int .i64 of2] 115));have hlp:w3.heap.size≠p:=Ne.symm (Nat.ne_of_lt hp3.chg1);replace HP:=Zh (hp3.chg hA3);replace HC:=Zh ((HC.out.trans hc3).alloc (.cells #[.string (bs nm),.int .i64 of2] 115));replace HRS:=Zh (Jh (X:=.cells #[.string (bs nm),.int .i64 of2] 115) (hc3.heap_some (by simp; exact hpz) HRS.out));clear hi hp3 hc3 hA3 hx1 hx;unfold labV;dsimp only;go_wp2_with fail;generalize World.alloc w3 _=w3' at *;generalize w3.heap.size=lb at *;go_wp2_with fail;refine (signP p A C T k3 [61] _ HP.out).mono ?_;intro e w4 h2
  rcases Js 3 [61] (T.drop k3) with ⟨r2,ha⟩ | ha
  rotate_left
  ·rw[ha] at h2;exact sx79
  rw[ha] at h2;obtain ⟨rfl,⟨k4,hr2,hp2⟩,hc2⟩:=h2;subst hr2;have hx1:=HX1.out;rw[ha] at hx1;rw[J1] at hx1
  try dsimp only at hx1
  replace HX1:=Zh hx1;replace HP:=Zh hp2;replace HC:=Zh (HC.out.trans hc2);replace HRS:=Zh (hc2.heap_some (by simp; exact hpz) HRS.out);replace HLB:=Zh (hc2.heap_some (by simp; exact hlp) HLB.out);clear ha hp2 hc2 hx1;have hne9:pM f .expr (T.drop k4)≠.out:=Jl (by rw[HX1.out]; exact HNE.out);go_wp2_with fail;refine (I1 k4 _ HP.out hne9).mono ?_;intro e w5 h3
  cases hx4:pM f .expr (T.drop k4) with
  | out=>exact absurd hx4 hne9
  | bad q=>
   exact sx95
  | ok nd r=>
  rw[hx4] at h3;obtain ⟨va,hnd,rfl,hat,hmd,⟨k5,hr,hp3⟩,hc3⟩:=h3;subst hnd hr;have HBXva:=Zh (Bx.make hat hmd (Nat.lt_of_lt_of_le HPL.out HC.out.size) hp3 hc3.size);have hA3:Below w5.heap.size w5 (w5.alloc (.cells (cellsN va) 119)):=(Below.refl _ _).alloc (Nat.le_refl _) _;have HLHva:Hid (w.heap.size<w4.heap.size):=Jb HRS.out;have hx1:=HX1.out;rw[hx4] at hx1;rw[J1] at hx1
  try dsimp only at hx1
  replace HX1:=Zh hx1;replace HP:=Zh (hp3.chg hA3);replace HC:=Zh ((HC.out.trans hc3).alloc (.cells (cellsN va) 119));replace HRS:=Zh ((hA3.block _ (Jb (hc3.heap_some (by simp; exact hpz) HRS.out))).trans (hc3.heap_some (by simp; exact hpz) HRS.out));have hc3':=hc3.alloc (.cells (cellsN va) 119);replace HLB:=Zh (hc3'.heap_some (by simp; exact hlp) HLB.out);obtain ⟨vaA,van,vac,hcf⟩:=Je va;have HCFva:=Zh hcf;rw[hcf] at HBXva HP HC HRS HLB ⊢;clear hx4 hat hmd hp3 hc3 hc3' hcf hA3 hx1 hne9;go_wp2_with fail;generalize World.alloc w5 _=w5' at *;generalize w5.heap.size=bxa at *;generalize w4.heap.size=lova at *;go_wp2_with fail;refine (wordP p A C T k5 kIn _ HP.out).mono ?_;intro e w6 h2
  rcases Js 0 kIn (T.drop k5) with ⟨r2,ha⟩ | ha
  rotate_left
  ·rw[ha] at h2;exact sx79
  rw[ha] at h2;obtain ⟨rfl,⟨k6,hr2,hp2⟩,hc2⟩:=h2;subst hr2;have hx1:=HX1.out;rw[ha] at hx1;rw[J1] at hx1
  try dsimp only at hx1
  replace HX1:=Zh hx1;replace HP:=Zh hp2;replace HC:=Zh (HC.out.trans hc2);replace HRS:=Zh (hc2.heap_some (by simp; exact hpz) HRS.out);replace HLB:=Zh (hc2.heap_some (by simp; exact hlp) HLB.out);replace HBXva:=Zh (HBXva.out.on hc2);clear ha hp2 hc2 hx1;have hne9:pM f .expr (T.drop k6)≠.out:=Jl (by rw[HX1.out]; exact HNE.out);have HEQ:=HX1;clear HX1;go_upto_region 7 with fail;have hD:Below w6.heap.size w6 w6.drew:=(Below.refl _ _).drew;replace HP:=Zh (HP.out.chg hD);replace HC:=Zh (HC.out.trans (Chg.of_below hD [p]));replace HRS:=Zh ((hD.block _ (Jb HRS.out)).trans HRS.out);replace HBXva:=Zh (HBXva.out.on (Chg.of_below hD [p]));replace HLB:=Zh ((hD.block _ (Jb HLB.out)).trans HLB.out);clear hD;have HLO9:Hid (bxa≤w6.drew.heap.size):=HBXva.out.hle.2;refine wp_region_held_drew (S:=fun _=>True) (by kernel_rfl) (trivial) (fun hH=>?_);refine ZT (i:=0) (v:=?vT1_0) rfl (Or.inl ⟨by rfl,?yT1_0⟩) ?_
  case yT1_0=>exact ZyQ
  try simp only[Act.put,ZA,ZB,ZC]
  refine ZT (i:=2) (v:=?vT1_2) rfl (Or.inl ⟨by rfl,?yT1_2⟩) ?_
  case yT1_2=>exact ZyQ
  try simp only[Act.put,ZA,ZB,ZC]
  refine ZT (i:=4) (v:=?vT1_4) rfl (Or.inl ⟨by rfl,?yT1_4⟩) ?_
  case yT1_4=>exact ZyQ
  try simp only[Act.put,ZA,ZB,ZC]
  refine ZR (rs:=[1,3,5]) (AllReadyH.cons rfl (fun K hK=>?_) (AllReadyH.cons rfl (fun K hK=>?_) (AllReadyH.cons rfl (fun K hK=>?_) AllReadyH.nil)))
  ·have hlb:=HLB.out;have b0:=Ja hlb 0;simp only[ZD,ZE,ZF] at b0;go_simp;clear b0 hlb;refine hK.out _ _ trivial (fun hH=>?_);clear hK K
   try simp only[Act.put,ZA,ZB,ZC]
   refine ZR (rs:=[3,5]) (AllReadyH.cons rfl (fun K hK=>?_) (AllReadyH.cons rfl (fun K hK=>?_) AllReadyH.nil))
   ·have hbx:=HBXva.out.box;rw[HCFva.out] at hbx;obtain ⟨b0,b1,b2,b3,b4⟩:=Jg hbx;go_simp;clear b0 b1 b2 b3 b4 hbx;refine hK.out _ _ trivial (fun hH=>?_);clear hK K
    try simp only[Act.put,ZA,ZB,ZC]
    refine ZS 5 rfl (fun K hK=>?_)
    (go_simp; go_at_call 65; refine (I1 k6 _ HP.out hne9).mono ?_; intro e w9 h9)
    cases hx9:pM f .expr (T.drop k6) with
    | out=>exact absurd hx9 hne9
    | bad q=>
     exact sx37
    | ok nd r=>
    rw[hx9] at h9;obtain ⟨b,hnd,rfl,hbt,hbm,⟨k9,hr,hp9⟩,hc9⟩:=h9;subst hnd hr;obtain ⟨yA,yn,yc,hcg⟩:=Je b;have HB9:=Zh (show _∧_∧_∧_ from ⟨hbt,hbm,hp9,hc9⟩);have HX9:=Zh hx9;have HCG:=Zh hcg;rw[hcg];replace HRS:=Zh (hc9.heap_some (by simp; exact hpz) HRS.out);replace HBXva:=Zh (HBXva.out.on hc9);replace HLB:=Zh (hc9.heap_some (by simp; exact hlp) HLB.out);clear hx9 hbt hbm hp9 hc9 hcg hne9;refine hK.out _ _ trivial (fun hH=>?_);clear hK K
    try simp only[Act.put,ZA,ZB,ZC]
    refine ZS 6 rfl (fun K hK=>?_);go_simp;refine hK.out _ _ trivial (fun hH=>?_);clear hK K
    try simp only[Act.put,ZA,ZB,ZC]
    refine ZT (i:=7) (v:=?vT5_7) rfl (Or.inl ⟨by rfl,?yT5_7⟩) ?_
    case yT5_7=>exact ZyQ
    exact sx1
   ·(go_simp; go_at_call 65; refine (I1 k6 _ HP.out hne9).mono ?_; intro e w9 h9)
    cases hx9:pM f .expr (T.drop k6) with
    | out=>exact absurd hx9 hne9
    | bad q=>
     exact sx37
    | ok nd r=>
    rw[hx9] at h9;obtain ⟨b,hnd,rfl,hbt,hbm,⟨k9,hr,hp9⟩,hc9⟩:=h9;subst hnd hr;obtain ⟨yA,yn,yc,hcg⟩:=Je b;have HB9:=Zh (show _∧_∧_∧_ from ⟨hbt,hbm,hp9,hc9⟩);have HX9:=Zh hx9;have HCG:=Zh hcg;rw[hcg];replace HRS:=Zh (hc9.heap_some (by simp; exact hpz) HRS.out);replace HBXva:=Zh (HBXva.out.on hc9);replace HLB:=Zh (hc9.heap_some (by simp; exact hlp) HLB.out);clear hx9 hbt hbm hp9 hc9 hcg hne9;refine hK.out _ _ trivial (fun hH=>?_);clear hK K
    try simp only[Act.put,ZA,ZB,ZC]
    refine ZS 3 rfl (fun K hK=>?_);have hbx:=HBXva.out.box;rw[HCFva.out] at hbx;obtain ⟨b0,b1,b2,b3,b4⟩:=Jg hbx;go_simp;clear b0 b1 b2 b3 b4 hbx;refine hK.out _ _ trivial (fun hH=>?_);clear hK K
    try simp only[Act.put,ZA,ZB,ZC]
    refine ZS 6 rfl (fun K hK=>?_);go_simp;refine hK.out _ _ trivial (fun hH=>?_);clear hK K
    try simp only[Act.put,ZA,ZB,ZC]
    refine ZT (i:=7) (v:=?vT9_7) rfl (Or.inl ⟨by rfl,?yT9_7⟩) ?_
    case yT9_7=>exact ZyQ
    exact sx1
  ·have hbx:=HBXva.out.box;rw[HCFva.out] at hbx;obtain ⟨b0,b1,b2,b3,b4⟩:=Jg hbx;go_simp;clear b0 b1 b2 b3 b4 hbx;refine hK.out _ _ trivial (fun hH=>?_);clear hK K
   try simp only[Act.put,ZA,ZB,ZC]
   refine ZR (rs:=[1,5]) (AllReadyH.cons rfl (fun K hK=>?_) (AllReadyH.cons rfl (fun K hK=>?_) AllReadyH.nil))
   ·have hlb:=HLB.out;have b0:=Ja hlb 0;simp only[ZD,ZE,ZF] at b0;go_simp;clear b0 hlb;refine hK.out _ _ trivial (fun hH=>?_);clear hK K
    try simp only[Act.put,ZA,ZB,ZC]
    refine ZS 5 rfl (fun K hK=>?_)
    (go_simp; go_at_call 65; refine (I1 k6 _ HP.out hne9).mono ?_; intro e w9 h9)
    cases hx9:pM f .expr (T.drop k6) with
    | out=>exact absurd hx9 hne9
    | bad q=>
     exact sx37
    | ok nd r=>
    rw[hx9] at h9;obtain ⟨b,hnd,rfl,hbt,hbm,⟨k9,hr,hp9⟩,hc9⟩:=h9;subst hnd hr;obtain ⟨yA,yn,yc,hcg⟩:=Je b;have HB9:=Zh (show _∧_∧_∧_ from ⟨hbt,hbm,hp9,hc9⟩);have HX9:=Zh hx9;have HCG:=Zh hcg;rw[hcg];replace HRS:=Zh (hc9.heap_some (by simp; exact hpz) HRS.out);replace HBXva:=Zh (HBXva.out.on hc9);replace HLB:=Zh (hc9.heap_some (by simp; exact hlp) HLB.out);clear hx9 hbt hbm hp9 hc9 hcg hne9;refine hK.out _ _ trivial (fun hH=>?_);clear hK K
    try simp only[Act.put,ZA,ZB,ZC]
    refine ZS 6 rfl (fun K hK=>?_);go_simp;refine hK.out _ _ trivial (fun hH=>?_);clear hK K
    try simp only[Act.put,ZA,ZB,ZC]
    refine ZT (i:=7) (v:=?vT14_7) rfl (Or.inl ⟨by rfl,?yT14_7⟩) ?_
    case yT14_7=>exact ZyQ
    exact sx1
   ·(go_simp; go_at_call 65; refine (I1 k6 _ HP.out hne9).mono ?_; intro e w9 h9)
    cases hx9:pM f .expr (T.drop k6) with
    | out=>exact absurd hx9 hne9
    | bad q=>
     exact sx37
    | ok nd r=>
    rw[hx9] at h9;obtain ⟨b,hnd,rfl,hbt,hbm,⟨k9,hr,hp9⟩,hc9⟩:=h9;subst hnd hr;obtain ⟨yA,yn,yc,hcg⟩:=Je b;have HB9:=Zh (show _∧_∧_∧_ from ⟨hbt,hbm,hp9,hc9⟩);have HX9:=Zh hx9;have HCG:=Zh hcg;rw[hcg];replace HRS:=Zh (hc9.heap_some (by simp; exact hpz) HRS.out);replace HBXva:=Zh (HBXva.out.on hc9);replace HLB:=Zh (hc9.heap_some (by simp; exact hlp) HLB.out);clear hx9 hbt hbm hp9 hc9 hcg hne9;refine hK.out _ _ trivial (fun hH=>?_);clear hK K
    try simp only[Act.put,ZA,ZB,ZC]
    refine ZR (rs:=[1,6]) (AllReadyH.cons rfl (fun K hK=>?_) (AllReadyH.cons rfl (fun K hK=>?_) AllReadyH.nil))
    ·have hlb:=HLB.out;have b0:=Ja hlb 0;simp only[ZD,ZE,ZF] at b0;go_simp;clear b0 hlb;refine hK.out _ _ trivial (fun hH=>?_);clear hK K
     try simp only[Act.put,ZA,ZB,ZC]
     refine ZS 6 rfl (fun K hK=>?_);go_simp;refine hK.out _ _ trivial (fun hH=>?_);clear hK K
     try simp only[Act.put,ZA,ZB,ZC]
     refine ZT (i:=7) (v:=?vT18_7) rfl (Or.inl ⟨by rfl,?yT18_7⟩) ?_
     case yT18_7=>exact ZyQ
     exact sx1
    ·go_simp;refine hK.out _ _ trivial (fun hH=>?_);replace HLB:Hid ((w9.alloc (.cells #[.int .i64 va.kind,.int .i64 va.num,.string (bs va.name),.int .i64 va.off,.slice vaA van vac,.int .i64 b.kind,.int .i64 b.num,.string (bs b.name),.int .i64 b.off,.slice yA yn yc] 119)).heap[lb]?=some (.cells #[.string (bs nm),.int .i64 of2] 115 (0,0))):=Jh HLB.out;clear hK K
     try simp only[Act.put,ZA,ZB,ZC]
     refine ZS 1 rfl (fun K hK=>?_);have hlb:=HLB.out;have b0:=Ja hlb 0;simp only[ZD,ZE,ZF] at b0;go_simp;clear b0 hlb;refine hK.out _ _ trivial (fun hH=>?_);clear hK K
     try simp only[Act.put,ZA,ZB,ZC]
     refine ZT (i:=7) (v:=?vT21_7) rfl (Or.inl ⟨by rfl,?yT21_7⟩) ?_
     case yT21_7=>exact ZyQ
     exact sx1
  ·(go_simp; go_at_call 65; refine (I1 k6 _ HP.out hne9).mono ?_; intro e w9 h9)
   cases hx9:pM f .expr (T.drop k6) with
   | out=>exact absurd hx9 hne9
   | bad q=>
    exact sx37
   | ok nd r=>
   rw[hx9] at h9;obtain ⟨b,hnd,rfl,hbt,hbm,⟨k9,hr,hp9⟩,hc9⟩:=h9;subst hnd hr;obtain ⟨yA,yn,yc,hcg⟩:=Je b;have HB9:=Zh (show _∧_∧_∧_ from ⟨hbt,hbm,hp9,hc9⟩);have HX9:=Zh hx9;have HCG:=Zh hcg;rw[hcg];replace HRS:=Zh (hc9.heap_some (by simp; exact hpz) HRS.out);replace HBXva:=Zh (HBXva.out.on hc9);replace HLB:=Zh (hc9.heap_some (by simp; exact hlp) HLB.out);clear hx9 hbt hbm hp9 hc9 hcg hne9;refine hK.out _ _ trivial (fun hH=>?_);clear hK K
   try simp only[Act.put,ZA,ZB,ZC]
   refine ZR (rs:=[1,3]) (AllReadyH.cons rfl (fun K hK=>?_) (AllReadyH.cons rfl (fun K hK=>?_) AllReadyH.nil))
   ·have hlb:=HLB.out;have b0:=Ja hlb 0;simp only[ZD,ZE,ZF] at b0;go_simp;clear b0 hlb;refine hK.out _ _ trivial (fun hH=>?_);clear hK K
    try simp only[Act.put,ZA,ZB,ZC]
    refine ZS 3 rfl (fun K hK=>?_);have hbx:=HBXva.out.box;rw[HCFva.out] at hbx;obtain ⟨b0,b1,b2,b3,b4⟩:=Jg hbx;go_simp;clear b0 b1 b2 b3 b4 hbx;refine hK.out _ _ trivial (fun hH=>?_);clear hK K
    try simp only[Act.put,ZA,ZB,ZC]
    refine ZS 6 rfl (fun K hK=>?_);go_simp;refine hK.out _ _ trivial (fun hH=>?_);clear hK K
    try simp only[Act.put,ZA,ZB,ZC]
    refine ZT (i:=7) (v:=?vT26_7) rfl (Or.inl ⟨by rfl,?yT26_7⟩) ?_
    case yT26_7=>exact ZyQ
    exact sx1
   ·have hbx:=HBXva.out.box;rw[HCFva.out] at hbx;obtain ⟨b0,b1,b2,b3,b4⟩:=Jg hbx;go_simp;clear b0 b1 b2 b3 b4 hbx;refine hK.out _ _ trivial (fun hH=>?_);clear hK K
    try simp only[Act.put,ZA,ZB,ZC]
    refine ZR (rs:=[1,6]) (AllReadyH.cons rfl (fun K hK=>?_) (AllReadyH.cons rfl (fun K hK=>?_) AllReadyH.nil))
    ·have hlb:=HLB.out;have b0:=Ja hlb 0;simp only[ZD,ZE,ZF] at b0;go_simp;clear b0 hlb;refine hK.out _ _ trivial (fun hH=>?_);clear hK K
     try simp only[Act.put,ZA,ZB,ZC]
     refine ZS 6 rfl (fun K hK=>?_);go_simp;refine hK.out _ _ trivial (fun hH=>?_);clear hK K
     try simp only[Act.put,ZA,ZB,ZC]
     refine ZT (i:=7) (v:=?vT30_7) rfl (Or.inl ⟨by rfl,?yT30_7⟩) ?_
     case yT30_7=>exact ZyQ
     exact sx1
    ·go_simp;refine hK.out _ _ trivial (fun hH=>?_);replace HLB:Hid ((w9.alloc (.cells #[.int .i64 va.kind,.int .i64 va.num,.string (bs va.name),.int .i64 va.off,.slice vaA van vac,.int .i64 b.kind,.int .i64 b.num,.string (bs b.name),.int .i64 b.off,.slice yA yn yc] 119)).heap[lb]?=some (.cells #[.string (bs nm),.int .i64 of2] 115 (0,0))):=Jh HLB.out;clear hK K
     try simp only[Act.put,ZA,ZB,ZC]
     refine ZS 1 rfl (fun K hK=>?_);have hlb:=HLB.out;have b0:=Ja hlb 0;simp only[ZD,ZE,ZF] at b0;go_simp;clear b0 hlb;refine hK.out _ _ trivial (fun hH=>?_);clear hK K
     try simp only[Act.put,ZA,ZB,ZC]
     refine ZT (i:=7) (v:=?vT33_7) rfl (Or.inl ⟨by rfl,?yT33_7⟩) ?_
     case yT33_7=>exact ZyQ
     exact sx1
 ·have hn1:=J4 g1;replace HP:=Zh (HP.out.chg hb2);replace HC:=Zh (HC.out.trans (Chg.of_below hb2 [p]));replace HRS:=Zh ((hb2.block _ (Jb HRS.out)).trans HRS.out);clear g1 hb2;go_wp2_with fail;refine (Jr p A C T k 0 kIf w2 HP.out (by decide)).mono ?_;intro e w3 h3
  rcases h3 with ⟨g1,g2,rfl,hp2,hc2⟩ | ⟨g1,rfl,hb2⟩
  ·have hx1:=HX0.out;rw[Jjk f hn1 (JF g1 g2),HOF.out] at hx1;have HX1:=Zh hx1;replace HP:=Zh hp2;replace HC:=Zh (HC.out.trans hc2);replace HRS:=Zh (hc2.heap_some (by simp; exact hpz) HRS.out);clear g1 g2 hp2 hc2 hx1 I2 HX0 HOF hn1 hx;have hne9:pM f .expr (T.drop (k+1))≠.out:=Jl (by rw[HX1.out]; exact HNE.out);go_wp2_with fail;refine (I1 (k+1) _ HP.out hne9).mono ?_;intro e w4 h3
   cases hx4:pM f .expr (T.drop (k+1)) with
   | out=>exact absurd hx4 hne9
   | bad q=>
    exact sx95
   | ok nd r=>
   rw[hx4] at h3;obtain ⟨va,hnd,rfl,hat,hmd,⟨k4,hr,hp3⟩,hc3⟩:=h3;subst hnd hr;have HBXva:=Zh (Bx.make hat hmd (Nat.lt_of_lt_of_le HPL.out HC.out.size) hp3 hc3.size);have hA3:Below w4.heap.size w4 (w4.alloc (.cells (cellsN va) 119)):=(Below.refl _ _).alloc (Nat.le_refl _) _;have HLHva:Hid (w.heap.size<w3.heap.size):=Jb HRS.out;have hx1:=HX1.out;rw[hx4] at hx1;rw[J1] at hx1
   try dsimp only at hx1
   replace HX1:=Zh hx1;replace HP:=Zh (hp3.chg hA3);replace HC:=Zh ((HC.out.trans hc3).alloc (.cells (cellsN va) 119));replace HRS:=Zh ((hA3.block _ (Jb (hc3.heap_some (by simp; exact hpz) HRS.out))).trans (hc3.heap_some (by simp; exact hpz) HRS.out));have hc3':=hc3.alloc (.cells (cellsN va) 119);obtain ⟨vaA,van,vac,hcf⟩:=Je va;have HCFva:=Zh hcf;rw[hcf] at HBXva HP HC HRS ⊢;clear hx4 hat hmd hp3 hc3 hc3' hcf hA3 hx1 hne9;go_wp2_with fail;generalize World.alloc w4 _=w4' at *;generalize w4.heap.size=bxa at *;generalize w3.heap.size=lova at *;go_wp2_with fail;refine (wordP p A C T k4 kThen _ HP.out).mono ?_;intro e w5 h2
   rcases Js 0 kThen (T.drop k4) with ⟨r2,ha⟩ | ha
   rotate_left
   ·rw[ha] at h2;exact sx79
   rw[ha] at h2;obtain ⟨rfl,⟨k5,hr2,hp2⟩,hc2⟩:=h2;subst hr2;have hx1:=HX1.out;rw[ha] at hx1;rw[J1] at hx1
   try dsimp only at hx1
   replace HX1:=Zh hx1;replace HP:=Zh hp2;replace HC:=Zh (HC.out.trans hc2);replace HRS:=Zh (hc2.heap_some (by simp; exact hpz) HRS.out);replace HBXva:=Zh (HBXva.out.on hc2);clear ha hp2 hc2 hx1;have hne9:pM f .expr (T.drop k5)≠.out:=Jl (by rw[HX1.out]; exact HNE.out);go_wp2_with fail;refine (I1 k5 _ HP.out hne9).mono ?_;intro e w6 h3
   cases hx4:pM f .expr (T.drop k5) with
   | out=>exact absurd hx4 hne9
   | bad q=>
    exact sx95
   | ok nd r=>
   rw[hx4] at h3;obtain ⟨vb,hnd,rfl,hat,hmd,⟨k6,hr,hp3⟩,hc3⟩:=h3;subst hnd hr;have HLAB:Hid (bxa≤w5.heap.size):=HBXva.out.hle.2;have HBXvb:=Zh (Bx.make hat hmd (Nat.lt_of_lt_of_le HPL.out HC.out.size) hp3 hc3.size);have hA3:Below w6.heap.size w6 (w6.alloc (.cells (cellsN vb) 119)):=(Below.refl _ _).alloc (Nat.le_refl _) _;have HLHvb:Hid (w.heap.size<w5.heap.size):=Jb HRS.out;have hx1:=HX1.out;rw[hx4] at hx1;rw[J1] at hx1
   try dsimp only at hx1
   replace HX1:=Zh hx1;replace HP:=Zh (hp3.chg hA3);replace HC:=Zh ((HC.out.trans hc3).alloc (.cells (cellsN vb) 119));replace HRS:=Zh ((hA3.block _ (Jb (hc3.heap_some (by simp; exact hpz) HRS.out))).trans (hc3.heap_some (by simp; exact hpz) HRS.out));have hc3':=hc3.alloc (.cells (cellsN vb) 119);replace HBXva:=Zh (HBXva.out.on hc3');obtain ⟨vbA,vbn,vbc,hcf⟩:=Je vb;have HCFvb:=Zh hcf;rw[hcf] at HBXvb HP HC HRS HBXva ⊢;clear hx4 hat hmd hp3 hc3 hc3' hcf hA3 hx1 hne9;go_wp2_with fail;generalize World.alloc w6 _=w6' at *;generalize w6.heap.size=bxb at *;generalize w5.heap.size=lovb at *;go_wp2_with fail;refine (wordP p A C T k6 kElse _ HP.out).mono ?_;intro e w7 h2
   rcases Js 0 kElse (T.drop k6) with ⟨r2,ha⟩ | ha
   rotate_left
   ·rw[ha] at h2;exact sx79
   rw[ha] at h2;obtain ⟨rfl,⟨k7,hr2,hp2⟩,hc2⟩:=h2;subst hr2;have hx1:=HX1.out;rw[ha] at hx1;rw[J1] at hx1
   try dsimp only at hx1
   replace HX1:=Zh hx1;replace HP:=Zh hp2;replace HC:=Zh (HC.out.trans hc2);replace HRS:=Zh (hc2.heap_some (by simp; exact hpz) HRS.out);replace HBXva:=Zh (HBXva.out.on hc2);replace HBXvb:=Zh (HBXvb.out.on hc2);clear ha hp2 hc2 hx1;have hne9:pM f .expr (T.drop k7)≠.out:=Jl (by rw[HX1.out]; exact HNE.out);have HEQ:=HX1;clear HX1;go_upto_region 13 with fail;have hD:Below w7.heap.size w7 w7.drew:=(Below.refl _ _).drew;replace HP:=Zh (HP.out.chg hD);replace HC:=Zh (HC.out.trans (Chg.of_below hD [p]));replace HRS:=Zh ((hD.block _ (Jb HRS.out)).trans HRS.out);replace HBXva:=Zh (HBXva.out.on (Chg.of_below hD [p]));replace HBXvb:=Zh (HBXvb.out.on (Chg.of_below hD [p]));clear hD;have HLO9:Hid (bxb≤w7.drew.heap.size):=HBXvb.out.hle.2;refine wp_region_held_drew (S:=fun _=>True) (by kernel_rfl) (trivial) (fun hH=>?_);refine ZT (i:=0) (v:=?vT35_0) rfl (Or.inl ⟨by rfl,?yT35_0⟩) ?_
   case yT35_0=>exact ZyQ
   try simp only[Act.put,ZA,ZB,ZC]
   refine ZT (i:=3) (v:=?vT35_3) rfl (Or.inl ⟨by rfl,?yT35_3⟩) ?_
   case yT35_3=>exact ZyQ
   try simp only[Act.put,ZA,ZB,ZC]
   refine ZR (rs:=[1,2,4]) (AllReadyH.cons rfl (fun K hK=>?_) (AllReadyH.cons rfl (fun K hK=>?_) (AllReadyH.cons rfl (fun K hK=>?_) AllReadyH.nil)))
   ·have hbx:=HBXva.out.box;rw[HCFva.out] at hbx;obtain ⟨b0,b1,b2,b3,b4⟩:=Jg hbx;go_simp;clear b0 b1 b2 b3 b4 hbx;refine hK.out _ _ trivial (fun hH=>?_);clear hK K
    try simp only[Act.put,ZA,ZB,ZC]
    refine ZR (rs:=[2,4]) (AllReadyH.cons rfl (fun K hK=>?_) (AllReadyH.cons rfl (fun K hK=>?_) AllReadyH.nil))
    ·have hbx:=HBXvb.out.box;rw[HCFvb.out] at hbx;obtain ⟨b0,b1,b2,b3,b4⟩:=Jg hbx;go_simp;clear b0 b1 b2 b3 b4 hbx;refine hK.out _ _ trivial (fun hH=>?_);clear hK K
     try simp only[Act.put,ZA,ZB,ZC]
     refine ZS 4 rfl (fun K hK=>?_)
     (go_simp; go_at_call 65; refine (I1 k7 _ HP.out hne9).mono ?_; intro e w9 h9)
     cases hx9:pM f .expr (T.drop k7) with
     | out=>exact absurd hx9 hne9
     | bad q=>
      exact sx37
     | ok nd r=>
     rw[hx9] at h9;obtain ⟨b,hnd,rfl,hbt,hbm,⟨k9,hr,hp9⟩,hc9⟩:=h9;subst hnd hr;obtain ⟨yA,yn,yc,hcg⟩:=Je b;have HB9:=Zh (show _∧_∧_∧_ from ⟨hbt,hbm,hp9,hc9⟩);have HX9:=Zh hx9;have HCG:=Zh hcg;rw[hcg];replace HRS:=Zh (hc9.heap_some (by simp; exact hpz) HRS.out);replace HBXva:=Zh (HBXva.out.on hc9);replace HBXvb:=Zh (HBXvb.out.on hc9);clear hx9 hbt hbm hp9 hc9 hcg hne9;refine hK.out _ _ trivial (fun hH=>?_);clear hK K
     try simp only[Act.put,ZA,ZB,ZC]
     refine ZS 5 rfl (fun K hK=>?_);go_simp;refine hK.out _ _ trivial (fun hH=>?_);clear hK K
     try simp only[Act.put,ZA,ZB,ZC]
     refine ZT (i:=6) (v:=?vT39_6) rfl (Or.inl ⟨by rfl,?yT39_6⟩) ?_
     case yT39_6=>exact ZyQ
     exact sx2
    ·(go_simp; go_at_call 65; refine (I1 k7 _ HP.out hne9).mono ?_; intro e w9 h9)
     cases hx9:pM f .expr (T.drop k7) with
     | out=>exact absurd hx9 hne9
     | bad q=>
      exact sx37
     | ok nd r=>
     rw[hx9] at h9;obtain ⟨b,hnd,rfl,hbt,hbm,⟨k9,hr,hp9⟩,hc9⟩:=h9;subst hnd hr;obtain ⟨yA,yn,yc,hcg⟩:=Je b;have HB9:=Zh (show _∧_∧_∧_ from ⟨hbt,hbm,hp9,hc9⟩);have HX9:=Zh hx9;have HCG:=Zh hcg;rw[hcg];replace HRS:=Zh (hc9.heap_some (by simp; exact hpz) HRS.out);replace HBXva:=Zh (HBXva.out.on hc9);replace HBXvb:=Zh (HBXvb.out.on hc9);clear hx9 hbt hbm hp9 hc9 hcg hne9;refine hK.out _ _ trivial (fun hH=>?_);clear hK K
     try simp only[Act.put,ZA,ZB,ZC]
     refine ZS 2 rfl (fun K hK=>?_);have hbx:=HBXvb.out.box;rw[HCFvb.out] at hbx;obtain ⟨b0,b1,b2,b3,b4⟩:=Jg hbx;go_simp;clear b0 b1 b2 b3 b4 hbx;refine hK.out _ _ trivial (fun hH=>?_);clear hK K
     try simp only[Act.put,ZA,ZB,ZC]
     refine ZS 5 rfl (fun K hK=>?_);go_simp;refine hK.out _ _ trivial (fun hH=>?_);clear hK K
     try simp only[Act.put,ZA,ZB,ZC]
     refine ZT (i:=6) (v:=?vT43_6) rfl (Or.inl ⟨by rfl,?yT43_6⟩) ?_
     case yT43_6=>exact ZyQ
     exact sx2
   ·have hbx:=HBXvb.out.box;rw[HCFvb.out] at hbx;obtain ⟨b0,b1,b2,b3,b4⟩:=Jg hbx;go_simp;clear b0 b1 b2 b3 b4 hbx;refine hK.out _ _ trivial (fun hH=>?_);clear hK K
    try simp only[Act.put,ZA,ZB,ZC]
    refine ZR (rs:=[1,4]) (AllReadyH.cons rfl (fun K hK=>?_) (AllReadyH.cons rfl (fun K hK=>?_) AllReadyH.nil))
    ·have hbx:=HBXva.out.box;rw[HCFva.out] at hbx;obtain ⟨b0,b1,b2,b3,b4⟩:=Jg hbx;go_simp;clear b0 b1 b2 b3 b4 hbx;refine hK.out _ _ trivial (fun hH=>?_);clear hK K
     try simp only[Act.put,ZA,ZB,ZC]
     refine ZS 4 rfl (fun K hK=>?_)
     (go_simp; go_at_call 65; refine (I1 k7 _ HP.out hne9).mono ?_; intro e w9 h9)
     cases hx9:pM f .expr (T.drop k7) with
     | out=>exact absurd hx9 hne9
     | bad q=>
      exact sx37
     | ok nd r=>
     rw[hx9] at h9;obtain ⟨b,hnd,rfl,hbt,hbm,⟨k9,hr,hp9⟩,hc9⟩:=h9;subst hnd hr;obtain ⟨yA,yn,yc,hcg⟩:=Je b;have HB9:=Zh (show _∧_∧_∧_ from ⟨hbt,hbm,hp9,hc9⟩);have HX9:=Zh hx9;have HCG:=Zh hcg;rw[hcg];replace HRS:=Zh (hc9.heap_some (by simp; exact hpz) HRS.out);replace HBXva:=Zh (HBXva.out.on hc9);replace HBXvb:=Zh (HBXvb.out.on hc9);clear hx9 hbt hbm hp9 hc9 hcg hne9;refine hK.out _ _ trivial (fun hH=>?_);clear hK K
     try simp only[Act.put,ZA,ZB,ZC]
     refine ZS 5 rfl (fun K hK=>?_);go_simp;refine hK.out _ _ trivial (fun hH=>?_);clear hK K
     try simp only[Act.put,ZA,ZB,ZC]
     refine ZT (i:=6) (v:=?vT48_6) rfl (Or.inl ⟨by rfl,?yT48_6⟩) ?_
     case yT48_6=>exact ZyQ
     exact sx2
    ·(go_simp; go_at_call 65; refine (I1 k7 _ HP.out hne9).mono ?_; intro e w9 h9)
     cases hx9:pM f .expr (T.drop k7) with
     | out=>exact absurd hx9 hne9
     | bad q=>
      exact sx37
     | ok nd r=>
     rw[hx9] at h9;obtain ⟨b,hnd,rfl,hbt,hbm,⟨k9,hr,hp9⟩,hc9⟩:=h9;subst hnd hr;obtain ⟨yA,yn,yc,hcg⟩:=Je b;have HB9:=Zh (show _∧_∧_∧_ from ⟨hbt,hbm,hp9,hc9⟩);have HX9:=Zh hx9;have HCG:=Zh hcg;rw[hcg];replace HRS:=Zh (hc9.heap_some (by simp; exact hpz) HRS.out);replace HBXva:=Zh (HBXva.out.on hc9);replace HBXvb:=Zh (HBXvb.out.on hc9);clear hx9 hbt hbm hp9 hc9 hcg hne9;refine hK.out _ _ trivial (fun hH=>?_);clear hK K
     try simp only[Act.put,ZA,ZB,ZC]
     refine ZS 1 rfl (fun K hK=>?_);have hbx:=HBXva.out.box;rw[HCFva.out] at hbx;obtain ⟨b0,b1,b2,b3,b4⟩:=Jg hbx;go_simp;clear b0 b1 b2 b3 b4 hbx;refine hK.out _ _ trivial (fun hH=>?_);clear hK K
     try simp only[Act.put,ZA,ZB,ZC]
     refine ZS 5 rfl (fun K hK=>?_);go_simp;refine hK.out _ _ trivial (fun hH=>?_);clear hK K
     try simp only[Act.put,ZA,ZB,ZC]
     refine ZT (i:=6) (v:=?vT52_6) rfl (Or.inl ⟨by rfl,?yT52_6⟩) ?_
     case yT52_6=>exact ZyQ
     exact sx2
   ·(go_simp; go_at_call 65; refine (I1 k7 _ HP.out hne9).mono ?_; intro e w9 h9)
    cases hx9:pM f .expr (T.drop k7) with
    | out=>exact absurd hx9 hne9
    | bad q=>
     exact sx37
    | ok nd r=>
    rw[hx9] at h9;obtain ⟨b,hnd,rfl,hbt,hbm,⟨k9,hr,hp9⟩,hc9⟩:=h9;subst hnd hr;obtain ⟨yA,yn,yc,hcg⟩:=Je b;have HB9:=Zh (show _∧_∧_∧_ from ⟨hbt,hbm,hp9,hc9⟩);have HX9:=Zh hx9;have HCG:=Zh hcg;rw[hcg];replace HRS:=Zh (hc9.heap_some (by simp; exact hpz) HRS.out);replace HBXva:=Zh (HBXva.out.on hc9);replace HBXvb:=Zh (HBXvb.out.on hc9);clear hx9 hbt hbm hp9 hc9 hcg hne9;refine hK.out _ _ trivial (fun hH=>?_);clear hK K
    try simp only[Act.put,ZA,ZB,ZC]
    refine ZR (rs:=[1,2]) (AllReadyH.cons rfl (fun K hK=>?_) (AllReadyH.cons rfl (fun K hK=>?_) AllReadyH.nil))
    ·have hbx:=HBXva.out.box;rw[HCFva.out] at hbx;obtain ⟨b0,b1,b2,b3,b4⟩:=Jg hbx;go_simp;clear b0 b1 b2 b3 b4 hbx;refine hK.out _ _ trivial (fun hH=>?_);clear hK K
     try simp only[Act.put,ZA,ZB,ZC]
     refine ZS 2 rfl (fun K hK=>?_);have hbx:=HBXvb.out.box;rw[HCFvb.out] at hbx;obtain ⟨b0,b1,b2,b3,b4⟩:=Jg hbx;go_simp;clear b0 b1 b2 b3 b4 hbx;refine hK.out _ _ trivial (fun hH=>?_);clear hK K
     try simp only[Act.put,ZA,ZB,ZC]
     refine ZS 5 rfl (fun K hK=>?_);go_simp;refine hK.out _ _ trivial (fun hH=>?_);clear hK K
     try simp only[Act.put,ZA,ZB,ZC]
     refine ZT (i:=6) (v:=?vT57_6) rfl (Or.inl ⟨by rfl,?yT57_6⟩) ?_
     case yT57_6=>exact ZyQ
     exact sx2
    ·have hbx:=HBXvb.out.box;rw[HCFvb.out] at hbx;obtain ⟨b0,b1,b2,b3,b4⟩:=Jg hbx;go_simp;clear b0 b1 b2 b3 b4 hbx;refine hK.out _ _ trivial (fun hH=>?_);clear hK K
     try simp only[Act.put,ZA,ZB,ZC]
     refine ZS 1 rfl (fun K hK=>?_);have hbx:=HBXva.out.box;rw[HCFva.out] at hbx;obtain ⟨b0,b1,b2,b3,b4⟩:=Jg hbx;go_simp;clear b0 b1 b2 b3 b4 hbx;refine hK.out _ _ trivial (fun hH=>?_);clear hK K
     try simp only[Act.put,ZA,ZB,ZC]
     refine ZS 5 rfl (fun K hK=>?_);go_simp;refine hK.out _ _ trivial (fun hH=>?_);clear hK K
     try simp only[Act.put,ZA,ZB,ZC]
     refine ZT (i:=6) (v:=?vT61_6) rfl (Or.inl ⟨by rfl,?yT61_6⟩) ?_
     case yT61_6=>exact ZyQ
     exact sx2
  ·have hx1:=HX0.out;rw[Jjl f hn1 (J4 g1)] at hx1;have HX3:=Zh hx1;replace HP:=Zh (HP.out.chg hb2);replace HC:=Zh (HC.out.trans (Chg.of_below hb2 [p]));replace HRS:=Zh ((hb2.block _ (Jb HRS.out)).trans HRS.out);have hne2:pM f (.level 1) (T.drop k)≠.out:=by rw[hx1]; exact HNE.out
   clear g1 hb2 hx1 HX0 HOF hn1 hx I1;go_wp2_with fail;refine (I2 k _ HP.out hne2).mono ?_;intro e w4 h4
   cases hx4:pM f (.level 1) (T.drop k) with
   | out=>exact absurd hx4 hne2
   | bad q=>
    rw[hx4] at h4;obtain ⟨rfl,hc4⟩:=h4;refine ⟨rfl,?_⟩;rw[HR.out,← HX3.out,hx4];exact ⟨rfl,HC.out.trans hc4⟩
   | ok nd r=>
    rw[hx4] at h4;obtain ⟨a,hnd,rfl,hat,hmd,⟨k4,hr,hp4⟩,hc4⟩:=h4;subst hnd hr;obtain ⟨xA,xn,xc,hcf⟩:=Je a;have hzz:=hc4.heap_some (by simp; exact hpz) HRS.out;have HFIN:=Zh (fun v0 v1 v2 v3 v4=>Vm (w:=w) (W2:=w3) (W3:=w4) hat hmd (Jb HRS.out) hp4 HC.out hc4 HPL.out HTL.out v0 v1 v2 v3 v4);have HX4:Hid (X=.ok a.nd (T.drop k4)):=by rw[Hid,← HX3.out,hx4]
    have HCF:=Zh hcf;rw[hcf];obtain ⟨z0,z1,z2,z3,z4⟩:=Jg hzz;have hf:=fun j=>Jc hzz j
    have y0:=hf 0;have y1:=hf 1;have y2:=hf 2;have y3:=hf 3;have y4:=hf 4;have HZZ:=Zh hzz;clear hf hzz hx4 hat hmd hp4 hc4 hcf hne2 I2 HX3;go_wp2;refine bodyPost_ret (v:=.agg (cellsN a)) (by rw[HCF.out]; exact results_cell_row rfl _ _ w.heap.size 119 _ (0,0) _ rfl (blk5Z _ _ _ _ _ HZZ.out) underlying119 rfl infoNode) rfl ?_;rw[HR.out,HX4.out];obtain ⟨e1,e2,e3,e4⟩:=HFIN.out _ _ _ _ _;exact ⟨_,rfl,rfl,e1,e2,⟨k4,rfl,e3⟩,e4⟩
end Go.Proofs.YtncanmdgdflnpaaGreatDoor
