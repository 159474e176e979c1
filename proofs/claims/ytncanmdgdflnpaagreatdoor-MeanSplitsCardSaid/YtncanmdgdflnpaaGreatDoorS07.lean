import Derived.Deep.LoopGhost
import Derived.Deep.DeepCutAuto
import Derived.Test.YtncanmdgdflnpaaGreatDoorS06
namespace Go.Proofs.YtncanmdgdflnpaaGreatDoor
open Go.ChangeShapes Go.WideShapes Go.ChangeAt Go.RowKit Go.Lib
open _root_.Go.Proofs.Tryz
set_option linter.all false
set_option maxRecDepth 100000
set_option maxHeartbeats 32000000
theorem Jg {W:World} {b t:Nat} {a0 a1 a2 a3 a4:Value} {fr:Nat × Nat} (h:W.heap[b]?=some (.cells #[a0,a1,a2,a3,a4] t fr)) :
  W.cell? ⟨b,0,none⟩=some a0∧W.cell? ⟨b,1,none⟩=some a1∧W.cell? ⟨b,2,none⟩=some a2∧W.cell? ⟨b,3,none⟩=some a3∧W.cell? ⟨b,4,none⟩=some a4:=by
 refine ⟨?_,?_,?_,?_,?_⟩ <;> (rw[Ja h]; rfl)
theorem V7 (f lv:Nat) (h3:lv≠3) (h7:lv≠7) (r:List Tok):pM (f+1) (.level lv) r=(pM f (.level (lv+1)) r).bind fun a r1=>pM f (.loop lv (hd r).off a) r1:=by rw[pM,if_neg h3,if_neg h7]
theorem Kx (f lv:Nat) (o:Int) (a:Nd) {r:List Tok} (h:opK lv (hd r)=none):pM (f+1) (.loop lv o a) r=.ok a r:=by rw[pM,h]
theorem Ky (f lv:Nat) (o:Int) (a:Nd) {r:List Tok} {k:Int} (h:opK lv (hd r)=some k):pM (f+1) (.loop lv o a) r=(pM f (.level (lv+1)) r.tail).bind fun b r1=>pM f (.loop lv o (.mk k 0 [] o [a,b])) r1:=by rw[pM,h]
structure LvI (f lv:Nat) (of:Int) (X:PR Nd) (p:Nat) (A:Option Addr) (C:Nat) (T:List Tok) (w:World) (lo bx:Nat) (wr:World) (k2 f1:Nat) (a:An):Prop where
 eq:pM f1 (.loop lv of a.nd) (T.drop k2)=X
 le:f1≤f
 pat:PAt wr p A C T k2
 at':a.At wr
 made:Made lo wr.heap.size a
 box:wr.heap[bx]?=some (.cells (cellsN a) 119 (0,0))
 res:wr.heap[w.heap.size]?=some (.cells #[.int .i64 0,.int .i64 0,.string ⟨#[]⟩,.int .i64 0,.slice none 0 0] 119 (0,0))
 chg:Chg [p] w wr
 low:w.heap.size<lo∧bx≠w.heap.size∧bx≠p∧w.heap.size≤bx
 lle:lo≤wr.heap.size
 nbx:bx∉foot a
theorem LvI.below {f lv:Nat} {of:Int} {X:PR Nd} {p:Nat} {A:Option Addr} {C:Nat} {T:List Tok} {w:World} {lo bx:Nat} {wr wr':World} {k2 f1:Nat} {a:An} (h:LvI f lv of X p A C T w lo bx wr k2 f1 a) (hb:Below wr.heap.size wr wr'):LvI f lv of X p A C T w lo bx wr' k2 f1 a:=
 ⟨h.eq,h.le,h.pat.chg hb,Kg h.at' h.made hb (Nat.le_refl _),h.made.mono (Nat.le_refl _) hb.size,(hb.block _ (Jb h.box)).trans h.box,(hb.block _ (Jb h.res)).trans h.res,h.chg.trans (Chg.of_below hb [p]),h.low,Nat.le_trans h.lle hb.size,h.nbx⟩
theorem LvI.fin {f lv:Nat} {of:Int} {X:PR Nd} {p:Nat} {A:Option Addr} {C:Nat} {T:List Tok} {w:World} {lo bx:Nat} {wr:World} {k2 f1:Nat} {a:An} (h:LvI f lv of X p A C T w lo bx wr k2 f1 a) (hp:p<w.heap.size) (hT:∀ b o,A=some ⟨b,o,none⟩→b<w.heap.size) (v0 v1 v2 v3 v4:Value) :
  a.At (put5 wr w.heap.size v0 v1 v2 v3 v4)∧Made w.heap.size (put5 wr w.heap.size v0 v1 v2 v3 v4).heap.size a∧PAt (put5 wr w.heap.size v0 v1 v2 v3 v4) p A C T k2∧Chg [p] w (put5 wr w.heap.size v0 v1 v2 v3 v4):=by
 have hc:=J6 (S:=[w.heap.size]) (W:=wr) v0 v1 v2 v3 v4 (by simp:w.heap.size∈[w.heap.size]);refine ⟨Y2 h.at' h.made hc (Nat.le_refl _) (fun b hb=>by have:=h.low.1; simp at hb; omega),?_,h.pat.put5 (Ne.symm (Nat.ne_of_lt hp)) (fun b o e=>by have:=hT b o e; omega) _ _ _ _ _,h.chg.step hc fun b hb=>.inr (by simp at hb; omega)⟩;rw[J9];exact h.made.mono (Nat.le_of_lt h.low.1) (Nat.le_refl _)
theorem V8 {lv:Nat} {t:Tok} {k:Int} (h:opK lv t=some k):t.kind≠4:=by
 intro e;unfold opK at h;rw[if_neg (by rw[e]; simp),if_neg (by rw[e]; simp),if_pos (by rw[e]; decide)] at h
 cases h
theorem LvI.step {f lv:Nat} {of:Int} {X:PR Nd} {p:Nat} {A:Option Addr} {C:Nat} {T:List Tok} {w:World} {lo bx:Nat} {wr w5 w6:World} {k2 k4 f2:Nat} {kk:Int} {a b:An} {cs:Array Value} (h:LvI f lv of X p A C T w lo bx wr k2 (f2+1) a)
  (hc5:Chg [p] wr w5) (hbt:b.At w6) (hbm:Made w5.heap.size w6.heap.size b) (hp4:PAt w6 p A C T k4) (hc6:Chg [p] w5 w6) (hT:∀ b o,A=some ⟨b,o,none⟩→b<w.heap.size) (hp:p<w.heap.size)
  (he:pM f2 (.loop lv of (.mk kk 0 [] of [a.nd,b.nd])) (T.drop k4)=X) (hcs:cs.toList=rowN [a,b]) :
  LvI f lv of X p A C T w lo bx ((put5 w6 bx (.int .i64 kk) (.int .i64 0) (.string (bs [])) (.int .i64 of) (.slice (some ⟨w6.heap.size,0,none⟩) 2 2)).alloc (.cells cs 119)) k4 f2 (.mk kk 0 [] of w6.heap.size 2 [a,b]):=by
 obtain ⟨l1,l2,l3,l4⟩:=h.low;have hsz:=J9 w6 bx (.int .i64 kk) (.int .i64 0) (.string (bs [])) (.int .i64 of) (.slice (some ⟨w6.heap.size,0,none⟩) 2 2);have hch:=J6 (S:=[bx]) (W:=w6) (.int .i64 kk) (.int .i64 0) (.string (bs [])) (.int .i64 of) (.slice (some ⟨w6.heap.size,0,none⟩) 2 2) (by simp:bx∈[bx]);have h6:=hc5.trans hc6;have hbox6:=h6.heap_some (by simpa using l3) h.box;have hres6:=h6.heap_some (by simp; omega) h.res;have hnew:=heap_alloc_new (put5 w6 bx (.int .i64 kk) (.int .i64 0) (.string (bs [])) (.int .i64 of) (.slice (some ⟨w6.heap.size,0,none⟩) 2 2)) (.cells cs 119);rw[hsz] at hnew
 have hold:∀ q,q<w6.heap.size→q≠bx→((put5 w6 bx (.int .i64 kk) (.int .i64 0) (.string (bs [])) (.int .i64 of) (.slice (some ⟨w6.heap.size,0,none⟩) 2 2)).alloc (.cells cs 119)).heap[q]?=w6.heap[q]?:=fun q hq hn=>
  (Below.heap_alloc _ _ _ (by rw[hsz]; exact hq)).trans (hch.block q hq (by simpa using hn))
 have hplo:p<lo:=by omega
 have hmA:Made lo w5.heap.size a:=h.made.mono (Nat.le_refl _) hc5.size;have hl5:lo≤w5.heap.size:=Nat.le_trans h.lle hc5.size;have hmL:MadeL lo w6.heap.size [a,b]:=⟨w5.heap.size,hl5,hmA,w6.heap.size,hc6.size,hbm,Nat.le_refl _⟩
 have hb5:bx<w5.heap.size:=Nat.lt_of_lt_of_le (Jb h.box) hc5.size;have hw6:w.heap.size<w6.heap.size:=Jb hres6;refine ⟨he,by have:=h.le; omega,?_,?_,?_,?_,?_,?_,h.low,?_,?_⟩
 ·exact (hp4.put5 l3 (fun q o e=>by have:=hT q o e; omega) _ _ _ _ _).chg ((Below.refl _ _).alloc (Nat.le_refl _) _)
 ·unfold An.At;refine ⟨fun _ j=>Jc hnew j,Ko [a,b] 0 (fun j u hu=>?_) fun x hx=>?_⟩
  ·rw[Nat.zero_mul,Nat.zero_add];exact Kr hnew (by rw[hcs]; exact hu)
  ·rcases List.mem_cons.1 hx with rfl | hx
   ·refine JC _ h.at' fun q hq=>?_
    have hq2:=h.made.2 q hq;exact (hold q (Nat.lt_of_lt_of_le hq2.2 h6.size) (fun e=>h.nbx (e ▸ hq))).trans (h6.block q hq2.2 (by simp; omega))
   ·obtain rfl:x=b:=by simpa using hx
    refine JC _ hbt fun q hq=>?_
    have hq2:=hbm.2 q hq;exact hold q hq2.2 (by omega)
 ·rw[World.size_alloc,hsz];exact Jae hmL (Nat.le_refl _) kk 0 [] of 2
 ·obtain ⟨xA,xn,xc,hcf⟩:=Je a;rw[hcf] at hbox6;exact KY _ _ _ _ _ _ hbox6
 ·exact (hold _ hw6 (Ne.symm l2)).trans hres6
 ·exact ((h.chg.trans h6).step hch fun q hq=>.inr (by simp at hq; omega)).alloc _
 ·rw[World.size_alloc,hsz];have:=hc6.size;omega
 ·unfold foot;simp only[List.mem_cons,List.mem_append,footL,List.append_nil];rintro (h1 | h1 | h1)
  ·have:=hc6.size; omega
  ·exact h.nbx h1
  ·have:=(hbm.2 _ h1).1; omega
theorem sx4 {P:Prop}(h:P:=by
  try simp only[Act.put,ZA,ZB,ZC]
  refine ZS 9 rfl (fun K hK=>?_);have hbx:=HBX.out;obtain ⟨b0,b1,b2,b3,b4⟩:=Jg hbx;have hf:=fun j=>Jc hbx j
  have f0:=hf 0;have f1:=hf 1;have f2':=hf 2;have f3:=hf 3;have f4:=hf 4;have hlt4:=Jb hbx;clear hf;go_simp;clear b0 b1 b2 b3 b4 hbx f0 f1 f2' f3 f4;refine hK.out _ _ trivial (fun hH=>?_);clear hK K
  try simp only[Act.put,ZA,ZB,ZC]
  refine wpAnyH_done (by kernel_rfl) ?_ _;have HST:=Zh (LvI.step (cs:=#[.int .i64 a.kind,.int .i64 a.num,.string (bs a.name),.int .i64 a.off,.slice xA1 xn1 xc1,.int .i64 b.kind,.int .i64 b.num,.string (bs b.name),.int .i64 b.off,.slice yA yn yc]) HI4.out HC3.out HB4.out.1 HB4.out.2.1 HB4.out.2.2.1 HB4.out.2.2.2 HTL.out HPL.out (by rw[← HEQ.out,HX4.out]; rfl) (by simp[rowN,HCF.out,HCG.out]));clear HBX HB4 HX4 HCG HCF HEQ hlt4;go_wp2;go_roundg f2
  case measure=>exact Nat.lt_succ_self _
  case rel=>exact ⟨_,_,HST.out⟩):P:=h
theorem sx15 {P:Prop}(h:P:=by
  rw[hx] at h6;obtain ⟨b,hnd,rfl,hbt,hbm,⟨k4,hr,hp4⟩,hc6⟩:=h6;subst hnd hr;obtain ⟨yA,yn,yc,hcg⟩:=Je b;have HB4:=Zh (show _∧_∧_∧_ from ⟨hbt,hbm,hp4,hc6⟩);have HX4:=Zh hx;have HCG:=Zh hcg;rw[hcg];replace HBX:=Zh (hc6.heap_some (by simp; exact HPX.out.1) HBX.out);clear hx hbt hbm hp4 hc6 hcg hne3;refine hK.out _ _ trivial (fun hH=>?_);clear hK K
  try simp only[Act.put,ZA,ZB,ZC]
  refine ZS 2 rfl (fun K hK=>?_);have hbx:=HBX.out;obtain ⟨b0,b1,b2,b3,b4⟩:=Jg hbx;go_simp;clear b0 b1 b2 b3 b4 hbx;refine hK.out _ _ trivial (fun hH=>?_);clear hK K
  try simp only[Act.put,ZA,ZB,ZC]
  refine ZS 7 rfl (fun K hK=>?_);go_simp;refine hK.out _ _ trivial (fun hH=>?_);clear hK K
  try simp only[Act.put,ZA,ZB,ZC]
  refine ZT (i:=8) (v:=?vT8_8) rfl (Or.inl ⟨by rfl,?yT8_8⟩) ?_
  case yT8_8=>exact ZyQ
  exact sx4):P:=h
theorem sx16 {P:Prop}(h:P:=by
  obtain ⟨xA,xn,xc,hcf⟩:=Je a;have HFIN:=Zh (fun v0 v1 v2 v3 v4=>hI4.fin HPL.out HTL.out v0 v1 v2 v3 v4);have hbx:=hI4.box;have hrs:=hI4.res;rw[hcf] at hbx;obtain ⟨b0,b1,b2,b3,b4⟩:=Jg hbx;obtain ⟨z0,z1,z2,z3,z4⟩:=Jg hrs;have hf:=fun j=>Jc hrs j
  have y0:=hf 0;have y1:=hf 1;have y2:=hf 2;have y3:=hf 3;have y4:=hf 4;have HRS:=Zh hrs;have HCF:=Zh hcf;have HX2:=Zh hX2;clear hf hbx hrs hI4 hcf hX2 HI HOP HMR I1;simp only[Option.getD,Option.isSome];go_wp2;refine bodyPost_ret (v:=.agg (cellsN a)) (by rw[HCF.out]; exact results_cell_row rfl _ _ w.heap.size 119 _ (0,0) _ rfl (blk5Z _ _ _ _ _ HRS.out) underlying119 rfl infoNode) rfl ?_;rw[HR.out,← HX2.out];obtain ⟨e1,e2,e3,e4⟩:=HFIN.out _ _ _ _ _
  exact ⟨_,rfl,rfl,e1,e2,⟨k2,rfl,e3⟩,e4⟩):P:=h
theorem sx19 {P:Prop}(h:P:=by
  rw[hx] at h6;obtain ⟨b,hnd,rfl,hbt,hbm,⟨k4,hr,hp4⟩,hc6⟩:=h6;subst hnd hr;obtain ⟨yA,yn,yc,hcg⟩:=Je b;have HB4:=Zh (show _∧_∧_∧_ from ⟨hbt,hbm,hp4,hc6⟩);have HX4:=Zh hx;have HCG:=Zh hcg;rw[hcg];replace HBX:=Zh (hc6.heap_some (by simp; exact HPX.out.1) HBX.out);clear hx hbt hbm hp4 hc6 hcg hne3;refine hK.out _ _ trivial (fun hH=>?_);clear hK K
  try simp only[Act.put,ZA,ZB,ZC]
  refine ZS 7 rfl (fun K hK=>?_);go_simp;refine hK.out _ _ trivial (fun hH=>?_);clear hK K
  try simp only[Act.put,ZA,ZB,ZC]
  refine ZT (i:=8) (v:=?vT4_8) rfl (Or.inl ⟨by rfl,?yT4_8⟩) ?_
  case yT4_8=>exact ZyQ
  exact sx4):P:=h
theorem sx40 {P:Prop}(h:P:=by
  rw[hx] at h6;obtain ⟨rfl,hc6⟩:=h6;refine ⟨rfl,?_⟩;rw[HR.out,← HEQ.out,hx]
  exact ⟨rfl,(HI4.out.chg.trans HC3.out).trans hc6⟩):P:=h
theorem sx52 {P:Prop}(h:P:=by
  have h5:=(Chg.of_below (Below.refl w4.heap.size w4) [p]).setCell (.inl (by simp:p∈[p])) (p:=⟨p,1,none⟩) (.int .i64 ((k2:Int)+1));rw[hw5] at h5
  exact h5.trans (Chg.of_below hD5 [p])):P:=h
theorem sx64 {P:Prop}(h:P:=by
  rw[hx] at h2;obtain ⟨rfl,hc2⟩:=h2;refine ⟨rfl,?_⟩;rw[HR.out,HLV.out,hx]
  exact ⟨rfl,(Chg.of_below HB1.out [p]).trans hc2⟩):P:=h
theorem sx65 {P:Prop}(h:P:=by
  have h5:=HI4.out.pat.next hk1;rw[show (w4.setCell ⟨p,1,none⟩ (.int .i64 ((k2+1:Nat):Int)))=w5 from hw5] at h5
  exact h5.chg hD5):P:=h
theorem Jhv (f p:Nat) (A:Option Addr) (C:Nat) (T:List Tok)
  (I1:∀ g,g≤f→∀ k w,PAt w p A C T k→pM g (.level (1+1)) (T.drop k)≠.out→Calls prog 105 #[.pointer (some ⟨p,0,none⟩),.int .i64 (2)] w (NdP p A C T w (pM g (.level (1+1)) (T.drop k))))
  (k:Nat) (w:World) (h:PAt w p A C T k) (hne:pM (f+1) (.level 1) (T.drop k)≠.out) :
  Calls prog 105 #[.pointer (some ⟨p,0,none⟩),.int .i64 1] w (NdP p A C T w (pM (f+1) (.level 1) (T.drop k))):=by
 obtain ⟨X,hX⟩:∃ X,pM (f+1) (.level 1) (T.drop k)=X:=⟨_,rfl⟩
 have hlev:=V7 f 1 (by decide) (by decide) (T.drop k);rw[hX] at hne hlev ⊢;obtain ⟨R,hR⟩:∃ R,NdP p A C T w X=R:=⟨_,rfl⟩
 rw[hR];have HR:Hid (R=NdP p A C T w X):=hR.symm;have HNE:=Zh hne;have hZ:=heap_alloc_new w (.cells #[.int .i64 0,.int .i64 0,.string ⟨#[]⟩,.int .i64 0,.slice none 0 0] 119);have hB:=(Below.refl w.heap.size w).alloc (Nat.le_refl _) (.cells #[.int .i64 0,.int .i64 0,.string ⟨#[]⟩,.int .i64 0,.slice none 0 0] 119);have cp:=JK p A C T k _ (h.chg hB);obtain ⟨of,hof⟩:∃ of,(hd (T.drop k)).off=of:=⟨_,rfl⟩
 unfold TokP at cp;have hfl:∀ (t:Tok) (W:World),(Instr.field 105 (.agg (tokZ t)) 3).run prog W=.ok (.int .i64 t.off) W:=fun t W=>by obtain ⟨a,b,c,d⟩:=t; kernel_rfl
 have hfl':=hfl (hd (T.drop k));rw[hof] at hfl' hlev;generalize tokZ (hd (T.drop k))=tv at *;have HP:=Zh (h.chg hB);have HZ:=Zh hZ;have HB:=Zh hB;have HPL:=Zh h.chg1;have HTL:=Zh h.tokLt;have HLV:=Zh hlev;have hne2:pM f (.level (1+1)) (T.drop k)≠.out:=Jl (by rw[← HLV.out]; exact hne);clear h hne hR hZ hB hfl hof hlev hX;go_enter func105,ntmps105;go_wp2_with fail;refine cp.mono ?_;rintro e w1 ⟨rfl,hb1⟩;have HP1:=Zh (HP.out.chg hb1);have HZ1:Hid (w1.heap[w.heap.size]?=some (.cells #[.int .i64 0,.int .i64 0,.string ⟨#[]⟩,.int .i64 0,.slice none 0 0] 119)):=(hb1.block _ (Jb HZ.out)).trans HZ.out;have HB1:=Zh (HB.out.trans (hb1.mono HB.out.size));have HS1:Hid (w.heap.size<w1.heap.size):=Jb HZ1.out;have hpz:w.heap.size≠p:=by have:=HPL.out; omega
 clear cp hb1 HP HZ HB;go_wp2_with fail;refine (I1 f (Nat.le_refl _) k w1 HP1.out hne2).mono ?_;intro e w2 h2
 cases hx:pM f (.level (1+1)) (T.drop k) with
 | out=>exact absurd hx hne2
 | bad q=>
  exact sx64
 | ok nd r=>
 rw[hx] at h2;obtain ⟨a,hnd,rfl,hat,hmd,⟨k2,hr,hp2⟩,hc2⟩:=h2;subst hnd hr;have hzz:=hc2.heap_some (by simp; exact hpz) HZ1.out;have hA2:Below w2.heap.size w2 (w2.alloc (.cells (cellsN a) 119)):=(Below.refl _ _).alloc (Nat.le_refl _) _;have HLI:Hid (∃ k2 a',LvI f 1 of X p A C T w w1.heap.size w2.heap.size (w2.alloc (.cells (cellsN a) 119)) k2 f a'):=⟨k2,a,by rw[HLV.out,hx]; rfl,Nat.le_refl _,hp2.chg hA2,Kg hat hmd hA2 (Nat.le_refl _),hmd.mono (Nat.le_refl _) (by simp),heap_alloc_new _ _,(hA2.block _ (Jb hzz)).trans hzz,((Chg.of_below HB1.out [p]).trans hc2).alloc _,⟨HS1.out,by have:=Jb hzz; omega,by have:=hp2.chg1; have:=HPL.out; have:=hc2.size; have:=HS1.out; omega,by have:=Jb hzz; omega⟩,by have:=hc2.size; simp; omega,fun hm=>by have:=(hmd.2 _ hm).2; omega⟩
 obtain ⟨xA,xn,xc,hcf⟩:=Je a;rw[hcf] at HLI ⊢;clear hx hat hmd hp2 hc2 hcf hzz hA2 HLV HZ1 HP1 HB1 hne2;go_wp2;generalize hwb:World.alloc w2 _=wb at *;clear hwb;generalize w2.heap.size=bx at *;generalize w1.heap.size=lo at *;go_loopg [] f (fun g wr=>Hid (∃ k2 a,LvI f 1 of X p A C T w lo bx wr k2 g a))
 case atStart=>exact HLI
 case round=>
 clear HLI;obtain ⟨wl,rfl⟩:∃ wl:World,wl=wr:=⟨_,rfl⟩
 obtain ⟨k2,a,hI⟩:=hrel.out
 cases gk with
 | zero=>exact absurd hI.eq.symm HNE.out
 | succ f2=>
 have cp:=JK p A C T k2 wl hI.pat;have co:=fun W=>JiE (hd (T.drop k2)) W
 obtain ⟨op,hop⟩:∃ op,opK 1 (hd (T.drop k2))=op:=⟨_,rfl⟩
 have hkd:∀ kk,op=some kk→(hd (T.drop k2)).kind≠4:=fun kk e=>V8 (hop.trans e)
 have hmore:∀ kk,op=some kk→k2+1<T.length:=fun kk e=>hI.pat.more (hkd kk e)
 unfold TokP at cp;unfold OpP at co;rw[hop] at co;have HI:=Zh hI;have HOP:=Zh hop;have HMR:=Zh hmore;generalize tokZ (hd (T.drop k2))=tv2 at *;clear hI hop hkd hmore hrel;go_wp2_with fail;refine cp.mono ?_;rintro e w3 ⟨rfl,hb3⟩;go_wp2_with fail;refine (co _).mono ?_;rintro e w4 ⟨rfl,hb4⟩;have hI4:=(HI.out.below hb3).below hb4;clear cp co hb3 hb4
 cases op with
 | none=>
  have hX2:=(Kx f2 1 of a.nd HOP.out).symm.trans HI.out.eq;exact sx16
 | some kk=>
  have hX2:=(Ky f2 1 of a.nd HOP.out).symm.trans HI.out.eq;rw[tail_drop] at hX2;have hne3:pM f2 (.level (1+1)) (T.drop (k2+1))≠.out:=Jl (by rw[hX2]; exact HNE.out);have hk1:=HMR.out kk rfl;have wk:IntKind.i64.wrap ((k2:Int)+1)=(k2:Int)+1:=IntWalk.i64_in _ (by have:=hI4.pat.room; omega);have pc:=Ja hI4.pat.self 1;have pf:=Jc hI4.pat.self 1;simp only[ZD,ZE,ZF] at pc;have HI4:=Zh hI4;have HEQ:=Zh hX2;have hle2:f2≤f:=by have:=HI4.out.le; omega
  clear HI HOP HMR hX2 hI4;simp only[Option.getD,Option.isSome];go_upto_region 16 with fail;obtain ⟨w5,hw5⟩:∃ w5,w4.setCell ⟨p,1,none⟩ (.int .i64 ((k2:Int)+1))=w5:=⟨_,rfl⟩
  rw[hw5];have hD5:Below w5.heap.size w5 w5.drew:=(Below.refl w5.heap.size w5).drew
  have HC3:Hid (Chg [p] w4 w5.drew):=by
   exact sx52
  have HP3:Hid (PAt w5.drew p A C T (k2+1)):=by
   exact sx65
  have HPX:Hid (bx≠p∧True):=⟨HI4.out.low.2.2.1,trivial⟩
  obtain ⟨xA1,xn1,xc1,hcf⟩:=Je a;have hbx5:=HC3.out.heap_some (by simp; exact HPX.out.1) HI4.out.box;rw[hcf] at hbx5;have HBX:=Zh hbx5;have HCF:=Zh hcf;clear hbx5 hcf hD5 pc pf hw5;refine wp_region_held_drew (S:=fun _=>True) (by kernel_rfl) (trivial) (fun hH=>?_);refine ZT (i:=0) (v:=?vT1_0) rfl (Or.inl ⟨by rfl,?yT1_0⟩) ?_
  case yT1_0=>exact ZyQ
  try simp only[Act.put,ZA,ZB,ZC]
  refine ZT (i:=1) (v:=?vT1_1) rfl (Or.inl ⟨by rfl,?yT1_1⟩) ?_
  case yT1_1=>exact ZyQ
  try simp only[Act.put,ZA,ZB,ZC]
  refine ZT (i:=3) (v:=?vT1_3) rfl (Or.inl ⟨by rfl,?yT1_3⟩) ?_
  case yT1_3=>exact ZyQ
  try simp only[Act.put,ZA,ZB,ZC]
  refine ZT (i:=4) (v:=?vT1_4) rfl (Or.inl ⟨by rfl,?yT1_4⟩) ?_
  case yT1_4=>exact ZyQ
  try simp only[Act.put,ZA,ZB,ZC]
  refine ZT (i:=5) (v:=?vT1_5) rfl (Or.inl ⟨by rfl,?yT1_5⟩) ?_
  case yT1_5=>exact ZyQ
  try simp only[Act.put,ZA,ZB,ZC]
  refine ZR (rs:=[2,6]) (AllReadyH.cons rfl (fun K hK=>?_) (AllReadyH.cons rfl (fun K hK=>?_) AllReadyH.nil))
  ·have hbx:=HBX.out;obtain ⟨b0,b1,b2,b3,b4⟩:=Jg hbx;go_simp;clear b0 b1 b2 b3 b4 hbx;refine hK.out _ _ trivial (fun hH=>?_);clear hK K
   try simp only[Act.put,ZA,ZB,ZC]
   refine ZS 6 rfl (fun K hK=>?_)
   (go_simp; go_at_call 105; refine (I1 f2 (by omega) (k2+1) _ HP3.out hne3).mono ?_; intro e w6 h6)
   cases hx:pM f2 (.level (1+1)) (T.drop (k2+1)) with
   | out=>exact absurd hx hne3
   | bad q=>
    exact sx40
   | ok nd r=>
   exact sx19
  ·(go_simp; go_at_call 105; refine (I1 f2 (by omega) (k2+1) _ HP3.out hne3).mono ?_; intro e w6 h6)
   cases hx:pM f2 (.level (1+1)) (T.drop (k2+1)) with
   | out=>exact absurd hx hne3
   | bad q=>
    exact sx40
   | ok nd r=>
   exact sx15
theorem Jhw (f p:Nat) (A:Option Addr) (C:Nat) (T:List Tok)
  (I1:∀ g,g≤f→∀ k w,PAt w p A C T k→pM g (.level (2+1)) (T.drop k)≠.out→Calls prog 105 #[.pointer (some ⟨p,0,none⟩),.int .i64 (3)] w (NdP p A C T w (pM g (.level (2+1)) (T.drop k))))
  (k:Nat) (w:World) (h:PAt w p A C T k) (hne:pM (f+1) (.level 2) (T.drop k)≠.out) :
  Calls prog 105 #[.pointer (some ⟨p,0,none⟩),.int .i64 2] w (NdP p A C T w (pM (f+1) (.level 2) (T.drop k))):=by
 obtain ⟨X,hX⟩:∃ X,pM (f+1) (.level 2) (T.drop k)=X:=⟨_,rfl⟩
 have hlev:=V7 f 2 (by decide) (by decide) (T.drop k);rw[hX] at hne hlev ⊢;obtain ⟨R,hR⟩:∃ R,NdP p A C T w X=R:=⟨_,rfl⟩
 rw[hR];have HR:Hid (R=NdP p A C T w X):=hR.symm;have HNE:=Zh hne;have hZ:=heap_alloc_new w (.cells #[.int .i64 0,.int .i64 0,.string ⟨#[]⟩,.int .i64 0,.slice none 0 0] 119);have hB:=(Below.refl w.heap.size w).alloc (Nat.le_refl _) (.cells #[.int .i64 0,.int .i64 0,.string ⟨#[]⟩,.int .i64 0,.slice none 0 0] 119);have cp:=JK p A C T k _ (h.chg hB);obtain ⟨of,hof⟩:∃ of,(hd (T.drop k)).off=of:=⟨_,rfl⟩
 unfold TokP at cp;have hfl:∀ (t:Tok) (W:World),(Instr.field 105 (.agg (tokZ t)) 3).run prog W=.ok (.int .i64 t.off) W:=fun t W=>by obtain ⟨a,b,c,d⟩:=t; kernel_rfl
 have hfl':=hfl (hd (T.drop k));rw[hof] at hfl' hlev;generalize tokZ (hd (T.drop k))=tv at *;have HP:=Zh (h.chg hB);have HZ:=Zh hZ;have HB:=Zh hB;have HPL:=Zh h.chg1;have HTL:=Zh h.tokLt;have HLV:=Zh hlev;have hne2:pM f (.level (2+1)) (T.drop k)≠.out:=Jl (by rw[← HLV.out]; exact hne);clear h hne hR hZ hB hfl hof hlev hX;go_enter func105,ntmps105;go_wp2_with fail;refine cp.mono ?_;rintro e w1 ⟨rfl,hb1⟩;have HP1:=Zh (HP.out.chg hb1);have HZ1:Hid (w1.heap[w.heap.size]?=some (.cells #[.int .i64 0,.int .i64 0,.string ⟨#[]⟩,.int .i64 0,.slice none 0 0] 119)):=(hb1.block _ (Jb HZ.out)).trans HZ.out;have HB1:=Zh (HB.out.trans (hb1.mono HB.out.size));have HS1:Hid (w.heap.size<w1.heap.size):=Jb HZ1.out;have hpz:w.heap.size≠p:=by have:=HPL.out; omega
 clear cp hb1 HP HZ HB;go_wp2_with fail;refine (I1 f (Nat.le_refl _) k w1 HP1.out hne2).mono ?_;intro e w2 h2
 cases hx:pM f (.level (2+1)) (T.drop k) with
 | out=>exact absurd hx hne2
 | bad q=>
  exact sx64
 | ok nd r=>
 rw[hx] at h2;obtain ⟨a,hnd,rfl,hat,hmd,⟨k2,hr,hp2⟩,hc2⟩:=h2;subst hnd hr;have hzz:=hc2.heap_some (by simp; exact hpz) HZ1.out;have hA2:Below w2.heap.size w2 (w2.alloc (.cells (cellsN a) 119)):=(Below.refl _ _).alloc (Nat.le_refl _) _;have HLI:Hid (∃ k2 a',LvI f 2 of X p A C T w w1.heap.size w2.heap.size (w2.alloc (.cells (cellsN a) 119)) k2 f a'):=⟨k2,a,by rw[HLV.out,hx]; rfl,Nat.le_refl _,hp2.chg hA2,Kg hat hmd hA2 (Nat.le_refl _),hmd.mono (Nat.le_refl _) (by simp),heap_alloc_new _ _,(hA2.block _ (Jb hzz)).trans hzz,((Chg.of_below HB1.out [p]).trans hc2).alloc _,⟨HS1.out,by have:=Jb hzz; omega,by have:=hp2.chg1; have:=HPL.out; have:=hc2.size; have:=HS1.out; omega,by have:=Jb hzz; omega⟩,by have:=hc2.size; simp; omega,fun hm=>by have:=(hmd.2 _ hm).2; omega⟩
 obtain ⟨xA,xn,xc,hcf⟩:=Je a;rw[hcf] at HLI ⊢;clear hx hat hmd hp2 hc2 hcf hzz hA2 HLV HZ1 HP1 HB1 hne2;go_wp2;generalize hwb:World.alloc w2 _=wb at *;clear hwb;generalize w2.heap.size=bx at *;generalize w1.heap.size=lo at *;go_loopg [] f (fun g wr=>Hid (∃ k2 a,LvI f 2 of X p A C T w lo bx wr k2 g a))
 case atStart=>exact HLI
 case round=>
 clear HLI;obtain ⟨wl,rfl⟩:∃ wl:World,wl=wr:=⟨_,rfl⟩
 obtain ⟨k2,a,hI⟩:=hrel.out
 cases gk with
 | zero=>exact absurd hI.eq.symm HNE.out
 | succ f2=>
 have cp:=JK p A C T k2 wl hI.pat;have co:=fun W=>JiF (hd (T.drop k2)) W
 obtain ⟨op,hop⟩:∃ op,opK 2 (hd (T.drop k2))=op:=⟨_,rfl⟩
 have hkd:∀ kk,op=some kk→(hd (T.drop k2)).kind≠4:=fun kk e=>V8 (hop.trans e)
 have hmore:∀ kk,op=some kk→k2+1<T.length:=fun kk e=>hI.pat.more (hkd kk e)
 unfold TokP at cp;unfold OpP at co;rw[hop] at co;have HI:=Zh hI;have HOP:=Zh hop;have HMR:=Zh hmore;generalize tokZ (hd (T.drop k2))=tv2 at *;clear hI hop hkd hmore hrel;go_wp2_with fail;refine cp.mono ?_;rintro e w3 ⟨rfl,hb3⟩;go_wp2_with fail;refine (co _).mono ?_;rintro e w4 ⟨rfl,hb4⟩;have hI4:=(HI.out.below hb3).below hb4;clear cp co hb3 hb4
 cases op with
 | none=>
  have hX2:=(Kx f2 2 of a.nd HOP.out).symm.trans HI.out.eq;exact sx16
 | some kk=>
  have hX2:=(Ky f2 2 of a.nd HOP.out).symm.trans HI.out.eq;rw[tail_drop] at hX2;have hne3:pM f2 (.level (2+1)) (T.drop (k2+1))≠.out:=Jl (by rw[hX2]; exact HNE.out);have hk1:=HMR.out kk rfl;have wk:IntKind.i64.wrap ((k2:Int)+1)=(k2:Int)+1:=IntWalk.i64_in _ (by have:=hI4.pat.room; omega);have pc:=Ja hI4.pat.self 1;have pf:=Jc hI4.pat.self 1;simp only[ZD,ZE,ZF] at pc;have HI4:=Zh hI4;have HEQ:=Zh hX2;have hle2:f2≤f:=by have:=HI4.out.le; omega
  clear HI HOP HMR hX2 hI4;simp only[Option.getD,Option.isSome];go_upto_region 16 with fail;obtain ⟨w5,hw5⟩:∃ w5,w4.setCell ⟨p,1,none⟩ (.int .i64 ((k2:Int)+1))=w5:=⟨_,rfl⟩
  rw[hw5];have hD5:Below w5.heap.size w5 w5.drew:=(Below.refl w5.heap.size w5).drew
  have HC3:Hid (Chg [p] w4 w5.drew):=by
   exact sx52
  have HP3:Hid (PAt w5.drew p A C T (k2+1)):=by
   exact sx65
  have HPX:Hid (bx≠p∧True):=⟨HI4.out.low.2.2.1,trivial⟩
  obtain ⟨xA1,xn1,xc1,hcf⟩:=Je a;have hbx5:=HC3.out.heap_some (by simp; exact HPX.out.1) HI4.out.box;rw[hcf] at hbx5;have HBX:=Zh hbx5;have HCF:=Zh hcf;clear hbx5 hcf hD5 pc pf hw5;refine wp_region_held_drew (S:=fun _=>True) (by kernel_rfl) (trivial) (fun hH=>?_);refine ZT (i:=0) (v:=?vT1_0) rfl (Or.inl ⟨by rfl,?yT1_0⟩) ?_
  case yT1_0=>exact ZyQ
  try simp only[Act.put,ZA,ZB,ZC]
  refine ZT (i:=1) (v:=?vT1_1) rfl (Or.inl ⟨by rfl,?yT1_1⟩) ?_
  case yT1_1=>exact ZyQ
  try simp only[Act.put,ZA,ZB,ZC]
  refine ZT (i:=3) (v:=?vT1_3) rfl (Or.inl ⟨by rfl,?yT1_3⟩) ?_
  case yT1_3=>exact ZyQ
  try simp only[Act.put,ZA,ZB,ZC]
  refine ZT (i:=4) (v:=?vT1_4) rfl (Or.inl ⟨by rfl,?yT1_4⟩) ?_
  case yT1_4=>exact ZyQ
  try simp only[Act.put,ZA,ZB,ZC]
  refine ZT (i:=5) (v:=?vT1_5) rfl (Or.inl ⟨by rfl,?yT1_5⟩) ?_
  case yT1_5=>exact ZyQ
  try simp only[Act.put,ZA,ZB,ZC]
  refine ZR (rs:=[2,6]) (AllReadyH.cons rfl (fun K hK=>?_) (AllReadyH.cons rfl (fun K hK=>?_) AllReadyH.nil))
  ·have hbx:=HBX.out;obtain ⟨b0,b1,b2,b3,b4⟩:=Jg hbx;go_simp;clear b0 b1 b2 b3 b4 hbx;refine hK.out _ _ trivial (fun hH=>?_);clear hK K
   try simp only[Act.put,ZA,ZB,ZC]
   refine ZS 6 rfl (fun K hK=>?_)
   (go_simp; go_at_call 105; refine (I1 f2 (by omega) (k2+1) _ HP3.out hne3).mono ?_; intro e w6 h6)
   cases hx:pM f2 (.level (2+1)) (T.drop (k2+1)) with
   | out=>exact absurd hx hne3
   | bad q=>
    exact sx40
   | ok nd r=>
   exact sx19
  ·(go_simp; go_at_call 105; refine (I1 f2 (by omega) (k2+1) _ HP3.out hne3).mono ?_; intro e w6 h6)
   cases hx:pM f2 (.level (2+1)) (T.drop (k2+1)) with
   | out=>exact absurd hx hne3
   | bad q=>
    exact sx40
   | ok nd r=>
   exact sx15
theorem Jhx (f p:Nat) (A:Option Addr) (C:Nat) (T:List Tok)
  (I1:∀ g,g≤f→∀ k w,PAt w p A C T k→pM g (.level (5+1)) (T.drop k)≠.out→Calls prog 105 #[.pointer (some ⟨p,0,none⟩),.int .i64 (6)] w (NdP p A C T w (pM g (.level (5+1)) (T.drop k))))
  (k:Nat) (w:World) (h:PAt w p A C T k) (hne:pM (f+1) (.level 5) (T.drop k)≠.out) :
  Calls prog 105 #[.pointer (some ⟨p,0,none⟩),.int .i64 5] w (NdP p A C T w (pM (f+1) (.level 5) (T.drop k))):=by
 obtain ⟨X,hX⟩:∃ X,pM (f+1) (.level 5) (T.drop k)=X:=⟨_,rfl⟩
 have hlev:=V7 f 5 (by decide) (by decide) (T.drop k);rw[hX] at hne hlev ⊢;obtain ⟨R,hR⟩:∃ R,NdP p A C T w X=R:=⟨_,rfl⟩
 rw[hR];have HR:Hid (R=NdP p A C T w X):=hR.symm;have HNE:=Zh hne;have hZ:=heap_alloc_new w (.cells #[.int .i64 0,.int .i64 0,.string ⟨#[]⟩,.int .i64 0,.slice none 0 0] 119);have hB:=(Below.refl w.heap.size w).alloc (Nat.le_refl _) (.cells #[.int .i64 0,.int .i64 0,.string ⟨#[]⟩,.int .i64 0,.slice none 0 0] 119);have cp:=JK p A C T k _ (h.chg hB);obtain ⟨of,hof⟩:∃ of,(hd (T.drop k)).off=of:=⟨_,rfl⟩
 unfold TokP at cp;have hfl:∀ (t:Tok) (W:World),(Instr.field 105 (.agg (tokZ t)) 3).run prog W=.ok (.int .i64 t.off) W:=fun t W=>by obtain ⟨a,b,c,d⟩:=t; kernel_rfl
 have hfl':=hfl (hd (T.drop k));rw[hof] at hfl' hlev;generalize tokZ (hd (T.drop k))=tv at *;have HP:=Zh (h.chg hB);have HZ:=Zh hZ;have HB:=Zh hB;have HPL:=Zh h.chg1;have HTL:=Zh h.tokLt;have HLV:=Zh hlev;have hne2:pM f (.level (5+1)) (T.drop k)≠.out:=Jl (by rw[← HLV.out]; exact hne);clear h hne hR hZ hB hfl hof hlev hX;go_enter func105,ntmps105;go_wp2_with fail;refine cp.mono ?_;rintro e w1 ⟨rfl,hb1⟩;have HP1:=Zh (HP.out.chg hb1);have HZ1:Hid (w1.heap[w.heap.size]?=some (.cells #[.int .i64 0,.int .i64 0,.string ⟨#[]⟩,.int .i64 0,.slice none 0 0] 119)):=(hb1.block _ (Jb HZ.out)).trans HZ.out;have HB1:=Zh (HB.out.trans (hb1.mono HB.out.size));have HS1:Hid (w.heap.size<w1.heap.size):=Jb HZ1.out;have hpz:w.heap.size≠p:=by have:=HPL.out; omega
 clear cp hb1 HP HZ HB;go_wp2_with fail;refine (I1 f (Nat.le_refl _) k w1 HP1.out hne2).mono ?_;intro e w2 h2
 cases hx:pM f (.level (5+1)) (T.drop k) with
 | out=>exact absurd hx hne2
 | bad q=>
  exact sx64
 | ok nd r=>
 rw[hx] at h2;obtain ⟨a,hnd,rfl,hat,hmd,⟨k2,hr,hp2⟩,hc2⟩:=h2;subst hnd hr;have hzz:=hc2.heap_some (by simp; exact hpz) HZ1.out;have hA2:Below w2.heap.size w2 (w2.alloc (.cells (cellsN a) 119)):=(Below.refl _ _).alloc (Nat.le_refl _) _;have HLI:Hid (∃ k2 a',LvI f 5 of X p A C T w w1.heap.size w2.heap.size (w2.alloc (.cells (cellsN a) 119)) k2 f a'):=⟨k2,a,by rw[HLV.out,hx]; rfl,Nat.le_refl _,hp2.chg hA2,Kg hat hmd hA2 (Nat.le_refl _),hmd.mono (Nat.le_refl _) (by simp),heap_alloc_new _ _,(hA2.block _ (Jb hzz)).trans hzz,((Chg.of_below HB1.out [p]).trans hc2).alloc _,⟨HS1.out,by have:=Jb hzz; omega,by have:=hp2.chg1; have:=HPL.out; have:=hc2.size; have:=HS1.out; omega,by have:=Jb hzz; omega⟩,by have:=hc2.size; simp; omega,fun hm=>by have:=(hmd.2 _ hm).2; omega⟩
 obtain ⟨xA,xn,xc,hcf⟩:=Je a;rw[hcf] at HLI ⊢;clear hx hat hmd hp2 hc2 hcf hzz hA2 HLV HZ1 HP1 HB1 hne2;go_wp2;generalize hwb:World.alloc w2 _=wb at *;clear hwb;generalize w2.heap.size=bx at *;generalize w1.heap.size=lo at *;go_loopg [] f (fun g wr=>Hid (∃ k2 a,LvI f 5 of X p A C T w lo bx wr k2 g a))
 case atStart=>exact HLI
 case round=>
 clear HLI;obtain ⟨wl,rfl⟩:∃ wl:World,wl=wr:=⟨_,rfl⟩
 obtain ⟨k2,a,hI⟩:=hrel.out
 cases gk with
 | zero=>exact absurd hI.eq.symm HNE.out
 | succ f2=>
 have cp:=JK p A C T k2 wl hI.pat;have co:=fun W=>JiG (hd (T.drop k2)) W
 obtain ⟨op,hop⟩:∃ op,opK 5 (hd (T.drop k2))=op:=⟨_,rfl⟩
 have hkd:∀ kk,op=some kk→(hd (T.drop k2)).kind≠4:=fun kk e=>V8 (hop.trans e)
 have hmore:∀ kk,op=some kk→k2+1<T.length:=fun kk e=>hI.pat.more (hkd kk e)
 unfold TokP at cp;unfold OpP at co;rw[hop] at co;have HI:=Zh hI;have HOP:=Zh hop;have HMR:=Zh hmore;generalize tokZ (hd (T.drop k2))=tv2 at *;clear hI hop hkd hmore hrel;go_wp2_with fail;refine cp.mono ?_;rintro e w3 ⟨rfl,hb3⟩;go_wp2_with fail;refine (co _).mono ?_;rintro e w4 ⟨rfl,hb4⟩;have hI4:=(HI.out.below hb3).below hb4;clear cp co hb3 hb4
 cases op with
 | none=>
  have hX2:=(Kx f2 5 of a.nd HOP.out).symm.trans HI.out.eq;exact sx16
 | some kk=>
  have hX2:=(Ky f2 5 of a.nd HOP.out).symm.trans HI.out.eq;rw[tail_drop] at hX2;have hne3:pM f2 (.level (5+1)) (T.drop (k2+1))≠.out:=Jl (by rw[hX2]; exact HNE.out);have hk1:=HMR.out kk rfl;have wk:IntKind.i64.wrap ((k2:Int)+1)=(k2:Int)+1:=IntWalk.i64_in _ (by have:=hI4.pat.room; omega);have pc:=Ja hI4.pat.self 1;have pf:=Jc hI4.pat.self 1;simp only[ZD,ZE,ZF] at pc;have HI4:=Zh hI4;have HEQ:=Zh hX2;have hle2:f2≤f:=by have:=HI4.out.le; omega
  clear HI HOP HMR hX2 hI4;simp only[Option.getD,Option.isSome];go_upto_region 16 with fail;obtain ⟨w5,hw5⟩:∃ w5,w4.setCell ⟨p,1,none⟩ (.int .i64 ((k2:Int)+1))=w5:=⟨_,rfl⟩
  rw[hw5];have hD5:Below w5.heap.size w5 w5.drew:=(Below.refl w5.heap.size w5).drew
  have HC3:Hid (Chg [p] w4 w5.drew):=by
   exact sx52
  have HP3:Hid (PAt w5.drew p A C T (k2+1)):=by
   exact sx65
  have HPX:Hid (bx≠p∧True):=⟨HI4.out.low.2.2.1,trivial⟩
  obtain ⟨xA1,xn1,xc1,hcf⟩:=Je a;have hbx5:=HC3.out.heap_some (by simp; exact HPX.out.1) HI4.out.box;rw[hcf] at hbx5;have HBX:=Zh hbx5;have HCF:=Zh hcf;clear hbx5 hcf hD5 pc pf hw5;refine wp_region_held_drew (S:=fun _=>True) (by kernel_rfl) (trivial) (fun hH=>?_);refine ZT (i:=0) (v:=?vT1_0) rfl (Or.inl ⟨by rfl,?yT1_0⟩) ?_
  case yT1_0=>exact ZyQ
  try simp only[Act.put,ZA,ZB,ZC]
  refine ZT (i:=1) (v:=?vT1_1) rfl (Or.inl ⟨by rfl,?yT1_1⟩) ?_
  case yT1_1=>exact ZyQ
  try simp only[Act.put,ZA,ZB,ZC]
  refine ZT (i:=3) (v:=?vT1_3) rfl (Or.inl ⟨by rfl,?yT1_3⟩) ?_
  case yT1_3=>exact ZyQ
  try simp only[Act.put,ZA,ZB,ZC]
  refine ZT (i:=4) (v:=?vT1_4) rfl (Or.inl ⟨by rfl,?yT1_4⟩) ?_
  case yT1_4=>exact ZyQ
  try simp only[Act.put,ZA,ZB,ZC]
  refine ZT (i:=5) (v:=?vT1_5) rfl (Or.inl ⟨by rfl,?yT1_5⟩) ?_
  case yT1_5=>exact ZyQ
  try simp only[Act.put,ZA,ZB,ZC]
  refine ZR (rs:=[2,6]) (AllReadyH.cons rfl (fun K hK=>?_) (AllReadyH.cons rfl (fun K hK=>?_) AllReadyH.nil))
  ·have hbx:=HBX.out;obtain ⟨b0,b1,b2,b3,b4⟩:=Jg hbx;go_simp;clear b0 b1 b2 b3 b4 hbx;refine hK.out _ _ trivial (fun hH=>?_);clear hK K
   try simp only[Act.put,ZA,ZB,ZC]
   refine ZS 6 rfl (fun K hK=>?_)
   (go_simp; go_at_call 105; refine (I1 f2 (by omega) (k2+1) _ HP3.out hne3).mono ?_; intro e w6 h6)
   cases hx:pM f2 (.level (5+1)) (T.drop (k2+1)) with
   | out=>exact absurd hx hne3
   | bad q=>
    exact sx40
   | ok nd r=>
   exact sx19
  ·(go_simp; go_at_call 105; refine (I1 f2 (by omega) (k2+1) _ HP3.out hne3).mono ?_; intro e w6 h6)
   cases hx:pM f2 (.level (5+1)) (T.drop (k2+1)) with
   | out=>exact absurd hx hne3
   | bad q=>
    exact sx40
   | ok nd r=>
   exact sx15
theorem Jhy (f p:Nat) (A:Option Addr) (C:Nat) (T:List Tok)
  (I1:∀ g,g≤f→∀ k w,PAt w p A C T k→pM g (.level (6+1)) (T.drop k)≠.out→Calls prog 105 #[.pointer (some ⟨p,0,none⟩),.int .i64 (7)] w (NdP p A C T w (pM g (.level (6+1)) (T.drop k))))
  (k:Nat) (w:World) (h:PAt w p A C T k) (hne:pM (f+1) (.level 6) (T.drop k)≠.out) :
  Calls prog 105 #[.pointer (some ⟨p,0,none⟩),.int .i64 6] w (NdP p A C T w (pM (f+1) (.level 6) (T.drop k))):=by
 obtain ⟨X,hX⟩:∃ X,pM (f+1) (.level 6) (T.drop k)=X:=⟨_,rfl⟩
 have hlev:=V7 f 6 (by decide) (by decide) (T.drop k);rw[hX] at hne hlev ⊢;obtain ⟨R,hR⟩:∃ R,NdP p A C T w X=R:=⟨_,rfl⟩
 rw[hR];have HR:Hid (R=NdP p A C T w X):=hR.symm;have HNE:=Zh hne;have hZ:=heap_alloc_new w (.cells #[.int .i64 0,.int .i64 0,.string ⟨#[]⟩,.int .i64 0,.slice none 0 0] 119);have hB:=(Below.refl w.heap.size w).alloc (Nat.le_refl _) (.cells #[.int .i64 0,.int .i64 0,.string ⟨#[]⟩,.int .i64 0,.slice none 0 0] 119);have cp:=JK p A C T k _ (h.chg hB);obtain ⟨of,hof⟩:∃ of,(hd (T.drop k)).off=of:=⟨_,rfl⟩
 unfold TokP at cp;have hfl:∀ (t:Tok) (W:World),(Instr.field 105 (.agg (tokZ t)) 3).run prog W=.ok (.int .i64 t.off) W:=fun t W=>by obtain ⟨a,b,c,d⟩:=t; kernel_rfl
 have hfl':=hfl (hd (T.drop k));rw[hof] at hfl' hlev;generalize tokZ (hd (T.drop k))=tv at *;have HP:=Zh (h.chg hB);have HZ:=Zh hZ;have HB:=Zh hB;have HPL:=Zh h.chg1;have HTL:=Zh h.tokLt;have HLV:=Zh hlev;have hne2:pM f (.level (6+1)) (T.drop k)≠.out:=Jl (by rw[← HLV.out]; exact hne);clear h hne hR hZ hB hfl hof hlev hX;go_enter func105,ntmps105;go_wp2_with fail;refine cp.mono ?_;rintro e w1 ⟨rfl,hb1⟩;have HP1:=Zh (HP.out.chg hb1);have HZ1:Hid (w1.heap[w.heap.size]?=some (.cells #[.int .i64 0,.int .i64 0,.string ⟨#[]⟩,.int .i64 0,.slice none 0 0] 119)):=(hb1.block _ (Jb HZ.out)).trans HZ.out;have HB1:=Zh (HB.out.trans (hb1.mono HB.out.size));have HS1:Hid (w.heap.size<w1.heap.size):=Jb HZ1.out;have hpz:w.heap.size≠p:=by have:=HPL.out; omega
 clear cp hb1 HP HZ HB;go_wp2_with fail;refine (I1 f (Nat.le_refl _) k w1 HP1.out hne2).mono ?_;intro e w2 h2
 cases hx:pM f (.level (6+1)) (T.drop k) with
 | out=>exact absurd hx hne2
 | bad q=>
  exact sx64
 | ok nd r=>
 rw[hx] at h2;obtain ⟨a,hnd,rfl,hat,hmd,⟨k2,hr,hp2⟩,hc2⟩:=h2;subst hnd hr;have hzz:=hc2.heap_some (by simp; exact hpz) HZ1.out;have hA2:Below w2.heap.size w2 (w2.alloc (.cells (cellsN a) 119)):=(Below.refl _ _).alloc (Nat.le_refl _) _;have HLI:Hid (∃ k2 a',LvI f 6 of X p A C T w w1.heap.size w2.heap.size (w2.alloc (.cells (cellsN a) 119)) k2 f a'):=⟨k2,a,by rw[HLV.out,hx]; rfl,Nat.le_refl _,hp2.chg hA2,Kg hat hmd hA2 (Nat.le_refl _),hmd.mono (Nat.le_refl _) (by simp),heap_alloc_new _ _,(hA2.block _ (Jb hzz)).trans hzz,((Chg.of_below HB1.out [p]).trans hc2).alloc _,⟨HS1.out,by have:=Jb hzz; omega,by have:=hp2.chg1; have:=HPL.out; have:=hc2.size; have:=HS1.out; omega,by have:=Jb hzz; omega⟩,by have:=hc2.size; simp; omega,fun hm=>by have:=(hmd.2 _ hm).2; omega⟩
 obtain ⟨xA,xn,xc,hcf⟩:=Je a;rw[hcf] at HLI ⊢;clear hx hat hmd hp2 hc2 hcf hzz hA2 HLV HZ1 HP1 HB1 hne2;go_wp2;generalize hwb:World.alloc w2 _=wb at *;clear hwb;generalize w2.heap.size=bx at *;generalize w1.heap.size=lo at *;go_loopg [] f (fun g wr=>Hid (∃ k2 a,LvI f 6 of X p A C T w lo bx wr k2 g a))
 case atStart=>exact HLI
 case round=>
 clear HLI;obtain ⟨wl,rfl⟩:∃ wl:World,wl=wr:=⟨_,rfl⟩
 obtain ⟨k2,a,hI⟩:=hrel.out
 cases gk with
 | zero=>exact absurd hI.eq.symm HNE.out
 | succ f2=>
 have cp:=JK p A C T k2 wl hI.pat;have co:=fun W=>JiH (hd (T.drop k2)) W
 obtain ⟨op,hop⟩:∃ op,opK 6 (hd (T.drop k2))=op:=⟨_,rfl⟩
 have hkd:∀ kk,op=some kk→(hd (T.drop k2)).kind≠4:=fun kk e=>V8 (hop.trans e)
 have hmore:∀ kk,op=some kk→k2+1<T.length:=fun kk e=>hI.pat.more (hkd kk e)
 unfold TokP at cp;unfold OpP at co;rw[hop] at co;have HI:=Zh hI;have HOP:=Zh hop;have HMR:=Zh hmore;generalize tokZ (hd (T.drop k2))=tv2 at *;clear hI hop hkd hmore hrel;go_wp2_with fail;refine cp.mono ?_;rintro e w3 ⟨rfl,hb3⟩;go_wp2_with fail;refine (co _).mono ?_;rintro e w4 ⟨rfl,hb4⟩;have hI4:=(HI.out.below hb3).below hb4;clear cp co hb3 hb4
 cases op with
 | none=>
  have hX2:=(Kx f2 6 of a.nd HOP.out).symm.trans HI.out.eq;exact sx16
 | some kk=>
  have hX2:=(Ky f2 6 of a.nd HOP.out).symm.trans HI.out.eq;rw[tail_drop] at hX2;have hne3:pM f2 (.level (6+1)) (T.drop (k2+1))≠.out:=Jl (by rw[hX2]; exact HNE.out);have hk1:=HMR.out kk rfl;have wk:IntKind.i64.wrap ((k2:Int)+1)=(k2:Int)+1:=IntWalk.i64_in _ (by have:=hI4.pat.room; omega);have pc:=Ja hI4.pat.self 1;have pf:=Jc hI4.pat.self 1;simp only[ZD,ZE,ZF] at pc;have HI4:=Zh hI4;have HEQ:=Zh hX2;have hle2:f2≤f:=by have:=HI4.out.le; omega
  clear HI HOP HMR hX2 hI4;simp only[Option.getD,Option.isSome];go_upto_region 16 with fail;obtain ⟨w5,hw5⟩:∃ w5,w4.setCell ⟨p,1,none⟩ (.int .i64 ((k2:Int)+1))=w5:=⟨_,rfl⟩
  rw[hw5];have hD5:Below w5.heap.size w5 w5.drew:=(Below.refl w5.heap.size w5).drew
  have HC3:Hid (Chg [p] w4 w5.drew):=by
   exact sx52
  have HP3:Hid (PAt w5.drew p A C T (k2+1)):=by
   exact sx65
  have HPX:Hid (bx≠p∧True):=⟨HI4.out.low.2.2.1,trivial⟩
  obtain ⟨xA1,xn1,xc1,hcf⟩:=Je a;have hbx5:=HC3.out.heap_some (by simp; exact HPX.out.1) HI4.out.box;rw[hcf] at hbx5;have HBX:=Zh hbx5;have HCF:=Zh hcf;clear hbx5 hcf hD5 pc pf hw5;refine wp_region_held_drew (S:=fun _=>True) (by kernel_rfl) (trivial) (fun hH=>?_);refine ZT (i:=0) (v:=?vT1_0) rfl (Or.inl ⟨by rfl,?yT1_0⟩) ?_
  case yT1_0=>exact ZyQ
  try simp only[Act.put,ZA,ZB,ZC]
  refine ZT (i:=1) (v:=?vT1_1) rfl (Or.inl ⟨by rfl,?yT1_1⟩) ?_
  case yT1_1=>exact ZyQ
  try simp only[Act.put,ZA,ZB,ZC]
  refine ZT (i:=3) (v:=?vT1_3) rfl (Or.inl ⟨by rfl,?yT1_3⟩) ?_
  case yT1_3=>exact ZyQ
  try simp only[Act.put,ZA,ZB,ZC]
  refine ZT (i:=4) (v:=?vT1_4) rfl (Or.inl ⟨by rfl,?yT1_4⟩) ?_
  case yT1_4=>exact ZyQ
  try simp only[Act.put,ZA,ZB,ZC]
  refine ZT (i:=5) (v:=?vT1_5) rfl (Or.inl ⟨by rfl,?yT1_5⟩) ?_
  case yT1_5=>exact ZyQ
  try simp only[Act.put,ZA,ZB,ZC]
  refine ZR (rs:=[2,6]) (AllReadyH.cons rfl (fun K hK=>?_) (AllReadyH.cons rfl (fun K hK=>?_) AllReadyH.nil))
  ·have hbx:=HBX.out;obtain ⟨b0,b1,b2,b3,b4⟩:=Jg hbx;go_simp;clear b0 b1 b2 b3 b4 hbx;refine hK.out _ _ trivial (fun hH=>?_);clear hK K
   try simp only[Act.put,ZA,ZB,ZC]
   refine ZS 6 rfl (fun K hK=>?_)
   (go_simp; go_at_call 105; refine (I1 f2 (by omega) (k2+1) _ HP3.out hne3).mono ?_; intro e w6 h6)
   cases hx:pM f2 (.level (6+1)) (T.drop (k2+1)) with
   | out=>exact absurd hx hne3
   | bad q=>
    exact sx40
   | ok nd r=>
   exact sx19
  ·(go_simp; go_at_call 105; refine (I1 f2 (by omega) (k2+1) _ HP3.out hne3).mono ?_; intro e w6 h6)
   cases hx:pM f2 (.level (6+1)) (T.drop (k2+1)) with
   | out=>exact absurd hx hne3
   | bad q=>
    exact sx40
   | ok nd r=>
   exact sx15
end Go.Proofs.YtncanmdgdflnpaaGreatDoor
