
import Derived.Test.YtncanmdgdflnpaaGreatDoorV37
namespace Go.Proofs.YtncanmdgdflnpaaGreatDoor
open Go.ChangeShapes Go.WideShapes Go.ChangeAt Go.RowKit Go.Lib
open _root_.Go.Proofs.Tryz
set_option linter.all false
set_option maxRecDepth 100000
set_option maxHeartbeats 32000000
theorem vx9 {P:Prop}(h:P:=by
  obtain ⟨⟨q0,q1,q2,q3⟩,hxx⟩:=hTE _ hb;go_simp
  exact hK.out _ _ (Below.refl _ _) (fun Pr1 h1 _=>⟨_,rfl,XAt.keep (fun _ _=>rfl) (fun q hq=>h1 q (hn q hq)) _ _ hxx⟩) (fun h=>absurd h (by decide))):P:=h
theorem vx12 {P:Prop}(h:P:=by
  go_simp;go_at_call 21;refine (JiS _ _ _ _ _).mono ?_;rintro e w9 ⟨rfl,hbb⟩
  exact hK.out _ _ hbb (fun Pr1 h1 h2=>⟨_,rfl,JeS (RowX.keep (fun b h=>hbb.block b (hP b h)) h1 _ _ hr) ((hbb.block _ (Jb hb2)).trans hb2) (h1 _ hb1)⟩) (fun h=>absurd h (by decide))):P:=h
theorem vx18 {P:Prop}(h:P:=by
  obtain ⟨ad0,cc0,rfl,_⟩:=hx0.form;go_simp
  exact hK.out _ _ ((Below.refl _ _).alloc (Nat.le_refl _) _) (fun Pr1 h1 h2=>⟨_,_,rfl,h2 (by decide) _ (Nat.le_refl _) (by simp),heap_alloc_new _ _,(ZN (XAt.keep (fun b h=>heap_alloc_old _ _ (hP b h)) h1 _ _ hx0))⟩) (fun h=>absurd h (by decide))):P:=h
theorem vx25 {P:Prop}(h:P:=by
  obtain ⟨ad0,cc0,rfl,_⟩:=hx0.form;obtain ⟨ad1,cc1,rfl,_⟩:=hx1.form;go_simp
  exact hK.out _ _ ((Below.refl _ _).alloc (Nat.le_refl _) _) (fun Pr1 h1 h2=>⟨_,_,rfl,h2 (by decide) _ (Nat.le_refl _) (by simp),heap_alloc_new _ _,(Ky (XAt.keep (fun b h=>heap_alloc_old _ _ (hP b h)) h1 _ _ hx0) (ZN (XAt.keep (fun b h=>heap_alloc_old _ _ (hP b h)) h1 _ _ hx1)))⟩) (fun h=>absurd h (by decide))):P:=h
theorem vx34 {P:Prop}(h:P:=by
  go_simp
  exact hK.out _ _ ((Below.refl _ _).alloc (Nat.le_refl _) _) (fun Pr1 h1 h2=>⟨_,rfl,heap_alloc_new _ _⟩) (fun _=>⟨_,rfl,Nat.le_refl _,by simp⟩)):P:=h
theorem vx38 {P:Prop}(h:P:=by
  go_simp
  exact hK.out _ _ (Below.refl _ _) (fun _ _ _=>rfl) (fun h=>absurd h (by decide))):P:=h
theorem vx40 {P:Prop}(h:P:=by
  go_wp2;go_roundg (3-(i+1))
  case measure=>have:=HG.out; omega
  case rel=>exact ⟨i+1,m,by have:=HG.out; omega,by have:=HG.out; omega,rfl,Je HBL.out HW.out⟩):P:=h
theorem vx45 {P:Prop}(h:P:=by
  obtain ⟨ad0,cc0,rfl,_⟩:=hx0.form;obtain ⟨ad1,cc1,rfl,_⟩:=hx1.form;obtain ⟨ad2,cc2,rfl,_⟩:=hx2.form;go_simp
  exact hK.out _ _ ((Below.refl _ _).alloc (Nat.le_refl _) _) (fun Pr1 h1 h2=>⟨_,_,rfl,h2 (by decide) _ (Nat.le_refl _) (by simp),heap_alloc_new _ _,(Ky (XAt.keep (fun b h=>heap_alloc_old _ _ (hP b h)) h1 _ _ hx0) (Ky (XAt.keep (fun b h=>heap_alloc_old _ _ (hP b h)) h1 _ _ hx1) (ZN (XAt.keep (fun b h=>heap_alloc_old _ _ (hP b h)) h1 _ _ hx2))))⟩) (fun h=>absurd h (by decide))):P:=h
theorem vx46 {P:Prop}(h:P:=by
  have o7:a0.tmps[7]?.getD undef=.pointer (some ⟨yb,0,none⟩):=ho 7 (by kernel_rfl);obtain ⟨adE,ccE,hTE⟩:=HY4.out
  exact vx9):P:=h
theorem vx51 {P:Prop}(h:P:=by
  obtain ⟨fa1,fc1,ga1,gc1,rfl⟩:=hrx.form;obtain ⟨ad,cc,rfl,_⟩:=hx.form;go_simp;go_at_call 22;refine (Jgw _ _ _ _ _ _ _ _ _ _ _ _ _ _).mono ?_;rintro e w9 ⟨b9,rfl,hb9,hz9,hbb⟩
  exact hK.out _ _ hbb (fun Pr1 h1 h2=>⟨_,rfl,whenXr (RuleX.keep (fun b h=>hbb.block b (hP b h)) h1 hrx) (XAt.keep (fun b h=>hbb.block b (hP b h)) h1 _ _ hx) hz9 (h2 (by decide) _ hb9 (Jb hz9))⟩) (fun h=>absurd h (by decide))):P:=h
theorem vx61 {P:Prop}(h:P:=by
  have o4:a0.tmps[4]?.getD undef=.pointer (some ⟨rb,0,none⟩):=ho 4 (by kernel_rfl);obtain ⟨fa1,fc1,ga1,gc1,hTR⟩:=HRL.out;obtain ⟨⟨q0,q1,q2⟩,hrx⟩:=hTR _ hb;go_simp
  exact hK.out _ _ (Below.refl _ _) (fun Pr1 h1 _=>⟨_,rfl,RuleX.keep (fun _ _=>rfl) (fun q hq=>h1 q (hn q hq)) hrx⟩) (fun h=>absurd h (by decide))):P:=h
theorem vx74 {P:Prop}(h:P:=by
  have o6:a0.tmps[6]?.getD undef=.pointer (some ⟨xb,0,none⟩):=ho 6 (by kernel_rfl);obtain ⟨adE,ccE,hTE⟩:=HX4.out
  exact vx9):P:=h
theorem vx87 {P:Prop}(h:P:=by
  go_simp
  exact hK.out _ _ (Below.refl _ _) (fun Pr1 h1 _=>⟨_,rfl,RuleX.keep (fun _ _=>rfl) (fun q hq=>h1 q (hn q (Nat.lt_of_lt_of_le hq HW.out.size))) hrx⟩) (fun h=>absurd h (by decide))):P:=h
theorem vx94 {P:Prop}(h:P:=by
  have o5:a0.tmps[5]?.getD undef=.pointer (some ⟨fb,0,none⟩):=ho 5 (by kernel_rfl);obtain ⟨⟨g0,g1,g2,g3,g4,g5,g6,g7,g8,g9,g10,g11⟩,hlab,hwd⟩:=HFL.out _ hb
  exact vx38):P:=h
theorem vx109 {P:Prop}(h:P:=by
  unfold factsC at cr;go_simp;go_at_call 13;refine cr.mono ?_;rintro e w9 ⟨rfl,hbb⟩
  exact hK.out _ _ hbb (fun _ _ _=>rfl) (fun h=>absurd h (by decide))):P:=h
theorem vx125 {P:Prop}(h:P:=by
  have o10:a0.tmps[10]?.getD undef=.pointer (some ⟨nab,0,none⟩):=ho 10 (by kernel_rfl);obtain ⟨adE,ccE,hTE⟩:=HNA4.out
  exact vx9):P:=h
theorem vx126 {P:Prop}(h:P:=by
  have o11:a0.tmps[11]?.getD undef=.pointer (some ⟨nbb,0,none⟩):=ho 11 (by kernel_rfl);obtain ⟨adE,ccE,hTE⟩:=HNB4.out
  exact vx9):P:=h
theorem vx143 {P:Prop}(h:P:=by
  have o14:a0.tmps[14]?.getD undef=.slice (some ⟨pb,0,none⟩) 6 6:=ho 14 (by kernel_rfl)
  exact vx38):P:=h
theorem Jdz (r:RuleM) (cr:Array Value) (F:FactsM) (la wa:Option Addr) (lc wc:Nat) (X:Exp) (ca:Array Value) (Y:Exp) (cb:Array Value) (w:World) (hr:RuleX w (In w) r cr) (hn:RNm r) (hlab:LabsAt w (.slice la F.labels.length lc) F.labels) (hwd:WordsAt w (.slice wa F.words.length wc) F.words) (hX:XAt w (In w) X ca) (nX:NmN X) (hY:XAt w (In w) Y cb) (nY:NmN Y) (hL:Laid w) :
  Calls prog 6 #[.agg cr,.agg (factsC F (.slice la F.labels.length lc) (.slice wa F.words.length wc)),.agg ca,.agg cb] w (BoolPost w true):=by
 obtain ⟨hb1,hz0,hz1,hz2,hz3⟩:=boxes4 w (.cells cr 30) (.cells (factsC F (.slice la F.labels.length lc) (.slice wa F.words.length wc)) 25) (.cells ca 50) (.cells cb 50);have HR1:=Zh (RuleV.of hz0 (hr.up hb1));have HF1:=Zh (FactsV.of hz1 (hlab.up hb1) (hwd.up hb1));have HX1:=Zh (TreeV.of hz2 (hX.up hb1));have HY1:=Zh (TreeV.of hz3 (hY.up hb1));have HB1:=Zh (show Bel w _ from hb1);have HNM:=Zh (And.intro hn (And.intro nX nY));have HL:=Zh hL;obtain ⟨fa,fc,ga,gc,rfl⟩:=hr.form;obtain ⟨xa,xc,rfl,_⟩:=hX.form;obtain ⟨ya,yc,rfl,_⟩:=hY.form;clear hb1 hz0 hz1 hz2 hz3 hr hn hX hY nX nY hlab hwd hL;unfold factsC at HR1 HF1 HX1 HY1 HB1 ⊢;go_enter func6,ntmps6;go_upto_region 1 with fail;generalize World.alloc (World.alloc (World.alloc (World.alloc w _) _) _) _=w1 at *;generalize w.heap.size+1+1+1=yb at *;generalize w.heap.size+1+1=xb at *;generalize w.heap.size+1=fb at *;generalize w.heap.size=rb at *;go_wp2_with fail;refine (Jfp w1 (HL.out.below HB1.out)).mono ?_;rintro e w2 ⟨rfl,hb2⟩;have HB2:=Zh (Je HB1.out hb2);have HR2:=Zh (HR1.out.up hb2);have HF2:=Zh (HF1.out.up hb2);have HX2:=Zh (HX1.out.up hb2);have HY2:=Zh (HY1.out.up hb2);clear HR1 HF1 HX1 HY1;replace HB2:Hid (Bel w w2):=HB2;clear hb2 HB1;go_upto_region 2 with fail;refine Km 8 [6,7] (fun i=>RK.rel (match i with | 0=>.tree X | 1=>.row [X] | 2=>.tree (opE 7 [X]) | 3=>.tree Y | 4=>.row [Y] | 5=>.tree (opE 7 [Y]) | 6=>.fresh #[.int .i64 0,.int .i64 0,.string ⟨#[]⟩,.slice none 0 0] 50 | 7=>.fresh #[.int .i64 0,.int .i64 0,.string ⟨#[]⟩,.slice none 0 0] 50 | _=>.const undef)) (fun W=>Bel w2 W) (Below.refl _ _).drew (by decide) (fun _ _ h hb=>Je h hb) (fun i v P P1 w w1=>RK.keep _ v P P1 w w1) (allOb (n:=8) ?_) ?_
 ·refine ⟨⟨⟨⟨⟨⟨⟨⟨trivial,?_⟩,?_⟩,?_⟩,?_⟩,?_⟩,?_⟩,?_⟩,?_⟩
  ·refine OpOb.of 0 rfl fun a0 w0 Pr hb hP hn hd ho K hK=>?_
   have o6:a0.tmps[6]?.getD undef=.pointer (some ⟨xb,0,none⟩):=ho 6 (by kernel_rfl);obtain ⟨adE,ccE,hTE⟩:=HX2.out;exact vx9
  ·refine OpOb.of 1 rfl fun a0 w0 Pr hb hP hn hd ho K hK=>?_
   obtain ⟨v0,⟨c0,rfl,hx0⟩,e0⟩:=hd 0 19 (by kernel_rfl) rfl;exact vx18
  ·refine OpOb.of 2 rfl fun a0 w0 Pr hb hP hn hd ho K hK=>?_
   obtain ⟨v0,⟨b1,cs,rfl,hb1,hb2,hr⟩,e0⟩:=hd 1 20 (by kernel_rfl) rfl;exact vx12
  ·refine OpOb.of 3 rfl fun a0 w0 Pr hb hP hn hd ho K hK=>?_
   have o7:a0.tmps[7]?.getD undef=.pointer (some ⟨yb,0,none⟩):=ho 7 (by kernel_rfl);obtain ⟨adE,ccE,hTE⟩:=HY2.out;exact vx9
  ·refine OpOb.of 4 rfl fun a0 w0 Pr hb hP hn hd ho K hK=>?_
   obtain ⟨v0,⟨c0,rfl,hx0⟩,e0⟩:=hd 3 22 (by kernel_rfl) rfl;exact vx18
  ·refine OpOb.of 5 rfl fun a0 w0 Pr hb hP hn hd ho K hK=>?_
   obtain ⟨v0,⟨b1,cs,rfl,hb1,hb2,hr⟩,e0⟩:=hd 4 23 (by kernel_rfl) rfl;exact vx12
  ·refine OpOb.of 6 rfl fun a0 w0 Pr hb hP hn hd ho K hK=>?_
   exact vx34
  ·refine OpOb.of 7 rfl fun a0 w0 Pr hb hP hn hd ho K hK=>?_
   exact vx34
 intro n9 vs w9 hn9 hb9 hp9 hd9 hr9;obtain ⟨c2,e2,hx2⟩:=hr9 2 (by decide);obtain ⟨c5,e5,hx5⟩:=hr9 5 (by decide);obtain ⟨p6,e6,hz6⟩:=hr9 6 (by decide);obtain ⟨p7,e7,hz7⟩:=hr9 7 (by decide);have hne:p6≠p7:=fun h=>hd9 6 (by decide) 7 (by decide) (by decide) (by rw[e6,e7,h])
 obtain ⟨q6,e61,hl6,_⟩:=hp9 6 (by decide);obtain rfl:p6=q6:=by rw[e6] at e61; injection e61 with h; injection h with h; injection h
 obtain ⟨q7,e71,hl7,_⟩:=hp9 7 (by decide);obtain rfl:p7=q7:=by rw[e7] at e71; injection e71 with h; injection h with h; injection h
 obtain ⟨ad,cc,rfl,_⟩:=hx2.form;obtain ⟨ae,ce,rfl,_⟩:=hx5.form;rw[show pairsOf _ 8 vs=[(19,vs 0),(20,vs 1),(21,vs 2),(22,vs 3),(23,vs 4),(24,vs 5),(10,vs 6),(11,vs 7)] from rfl];simp only[fillT,e2,e5,e6,e7,List.setIfInBounds_toArray,List.set_cons_zero,List.set_cons_succ];have hpq:∀ q,(q<w9.heap.size∧∀ j∈[6,7],blkOf (vs j)≠some q)→q<w9.heap.size∧q≠p6∧q≠p7:=fun q hq=>⟨hq.1,fun e=>hq.2 6 (by decide) (by rw[e6,e]; rfl),fun e=>hq.2 7 (by decide) (by rw[e7,e]; rfl)⟩
 obtain ⟨k1,k2,k3⟩:=Jfu hz6 hz7 hne (XAt.keep (fun _ _=>rfl) hpq _ _ hx2) (XAt.keep (fun _ _=>rfl) hpq _ _ hx5);have kb:=V9 (.int .i64 ((opE 7 [Y])).kind) (.int .i64 ((opE 7 [Y])).num) (.string (bs ((opE 7 [Y])).name)) (.slice ae ((opE 7 [Y])).kids.length ce) (V9 (.int .i64 ((opE 7 [X])).kind) (.int .i64 ((opE 7 [X])).num) (.string (bs ((opE 7 [X])).name)) (.slice ad ((opE 7 [X])).kids.length cc) hb9 hl6) hl7;have HNA3:=Zh k1;have HNB3:=Zh k2;have HK7:=Zh k3;have HKB:=Zh kb;have c4:=Kg hz6;have f4:=KJ hz6;have hl4:=Jb hz6;clear k1 k2 k3 kb hpq hne e61 e71 hl6 hl7 hx2 hx5 hz6 hz7 hd9 hr9 hp9 hb9 e2 e5 e6 e7;generalize vs 0=y0;generalize vs 1=y1;generalize vs 3=y3;generalize vs 4=y4;obtain ⟨n9,rfl⟩:∃ m,n9=m+1+1:=⟨n9-2,by have:(10:Nat)-8≤n9:=hn9; omega⟩
 clear hn9;refine VE (S:=fun _=>True) (z:=9) _ _ _ _ (LO 8 rfl fun K hK=>?_);go_simp;refine hK.out _ _ trivial (fun _=>?_);clear hK K c4 f4 hl4;simp only[put4] at HNA3 HNB3 HK7 HKB;generalize World.setCell (World.setCell (World.setCell (World.setCell w9 _ _) _ _) _ _) _ _=w10 at *;have c4:=Kg HK7.out;have f4:=KJ HK7.out;have hl4:=Jb HK7.out;clear HK7;refine LZ 9 rfl fun K hK=>?_
 go_simp;refine hK.out _ _ ?_;clear hK K c4 f4 hl4;generalize World.setCell (World.setCell (World.setCell (World.setCell w10 _ _) _ _) _ _) _ _=w3 at *;replace HKB:Hid (Bel w2 w3):=HKB;have HB3:Hid (Bel w w3):=Je HB2.out HKB.out;have HR3:=Zh (HR2.out.up HKB.out);have HF3:=Zh (HF2.out.up HKB.out);have HX3:=Zh (HX2.out.up HKB.out);have HY3:=Zh (HY2.out.up HKB.out);clear HR2 HF2 HX2 HY2;clear HKB HB2;generalize p6=nab at *;generalize p7=nbb at *;go_upto_region 3 with fail;refine Km 8 [6,7] (fun i=>RK.rel (match i with | 0=>.tree (opE 7 [X]) | 1=>.row [(opE 7 [X])] | 2=>.tree (opE 7 [(opE 7 [X])]) | 3=>.tree (opE 7 [Y]) | 4=>.row [(opE 7 [Y])] | 5=>.tree (opE 7 [(opE 7 [Y])]) | 6=>.fresh #[.int .i64 0,.int .i64 0,.string ⟨#[]⟩,.slice none 0 0] 50 | 7=>.fresh #[.int .i64 0,.int .i64 0,.string ⟨#[]⟩,.slice none 0 0] 50 | _=>.const undef)) (fun W=>Bel w3 W) (Below.refl _ _).drew (by decide) (fun _ _ h hb=>Je h hb) (fun i v P P1 w w1=>RK.keep _ v P P1 w w1) (allOb (n:=8) ?_) ?_
 ·refine ⟨⟨⟨⟨⟨⟨⟨⟨trivial,?_⟩,?_⟩,?_⟩,?_⟩,?_⟩,?_⟩,?_⟩,?_⟩
  ·refine OpOb.of 0 rfl fun a0 w0 Pr hb hP hn hd ho K hK=>?_
   have o10:a0.tmps[10]?.getD undef=.pointer (some ⟨nab,0,none⟩):=ho 10 (by kernel_rfl);obtain ⟨adE,ccE,hTE⟩:=HNA3.out;exact vx9
  ·refine OpOb.of 1 rfl fun a0 w0 Pr hb hP hn hd ho K hK=>?_
   obtain ⟨v0,⟨c0,rfl,hx0⟩,e0⟩:=hd 0 25 (by kernel_rfl) rfl;exact vx18
  ·refine OpOb.of 2 rfl fun a0 w0 Pr hb hP hn hd ho K hK=>?_
   obtain ⟨v0,⟨b1,cs,rfl,hb1,hb2,hr⟩,e0⟩:=hd 1 26 (by kernel_rfl) rfl;exact vx12
  ·refine OpOb.of 3 rfl fun a0 w0 Pr hb hP hn hd ho K hK=>?_
   have o11:a0.tmps[11]?.getD undef=.pointer (some ⟨nbb,0,none⟩):=ho 11 (by kernel_rfl);obtain ⟨adE,ccE,hTE⟩:=HNB3.out;exact vx9
  ·refine OpOb.of 4 rfl fun a0 w0 Pr hb hP hn hd ho K hK=>?_
   obtain ⟨v0,⟨c0,rfl,hx0⟩,e0⟩:=hd 3 28 (by kernel_rfl) rfl;exact vx18
  ·refine OpOb.of 5 rfl fun a0 w0 Pr hb hP hn hd ho K hK=>?_
   obtain ⟨v0,⟨b1,cs,rfl,hb1,hb2,hr⟩,e0⟩:=hd 4 29 (by kernel_rfl) rfl;exact vx12
  ·refine OpOb.of 6 rfl fun a0 w0 Pr hb hP hn hd ho K hK=>?_
   exact vx34
  ·refine OpOb.of 7 rfl fun a0 w0 Pr hb hP hn hd ho K hK=>?_
   exact vx34
 intro n9 vs w9 hn9 hb9 hp9 hd9 hr9;obtain ⟨c2,e2,hx2⟩:=hr9 2 (by decide);obtain ⟨c5,e5,hx5⟩:=hr9 5 (by decide);obtain ⟨p6,e6,hz6⟩:=hr9 6 (by decide);obtain ⟨p7,e7,hz7⟩:=hr9 7 (by decide);have hne:p6≠p7:=fun h=>hd9 6 (by decide) 7 (by decide) (by decide) (by rw[e6,e7,h])
 obtain ⟨q6,e61,hl6,_⟩:=hp9 6 (by decide);obtain rfl:p6=q6:=by rw[e6] at e61; injection e61 with h; injection h with h; injection h
 obtain ⟨q7,e71,hl7,_⟩:=hp9 7 (by decide);obtain rfl:p7=q7:=by rw[e7] at e71; injection e71 with h; injection h with h; injection h
 obtain ⟨ad,cc,rfl,_⟩:=hx2.form;obtain ⟨ae,ce,rfl,_⟩:=hx5.form;rw[show pairsOf _ 8 vs=[(25,vs 0),(26,vs 1),(27,vs 2),(28,vs 3),(29,vs 4),(30,vs 5),(12,vs 6),(13,vs 7)] from rfl];simp only[fillT,e2,e5,e6,e7,List.setIfInBounds_toArray,List.set_cons_zero,List.set_cons_succ];have hpq:∀ q,(q<w9.heap.size∧∀ j∈[6,7],blkOf (vs j)≠some q)→q<w9.heap.size∧q≠p6∧q≠p7:=fun q hq=>⟨hq.1,fun e=>hq.2 6 (by decide) (by rw[e6,e]; rfl),fun e=>hq.2 7 (by decide) (by rw[e7,e]; rfl)⟩
 obtain ⟨k1,k2,k3⟩:=Jfu hz6 hz7 hne (XAt.keep (fun _ _=>rfl) hpq _ _ hx2) (XAt.keep (fun _ _=>rfl) hpq _ _ hx5);have kb:=V9 (.int .i64 ((opE 7 [(opE 7 [Y])])).kind) (.int .i64 ((opE 7 [(opE 7 [Y])])).num) (.string (bs ((opE 7 [(opE 7 [Y])])).name)) (.slice ae ((opE 7 [(opE 7 [Y])])).kids.length ce) (V9 (.int .i64 ((opE 7 [(opE 7 [X])])).kind) (.int .i64 ((opE 7 [(opE 7 [X])])).num) (.string (bs ((opE 7 [(opE 7 [X])])).name)) (.slice ad ((opE 7 [(opE 7 [X])])).kids.length cc) hb9 hl6) hl7;have HMA4:=Zh k1;have HMB4:=Zh k2;have HK7:=Zh k3;have HKB:=Zh kb;have c4:=Kg hz6;have f4:=KJ hz6;have hl4:=Jb hz6;clear k1 k2 k3 kb hpq hne e61 e71 hl6 hl7 hx2 hx5 hz6 hz7 hd9 hr9 hp9 hb9 e2 e5 e6 e7;generalize vs 0=y0;generalize vs 1=y1;generalize vs 3=y3;generalize vs 4=y4;obtain ⟨n9,rfl⟩:∃ m,n9=m+1+1:=⟨n9-2,by have:(10:Nat)-8≤n9:=hn9; omega⟩
 clear hn9;refine VE (S:=fun _=>True) (z:=9) _ _ _ _ (LO 8 rfl fun K hK=>?_);go_simp;refine hK.out _ _ trivial (fun _=>?_);clear hK K c4 f4 hl4;simp only[put4] at HMA4 HMB4 HK7 HKB;generalize World.setCell (World.setCell (World.setCell (World.setCell w9 _ _) _ _) _ _) _ _=w10 at *;have c4:=Kg HK7.out;have f4:=KJ HK7.out;have hl4:=Jb HK7.out;clear HK7;refine LZ 9 rfl fun K hK=>?_
 go_simp;refine hK.out _ _ ?_;clear hK K c4 f4 hl4;generalize World.setCell (World.setCell (World.setCell (World.setCell w10 _ _) _ _) _ _) _ _=w4 at *;replace HKB:Hid (Bel w3 w4):=HKB;have HB4:Hid (Bel w w4):=Je HB3.out HKB.out;have HR4:=Zh (HR3.out.up HKB.out);have HF4:=Zh (HF3.out.up HKB.out);have HX4:=Zh (HX3.out.up HKB.out);have HY4:=Zh (HY3.out.up HKB.out);have HNA4:=Zh (HNA3.out.up HKB.out);have HNB4:=Zh (HNB3.out.up HKB.out);clear HR3 HF3 HX3 HY3 HNA3 HNB3;clear HKB HB3;generalize p6=mab at *;generalize p7=mbb at *;go_upto_region 4 with fail;refine Km 32 [] (fun i=>RK.rel (match i with | 0=>.tree X | 1=>.tree Y | 2=>.row [X,Y] | 3=>.tree (opE 16 [X,Y]) | 4=>.row [(opE 16 [X,Y])] | 5=>.tree (opE 7 [(opE 16 [X,Y])]) | 6=>.tree (opE 7 [X]) | 7=>.tree (opE 7 [Y]) | 8=>.row [(opE 7 [X]),(opE 7 [Y])] | 9=>.tree (opE 17 [(opE 7 [X]),(opE 7 [Y])]) | 10=>.tree X | 11=>.tree Y | 12=>.row [X,Y] | 13=>.tree (opE 17 [X,Y]) | 14=>.row [(opE 17 [X,Y])] | 15=>.tree (opE 7 [(opE 17 [X,Y])]) | 16=>.tree (opE 7 [X]) | 17=>.tree (opE 7 [Y]) | 18=>.row [(opE 7 [X]),(opE 7 [Y])] | 19=>.tree (opE 16 [(opE 7 [X]),(opE 7 [Y])]) | 20=>.tree X | 21=>.tree Y | 22=>.tree (opE 7 [(opE 7 [Y])]) | 23=>.row [X,Y,(opE 7 [(opE 7 [Y])])] | 24=>.tree (opE 18 [X,Y,(opE 7 [(opE 7 [Y])])]) | 25=>.tree (opE 7 [(opE 7 [X])]) | 26=>.tree Y | 27=>.tree Y | 28=>.row [(opE 7 [(opE 7 [X])]),Y,Y] | 29=>.tree (opE 18 [(opE 7 [(opE 7 [X])]),Y,Y]) | 30=>.row [(opE 7 [(opE 16 [X,Y])]),(opE 17 [(opE 7 [X]),(opE 7 [Y])]),(opE 7 [(opE 17 [X,Y])]),(opE 16 [(opE 7 [X]),(opE 7 [Y])]),(opE 18 [X,Y,(opE 7 [(opE 7 [Y])])]),(opE 18 [(opE 7 [(opE 7 [X])]),Y,Y])] | 31=>.row [(opE 7 [(opE 16 [X,Y])]),(opE 17 [(opE 7 [X]),(opE 7 [Y])]),(opE 7 [(opE 17 [X,Y])]),(opE 16 [(opE 7 [X]),(opE 7 [Y])]),(opE 18 [X,Y,(opE 7 [(opE 7 [Y])])]),(opE 18 [(opE 7 [(opE 7 [X])]),Y,Y])] | _=>.const undef)) (fun W=>Bel w4 W) (Below.refl _ _).drew (by decide) (fun _ _ h hb=>Je h hb) (fun i v P P1 w w1=>RK.keep _ v P P1 w w1) (allOb (n:=32) ?_) ?_
 ·refine ⟨⟨⟨⟨⟨⟨⟨⟨⟨⟨⟨⟨⟨⟨⟨⟨⟨⟨⟨⟨⟨⟨⟨⟨⟨⟨⟨⟨⟨⟨⟨⟨trivial,?_⟩,?_⟩,?_⟩,?_⟩,?_⟩,?_⟩,?_⟩,?_⟩,?_⟩,?_⟩,?_⟩,?_⟩,?_⟩,?_⟩,?_⟩,?_⟩,?_⟩,?_⟩,?_⟩,?_⟩,?_⟩,?_⟩,?_⟩,?_⟩,?_⟩,?_⟩,?_⟩,?_⟩,?_⟩,?_⟩,?_⟩,?_⟩
  ·refine OpOb.of 0 rfl fun a0 w0 Pr hb hP hn hd ho K hK=>?_
   exact vx74
  ·refine OpOb.of 1 rfl fun a0 w0 Pr hb hP hn hd ho K hK=>?_
   exact vx46
  ·refine OpOb.of 2 rfl fun a0 w0 Pr hb hP hn hd ho K hK=>?_
   obtain ⟨v0,⟨c0,rfl,hx0⟩,e0⟩:=hd 0 31 (by kernel_rfl) rfl;obtain ⟨v1,⟨c1,rfl,hx1⟩,e1⟩:=hd 1 32 (by kernel_rfl) rfl;exact vx25
  ·refine OpOb.of 3 rfl fun a0 w0 Pr hb hP hn hd ho K hK=>?_
   obtain ⟨v0,⟨b1,cs,rfl,hb1,hb2,hr⟩,e0⟩:=hd 2 33 (by kernel_rfl) rfl;exact vx12
  ·refine OpOb.of 4 rfl fun a0 w0 Pr hb hP hn hd ho K hK=>?_
   obtain ⟨v0,⟨c0,rfl,hx0⟩,e0⟩:=hd 3 34 (by kernel_rfl) rfl;exact vx18
  ·refine OpOb.of 5 rfl fun a0 w0 Pr hb hP hn hd ho K hK=>?_
   obtain ⟨v0,⟨b1,cs,rfl,hb1,hb2,hr⟩,e0⟩:=hd 4 35 (by kernel_rfl) rfl;exact vx12
  ·refine OpOb.of 6 rfl fun a0 w0 Pr hb hP hn hd ho K hK=>?_
   exact vx125
  ·refine OpOb.of 7 rfl fun a0 w0 Pr hb hP hn hd ho K hK=>?_
   exact vx126
  ·refine OpOb.of 8 rfl fun a0 w0 Pr hb hP hn hd ho K hK=>?_
   obtain ⟨v0,⟨c0,rfl,hx0⟩,e0⟩:=hd 6 37 (by kernel_rfl) rfl;obtain ⟨v1,⟨c1,rfl,hx1⟩,e1⟩:=hd 7 38 (by kernel_rfl) rfl;exact vx25
  ·refine OpOb.of 9 rfl fun a0 w0 Pr hb hP hn hd ho K hK=>?_
   obtain ⟨v0,⟨b1,cs,rfl,hb1,hb2,hr⟩,e0⟩:=hd 8 39 (by kernel_rfl) rfl;exact vx12
  ·refine OpOb.of 10 rfl fun a0 w0 Pr hb hP hn hd ho K hK=>?_
   exact vx74
  ·refine OpOb.of 11 rfl fun a0 w0 Pr hb hP hn hd ho K hK=>?_
   exact vx46
  ·refine OpOb.of 12 rfl fun a0 w0 Pr hb hP hn hd ho K hK=>?_
   obtain ⟨v0,⟨c0,rfl,hx0⟩,e0⟩:=hd 10 41 (by kernel_rfl) rfl;obtain ⟨v1,⟨c1,rfl,hx1⟩,e1⟩:=hd 11 42 (by kernel_rfl) rfl;exact vx25
  ·refine OpOb.of 13 rfl fun a0 w0 Pr hb hP hn hd ho K hK=>?_
   obtain ⟨v0,⟨b1,cs,rfl,hb1,hb2,hr⟩,e0⟩:=hd 12 43 (by kernel_rfl) rfl;exact vx12
  ·refine OpOb.of 14 rfl fun a0 w0 Pr hb hP hn hd ho K hK=>?_
   obtain ⟨v0,⟨c0,rfl,hx0⟩,e0⟩:=hd 13 44 (by kernel_rfl) rfl;exact vx18
  ·refine OpOb.of 15 rfl fun a0 w0 Pr hb hP hn hd ho K hK=>?_
   obtain ⟨v0,⟨b1,cs,rfl,hb1,hb2,hr⟩,e0⟩:=hd 14 45 (by kernel_rfl) rfl;exact vx12
  ·refine OpOb.of 16 rfl fun a0 w0 Pr hb hP hn hd ho K hK=>?_
   exact vx125
  ·refine OpOb.of 17 rfl fun a0 w0 Pr hb hP hn hd ho K hK=>?_
   exact vx126
  ·refine OpOb.of 18 rfl fun a0 w0 Pr hb hP hn hd ho K hK=>?_
   obtain ⟨v0,⟨c0,rfl,hx0⟩,e0⟩:=hd 16 47 (by kernel_rfl) rfl;obtain ⟨v1,⟨c1,rfl,hx1⟩,e1⟩:=hd 17 48 (by kernel_rfl) rfl;exact vx25
  ·refine OpOb.of 19 rfl fun a0 w0 Pr hb hP hn hd ho K hK=>?_
   obtain ⟨v0,⟨b1,cs,rfl,hb1,hb2,hr⟩,e0⟩:=hd 18 49 (by kernel_rfl) rfl;exact vx12
  ·refine OpOb.of 20 rfl fun a0 w0 Pr hb hP hn hd ho K hK=>?_
   exact vx74
  ·refine OpOb.of 21 rfl fun a0 w0 Pr hb hP hn hd ho K hK=>?_
   exact vx46
  ·refine OpOb.of 22 rfl fun a0 w0 Pr hb hP hn hd ho K hK=>?_
   have o13:a0.tmps[13]?.getD undef=.pointer (some ⟨mbb,0,none⟩):=ho 13 (by kernel_rfl);obtain ⟨adE,ccE,hTE⟩:=HMB4.out;exact vx9
  ·refine OpOb.of 23 rfl fun a0 w0 Pr hb hP hn hd ho K hK=>?_
   obtain ⟨v0,⟨c0,rfl,hx0⟩,e0⟩:=hd 20 51 (by kernel_rfl) rfl;obtain ⟨v1,⟨c1,rfl,hx1⟩,e1⟩:=hd 21 52 (by kernel_rfl) rfl;obtain ⟨v2,⟨c2,rfl,hx2⟩,e2⟩:=hd 22 53 (by kernel_rfl) rfl;exact vx45
  ·refine OpOb.of 24 rfl fun a0 w0 Pr hb hP hn hd ho K hK=>?_
   obtain ⟨v0,⟨b1,cs,rfl,hb1,hb2,hr⟩,e0⟩:=hd 23 54 (by kernel_rfl) rfl;exact vx12
  ·refine OpOb.of 25 rfl fun a0 w0 Pr hb hP hn hd ho K hK=>?_
   have o12:a0.tmps[12]?.getD undef=.pointer (some ⟨mab,0,none⟩):=ho 12 (by kernel_rfl);obtain ⟨adE,ccE,hTE⟩:=HMA4.out;exact vx9
  ·refine OpOb.of 26 rfl fun a0 w0 Pr hb hP hn hd ho K hK=>?_
   exact vx46
  ·refine OpOb.of 27 rfl fun a0 w0 Pr hb hP hn hd ho K hK=>?_
   exact vx46
  ·refine OpOb.of 28 rfl fun a0 w0 Pr hb hP hn hd ho K hK=>?_
   obtain ⟨v0,⟨c0,rfl,hx0⟩,e0⟩:=hd 25 56 (by kernel_rfl) rfl;obtain ⟨v1,⟨c1,rfl,hx1⟩,e1⟩:=hd 26 57 (by kernel_rfl) rfl;obtain ⟨v2,⟨c2,rfl,hx2⟩,e2⟩:=hd 27 58 (by kernel_rfl) rfl;exact vx45
  ·refine OpOb.of 29 rfl fun a0 w0 Pr hb hP hn hd ho K hK=>?_
   obtain ⟨v0,⟨b1,cs,rfl,hb1,hb2,hr⟩,e0⟩:=hd 28 59 (by kernel_rfl) rfl;exact vx12
  ·refine OpOb.of 30 rfl fun a0 w0 Pr hb hP hn hd ho K hK=>?_
   obtain ⟨v0,⟨c0,rfl,hx0⟩,e0⟩:=hd 5 36 (by kernel_rfl) rfl;obtain ⟨v1,⟨c1,rfl,hx1⟩,e1⟩:=hd 9 40 (by kernel_rfl) rfl;obtain ⟨v2,⟨c2,rfl,hx2⟩,e2⟩:=hd 15 46 (by kernel_rfl) rfl;obtain ⟨v3,⟨c3,rfl,hx3⟩,e3⟩:=hd 19 50 (by kernel_rfl) rfl;obtain ⟨v4,⟨c4,rfl,hx4⟩,e4⟩:=hd 24 55 (by kernel_rfl) rfl;obtain ⟨v5,⟨c5,rfl,hx5⟩,e5⟩:=hd 29 60 (by kernel_rfl) rfl;obtain ⟨ad0,cc0,rfl,_⟩:=hx0.form;obtain ⟨ad1,cc1,rfl,_⟩:=hx1.form;obtain ⟨ad2,cc2,rfl,_⟩:=hx2.form;obtain ⟨ad3,cc3,rfl,_⟩:=hx3.form;obtain ⟨ad4,cc4,rfl,_⟩:=hx4.form;obtain ⟨ad5,cc5,rfl,_⟩:=hx5.form;go_simp;exact hK.out _ _ ((Below.refl _ _).alloc (Nat.le_refl _) _) (fun Pr1 h1 h2=>⟨_,_,rfl,h2 (by decide) _ (Nat.le_refl _) (by simp),heap_alloc_new _ _,(Ky (XAt.keep (fun b h=>heap_alloc_old _ _ (hP b h)) h1 _ _ hx0) (Ky (XAt.keep (fun b h=>heap_alloc_old _ _ (hP b h)) h1 _ _ hx1) (Ky (XAt.keep (fun b h=>heap_alloc_old _ _ (hP b h)) h1 _ _ hx2) (Ky (XAt.keep (fun b h=>heap_alloc_old _ _ (hP b h)) h1 _ _ hx3) (Ky (XAt.keep (fun b h=>heap_alloc_old _ _ (hP b h)) h1 _ _ hx4) (ZN (XAt.keep (fun b h=>heap_alloc_old _ _ (hP b h)) h1 _ _ hx5)))))))⟩) (fun h=>absurd h (by decide))
  ·refine OpOb.of 31 rfl fun a0 w0 Pr hb hP hn hd ho K hK=>?_
   obtain ⟨v0,⟨b1,cs,rfl,hb1,hb2,hr⟩,e0⟩:=hd 30 61 (by kernel_rfl) rfl;go_simp;exact hK.out _ _ (Below.refl _ _) (fun Pr1 h1 _=>⟨b1,cs,rfl,h1 _ hb1,hb2,RowX.keep (fun _ _=>rfl) h1 _ _ hr⟩) (fun h=>absurd h (by decide))
 intro n9 vs w9 hn9 hb9 hp9 hd9 hr9;obtain ⟨pb,cs,e9,hb,hz9,hrow⟩:=hr9 31 (by decide);change vs 31=.slice (some ⟨pb,0,none⟩) 6 6 at e9;have HP9:Hid (KidsX w9 (some ⟨pb,0,none⟩) (pairsL X Y)):=JgS (RowX.keep (fun _ _=>rfl) (fun q hq=>(show q<_ from hq.1)) _ _ hrow) hz9;have hb9:Bel w4 w9:=hb9;have HPS:=Zh (JbO r F HNM.out.2.1 HNM.out.2.2);have HRN:=Zh HNM.out.1;have HB9:Hid (Bel w w9):=Je HB4.out hb9;have HR9:=Zh (HR4.out.up hb9);have HF9:=Zh (HF4.out.up hb9);clear HR4 HF4;clear hn9 hp9 hd9 hr9 hb9 hb hz9 hrow HB4 HX4 HY4 HNA4 HNB4 HMA4 HMB4 HNM HL;rw[show pairsOf _ 32 vs=[(31,vs 0),(32,vs 1),(33,vs 2),(34,vs 3),(35,vs 4),(36,vs 5),(37,vs 6),(38,vs 7),(39,vs 8),(40,vs 9),(41,vs 10),(42,vs 11),(43,vs 12),(44,vs 13),(45,vs 14),(46,vs 15),(47,vs 16),(48,vs 17),(49,vs 18),(50,vs 19),(51,vs 20),(52,vs 21),(53,vs 22),(54,vs 23),(55,vs 24),(56,vs 25),(57,vs 26),(58,vs 27),(59,vs 28),(60,vs 29),(61,vs 30),(14,vs 31)] from rfl];simp only[fillT,e9,List.setIfInBounds_toArray,List.set_cons_zero,List.set_cons_succ];clear e9;generalize vs 0=y0;generalize vs 1=y1;generalize vs 2=y2;generalize vs 3=y3;generalize vs 4=y4;generalize vs 5=y5;generalize vs 6=y6;generalize vs 7=y7;generalize vs 8=y8;generalize vs 9=y9;generalize vs 10=y10;generalize vs 11=y11;generalize vs 12=y12;generalize vs 13=y13;generalize vs 14=y14;generalize vs 15=y15;generalize vs 16=y16;generalize vs 17=y17;generalize vs 18=y18;generalize vs 19=y19;generalize vs 20=y20;generalize vs 21=y21;generalize vs 22=y22;generalize vs 23=y23;generalize vs 24=y24;generalize vs 25=y25;generalize vs 26=y26;generalize vs 27=y27;generalize vs 28=y28;generalize vs 29=y29;generalize vs 30=y30;clear vs;generalize pairsL X Y=ps at *;refine last0 ?_;have HW0:Hid (Bel w9 w9):=Below.refl _ _;go_wp2_with fail;go_loopg [15] 3 (fun g v15 wr=>∃ i j:Nat,g+i=3∧j=2*i∧v15=.int .i64 (j:Int)∧Hid (Bel w9 wr))
 case atStart=>exact ⟨0,0,rfl,rfl,rfl,HW0⟩
 case round=>
 clear HW0;obtain ⟨wl,rfl⟩:∃ wl:World,wl=wr:=⟨_,rfl⟩
 obtain ⟨i,j,hg,hj,rfl,hbw⟩:=hrel;have HBL:Hid (Bel w9 wl):=hbw.out
 by_cases hi:i<3
 rotate_left
 ·have dil:decide ((j:Int)<6)=false:=decide_eq_false (by omega);clear hi hj hg hbw;go_wp2;go_ret;exact ⟨rfl,Je HB9.out HBL.out⟩
 have dil:decide ((j:Int)<6)=true:=decide_eq_true (by omega);have k0:0≤(j:Int):=by omega
 have k1:(j:Int)<6:=by omega
 obtain ⟨k,hk⟩:∃ k,k=j+1:=⟨_,rfl⟩
 have wk:IntKind.i64.wrap ((j:Int)+1)=(k:Int):=by rw[IntWalk.i64_in _ (by omega)]; omega
 obtain ⟨m,hm⟩:∃ m,m=j+2:=⟨_,rfl⟩
 have wm:IntKind.i64.wrap ((j:Int)+2)=(m:Int):=by rw[IntWalk.i64_in _ (by omega)]; omega
 have k2:0≤(k:Int):=by omega
 have k3:(k:Int)<6:=by omega
 obtain ⟨U,V,hU,hV,nU,nV,hEQ⟩:=HPS.out i j hj hi;have HU0:=Zh (TreeO.up (HP9.out.tree hU) hbw.out);have HV0:=Zh (TreeO.up (HP9.out.tree hV) hbw.out);rw[← hk] at HV0;have HRL:=Zh (HR9.out.up hbw.out);have HFL:=Zh (HF9.out.up hbw.out);have HEQ:=Zh hEQ;have HNU:=Zh (HRN.out.when nU);have HNV:=Zh (HRN.out.when nV);have HG:Hid (gk+i=3∧j=2*i∧i<3∧m=j+2):=⟨hg,hj,hi,hm⟩
 clear hEQ nU nV hU hV hi hj hg hbw hk hm HR9 HF9 HP9 HPS HRN HB9;go_upto_region 8 with fail;refine Km 7 [6] (fun i=>RK.rel (match i with | 0=>.rule r | 1=>.const (.slice (some ⟨pb,0,none⟩) 6 6) | 2=>.const (.int .i64 (j:Int)) | 3=>.const (.pointer (some ⟨pb,j*4,none⟩)) | 4=>.tree U | 5=>.rule (whenM r U) | 6=>.fresh #[.slice none 0 0,.slice none 0 0,.int .i64 0] 30 | _=>.const undef)) (fun W=>Bel wl W) (Below.refl _ _).drew (by decide) (fun _ _ h hb=>Je h hb) (fun i v P P1 w w1=>RK.keep _ v P P1 w w1) (allOb (n:=7) ?_) ?_
 ·refine ⟨⟨⟨⟨⟨⟨⟨trivial,?_⟩,?_⟩,?_⟩,?_⟩,?_⟩,?_⟩,?_⟩
  ·refine OpOb.of 0 rfl fun a0 w0 Pr hb hP hn hd ho K hK=>?_
   exact vx61
  ·refine OpOb.of 1 rfl fun a0 w0 Pr hb hP hn hd ho K hK=>?_
   exact vx143
  ·refine OpOb.of 2 rfl fun a0 w0 Pr hb hP hn hd ho K hK=>?_
   have o15:a0.tmps[15]?.getD undef=.int .i64 (j:Int):=ho 15 (by kernel_rfl);exact vx38
  ·refine OpOb.of 3 rfl fun a0 w0 Pr hb hP hn hd ho K hK=>?_
   obtain ⟨v1,rfl,e1⟩:=hd 1 69 (by kernel_rfl) rfl;obtain ⟨v2,rfl,e2⟩:=hd 2 70 (by kernel_rfl) rfl;exact vx38
  ·refine OpOb.of 4 rfl fun a0 w0 Pr hb hP hn hd ho K hK=>?_
   obtain ⟨v3,rfl,e3⟩:=hd 3 71 (by kernel_rfl) rfl;obtain ⟨adE,ccE,hTE⟩:=HU0.out;exact vx9
  ·refine OpOb.of 5 rfl fun a0 w0 Pr hb hP hn hd ho K hK=>?_
   obtain ⟨v0,⟨cr0,rfl,hrx⟩,e0⟩:=hd 0 68 (by kernel_rfl) rfl;obtain ⟨v4,⟨cx,rfl,hx⟩,e4⟩:=hd 4 72 (by kernel_rfl) rfl;exact vx51
  ·refine OpOb.of 6 rfl fun a0 w0 Pr hb hP hn hd ho K hK=>?_
   exact vx34
 intro n9 vs v9 hn9 hb9 hp9 hd9 hr9;obtain ⟨cq,ea,hxa⟩:=hr9 5 (by decide);obtain ⟨pq,eb,hzb⟩:=hr9 6 (by decide);obtain ⟨qq,eb1,hlq,_⟩:=hp9 6 (by decide);obtain rfl:pq=qq:=by rw[eb] at eb1; injection eb1 with h; injection h with h; injection h
 obtain ⟨fa1,fc1,ga1,gc1,rfl⟩:=hxa.form;rw[show pairsOf _ 7 vs=[(68,vs 0),(69,vs 1),(70,vs 2),(71,vs 3),(72,vs 4),(73,vs 5),(16,vs 6)] from rfl];simp only[fillT,ea,eb,List.setIfInBounds_toArray,List.set_cons_zero,List.set_cons_succ];have kr:=RuleV.put hzb (RuleX.keep (fun _ _=>rfl) (fun q hq=>(⟨hq.1,fun e=>hq.2 6 (by decide) (by rw[eb,e]; rfl)⟩:q<v9.heap.size∧q≠pq)) hxa);have kb:=JcA (.slice fa1 (whenM r U).funcs.length fc1) (.slice ga1 (whenM r U).clauses.length gc1) (.int .i64 (whenM r U).action) hb9 hlq;have HUR:=Zh kr;have HKB:=Zh kb;have c4:=KL hzb;have f4:=VS hzb;have hl4:=Jb hzb;clear kr kb eb1 hlq hxa hzb hd9 hr9 hp9 hb9 ea eb;generalize vs 0=z0;generalize vs 1=z1;generalize vs 2=z2;generalize vs 3=z3;generalize vs 4=z4;obtain ⟨n9,rfl⟩:∃ m,n9=m+1:=⟨n9-1,by have:(8:Nat)-7≤n9:=hn9; omega⟩
 clear hn9;refine VE (S:=fun _=>True) (z:=7) _ _ _ _ (LZ 7 rfl fun K hK=>?_);go_simp;refine hK.out _ _ ?_;clear hK K c4 f4 hl4;simp only[put3] at HUR HKB;generalize World.setCell (World.setCell (World.setCell v9 _ _) _ _) _ _=wm1 at *;replace HKB:Hid (Bel wl wm1):=HKB;replace HBL:Hid (Bel w9 wm1):=Je HBL.out HKB.out;replace HRL:=Zh (HRL.out.up HKB.out);replace HFL:=Zh (HFL.out.up HKB.out);replace HV0:=Zh (HV0.out.up HKB.out);clear HKB vs;generalize pq=ub at *;clear HU0;go_upto_region 9 with fail;refine Km 8 [7] (fun i=>RK.rel (match i with | 0=>.rule r | 1=>.const (.slice (some ⟨pb,0,none⟩) 6 6) | 2=>.const (.int .i64 (j:Int)) | 3=>.const (.int .i64 (k:Int)) | 4=>.const (.pointer (some ⟨pb,k*4,none⟩)) | 5=>.tree V | 6=>.rule (whenM r V) | 7=>.fresh #[.slice none 0 0,.slice none 0 0,.int .i64 0] 30 | _=>.const undef)) (fun W=>Bel wm1 W) (Below.refl _ _).drew (by decide) (fun _ _ h hb=>Je h hb) (fun i v P P1 w w1=>RK.keep _ v P P1 w w1) (allOb (n:=8) ?_) ?_
 ·refine ⟨⟨⟨⟨⟨⟨⟨⟨trivial,?_⟩,?_⟩,?_⟩,?_⟩,?_⟩,?_⟩,?_⟩,?_⟩
  ·refine OpOb.of 0 rfl fun a0 w0 Pr hb hP hn hd ho K hK=>?_
   exact vx61
  ·refine OpOb.of 1 rfl fun a0 w0 Pr hb hP hn hd ho K hK=>?_
   exact vx143
  ·refine OpOb.of 2 rfl fun a0 w0 Pr hb hP hn hd ho K hK=>?_
   have o15:a0.tmps[15]?.getD undef=.int .i64 (j:Int):=ho 15 (by kernel_rfl);exact vx38
  ·refine OpOb.of 3 rfl fun a0 w0 Pr hb hP hn hd ho K hK=>?_
   obtain ⟨v2,rfl,e2⟩:=hd 2 76 (by kernel_rfl) rfl;exact vx38
  ·refine OpOb.of 4 rfl fun a0 w0 Pr hb hP hn hd ho K hK=>?_
   obtain ⟨v1,rfl,e1⟩:=hd 1 75 (by kernel_rfl) rfl;obtain ⟨v3,rfl,e3⟩:=hd 3 77 (by kernel_rfl) rfl;exact vx38
  ·refine OpOb.of 5 rfl fun a0 w0 Pr hb hP hn hd ho K hK=>?_
   obtain ⟨v4,rfl,e4⟩:=hd 4 78 (by kernel_rfl) rfl;obtain ⟨adE,ccE,hTE⟩:=HV0.out;exact vx9
  ·refine OpOb.of 6 rfl fun a0 w0 Pr hb hP hn hd ho K hK=>?_
   obtain ⟨v0,⟨cr0,rfl,hrx⟩,e0⟩:=hd 0 74 (by kernel_rfl) rfl;obtain ⟨v5,⟨cx,rfl,hx⟩,e5⟩:=hd 5 79 (by kernel_rfl) rfl;exact vx51
  ·refine OpOb.of 7 rfl fun a0 w0 Pr hb hP hn hd ho K hK=>?_
   exact vx34
 intro n9 vs v9 hn9 hb9 hp9 hd9 hr9;obtain ⟨cq,ea,hxa⟩:=hr9 6 (by decide);obtain ⟨pq,eb,hzb⟩:=hr9 7 (by decide);obtain ⟨qq,eb1,hlq,_⟩:=hp9 7 (by decide);obtain rfl:pq=qq:=by rw[eb] at eb1; injection eb1 with h; injection h with h; injection h
 obtain ⟨fa1,fc1,ga1,gc1,rfl⟩:=hxa.form;rw[show pairsOf _ 8 vs=[(74,vs 0),(75,vs 1),(76,vs 2),(77,vs 3),(78,vs 4),(79,vs 5),(80,vs 6),(17,vs 7)] from rfl];simp only[fillT,ea,eb,List.setIfInBounds_toArray,List.set_cons_zero,List.set_cons_succ];have kr:=RuleV.put hzb (RuleX.keep (fun _ _=>rfl) (fun q hq=>(⟨hq.1,fun e=>hq.2 7 (by decide) (by rw[eb,e]; rfl)⟩:q<v9.heap.size∧q≠pq)) hxa);have kb:=JcA (.slice fa1 (whenM r V).funcs.length fc1) (.slice ga1 (whenM r V).clauses.length gc1) (.int .i64 (whenM r V).action) hb9 hlq;have HVR:=Zh kr;have HKB:=Zh kb;have c4:=KL hzb;have f4:=VS hzb;have hl4:=Jb hzb;clear kr kb eb1 hlq hxa hzb hd9 hr9 hp9 hb9 ea eb;generalize vs 0=z0;generalize vs 1=z1;generalize vs 2=z2;generalize vs 3=z3;generalize vs 4=z4;generalize vs 5=z5;obtain ⟨n9,rfl⟩:∃ m,n9=m+1:=⟨n9-1,by have:(9:Nat)-8≤n9:=hn9; omega⟩
 clear hn9;refine VE (S:=fun _=>True) (z:=8) _ _ _ _ (LZ 8 rfl fun K hK=>?_);go_simp;refine hK.out _ _ ?_;clear hK K c4 f4 hl4;simp only[put3] at HVR HKB;generalize World.setCell (World.setCell (World.setCell v9 _ _) _ _) _ _=wm2 at *;replace HKB:Hid (Bel wm1 wm2):=HKB;replace HBL:Hid (Bel w9 wm2):=Je HBL.out HKB.out;replace HFL:=Zh (HFL.out.up HKB.out);replace HUR:=Zh (HUR.out.up HKB.out);clear HKB vs;generalize pq=vb at *;clear HV0 HRL wk k0 k1 k2 k3 dil;obtain ⟨ufa,ufc,uga,ugc,hUR⟩:=HUR.out;obtain ⟨vfa,vfc,vga,vgc,hVR⟩:=HVR.out;have HUR:=Zh hUR;have HVR:=Zh hVR;clear hUR hVR;have HW:Hid (Bel wm2 wm2):=Below.refl _ _;obtain ⟨⟨q0,q1,q2⟩,hrx⟩:=HUR.out _ HW.out;obtain ⟨⟨g0,g1,g2,g3,g4,g5,g6,g7,g8,g9,g10,g11⟩,hlab,hwd⟩:=HFL.out _ HW.out;have cl:=JaV (whenM r U) F _ la wa lc wc wm2 (RuleX.keep (fun _ _=>rfl) (fun q hq=>Nat.lt_of_lt_of_le hq HW.out.size) hrx) HNU.out.len;unfold factsC at cl;obtain ⟨b,hl1⟩:∃ b,lightM (whenM r U) F=b:=⟨_,rfl⟩
 rw[hl1] at cl;have HL1:=Zh hl1;clear hl1
 cases b
 ·go_wp2_with fail;refine cl.mono ?_;rintro e wa1 ⟨rfl,hb1⟩;replace HW:Hid (Bel wm2 wa1):=Je HW.out hb1;clear cl hb1 HL1 q0 q1 q2 hrx g0 g1 g2 g3 g4 g5 g6 g7 g8 g9 g10 g11 hlab hwd;exact vx40
 go_wp2_with fail;refine cl.mono ?_;rintro e wa1 ⟨rfl,hb1⟩;replace HW:Hid (Bel wm2 wa1):=Je HW.out hb1;clear cl hb1 q0 q1 q2 hrx g0 g1 g2 g3 g4 g5 g6 g7 g8 g9 g10 g11 hlab hwd;have HFS:=Zh (JgQ HL1.out);have HSU:=Zh (Jbb HL1.out HNU.out);obtain ⟨⟨q0,q1,q2⟩,hrx⟩:=HVR.out _ HW.out;obtain ⟨⟨g0,g1,g2,g3,g4,g5,g6,g7,g8,g9,g10,g11⟩,hlab,hwd⟩:=HFL.out _ HW.out;have cl:=JaV (whenM r V) F _ la wa lc wc wa1 (RuleX.keep (fun _ _=>rfl) (fun q hq=>Nat.lt_of_lt_of_le hq HW.out.size) hrx) HNV.out.len;unfold factsC at cl;obtain ⟨b,hl2⟩:∃ b,lightM (whenM r V) F=b:=⟨_,rfl⟩
 rw[hl2] at cl;have HL2:=Zh hl2;clear hl2
 cases b
 ·go_wp2_with fail;refine cl.mono ?_;rintro e wa2 ⟨rfl,hb2⟩;replace HW:Hid (Bel wm2 wa2):=Je HW.out hb2;clear cl hb2 HL2 q0 q1 q2 hrx g0 g1 g2 g3 g4 g5 g6 g7 g8 g9 g10 g11 hlab hwd;exact vx40
 go_wp2_with fail;refine cl.mono ?_;rintro e wa2 ⟨rfl,hb2⟩;replace HW:Hid (Bel wm2 wa2):=Je HW.out hb2;clear cl hb2 q0 q1 q2 hrx g0 g1 g2 g3 g4 g5 g6 g7 g8 g9 g10 g11 hlab hwd;have HSV:=Zh (Jbb HL2.out HNV.out);obtain ⟨⟨q0,q1,q2⟩,hrx⟩:=HUR.out _ HW.out;have cl:=YL (whenM r U) _ wa2 (RuleX.keep (fun _ _=>rfl) (fun q hq=>Nat.lt_of_lt_of_le hq HW.out.size) hrx) HSU.out;obtain ⟨b,hl3⟩:∃ b,rightM (whenM r U)=b:=⟨_,rfl⟩
 rw[hl3] at cl;have HL3:=Zh hl3;clear hl3
 cases b
 ·go_wp2_with fail;refine cl.mono ?_;rintro e wa3 ⟨rfl,hb3⟩;replace HW:Hid (Bel wm2 wa3):=Je HW.out hb3;clear cl hb3 HL3 q0 q1 q2 hrx;exact vx40
 go_wp2_with fail;refine cl.mono ?_;rintro e wa3 ⟨rfl,hb3⟩;replace HW:Hid (Bel wm2 wa3):=Je HW.out hb3;clear cl hb3 q0 q1 q2 hrx;obtain ⟨⟨q0,q1,q2⟩,hrx⟩:=HVR.out _ HW.out;have cl:=YL (whenM r V) _ wa3 (RuleX.keep (fun _ _=>rfl) (fun q hq=>Nat.lt_of_lt_of_le hq HW.out.size) hrx) HSV.out;obtain ⟨b,hl4⟩:∃ b,rightM (whenM r V)=b:=⟨_,rfl⟩
 rw[hl4] at cl;have HL4:=Zh hl4;clear hl4
 cases b
 ·go_wp2_with fail;refine cl.mono ?_;rintro e wa4 ⟨rfl,hb4⟩;replace HW:Hid (Bel wm2 wa4):=Je HW.out hb4;clear cl hb4 HL4 q0 q1 q2 hrx;exact vx40
 go_wp2_with fail;refine cl.mono ?_;rintro e wa4 ⟨rfl,hb4⟩;replace HW:Hid (Bel wm2 wa4):=Je HW.out hb4;clear cl hb4 q0 q1 q2 hrx;obtain ⟨Z,hZ⟩:∃ Z,runM (whenM r U) F=Z:=⟨_,rfl⟩
 have HZU:=Zh hZ;have HZV:=Zh ((HEQ.out HL3.out HL4.out).symm.trans hZ);clear hZ HL1 HL2 HL3 HL4 HEQ HNU HNV;go_upto_region 11 with fail;refine Km 7 [] (fun i=>RK.rel (match i with | 0=>.rule (whenM r U) | 1=>.const (.agg #[.slice la F.labels.length lc,.int .i64 F.likes,.int .i64 F.boosts,.int .i64 F.replies,.int .i64 F.reports,.int .i64 F.age,.int .i64 F.home,.int .i64 F.scope,.int .i64 F.length,.bool F.follows,.bool F.reply,.slice wa F.words.length wc]) | 2=>.const (.agg (outC Z)) | 3=>.rule (whenM r V) | 4=>.const (.agg #[.slice la F.labels.length lc,.int .i64 F.likes,.int .i64 F.boosts,.int .i64 F.replies,.int .i64 F.reports,.int .i64 F.age,.int .i64 F.home,.int .i64 F.scope,.int .i64 F.length,.bool F.follows,.bool F.reply,.slice wa F.words.length wc]) | 5=>.const (.agg (outC Z)) | 6=>.const (.bool false) | _=>.const undef)) (fun W=>Bel wm2 W) (Je HW.out (Below.refl _ _).drew) (by decide) (fun _ _ h hb=>Je h hb) (fun i v P P1 w w1=>RK.keep _ v P P1 w w1) (allOb (n:=7) ?_) ?_
 ·refine ⟨⟨⟨⟨⟨⟨⟨trivial,?_⟩,?_⟩,?_⟩,?_⟩,?_⟩,?_⟩,?_⟩
  ·refine OpOb.of 0 rfl fun a0 w0 Pr hb hP hn hd ho K hK=>?_
   have o16:a0.tmps[16]?.getD undef=.pointer (some ⟨ub,0,none⟩):=ho 16 (by kernel_rfl);obtain ⟨⟨q0,q1,q2⟩,hrx⟩:=HUR.out _ hb;exact vx87
  ·refine OpOb.of 1 rfl fun a0 w0 Pr hb hP hn hd ho K hK=>?_
   exact vx94
  ·refine OpOb.of 2 rfl fun a0 w0 Pr hb hP hn hd ho K hK=>?_
   obtain ⟨v0,⟨cx,rfl,hx⟩,e0⟩:=hd 0 101 (by kernel_rfl) rfl;obtain ⟨v1,rfl,e1⟩:=hd 1 102 (by kernel_rfl) rfl;obtain ⟨_,hlab,hwd⟩:=HFL.out _ hb;have cr:=VN (whenM r U) F cx _ _ _ (RuleX.keep (fun _ _=>rfl) hP hx) HSU.out HFS.out hlab hwd;rw[HZU.out] at cr;exact vx109
  ·refine OpOb.of 3 rfl fun a0 w0 Pr hb hP hn hd ho K hK=>?_
   have o17:a0.tmps[17]?.getD undef=.pointer (some ⟨vb,0,none⟩):=ho 17 (by kernel_rfl);obtain ⟨⟨q0,q1,q2⟩,hrx⟩:=HVR.out _ hb;exact vx87
  ·refine OpOb.of 4 rfl fun a0 w0 Pr hb hP hn hd ho K hK=>?_
   exact vx94
  ·refine OpOb.of 5 rfl fun a0 w0 Pr hb hP hn hd ho K hK=>?_
   obtain ⟨v3,⟨cx,rfl,hx⟩,e3⟩:=hd 3 104 (by kernel_rfl) rfl;obtain ⟨v4,rfl,e4⟩:=hd 4 105 (by kernel_rfl) rfl;obtain ⟨_,hlab,hwd⟩:=HFL.out _ hb;have cr:=VN (whenM r V) F cx _ _ _ (RuleX.keep (fun _ _=>rfl) hP hx) HSV.out HFS.out hlab hwd;rw[HZV.out] at cr;exact vx109
  ·refine OpOb.of 6 rfl fun a0 w0 Pr hb hP hn hd ho K hK=>?_
   obtain ⟨v2,rfl,e2⟩:=hd 2 103 (by kernel_rfl) rfl;obtain ⟨v5,rfl,e5⟩:=hd 5 106 (by kernel_rfl) rfl;have qn:∀ W,(binOp .neq 36 (.agg (outC Z)) (.agg (outC Z))).run prog W=.ok (.bool false) W:=Jit Z;exact vx38
 intro n9 vs v9 hn9 hb9 hp9 hd9 hr9;have e6:vs 6=_:=hr9 6 (by decide);have hb9:Bel wm2 v9:=hb9;replace HW:=Zh hb9;rw[show pairsOf _ 7 vs=[(101,vs 0),(102,vs 1),(103,vs 2),(104,vs 3),(105,vs 4),(106,vs 5),(107,vs 6)] from rfl];simp only[fillT,e6,List.setIfInBounds_toArray,List.set_cons_zero,List.set_cons_succ];clear hn9 hb9 hp9 hd9 hr9 e6 HUR HVR HFL HSU HSV HFS HZU HZV;generalize vs 0=x0;generalize vs 1=x1;generalize vs 2=x2;generalize vs 3=x3;generalize vs 4=x4;generalize vs 5=x5;clear vs;refine last0 ?_;exact vx40
end Go.Proofs.YtncanmdgdflnpaaGreatDoor
