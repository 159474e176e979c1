
import Derived.Test.YtncanmdgdflnpaaGreatDoorS05
namespace Go.Proofs.YtncanmdgdflnpaaGreatDoor
open Go.ChangeShapes Go.WideShapes Go.ChangeAt Go.RowKit Go.Lib
open _root_.Go.Proofs.Tryz
set_option linter.all false
set_option maxRecDepth 100000
set_option maxHeartbeats 32000000
theorem JcN (w:World):Calls prog 128 #[.int .i64 0] w (Same (.string (bs kInt)) w):=by
 go_enter func128,ntmps128;go_wp2;go_ret;exact ⟨rfl,rfl⟩
theorem JcO (w:World):Calls prog 128 #[.int .i64 1] w (Same (.string (bs kBool)) w):=by
 go_enter func128,ntmps128;go_wp2;go_ret;exact ⟨rfl,rfl⟩
theorem sx104 {P:Prop}(h:P:=by
  go_enter func106,ntmps106;go_wp2;go_ret
  exact ⟨rfl,rfl⟩):P:=h
theorem Jah (w:World):Calls prog 106 #[.int .i64 0] w (Same (.string (bs kShow)) w):=by
 have ix:∀ W:World,(Instr.index 186 (.agg #[.string ⟨#[115,104,111,119]⟩,.string ⟨#[109,101,100,105,97]⟩,.string ⟨#[108,105,109,105,116]⟩,.string ⟨#[104,105,100,101]⟩]) (.int .i64 0)).run prog W=.ok (.string ⟨#[115,104,111,119]⟩) W:=fun _=>by kernel_rfl
 exact sx104
theorem Jai (w:World):Calls prog 106 #[.int .i64 1] w (Same (.string (bs kMedia)) w):=by
 have ix:∀ W:World,(Instr.index 186 (.agg #[.string ⟨#[115,104,111,119]⟩,.string ⟨#[109,101,100,105,97]⟩,.string ⟨#[108,105,109,105,116]⟩,.string ⟨#[104,105,100,101]⟩]) (.int .i64 1)).run prog W=.ok (.string ⟨#[109,101,100,105,97]⟩) W:=fun _=>by kernel_rfl
 exact sx104
theorem Jaj (w:World):Calls prog 106 #[.int .i64 2] w (Same (.string (bs kLimit)) w):=by
 have ix:∀ W:World,(Instr.index 186 (.agg #[.string ⟨#[115,104,111,119]⟩,.string ⟨#[109,101,100,105,97]⟩,.string ⟨#[108,105,109,105,116]⟩,.string ⟨#[104,105,100,101]⟩]) (.int .i64 2)).run prog W=.ok (.string ⟨#[108,105,109,105,116]⟩) W:=fun _=>by kernel_rfl
 exact sx104
theorem Jak (w:World):Calls prog 106 #[.int .i64 3] w (Same (.string (bs kHide)) w):=by
 have ix:∀ W:World,(Instr.index 186 (.agg #[.string ⟨#[115,104,111,119]⟩,.string ⟨#[109,101,100,105,97]⟩,.string ⟨#[108,105,109,105,116]⟩,.string ⟨#[104,105,100,101]⟩]) (.int .i64 3)).run prog W=.ok (.string ⟨#[104,105,100,101]⟩) W:=fun _=>by kernel_rfl
 exact sx104
theorem sx61 {P:Prop}(h:P:=by
  rw[hs]
  exact ⟨rfl,⟨k+1,rfl,HF.out.2.1⟩,(Chg.of_below HCH.out [p]).trans HF.out.2.2⟩):P:=h
theorem sx154 {P:Prop}(h:P:=by
  clear g1 hb1 hp1 HZ;go_wp2;go_roundw
  case rel=>exact ⟨1,rfl,by omega,HZ2⟩
  case measure=>simp[intOf]):P:=h
theorem sx155 {P:Prop}(h:P:=by
  clear g1 hb1 hp1 HZ;go_wp2;go_roundw
  case rel=>exact ⟨2,rfl,by omega,HZ2⟩
  case measure=>simp[intOf]):P:=h
theorem V5 (p:Nat) (A:Option Addr) (C:Nat) (T:List Tok) (k:Nat) (w:World) (h:PAt w p A C T k):Calls prog 104 #[.pointer (some ⟨p,0,none⟩)] w (PRp p A C T w (fun n=>.int .i64 n) (typP (T.drop k))):=by
 have cn0:=fun W=>JcN W
 have ca0:=fun W hW=>Jr p A C T k 0 kInt W hW (by decide)
 have cn1:=fun W=>JcO W
 have ca1:=fun W hW=>Jr p A C T k 0 kBool W hW (by decide)
 have cw:=fun W hW=>Kq p A C T k W hW
 have HP:=Zh h;obtain ⟨R,hR⟩:∃ R,PRp p A C T w (fun n=>.int .i64 n) (typP (T.drop k))=R:=⟨_,rfl⟩
 rw[hR];have HR:Hid (R=PRp p A C T w (fun n=>.int .i64 n) (typP (T.drop k))):=hR.symm;clear h hR;generalize hqkInt:kInt=qkInt at *;generalize hqkBool:kBool=qkBool at *;have HQ:Hid (kInt=qkInt∧kBool=qkBool):=⟨hqkInt,hqkBool⟩
 clear hqkInt hqkBool;go_enter func104,ntmps104;go_wp2;go_loopw [3] (fun v3 wr=>∃ n:Nat,v3=.int .i64 n∧n≤2∧Hid (((0<n→acc 0 qkInt (T.drop k)=none)∧(1<n→acc 0 qkBool (T.drop k)=none))∧Below w.heap.size w wr)) (fun v _=>2-(intOf v).toNat)
 case atStart=>exact ⟨0,rfl,by omega,by refine ⟨?_,Below.refl _ _⟩; (repeat' constructor) <;> intro hh <;> omega⟩
 case round=>
 obtain ⟨n,rfl,hn,hz⟩:=hrel;have hp1:=HP.out.chg hz.out.2
 rcases (show n=0∨n=1∨n=2 by omega) with rfl | rfl | rfl
 ·have HZ:=Zh hz.out;clear hz cw;go_wp2_with fail;refine (cn0 _).mono ?_;rintro e w1 ⟨rfl,rfl⟩;go_wp2_with fail;refine (ca0 _ hp1).mono ?_;rintro e w1 h1
  rcases h1 with ⟨g1,g2,rfl,hp2,hc1⟩ | ⟨g1,rfl,hb1⟩
  ·have HF:=Zh (show _∧_∧_ from ⟨JF g1 g2,hp2,hc1⟩);have HCH:=Zh (HZ.out.2);clear g1 g2 hp2 hc1 hp1;go_wp2;rw[HR.out]
   have hs:typP (T.drop k)=.ok 0 (T.drop (k+1)):=by
    unfold typP;rw[HQ.out.2,HQ.out.1];have hz:=HZ.out.1;have hf:=HF.out.1;simp only[hf]
   exact sx61
  ·have HZ2:Hid (((0<1→acc 0 qkInt (T.drop k)=none)∧(1<1→acc 0 qkBool (T.drop k)=none))∧Below w.heap.size w w1):=by
    refine ⟨?_,HZ.out.2.trans (hb1.mono HZ.out.2.size)⟩;have hno:=J4 g1;have hz:=HZ.out.1;exact ⟨fun _=>hno,fun hh=>absurd hh (by omega)⟩
   exact sx154
 ·have HZ:=Zh hz.out;clear hz cw;go_wp2_with fail;refine (cn1 _).mono ?_;rintro e w1 ⟨rfl,rfl⟩;go_wp2_with fail;refine (ca1 _ hp1).mono ?_;rintro e w1 h1
  rcases h1 with ⟨g1,g2,rfl,hp2,hc1⟩ | ⟨g1,rfl,hb1⟩
  ·have HF:=Zh (show _∧_∧_ from ⟨JF g1 g2,hp2,hc1⟩);have HCH:=Zh (HZ.out.2);clear g1 g2 hp2 hc1 hp1;go_wp2;rw[HR.out]
   have hs:typP (T.drop k)=.ok 1 (T.drop (k+1)):=by
    unfold typP;rw[HQ.out.2,HQ.out.1];have hz:=HZ.out.1;have hf:=HF.out.1;simp only[hz.1 (by omega),hf]
   exact sx61
  ·have HZ2:Hid (((0<2→acc 0 qkInt (T.drop k)=none)∧(1<2→acc 0 qkBool (T.drop k)=none))∧Below w.heap.size w w1):=by
    refine ⟨?_,HZ.out.2.trans (hb1.mono HZ.out.2.size)⟩;have hno:=J4 g1;have hz:=HZ.out.1;exact ⟨fun _=>hz.1 (by omega),fun _=>hno⟩
   exact sx155
 ·have HZ:=Zh hz.out;clear hz;go_wp2_with fail;refine (cw _ hp1).mono ?_;rintro e w2 ⟨rfl,hb2⟩;go_wp2;refine ⟨rfl,?_⟩;rw[HR.out]
  have hs:typP (T.drop k)=.bad (hd (T.drop k)).off:=by
   unfold typP;rw[HQ.out.2,HQ.out.1];have hz:=HZ.out.1;simp only[hz.1 (by omega),hz.2 (by omega)]
  rw[hs];exact ⟨rfl,Chg.of_below (HZ.out.2.trans (hb2.mono HZ.out.2.size)) [p]⟩
theorem JbX (p:Nat) (A:Option Addr) (C:Nat) (T:List Tok) (k:Nat) (w:World) (h:PAt w p A C T k):Calls prog 67 #[.pointer (some ⟨p,0,none⟩)] w (PRp p A C T w (fun n=>.int .i64 n) (actP (T.drop k))):=by
 have cn0:=fun W=>Jah W
 have ca0:=fun W hW=>Jr p A C T k 0 kShow W hW (by decide)
 have cn1:=fun W=>Jai W
 have ca1:=fun W hW=>Jr p A C T k 0 kMedia W hW (by decide)
 have cn2:=fun W=>Jaj W
 have ca2:=fun W hW=>Jr p A C T k 0 kLimit W hW (by decide)
 have cn3:=fun W=>Jak W
 have ca3:=fun W hW=>Jr p A C T k 0 kHide W hW (by decide)
 have cw:=fun W hW=>Kq p A C T k W hW
 have HP:=Zh h;obtain ⟨R,hR⟩:∃ R,PRp p A C T w (fun n=>.int .i64 n) (actP (T.drop k))=R:=⟨_,rfl⟩
 rw[hR];have HR:Hid (R=PRp p A C T w (fun n=>.int .i64 n) (actP (T.drop k))):=hR.symm;clear h hR;generalize hqkShow:kShow=qkShow at *;generalize hqkMedia:kMedia=qkMedia at *;generalize hqkLimit:kLimit=qkLimit at *;generalize hqkHide:kHide=qkHide at *;have HQ:Hid (kShow=qkShow∧kMedia=qkMedia∧kLimit=qkLimit∧kHide=qkHide):=⟨hqkShow,hqkMedia,hqkLimit,hqkHide⟩
 clear hqkShow hqkMedia hqkLimit hqkHide;go_enter func67,ntmps67;go_wp2;go_loopw [3] (fun v3 wr=>∃ n:Nat,v3=.int .i64 n∧n≤4∧Hid (((0<n→acc 0 qkShow (T.drop k)=none)∧(1<n→acc 0 qkMedia (T.drop k)=none)∧(2<n→acc 0 qkLimit (T.drop k)=none)∧(3<n→acc 0 qkHide (T.drop k)=none))∧Below w.heap.size w wr)) (fun v _=>4-(intOf v).toNat)
 case atStart=>exact ⟨0,rfl,by omega,by refine ⟨?_,Below.refl _ _⟩; (repeat' constructor) <;> intro hh <;> omega⟩
 case round=>
 obtain ⟨n,rfl,hn,hz⟩:=hrel;have hp1:=HP.out.chg hz.out.2
 rcases (show n=0∨n=1∨n=2∨n=3∨n=4 by omega) with rfl | rfl | rfl | rfl | rfl
 ·have HZ:=Zh hz.out;clear hz cw;go_wp2_with fail;refine (cn0 _).mono ?_;rintro e w1 ⟨rfl,rfl⟩;go_wp2_with fail;refine (ca0 _ hp1).mono ?_;rintro e w1 h1
  rcases h1 with ⟨g1,g2,rfl,hp2,hc1⟩ | ⟨g1,rfl,hb1⟩
  ·have HF:=Zh (show _∧_∧_ from ⟨JF g1 g2,hp2,hc1⟩);have HCH:=Zh (HZ.out.2);clear g1 g2 hp2 hc1 hp1;go_wp2;rw[HR.out]
   have hs:actP (T.drop k)=.ok 0 (T.drop (k+1)):=by
    unfold actP;rw[HQ.out.2.2.2,HQ.out.2.2.1,HQ.out.2.1,HQ.out.1];have hz:=HZ.out.1;have hf:=HF.out.1;simp only[hf]
   exact sx61
  ·have HZ2:Hid (((0<1→acc 0 qkShow (T.drop k)=none)∧(1<1→acc 0 qkMedia (T.drop k)=none)∧(2<1→acc 0 qkLimit (T.drop k)=none)∧(3<1→acc 0 qkHide (T.drop k)=none))∧Below w.heap.size w w1):=by
    refine ⟨?_,HZ.out.2.trans (hb1.mono HZ.out.2.size)⟩;have hno:=J4 g1;have hz:=HZ.out.1;exact ⟨fun _=>hno,fun hh=>absurd hh (by omega),fun hh=>absurd hh (by omega),fun hh=>absurd hh (by omega)⟩
   exact sx154
 ·have HZ:=Zh hz.out;clear hz cw;go_wp2_with fail;refine (cn1 _).mono ?_;rintro e w1 ⟨rfl,rfl⟩;go_wp2_with fail;refine (ca1 _ hp1).mono ?_;rintro e w1 h1
  rcases h1 with ⟨g1,g2,rfl,hp2,hc1⟩ | ⟨g1,rfl,hb1⟩
  ·have HF:=Zh (show _∧_∧_ from ⟨JF g1 g2,hp2,hc1⟩);have HCH:=Zh (HZ.out.2);clear g1 g2 hp2 hc1 hp1;go_wp2;rw[HR.out]
   have hs:actP (T.drop k)=.ok 1 (T.drop (k+1)):=by
    unfold actP;rw[HQ.out.2.2.2,HQ.out.2.2.1,HQ.out.2.1,HQ.out.1];have hz:=HZ.out.1;have hf:=HF.out.1;simp only[hz.1 (by omega),hf]
   exact sx61
  ·have HZ2:Hid (((0<2→acc 0 qkShow (T.drop k)=none)∧(1<2→acc 0 qkMedia (T.drop k)=none)∧(2<2→acc 0 qkLimit (T.drop k)=none)∧(3<2→acc 0 qkHide (T.drop k)=none))∧Below w.heap.size w w1):=by
    refine ⟨?_,HZ.out.2.trans (hb1.mono HZ.out.2.size)⟩;have hno:=J4 g1;have hz:=HZ.out.1;exact ⟨fun _=>hz.1 (by omega),fun _=>hno,fun hh=>absurd hh (by omega),fun hh=>absurd hh (by omega)⟩
   exact sx155
 ·have HZ:=Zh hz.out;clear hz cw;go_wp2_with fail;refine (cn2 _).mono ?_;rintro e w1 ⟨rfl,rfl⟩;go_wp2_with fail;refine (ca2 _ hp1).mono ?_;rintro e w1 h1
  rcases h1 with ⟨g1,g2,rfl,hp2,hc1⟩ | ⟨g1,rfl,hb1⟩
  ·have HF:=Zh (show _∧_∧_ from ⟨JF g1 g2,hp2,hc1⟩);have HCH:=Zh (HZ.out.2);clear g1 g2 hp2 hc1 hp1;go_wp2;rw[HR.out]
   have hs:actP (T.drop k)=.ok 2 (T.drop (k+1)):=by
    unfold actP;rw[HQ.out.2.2.2,HQ.out.2.2.1,HQ.out.2.1,HQ.out.1];have hz:=HZ.out.1;have hf:=HF.out.1;simp only[hz.1 (by omega),hz.2.1 (by omega),hf]
   exact sx61
  ·have HZ2:Hid (((0<3→acc 0 qkShow (T.drop k)=none)∧(1<3→acc 0 qkMedia (T.drop k)=none)∧(2<3→acc 0 qkLimit (T.drop k)=none)∧(3<3→acc 0 qkHide (T.drop k)=none))∧Below w.heap.size w w1):=by
    refine ⟨?_,HZ.out.2.trans (hb1.mono HZ.out.2.size)⟩;have hno:=J4 g1;have hz:=HZ.out.1;exact ⟨fun _=>hz.1 (by omega),fun _=>hz.2.1 (by omega),fun _=>hno,fun hh=>absurd hh (by omega)⟩
   clear g1 hb1 hp1 HZ;go_wp2;go_roundw
   case rel=>exact ⟨3,rfl,by omega,HZ2⟩
   case measure=>simp[intOf]
 ·have HZ:=Zh hz.out;clear hz cw;go_wp2_with fail;refine (cn3 _).mono ?_;rintro e w1 ⟨rfl,rfl⟩;go_wp2_with fail;refine (ca3 _ hp1).mono ?_;rintro e w1 h1
  rcases h1 with ⟨g1,g2,rfl,hp2,hc1⟩ | ⟨g1,rfl,hb1⟩
  ·have HF:=Zh (show _∧_∧_ from ⟨JF g1 g2,hp2,hc1⟩);have HCH:=Zh (HZ.out.2);clear g1 g2 hp2 hc1 hp1;go_wp2;rw[HR.out]
   have hs:actP (T.drop k)=.ok 3 (T.drop (k+1)):=by
    unfold actP;rw[HQ.out.2.2.2,HQ.out.2.2.1,HQ.out.2.1,HQ.out.1];have hz:=HZ.out.1;have hf:=HF.out.1;simp only[hz.1 (by omega),hz.2.1 (by omega),hz.2.2.1 (by omega),hf]
   exact sx61
  ·have HZ2:Hid (((0<4→acc 0 qkShow (T.drop k)=none)∧(1<4→acc 0 qkMedia (T.drop k)=none)∧(2<4→acc 0 qkLimit (T.drop k)=none)∧(3<4→acc 0 qkHide (T.drop k)=none))∧Below w.heap.size w w1):=by
    refine ⟨?_,HZ.out.2.trans (hb1.mono HZ.out.2.size)⟩;have hno:=J4 g1;have hz:=HZ.out.1;exact ⟨fun _=>hz.1 (by omega),fun _=>hz.2.1 (by omega),fun _=>hz.2.2.1 (by omega),fun _=>hno⟩
   clear g1 hb1 hp1 HZ;go_wp2;go_roundw
   case rel=>exact ⟨4,rfl,by omega,HZ2⟩
   case measure=>simp[intOf]
 ·have HZ:=Zh hz.out;clear hz;go_wp2_with fail;refine (cw _ hp1).mono ?_;rintro e w2 ⟨rfl,hb2⟩;go_wp2;refine ⟨rfl,?_⟩;rw[HR.out]
  have hs:actP (T.drop k)=.bad (hd (T.drop k)).off:=by
   unfold actP;rw[HQ.out.2.2.2,HQ.out.2.2.1,HQ.out.2.1,HQ.out.1];have hz:=HZ.out.1;simp only[hz.1 (by omega),hz.2.1 (by omega),hz.2.2.1 (by omega),hz.2.2.2 (by omega)]
  rw[hs];exact ⟨rfl,Chg.of_below (HZ.out.2.trans (hb2.mono HZ.out.2.size)) [p]⟩
theorem Js (kd:Int) (s:List UInt8) (r:List Tok):(∃ r',accept kd s r=.ok () r')∨accept kd s r=.bad (hd r).off:=by
 unfold accept
 cases acc kd s r with
 | some r'=>exact .inl ⟨r',rfl⟩
 | none=>exact .inr rfl
theorem Ys (r:List Tok):(∃ s r',textP r=.ok s r')∨textP r=.bad (hd r).off:=by
 unfold textP;split
 ·exact .inl ⟨_,_,rfl⟩
 ·exact .inr rfl
theorem KJ (p:Nat) (A:Option Addr) (C:Nat) (T:List Tok) (k:Nat) (w:World) (h:PAt w p A C T k):Calls prog 147 #[.pointer (some ⟨p,0,none⟩)] w (PRp p A C T w (fun s=>.string (bs s)) (quotedP (T.drop k))):=by
 obtain ⟨R,hR⟩:∃ R,PRp p A C T w (fun s=>.string (bs s)) (quotedP (T.drop k))=R:=⟨_,rfl⟩
 rw[hR];have HR:Hid (R=PRp p A C T w (fun s=>.string (bs s)) (quotedP (T.drop k))):=hR.symm;have HP:=Zh h;clear h hR;go_enter func147,ntmps147;go_wp2_with fail;refine (signP p A C T k [40] w HP.out).mono ?_;intro e w1 h1
 rcases Js 3 [40] (T.drop k) with ⟨r1,hx⟩ | hx
 ·rw[hx] at h1;obtain ⟨rfl,⟨k1,hr,hp1⟩,hc1⟩:=h1;subst hr;have HX1:=Zh hx;have HP1:=Zh hp1;have HC1:=Zh hc1;clear hx hp1 hc1;go_wp2_with fail;refine (Jag p A C T k1 w1 HP1.out).mono ?_;intro e w2 h2
  rcases Ys (T.drop k1) with ⟨s,r2,hx⟩ | hx
  ·rw[hx] at h2;obtain ⟨rfl,⟨k2,hr,hp2⟩,hc2⟩:=h2;subst hr;have HX2:=Zh hx;have HP2:=Zh hp2;have HC2:=Zh (HC1.out.trans hc2);clear hx hp2 hc2;go_wp2_with fail;refine (signP p A C T k2 [41] w2 HP2.out).mono ?_;intro e w3 h3
   rcases Js 3 [41] (T.drop k2) with ⟨r3,hx⟩ | hx
   ·rw[hx] at h3;obtain ⟨rfl,⟨k3,hr,hp3⟩,hc3⟩:=h3;subst hr;have HS:Hid (quotedP (T.drop k)=.ok s (T.drop k3)):=by rw[Hid]; unfold quotedP; rw[HX1.out]; simp only[PR.bind]; rw[HX2.out]; simp only; rw[hx]
    have HF:=Zh (show _∧_ from ⟨hp3,HC2.out.trans hc3⟩);clear hx hp3 hc3;go_wp2;rw[HR.out,HS.out];exact ⟨rfl,⟨k3,rfl,HF.out.1⟩,HF.out.2⟩
   ·rw[hx] at h3;obtain ⟨rfl,hc3⟩:=h3;have HS:Hid (quotedP (T.drop k)=.bad (hd (T.drop k2)).off):=by rw[Hid]; unfold quotedP; rw[HX1.out]; simp only[PR.bind]; rw[HX2.out]; simp only; rw[hx]
    refine ⟨rfl,?_⟩;rw[HR.out,HS.out];exact ⟨rfl,HC2.out.trans hc3⟩
  ·rw[hx] at h2;obtain ⟨rfl,hc2⟩:=h2;have HS:Hid (quotedP (T.drop k)=.bad (hd (T.drop k1)).off):=by rw[Hid]; unfold quotedP; rw[HX1.out]; simp only[PR.bind]; rw[hx]
   refine ⟨rfl,?_⟩;rw[HR.out,HS.out];exact ⟨rfl,HC1.out.trans hc2⟩
 ·rw[hx] at h1;obtain ⟨rfl,hc1⟩:=h1;have HS:Hid (quotedP (T.drop k)=.bad (hd (T.drop k)).off):=by rw[Hid]; unfold quotedP; rw[hx]; rfl
  refine ⟨rfl,?_⟩;rw[HR.out,HS.out];exact ⟨rfl,hc1⟩
def OpP (w:World) (o:Option Int) (e:Ending) (w':World):Prop:=e=.returned (.tuple #[.int .i64 (o.getD 0),.bool o.isSome])∧Below w.heap.size w w'
theorem sx26 {P:Prop}(h:P:=by
  go_enter func131,ntmps131;go_wp2;rw[HR.out,HS.out]
  exact ⟨rfl,HB.out⟩):P:=h
theorem JiE (t:Tok) (w:World):Calls prog 131 #[.int .i64 1,.agg (tokZ t)] w (OpP w (opK 1 t)):=by
 obtain ⟨tk,tx,tn,tf⟩:=t;obtain ⟨R,hR⟩:∃ R,OpP w (opK 1 ⟨tk,tx,tn,tf⟩)=R:=⟨_,rfl⟩
 rw[hR];have HR:Hid (R=OpP w (opK 1 ⟨tk,tx,tn,tf⟩)):=hR.symm;have u1:=Jm tx;have hN:=heap_alloc_new w (.cells #[.int .i64 tk,.string (bs tx),.int .i64 tn,.int .i64 tf] 105);have HB:=Zh ((Below.refl w.heap.size w).alloc (Nat.le_refl _) (.cells #[.int .i64 tk,.string (bs tx),.int .i64 tn,.int .i64 tf] 105));have c0:(w.alloc (.cells #[.int .i64 tk,.string (bs tx),.int .i64 tn,.int .i64 tf] 105)).cell? ⟨w.heap.size,0,none⟩=some (.int .i64 tk):=by rw[Ja hN]; rfl
 have c1:(w.alloc (.cells #[.int .i64 tk,.string (bs tx),.int .i64 tn,.int .i64 tf] 105)).cell? ⟨w.heap.size,1,none⟩=some (.string (bs tx)):=by rw[Ja hN]; rfl
 unfold tokZ;simp only;clear hR hN
 by_cases k0:tk=0
 ·subst k0
  by_cases h0:tx=[111,114]
  ·have e0:(tx==[111,114])=true:=beq_iff_eq.2 h0;have HS:Hid (opK 1 ⟨0,tx,tn,tf⟩=some 17):=by rw[Hid,h0]; rfl
   clear h0;exact sx26
  ·have e0:(tx==[111,114])=false:=beq_eq_false_iff_ne.2 h0;have HS:Hid (opK 1 ⟨0,tx,tn,tf⟩=none):=by rw[Hid]; unfold opK; simp[kOr,kAnd,h0]
   clear h0;exact sx26
 ·have d0:(tk==0)=false:=beq_eq_false_iff_ne.2 k0
  by_cases k3:tk=3
  ·subst k3;have HS:Hid (opK 1 ⟨3,tx,tn,tf⟩=none):=by rw[Hid]; unfold opK; simp
   clear d0 k0;exact sx26
  ·have d3:(tk==3)=false:=beq_eq_false_iff_ne.2 k3;have HS:Hid (opK 1 ⟨tk,tx,tn,tf⟩=none):=by rw[Hid]; unfold opK; simp[k0,k3]
   exact sx26
theorem JiF (t:Tok) (w:World):Calls prog 131 #[.int .i64 2,.agg (tokZ t)] w (OpP w (opK 2 t)):=by
 obtain ⟨tk,tx,tn,tf⟩:=t;obtain ⟨R,hR⟩:∃ R,OpP w (opK 2 ⟨tk,tx,tn,tf⟩)=R:=⟨_,rfl⟩
 rw[hR];have HR:Hid (R=OpP w (opK 2 ⟨tk,tx,tn,tf⟩)):=hR.symm;have u1:=Jm tx;have hN:=heap_alloc_new w (.cells #[.int .i64 tk,.string (bs tx),.int .i64 tn,.int .i64 tf] 105);have HB:=Zh ((Below.refl w.heap.size w).alloc (Nat.le_refl _) (.cells #[.int .i64 tk,.string (bs tx),.int .i64 tn,.int .i64 tf] 105));have c0:(w.alloc (.cells #[.int .i64 tk,.string (bs tx),.int .i64 tn,.int .i64 tf] 105)).cell? ⟨w.heap.size,0,none⟩=some (.int .i64 tk):=by rw[Ja hN]; rfl
 have c1:(w.alloc (.cells #[.int .i64 tk,.string (bs tx),.int .i64 tn,.int .i64 tf] 105)).cell? ⟨w.heap.size,1,none⟩=some (.string (bs tx)):=by rw[Ja hN]; rfl
 unfold tokZ;simp only;clear hR hN
 by_cases k0:tk=0
 ·subst k0
  by_cases h0:tx=[97,110,100]
  ·have e0:(tx==[97,110,100])=true:=beq_iff_eq.2 h0;have HS:Hid (opK 2 ⟨0,tx,tn,tf⟩=some 16):=by rw[Hid,h0]; rfl
   clear h0;exact sx26
  ·have e0:(tx==[97,110,100])=false:=beq_eq_false_iff_ne.2 h0;have HS:Hid (opK 2 ⟨0,tx,tn,tf⟩=none):=by rw[Hid]; unfold opK; simp[kOr,kAnd,h0]
   clear h0;exact sx26
 ·have d0:(tk==0)=false:=beq_eq_false_iff_ne.2 k0
  by_cases k3:tk=3
  ·subst k3;have HS:Hid (opK 2 ⟨3,tx,tn,tf⟩=none):=by rw[Hid]; unfold opK; simp
   clear d0 k0;exact sx26
  ·have d3:(tk==3)=false:=beq_eq_false_iff_ne.2 k3;have HS:Hid (opK 2 ⟨tk,tx,tn,tf⟩=none):=by rw[Hid]; unfold opK; simp[k0,k3]
   exact sx26
theorem JiG (t:Tok) (w:World):Calls prog 131 #[.int .i64 5,.agg (tokZ t)] w (OpP w (opK 5 t)):=by
 obtain ⟨tk,tx,tn,tf⟩:=t;obtain ⟨R,hR⟩:∃ R,OpP w (opK 5 ⟨tk,tx,tn,tf⟩)=R:=⟨_,rfl⟩
 rw[hR];have HR:Hid (R=OpP w (opK 5 ⟨tk,tx,tn,tf⟩)):=hR.symm;have u1:=Jm tx;have hN:=heap_alloc_new w (.cells #[.int .i64 tk,.string (bs tx),.int .i64 tn,.int .i64 tf] 105);have HB:=Zh ((Below.refl w.heap.size w).alloc (Nat.le_refl _) (.cells #[.int .i64 tk,.string (bs tx),.int .i64 tn,.int .i64 tf] 105));have c0:(w.alloc (.cells #[.int .i64 tk,.string (bs tx),.int .i64 tn,.int .i64 tf] 105)).cell? ⟨w.heap.size,0,none⟩=some (.int .i64 tk):=by rw[Ja hN]; rfl
 have c1:(w.alloc (.cells #[.int .i64 tk,.string (bs tx),.int .i64 tn,.int .i64 tf] 105)).cell? ⟨w.heap.size,1,none⟩=some (.string (bs tx)):=by rw[Ja hN]; rfl
 unfold tokZ;simp only;clear hR hN
 by_cases k0:tk=0
 ·subst k0;have HS:Hid (opK 5 ⟨0,tx,tn,tf⟩=none):=by rw[Hid]; unfold opK; simp
  exact sx26
 ·have d0:(tk==0)=false:=beq_eq_false_iff_ne.2 k0
  by_cases k3:tk=3
  ·subst k3
   by_cases h0:tx=[43]
   ·have e0:(tx==[43])=true:=beq_iff_eq.2 h0;have HS:Hid (opK 5 ⟨3,tx,tn,tf⟩=some 8):=by rw[Hid,h0]; rfl
    clear d0 k0 h0;exact sx26
   have e0:(tx==[43])=false:=beq_eq_false_iff_ne.2 h0
   by_cases h1:tx=[45]
   ·have e1:(tx==[45])=true:=beq_iff_eq.2 h1;have HS:Hid (opK 5 ⟨3,tx,tn,tf⟩=some 9):=by rw[Hid,h1]; rfl
    clear d0 k0 h0 h1;exact sx26
   have e1:(tx==[45])=false:=beq_eq_false_iff_ne.2 h1;have HS:Hid (opK 5 ⟨3,tx,tn,tf⟩=none):=by rw[Hid]; unfold opK; simp[h0,h1]
   clear d0 k0 h0 h1;exact sx26
  ·have d3:(tk==3)=false:=beq_eq_false_iff_ne.2 k3;have HS:Hid (opK 5 ⟨tk,tx,tn,tf⟩=none):=by rw[Hid]; unfold opK; simp[k0,k3]
   exact sx26
theorem JiH (t:Tok) (w:World):Calls prog 131 #[.int .i64 6,.agg (tokZ t)] w (OpP w (opK 6 t)):=by
 obtain ⟨tk,tx,tn,tf⟩:=t;obtain ⟨R,hR⟩:∃ R,OpP w (opK 6 ⟨tk,tx,tn,tf⟩)=R:=⟨_,rfl⟩
 rw[hR];have HR:Hid (R=OpP w (opK 6 ⟨tk,tx,tn,tf⟩)):=hR.symm;have u1:=Jm tx;have hN:=heap_alloc_new w (.cells #[.int .i64 tk,.string (bs tx),.int .i64 tn,.int .i64 tf] 105);have HB:=Zh ((Below.refl w.heap.size w).alloc (Nat.le_refl _) (.cells #[.int .i64 tk,.string (bs tx),.int .i64 tn,.int .i64 tf] 105));have c0:(w.alloc (.cells #[.int .i64 tk,.string (bs tx),.int .i64 tn,.int .i64 tf] 105)).cell? ⟨w.heap.size,0,none⟩=some (.int .i64 tk):=by rw[Ja hN]; rfl
 have c1:(w.alloc (.cells #[.int .i64 tk,.string (bs tx),.int .i64 tn,.int .i64 tf] 105)).cell? ⟨w.heap.size,1,none⟩=some (.string (bs tx)):=by rw[Ja hN]; rfl
 unfold tokZ;simp only;clear hR hN
 by_cases k0:tk=0
 ·subst k0;have HS:Hid (opK 6 ⟨0,tx,tn,tf⟩=none):=by rw[Hid]; unfold opK; simp
  exact sx26
 ·have d0:(tk==0)=false:=beq_eq_false_iff_ne.2 k0
  by_cases k3:tk=3
  ·subst k3
   by_cases h0:tx=[42]
   ·have e0:(tx==[42])=true:=beq_iff_eq.2 h0;have HS:Hid (opK 6 ⟨3,tx,tn,tf⟩=some 10):=by rw[Hid,h0]; rfl
    clear d0 k0 h0;exact sx26
   have e0:(tx==[42])=false:=beq_eq_false_iff_ne.2 h0
   by_cases h1:tx=[47]
   ·have e1:(tx==[47])=true:=beq_iff_eq.2 h1;have HS:Hid (opK 6 ⟨3,tx,tn,tf⟩=some 11):=by rw[Hid,h1]; rfl
    clear d0 k0 h0 h1;exact sx26
   have e1:(tx==[47])=false:=beq_eq_false_iff_ne.2 h1
   by_cases h2:tx=[37]
   ·have e2:(tx==[37])=true:=beq_iff_eq.2 h2;have HS:Hid (opK 6 ⟨3,tx,tn,tf⟩=some 12):=by rw[Hid,h2]; rfl
    clear d0 k0 h0 h1 h2;exact sx26
   have e2:(tx==[37])=false:=beq_eq_false_iff_ne.2 h2;have HS:Hid (opK 6 ⟨3,tx,tn,tf⟩=none):=by rw[Hid]; unfold opK; simp[h0,h1,h2]
   clear d0 k0 h0 h1 h2;exact sx26
  ·have d3:(tk==3)=false:=beq_eq_false_iff_ne.2 k3;have HS:Hid (opK 6 ⟨tk,tx,tn,tf⟩=none):=by rw[Hid]; unfold opK; simp[k0,k3]
   exact sx26
theorem Je (a:An):∃ xA xn xc,cellsN a=#[.int .i64 a.kind,.int .i64 a.num,.string (bs a.name),.int .i64 a.off,.slice xA xn xc]:=by
 obtain ⟨k,n,s,o,b,c,l⟩:=a
 by_cases h:l=[]
 ·exact ⟨none,0,0,by show #[_,_,_,_,kidsV b c l]=_; unfold kidsV; rw[if_pos h]; rfl⟩
 ·exact ⟨some ⟨b,0,none⟩,l.length,c,by show #[_,_,_,_,kidsV b c l]=_; unfold kidsV; rw[if_neg h]; rfl⟩
theorem blk5Z {w:World} {T t:Nat} {a0 a1 a2 a3 a4:Value} (v0 v1 v2 v3 v4:Value) (h:w.heap[T]?=some (.cells #[a0,a1,a2,a3,a4] t (0,0))) :
  (((((w.setCell ⟨T,0,none⟩ v0).setCell ⟨T,1,none⟩ v1).setCell ⟨T,2,none⟩ v2).setCell ⟨T,3,none⟩ v3).setCell ⟨T,4,none⟩ v4).heap[T]?=some (.cells #[v0,v1,v2,v3,v4] t (0,0)):=by
 have h0:=heap_setCell_same _ _ 0 _ _ v0 h;have h1:=heap_setCell_same _ _ 1 _ _ v1 h0;have h2:=heap_setCell_same _ _ 2 _ _ v2 h1;have h3:=heap_setCell_same _ _ 3 _ _ v3 h2;exact heap_setCell_same _ _ 4 _ _ v4 h3
def put5 (W:World) (b:Nat) (v0 v1 v2 v3 v4:Value):World:=((((W.setCell ⟨b,0,none⟩ v0).setCell ⟨b,1,none⟩ v1).setCell ⟨b,2,none⟩ v2).setCell ⟨b,3,none⟩ v3).setCell ⟨b,4,none⟩ v4
theorem J6 {S:List Nat} {W:World} {b:Nat} (v0 v1 v2 v3 v4:Value) (hb:b∈S):Chg S W (put5 W b v0 v1 v2 v3 v4):=
 (((((Chg.refl S W).setCell (.inl hb) v0).setCell (.inl hb) v1).setCell (.inl hb) v2).setCell (.inl hb) v3).setCell (.inl hb) v4
theorem J9 (W:World) (b:Nat) (v0 v1 v2 v3 v4:Value):(put5 W b v0 v1 v2 v3 v4).heap.size=W.heap.size:=by simp[put5,World.setCell]
theorem PAt.put5 {W:World} {p q:Nat} {A:Option Addr} {C:Nat} {T:List Tok} {k:Nat} (h:PAt W p A C T k) (h1:q≠p) (h2:∀ b o,A=some ⟨b,o,none⟩→q≠b) (v0 v1 v2 v3 v4:Value):PAt (put5 W q v0 v1 v2 v3 v4) p A C T k:=
 ((((h.setFar h1 h2 0 v0).setFar h1 h2 1 v1).setFar h1 h2 2 v2).setFar h1 h2 3 v3).setFar h1 h2 4 v4
def NdP (p:Nat) (A:Option Addr) (C:Nat) (T:List Tok) (w:World) (x:PR Nd) (e:Ending) (w':World):Prop:=
 match x with
 | .out=>True
 | .bad o=>BadP p w o e w'
 | .ok nd r=>∃ a:An,a.nd=nd∧e=.returned (.agg (cellsN a))∧a.At w'∧Made w.heap.size w'.heap.size a∧(∃ k',r=T.drop k'∧PAt w' p A C T k')∧Chg [p] w w'
theorem Kr {W:World} {b t:Nat} {cs:Array Value} {fr:Nat × Nat} (h:W.heap[b]?=some (.cells cs t fr)) {j:Nat} {u:Value} (hu:cs.toList[j]?=some u):W.cell? ⟨b,j,none⟩=some u:=by
 rw[Ja h];simpa using hu
theorem sx138 {P:Prop}(h:P:=by
  unfold footL
  rcases List.mem_cons.1 ha with rfl | ha
  ·exact List.mem_append_left _ hb
  ·exact List.mem_append_right _ (ih ha)):P:=h
theorem V6 {w W3:World} {p:Nat} {A:Option Addr} {C:Nat} {T:List Tok} {k' lo:Nat} {kids:List An} {cs:Array Value} (hkids:kids≠[]) (hcs:cs.toList=rowN kids)
  (hat:∀ a∈kids,a.At W3) (hm:MadeL lo W3.heap.size kids) (hlo:w.heap.size<lo) (hP:PAt W3 p A C T k') (hC:Chg [p] w W3) (hp:p<w.heap.size) (hT:∀ b o,A=some ⟨b,o,none⟩→b<w.heap.size)
  (kk n:Int) (s:List UInt8) (o:Int) (c:Nat) (v0 v1 v2 v3 v4:Value) :
  (An.mk kk n s o W3.heap.size c kids).At ((put5 W3 w.heap.size v0 v1 v2 v3 v4).alloc (.cells cs 119))∧
   Made w.heap.size ((put5 W3 w.heap.size v0 v1 v2 v3 v4).alloc (.cells cs 119)).heap.size (An.mk kk n s o W3.heap.size c kids)∧
   PAt ((put5 W3 w.heap.size v0 v1 v2 v3 v4).alloc (.cells cs 119)) p A C T k'∧Chg [p] w ((put5 W3 w.heap.size v0 v1 v2 v3 v4).alloc (.cells cs 119)):=by
 have hle:=hm.le;have hsz:=J9 W3 w.heap.size v0 v1 v2 v3 v4;have hch:=J6 (S:=[w.heap.size]) (W:=W3) v0 v1 v2 v3 v4 (by simp:w.heap.size∈[w.heap.size]);have hnew:=heap_alloc_new (put5 W3 w.heap.size v0 v1 v2 v3 v4) (.cells cs 119);rw[hsz] at hnew
 have hold:∀ b,b<W3.heap.size→b≠w.heap.size→((put5 W3 w.heap.size v0 v1 v2 v3 v4).alloc (.cells cs 119)).heap[b]?=W3.heap[b]?:=fun b hb hn=>
  (Below.heap_alloc _ _ _ (by rw[hsz]; exact hb)).trans (hch.block b hb (by simpa using hn))
 refine ⟨?_,?_,?_,?_⟩
 ·unfold An.At;refine ⟨fun _ j=>Jc hnew j,Ko kids 0 (fun j u hu=>?_) fun a ha=>?_⟩
  ·rw[Nat.zero_mul,Nat.zero_add];exact Kr hnew (by rw[hcs]; exact hu)
  ·refine JC a (hat a ha) fun b hb=>?_
   have hbb:lo≤b∧b<W3.heap.size:=by
    refine hm.foot.2 b ?_;clear hat hm hcs hnew hold hkids
    induction kids with
    | nil=>cases ha
    | cons x l ih=>
     exact sx138
   exact hold b hbb.2 (by omega)
 ·rw[World.size_alloc,hsz];exact (Jae hm (Nat.le_refl _) kk n s o c).mono (Nat.le_of_lt hlo) (Nat.le_refl _)
 ·exact (hP.put5 (Ne.symm (Nat.ne_of_lt hp)) (fun b o e=>by have:=hT b o e; omega) _ _ _ _ _).chg ((Below.refl _ _).alloc (Nat.le_refl _) _)
 ·exact (hC.step hch fun b hb=>.inr (by simp at hb; omega)).alloc _
theorem KY {W:World} {b t:Nat} {a0 a1 a2 a3 a4:Value} (X:Obj) (v0 v1 v2 v3 v4:Value) (h:W.heap[b]?=some (.cells #[a0,a1,a2,a3,a4] t (0,0))):((put5 W b v0 v1 v2 v3 v4).alloc X).heap[b]?=some (.cells #[v0,v1,v2,v3,v4] t (0,0)):=
 (Below.heap_alloc _ _ _ (Jb (blk5Z v0 v1 v2 v3 v4 h))).trans (blk5Z v0 v1 v2 v3 v4 h)
theorem PAt.chg1 {W:World} {p:Nat} {A:Option Addr} {C:Nat} {T:List Tok} {k:Nat} (h:PAt W p A C T k):p<W.heap.size:=Jb h.self
theorem Jl {α β:Type} {x:PR α} {f:α→List Tok→PR β} (h:x.bind f≠.out):x≠.out:=fun e=>h (by rw[e]; rfl)
theorem JcP (f:Nat) {r r1:List Tok} (h:acc 0 kNot r=some r1):pM (f+1) (.level 3) r=(pM f (.level 3) r1).bind fun a r2=>.ok (.mk 7 0 [] (hd r).off [a]) r2:=by rw[pM,if_pos rfl,h]
theorem JdO (f:Nat) {r:List Tok} (h:acc 0 kNot r=none):pM (f+1) (.level 3) r=pM f .cmp r:=by rw[pM,if_pos rfl,h]
theorem JcQ (f:Nat) {r r1:List Tok} (h:acc 3 [45] r=some r1):pM (f+1) (.level 7) r=(pM f (.level 7) r1).bind fun a r2=>.ok (.mk 6 0 [] (hd r).off [a]) r2:=by rw[pM,if_neg (by decide),if_pos rfl,h]
theorem JdP (f:Nat) {r:List Tok} (h:acc 3 [45] r=none):pM (f+1) (.level 7) r=pM f .prim r:=by rw[pM,if_neg (by decide),if_pos rfl,h]
theorem Vm {w W2 W3:World} {p:Nat} {A:Option Addr} {C:Nat} {T:List Tok} {k':Nat} {a:An} (hat:a.At W3) (hm:Made W2.heap.size W3.heap.size a) (h2:w.heap.size<W2.heap.size) (hP:PAt W3 p A C T k') (hC2:Chg [p] w W2) (hC3:Chg [p] W2 W3) (hp:p<w.heap.size) (hT:∀ b o,A=some ⟨b,o,none⟩→b<w.heap.size) (v0 v1 v2 v3 v4:Value) :
  a.At (put5 W3 w.heap.size v0 v1 v2 v3 v4)∧Made w.heap.size (put5 W3 w.heap.size v0 v1 v2 v3 v4).heap.size a∧PAt (put5 W3 w.heap.size v0 v1 v2 v3 v4) p A C T k'∧Chg [p] w (put5 W3 w.heap.size v0 v1 v2 v3 v4):=by
 have hc:=J6 (S:=[w.heap.size]) (W:=W3) v0 v1 v2 v3 v4 (by simp:w.heap.size∈[w.heap.size]);refine ⟨Y2 hat hm hc (Nat.le_refl _) (fun b hb=>by simp at hb; omega),?_,hP.put5 (Ne.symm (Nat.ne_of_lt hp)) (fun b o e=>by have:=hT b o e; omega) _ _ _ _ _,(hC2.trans hC3).step hc fun b hb=>.inr (by simp at hb; omega)⟩;rw[J9];exact hm.mono (Nat.le_of_lt h2) (Nat.le_refl _)
theorem sx47 {P:Prop}(h:P:=by
  have HCF:=Zh hcf;rw[hcf];clear hx hat hmd hp3 hc3 hcf HC2 HP2 HZ2 hne2 I2 HX HS1 hlt2;have z0:=Ja hzz 0;have z1:=Ja hzz 1;have z2:=Ja hzz 2;have z3:=Ja hzz 3;have z4:=Ja hzz 4;simp only[ZD,ZE,ZF] at z0 z1 z2 z3 z4;have hf:=fun j=>Jc hzz j
  have y0:=hf 0;have y1:=hf 1;have y2:=hf 2;have y3:=hf 3;have y4:=hf 4;have HZZ:=Zh hzz;clear hf hzz;go_wp2;refine bodyPost_ret (v:=.agg (cellsN a)) (by rw[HCF.out]; exact results_cell_row rfl _ _ w.heap.size 119 _ (0,0) _ rfl (blk5Z _ _ _ _ _ HZZ.out) underlying119 rfl infoNode) rfl ?_;rw[HR.out,HX2.out];obtain ⟨e1,e2,e3,e4⟩:=HFIN.out _ _ _ _ _
  exact ⟨_,rfl,rfl,e1,e2,⟨k3,rfl,e3⟩,e4⟩):P:=h
theorem sx136 {P:Prop}(h:P:=by
  rw[hx] at h3;obtain ⟨rfl,hc3⟩:=h3;refine ⟨rfl,?_⟩;rw[HR.out,HX.out,hx]
  exact ⟨rfl,(Chg.of_below HC2.out [p]).trans hc3⟩):P:=h
theorem sx147 {P:Prop}(h:P:=by
  rw[hx] at h3;obtain ⟨rfl,hc3⟩:=h3;refine ⟨rfl,?_⟩;rw[HR.out,HX.out,hx]
  exact ⟨rfl,HC2.out.trans hc3⟩):P:=h
theorem sx149 {P:Prop}(h:P:=by
  rw[HR.out,HX2.out];obtain ⟨e1,e2,e3,e4⟩:=HFIN.out _ _ _ _ _
  exact ⟨_,rfl,rfl,e1,e2,⟨k3,rfl,e3⟩,e4⟩):P:=h
theorem Jht (f p:Nat) (A:Option Addr) (C:Nat) (T:List Tok)
  (I1:∀ k w,PAt w p A C T k→pM f (.level 3) (T.drop k)≠.out→Calls prog 105 #[.pointer (some ⟨p,0,none⟩),.int .i64 3] w (NdP p A C T w (pM f (.level 3) (T.drop k))))
  (I2:∀ k w,PAt w p A C T k→pM f .cmp (T.drop k)≠.out→Calls prog 129 #[.pointer (some ⟨p,0,none⟩)] w (NdP p A C T w (pM f .cmp (T.drop k))))
  (k:Nat) (w:World) (h:PAt w p A C T k) (hne:pM (f+1) (.level 3) (T.drop k)≠.out) :
  Calls prog 105 #[.pointer (some ⟨p,0,none⟩),.int .i64 3] w (NdP p A C T w (pM (f+1) (.level 3) (T.drop k))):=by
 obtain ⟨R,hR⟩:∃ R,NdP p A C T w (pM (f+1) (.level 3) (T.drop k))=R:=⟨_,rfl⟩
 rw[hR];have HR:Hid (R=NdP p A C T w (pM (f+1) (.level 3) (T.drop k))):=hR.symm;have HNE:=Zh hne;have hZ:=heap_alloc_new w (.cells #[.int .i64 0,.int .i64 0,.string ⟨#[]⟩,.int .i64 0,.slice none 0 0] 119);have hB:=(Below.refl w.heap.size w).alloc (Nat.le_refl _) (.cells #[.int .i64 0,.int .i64 0,.string ⟨#[]⟩,.int .i64 0,.slice none 0 0] 119);have cp:=JK p A C T k _ (h.chg hB);obtain ⟨of,hof⟩:∃ of,(hd (T.drop k)).off=of:=⟨_,rfl⟩
 unfold TokP at cp;have hfl:∀ (t:Tok) (W:World),(Instr.field 105 (.agg (tokZ t)) 3).run prog W=.ok (.int .i64 t.off) W:=fun t W=>by obtain ⟨a,b,c,d⟩:=t; kernel_rfl
 have hfl':=hfl (hd (T.drop k));rw[hof] at hfl';generalize tokZ (hd (T.drop k))=tv at *;have HP:=Zh (h.chg hB);have HZ:=Zh hZ;have HB:=Zh hB;have HPL:=Zh h.chg1;have HTL:=Zh h.tokLt;have HOF:=Zh hof;clear h hne hR hZ hB hfl hof;go_enter func105,ntmps105;go_wp2_with fail;refine cp.mono ?_;rintro e w1 ⟨rfl,hb1⟩;have HP1:=Zh (HP.out.chg hb1);have HZ1:Hid (w1.heap[w.heap.size]?=some (.cells #[.int .i64 0,.int .i64 0,.string ⟨#[]⟩,.int .i64 0,.slice none 0 0] 119)):=(hb1.block _ (Jb HZ.out)).trans HZ.out;have HB1:=Zh (HB.out.trans (hb1.mono HB.out.size));have HS1:Hid (w.heap.size<w1.heap.size):=Jb HZ1.out;clear cp hb1 HP HZ HB;go_wp2_with fail;refine (Jr p A C T k 0 kNot w1 HP1.out (by decide)).mono ?_;intro e w2 h2
 rcases h2 with ⟨g1,g2,rfl,hp2,hc2⟩ | ⟨g1,rfl,hb2⟩
 ·have HX:=Zh (JcP f (JF g1 g2));have hne2:pM f (.level 3) (T.drop (k+1))≠.out:=Jl (by rw[← HX.out]; exact HNE.out);have HP2:=Zh hp2;have HC2:=Zh ((Chg.of_below HB1.out [p]).trans hc2);have hpz:w.heap.size≠p:=by have:=HPL.out; omega
  have HZ2:Hid (w2.heap[w.heap.size]?=some (.cells #[.int .i64 0,.int .i64 0,.string ⟨#[]⟩,.int .i64 0,.slice none 0 0] 119)):=hc2.heap_some (by simp; exact hpz) HZ1.out;clear g1 g2 hp2 hc2 HP1 HB1 HZ1 I2;go_wp2_with fail;refine (I1 (k+1) w2 HP2.out hne2).mono ?_;intro e w3 h3
  cases hx:pM f (.level 3) (T.drop (k+1)) with
  | out=>exact absurd hx hne2
  | bad q=>
   exact sx147
  | ok nd r=>
   rw[hx] at h3;obtain ⟨a,hnd,rfl,hat,hmd,⟨k3,hr,hp3⟩,hc3⟩:=h3;subst hnd hr;obtain ⟨xA,xn,xc,hcf⟩:=Je a;have HZ3:Hid (w3.heap[w.heap.size]?=some (.cells #[.int .i64 0,.int .i64 0,.string ⟨#[]⟩,.int .i64 0,.slice none 0 0] 119)):=hc3.heap_some (by simp; exact hpz) HZ2.out;have hlt3:w.heap.size<w3.heap.size:=Jb HZ3.out;have hlt2:w.heap.size<w2.heap.size:=Jb HZ2.out;have HFIN:=Zh (fun v0 v1 v2 v3 v4=>V6 (w:=w) (W3:=w3) (kids:=[a]) (cs:=cellsN a) (by simp) (by simp[rowN]) (by simpa using hat) (⟨w3.heap.size,hc3.size,hmd,Nat.le_refl _⟩:MadeL w2.heap.size w3.heap.size [a]) hlt2 hp3 (HC2.out.trans hc3) HPL.out HTL.out 7 0 [] of 1 v0 v1 v2 v3 v4);have HX2:Hid (pM (f+1) (.level 3) (T.drop k)=.ok (An.mk 7 0 [] of w3.heap.size 1 [a]).nd (T.drop k3)):=by rw[Hid,HX.out,hx,HOF.out]; rfl
   rw[hcf] at HFIN ⊢;clear hx hat hmd hp3 hc3 hcf HC2 HP2 HZ2 hne2 I1 HX HS1 hlt2;have hzz:=HZ3.out;have z0:=Ja hzz 0;have z1:=Ja hzz 1;have z2:=Ja hzz 2;have z3:=Ja hzz 3;have z4:=Ja hzz 4;simp only[ZD,ZE,ZF] at z0 z1 z2 z3 z4;have hf:=fun j=>Jc hzz j
   have y0:=hf 0;have y1:=hf 1;have y2:=hf 2;have y3:=hf 3;have y4:=hf 4;have HZZ:=Zh hzz;clear hf hzz;go_wp2;refine bodyPost_ret (v:=.agg (cellsN (An.mk 7 0 [] of w3.heap.size 1 [a]))) (results_cell_row rfl _ _ w.heap.size 119 _ (0,0) _ rfl (KY _ _ _ _ _ _ HZZ.out) underlying119 rfl infoNode) rfl ?_;exact sx149
 ·have HX:=Zh (JdO f (J4 g1));have hne2:pM f .cmp (T.drop k)≠.out:=by rw[← HX.out]; exact HNE.out
  have HP2:=Zh (HP1.out.chg hb2);have HC2:=Zh (HB1.out.trans (hb2.mono HB1.out.size));have hpz:w.heap.size≠p:=by have:=HPL.out; omega
  have HZ2:Hid (w2.heap[w.heap.size]?=some (.cells #[.int .i64 0,.int .i64 0,.string ⟨#[]⟩,.int .i64 0,.slice none 0 0] 119)):=(hb2.block _ HS1.out).trans HZ1.out;clear g1 hb2 HP1 HB1 HZ1 I1;go_wp2_with fail;refine (I2 k w2 HP2.out hne2).mono ?_;intro e w3 h3
  cases hx:pM f .cmp (T.drop k) with
  | out=>exact absurd hx hne2
  | bad q=>
   exact sx136
  | ok nd r=>
   rw[hx] at h3;obtain ⟨a,hnd,rfl,hat,hmd,⟨k3,hr,hp3⟩,hc3⟩:=h3;subst hnd hr;obtain ⟨xA,xn,xc,hcf⟩:=Je a;have hzz:w3.heap[w.heap.size]?=some (.cells #[.int .i64 0,.int .i64 0,.string ⟨#[]⟩,.int .i64 0,.slice none 0 0] 119):=hc3.heap_some (by simp; exact hpz) HZ2.out;have hlt2:w.heap.size<w2.heap.size:=Jb HZ2.out;have HFIN:=Zh (fun v0 v1 v2 v3 v4=>Vm (w:=w) (W2:=w2) (W3:=w3) hat hmd hlt2 hp3 (Chg.of_below HC2.out [p]) hc3 HPL.out HTL.out v0 v1 v2 v3 v4);have HX2:Hid (pM (f+1) (.level 3) (T.drop k)=.ok a.nd (T.drop k3)):=by rw[Hid,HX.out,hx]
   exact sx47
theorem Jhu (f p:Nat) (A:Option Addr) (C:Nat) (T:List Tok)
  (I1:∀ k w,PAt w p A C T k→pM f (.level 7) (T.drop k)≠.out→Calls prog 105 #[.pointer (some ⟨p,0,none⟩),.int .i64 7] w (NdP p A C T w (pM f (.level 7) (T.drop k))))
  (I2:∀ k w,PAt w p A C T k→pM f .prim (T.drop k)≠.out→Calls prog 130 #[.pointer (some ⟨p,0,none⟩)] w (NdP p A C T w (pM f .prim (T.drop k))))
  (k:Nat) (w:World) (h:PAt w p A C T k) (hne:pM (f+1) (.level 7) (T.drop k)≠.out) :
  Calls prog 105 #[.pointer (some ⟨p,0,none⟩),.int .i64 7] w (NdP p A C T w (pM (f+1) (.level 7) (T.drop k))):=by
 obtain ⟨R,hR⟩:∃ R,NdP p A C T w (pM (f+1) (.level 7) (T.drop k))=R:=⟨_,rfl⟩
 rw[hR];have HR:Hid (R=NdP p A C T w (pM (f+1) (.level 7) (T.drop k))):=hR.symm;have HNE:=Zh hne;have hZ:=heap_alloc_new w (.cells #[.int .i64 0,.int .i64 0,.string ⟨#[]⟩,.int .i64 0,.slice none 0 0] 119);have hB:=(Below.refl w.heap.size w).alloc (Nat.le_refl _) (.cells #[.int .i64 0,.int .i64 0,.string ⟨#[]⟩,.int .i64 0,.slice none 0 0] 119);have cp:=JK p A C T k _ (h.chg hB);obtain ⟨of,hof⟩:∃ of,(hd (T.drop k)).off=of:=⟨_,rfl⟩
 unfold TokP at cp;have hfl:∀ (t:Tok) (W:World),(Instr.field 105 (.agg (tokZ t)) 3).run prog W=.ok (.int .i64 t.off) W:=fun t W=>by obtain ⟨a,b,c,d⟩:=t; kernel_rfl
 have hfl':=hfl (hd (T.drop k));rw[hof] at hfl';generalize tokZ (hd (T.drop k))=tv at *;have HP:=Zh (h.chg hB);have HZ:=Zh hZ;have HB:=Zh hB;have HPL:=Zh h.chg1;have HTL:=Zh h.tokLt;have HOF:=Zh hof;clear h hne hR hZ hB hfl hof;go_enter func105,ntmps105;go_wp2_with fail;refine cp.mono ?_;rintro e w1 ⟨rfl,hb1⟩;have HP1:=Zh (HP.out.chg hb1);have HZ1:Hid (w1.heap[w.heap.size]?=some (.cells #[.int .i64 0,.int .i64 0,.string ⟨#[]⟩,.int .i64 0,.slice none 0 0] 119)):=(hb1.block _ (Jb HZ.out)).trans HZ.out;have HB1:=Zh (HB.out.trans (hb1.mono HB.out.size));have HS1:Hid (w.heap.size<w1.heap.size):=Jb HZ1.out;clear cp hb1 HP HZ HB;go_wp2_with fail;refine (Jr p A C T k 3 [45] w1 HP1.out (by decide)).mono ?_;intro e w2 h2
 rcases h2 with ⟨g1,g2,rfl,hp2,hc2⟩ | ⟨g1,rfl,hb2⟩
 ·have HX:=Zh (JcQ f (JF g1 g2));have hne2:pM f (.level 7) (T.drop (k+1))≠.out:=Jl (by rw[← HX.out]; exact HNE.out);have HP2:=Zh hp2;have HC2:=Zh ((Chg.of_below HB1.out [p]).trans hc2);have hpz:w.heap.size≠p:=by have:=HPL.out; omega
  have HZ2:Hid (w2.heap[w.heap.size]?=some (.cells #[.int .i64 0,.int .i64 0,.string ⟨#[]⟩,.int .i64 0,.slice none 0 0] 119)):=hc2.heap_some (by simp; exact hpz) HZ1.out;clear g1 g2 hp2 hc2 HP1 HB1 HZ1 I2;go_wp2_with fail;refine (I1 (k+1) w2 HP2.out hne2).mono ?_;intro e w3 h3
  cases hx:pM f (.level 7) (T.drop (k+1)) with
  | out=>exact absurd hx hne2
  | bad q=>
   exact sx147
  | ok nd r=>
   rw[hx] at h3;obtain ⟨a,hnd,rfl,hat,hmd,⟨k3,hr,hp3⟩,hc3⟩:=h3;subst hnd hr;obtain ⟨xA,xn,xc,hcf⟩:=Je a;have HZ3:Hid (w3.heap[w.heap.size]?=some (.cells #[.int .i64 0,.int .i64 0,.string ⟨#[]⟩,.int .i64 0,.slice none 0 0] 119)):=hc3.heap_some (by simp; exact hpz) HZ2.out;have hlt3:w.heap.size<w3.heap.size:=Jb HZ3.out;have hlt2:w.heap.size<w2.heap.size:=Jb HZ2.out;have HFIN:=Zh (fun v0 v1 v2 v3 v4=>V6 (w:=w) (W3:=w3) (kids:=[a]) (cs:=cellsN a) (by simp) (by simp[rowN]) (by simpa using hat) (⟨w3.heap.size,hc3.size,hmd,Nat.le_refl _⟩:MadeL w2.heap.size w3.heap.size [a]) hlt2 hp3 (HC2.out.trans hc3) HPL.out HTL.out 6 0 [] of 1 v0 v1 v2 v3 v4);have HX2:Hid (pM (f+1) (.level 7) (T.drop k)=.ok (An.mk 6 0 [] of w3.heap.size 1 [a]).nd (T.drop k3)):=by rw[Hid,HX.out,hx,HOF.out]; rfl
   rw[hcf] at HFIN ⊢;clear hx hat hmd hp3 hc3 hcf HC2 HP2 HZ2 hne2 I1 HX HS1 hlt2;have hzz:=HZ3.out;have z0:=Ja hzz 0;have z1:=Ja hzz 1;have z2:=Ja hzz 2;have z3:=Ja hzz 3;have z4:=Ja hzz 4;simp only[ZD,ZE,ZF] at z0 z1 z2 z3 z4;have hf:=fun j=>Jc hzz j
   have y0:=hf 0;have y1:=hf 1;have y2:=hf 2;have y3:=hf 3;have y4:=hf 4;have HZZ:=Zh hzz;clear hf hzz;go_wp2;refine bodyPost_ret (v:=.agg (cellsN (An.mk 6 0 [] of w3.heap.size 1 [a]))) (results_cell_row rfl _ _ w.heap.size 119 _ (0,0) _ rfl (KY _ _ _ _ _ _ HZZ.out) underlying119 rfl infoNode) rfl ?_;exact sx149
 ·have HX:=Zh (JdP f (J4 g1));have hne2:pM f .prim (T.drop k)≠.out:=by rw[← HX.out]; exact HNE.out
  have HP2:=Zh (HP1.out.chg hb2);have HC2:=Zh (HB1.out.trans (hb2.mono HB1.out.size));have hpz:w.heap.size≠p:=by have:=HPL.out; omega
  have HZ2:Hid (w2.heap[w.heap.size]?=some (.cells #[.int .i64 0,.int .i64 0,.string ⟨#[]⟩,.int .i64 0,.slice none 0 0] 119)):=(hb2.block _ HS1.out).trans HZ1.out;clear g1 hb2 HP1 HB1 HZ1 I1;go_wp2_with fail;refine (I2 k w2 HP2.out hne2).mono ?_;intro e w3 h3
  cases hx:pM f .prim (T.drop k) with
  | out=>exact absurd hx hne2
  | bad q=>
   exact sx136
  | ok nd r=>
   rw[hx] at h3;obtain ⟨a,hnd,rfl,hat,hmd,⟨k3,hr,hp3⟩,hc3⟩:=h3;subst hnd hr;obtain ⟨xA,xn,xc,hcf⟩:=Je a;have hzz:w3.heap[w.heap.size]?=some (.cells #[.int .i64 0,.int .i64 0,.string ⟨#[]⟩,.int .i64 0,.slice none 0 0] 119):=hc3.heap_some (by simp; exact hpz) HZ2.out;have hlt2:w.heap.size<w2.heap.size:=Jb HZ2.out;have HFIN:=Zh (fun v0 v1 v2 v3 v4=>Vm (w:=w) (W2:=w2) (W3:=w3) hat hmd hlt2 hp3 (Chg.of_below HC2.out [p]) hc3 HPL.out HTL.out v0 v1 v2 v3 v4);have HX2:Hid (pM (f+1) (.level 7) (T.drop k)=.ok a.nd (T.drop k3)):=by rw[Hid,HX.out,hx]
   exact sx47
end Go.Proofs.YtncanmdgdflnpaaGreatDoor
