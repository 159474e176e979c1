import Derived.Test.YtdlkcjkjnehnkaaGreatDoorH06
namespace Go.Proofs.YtdlkcjkjnehnkaaGreatDoor
open Go.ChangeShapes Go.WideShapes Go.ChangeAt Go.RowKit Go.Lib
open _root_.Go.Proofs.Tryz
set_option linter.all false
set_option maxRecDepth 100000
set_option maxHeartbeats 32000000
theorem Z3(w:World):Calls prog 30 #[.int .i64 0] w (Qcm (.string (bs Qgg)) w):=by
 go_enter func30,ntmps30;go_wp2;go_ret;exact⟨rfl,rfl⟩
theorem Z4(w:World):Calls prog 30 #[.int .i64 1] w (Qcm (.string (bs Qdk)) w):=by
 go_enter func30,ntmps30;go_wp2;go_ret;exact⟨rfl,rfl⟩
theorem QkO{P:Prop}(h:P:=by
  go_enter func32,ntmps32;go_wp2;go_ret
  exact⟨rfl,rfl⟩):P:=h
theorem Yn(w:World):Calls prog 32 #[.int .i64 0] w (Qcm (.string (bs Qcx)) w):=by
 have ix:∀ W:World,(Instr.index 110 (.agg #[.string ⟨#[115,104,111,119]⟩,.string ⟨#[109,101,100,105,97]⟩,.string ⟨#[108,105,109,105,116]⟩,.string ⟨#[104,105,100,101]⟩]) (.int .i64 0)).run prog W=.ok (.string ⟨#[115,104,111,119]⟩) W:=fun _=>by kernel_rfl
 exact QkO
theorem Yo(w:World):Calls prog 32 #[.int .i64 1] w (Qcm (.string (bs QbV)) w):=by
 have ix:∀ W:World,(Instr.index 110 (.agg #[.string ⟨#[115,104,111,119]⟩,.string ⟨#[109,101,100,105,97]⟩,.string ⟨#[108,105,109,105,116]⟩,.string ⟨#[104,105,100,101]⟩]) (.int .i64 1)).run prog W=.ok (.string ⟨#[109,101,100,105,97]⟩) W:=fun _=>by kernel_rfl
 exact QkO
theorem Yp(w:World):Calls prog 32 #[.int .i64 2] w (Qcm (.string (bs Qcg)) w):=by
 have ix:∀ W:World,(Instr.index 110 (.agg #[.string ⟨#[115,104,111,119]⟩,.string ⟨#[109,101,100,105,97]⟩,.string ⟨#[108,105,109,105,116]⟩,.string ⟨#[104,105,100,101]⟩]) (.int .i64 2)).run prog W=.ok (.string ⟨#[108,105,109,105,116]⟩) W:=fun _=>by kernel_rfl
 exact QkO
theorem Yq(w:World):Calls prog 32 #[.int .i64 3] w (Qcm (.string (bs Qdj)) w):=by
 have ix:∀ W:World,(Instr.index 110 (.agg #[.string ⟨#[115,104,111,119]⟩,.string ⟨#[109,101,100,105,97]⟩,.string ⟨#[108,105,109,105,116]⟩,.string ⟨#[104,105,100,101]⟩]) (.int .i64 3)).run prog W=.ok (.string ⟨#[104,105,100,101]⟩) W:=fun _=>by kernel_rfl
 exact QkO
theorem Qjt{P:Prop}(h:P:=by
  rw[hs]
  exact⟨rfl,⟨k+1,rfl,HF.out.2.1⟩,(Chg.of_below HCH.out [p]).trans HF.out.2.2⟩):P:=h
theorem Qkc{P:Prop}(h:P:=by
  clear g1 hb1 hp1 HZ;go_wp2;go_roundw
  case rel=>exact⟨1,rfl,by omega,HZ2⟩
  case measure=>simp[intOf]):P:=h
theorem Qkb{P:Prop}(h:P:=by
  clear g1 hb1 hp1 HZ;go_wp2;go_roundw
  case rel=>exact⟨2,rfl,by omega,HZ2⟩
  case measure=>simp[intOf]):P:=h
theorem Jax(p:Nat)(A:Option Addr)(C:Nat)(T:List Tok)(k:Nat)(w:World)(h:PAt w p A C T k):Calls prog 96 #[.pointer (some ⟨p,0,none⟩)] w (PRp p A C T w (fun n=>.int .i64 n) (QcB (T.drop k))):=by
 have cn0:=fun W=>Z3 W
 have ca0:=fun W hW=>Jr p A C T k 0 Qgg W hW (by decide)
 have cn1:=fun W=>Z4 W
 have ca1:=fun W hW=>Jr p A C T k 0 Qdk W hW (by decide)
 have cw:=fun W hW=>KN p A C T k W hW
 have HP:=Zh h;obtain⟨R,hR⟩:∃ R,PRp p A C T w (fun n=>.int .i64 n) (QcB (T.drop k))=R:=⟨_,rfl⟩
 rw[hR];have HR:Hid (R=PRp p A C T w (fun n=>.int .i64 n) (QcB (T.drop k))):=hR.symm;clear h hR;generalize hqkInt:Qgg=qkInt at *;generalize hqkBool:Qdk=qkBool at *;have HQ:Hid (Qgg=qkInt/\Qdk=qkBool):=⟨hqkInt,hqkBool⟩
 clear hqkInt hqkBool;go_enter func96,ntmps96;go_wp2;go_loopw [3] (fun v3 wr=>∃ n:Nat,v3=.int .i64 n/\n<=2/\Hid (((0<n->acc 0 qkInt (T.drop k)=none)/\(1<n->acc 0 qkBool (T.drop k)=none))/\Below w.heap.size w wr)) (fun v _=>2-(intOf v).toNat)
 case atStart=>exact⟨0,rfl,by omega,by refine⟨?_,Below.refl _ _⟩;(repeat' constructor)<;>intro hh<;>omega⟩
 case round=>
 obtain⟨n,rfl,hn,hz⟩:=hrel;have hp1:=HP.out.chg hz.out.2
 rcases (show n=0\/n=1\/n=2 by omega) with rfl|rfl|rfl
 ·have HZ:=Zh hz.out;clear hz cw;go_wp2_with fail;refine(cn0 _).mono ?_;rintro e w1 ⟨rfl,rfl⟩;go_wp2_with fail;refine(ca0 _ hp1).mono ?_;rintro e w1 h1
  rcases h1 with⟨g1,g2,rfl,hp2,hc1⟩|⟨g1,rfl,hb1⟩
  ·have HF:=Zh (show _/\_/\_ from⟨JP g1 g2,hp2,hc1⟩);have HCH:=Zh (HZ.out.2);clear g1 g2 hp2 hc1 hp1;go_wp2;rw[HR.out]
   have hs:QcB (T.drop k)=.ok 0 (T.drop (k+1)):=by
    unfold QcB;rw[HQ.out.2,HQ.out.1];have hz:=HZ.out.1;have hf:=HF.out.1;simp only[hf]
   exact Qjt
  ·have HZ2:Hid (((0<1->acc 0 qkInt (T.drop k)=none)/\(1<1->acc 0 qkBool (T.drop k)=none))/\Below w.heap.size w w1):=by
    refine⟨?_,HZ.out.2.trans (hb1.mono HZ.out.2.size)⟩;have hno:=Kf g1;have hz:=HZ.out.1;exact⟨fun _=>hno,fun hh=>absurd hh (by omega)⟩
   exact Qkc
 ·have HZ:=Zh hz.out;clear hz cw;go_wp2_with fail;refine(cn1 _).mono ?_;rintro e w1 ⟨rfl,rfl⟩;go_wp2_with fail;refine(ca1 _ hp1).mono ?_;rintro e w1 h1
  rcases h1 with⟨g1,g2,rfl,hp2,hc1⟩|⟨g1,rfl,hb1⟩
  ·have HF:=Zh (show _/\_/\_ from⟨JP g1 g2,hp2,hc1⟩);have HCH:=Zh (HZ.out.2);clear g1 g2 hp2 hc1 hp1;go_wp2;rw[HR.out]
   have hs:QcB (T.drop k)=.ok 1 (T.drop (k+1)):=by
    unfold QcB;rw[HQ.out.2,HQ.out.1];have hz:=HZ.out.1;have hf:=HF.out.1;simp only[hz.1 (by omega),hf]
   exact Qjt
  ·have HZ2:Hid (((0<2->acc 0 qkInt (T.drop k)=none)/\(1<2->acc 0 qkBool (T.drop k)=none))/\Below w.heap.size w w1):=by
    refine⟨?_,HZ.out.2.trans (hb1.mono HZ.out.2.size)⟩;have hno:=Kf g1;have hz:=HZ.out.1;exact⟨fun _=>hz.1 (by omega),fun _=>hno⟩
   exact Qkb
 ·have HZ:=Zh hz.out;clear hz;go_wp2_with fail;refine(cw _ hp1).mono ?_;rintro e w2 ⟨rfl,hb2⟩;go_wp2;refine⟨rfl,?_⟩;rw[HR.out]
  have hs:QcB (T.drop k)=.bad (hd (T.drop k)).off:=by
   unfold QcB;rw[HQ.out.2,HQ.out.1];have hz:=HZ.out.1;simp only[hz.1 (by omega),hz.2 (by omega)]
  rw[hs];exact⟨rfl,Chg.of_below (HZ.out.2.trans (hb2.mono HZ.out.2.size)) [p]⟩
theorem Jdy(p:Nat)(A:Option Addr)(C:Nat)(T:List Tok)(k:Nat)(w:World)(h:PAt w p A C T k):Calls prog 69 #[.pointer (some ⟨p,0,none⟩)] w (PRp p A C T w (fun n=>.int .i64 n) (Qcj (T.drop k))):=by
 have cn0:=fun W=>Yn W
 have ca0:=fun W hW=>Jr p A C T k 0 Qcx W hW (by decide)
 have cn1:=fun W=>Yo W
 have ca1:=fun W hW=>Jr p A C T k 0 QbV W hW (by decide)
 have cn2:=fun W=>Yp W
 have ca2:=fun W hW=>Jr p A C T k 0 Qcg W hW (by decide)
 have cn3:=fun W=>Yq W
 have ca3:=fun W hW=>Jr p A C T k 0 Qdj W hW (by decide)
 have cw:=fun W hW=>KN p A C T k W hW
 have HP:=Zh h;obtain⟨R,hR⟩:∃ R,PRp p A C T w (fun n=>.int .i64 n) (Qcj (T.drop k))=R:=⟨_,rfl⟩
 rw[hR];have HR:Hid (R=PRp p A C T w (fun n=>.int .i64 n) (Qcj (T.drop k))):=hR.symm;clear h hR;generalize hqkShow:Qcx=qkShow at *;generalize hqkMedia:QbV=qkMedia at *;generalize hqkLimit:Qcg=qkLimit at *;generalize hqkHide:Qdj=qkHide at *;have HQ:Hid (Qcx=qkShow/\QbV=qkMedia/\Qcg=qkLimit/\Qdj=qkHide):=⟨hqkShow,hqkMedia,hqkLimit,hqkHide⟩
 clear hqkShow hqkMedia hqkLimit hqkHide;go_enter func69,ntmps69;go_wp2;go_loopw [3] (fun v3 wr=>∃ n:Nat,v3=.int .i64 n/\n<=4/\Hid (((0<n->acc 0 qkShow (T.drop k)=none)/\(1<n->acc 0 qkMedia (T.drop k)=none)/\(2<n->acc 0 qkLimit (T.drop k)=none)/\(3<n->acc 0 qkHide (T.drop k)=none))/\Below w.heap.size w wr)) (fun v _=>4-(intOf v).toNat)
 case atStart=>exact⟨0,rfl,by omega,by refine⟨?_,Below.refl _ _⟩;(repeat' constructor)<;>intro hh<;>omega⟩
 case round=>
 obtain⟨n,rfl,hn,hz⟩:=hrel;have hp1:=HP.out.chg hz.out.2
 rcases (show n=0\/n=1\/n=2\/n=3\/n=4 by omega) with rfl|rfl|rfl|rfl|rfl
 ·have HZ:=Zh hz.out;clear hz cw;go_wp2_with fail;refine(cn0 _).mono ?_;rintro e w1 ⟨rfl,rfl⟩;go_wp2_with fail;refine(ca0 _ hp1).mono ?_;rintro e w1 h1
  rcases h1 with⟨g1,g2,rfl,hp2,hc1⟩|⟨g1,rfl,hb1⟩
  ·have HF:=Zh (show _/\_/\_ from⟨JP g1 g2,hp2,hc1⟩);have HCH:=Zh (HZ.out.2);clear g1 g2 hp2 hc1 hp1;go_wp2;rw[HR.out]
   have hs:Qcj (T.drop k)=.ok 0 (T.drop (k+1)):=by
    unfold Qcj;rw[HQ.out.2.2.2,HQ.out.2.2.1,HQ.out.2.1,HQ.out.1];have hz:=HZ.out.1;have hf:=HF.out.1;simp only[hf]
   exact Qjt
  ·have HZ2:Hid (((0<1->acc 0 qkShow (T.drop k)=none)/\(1<1->acc 0 qkMedia (T.drop k)=none)/\(2<1->acc 0 qkLimit (T.drop k)=none)/\(3<1->acc 0 qkHide (T.drop k)=none))/\Below w.heap.size w w1):=by
    refine⟨?_,HZ.out.2.trans (hb1.mono HZ.out.2.size)⟩;have hno:=Kf g1;have hz:=HZ.out.1;exact⟨fun _=>hno,fun hh=>absurd hh (by omega),fun hh=>absurd hh (by omega),fun hh=>absurd hh (by omega)⟩
   exact Qkc
 ·have HZ:=Zh hz.out;clear hz cw;go_wp2_with fail;refine(cn1 _).mono ?_;rintro e w1 ⟨rfl,rfl⟩;go_wp2_with fail;refine(ca1 _ hp1).mono ?_;rintro e w1 h1
  rcases h1 with⟨g1,g2,rfl,hp2,hc1⟩|⟨g1,rfl,hb1⟩
  ·have HF:=Zh (show _/\_/\_ from⟨JP g1 g2,hp2,hc1⟩);have HCH:=Zh (HZ.out.2);clear g1 g2 hp2 hc1 hp1;go_wp2;rw[HR.out]
   have hs:Qcj (T.drop k)=.ok 1 (T.drop (k+1)):=by
    unfold Qcj;rw[HQ.out.2.2.2,HQ.out.2.2.1,HQ.out.2.1,HQ.out.1];have hz:=HZ.out.1;have hf:=HF.out.1;simp only[hz.1 (by omega),hf]
   exact Qjt
  ·have HZ2:Hid (((0<2->acc 0 qkShow (T.drop k)=none)/\(1<2->acc 0 qkMedia (T.drop k)=none)/\(2<2->acc 0 qkLimit (T.drop k)=none)/\(3<2->acc 0 qkHide (T.drop k)=none))/\Below w.heap.size w w1):=by
    refine⟨?_,HZ.out.2.trans (hb1.mono HZ.out.2.size)⟩;have hno:=Kf g1;have hz:=HZ.out.1;exact⟨fun _=>hz.1 (by omega),fun _=>hno,fun hh=>absurd hh (by omega),fun hh=>absurd hh (by omega)⟩
   exact Qkb
 ·have HZ:=Zh hz.out;clear hz cw;go_wp2_with fail;refine(cn2 _).mono ?_;rintro e w1 ⟨rfl,rfl⟩;go_wp2_with fail;refine(ca2 _ hp1).mono ?_;rintro e w1 h1
  rcases h1 with⟨g1,g2,rfl,hp2,hc1⟩|⟨g1,rfl,hb1⟩
  ·have HF:=Zh (show _/\_/\_ from⟨JP g1 g2,hp2,hc1⟩);have HCH:=Zh (HZ.out.2);clear g1 g2 hp2 hc1 hp1;go_wp2;rw[HR.out]
   have hs:Qcj (T.drop k)=.ok 2 (T.drop (k+1)):=by
    unfold Qcj;rw[HQ.out.2.2.2,HQ.out.2.2.1,HQ.out.2.1,HQ.out.1];have hz:=HZ.out.1;have hf:=HF.out.1;simp only[hz.1 (by omega),hz.2.1 (by omega),hf]
   exact Qjt
  ·have HZ2:Hid (((0<3->acc 0 qkShow (T.drop k)=none)/\(1<3->acc 0 qkMedia (T.drop k)=none)/\(2<3->acc 0 qkLimit (T.drop k)=none)/\(3<3->acc 0 qkHide (T.drop k)=none))/\Below w.heap.size w w1):=by
    refine⟨?_,HZ.out.2.trans (hb1.mono HZ.out.2.size)⟩;have hno:=Kf g1;have hz:=HZ.out.1;exact⟨fun _=>hz.1 (by omega),fun _=>hz.2.1 (by omega),fun _=>hno,fun hh=>absurd hh (by omega)⟩
   clear g1 hb1 hp1 HZ;go_wp2;go_roundw
   case rel=>exact⟨3,rfl,by omega,HZ2⟩
   case measure=>simp[intOf]
 ·have HZ:=Zh hz.out;clear hz cw;go_wp2_with fail;refine(cn3 _).mono ?_;rintro e w1 ⟨rfl,rfl⟩;go_wp2_with fail;refine(ca3 _ hp1).mono ?_;rintro e w1 h1
  rcases h1 with⟨g1,g2,rfl,hp2,hc1⟩|⟨g1,rfl,hb1⟩
  ·have HF:=Zh (show _/\_/\_ from⟨JP g1 g2,hp2,hc1⟩);have HCH:=Zh (HZ.out.2);clear g1 g2 hp2 hc1 hp1;go_wp2;rw[HR.out]
   have hs:Qcj (T.drop k)=.ok 3 (T.drop (k+1)):=by
    unfold Qcj;rw[HQ.out.2.2.2,HQ.out.2.2.1,HQ.out.2.1,HQ.out.1];have hz:=HZ.out.1;have hf:=HF.out.1;simp only[hz.1 (by omega),hz.2.1 (by omega),hz.2.2.1 (by omega),hf]
   exact Qjt
  ·have HZ2:Hid (((0<4->acc 0 qkShow (T.drop k)=none)/\(1<4->acc 0 qkMedia (T.drop k)=none)/\(2<4->acc 0 qkLimit (T.drop k)=none)/\(3<4->acc 0 qkHide (T.drop k)=none))/\Below w.heap.size w w1):=by
    refine⟨?_,HZ.out.2.trans (hb1.mono HZ.out.2.size)⟩;have hno:=Kf g1;have hz:=HZ.out.1;exact⟨fun _=>hz.1 (by omega),fun _=>hz.2.1 (by omega),fun _=>hz.2.2.1 (by omega),fun _=>hno⟩
   clear g1 hb1 hp1 HZ;go_wp2;go_roundw
   case rel=>exact⟨4,rfl,by omega,HZ2⟩
   case measure=>simp[intOf]
 ·have HZ:=Zh hz.out;clear hz;go_wp2_with fail;refine(cw _ hp1).mono ?_;rintro e w2 ⟨rfl,hb2⟩;go_wp2;refine⟨rfl,?_⟩;rw[HR.out]
  have hs:Qcj (T.drop k)=.bad (hd (T.drop k)).off:=by
   unfold Qcj;rw[HQ.out.2.2.2,HQ.out.2.2.1,HQ.out.2.1,HQ.out.1];have hz:=HZ.out.1;simp only[hz.1 (by omega),hz.2.1 (by omega),hz.2.2.1 (by omega),hz.2.2.2 (by omega)]
  rw[hs];exact⟨rfl,Chg.of_below (HZ.out.2.trans (hb2.mono HZ.out.2.size)) [p]⟩
theorem KC(kd:Int)(s:List UInt8)(r:List Tok):(∃ r',Qaf kd s r=.ok () r')\/Qaf kd s r=.bad (hd r).off:=by
 unfold Qaf
 cases acc kd s r with
 |some r'=>exact .inl ⟨r',rfl⟩
 |none=>exact .inr rfl
theorem Y1(r:List Tok):(∃ s r',Qbp r=.ok s r')\/Qbp r=.bad (hd r).off:=by
 unfold Qbp;split
 ·exact .inl ⟨_,_,rfl⟩
 ·exact .inr rfl
theorem Y2(p:Nat)(A:Option Addr)(C:Nat)(T:List Tok)(k:Nat)(w:World)(h:PAt w p A C T k):Calls prog 129 #[.pointer (some ⟨p,0,none⟩)] w (PRp p A C T w (fun s=>.string (bs s)) (Qav (T.drop k))):=by
 obtain⟨R,hR⟩:∃ R,PRp p A C T w (fun s=>.string (bs s)) (Qav (T.drop k))=R:=⟨_,rfl⟩
 rw[hR];have HR:Hid (R=PRp p A C T w (fun s=>.string (bs s)) (Qav (T.drop k))):=hR.symm;have HP:=Zh h;clear h hR;go_enter func129,ntmps129;go_wp2_with fail;refine(QdA p A C T k [40] w HP.out).mono ?_;intro e w1 h1
 rcases KC 3 [40] (T.drop k) with⟨r1,hx⟩|hx
 ·rw[hx]at h1;obtain⟨rfl,⟨k1,hr,hp1⟩,hc1⟩:=h1;subst hr;have HX1:=Zh hx;have HP1:=Zh hp1;have HC1:=Zh hc1;clear hx hp1 hc1;go_wp2_with fail;refine(Jbb p A C T k1 w1 HP1.out).mono ?_;intro e w2 h2
  rcases Y1 (T.drop k1) with⟨s,r2,hx⟩|hx
  ·rw[hx]at h2;obtain⟨rfl,⟨k2,hr,hp2⟩,hc2⟩:=h2;subst hr;have HX2:=Zh hx;have HP2:=Zh hp2;have HC2:=Zh (HC1.out.trans hc2);clear hx hp2 hc2;go_wp2_with fail;refine(QdA p A C T k2 [41] w2 HP2.out).mono ?_;intro e w3 h3
   rcases KC 3 [41] (T.drop k2) with⟨r3,hx⟩|hx
   ·rw[hx]at h3;obtain⟨rfl,⟨k3,hr,hp3⟩,hc3⟩:=h3;subst hr;have HS:Hid (Qav (T.drop k)=.ok s (T.drop k3)):=by rw[Hid];unfold Qav;rw[HX1.out];simp only[PR.bind];rw[HX2.out];simp only;rw[hx]
    have HF:=Zh (show _/\_ from⟨hp3,HC2.out.trans hc3⟩);clear hx hp3 hc3;go_wp2;rw[HR.out,HS.out];exact⟨rfl,⟨k3,rfl,HF.out.1⟩,HF.out.2⟩
   ·rw[hx]at h3;obtain⟨rfl,hc3⟩:=h3;have HS:Hid (Qav (T.drop k)=.bad (hd (T.drop k2)).off):=by rw[Hid];unfold Qav;rw[HX1.out];simp only[PR.bind];rw[HX2.out];simp only;rw[hx]
    refine⟨rfl,?_⟩;rw[HR.out,HS.out];exact⟨rfl,HC2.out.trans hc3⟩
  ·rw[hx]at h2;obtain⟨rfl,hc2⟩:=h2;have HS:Hid (Qav (T.drop k)=.bad (hd (T.drop k1)).off):=by rw[Hid];unfold Qav;rw[HX1.out];simp only[PR.bind];rw[hx]
   refine⟨rfl,?_⟩;rw[HR.out,HS.out];exact⟨rfl,HC1.out.trans hc2⟩
 ·rw[hx]at h1;obtain⟨rfl,hc1⟩:=h1;have HS:Hid (Qav (T.drop k)=.bad (hd (T.drop k)).off):=by rw[Hid];unfold Qav;rw[hx];rfl
  refine⟨rfl,?_⟩;rw[HR.out,HS.out];exact⟨rfl,hc1⟩
def OpP(w:World)(o:Option Int)(e:Ending)(w':World):Prop:=e=.returned (.tuple #[.int .i64 (o.getD 0),.bool o.isSome])/\Below w.heap.size w w'
theorem Qey{P:Prop}(h:P:=by
  go_enter func116,ntmps116;go_wp2;rw[HR.out,HS.out]
  exact⟨rfl,HB.out⟩):P:=h
theorem Jlq(t:Tok)(w:World):Calls prog 116 #[.int .i64 1,.agg (QcU t)] w (OpP w (opK 1 t)):=by
 obtain⟨tk,tx,tn,tf⟩:=t;obtain⟨R,hR⟩:∃ R,OpP w (opK 1 ⟨tk,tx,tn,tf⟩)=R:=⟨_,rfl⟩
 rw[hR];have HR:Hid (R=OpP w (opK 1 ⟨tk,tx,tn,tf⟩)):=hR.symm;have u1:=Jl tx;have hN:=zzw w (.cells #[.int .i64 tk,.string (bs tx),.int .i64 tn,.int .i64 tf] 46);have HB:=Zh ((Below.refl w.heap.size w).alloc zzl (.cells #[.int .i64 tk,.string (bs tx),.int .i64 tn,.int .i64 tf] 46));have c0:(w.alloc (.cells #[.int .i64 tk,.string (bs tx),.int .i64 tn,.int .i64 tf] 46)).cell? ⟨w.heap.size,0,none⟩=some (.int .i64 tk):=by rw[Ja hN];rfl
 have c1:(w.alloc (.cells #[.int .i64 tk,.string (bs tx),.int .i64 tn,.int .i64 tf] 46)).cell? ⟨w.heap.size,1,none⟩=some (.string (bs tx)):=by rw[Ja hN];rfl
 unfold QcU;simp only;clear hR hN
 by_cases k0:tk=0
 ·subst k0
  by_cases h0:tx=[111,114]
  ·have e0:(tx==[111,114])=true:=beq_iff_eq.2 h0;have HS:Hid (opK 1 ⟨0,tx,tn,tf⟩=some 17):=by rw[Hid,h0];rfl
   clear h0;exact Qey
  ·have e0:(tx==[111,114])=false:=zzq h0;have HS:Hid (opK 1 ⟨0,tx,tn,tf⟩=none):=by rw[Hid];unfold opK;simp[kOr,QgU,h0]
   clear h0;exact Qey
 ·have d0:(tk==0)=false:=zzq k0
  by_cases k3:tk=3
  ·subst k3;have HS:Hid (opK 1 ⟨3,tx,tn,tf⟩=none):=by rw[Hid];unfold opK;simp
   clear d0 k0;exact Qey
  ·have d3:(tk==3)=false:=zzq k3;have HS:Hid (opK 1 ⟨tk,tx,tn,tf⟩=none):=by rw[Hid];unfold opK;simp[k0,k3]
   exact Qey
theorem Jlr(t:Tok)(w:World):Calls prog 116 #[.int .i64 2,.agg (QcU t)] w (OpP w (opK 2 t)):=by
 obtain⟨tk,tx,tn,tf⟩:=t;obtain⟨R,hR⟩:∃ R,OpP w (opK 2 ⟨tk,tx,tn,tf⟩)=R:=⟨_,rfl⟩
 rw[hR];have HR:Hid (R=OpP w (opK 2 ⟨tk,tx,tn,tf⟩)):=hR.symm;have u1:=Jl tx;have hN:=zzw w (.cells #[.int .i64 tk,.string (bs tx),.int .i64 tn,.int .i64 tf] 46);have HB:=Zh ((Below.refl w.heap.size w).alloc zzl (.cells #[.int .i64 tk,.string (bs tx),.int .i64 tn,.int .i64 tf] 46));have c0:(w.alloc (.cells #[.int .i64 tk,.string (bs tx),.int .i64 tn,.int .i64 tf] 46)).cell? ⟨w.heap.size,0,none⟩=some (.int .i64 tk):=by rw[Ja hN];rfl
 have c1:(w.alloc (.cells #[.int .i64 tk,.string (bs tx),.int .i64 tn,.int .i64 tf] 46)).cell? ⟨w.heap.size,1,none⟩=some (.string (bs tx)):=by rw[Ja hN];rfl
 unfold QcU;simp only;clear hR hN
 by_cases k0:tk=0
 ·subst k0
  by_cases h0:tx=[97,110,100]
  ·have e0:(tx==[97,110,100])=true:=beq_iff_eq.2 h0;have HS:Hid (opK 2 ⟨0,tx,tn,tf⟩=some 16):=by rw[Hid,h0];rfl
   clear h0;exact Qey
  ·have e0:(tx==[97,110,100])=false:=zzq h0;have HS:Hid (opK 2 ⟨0,tx,tn,tf⟩=none):=by rw[Hid];unfold opK;simp[kOr,QgU,h0]
   clear h0;exact Qey
 ·have d0:(tk==0)=false:=zzq k0
  by_cases k3:tk=3
  ·subst k3;have HS:Hid (opK 2 ⟨3,tx,tn,tf⟩=none):=by rw[Hid];unfold opK;simp
   clear d0 k0;exact Qey
  ·have d3:(tk==3)=false:=zzq k3;have HS:Hid (opK 2 ⟨tk,tx,tn,tf⟩=none):=by rw[Hid];unfold opK;simp[k0,k3]
   exact Qey
theorem Jls(t:Tok)(w:World):Calls prog 116 #[.int .i64 5,.agg (QcU t)] w (OpP w (opK 5 t)):=by
 obtain⟨tk,tx,tn,tf⟩:=t;obtain⟨R,hR⟩:∃ R,OpP w (opK 5 ⟨tk,tx,tn,tf⟩)=R:=⟨_,rfl⟩
 rw[hR];have HR:Hid (R=OpP w (opK 5 ⟨tk,tx,tn,tf⟩)):=hR.symm;have u1:=Jl tx;have hN:=zzw w (.cells #[.int .i64 tk,.string (bs tx),.int .i64 tn,.int .i64 tf] 46);have HB:=Zh ((Below.refl w.heap.size w).alloc zzl (.cells #[.int .i64 tk,.string (bs tx),.int .i64 tn,.int .i64 tf] 46));have c0:(w.alloc (.cells #[.int .i64 tk,.string (bs tx),.int .i64 tn,.int .i64 tf] 46)).cell? ⟨w.heap.size,0,none⟩=some (.int .i64 tk):=by rw[Ja hN];rfl
 have c1:(w.alloc (.cells #[.int .i64 tk,.string (bs tx),.int .i64 tn,.int .i64 tf] 46)).cell? ⟨w.heap.size,1,none⟩=some (.string (bs tx)):=by rw[Ja hN];rfl
 unfold QcU;simp only;clear hR hN
 by_cases k0:tk=0
 ·subst k0;have HS:Hid (opK 5 ⟨0,tx,tn,tf⟩=none):=by rw[Hid];unfold opK;simp
  exact Qey
 ·have d0:(tk==0)=false:=zzq k0
  by_cases k3:tk=3
  ·subst k3
   by_cases h0:tx=[43]
   ·have e0:(tx==[43])=true:=beq_iff_eq.2 h0;have HS:Hid (opK 5 ⟨3,tx,tn,tf⟩=some 8):=by rw[Hid,h0];rfl
    clear d0 k0 h0;exact Qey
   have e0:(tx==[43])=false:=zzq h0
   by_cases h1:tx=[45]
   ·have e1:(tx==[45])=true:=beq_iff_eq.2 h1;have HS:Hid (opK 5 ⟨3,tx,tn,tf⟩=some 9):=by rw[Hid,h1];rfl
    clear d0 k0 h0 h1;exact Qey
   have e1:(tx==[45])=false:=zzq h1;have HS:Hid (opK 5 ⟨3,tx,tn,tf⟩=none):=by rw[Hid];unfold opK;simp[h0,h1]
   clear d0 k0 h0 h1;exact Qey
  ·have d3:(tk==3)=false:=zzq k3;have HS:Hid (opK 5 ⟨tk,tx,tn,tf⟩=none):=by rw[Hid];unfold opK;simp[k0,k3]
   exact Qey
theorem Jlt(t:Tok)(w:World):Calls prog 116 #[.int .i64 6,.agg (QcU t)] w (OpP w (opK 6 t)):=by
 obtain⟨tk,tx,tn,tf⟩:=t;obtain⟨R,hR⟩:∃ R,OpP w (opK 6 ⟨tk,tx,tn,tf⟩)=R:=⟨_,rfl⟩
 rw[hR];have HR:Hid (R=OpP w (opK 6 ⟨tk,tx,tn,tf⟩)):=hR.symm;have u1:=Jl tx;have hN:=zzw w (.cells #[.int .i64 tk,.string (bs tx),.int .i64 tn,.int .i64 tf] 46);have HB:=Zh ((Below.refl w.heap.size w).alloc zzl (.cells #[.int .i64 tk,.string (bs tx),.int .i64 tn,.int .i64 tf] 46));have c0:(w.alloc (.cells #[.int .i64 tk,.string (bs tx),.int .i64 tn,.int .i64 tf] 46)).cell? ⟨w.heap.size,0,none⟩=some (.int .i64 tk):=by rw[Ja hN];rfl
 have c1:(w.alloc (.cells #[.int .i64 tk,.string (bs tx),.int .i64 tn,.int .i64 tf] 46)).cell? ⟨w.heap.size,1,none⟩=some (.string (bs tx)):=by rw[Ja hN];rfl
 unfold QcU;simp only;clear hR hN
 by_cases k0:tk=0
 ·subst k0;have HS:Hid (opK 6 ⟨0,tx,tn,tf⟩=none):=by rw[Hid];unfold opK;simp
  exact Qey
 ·have d0:(tk==0)=false:=zzq k0
  by_cases k3:tk=3
  ·subst k3
   by_cases h0:tx=[42]
   ·have e0:(tx==[42])=true:=beq_iff_eq.2 h0;have HS:Hid (opK 6 ⟨3,tx,tn,tf⟩=some 10):=by rw[Hid,h0];rfl
    clear d0 k0 h0;exact Qey
   have e0:(tx==[42])=false:=zzq h0
   by_cases h1:tx=[47]
   ·have e1:(tx==[47])=true:=beq_iff_eq.2 h1;have HS:Hid (opK 6 ⟨3,tx,tn,tf⟩=some 11):=by rw[Hid,h1];rfl
    clear d0 k0 h0 h1;exact Qey
   have e1:(tx==[47])=false:=zzq h1
   by_cases h2:tx=[37]
   ·have e2:(tx==[37])=true:=beq_iff_eq.2 h2;have HS:Hid (opK 6 ⟨3,tx,tn,tf⟩=some 12):=by rw[Hid,h2];rfl
    clear d0 k0 h0 h1 h2;exact Qey
   have e2:(tx==[37])=false:=zzq h2;have HS:Hid (opK 6 ⟨3,tx,tn,tf⟩=none):=by rw[Hid];unfold opK;simp[h0,h1,h2]
   clear d0 k0 h0 h1 h2;exact Qey
  ·have d3:(tk==3)=false:=zzq k3;have HS:Hid (opK 6 ⟨tk,tx,tn,tf⟩=none):=by rw[Hid];unfold opK;simp[k0,k3]
   exact Qey
theorem Jf(a:An):∃ xA xn xc,Qaa a=#[.int .i64 a.kind,.int .i64 a.num,.string (bs a.name),.int .i64 a.off,.slice xA xn xc]:=by
 obtain⟨k,n,s,o,b,c,l⟩:=a
 by_cases h:l=[]
 ·exact⟨none,0,0,by show #[_,_,_,_,QaB b c l]=_;unfold QaB;rw[if_pos h];rfl⟩
 ·exact⟨some ⟨b,0,none⟩,l.length,c,by show #[_,_,_,_,QaB b c l]=_;unfold QaB;rw[if_neg h];rfl⟩
theorem Qct{w:World}{T t:Nat}{a0 a1 a2 a3 a4:Value}(v0 v1 v2 v3 v4:Value)(h:w.heap[T]?=some (.cells #[a0,a1,a2,a3,a4] t (0,0))) :
  (((((w.setCell ⟨T,0,none⟩ v0).setCell ⟨T,1,none⟩ v1).setCell ⟨T,2,none⟩ v2).setCell ⟨T,3,none⟩ v3).setCell ⟨T,4,none⟩ v4).heap[T]?=some (.cells #[v0,v1,v2,v3,v4] t (0,0)):=by
 have h0:=heap_setCell_same _ _ 0 _ _ v0 h;have h1:=heap_setCell_same _ _ 1 _ _ v1 h0;have h2:=heap_setCell_same _ _ 2 _ _ v2 h1;have h3:=heap_setCell_same _ _ 3 _ _ v3 h2;exact heap_setCell_same _ _ 4 _ _ v4 h3
def put5(W:World)(b:Nat)(v0 v1 v2 v3 v4:Value):World:=((((W.setCell ⟨b,0,none⟩ v0).setCell ⟨b,1,none⟩ v1).setCell ⟨b,2,none⟩ v2).setCell ⟨b,3,none⟩ v3).setCell ⟨b,4,none⟩ v4
theorem Ki{S:List Nat}{W:World}{b:Nat}(v0 v1 v2 v3 v4:Value)(hb:b∈S):Chg S W (put5 W b v0 v1 v2 v3 v4):=
 (((((Chg.refl S W).setCell (.inl hb) v0).setCell (.inl hb) v1).setCell (.inl hb) v2).setCell (.inl hb) v3).setCell (.inl hb) v4
theorem Kk(W:World)(b:Nat)(v0 v1 v2 v3 v4:Value):(put5 W b v0 v1 v2 v3 v4).heap.size=W.heap.size:=by simp[put5,World.setCell]
theorem PAt.put5{W:World}{p q:Nat}{A:Option Addr}{C:Nat}{T:List Tok}{k:Nat}(h:PAt W p A C T k)(h1:q≠p)(h2:∀ b o,A=some ⟨b,o,none⟩->q≠b)(v0 v1 v2 v3 v4:Value):PAt (put5 W q v0 v1 v2 v3 v4) p A C T k:=
 ((((h.setFar h1 h2 0 v0).setFar h1 h2 1 v1).setFar h1 h2 2 v2).setFar h1 h2 3 v3).setFar h1 h2 4 v4
def NdP(p:Nat)(A:Option Addr)(C:Nat)(T:List Tok)(w:World)(x:PR Nd)(e:Ending)(w':World):Prop:=
 match x with
 |.out=>True
 |.bad o=>Qjp p w o e w'
 |.ok nd r=>∃ a:An,a.nd=nd/\e=.returned (.agg (Qaa a))/\a.At w'/\QbY w.heap.size w'.heap.size a/\(∃ k',r=T.drop k'/\PAt w' p A C T k')/\Chg [p] w w'
theorem KO{W:World}{b t:Nat}{cs:Array Value}{fr:Nat × Nat}(h:W.heap[b]?=some (.cells cs t fr)){j:Nat}{u:Value}(hu:cs.toList[j]?=some u):W.cell? ⟨b,j,none⟩=some u:=by
 rw[Ja h];simpa using hu
theorem Qkq{P:Prop}(h:P:=by
  unfold Qah
  rcases List.mem_cons.1 ha with rfl|ha
  ·exact List.mem_append_left _ hb
  ·exact List.mem_append_right _ (ih ha)):P:=h
theorem Yz{w W3:World}{p:Nat}{A:Option Addr}{C:Nat}{T:List Tok}{k' lo:Nat}{kids:List An}{cs:Array Value}(hkids:kids≠[])(hcs:cs.toList=QcV kids)
  (hat:∀ a∈kids,a.At W3) (hm:Qdg lo W3.heap.size kids) (hlo:w.heap.size<lo) (hP:PAt W3 p A C T k') (hC:Chg [p] w W3) (hp:p<w.heap.size) (hT:∀ b o,A=some ⟨b,o,none⟩->b<w.heap.size)
  (kk n:Int) (s:List UInt8) (o:Int) (c:Nat) (v0 v1 v2 v3 v4:Value) :
  (An.mk kk n s o W3.heap.size c kids).At ((put5 W3 w.heap.size v0 v1 v2 v3 v4).alloc (.cells cs 103))/\
   QbY w.heap.size ((put5 W3 w.heap.size v0 v1 v2 v3 v4).alloc (.cells cs 103)).heap.size (An.mk kk n s o W3.heap.size c kids)/\
   PAt ((put5 W3 w.heap.size v0 v1 v2 v3 v4).alloc (.cells cs 103)) p A C T k'/\Chg [p] w ((put5 W3 w.heap.size v0 v1 v2 v3 v4).alloc (.cells cs 103)):=by
 have hle:=hm.le;have hsz:=Kk W3 w.heap.size v0 v1 v2 v3 v4;have hch:=Ki (S:=[w.heap.size]) (W:=W3) v0 v1 v2 v3 v4 (by simp:w.heap.size∈[w.heap.size]);have hnew:=zzw (put5 W3 w.heap.size v0 v1 v2 v3 v4) (.cells cs 103);rw[hsz]at hnew
 have hold:∀ b,b<W3.heap.size->b≠w.heap.size->((put5 W3 w.heap.size v0 v1 v2 v3 v4).alloc (.cells cs 103)).heap[b]?=W3.heap[b]?:=fun b hb hn=>
  (Below.heap_alloc _ _ _ (by rw[hsz];exact hb)).trans (hch.block b hb (by simpa using hn))
 refine⟨?_,?_,?_,?_⟩
 ·unfold An.At;refine⟨fun _ j=>Jc hnew j,KI kids 0 (fun j u hu=>?_) fun a ha=>?_⟩
  ·rw[Nat.zero_mul,Nat.zero_add];exact KO hnew (by rw[hcs];exact hu)
  ·refine JJ a (hat a ha) fun b hb=>?_
   have hbb:lo<=b/\b<W3.heap.size:=by
    refine hm.foot.2 b ?_;clear hat hm hcs hnew hold hkids
    induction kids with
    |nil=>cases ha
    |cons x l ih=>
     exact Qkq
   exact hold b hbb.2 (by omega)
 ·rw[World.size_alloc,hsz];exact(JaZ hm zzl kk n s o c).mono (Nat.le_of_lt hlo) zzl
 ·exact(hP.put5 (Ne.symm (Nat.ne_of_lt hp)) (fun b o e=>by have:=hT b o e;omega) _ _ _ _ _).chg (zzb.alloc zzl _)
 ·exact(hC.step hch fun b hb=>.inr (by simp at hb;omega)).alloc _
theorem VB{W:World}{b t:Nat}{a0 a1 a2 a3 a4:Value}(X:Obj)(v0 v1 v2 v3 v4:Value)(h:W.heap[b]?=some (.cells #[a0,a1,a2,a3,a4] t (0,0))):((put5 W b v0 v1 v2 v3 v4).alloc X).heap[b]?=some (.cells #[v0,v1,v2,v3,v4] t (0,0)):=
 (Below.heap_alloc _ _ _ (Jb (Qct v0 v1 v2 v3 v4 h))).trans (Qct v0 v1 v2 v3 v4 h)
abbrev C5(W:World)(b:Nat)(a0 a1 a2 a3 a4:Value):Prop:=
 W.cell? ⟨b,0,none⟩=some a0/\W.cell? ⟨b,1,none⟩=some a1/\W.cell? ⟨b,2,none⟩=some a2/\W.cell? ⟨b,3,none⟩=some a3/\W.cell? ⟨b,4,none⟩=some a4
theorem Ji{W:World}{b t:Nat}{a0 a1 a2 a3 a4:Value}{fr:Nat × Nat}(h:W.heap[b]?=some (.cells #[a0,a1,a2,a3,a4] t fr)) :
  W.cell? ⟨b,0,none⟩=some a0/\W.cell? ⟨b,1,none⟩=some a1/\W.cell? ⟨b,2,none⟩=some a2/\W.cell? ⟨b,3,none⟩=some a3/\W.cell? ⟨b,4,none⟩=some a4:=by
 refine⟨?_,?_,?_,?_,?_⟩<;>(rw[Ja h];rfl)
theorem Jq{W:World}{b t:Nat}{cs:Array Value}(h:W.heap[b]?=some (.cells cs t (0,0))) :
  W.frozen? ⟨b,0,none⟩=false/\W.frozen? ⟨b,1,none⟩=false/\W.frozen? ⟨b,2,none⟩=false/\W.frozen? ⟨b,3,none⟩=false/\W.frozen? ⟨b,4,none⟩=false:=
 ⟨Jc h 0,Jc h 1,Jc h 2,Jc h 3,Jc h 4⟩
theorem Jcu(t:Tok)(W:World):(Instr.field 46 (.agg (QcU t)) 3).run prog W=.ok (.int .i64 t.off) W:=by obtain⟨a,b,c,d⟩:=t;kernel_rfl
theorem Jbc{W:World}{b t:Nat}{a0 a1:Value}{fr:Nat × Nat}(h:W.heap[b]?=some (.cells #[a0,a1] t fr)):W.cell? ⟨b,0,none⟩=some a0:=by rw[Ja h];rfl
theorem NdP.on{p:Nat}{A:Option Addr}{C:Nat}{T:List Tok}{w w':World}{x:PR Nd}{e:Ending}{Post:Ending->World->Prop}(h:NdP p A C T w x e w')(hne:x≠.out)
  (hbad:∀ q,x=.bad q->Chg [p] w w'->Post (.panicked [{ v:=QeS q,recovered:=false }]) w')
  (hok:∀ (a:An) (k':Nat) (xA:Option Addr) (xn xc:Nat),x=.ok a.nd (T.drop k')->Qaa a=#[.int .i64 a.kind,.int .i64 a.num,.string (bs a.name),.int .i64 a.off,.slice xA xn xc]->
   a.At w'/\QbY w.heap.size w'.heap.size a/\PAt w' p A C T k'/\Chg [p] w w'->Post (.returned (.agg #[.int .i64 a.kind,.int .i64 a.num,.string (bs a.name),.int .i64 a.off,.slice xA xn xc])) w'):Post e w':=by
 cases x with
 |out=>exact absurd rfl hne
 |bad q=>obtain⟨rfl,hc⟩:=h;exact hbad q rfl hc
 |ok nd r=>
  obtain⟨a,rfl,rfl,hat,hm,⟨k',rfl,hp⟩,hc⟩:=h;obtain⟨xA,xn,xc,hf⟩:=Jf a;rw[hf];exact hok a k' xA xn xc rfl hf ⟨hat,hm,hp,hc⟩
theorem PRp.on{α:Type}{p:Nat}{A:Option Addr}{C:Nat}{T:List Tok}{w w':World}{g:α->Value}{x:PR α}{e:Ending}{Post:Ending->World->Prop}(h:PRp p A C T w g x e w')(hne:x≠.out)
  (hbad:∀ q,x=.bad q->Chg [p] w w'->Post (.panicked [{ v:=QeS q,recovered:=false }]) w')
  (hok:∀ (a:α) (k':Nat),x=.ok a (T.drop k')->PAt w' p A C T k'->Chg [p] w w'->Post (.returned (g a)) w'):Post e w':=by
 cases x with
 |out=>exact absurd rfl hne
 |bad q=>obtain⟨rfl,hc⟩:=h;exact hbad q rfl hc
 |ok a r=>obtain⟨rfl,⟨k',rfl,hp⟩,hc⟩:=h;exact hok a k' rfl hp hc
theorem NdP.call{P:Program}{fn:Nat}{args:Array Value}{p:Nat}{A:Option Addr}{C:Nat}{T:List Tok}{w:World}{x:PR Nd}{Post:Ending->World->Prop}(hc:Calls P fn args w (NdP p A C T w x))(hne:x≠.out)
  (hbad:∀ q w',x=.bad q->Chg [p] w w'->Post (.panicked [{ v:=QeS q,recovered:=false }]) w')
  (hok:∀ (a:An) (w':World) (k':Nat) (xA:Option Addr) (xn xc:Nat),x=.ok a.nd (T.drop k')->Qaa a=#[.int .i64 a.kind,.int .i64 a.num,.string (bs a.name),.int .i64 a.off,.slice xA xn xc]->
   a.At w'/\QbY w.heap.size w'.heap.size a/\PAt w' p A C T k'/\Chg [p] w w'->Post (.returned (.agg #[.int .i64 a.kind,.int .i64 a.num,.string (bs a.name),.int .i64 a.off,.slice xA xn xc])) w'):Calls P fn args w Post:=
 hc.mono fun _ w' h=>h.on hne (fun q=>hbad q w') (fun a=>hok a w')
theorem PRp.call{α:Type}{P:Program}{fn:Nat}{args:Array Value}{p:Nat}{A:Option Addr}{C:Nat}{T:List Tok}{w:World}{g:α->Value}{x:PR α}{Post:Ending->World->Prop}(hc:Calls P fn args w (PRp p A C T w g x))(hne:x≠.out)
  (hbad:∀ q w',x=.bad q->Chg [p] w w'->Post (.panicked [{ v:=QeS q,recovered:=false }]) w')
  (hok:∀ (a:α) (w':World) (k':Nat),x=.ok a (T.drop k')->PAt w' p A C T k'->Chg [p] w w'->Post (.returned (g a)) w'):Calls P fn args w Post:=
 hc.mono fun _ w' h=>h.on hne (fun q=>hbad q w') (fun a=>hok a w')
theorem J7(kd:Int)(s:List UInt8)(r:List Tok):Qaf kd s r≠.out:=by
 rcases KC kd s r with⟨_,h⟩|h<;>rw[h]<;>exact fun h=>by cases h
theorem Jw{α β:Type}{x:PR α}{f:α->List Tok->PR β}{X:PR β}{a:α}{r:List Tok}(h:x.bind f=X)(hx:x=.ok a r):f a r=X:=by subst hx;exact h
theorem JQ{α β:Type}{x:PR α}{f:α->List Tok->PR β}{X:PR β}(h:x.bind f=X)(hX:X≠.out):x≠.out:=fun e=>hX (by rw[<- h,e];rfl)
structure NS(p:Nat)(A:Option Addr)(C:Nat)(T:List Tok)(w W:World)(k:Nat):Prop where
 pat:PAt W p A C T k
 chg:Chg [p] w W
 res:W.heap[w.heap.size]?=some (.cells #[.int .i64 0,.int .i64 0,.string ⟨#[]⟩,.int .i64 0,.slice none 0 0] 103 (0,0))
 pl:p<w.heap.size
 tl:∀ b o,A=some ⟨b,o,none⟩->b<w.heap.size
section
variable {p:Nat} {A:Option Addr} {C:Nat} {T:List Tok} {w W W':World} {k k':Nat}
theorem NS.start(h:PAt w p A C T k):NS p A C T w (w.alloc (.cells #[.int .i64 0,.int .i64 0,.string ⟨#[]⟩,.int .i64 0,.slice none 0 0] 103)) k:=
 have hB:=(Below.refl w.heap.size w).alloc zzl (.cells #[.int .i64 0,.int .i64 0,.string ⟨#[]⟩,.int .i64 0,.slice none 0 0] 103)
 ⟨h.chg hB,Chg.of_below hB [p],zzw _ _,Jb h.self,h.tokLt⟩
theorem NS.ne(h:NS p A C T w W k):w.heap.size≠p:=Ne.symm (Nat.ne_of_lt h.pl)
theorem NS.lt(h:NS p A C T w W k):w.heap.size<W.heap.size:=Jb h.res
theorem NS.plt(h:NS p A C T w W k):p<W.heap.size:=Nat.lt_trans h.pl h.lt
theorem NS.up(h:NS p A C T w W k)(hb:Below W.heap.size W W'):NS p A C T w W' k:=⟨h.pat.chg hb,h.chg.trans (Chg.of_below hb [p]),(hb.block _ h.lt).trans h.res,h.pl,h.tl⟩
theorem NS.on(h:NS p A C T w W k)(hp:PAt W' p A C T k')(hc:Chg [p] W W'):NS p A C T w W' k':=⟨hp,h.chg.trans hc,hc.heap_some (by simp;exact h.ne) h.res,h.pl,h.tl⟩
theorem NS.new(h:NS p A C T w W k)(X:Obj):NS p A C T w (W.alloc X) k:=h.up (zzb.alloc zzl X)
theorem NS.dr(h:NS p A C T w W k):NS p A C T w W.drew k:=h.up zzb.drew
theorem NS.bad{α:Type}{x:PR α}{f:α->List Tok->PR Nd}{X:PR Nd}{R:Ending->World->Prop}{q:Int}(h:NS p A C T w W k)(hR:R=NdP p A C T w X)(hX:x.bind f=X)(hx:x=.bad q)(hc:Chg [p] W W'):R (.panicked [{ v:=QeS q,recovered:=false }]) W':=by
 subst hx hX hR;exact⟨rfl,h.chg.trans hc⟩
end
theorem PAt.chg1{W:World}{p:Nat}{A:Option Addr}{C:Nat}{T:List Tok}{k:Nat}(h:PAt W p A C T k):p<W.heap.size:=Jb h.self
theorem Ky{α β:Type}{x:PR α}{f:α->List Tok->PR β}(h:x.bind f≠.out):x≠.out:=fun e=>h (by rw[e];rfl)
theorem Jem(f:Nat){r r1:List Tok}(h:acc 0 Qfn r=some r1):pM (f+1) (.level 3) r=(pM f (.level 3) r1).bind fun a r2=>.ok (.mk 7 0 [] (hd r).off [a]) r2:=by rw[pM,if_pos rfl,h]
theorem JfA(f:Nat){r:List Tok}(h:acc 0 Qfn r=none):pM (f+1) (.level 3) r=pM f .cmp r:=by rw[pM,if_pos rfl,h]
theorem Jen(f:Nat){r r1:List Tok}(h:acc 3 [45] r=some r1):pM (f+1) (.level 7) r=(pM f (.level 7) r1).bind fun a r2=>.ok (.mk 6 0 [] (hd r).off [a]) r2:=by rw[pM,if_neg (by decide),if_pos rfl,h]
theorem JfB(f:Nat){r:List Tok}(h:acc 3 [45] r=none):pM (f+1) (.level 7) r=pM f .prim r:=by rw[pM,if_neg (by decide),if_pos rfl,h]
theorem Jbd{w W2 W3:World}{p:Nat}{A:Option Addr}{C:Nat}{T:List Tok}{k':Nat}{a:An}(hat:a.At W3)(hm:QbY W2.heap.size W3.heap.size a)(h2:w.heap.size<W2.heap.size)(hP:PAt W3 p A C T k')(hC2:Chg [p] w W2)(hC3:Chg [p] W2 W3)(hp:p<w.heap.size)(hT:∀ b o,A=some ⟨b,o,none⟩->b<w.heap.size)(v0 v1 v2 v3 v4:Value) :
  a.At (put5 W3 w.heap.size v0 v1 v2 v3 v4)/\QbY w.heap.size (put5 W3 w.heap.size v0 v1 v2 v3 v4).heap.size a/\PAt (put5 W3 w.heap.size v0 v1 v2 v3 v4) p A C T k'/\Chg [p] w (put5 W3 w.heap.size v0 v1 v2 v3 v4):=by
 have hc:=Ki (S:=[w.heap.size]) (W:=W3) v0 v1 v2 v3 v4 (by simp:w.heap.size∈[w.heap.size]);refine⟨Z2 hat hm hc zzl (fun b hb=>by simp at hb;omega),?_,hP.put5 (Ne.symm (Nat.ne_of_lt hp)) (fun b o e=>by have:=hT b o e;omega) _ _ _ _ _,(hC2.trans hC3).step hc fun b hb=>.inr (by simp at hb;omega)⟩;rw[Kk];exact hm.mono (Nat.le_of_lt h2) zzl
theorem NS.pass{p:Nat}{A:Option Addr}{C:Nat}{T:List Tok}{w W W':World}{k k':Nat}{a:An}(h:NS p A C T w W k)(B:a.At W'/\QbY W.heap.size W'.heap.size a/\PAt W' p A C T k'/\Chg [p] W W')(v0 v1 v2 v3 v4:Value) :
  a.At (put5 W' w.heap.size v0 v1 v2 v3 v4)/\QbY w.heap.size (put5 W' w.heap.size v0 v1 v2 v3 v4).heap.size a/\PAt (put5 W' w.heap.size v0 v1 v2 v3 v4) p A C T k'/\Chg [p] w (put5 W' w.heap.size v0 v1 v2 v3 v4):=
 Jbd B.1 B.2.1 h.lt B.2.2.1 h.chg B.2.2.2 h.pl h.tl v0 v1 v2 v3 v4
theorem QmG{P:Prop}(h:P:=by
  subst hx;replace HS:=Zh (HS.out.up hb2);clear g1 hb2 HX0 HOF I1;go_wp2_with fail;refine NdP.call (I2 k w2 HS.out.pat HNE.out) HNE.out (fun q _ hx hc=>by exact⟨rfl,by rw[HR.out,hx];exact⟨rfl,HS.out.chg.trans hc⟩⟩) fun a w4 k4 xA xn xc hx hcf B=>?_
  have HPS:=Zh (HS.out.pass B);have HX4:=Zh hx;have HCF:=Zh hcf;have HZZ:=Zh (HS.out.on B.2.2.1 B.2.2.2).res;have h5:=Ji HZZ.out;have y5:=Jq HZZ.out;clear hx hcf B;go_wp2;refine bodyPost_ret (v:=.agg (Qaa a)) (by rw[HCF.out];exact results_cell_row rfl _ _ w.heap.size 103 _ (0,0) _ rfl (Qct _ _ _ _ _ HZZ.out) underlying103 rfl Qaw) rfl ?_;rw[HR.out,HX4.out];obtain⟨e1,e2,e3,e4⟩:=HPS.out _ _ _ _ _
  exact⟨_,rfl,rfl,e1,e2,⟨k4,rfl,e3⟩,e4⟩):P:=h
theorem QjW{P:Prop}(h:P:=by
  obtain⟨e1,e2,e3,e4⟩:=HFIN.out _ _ _ _ _
  exact⟨_,rfl,rfl,e1,e2,⟨k9,rfl,e3⟩,e4⟩):P:=h
theorem JjW(f p:Nat)(A:Option Addr)(C:Nat)(T:List Tok)
  (I1:∀ k w,PAt w p A C T k->pM f (.level 3) (T.drop k)≠.out->Calls prog 97 #[.pointer (some ⟨p,0,none⟩),.int .i64 3] w (NdP p A C T w (pM f (.level 3) (T.drop k))))
  (I2:∀ k w,PAt w p A C T k->pM f .cmp (T.drop k)≠.out->Calls prog 114 #[.pointer (some ⟨p,0,none⟩)] w (NdP p A C T w (pM f .cmp (T.drop k))))
  (k:Nat) (w:World) (h:PAt w p A C T k) (hne:pM (f+1) (.level 3) (T.drop k)≠.out) :
  Calls prog 97 #[.pointer (some ⟨p,0,none⟩),.int .i64 3] w (NdP p A C T w (pM (f+1) (.level 3) (T.drop k))):=by
 obtain⟨X,hX⟩:∃ X,pM (f+1) (.level 3) (T.drop k)=X:=⟨_,rfl⟩
 have HX0:=Zh hX;rw[hX]at hne |-;obtain⟨R,hR⟩:∃ R,R=NdP p A C T w X:=⟨_,rfl⟩
 rw[<- hR];have HR:=Zh hR;have HNE:=Zh hne;have HS:=Zh (NS.start h);have cp:=Ko p A C T k _ HS.out.pat;obtain⟨of,hof⟩:∃ of,(hd (T.drop k)).off=of:=⟨_,rfl⟩
 unfold Qgn at cp;have hfl:=Jcu (hd (T.drop k));rw[hof]at hfl;have HOF:=Zh hof;generalize QcU (hd (T.drop k))=tv at *;clear h hne hR hof hX;go_enter func97,ntmps97;go_wp2_with fail;refine cp.mono ?_;rintro e w1 ⟨rfl,hb1⟩;replace HS:=Zh (HS.out.up hb1);clear cp hb1;go_wp2_with fail;refine(Jr p A C T k 0 Qfn w1 HS.out.pat (by decide)).mono ?_;intro e w2 h2
 rcases h2 with⟨g1,g2,rfl,hp2,hc2⟩|⟨g1,rfl,hb2⟩
 ·have hx1:=HX0.out;rw[Jem f (JP g1 g2),HOF.out]at hx1;have HX1:=Zh hx1;replace HS:=Zh (HS.out.on hp2 hc2);clear g1 g2 hp2 hc2 hx1 I2 HX0 HOF;go_wp2_with fail;refine NdP.call (I1 (k+1) w2 HS.out.pat (JQ HX1.out HNE.out)) (JQ HX1.out HNE.out) (fun q _ hx hc=>by exact⟨rfl,HS.out.bad HR.out HX1.out hx hc⟩) fun a w9 k9 xA xn xc hx hcf B=>?_
  have hlt2:=HS.out.lt;have hm:=B.2.2.2.size;have HX9:=Zh (Jw HX1.out hx);replace HS:=Zh (HS.out.on B.2.2.1 B.2.2.2);have HFIN:=Zh (fun v0 v1 v2 v3 v4=>Yz (w:=w) (W3:=w9) (kids:=[a]) (cs:=Qaa a) (by simp) (by simp[QcV]) (by simpa using B.1) (⟨w9.heap.size,hm,B.2.1,Nat.le_refl _⟩:Qdg w2.heap.size w9.heap.size [a]) hlt2 HS.out.pat HS.out.chg HS.out.pl HS.out.tl 7 0 [] of 1 v0 v1 v2 v3 v4);have h5:=Ji HS.out.res;have y5:=Jq HS.out.res;have hlt3:=HS.out.lt;rw[hcf]at HFIN;clear hx hcf B hm hlt2;go_wp2;refine bodyPost_ret (v:=.agg (Qaa (An.mk 7 0 [] of w9.heap.size 1 [a]))) (results_cell_row rfl _ _ w.heap.size 103 _ (0,0) _ rfl (VB _ _ _ _ _ _ HS.out.res) underlying103 rfl Qaw) rfl ?_;rw[HR.out,<- HX9.out];exact QjW
 ·have hx:=HX0.out;rw[JfA f (Kf g1)]at hx;exact QmG
theorem JjX(f p:Nat)(A:Option Addr)(C:Nat)(T:List Tok)
  (I1:∀ k w,PAt w p A C T k->pM f (.level 7) (T.drop k)≠.out->Calls prog 97 #[.pointer (some ⟨p,0,none⟩),.int .i64 7] w (NdP p A C T w (pM f (.level 7) (T.drop k))))
  (I2:∀ k w,PAt w p A C T k->pM f .prim (T.drop k)≠.out->Calls prog 115 #[.pointer (some ⟨p,0,none⟩)] w (NdP p A C T w (pM f .prim (T.drop k))))
  (k:Nat) (w:World) (h:PAt w p A C T k) (hne:pM (f+1) (.level 7) (T.drop k)≠.out) :
  Calls prog 97 #[.pointer (some ⟨p,0,none⟩),.int .i64 7] w (NdP p A C T w (pM (f+1) (.level 7) (T.drop k))):=by
 obtain⟨X,hX⟩:∃ X,pM (f+1) (.level 7) (T.drop k)=X:=⟨_,rfl⟩
 have HX0:=Zh hX;rw[hX]at hne |-;obtain⟨R,hR⟩:∃ R,R=NdP p A C T w X:=⟨_,rfl⟩
 rw[<- hR];have HR:=Zh hR;have HNE:=Zh hne;have HS:=Zh (NS.start h);have cp:=Ko p A C T k _ HS.out.pat;obtain⟨of,hof⟩:∃ of,(hd (T.drop k)).off=of:=⟨_,rfl⟩
 unfold Qgn at cp;have hfl:=Jcu (hd (T.drop k));rw[hof]at hfl;have HOF:=Zh hof;generalize QcU (hd (T.drop k))=tv at *;clear h hne hR hof hX;go_enter func97,ntmps97;go_wp2_with fail;refine cp.mono ?_;rintro e w1 ⟨rfl,hb1⟩;replace HS:=Zh (HS.out.up hb1);clear cp hb1;go_wp2_with fail;refine(Jr p A C T k 3 [45] w1 HS.out.pat (by decide)).mono ?_;intro e w2 h2
 rcases h2 with⟨g1,g2,rfl,hp2,hc2⟩|⟨g1,rfl,hb2⟩
 ·have hx1:=HX0.out;rw[Jen f (JP g1 g2),HOF.out]at hx1;have HX1:=Zh hx1;replace HS:=Zh (HS.out.on hp2 hc2);clear g1 g2 hp2 hc2 hx1 I2 HX0 HOF;go_wp2_with fail;refine NdP.call (I1 (k+1) w2 HS.out.pat (JQ HX1.out HNE.out)) (JQ HX1.out HNE.out) (fun q _ hx hc=>by exact⟨rfl,HS.out.bad HR.out HX1.out hx hc⟩) fun a w9 k9 xA xn xc hx hcf B=>?_
  have hlt2:=HS.out.lt;have hm:=B.2.2.2.size;have HX9:=Zh (Jw HX1.out hx);replace HS:=Zh (HS.out.on B.2.2.1 B.2.2.2);have HFIN:=Zh (fun v0 v1 v2 v3 v4=>Yz (w:=w) (W3:=w9) (kids:=[a]) (cs:=Qaa a) (by simp) (by simp[QcV]) (by simpa using B.1) (⟨w9.heap.size,hm,B.2.1,Nat.le_refl _⟩:Qdg w2.heap.size w9.heap.size [a]) hlt2 HS.out.pat HS.out.chg HS.out.pl HS.out.tl 6 0 [] of 1 v0 v1 v2 v3 v4);have h5:=Ji HS.out.res;have y5:=Jq HS.out.res;have hlt3:=HS.out.lt;rw[hcf]at HFIN;clear hx hcf B hm hlt2;go_wp2;refine bodyPost_ret (v:=.agg (Qaa (An.mk 6 0 [] of w9.heap.size 1 [a]))) (results_cell_row rfl _ _ w.heap.size 103 _ (0,0) _ rfl (VB _ _ _ _ _ _ HS.out.res) underlying103 rfl Qaw) rfl ?_;rw[HR.out,<- HX9.out];exact QjW
 ·have hx:=HX0.out;rw[JfB f (Kf g1)]at hx;exact QmG
end Go.Proofs.YtdlkcjkjnehnkaaGreatDoor
