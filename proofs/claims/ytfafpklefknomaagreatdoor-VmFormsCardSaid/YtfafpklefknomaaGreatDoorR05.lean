import Derived.Test.YtfafpklefknomaaGreatDoorR04
open Nat(le_refl)
namespace Go.Proofs.YtfafpklefknomaaGreatDoor
open Go.ChangeShapes Go.WideShapes Go.ChangeAt Go.RowKit Go.Lib
open _root_.Go.Proofs.Tryz
set_option linter.all false
set_option maxRecDepth 100000
set_option maxHeartbeats 32000000
def JfK(w:World):Calls prog 47 #[Iv 0] w (Qei (Sv QgB) w):=by
 go_enter func47,ntmps47;go_wp2;go_ret;exact⟨rfl,rfl⟩
def JfL(w:World):Calls prog 47 #[Iv 1] w (Qei (Sv QeA) w):=by
 go_enter func47,ntmps47;go_wp2;go_ret;exact⟨rfl,rfl⟩
theorem QfO{P:Prop}(h:P:=by
  go_enter func49,ntmps49;go_wp2;go_ret
  exact⟨rfl,rfl⟩):P:=h
def Jcc(w:World):Calls prog 49 #[Iv 0] w (Qei (Sv Qey) w):=by
 have ix:∀W:World,(Instr.index 178 (.agg #[.string ⟨#[115,104,111,119]⟩,.string ⟨#[109,101,100,105,97]⟩,.string ⟨#[108,105,109,105,116]⟩,.string ⟨#[104,105,100,101]⟩]) (Iv 0)).run prog W=.ok (.string ⟨#[115,104,111,119]⟩) W:=λ_=>by kernel_rfl
 exact QfO
def Jcd(w:World):Calls prog 49 #[Iv 1] w (Qei (Sv QdE) w):=by
 have ix:∀W:World,(Instr.index 178 (.agg #[.string ⟨#[115,104,111,119]⟩,.string ⟨#[109,101,100,105,97]⟩,.string ⟨#[108,105,109,105,116]⟩,.string ⟨#[104,105,100,101]⟩]) (Iv 1)).run prog W=.ok (.string ⟨#[109,101,100,105,97]⟩) W:=λ_=>by kernel_rfl
 exact QfO
def Jce(w:World):Calls prog 49 #[Iv 2] w (Qei (Sv QdF) w):=by
 have ix:∀W:World,(Instr.index 178 (.agg #[.string ⟨#[115,104,111,119]⟩,.string ⟨#[109,101,100,105,97]⟩,.string ⟨#[108,105,109,105,116]⟩,.string ⟨#[104,105,100,101]⟩]) (Iv 2)).run prog W=.ok (.string ⟨#[108,105,109,105,116]⟩) W:=λ_=>by kernel_rfl
 exact QfO
def Jcf(w:World):Calls prog 49 #[Iv 3] w (Qei (Sv Qez) w):=by
 have ix:∀W:World,(Instr.index 178 (.agg #[.string ⟨#[115,104,111,119]⟩,.string ⟨#[109,101,100,105,97]⟩,.string ⟨#[108,105,109,105,116]⟩,.string ⟨#[104,105,100,101]⟩]) (Iv 3)).run prog W=.ok (.string ⟨#[104,105,100,101]⟩) W:=λ_=>by kernel_rfl
 exact QfO
theorem QgO{P:Prop}(h:P:=by
  rw[hs]
  exact⟨rfl,⟨k+1,rfl,HF.o.2.1⟩,(Chg.of_below HCH.o [p]).trans HF.o.2.2⟩):P:=h
theorem Qhd{P:Prop}(h:P:=by
  clear g1 hb1 hp1 HZ;go_wp2;go_roundw
  case rel=>exact⟨1,rfl,by omega,HZ2⟩
  case measure=>simp[intOf]):P:=h
theorem Qhc{P:Prop}(h:P:=by
  clear g1 hb1 hp1 HZ;go_wp2;go_roundw
  case rel=>exact⟨2,rfl,by omega,HZ2⟩
  case measure=>simp[intOf]):P:=h
def Jbt(p:Nat)(A:Option Addr)(C:Nat)(T:List Tok)(k:Nat)(w:World)(h:PAt w p A C T k):Calls prog 135 #[Pt p] w (PRp p A C T w (λn=>Iv n) (Qdu (T.drop k))):=by
 have zA:=λW=>JfK W
 have aA:=λW hW=>Jt p A C T k 0 QgB W hW zp
 have uA:=λW=>JfL W
 have vA:=λW hW=>Jt p A C T k 0 QeA W hW zp
 have cw:=λW hW=>KO p A C T k W hW
 have HP:=Zh h;obtain⟨R,hR⟩:∃R,PRp p A C T w (λn=>Iv n) (Qdu (T.drop k))=R:=⟨_,rfl⟩
 rw[hR];have HR:Hi (R=PRp p A C T w (λn=>Iv n) (Qdu (T.drop k))):=hR.symm;clear h hR;generalize yA:QgB=qkInt at *;generalize xA:QeA=qkBool at *;have HQ:Hi (QgB=qkInt/\QeA=qkBool):=⟨yA,xA⟩
 clear yA xA;go_enter func135,ntmps135;go_wp2;go_loopw [3] (λv3 wr=>∃n:Nat,v3=Iv n/\n<=2/\Hi (((0<n->acc 0 qkInt (T.drop k)=none)/\(1<n->acc 0 qkBool (T.drop k)=none))/\Below w.heap.size w wr)) λv _=>2-(intOf v).toNat
 case atStart=>exact⟨0,rfl,by omega,by refine⟨?_,zO⟩;(repeat' constructor)<;>intro hh<;>omega⟩
 case round=>
 obtain⟨n,rfl,hn,hz⟩:=hrel;have hp1:=HP.o.chg hz.o.2
 rcases (show n=0\/n=1\/n=2 by omega) with rfl|rfl|rfl
 ·have HZ:=Zh hz.o;clear hz cw;go_wp2_with fail;refine(zA _).mono ?_;rintro e w1 ⟨rfl,rfl⟩;go_wp2_with fail;refine(aA _ hp1).mono ?_;rintro e w1 h1
  rcases h1 with⟨g1,g2,rfl,hp2,hc1⟩|⟨g1,rfl,hb1⟩
  ·have HF:=Zh (show _/\_/\_ from⟨JN g1 g2,hp2,hc1⟩);have HCH:=Zh (HZ.o.2);clear g1 g2 hp2 hc1 hp1;go_wp2;rw[HR.o]
   have hs:Qdu (T.drop k)=.ok 0 (T.drop (k+1)):=by
    unfold Qdu;rw[HQ.o.2,HQ.o.1];have hz:=HZ.o.1;have hf:=HF.o.1;simp only[hf]
   exact QgO
  ·have HZ2:Hi (((0<1->acc 0 qkInt (T.drop k)=none)/\(1<1->acc 0 qkBool (T.drop k)=none))/\Below w.heap.size w w1):=by
    refine⟨?_,HZ.o.2.trans (hb1.mono HZ.o.2.size)⟩;have hno:=Kf g1;have hz:=HZ.o.1;exact⟨λ_=>hno,λhh=>absurd hh zo⟩
   exact Qhd
 ·have HZ:=Zh hz.o;clear hz cw;go_wp2_with fail;refine(uA _).mono ?_;rintro e w1 ⟨rfl,rfl⟩;go_wp2_with fail;refine(vA _ hp1).mono ?_;rintro e w1 h1
  rcases h1 with⟨g1,g2,rfl,hp2,hc1⟩|⟨g1,rfl,hb1⟩
  ·have HF:=Zh (show _/\_/\_ from⟨JN g1 g2,hp2,hc1⟩);have HCH:=Zh (HZ.o.2);clear g1 g2 hp2 hc1 hp1;go_wp2;rw[HR.o]
   have hs:Qdu (T.drop k)=.ok 1 (T.drop (k+1)):=by
    unfold Qdu;rw[HQ.o.2,HQ.o.1];have hz:=HZ.o.1;have hf:=HF.o.1;simp only[hz.1 zo,hf]
   exact QgO
  ·have HZ2:Hi (((0<2->acc 0 qkInt (T.drop k)=none)/\(1<2->acc 0 qkBool (T.drop k)=none))/\Below w.heap.size w w1):=by
    refine⟨?_,HZ.o.2.trans (hb1.mono HZ.o.2.size)⟩;have hno:=Kf g1;have hz:=HZ.o.1;exact⟨λ_=>hz.1 zo,λ_=>hno⟩
   exact Qhc
 ·have HZ:=Zh hz.o;clear hz;go_wp2_with fail;refine(cw _ hp1).mono ?_;rintro e w2 ⟨rfl,hb2⟩;go_wp2;refine⟨rfl,?_⟩;rw[HR.o]
  have hs:Qdu (T.drop k)=.bad (hd (T.drop k)).off:=by
   unfold Qdu;rw[HQ.o.2,HQ.o.1];have hz:=HZ.o.1;simp only[hz.1 zo,hz.2 zo]
  rw[hs];exact⟨rfl,Chg.of_below (HZ.o.2.trans (hb2.mono HZ.o.2.size)) [p]⟩
def JeF(p:Nat)(A:Option Addr)(C:Nat)(T:List Tok)(k:Nat)(w:World)(h:PAt w p A C T k):Calls prog 90 #[Pt p] w (PRp p A C T w (λn=>Iv n) (Qdg (T.drop k))):=by
 have vA:=λW=>Jcc W
 have eA:=λW hW=>Jt p A C T k 0 Qey W hW zp
 have cA:=λW=>Jcd W
 have dA:=λW hW=>Jt p A C T k 0 QdE W hW zp
 have aA:=λW=>Jce W
 have gA:=λW hW=>Jt p A C T k 0 QdF W hW zp
 have hA:=λW=>Jcf W
 have bA:=λW hW=>Jt p A C T k 0 Qez W hW zp
 have cw:=λW hW=>KO p A C T k W hW
 have HP:=Zh h;obtain⟨R,hR⟩:∃R,PRp p A C T w (λn=>Iv n) (Qdg (T.drop k))=R:=⟨_,rfl⟩
 rw[hR];have HR:Hi (R=PRp p A C T w (λn=>Iv n) (Qdg (T.drop k))):=hR.symm;clear h hR;generalize zA:Qey=qkShow at *;generalize yA:QdE=qkMedia at *;generalize xA:QdF=qkLimit at *;generalize uA:Qez=qkHide at *;have HQ:Hi (Qey=qkShow/\QdE=qkMedia/\QdF=qkLimit/\Qez=qkHide):=⟨zA,yA,xA,uA⟩
 clear zA yA xA uA;go_enter func90,ntmps90;go_wp2;go_loopw [3] (λv3 wr=>∃n:Nat,v3=Iv n/\n<=4/\Hi (((0<n->acc 0 qkShow (T.drop k)=none)/\(1<n->acc 0 qkMedia (T.drop k)=none)/\(2<n->acc 0 qkLimit (T.drop k)=none)/\(3<n->acc 0 qkHide (T.drop k)=none))/\Below w.heap.size w wr)) λv _=>4-(intOf v).toNat
 case atStart=>exact⟨0,rfl,by omega,by refine⟨?_,zO⟩;(repeat' constructor)<;>intro hh<;>omega⟩
 case round=>
 obtain⟨n,rfl,hn,hz⟩:=hrel;have hp1:=HP.o.chg hz.o.2
 rcases (show n=0\/n=1\/n=2\/n=3\/n=4 by omega) with rfl|rfl|rfl|rfl|rfl
 ·have HZ:=Zh hz.o;clear hz cw;go_wp2_with fail;refine(vA _).mono ?_;rintro e w1 ⟨rfl,rfl⟩;go_wp2_with fail;refine(eA _ hp1).mono ?_;rintro e w1 h1
  rcases h1 with⟨g1,g2,rfl,hp2,hc1⟩|⟨g1,rfl,hb1⟩
  ·have HF:=Zh (show _/\_/\_ from⟨JN g1 g2,hp2,hc1⟩);have HCH:=Zh (HZ.o.2);clear g1 g2 hp2 hc1 hp1;go_wp2;rw[HR.o]
   have hs:Qdg (T.drop k)=.ok 0 (T.drop (k+1)):=by
    unfold Qdg;rw[HQ.o.2.2.2,HQ.o.2.2.1,HQ.o.2.1,HQ.o.1];have hz:=HZ.o.1;have hf:=HF.o.1;simp only[hf]
   exact QgO
  ·have HZ2:Hi (((0<1->acc 0 qkShow (T.drop k)=none)/\(1<1->acc 0 qkMedia (T.drop k)=none)/\(2<1->acc 0 qkLimit (T.drop k)=none)/\(3<1->acc 0 qkHide (T.drop k)=none))/\Below w.heap.size w w1):=by
    refine⟨?_,HZ.o.2.trans (hb1.mono HZ.o.2.size)⟩;have hno:=Kf g1;have hz:=HZ.o.1;exact⟨λ_=>hno,λhh=>absurd hh zo,λhh=>absurd hh zo,λhh=>absurd hh zo⟩
   exact Qhd
 ·have HZ:=Zh hz.o;clear hz cw;go_wp2_with fail;refine(cA _).mono ?_;rintro e w1 ⟨rfl,rfl⟩;go_wp2_with fail;refine(dA _ hp1).mono ?_;rintro e w1 h1
  rcases h1 with⟨g1,g2,rfl,hp2,hc1⟩|⟨g1,rfl,hb1⟩
  ·have HF:=Zh (show _/\_/\_ from⟨JN g1 g2,hp2,hc1⟩);have HCH:=Zh (HZ.o.2);clear g1 g2 hp2 hc1 hp1;go_wp2;rw[HR.o]
   have hs:Qdg (T.drop k)=.ok 1 (T.drop (k+1)):=by
    unfold Qdg;rw[HQ.o.2.2.2,HQ.o.2.2.1,HQ.o.2.1,HQ.o.1];have hz:=HZ.o.1;have hf:=HF.o.1;simp only[hz.1 zo,hf]
   exact QgO
  ·have HZ2:Hi (((0<2->acc 0 qkShow (T.drop k)=none)/\(1<2->acc 0 qkMedia (T.drop k)=none)/\(2<2->acc 0 qkLimit (T.drop k)=none)/\(3<2->acc 0 qkHide (T.drop k)=none))/\Below w.heap.size w w1):=by
    refine⟨?_,HZ.o.2.trans (hb1.mono HZ.o.2.size)⟩;have hno:=Kf g1;have hz:=HZ.o.1;exact⟨λ_=>hz.1 zo,λ_=>hno,λhh=>absurd hh zo,λhh=>absurd hh zo⟩
   exact Qhc
 ·have HZ:=Zh hz.o;clear hz cw;go_wp2_with fail;refine(aA _).mono ?_;rintro e w1 ⟨rfl,rfl⟩;go_wp2_with fail;refine(gA _ hp1).mono ?_;rintro e w1 h1
  rcases h1 with⟨g1,g2,rfl,hp2,hc1⟩|⟨g1,rfl,hb1⟩
  ·have HF:=Zh (show _/\_/\_ from⟨JN g1 g2,hp2,hc1⟩);have HCH:=Zh (HZ.o.2);clear g1 g2 hp2 hc1 hp1;go_wp2;rw[HR.o]
   have hs:Qdg (T.drop k)=.ok 2 (T.drop (k+1)):=by
    unfold Qdg;rw[HQ.o.2.2.2,HQ.o.2.2.1,HQ.o.2.1,HQ.o.1];have hz:=HZ.o.1;have hf:=HF.o.1;simp only[hz.1 zo,hz.2.1 zo,hf]
   exact QgO
  ·have HZ2:Hi (((0<3->acc 0 qkShow (T.drop k)=none)/\(1<3->acc 0 qkMedia (T.drop k)=none)/\(2<3->acc 0 qkLimit (T.drop k)=none)/\(3<3->acc 0 qkHide (T.drop k)=none))/\Below w.heap.size w w1):=by
    refine⟨?_,HZ.o.2.trans (hb1.mono HZ.o.2.size)⟩;have hno:=Kf g1;have hz:=HZ.o.1;exact⟨λ_=>hz.1 zo,λ_=>hz.2.1 zo,λ_=>hno,λhh=>absurd hh zo⟩
   clear g1 hb1 hp1 HZ;go_wp2;go_roundw
   case rel=>exact⟨3,rfl,by omega,HZ2⟩
   case measure=>simp[intOf]
 ·have HZ:=Zh hz.o;clear hz cw;go_wp2_with fail;refine(hA _).mono ?_;rintro e w1 ⟨rfl,rfl⟩;go_wp2_with fail;refine(bA _ hp1).mono ?_;rintro e w1 h1
  rcases h1 with⟨g1,g2,rfl,hp2,hc1⟩|⟨g1,rfl,hb1⟩
  ·have HF:=Zh (show _/\_/\_ from⟨JN g1 g2,hp2,hc1⟩);have HCH:=Zh (HZ.o.2);clear g1 g2 hp2 hc1 hp1;go_wp2;rw[HR.o]
   have hs:Qdg (T.drop k)=.ok 3 (T.drop (k+1)):=by
    unfold Qdg;rw[HQ.o.2.2.2,HQ.o.2.2.1,HQ.o.2.1,HQ.o.1];have hz:=HZ.o.1;have hf:=HF.o.1;simp only[hz.1 zo,hz.2.1 zo,hz.2.2.1 zo,hf]
   exact QgO
  ·have HZ2:Hi (((0<4->acc 0 qkShow (T.drop k)=none)/\(1<4->acc 0 qkMedia (T.drop k)=none)/\(2<4->acc 0 qkLimit (T.drop k)=none)/\(3<4->acc 0 qkHide (T.drop k)=none))/\Below w.heap.size w w1):=by
    refine⟨?_,HZ.o.2.trans (hb1.mono HZ.o.2.size)⟩;have hno:=Kf g1;have hz:=HZ.o.1;exact⟨λ_=>hz.1 zo,λ_=>hz.2.1 zo,λ_=>hz.2.2.1 zo,λ_=>hno⟩
   clear g1 hb1 hp1 HZ;go_wp2;go_roundw
   case rel=>exact⟨4,rfl,by omega,HZ2⟩
   case measure=>simp[intOf]
 ·have HZ:=Zh hz.o;clear hz;go_wp2_with fail;refine(cw _ hp1).mono ?_;rintro e w2 ⟨rfl,hb2⟩;go_wp2;refine⟨rfl,?_⟩;rw[HR.o]
  have hs:Qdg (T.drop k)=.bad (hd (T.drop k)).off:=by
   unfold Qdg;rw[HQ.o.2.2.2,HQ.o.2.2.1,HQ.o.2.1,HQ.o.1];have hz:=HZ.o.1;simp only[hz.1 zo,hz.2.1 zo,hz.2.2.1 zo,hz.2.2.2 zo]
  rw[hs];exact⟨rfl,Chg.of_below (HZ.o.2.trans (hb2.mono HZ.o.2.size)) [p]⟩
def KD(kd:Int)(s:By)(r:List Tok):(∃r',Qar kd s r=.ok () r')\/Qar kd s r=.bad (hd r).off:=by
 unfold Qar
 cases acc kd s r with
 |some r'=>exact .inl ⟨r',rfl⟩
 |none=>exact .inr rfl
def ZI(r:List Tok):(∃s r',Qct r=.ok s r')\/Qct r=.bad (hd r).off:=by
 unfold Qct;split
 ·exact .inl ⟨_,_,rfl⟩
 ·exact .inr rfl
def ZJ(p:Nat)(A:Option Addr)(C:Nat)(T:List Tok)(k:Nat)(w:World)(h:PAt w p A C T k):Calls prog 168 #[Pt p] w (PRp p A C T w (λs=>Sv s) (QaL (T.drop k))):=by
 obtain⟨R,hR⟩:∃R,PRp p A C T w (λs=>Sv s) (QaL (T.drop k))=R:=⟨_,rfl⟩
 rw[hR];have HR:Hi (R=PRp p A C T w (λs=>Sv s) (QaL (T.drop k))):=hR.symm;have HP:=Zh h;clear h hR;go_enter func168,ntmps168;go_wp2_with fail;refine(Qdv p A C T k [40] w HP.o).mono ?_;intro e w1 h1
 rcases KD 3 [40] (T.drop k) with⟨r1,hx⟩|hx
 ·rw[hx]at h1;obtain⟨rfl,⟨k1,hr,hp1⟩,hc1⟩:=h1;subst hr;have HX1:=Zh hx;have HP1:=Zh hp1;have HC1:=Zh hc1;clear hx hp1 hc1;go_wp2_with fail;refine(Jcb p A C T k1 w1 HP1.o).mono ?_;intro e w2 h2
  rcases ZI (T.drop k1) with⟨s,r2,hx⟩|hx
  ·rw[hx]at h2;obtain⟨rfl,⟨k2,hr,hp2⟩,hc2⟩:=h2;subst hr;have HX2:=Zh hx;have HP2:=Zh hp2;have HC2:=Zh (HC1.o.trans hc2);clear hx hp2 hc2;go_wp2_with fail;refine(Qdv p A C T k2 [41] w2 HP2.o).mono ?_;intro e w3 h3
   rcases KD 3 [41] (T.drop k2) with⟨r3,hx⟩|hx
   ·rw[hx]at h3;obtain⟨rfl,⟨k3,hr,hp3⟩,hc3⟩:=h3;subst hr;have HS:Hi (QaL (T.drop k)=.ok s (T.drop k3)):=by rw[Hi];unfold QaL;rw[HX1.o];simp only[PR.bind];rw[HX2.o];simp only;rw[hx]
    have HF:=Zh (show _/\_ from⟨hp3,HC2.o.trans hc3⟩);clear hx hp3 hc3;go_wp2;rw[HR.o,HS.o];exact⟨rfl,⟨k3,rfl,HF.o.1⟩,HF.o.2⟩
   ·rw[hx]at h3;obtain⟨rfl,hc3⟩:=h3;have HS:Hi (QaL (T.drop k)=.bad (hd (T.drop k2)).off):=by rw[Hi];unfold QaL;rw[HX1.o];simp only[PR.bind];rw[HX2.o];simp only;rw[hx]
    refine⟨rfl,?_⟩;rw[HR.o,HS.o];exact⟨rfl,HC2.o.trans hc3⟩
  ·rw[hx]at h2;obtain⟨rfl,hc2⟩:=h2;have HS:Hi (QaL (T.drop k)=.bad (hd (T.drop k1)).off):=by rw[Hi];unfold QaL;rw[HX1.o];simp only[PR.bind];rw[hx]
   refine⟨rfl,?_⟩;rw[HR.o,HS.o];exact⟨rfl,HC1.o.trans hc2⟩
 ·rw[hx]at h1;obtain⟨rfl,hc1⟩:=h1;have HS:Hi (QaL (T.drop k)=.bad (hd (T.drop k)).off):=by rw[Hi];unfold QaL;rw[hx];rfl
  refine⟨rfl,?_⟩;rw[HR.o,HS.o];exact⟨rfl,hc1⟩
def OpP(w:World)(o:Option Int)(e:Ending)(w':World):Prop:=e=.returned (.tuple #[Iv (o.getD 0),.bool o.isSome])/\Below w.heap.size w w'
theorem QdW{P:Prop}(h:P:=by
  go_enter func160,ntmps160;go_wp2;rw[HR.o,HS.o]
  exact⟨rfl,HB.o⟩):P:=h
def Jnt(t:Tok)(w:World):Calls prog 160 #[Iv 1,.agg (Qda t)] w (OpP w (opK 1 t)):=by
 obtain⟨tk,tx,tn,tf⟩:=t;obtain⟨R,hR⟩:∃R,OpP w (opK 1 ⟨tk,tx,tn,tf⟩)=R:=⟨_,rfl⟩
 rw[hR];have HR:Hi (R=OpP w (opK 1 ⟨tk,tx,tn,tf⟩)):=hR.symm;have u1:=Jj tx;have hN:=zQ w (.cells #[Iv tk,Sv tx,Iv tn,Iv tf] 134);have HB:=Zh ((Below.refl w.heap.size w).alloc zP (.cells #[Iv tk,Sv tx,Iv tn,Iv tf] 134));have c0:(w.alloc (.cells #[Iv tk,Sv tx,Iv tn,Iv tf] 134)).cell? ⟨w.heap.size,0,none⟩=some (Iv tk):=by rw[Ja hN];rfl
 have c1:(w.alloc (.cells #[Iv tk,Sv tx,Iv tn,Iv tf] 134)).cell? ⟨w.heap.size,1,none⟩=some (Sv tx):=by rw[Ja hN];rfl
 unfold Qda;simp only;clear hR hN
 by_cases k0:tk=0
 ·subst k0
  by_cases h0:tx=[111,114]
  ·have e0:(tx==[111,114])=true:=zN h0;have HS:Hi (opK 1 ⟨0,tx,tn,tf⟩=some 17):=by rw[Hi,h0];rfl
   clear h0;exact QdW
  ·have e0:(tx==[111,114])=false:=zM h0;have HS:Hi (opK 1 ⟨0,tx,tn,tf⟩=none):=by rw[Hi];unfold opK;simp[kOr,Qih,h0]
   clear h0;exact QdW
 ·have d0:(tk==0)=false:=zM k0
  by_cases k3:tk=3
  ·subst k3;have HS:Hi (opK 1 ⟨3,tx,tn,tf⟩=none):=by rw[Hi];unfold opK;simp
   clear d0 k0;exact QdW
  ·have d3:(tk==3)=false:=zM k3;have HS:Hi (opK 1 ⟨tk,tx,tn,tf⟩=none):=by rw[Hi];unfold opK;simp[k0,k3]
   exact QdW
def Jnu(t:Tok)(w:World):Calls prog 160 #[Iv 2,.agg (Qda t)] w (OpP w (opK 2 t)):=by
 obtain⟨tk,tx,tn,tf⟩:=t;obtain⟨R,hR⟩:∃R,OpP w (opK 2 ⟨tk,tx,tn,tf⟩)=R:=⟨_,rfl⟩
 rw[hR];have HR:Hi (R=OpP w (opK 2 ⟨tk,tx,tn,tf⟩)):=hR.symm;have u1:=Jj tx;have hN:=zQ w (.cells #[Iv tk,Sv tx,Iv tn,Iv tf] 134);have HB:=Zh ((Below.refl w.heap.size w).alloc zP (.cells #[Iv tk,Sv tx,Iv tn,Iv tf] 134));have c0:(w.alloc (.cells #[Iv tk,Sv tx,Iv tn,Iv tf] 134)).cell? ⟨w.heap.size,0,none⟩=some (Iv tk):=by rw[Ja hN];rfl
 have c1:(w.alloc (.cells #[Iv tk,Sv tx,Iv tn,Iv tf] 134)).cell? ⟨w.heap.size,1,none⟩=some (Sv tx):=by rw[Ja hN];rfl
 unfold Qda;simp only;clear hR hN
 by_cases k0:tk=0
 ·subst k0
  by_cases h0:tx=[97,110,100]
  ·have e0:(tx==[97,110,100])=true:=zN h0;have HS:Hi (opK 2 ⟨0,tx,tn,tf⟩=some 16):=by rw[Hi,h0];rfl
   clear h0;exact QdW
  ·have e0:(tx==[97,110,100])=false:=zM h0;have HS:Hi (opK 2 ⟨0,tx,tn,tf⟩=none):=by rw[Hi];unfold opK;simp[kOr,Qih,h0]
   clear h0;exact QdW
 ·have d0:(tk==0)=false:=zM k0
  by_cases k3:tk=3
  ·subst k3;have HS:Hi (opK 2 ⟨3,tx,tn,tf⟩=none):=by rw[Hi];unfold opK;simp
   clear d0 k0;exact QdW
  ·have d3:(tk==3)=false:=zM k3;have HS:Hi (opK 2 ⟨tk,tx,tn,tf⟩=none):=by rw[Hi];unfold opK;simp[k0,k3]
   exact QdW
def Jnv(t:Tok)(w:World):Calls prog 160 #[Iv 5,.agg (Qda t)] w (OpP w (opK 5 t)):=by
 obtain⟨tk,tx,tn,tf⟩:=t;obtain⟨R,hR⟩:∃R,OpP w (opK 5 ⟨tk,tx,tn,tf⟩)=R:=⟨_,rfl⟩
 rw[hR];have HR:Hi (R=OpP w (opK 5 ⟨tk,tx,tn,tf⟩)):=hR.symm;have u1:=Jj tx;have hN:=zQ w (.cells #[Iv tk,Sv tx,Iv tn,Iv tf] 134);have HB:=Zh ((Below.refl w.heap.size w).alloc zP (.cells #[Iv tk,Sv tx,Iv tn,Iv tf] 134));have c0:(w.alloc (.cells #[Iv tk,Sv tx,Iv tn,Iv tf] 134)).cell? ⟨w.heap.size,0,none⟩=some (Iv tk):=by rw[Ja hN];rfl
 have c1:(w.alloc (.cells #[Iv tk,Sv tx,Iv tn,Iv tf] 134)).cell? ⟨w.heap.size,1,none⟩=some (Sv tx):=by rw[Ja hN];rfl
 unfold Qda;simp only;clear hR hN
 by_cases k0:tk=0
 ·subst k0;have HS:Hi (opK 5 ⟨0,tx,tn,tf⟩=none):=by rw[Hi];unfold opK;simp
  exact QdW
 ·have d0:(tk==0)=false:=zM k0
  by_cases k3:tk=3
  ·subst k3
   by_cases h0:tx=[43]
   ·have e0:(tx==[43])=true:=zN h0;have HS:Hi (opK 5 ⟨3,tx,tn,tf⟩=some 8):=by rw[Hi,h0];rfl
    clear d0 k0 h0;exact QdW
   have e0:(tx==[43])=false:=zM h0
   by_cases h1:tx=[45]
   ·have e1:(tx==[45])=true:=zN h1;have HS:Hi (opK 5 ⟨3,tx,tn,tf⟩=some 9):=by rw[Hi,h1];rfl
    clear d0 k0 h0 h1;exact QdW
   have e1:(tx==[45])=false:=zM h1;have HS:Hi (opK 5 ⟨3,tx,tn,tf⟩=none):=by rw[Hi];unfold opK;simp[h0,h1]
   clear d0 k0 h0 h1;exact QdW
  ·have d3:(tk==3)=false:=zM k3;have HS:Hi (opK 5 ⟨tk,tx,tn,tf⟩=none):=by rw[Hi];unfold opK;simp[k0,k3]
   exact QdW
def Jnw(t:Tok)(w:World):Calls prog 160 #[Iv 6,.agg (Qda t)] w (OpP w (opK 6 t)):=by
 obtain⟨tk,tx,tn,tf⟩:=t;obtain⟨R,hR⟩:∃R,OpP w (opK 6 ⟨tk,tx,tn,tf⟩)=R:=⟨_,rfl⟩
 rw[hR];have HR:Hi (R=OpP w (opK 6 ⟨tk,tx,tn,tf⟩)):=hR.symm;have u1:=Jj tx;have hN:=zQ w (.cells #[Iv tk,Sv tx,Iv tn,Iv tf] 134);have HB:=Zh ((Below.refl w.heap.size w).alloc zP (.cells #[Iv tk,Sv tx,Iv tn,Iv tf] 134));have c0:(w.alloc (.cells #[Iv tk,Sv tx,Iv tn,Iv tf] 134)).cell? ⟨w.heap.size,0,none⟩=some (Iv tk):=by rw[Ja hN];rfl
 have c1:(w.alloc (.cells #[Iv tk,Sv tx,Iv tn,Iv tf] 134)).cell? ⟨w.heap.size,1,none⟩=some (Sv tx):=by rw[Ja hN];rfl
 unfold Qda;simp only;clear hR hN
 by_cases k0:tk=0
 ·subst k0;have HS:Hi (opK 6 ⟨0,tx,tn,tf⟩=none):=by rw[Hi];unfold opK;simp
  exact QdW
 ·have d0:(tk==0)=false:=zM k0
  by_cases k3:tk=3
  ·subst k3
   by_cases h0:tx=[42]
   ·have e0:(tx==[42])=true:=zN h0;have HS:Hi (opK 6 ⟨3,tx,tn,tf⟩=some 10):=by rw[Hi,h0];rfl
    clear d0 k0 h0;exact QdW
   have e0:(tx==[42])=false:=zM h0
   by_cases h1:tx=[47]
   ·have e1:(tx==[47])=true:=zN h1;have HS:Hi (opK 6 ⟨3,tx,tn,tf⟩=some 11):=by rw[Hi,h1];rfl
    clear d0 k0 h0 h1;exact QdW
   have e1:(tx==[47])=false:=zM h1
   by_cases h2:tx=[37]
   ·have e2:(tx==[37])=true:=zN h2;have HS:Hi (opK 6 ⟨3,tx,tn,tf⟩=some 12):=by rw[Hi,h2];rfl
    clear d0 k0 h0 h1 h2;exact QdW
   have e2:(tx==[37])=false:=zM h2;have HS:Hi (opK 6 ⟨3,tx,tn,tf⟩=none):=by rw[Hi];unfold opK;simp[h0,h1,h2]
   clear d0 k0 h0 h1 h2;exact QdW
  ·have d3:(tk==3)=false:=zM k3;have HS:Hi (opK 6 ⟨tk,tx,tn,tf⟩=none):=by rw[Hi];unfold opK;simp[k0,k3]
   exact QdW
def Jg(a:An):∃xA xn xc,Qaa a=#[Iv a.kind,Iv a.num,.string (bs a.name),Iv a.off,.slice xA xn xc]:=by
 obtain⟨k,n,s,o,b,c,l⟩:=a
 by_cases h:l=[]
 ·exact⟨none,0,0,by show #[_,_,_,_,Qaz b c l]=_;unfold Qaz;rw[if_pos h];rfl⟩
 ·exact⟨some ⟨b,0,none⟩,l.length,c,by show #[_,_,_,_,Qaz b c l]=_;unfold Qaz;rw[if_neg h];rfl⟩
def Qcv{w:World}{T t:Nat}{a0 a1 a2 a3 a4:Value}(v0 v1 v2 v3 v4:Value)(h:w.heap[T]?=some (.cells #[a0,a1,a2,a3,a4] t (0,0))) :
  (((((w.setCell ⟨T,0,none⟩ v0).setCell ⟨T,1,none⟩ v1).setCell ⟨T,2,none⟩ v2).setCell ⟨T,3,none⟩ v3).setCell ⟨T,4,none⟩ v4).heap[T]?=some (.cells #[v0,v1,v2,v3,v4] t (0,0)):=by
 have h0:=heap_setCell_same _ _ 0 _ _ v0 h;have h1:=heap_setCell_same _ _ 1 _ _ v1 h0;have h2:=heap_setCell_same _ _ 2 _ _ v2 h1;have h3:=heap_setCell_same _ _ 3 _ _ v3 h2;exact heap_setCell_same _ _ 4 _ _ v4 h3
def put5(W:World)(b:Nat)(v0 v1 v2 v3 v4:Value):World:=((((W.setCell ⟨b,0,none⟩ v0).setCell ⟨b,1,none⟩ v1).setCell ⟨b,2,none⟩ v2).setCell ⟨b,3,none⟩ v3).setCell ⟨b,4,none⟩ v4
def Kj{S:List Nat}{W:World}{b:Nat}(v0 v1 v2 v3 v4:Value)(hb:b∈S):Chg S W (put5 W b v0 v1 v2 v3 v4):=
 (((((Chg.refl S W).setCell (.inl hb) v0).setCell (.inl hb) v1).setCell (.inl hb) v2).setCell (.inl hb) v3).setCell (.inl hb) v4
def Kl(W:World)(b:Nat)(v0 v1 v2 v3 v4:Value):(put5 W b v0 v1 v2 v3 v4).heap.size=W.heap.size:=by simp[put5,World.setCell]
def PAt.put5{W:World}{p q:Nat}{A:Option Addr}{C:Nat}{T:List Tok}{k:Nat}(h:PAt W p A C T k)(h1:q≠p)(h2:∀b o,A=some ⟨b,o,none⟩->q≠b)(v0 v1 v2 v3 v4:Value):PAt (put5 W q v0 v1 v2 v3 v4) p A C T k:=
 ((((h.setFar h1 h2 0 v0).setFar h1 h2 1 v1).setFar h1 h2 2 v2).setFar h1 h2 3 v3).setFar h1 h2 4 v4
def NdP(p:Nat)(A:Option Addr)(C:Nat)(T:List Tok)(w:World)(x:PR Nd)(e:Ending)(w':World):Prop:=
 match x with
 |.out=>True
 |.bad o=>QgN p w o e w'
 |.ok nd r=>∃a:An,a.nd=nd/\e=.returned (.agg (Qaa a))/\a.At w'/\Qce w.heap.size w'.heap.size a/\(∃k',r=T.drop k'/\PAt w' p A C T k')/\Chg [p] w w'
def KP{W:World}{b t:Nat}{cs:Array Value}{fr:Nat × Nat}(h:W.heap[b]?=some (.cells cs t fr)){j:Nat}{u:Value}(hu:cs.toList[j]?=some u):W.cell? ⟨b,j,none⟩=some u:=by
 rw[Ja h];simpa using hu
theorem Qhu{P:Prop}(h:P:=by
  unfold Qak
  rcases List.mem_cons.1 ha with rfl|ha
  ·exact List.mem_append_left _ hb
  ·exact List.mem_append_right _ (ih ha)):P:=h
def Zj{w W3:World}{p:Nat}{A:Option Addr}{C:Nat}{T:List Tok}{k' lo:Nat}{kids:List An}{cs:Array Value}(hkids:kids≠[])(hcs:cs.toList=Qdb kids)
  (hat:∀a∈kids,a.At W3) (hm:Qdi lo W3.heap.size kids) (hlo:w.heap.size<lo) (hP:PAt W3 p A C T k') (hC:Chg [p] w W3) (hp:p<w.heap.size) (hT:∀b o,A=some ⟨b,o,none⟩->b<w.heap.size)
  (kk n:Int) (s:By) (o:Int) (c:Nat) (v0 v1 v2 v3 v4:Value) :
  (An.mk kk n s o W3.heap.size c kids).At ((put5 W3 w.heap.size v0 v1 v2 v3 v4).alloc (.cells cs 127))/\
   Qce w.heap.size ((put5 W3 w.heap.size v0 v1 v2 v3 v4).alloc (.cells cs 127)).heap.size (An.mk kk n s o W3.heap.size c kids)/\
   PAt ((put5 W3 w.heap.size v0 v1 v2 v3 v4).alloc (.cells cs 127)) p A C T k'/\Chg [p] w ((put5 W3 w.heap.size v0 v1 v2 v3 v4).alloc (.cells cs 127)):=by
 have zA:=hm.le;have hsz:=Kl W3 w.heap.size v0 v1 v2 v3 v4;have hch:=Kj (S:=[w.heap.size]) (W:=W3) v0 v1 v2 v3 v4 (by simp:w.heap.size∈[w.heap.size]);have xA:=zQ (put5 W3 w.heap.size v0 v1 v2 v3 v4) (.cells cs 127);rw[hsz]at xA
 have yA:∀b,b<W3.heap.size->b≠w.heap.size->((put5 W3 w.heap.size v0 v1 v2 v3 v4).alloc (.cells cs 127)).heap[b]?=W3.heap[b]?:=λb hb hn=>
  (Below.heap_alloc _ _ _ (by rw[hsz];exact hb)).trans (hch.block b hb (by simpa using hn))
 refine⟨?_,?_,?_,?_⟩
 ·unfold An.At;refine⟨λ_ j=>Jc xA j,KN kids 0 (λj u hu=>?_) λa ha=>?_⟩
  ·rw[Nat.zero_mul,Nat.zero_add];exact KP xA (by rw[hcs];exact hu)
  ·refine JK a (hat a ha) λb hb=>?_
   have hbb:lo<=b/\b<W3.heap.size:=by
    refine hm.foot.2 b ?_;clear hat hm hcs xA yA hkids
    induction kids with
    |nil=>cases ha
    |cons x l ih=>
     exact Qhu
   exact yA b hbb.2 zo
 ·rw[World.size_alloc,hsz];exact(JbZ hm zP kk n s o c).mono (Nat.le_of_lt hlo) zP
 ·exact(hP.put5 (Ne.symm (Nat.ne_of_lt hp)) (λb o e=>by have:=hT b o e;omega) _ _ _ _ _).chg (zO.alloc zP _)
 ·exact(hC.step hch λb hb=>.inr (by simp at hb;omega)).alloc _
def V6{W:World}{b t:Nat}{a0 a1 a2 a3 a4:Value}(X:Obj)(v0 v1 v2 v3 v4:Value)(h:W.heap[b]?=some (.cells #[a0,a1,a2,a3,a4] t (0,0))):((put5 W b v0 v1 v2 v3 v4).alloc X).heap[b]?=some (.cells #[v0,v1,v2,v3,v4] t (0,0)):=
 (Below.heap_alloc _ _ _ (Jb (Qcv v0 v1 v2 v3 v4 h))).trans (Qcv v0 v1 v2 v3 v4 h)
abbrev C5(W:World)(b:Nat)(a0 a1 a2 a3 a4:Value):Prop:=
 W.cell? ⟨b,0,none⟩=some a0/\W.cell? ⟨b,1,none⟩=some a1/\W.cell? ⟨b,2,none⟩=some a2/\W.cell? ⟨b,3,none⟩=some a3/\W.cell? ⟨b,4,none⟩=some a4
def Jl{W:World}{b t:Nat}{a0 a1 a2 a3 a4:Value}{fr:Nat × Nat}(h:W.heap[b]?=some (.cells #[a0,a1,a2,a3,a4] t fr)) :
  W.cell? ⟨b,0,none⟩=some a0/\W.cell? ⟨b,1,none⟩=some a1/\W.cell? ⟨b,2,none⟩=some a2/\W.cell? ⟨b,3,none⟩=some a3/\W.cell? ⟨b,4,none⟩=some a4:=by
 refine⟨?_,?_,?_,?_,?_⟩<;>(rw[Ja h];rfl)
def Js{W:World}{b t:Nat}{cs:Array Value}(h:W.heap[b]?=some (.cells cs t (0,0))) :
  W.frozen? ⟨b,0,none⟩=false/\W.frozen? ⟨b,1,none⟩=false/\W.frozen? ⟨b,2,none⟩=false/\W.frozen? ⟨b,3,none⟩=false/\W.frozen? ⟨b,4,none⟩=false:=
 ⟨Jc h 0,Jc h 1,Jc h 2,Jc h 3,Jc h 4⟩
def JdG(t:Tok)(W:World):(Instr.field 134 (.agg (Qda t)) 3).run prog W=.ok (Iv t.off) W:=by obtain⟨a,b,c,d⟩:=t;kernel_rfl
def Jcg{W:World}{b t:Nat}{a0 a1:Value}{fr:Nat × Nat}(h:W.heap[b]?=some (.cells #[a0,a1] t fr)):W.cell? ⟨b,0,none⟩=some a0:=by rw[Ja h];rfl
def NdP.on{p:Nat}{A:Option Addr}{C:Nat}{T:List Tok}{w w':World}{x:PR Nd}{e:Ending}{Post:Ending->World->Prop}(h:NdP p A C T w x e w')(hne:x≠.out)
  (hbad:∀q,x=.bad q->Chg [p] w w'->Post (.panicked [{ v:=Qeo q,recovered:=false }]) w')
  (hok:∀(a:An) (k':Nat) (xA:Option Addr) (xn xc:Nat),x=.ok a.nd (T.drop k')->Qaa a=#[Iv a.kind,Iv a.num,.string (bs a.name),Iv a.off,.slice xA xn xc]->
   a.At w'/\Qce w.heap.size w'.heap.size a/\PAt w' p A C T k'/\Chg [p] w w'->Post (.returned (.agg #[Iv a.kind,Iv a.num,.string (bs a.name),Iv a.off,.slice xA xn xc])) w'):Post e w':=by
 cases x with
 |out=>exact absurd rfl hne
 |bad q=>obtain⟨rfl,hc⟩:=h;exact hbad q rfl hc
 |ok nd r=>
  obtain⟨a,rfl,rfl,hat,hm,⟨k',rfl,hp⟩,hc⟩:=h;obtain⟨xA,xn,xc,hf⟩:=Jg a;rw[hf];exact hok a k' xA xn xc rfl hf ⟨hat,hm,hp,hc⟩
def PRp.on{α:Type}{p:Nat}{A:Option Addr}{C:Nat}{T:List Tok}{w w':World}{g:α->Value}{x:PR α}{e:Ending}{Post:Ending->World->Prop}(h:PRp p A C T w g x e w')(hne:x≠.out)
  (hbad:∀q,x=.bad q->Chg [p] w w'->Post (.panicked [{ v:=Qeo q,recovered:=false }]) w')
  (hok:∀(a:α) (k':Nat),x=.ok a (T.drop k')->PAt w' p A C T k'->Chg [p] w w'->Post (.returned (g a)) w'):Post e w':=by
 cases x with
 |out=>exact absurd rfl hne
 |bad q=>obtain⟨rfl,hc⟩:=h;exact hbad q rfl hc
 |ok a r=>obtain⟨rfl,⟨k',rfl,hp⟩,hc⟩:=h;exact hok a k' rfl hp hc
def NdP.call{P:Program}{fn:Nat}{args:Array Value}{p:Nat}{A:Option Addr}{C:Nat}{T:List Tok}{w:World}{x:PR Nd}{Post:Ending->World->Prop}(hc:Calls P fn args w (NdP p A C T w x))(hne:x≠.out)
  (hbad:∀q w',x=.bad q->Chg [p] w w'->Post (.panicked [{ v:=Qeo q,recovered:=false }]) w')
  (hok:∀(a:An) (w':World) (k':Nat) (xA:Option Addr) (xn xc:Nat),x=.ok a.nd (T.drop k')->Qaa a=#[Iv a.kind,Iv a.num,.string (bs a.name),Iv a.off,.slice xA xn xc]->
   a.At w'/\Qce w.heap.size w'.heap.size a/\PAt w' p A C T k'/\Chg [p] w w'->Post (.returned (.agg #[Iv a.kind,Iv a.num,.string (bs a.name),Iv a.off,.slice xA xn xc])) w'):Calls P fn args w Post:=
 hc.mono λ_ w' h=>h.on hne (λq=>hbad q w') λa=>hok a w'
def PRp.call{α:Type}{P:Program}{fn:Nat}{args:Array Value}{p:Nat}{A:Option Addr}{C:Nat}{T:List Tok}{w:World}{g:α->Value}{x:PR α}{Post:Ending->World->Prop}(hc:Calls P fn args w (PRp p A C T w g x))(hne:x≠.out)
  (hbad:∀q w',x=.bad q->Chg [p] w w'->Post (.panicked [{ v:=Qeo q,recovered:=false }]) w')
  (hok:∀(a:α) (w':World) (k':Nat),x=.ok a (T.drop k')->PAt w' p A C T k'->Chg [p] w w'->Post (.returned (g a)) w'):Calls P fn args w Post:=
 hc.mono λ_ w' h=>h.on hne (λq=>hbad q w') λa=>hok a w'
def J6(kd:Int)(s:By)(r:List Tok):Qar kd s r≠.out:=by
 rcases KD kd s r with⟨_,h⟩|h<;>rw[h]<;>exact λh=>by cases h
def Jx{α β:Type}{x:PR α}{f:α->List Tok->PR β}{X:PR β}{a:α}{r:List Tok}(h:x.bind f=X)(hx:x=.ok a r):f a r=X:=by subst hx;exact h
def JO{α β:Type}{x:PR α}{f:α->List Tok->PR β}{X:PR β}(h:x.bind f=X)(hX:X≠.out):x≠.out:=λe=>hX (by rw[<- h,e];rfl)
structure NS(p:Nat)(A:Option Addr)(C:Nat)(T:List Tok)(w W:World)(k:Nat):Prop where
 pat:PAt W p A C T k
 chg:Chg [p] w W
 res:W.heap[w.heap.size]?=some (.cells #[Iv 0,Iv 0,Em,Iv 0,Nl] 127 (0,0))
 pl:p<w.heap.size
 tl:∀b o,A=some ⟨b,o,none⟩->b<w.heap.size
section
variable {p:Nat} {A:Option Addr} {C:Nat} {T:List Tok} {w W W':World} {k k':Nat}
def NS.start(h:PAt w p A C T k):NS p A C T w (w.alloc (.cells #[Iv 0,Iv 0,Em,Iv 0,Nl] 127)) k:=
 have hB:=(Below.refl w.heap.size w).alloc zP (.cells #[Iv 0,Iv 0,Em,Iv 0,Nl] 127)
 ⟨h.chg hB,Chg.of_below hB [p],zQ _ _,Jb h.self,h.tokLt⟩
section
variable (h:NS p A C T w W k)
include h
theorem NS.ne:w.heap.size≠p:=Ne.symm (Nat.ne_of_lt h.pl)
theorem NS.lt:w.heap.size<W.heap.size:=Jb h.res
theorem NS.plt:p<W.heap.size:=Nat.lt_trans h.pl h.lt
theorem NS.up(hb:Below W.heap.size W W'):NS p A C T w W' k:=⟨h.pat.chg hb,h.chg.trans (Chg.of_below hb [p]),(hb.block _ h.lt).trans h.res,h.pl,h.tl⟩
theorem NS.on(hp:PAt W' p A C T k')(hc:Chg [p] W W'):NS p A C T w W' k':=⟨hp,h.chg.trans hc,hc.heap_some (by simp;exact h.ne) h.res,h.pl,h.tl⟩
theorem NS.new(X:Obj):NS p A C T w (W.alloc X) k:=h.up (zO.alloc zP X)
theorem NS.dr:NS p A C T w W.drew k:=h.up zO.drew
end
def NS.bad{α:Type}{x:PR α}{f:α->List Tok->PR Nd}{X:PR Nd}{R:Ending->World->Prop}{q:Int}(h:NS p A C T w W k)(hR:R=NdP p A C T w X)(hX:x.bind f=X)(hx:x=.bad q)(hc:Chg [p] W W'):R (.panicked [{ v:=Qeo q,recovered:=false }]) W':=by
 subst hx hX hR;exact⟨rfl,h.chg.trans hc⟩
end
def PAt.chg1{W:World}{p:Nat}{A:Option Addr}{C:Nat}{T:List Tok}{k:Nat}(h:PAt W p A C T k):p<W.heap.size:=Jb h.self
def KB{α β:Type}{x:PR α}{f:α->List Tok->PR β}(h:x.bind f≠.out):x≠.out:=λe=>h (by rw[e];rfl)
def JfM(f:Nat){r r1:List Tok}(h:acc 0 QgQ r=some r1):pM (f+1) (.level 3) r=(pM f (.level 3) r1).bind λa r2=>.ok (.mk 7 0 [] (hd r).off [a]) r2:=by rw[pM,if_pos rfl,h]
def JgT(f:Nat){r:List Tok}(h:acc 0 QgQ r=none):pM (f+1) (.level 3) r=pM f .cmp r:=by rw[pM,if_pos rfl,h]
def JfN(f:Nat){r r1:List Tok}(h:acc 3 [45] r=some r1):pM (f+1) (.level 7) r=(pM f (.level 7) r1).bind λa r2=>.ok (.mk 6 0 [] (hd r).off [a]) r2:=by rw[pM,if_neg zp,if_pos rfl,h]
def JgU(f:Nat){r:List Tok}(h:acc 3 [45] r=none):pM (f+1) (.level 7) r=pM f .prim r:=by rw[pM,if_neg zp,if_pos rfl,h]
def Jch{w W2 W3:World}{p:Nat}{A:Option Addr}{C:Nat}{T:List Tok}{k':Nat}{a:An}(hat:a.At W3)(hm:Qce W2.heap.size W3.heap.size a)(h2:w.heap.size<W2.heap.size)(hP:PAt W3 p A C T k')(hC2:Chg [p] w W2)(hC3:Chg [p] W2 W3)(hp:p<w.heap.size)(hT:∀b o,A=some ⟨b,o,none⟩->b<w.heap.size)(v0 v1 v2 v3 v4:Value) :
  a.At (put5 W3 w.heap.size v0 v1 v2 v3 v4)/\Qce w.heap.size (put5 W3 w.heap.size v0 v1 v2 v3 v4).heap.size a/\PAt (put5 W3 w.heap.size v0 v1 v2 v3 v4) p A C T k'/\Chg [p] w (put5 W3 w.heap.size v0 v1 v2 v3 v4):=by
 have hc:=Kj (S:=[w.heap.size]) (W:=W3) v0 v1 v2 v3 v4 (by simp:w.heap.size∈[w.heap.size]);refine⟨JaE hat hm hc zP λb hb=>by simp at hb;omega,?_,hP.put5 (Ne.symm (Nat.ne_of_lt hp)) (λb o e=>by have:=hT b o e;omega) _ _ _ _ _,(hC2.trans hC3).step hc λb hb=>.inr (by simp at hb;omega)⟩;rw[Kl];exact hm.mono (Nat.le_of_lt h2) zP
def NS.pass{p:Nat}{A:Option Addr}{C:Nat}{T:List Tok}{w W W':World}{k k':Nat}{a:An}(h:NS p A C T w W k)(B:a.At W'/\Qce W.heap.size W'.heap.size a/\PAt W' p A C T k'/\Chg [p] W W')(v0 v1 v2 v3 v4:Value) :
  a.At (put5 W' w.heap.size v0 v1 v2 v3 v4)/\Qce w.heap.size (put5 W' w.heap.size v0 v1 v2 v3 v4).heap.size a/\PAt (put5 W' w.heap.size v0 v1 v2 v3 v4) p A C T k'/\Chg [p] w (put5 W' w.heap.size v0 v1 v2 v3 v4):=
 Jch B.1 B.2.1 h.lt B.2.2.1 h.chg B.2.2.2 h.pl h.tl v0 v1 v2 v3 v4
theorem Qkc{P:Prop}(h:P:=by
  subst hx;replace HS:=Zh (HS.o.up hb2);clear g1 hb2 HX0 HOF I1;go_wp2_with fail;refine NdP.call (I2 k w2 HS.o.pat HNE.o) HNE.o (λq _ hx hc=>by exact⟨rfl,by rw[HR.o,hx];exact⟨rfl,HS.o.chg.trans hc⟩⟩) λa w4 k4 xA xn xc hx hcf B=>?_
  have HPS:=Zh (HS.o.pass B);have HX4:=Zh hx;have HCF:=Zh hcf;have HZZ:=Zh (HS.o.on B.2.2.1 B.2.2.2).res;have h5:=Jl HZZ.o;have y5:=Js HZZ.o;clear hx hcf B;go_wp2;refine bodyPost_ret (v:=.agg (Qaa a)) (by rw[HCF.o];exact results_cell_row rfl _ _ w.heap.size 127 _ (0,0) _ rfl (Qcv _ _ _ _ _ HZZ.o) underlying127 rfl Qau) rfl ?_;rw[HR.o,HX4.o];obtain⟨e1,e2,e3,e4⟩:=HPS.o _ _ _ _ _
  exact⟨_,rfl,rfl,e1,e2,⟨k4,rfl,e3⟩,e4⟩):P:=h
theorem QgU{P:Prop}(h:P:=by
  obtain⟨e1,e2,e3,e4⟩:=HFIN.o _ _ _ _ _
  exact⟨_,rfl,rfl,e1,e2,⟨k9,rfl,e3⟩,e4⟩):P:=h
def JlI(f p:Nat)(A:Option Addr)(C:Nat)(T:List Tok)
  (I1:∀k w,PAt w p A C T k->pM f (.level 3) (T.drop k)≠.out->Calls prog 136 #[Pt p,Iv 3] w (NdP p A C T w (pM f (.level 3) (T.drop k))))
  (I2:∀k w,PAt w p A C T k->pM f .cmp (T.drop k)≠.out->Calls prog 158 #[Pt p] w (NdP p A C T w (pM f .cmp (T.drop k))))
  (k:Nat) (w:World) (h:PAt w p A C T k) (hne:pM (f+1) (.level 3) (T.drop k)≠.out) :
  Calls prog 136 #[Pt p,Iv 3] w (NdP p A C T w (pM (f+1) (.level 3) (T.drop k))):=by
 obtain⟨X,hX⟩:∃X,pM (f+1) (.level 3) (T.drop k)=X:=⟨_,rfl⟩
 have HX0:=Zh hX;rw[hX]at hne |-;obtain⟨R,hR⟩:∃R,R=NdP p A C T w X:=⟨_,rfl⟩
 rw[<- hR];have HR:=Zh hR;have HNE:=Zh hne;have HS:=Zh (NS.start h);have cp:=Kp p A C T k _ HS.o.pat;obtain⟨of,zA⟩:∃of,(hd (T.drop k)).off=of:=⟨_,rfl⟩
 unfold Qfh at cp;have hfl:=JdG (hd (T.drop k));rw[zA]at hfl;have HOF:=Zh zA;generalize Qda (hd (T.drop k))=tv at *;clear h hne hR zA hX;go_enter func136,ntmps136;go_wp2_with fail;refine cp.mono ?_;rintro e w1 ⟨rfl,hb1⟩;replace HS:=Zh (HS.o.up hb1);clear cp hb1;go_wp2_with fail;refine(Jt p A C T k 0 QgQ w1 HS.o.pat zp).mono ?_;intro e w2 h2
 rcases h2 with⟨g1,g2,rfl,hp2,hc2⟩|⟨g1,rfl,hb2⟩
 ·have uA:=HX0.o;rw[JfM f (JN g1 g2),HOF.o]at uA;have HX1:=Zh uA;replace HS:=Zh (HS.o.on hp2 hc2);clear g1 g2 hp2 hc2 uA I2 HX0 HOF;go_wp2_with fail;refine NdP.call (I1 (k+1) w2 HS.o.pat (JO HX1.o HNE.o)) (JO HX1.o HNE.o) (λq _ hx hc=>by exact⟨rfl,HS.o.bad HR.o HX1.o hx hc⟩) λa w9 k9 xA xn xc hx hcf B=>?_
  have yA:=HS.o.lt;have hm:=B.2.2.2.size;have vA:=Zh (Jx HX1.o hx);replace HS:=Zh (HS.o.on B.2.2.1 B.2.2.2);have HFIN:=Zh (λv0 v1 v2 v3 v4=>Zj (w:=w) (W3:=w9) (kids:=[a]) (cs:=Qaa a) zq (by simp[Qdb]) (by simpa using B.1) (⟨w9.heap.size,hm,B.2.1,le_refl _⟩:Qdi w2.heap.size w9.heap.size [a]) yA HS.o.pat HS.o.chg HS.o.pl HS.o.tl 7 0 [] of 1 v0 v1 v2 v3 v4);have h5:=Jl HS.o.res;have y5:=Js HS.o.res;have aA:=HS.o.lt;rw[hcf]at HFIN;clear hx hcf B hm yA;go_wp2;refine bodyPost_ret (v:=.agg (Qaa (An.mk 7 0 [] of w9.heap.size 1 [a]))) (results_cell_row rfl _ _ w.heap.size 127 _ (0,0) _ rfl (V6 _ _ _ _ _ _ HS.o.res) underlying127 rfl Qau) rfl ?_;rw[HR.o,<- vA.o];exact QgU
 ·have hx:=HX0.o;rw[JgT f (Kf g1)]at hx;exact Qkc
def JlJ(f p:Nat)(A:Option Addr)(C:Nat)(T:List Tok)
  (I1:∀k w,PAt w p A C T k->pM f (.level 7) (T.drop k)≠.out->Calls prog 136 #[Pt p,Iv 7] w (NdP p A C T w (pM f (.level 7) (T.drop k))))
  (I2:∀k w,PAt w p A C T k->pM f .prim (T.drop k)≠.out->Calls prog 159 #[Pt p] w (NdP p A C T w (pM f .prim (T.drop k))))
  (k:Nat) (w:World) (h:PAt w p A C T k) (hne:pM (f+1) (.level 7) (T.drop k)≠.out) :
  Calls prog 136 #[Pt p,Iv 7] w (NdP p A C T w (pM (f+1) (.level 7) (T.drop k))):=by
 obtain⟨X,hX⟩:∃X,pM (f+1) (.level 7) (T.drop k)=X:=⟨_,rfl⟩
 have HX0:=Zh hX;rw[hX]at hne |-;obtain⟨R,hR⟩:∃R,R=NdP p A C T w X:=⟨_,rfl⟩
 rw[<- hR];have HR:=Zh hR;have HNE:=Zh hne;have HS:=Zh (NS.start h);have cp:=Kp p A C T k _ HS.o.pat;obtain⟨of,zA⟩:∃of,(hd (T.drop k)).off=of:=⟨_,rfl⟩
 unfold Qfh at cp;have hfl:=JdG (hd (T.drop k));rw[zA]at hfl;have HOF:=Zh zA;generalize Qda (hd (T.drop k))=tv at *;clear h hne hR zA hX;go_enter func136,ntmps136;go_wp2_with fail;refine cp.mono ?_;rintro e w1 ⟨rfl,hb1⟩;replace HS:=Zh (HS.o.up hb1);clear cp hb1;go_wp2_with fail;refine(Jt p A C T k 3 [45] w1 HS.o.pat zp).mono ?_;intro e w2 h2
 rcases h2 with⟨g1,g2,rfl,hp2,hc2⟩|⟨g1,rfl,hb2⟩
 ·have uA:=HX0.o;rw[JfN f (JN g1 g2),HOF.o]at uA;have HX1:=Zh uA;replace HS:=Zh (HS.o.on hp2 hc2);clear g1 g2 hp2 hc2 uA I2 HX0 HOF;go_wp2_with fail;refine NdP.call (I1 (k+1) w2 HS.o.pat (JO HX1.o HNE.o)) (JO HX1.o HNE.o) (λq _ hx hc=>by exact⟨rfl,HS.o.bad HR.o HX1.o hx hc⟩) λa w9 k9 xA xn xc hx hcf B=>?_
  have yA:=HS.o.lt;have hm:=B.2.2.2.size;have vA:=Zh (Jx HX1.o hx);replace HS:=Zh (HS.o.on B.2.2.1 B.2.2.2);have HFIN:=Zh (λv0 v1 v2 v3 v4=>Zj (w:=w) (W3:=w9) (kids:=[a]) (cs:=Qaa a) zq (by simp[Qdb]) (by simpa using B.1) (⟨w9.heap.size,hm,B.2.1,le_refl _⟩:Qdi w2.heap.size w9.heap.size [a]) yA HS.o.pat HS.o.chg HS.o.pl HS.o.tl 6 0 [] of 1 v0 v1 v2 v3 v4);have h5:=Jl HS.o.res;have y5:=Js HS.o.res;have aA:=HS.o.lt;rw[hcf]at HFIN;clear hx hcf B hm yA;go_wp2;refine bodyPost_ret (v:=.agg (Qaa (An.mk 6 0 [] of w9.heap.size 1 [a]))) (results_cell_row rfl _ _ w.heap.size 127 _ (0,0) _ rfl (V6 _ _ _ _ _ _ HS.o.res) underlying127 rfl Qau) rfl ?_;rw[HR.o,<- vA.o];exact QgU
 ·have hx:=HX0.o;rw[JgU f (Kf g1)]at hx;exact Qkc
end Go.Proofs.YtfafpklefknomaaGreatDoor
