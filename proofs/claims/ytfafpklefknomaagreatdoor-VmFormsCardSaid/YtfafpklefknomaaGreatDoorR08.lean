import Derived.Test.YtfafpklefknomaaGreatDoorR07
open Nat(le_refl)
namespace Go.Proofs.YtfafpklefknomaaGreatDoor
open Go.ChangeShapes Go.WideShapes Go.ChangeAt Go.RowKit Go.Lib
open _root_.Go.Proofs.Tryz
set_option linter.all false
set_option maxRecDepth 100000
set_option maxHeartbeats 32000000
structure PrI(p:Nat)(A:Option Addr)(C:Nat)(T:List Tok)(w:World)(k tb:Nat)(tok:Array Value)(W:World):Prop where
 pat:PAt W p A C T k
 tok:W.heap[tb]?=some (.cells tok 134 (0,0))
 res:W.heap[w.heap.size]?=some (.cells #[Iv 0,Iv 0,Em,Iv 0,Nl] 127 (0,0))
 chg:Below w.heap.size w W
 low:w.heap.size<tb/\p<w.heap.size
def PrI.below{p:Nat}{A:Option Addr}{C:Nat}{T:List Tok}{w:World}{k tb:Nat}{tok:Array Value}{W W':World}(h:PrI p A C T w k tb tok W)(hb:Below W.heap.size W W'):PrI p A C T w k tb tok W':=
 ⟨h.pat.chg hb,(hb.block _ (Jb h.tok)).trans h.tok,(hb.block _ (Jb h.res)).trans h.res,h.chg.trans (hb.mono h.chg.size),h.low⟩
def Jbv{w W:World}{p:Nat}{A:Option Addr}{C:Nat}{T:List Tok}{k:Nat}(hP:PAt W p A C T k)(hC:Chg [p] w W)(hp:p<w.heap.size)(hT:∀b o,A=some ⟨b,o,none⟩->b<w.heap.size)(v0 v1 v2 v3 v4:Value) :
  PAt (put5 W w.heap.size v0 v1 v2 v3 v4) p A C T k/\Chg [p] w (put5 W w.heap.size v0 v1 v2 v3 v4):=
 ⟨hP.put5 (Ne.symm (Nat.ne_of_lt hp)) (λb o e=>by have:=hT b o e;omega) _ _ _ _ _,hC.step (Kj (S:=[w.heap.size]) v0 v1 v2 v3 v4 (by simp:w.heap.size∈[w.heap.size])) λb hb=>.inr (by simp at hb;omega)⟩
def Kg(k n:Int)(s:By)(o:Int):Qaa (QcL k n s o)=#[Iv k,Iv n,Sv s,Iv o,Nl]:=by
 show #[_,_,_,_,Qaz 0 0 []]=_
 unfold Qaz;rw[if_pos rfl]
def JdH(k n:Int)(s:By)(o:Int):(QcL k n s o).nd=.mk k n s o []:=rfl
def JfO(a:An)(tf:Int){V:Value}(h:Qaa a=#[Iv a.kind,Iv a.num,.string (bs a.name),Iv a.off,V]):Qaa (.mk a.kind a.num a.name tf a.blk a.cap a.kids)=#[Iv a.kind,Iv a.num,.string (bs a.name),Iv tf,V]:=by
 obtain⟨k,n,s,o,b,c,l⟩:=a;have e:Qaz b c l=V:=Option.some.inj (congrArg (λx:Array Value=>x[4]?) h)
 show #[_,_,_,_,Qaz b c l]=_
 rw[e]
 first|done|rfl
def Jor(a:An)(tf:Int):(An.mk a.kind a.num a.name tf a.blk a.cap a.kids).nd=.mk a.nd.kind a.nd.num a.nd.name tf a.nd.kids:=by cases a;rfl
def JlP(a:An)(tf:Int):foot (An.mk a.kind a.num a.name tf a.blk a.cap a.kids)=foot a:=by obtain⟨k,n,s,o,b,c,l⟩:=a;cases l<;>simp[foot,An.blk,An.kids]
def JlQ{w W:World}{p:Nat}{A:Option Addr}{C:Nat}{T:List Tok}{k lo bx:Nat}{a:An}(hat:a.At W)(hm:Qce lo bx a)(hl:w.heap.size<lo)(hb:bx<W.heap.size)(hbw:w.heap.size<bx)(hbp:bx≠p)(hP:PAt W p A C T k)(hC:Chg [p] w W)(hp:p<w.heap.size)(hT:∀b o,A=some ⟨b,o,none⟩->b<w.heap.size)(o:Int)(v v0 v1 v2 v3 v4:Value) :
  (An.mk a.kind a.num a.name o a.blk a.cap a.kids).At (put5 (W.setCell ⟨bx,3,none⟩ v) w.heap.size v0 v1 v2 v3 v4)/\Qce w.heap.size (put5 (W.setCell ⟨bx,3,none⟩ v) w.heap.size v0 v1 v2 v3 v4).heap.size (An.mk a.kind a.num a.name o a.blk a.cap a.kids)/\PAt (put5 (W.setCell ⟨bx,3,none⟩ v) w.heap.size v0 v1 v2 v3 v4) p A C T k/\Chg [p] w (put5 (W.setCell ⟨bx,3,none⟩ v) w.heap.size v0 v1 v2 v3 v4):=by
 have hsz:(put5 (W.setCell ⟨bx,3,none⟩ v) w.heap.size v0 v1 v2 v3 v4).heap.size=W.heap.size:=by rw[Kl];simp[World.setCell]
 have h1:Chg [w.heap.size,bx] W (W.setCell ⟨bx,3,none⟩ v):=(Chg.refl _ W).setCell (.inl (by simp:bx∈[w.heap.size,bx])) (p:=⟨bx,3,none⟩) v;have h2:=h1.trans (Kj (S:=[w.heap.size,bx]) (W:=W.setCell ⟨bx,3,none⟩ v) v0 v1 v2 v3 v4 (by simp:w.heap.size∈[w.heap.size,bx]));have hft:=JlP a o
 have e0:a.At (put5 (W.setCell ⟨bx,3,none⟩ v) w.heap.size v0 v1 v2 v3 v4):=JK a hat λb hb'=>h2.block b (zu ((hm.2 b hb').2)) (λhq=>by
  have h3:=hm.2 b hb';simp only[List.mem_cons,List.not_mem_nil,or_false]at hq
  rcases hq with rfl|rfl<;>omega)
 refine⟨?_,?_,?_,?_⟩
 ·obtain⟨k,n,s,o',b,c,l⟩:=a;exact e0
 ·unfold Qce;rw[hft,hsz];exact⟨hm.1,λb hb'=>by have:=hm.2 b hb';omega⟩
 ·exact(hP.setFar hbp (λb o e=>by have:=hT b o e;omega) 3 v).put5 (Ne.symm (Nat.ne_of_lt hp)) (λb o e=>by have:=hT b o e;omega) _ _ _ _ _
 ·exact hC.step h2 λq hq=>.inr (by simp only[List.mem_cons,List.not_mem_nil,or_false]at hq;omega)
def Jny(f:Nat){r:List Tok}(h:(hd r).kind=1):pM (f+1) .prim r=.ok (.mk 0 (hd r).n [] (hd r).off []) r.tail:=by rw[pM,if_pos h]
theorem Qkf{P:Prop}(h:P:=by
  have HX3:Hi (X=pM f .named (T.drop k)):=by rw[Hi,<- HX2.o,if_neg hF]
  have hne2:pM f .named (T.drop k)≠.out:=by rw[<- HX3.o];exact HNE.o
  clear hF HX2 I1;go_wp2_with fail;refine NdP.call (I2 k _ HI.o.pat hne2) hne2 (λq _ hx hc3=>by exact⟨rfl,by rw[HR.o,HX3.o,hx];exact⟨rfl,(Chg.of_below HI.o.chg [p]).trans hc3⟩⟩) λa w3 k3 xA xn xc hx hcf B=>?_
  obtain⟨hat,hmd,hp3,hc3⟩:=B;have hzz:w3.heap[w.heap.size]?=some (.cells #[Iv 0,Iv 0,.string ⟨#[]⟩,Iv 0,.slice none 0 0] 127):=hc3.heap_some (by simp;exact hpz) HI.o.res;have HFIN:=Zh (λv0 v1 v2 v3 v4=>Jch (w:=w) (W2:=wa4) (W3:=w3) hat hmd (Jb HI.o.res) hp3 (Chg.of_below HI.o.chg [p]) hc3 HPL.o HTL.o v0 v1 v2 v3 v4);have HX4:Hi (X=.ok a.nd (T.drop k3)):=by rw[Hi,HX3.o,hx]
  have HCF:=Zh hcf;have z5:=Jl hzz;have y5:=Js hzz;have HZZ:=Zh hzz;clear hzz hx hat hmd hp3 hc3 hcf hne2 I2 HX3 HI;go_wp2;refine bodyPost_ret (v:=.agg (Qaa a)) (by rw[HCF.o];exact results_cell_row rfl _ _ w.heap.size 127 _ (0,0) _ rfl (Qcv _ _ _ _ _ HZZ.o) underlying127 rfl Qau) rfl ?_;rw[HR.o,HX4.o];obtain⟨e1,e2,e3,e4⟩:=HFIN.o _ _ _ _ _
  exact⟨_,rfl,rfl,e1,e2,⟨k3,rfl,e3⟩,e4⟩):P:=h
theorem Qix{P:Prop}(h:P:=by
  obtain⟨e1,e2⟩:=Jbv HP4.o HC4.o HPL.o HTL.o _ _ _ _ _
  exact⟨_,JdH _ _ _ _,rfl,JdD _ _ _ _ _,ZH _ _ _ _ _ _,⟨k+1,rfl,e1⟩,e2⟩):P:=h
theorem Qic{P:Prop}(h:P:=by
  rw[HR.o,HX3.o];obtain⟨e1,e2⟩:=Jbv HP4.o HC4.o HPL.o HTL.o _ _ _ _ _
  exact⟨_,JdH _ _ _ _,rfl,JdD _ _ _ _ _,ZH _ _ _ _ _ _,⟨k4,rfl,e1⟩,e2⟩):P:=h
def Jjx(f p:Nat)(A:Option Addr)(C:Nat)(T:List Tok)
  (I1:∀k w,PAt w p A C T k->pM f .expr (T.drop k)≠.out->Calls prog 88 #[Pt p] w (NdP p A C T w (pM f .expr (T.drop k))))
  (I2:∀k w,PAt w p A C T k->pM f .named (T.drop k)≠.out->Calls prog 169 #[Pt p] w (NdP p A C T w (pM f .named (T.drop k))))
  (k:Nat) (w:World) (h:PAt w p A C T k) (hne:pM (f+1) .prim (T.drop k)≠.out) :
  Calls prog 159 #[Pt p] w (NdP p A C T w (pM (f+1) .prim (T.drop k))):=by
 obtain⟨X,hX⟩:∃X,pM (f+1) .prim (T.drop k)=X:=⟨_,rfl⟩
 rw[hX]at hne |-;obtain⟨R,hR⟩:∃R,NdP p A C T w X=R:=⟨_,rfl⟩
 rw[hR];have HR:Hi (R=NdP p A C T w X):=hR.symm;have HNE:=Zh hne;have HX:=Zh hX;have hZ:=zQ w (.cells #[Iv 0,Iv 0,Em,Iv 0,Nl] 127);have hB:=(Below.refl w.heap.size w).alloc zP (.cells #[Iv 0,Iv 0,Em,Iv 0,Nl] 127);have cp:=Kp p A C T k _ (h.chg hB);have HP:=Zh (h.chg hB);have HZ:=Zh hZ;have HB:=Zh hB;have HPL:=Zh h.chg1;have HTL:=Zh h.tokLt;have kA:=λ(e:(hd (T.drop k)).kind=1)=>h.more (by rw[e];decide)
 obtain⟨t,ht⟩:∃t,hd (T.drop k)=t:=⟨_,rfl⟩
 have uA:=Zh ht;rw[ht]at cp kA;obtain⟨tk,tx,tn,tf⟩:=t;unfold Qfh Qda at cp;simp only at cp kA;have hpz:w.heap.size≠p:=by have:=HPL.o;omega
 clear h hne hR hZ hB hX ht;go_enter func159,ntmps159;go_wp2_with fail;refine cp.mono ?_;rintro e w3 ⟨rfl,sA⟩;have vB:=zQ w3 (.cells #[Iv tk,Sv tx,Iv tn,Iv tf] 134);have uB:Below w3.heap.size w3 (w3.alloc (.cells #[Iv tk,Sv tx,Iv tn,Iv tf] 134)):=zO.alloc zP _;have qA:=sA.trans (uB.mono sA.size);have HI:Hi (PrI p A C T w k w3.heap.size #[Iv tk,Sv tx,Iv tn,Iv tf] (w3.alloc (.cells #[Iv tk,Sv tx,Iv tn,Iv tf] 134))):=⟨HP.o.chg qA,vB,(qA.block _ (Jb HZ.o)).trans HZ.o,HB.o.trans (qA.mono HB.o.size),Nat.lt_of_lt_of_le (Jb HZ.o) sA.size,HPL.o⟩
 clear cp sA qA vB uB HP HZ HB;go_upto_region 2 with fail;generalize w3.alloc (.cells #[Iv tk,Sv tx,Iv tn,Iv tf] 134)=W3 at *;generalize w3.heap.size=tb at *;have cB:tb≠p/\tb≠w.heap.size:=by have:=HI.o.low;omega
 obtain⟨zA,bB⟩:=cB;have ht:=HI.o.tok;have c0:W3.cell? ⟨tb,0,none⟩=some (Iv tk):=by rw[Ja ht];rfl
 by_cases h1:tk=1
 ·subst h1;have d1:((1:Int)==1)=true:=zp;have hk1:=kA rfl;have HX2:Hi (X=.ok (.mk 0 tn [] tf []) (T.drop (k+1))):=by rw[Hi,<- HX.o,Jny f (by rw[uA.o]),uA.o,tail_drop]
  have wk:IntKind.i64.wrap ((k:Int)+1)=(k:Int)+1:=IntWalk.i64_in _ (zu HI.o.pat.room);have pc:=Ja HI.o.pat.self 1;have pf:=Jc HI.o.pat.self 1;simp only[zW]at pc;have HP4:Hi (PAt (W3.setCell ⟨p,1,none⟩ (Iv ((k:Int)+1))) p A C T (k+1)):=HI.o.pat.next hk1;have HC4:Hi (Chg [p] w (W3.setCell ⟨p,1,none⟩ (Iv ((k:Int)+1)))):=(Chg.of_below HI.o.chg [p]).setCell (.inl (by simp:p∈[p])) (p:=⟨p,1,none⟩) _;have t2:W3.cell? ⟨tb,2,none⟩=some (Iv tn):=by rw[Ja ht];rfl
  have t3:W3.cell? ⟨tb,3,none⟩=some (Iv tf):=by rw[Ja ht];rfl
  have hrs:(W3.setCell ⟨p,1,none⟩ (Iv ((k:Int)+1))).heap[w.heap.size]?=some (.cells #[Iv 0,Iv 0,Em,Iv 0,Nl] 127 (0,0)):=by rw[Below.heap_setCell _ _ _ _ (by first|exact hpz|exact Ne.symm hpz)];exact HI.o.res
  have z5:=Jl HI.o.res;have y5:=Js HI.o.res;have HRS:=Zh hrs;clear hrs ht hk1 kA HX uA I1 I2;go_wp2;refine bodyPost_ret (v:=.agg (Qaa (QcL 0 tn [] tf))) (by rw[Kg];exact results_cell_row rfl _ _ w.heap.size 127 _ (0,0) _ rfl (Qcv _ _ _ _ _ HRS.o) underlying127 rfl Qau) rfl ?_;rw[HR.o,HX2.o];exact Qix
 ·have d1:(tk==1)=false:=zM h1;have hx:=HX.o;rw[pM,if_neg (by rw[uA.o];exact h1)]at hx;have HX1:=Zh hx;clear hx ht h1 kA HX;go_wp2_with fail;refine(Jt p A C T k 3 [40] _ HI.o.pat zp).mono ?_;intro e jA h2
  rcases h2 with⟨g1,g2,rfl,hp2,hc2⟩|⟨g1,rfl,hb2⟩
  ·
   have HP4:=Zh hp2;have HC4:Hi (Chg [p] w jA):=(Chg.of_below HI.o.chg [p]).trans hc2;have HRS:Hi (jA.heap[w.heap.size]?=some (.cells #[Iv 0,Iv 0,Em,Iv 0,Nl] 127 (0,0))):=hc2.heap_some (by simp;exact hpz) HI.o.res;have yA:Hi (jA.heap[tb]?=some (.cells #[Iv tk,Sv tx,Iv tn,Iv tf] 134 (0,0))):=hc2.heap_some (by simp;exact zA) HI.o.tok;have hx:=HX1.o;rw[JN g1 g2]at hx;dsimp only at hx;have HX2:=Zh hx;have hne2:pM f .expr (T.drop (k+1))≠.out:=KB (by rw[hx];exact HNE.o);clear hx HX1 HI hp2 hc2 g1 g2 I2;go_wp2_with fail;refine NdP.call (I1 (k+1) _ HP4.o hne2) hne2 (λq _ hx hc5=>by exact⟨rfl,by rw[HR.o,<- HX2.o,hx];exact⟨rfl,HC4.o.trans hc5⟩⟩) λa w5 k5 xA xn xc hx hcf B=>?_
   obtain⟨hat,hmd,aA,hc5⟩:=B;have iA:Below w5.heap.size w5 (w5.alloc (.cells (Qaa a) 127)):=zO.alloc zP _;have HB5:=Zh (zQ w5 (.cells (Qaa a) 127));have yB:=Zh (aA.chg iA);have eA:=Zh (And.intro (K1 hat hmd iA zP) hmd);have nA:=Zh ((HC4.o.trans hc5).alloc (.cells (Qaa a) 127));have vA:=hc5.heap_some (by simp;exact hpz) HRS.o;have bA:=hc5.heap_some (by simp;exact zA) yA.o;have cA:=Zh ((iA.block _ (Jb vA)).trans vA);have dA:=Zh ((iA.block _ (Jb bA)).trans bA);have HX3:Hi (((Qar 3 [41] (T.drop k5)).bind λ_ r3=>PR.ok (.mk a.nd.kind a.nd.num a.nd.name tf a.nd.kids) r3)=X):=by rw[Hi,<- HX2.o,hx,uA.o];rfl
   have HCF:=Zh (JfO a tf hcf);have HLO:Hi (w.heap.size<jA.heap.size/\w.heap.size<w5.heap.size/\w5.heap.size≠p):=⟨Jb HRS.o,Jb vA,Ne.symm (Nat.ne_of_lt aA.chg1)⟩
   obtain⟨lo,hlo⟩:∃lo,jA.heap.size=lo:=⟨_,rfl⟩
   rw[hcf]at yB HB5 eA nA cA dA;rw[hlo]at eA HLO;have tA:w5.heap.size≠w.heap.size:=by have:=HLO.o.2.1;omega
   have xB:w.heap.size≠w5.heap.size:=by have:=HLO.o.2.1;omega
   have hA:=HLO.o.2.2;clear hx hat hmd aA hc5 hcf iA vA bA hne2 HX2 HP4 HC4 HRS yA I1 hlo;go_wp2_with fail;generalize w5.alloc _=W5 at *;generalize w5.heap.size=bx at *;refine(Qdv p A C T k5 [41] W5 yB.o).mono ?_;intro e w6 h6
   rcases KD 3 [41] (T.drop k5) with⟨r',ha⟩|ha
   ·rw[ha]at h6;obtain⟨rfl,⟨k6,hr6,zB⟩,hc6⟩:=h6;subst hr6;have hB6:=hc6.heap_some (by simp;exact hA) HB5.o;have mA:=hc6.heap_some (by simp;exact hpz) cA.o;have aB:=hc6.heap_some (by simp;exact zA) dA.o;have HX4:Hi (X=.ok (An.mk a.kind a.num a.name tf a.blk a.cap a.kids).nd (T.drop k6)):=by rw[Hi,<- HX3.o,ha,Jor];rfl
    have HFIN:=Zh (λv v0 v1 v2 v3 v4=>JlQ (W:=w6) (JaE eA.o.1 eA.o.2 hc6 (Nat.le_of_lt (Jb HB5.o)) λb hb=>by have:=HLO.o.1;have:=HPL.o;simp at hb;omega) eA.o.2 HLO.o.1 (Jb hB6) HLO.o.2.1 hA zB (nA.o.trans hc6) HPL.o HTL.o tf v v0 v1 v2 v3 v4);have t3:=Ja aB 3;simp only[zW]at t3;have b5:=Jl hB6;have z5:=Jl mA;have hg:=λj=>Jc hB6 j
    have f3:=hg 3;have y5:=Js mA;have dB:Hi ((w6.setCell ⟨bx,3,none⟩ (Iv tf)).heap[w.heap.size]?=some (.cells #[Iv 0,Iv 0,Em,Iv 0,Nl] 127)):=by rw[Hi,Below.heap_setCell _ _ _ _ (by first|exact tA|exact xB)];exact mA
    clear hg hB6 mA aB zB hc6 ha eA nA yB cA dA HB5 HX3;go_wp2;refine bodyPost_ret (v:=.agg (Qaa (An.mk a.kind a.num a.name tf a.blk a.cap a.kids))) (by rw[HCF.o];exact results_cell_row rfl _ _ w.heap.size 127 _ (0,0) _ rfl (Qcv _ _ _ _ _ dB.o) underlying127 rfl Qau) rfl ?_;rw[HR.o,HX4.o];obtain⟨e1,e2,e3,e4⟩:=HFIN.o _ _ _ _ _ _;exact⟨_,rfl,rfl,e1,e2,⟨k6,rfl,e3⟩,e4⟩
   ·rw[ha]at h6;obtain⟨rfl,hc6⟩:=h6;refine⟨rfl,?_⟩;rw[HR.o,<- HX3.o,ha];exact⟨rfl,nA.o.trans hc6⟩
  have hx:=HX1.o;rw[Kf g1]at hx;replace HX1:=Zh hx;replace HI:=Zh (HI.o.below hb2);clear hx hb2 g1;go_wp2_with fail;refine(Jt p A C T k 0 QeN _ HI.o.pat zp).mono ?_;intro e pA h2
  rcases h2 with⟨g1,g2,rfl,hp2,hc2⟩|⟨g1,rfl,hb2⟩
  ·
   have HP4:=Zh hp2;have HC4:Hi (Chg [p] w pA):=(Chg.of_below HI.o.chg [p]).trans hc2;have HRS:Hi (pA.heap[w.heap.size]?=some (.cells #[Iv 0,Iv 0,Em,Iv 0,Nl] 127 (0,0))):=hc2.heap_some (by simp;exact hpz) HI.o.res;have yA:Hi (pA.heap[tb]?=some (.cells #[Iv tk,Sv tx,Iv tn,Iv tf] 134 (0,0))):=hc2.heap_some (by simp;exact zA) HI.o.tok;have hx:=HX1.o;rw[JN g1 g2]at hx;have HX2:Hi (X=.ok (.mk 1 0 [] tf []) (T.drop (k+1))):=by rw[Hi,<- hx,uA.o]
   clear hx HX1 HI hp2 hc2 g1 g2;have hrs:=HRS.o;have z5:=Jl hrs;have y5:=Js hrs;have t3:pA.cell? ⟨tb,3,none⟩=some (Iv tf):=by rw[Ja yA.o];rfl
   clear hrs I1 I2;go_wp2;refine bodyPost_ret (v:=.agg (Qaa (QcL 1 0 [] tf))) (by rw[Kg];exact results_cell_row rfl _ _ w.heap.size 127 _ (0,0) _ rfl (Qcv _ _ _ _ _ HRS.o) underlying127 rfl Qau) rfl ?_;rw[HR.o,HX2.o];exact Qix
  have hx:=HX1.o;rw[Kf g1]at hx;replace HX1:=Zh hx;replace HI:=Zh (HI.o.below hb2);clear hx hb2 g1;go_wp2_with fail;refine(Jt p A C T k 0 QfU _ HI.o.pat zp).mono ?_;intro e rA h2
  rcases h2 with⟨g1,g2,rfl,hp2,hc2⟩|⟨g1,rfl,hb2⟩
  ·
   have HP4:=Zh hp2;have HC4:Hi (Chg [p] w rA):=(Chg.of_below HI.o.chg [p]).trans hc2;have HRS:Hi (rA.heap[w.heap.size]?=some (.cells #[Iv 0,Iv 0,Em,Iv 0,Nl] 127 (0,0))):=hc2.heap_some (by simp;exact hpz) HI.o.res;have yA:Hi (rA.heap[tb]?=some (.cells #[Iv tk,Sv tx,Iv tn,Iv tf] 134 (0,0))):=hc2.heap_some (by simp;exact zA) HI.o.tok;have hx:=HX1.o;rw[JN g1 g2]at hx;have HX2:Hi (X=.ok (.mk 1 1 [] tf []) (T.drop (k+1))):=by rw[Hi,<- hx,uA.o]
   clear hx HX1 HI hp2 hc2 g1 g2;have hrs:=HRS.o;have z5:=Jl hrs;have y5:=Js hrs;have t3:rA.cell? ⟨tb,3,none⟩=some (Iv tf):=by rw[Ja yA.o];rfl
   clear hrs I1 I2;go_wp2;refine bodyPost_ret (v:=.agg (Qaa (QcL 1 1 [] tf))) (by rw[Kg];exact results_cell_row rfl _ _ w.heap.size 127 _ (0,0) _ rfl (Qcv _ _ _ _ _ HRS.o) underlying127 rfl Qau) rfl ?_;rw[HR.o,HX2.o];exact Qix
  have hx:=HX1.o;rw[Kf g1]at hx;replace HX1:=Zh hx;replace HI:=Zh (HI.o.below hb2);clear hx hb2 g1;go_wp2_with fail;refine(Jt p A C T k 0 QeM _ HI.o.pat zp).mono ?_;intro e gA h2
  rcases h2 with⟨g1,g2,rfl,hp2,hc2⟩|⟨g1,rfl,hb2⟩
  ·
   have HP4:=Zh hp2;have HC4:Hi (Chg [p] w gA):=(Chg.of_below HI.o.chg [p]).trans hc2;have HRS:Hi (gA.heap[w.heap.size]?=some (.cells #[Iv 0,Iv 0,Em,Iv 0,Nl] 127 (0,0))):=hc2.heap_some (by simp;exact hpz) HI.o.res;have yA:Hi (gA.heap[tb]?=some (.cells #[Iv tk,Sv tx,Iv tn,Iv tf] 134 (0,0))):=hc2.heap_some (by simp;exact zA) HI.o.tok;have hx:=HX1.o;rw[JN g1 g2]at hx;have HX2:=Zh hx;clear hx HX1 HI hp2 hc2 g1 g2 I1 I2;go_upto_region 15 with fail;have hD:Below gA.heap.size gA gA.drew:=zO.drew;replace HP4:=Zh (HP4.o.chg hD);replace HC4:=Zh (HC4.o.trans (Chg.of_below hD [p]));replace HRS:=Zh ((hD.block _ (Jb HRS.o)).trans HRS.o);replace yA:=Zh ((hD.block _ (Jb yA.o)).trans yA.o);clear hD;have t3:=Ja yA.o 3;simp only[zW]at t3;refine LB (λW=>W.cell? ⟨tb,3,none⟩=some (Iv tf)) 5 (t3) λhH=>?_
   refine LK 0 rfl ?_;refine LK 2 rfl ?_;refine LK 3 rfl ?_;refine LO 1 rfl λK hK=>?_
   go_simp;go_at_call 168;refine PRp.call (ZJ p A C T (k+1) _ HP4.o) (JO HX2.o HNE.o) (λq _ hq hc5=>by exact⟨rfl,by rw[HR.o,<- HX2.o,hq];exact⟨rfl,HC4.o.trans hc5⟩⟩) λs w5 k4 hq aA hc5=>?_
   have HX3:Hi (X=.ok (.mk 4 0 s tf []) (T.drop k4)):=by rw[Hi,<- HX2.o,hq,uA.o];rfl
   replace HP4:=Zh aA;replace HC4:=Zh (HC4.o.trans hc5);replace HRS:=Zh (hc5.heap_some (by simp;exact hpz) HRS.o);replace yA:=Zh (hc5.heap_some (by simp;exact zA) yA.o);clear hq aA hc5 HX2;replace t3:=Ja yA.o 3;simp only[zW]at t3;refine zU hK (t3) λhH=>?_
   clear hK K;refine LK 4 rfl ?_;refine LZ 5 rfl λK hK=>?_
   have hrs:=HRS.o;have z5:=Jl hrs;have y5:=Js hrs;clear hrs;go_simp;clear z5 y5 t3;refine hK.out _ _ ?_;clear hK K;go_wp2;refine bodyPost_ret (v:=.agg (Qaa (QcL 4 0 s tf))) (by rw[Kg];exact results_cell_row rfl _ _ w.heap.size 127 _ (0,0) _ rfl (Qcv _ _ _ _ _ HRS.o) underlying127 rfl Qau) rfl ?_;exact Qic
  have hx:=HX1.o;rw[Kf g1]at hx;replace HX1:=Zh hx;replace HI:=Zh (HI.o.below hb2);clear hx hb2 g1;go_wp2_with fail;refine(Jt p A C T k 0 QfT _ HI.o.pat zp).mono ?_;intro e wa4 h2
  rcases h2 with⟨g1,g2,rfl,hp2,hc2⟩|⟨g1,rfl,hb2⟩
  ·
   have HP4:=Zh hp2;have HC4:Hi (Chg [p] w wa4):=(Chg.of_below HI.o.chg [p]).trans hc2;have HRS:Hi (wa4.heap[w.heap.size]?=some (.cells #[Iv 0,Iv 0,Em,Iv 0,Nl] 127 (0,0))):=hc2.heap_some (by simp;exact hpz) HI.o.res;have yA:Hi (wa4.heap[tb]?=some (.cells #[Iv tk,Sv tx,Iv tn,Iv tf] 134 (0,0))):=hc2.heap_some (by simp;exact zA) HI.o.tok;have hx:=HX1.o;rw[JN g1 g2]at hx;have HX2:=Zh hx;clear hx HX1 HI hp2 hc2 g1 g2 I1 I2;go_upto_region 17 with fail;have hD:Below wa4.heap.size wa4 wa4.drew:=zO.drew;replace HP4:=Zh (HP4.o.chg hD);replace HC4:=Zh (HC4.o.trans (Chg.of_below hD [p]));replace HRS:=Zh ((hD.block _ (Jb HRS.o)).trans HRS.o);replace yA:=Zh ((hD.block _ (Jb yA.o)).trans yA.o);clear hD;have t3:=Ja yA.o 3;simp only[zW]at t3;refine LB (λW=>W.cell? ⟨tb,3,none⟩=some (Iv tf)) 5 (t3) λhH=>?_
   refine LK 0 rfl ?_;refine LK 2 rfl ?_;refine LK 3 rfl ?_;refine LO 1 rfl λK hK=>?_
   go_simp;go_at_call 168;refine PRp.call (ZJ p A C T (k+1) _ HP4.o) (JO HX2.o HNE.o) (λq _ hq hc5=>by exact⟨rfl,by rw[HR.o,<- HX2.o,hq];exact⟨rfl,HC4.o.trans hc5⟩⟩) λs w5 k4 hq aA hc5=>?_
   have HX3:Hi (X=.ok (.mk 5 0 s tf []) (T.drop k4)):=by rw[Hi,<- HX2.o,hq,uA.o];rfl
   replace HP4:=Zh aA;replace HC4:=Zh (HC4.o.trans hc5);replace HRS:=Zh (hc5.heap_some (by simp;exact hpz) HRS.o);replace yA:=Zh (hc5.heap_some (by simp;exact zA) yA.o);clear hq aA hc5 HX2;replace t3:=Ja yA.o 3;simp only[zW]at t3;refine zU hK (t3) λhH=>?_
   clear hK K;refine LK 4 rfl ?_;refine LZ 5 rfl λK hK=>?_
   have hrs:=HRS.o;have z5:=Jl hrs;have y5:=Js hrs;clear hrs;go_simp;clear z5 y5 t3;refine hK.out _ _ ?_;clear hK K;go_wp2;refine bodyPost_ret (v:=.agg (Qaa (QcL 5 0 s tf))) (by rw[Kg];exact results_cell_row rfl _ _ w.heap.size 127 _ (0,0) _ rfl (Qcv _ _ _ _ _ HRS.o) underlying127 rfl Qau) rfl ?_;exact Qic
  have hx:=HX1.o;rw[Kf g1]at hx;replace HX1:=Zh hx;replace HI:=Zh (HI.o.below hb2);clear hx hb2 g1;have cf:=Zi tx wa4;have ht:=HI.o.tok;have t0:=Ja ht 0;have t1:=Ja ht 1;simp only[zW]at t0 t1;have HX2:=Zh (uA.o ▸ HX1.o);clear ht HX1;go_wp2_with fail;refine cf.mono ?_;intro e w7 h7;obtain⟨rfl,rfl⟩:=h7
  by_cases hF1:(QaU tx).isSome=true
  ·rw[hF1]
   by_cases hF2:tk=0
   ·subst hF2;have hk1:=HI.o.pat.more (by rw[uA.o];show (0:Int)≠4;decide);have HX3:Hi (X=.ok (.mk 3 0 tx tf []) (T.drop (k+1))):=by rw[Hi,<- HX2.o,if_pos ⟨hF1,rfl⟩,tail_drop]
    have d0:((0:Int)==0)=true:=zp;have wk:IntKind.i64.wrap ((k:Int)+1)=(k:Int)+1:=IntWalk.i64_in _ (zu HI.o.pat.room);have pc:=Ja HI.o.pat.self 1;have pf:=Jc HI.o.pat.self 1;have t3:=Ja HI.o.tok 3;simp only[zW]at pc t3;have HP4:Hi (PAt (wa4.setCell ⟨p,1,none⟩ (Iv ((k:Int)+1))) p A C T (k+1)):=HI.o.pat.next hk1;have HC4:Hi (Chg [p] w (wa4.setCell ⟨p,1,none⟩ (Iv ((k:Int)+1)))):=(Chg.of_below HI.o.chg [p]).setCell (.inl (by simp:p∈[p])) (p:=⟨p,1,none⟩) _;have hrs:(wa4.setCell ⟨p,1,none⟩ (Iv ((k:Int)+1))).heap[w.heap.size]?=some (.cells #[Iv 0,Iv 0,Em,Iv 0,Nl] 127 (0,0)):=by rw[Below.heap_setCell _ _ _ _ (by first|exact hpz|exact Ne.symm hpz)];exact HI.o.res
    have z5:=Jl HI.o.res;have y5:=Js HI.o.res;have HRS:=Zh hrs;clear hrs hk1 HX2 hF1 I1 I2;go_wp2;refine bodyPost_ret (v:=.agg (Qaa (QcL 3 0 tx tf))) (by rw[Kg];exact results_cell_row rfl _ _ w.heap.size 127 _ (0,0) _ rfl (Qcv _ _ _ _ _ HRS.o) underlying127 rfl Qau) rfl ?_;rw[HR.o,HX3.o];exact Qix
   ·have d0:(tk==0)=false:=zM hF2;have hF:¬((QaU tx).isSome=true/\tk=0):=λh=>hF2 h.2
    clear hF1 hF2;exact Qkf
  ·have hF:¬((QaU tx).isSome=true/\tk=0):=λh=>hF1 h.1
   rw[Bool.not_eq_true]at hF1;rw[hF1];clear hF1;exact Qkf
end Go.Proofs.YtfafpklefknomaaGreatDoor
