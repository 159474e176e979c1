import Derived.Test.YtdlkcjkjnehnkaaGreatDoorH09
namespace Go.Proofs.YtdlkcjkjnehnkaaGreatDoor
open Go.ChangeShapes Go.WideShapes Go.ChangeAt Go.RowKit Go.Lib
open _root_.Go.Proofs.Tryz
set_option linter.all false
set_option maxRecDepth 100000
set_option maxHeartbeats 32000000
structure PrI(p:Nat)(A:Option Addr)(C:Nat)(T:List Tok)(w:World)(k tb:Nat)(tok:Array Value)(W:World):Prop where
 pat:PAt W p A C T k
 tok:W.heap[tb]?=some (.cells tok 46 (0,0))
 res:W.heap[w.heap.size]?=some (.cells #[.int .i64 0,.int .i64 0,.string ⟨#[]⟩,.int .i64 0,.slice none 0 0] 103 (0,0))
 chg:Below w.heap.size w W
 low:w.heap.size<tb/\p<w.heap.size
theorem PrI.below{p:Nat}{A:Option Addr}{C:Nat}{T:List Tok}{w:World}{k tb:Nat}{tok:Array Value}{W W':World}(h:PrI p A C T w k tb tok W)(hb:Below W.heap.size W W'):PrI p A C T w k tb tok W':=
 ⟨h.pat.chg hb,(hb.block _ (Jb h.tok)).trans h.tok,(hb.block _ (Jb h.res)).trans h.res,h.chg.trans (hb.mono h.chg.size),h.low⟩
theorem Jaz{w W:World}{p:Nat}{A:Option Addr}{C:Nat}{T:List Tok}{k:Nat}(hP:PAt W p A C T k)(hC:Chg [p] w W)(hp:p<w.heap.size)(hT:∀ b o,A=some ⟨b,o,none⟩->b<w.heap.size)(v0 v1 v2 v3 v4:Value) :
  PAt (put5 W w.heap.size v0 v1 v2 v3 v4) p A C T k/\Chg [p] w (put5 W w.heap.size v0 v1 v2 v3 v4):=
 ⟨hP.put5 (Ne.symm (Nat.ne_of_lt hp)) (fun b o e=>by have:=hT b o e;omega) _ _ _ _ _,hC.step (Ki (S:=[w.heap.size]) v0 v1 v2 v3 v4 (by simp:w.heap.size∈[w.heap.size])) fun b hb=>.inr (by simp at hb;omega)⟩
theorem Kg(k n:Int)(s:List UInt8)(o:Int):Qaa (QcH k n s o)=#[.int .i64 k,.int .i64 n,.string (bs s),.int .i64 o,.slice none 0 0]:=by
 show #[_,_,_,_,QaB 0 0 []]=_
 unfold QaB;rw[if_pos rfl]
theorem Jcv(k n:Int)(s:List UInt8)(o:Int):(QcH k n s o).nd=.mk k n s o []:=rfl
theorem Jeo(a:An)(tf:Int){V:Value}(h:Qaa a=#[.int .i64 a.kind,.int .i64 a.num,.string (bs a.name),.int .i64 a.off,V]):Qaa (.mk a.kind a.num a.name tf a.blk a.cap a.kids)=#[.int .i64 a.kind,.int .i64 a.num,.string (bs a.name),.int .i64 tf,V]:=by
 obtain⟨k,n,s,o,b,c,l⟩:=a;have e:QaB b c l=V:=Option.some.inj (congrArg (fun x:Array Value=>x[4]?) h)
 show #[_,_,_,_,QaB b c l]=_
 rw[e]
 first|done|rfl
theorem Jmn(a:An)(tf:Int):(An.mk a.kind a.num a.name tf a.blk a.cap a.kids).nd=.mk a.nd.kind a.nd.num a.nd.name tf a.nd.kids:=by cases a;rfl
theorem Jkd(a:An)(tf:Int):foot (An.mk a.kind a.num a.name tf a.blk a.cap a.kids)=foot a:=by obtain⟨k,n,s,o,b,c,l⟩:=a;cases l<;>simp[foot,An.blk,An.kids]
theorem Jke{w W:World}{p:Nat}{A:Option Addr}{C:Nat}{T:List Tok}{k lo bx:Nat}{a:An}(hat:a.At W)(hm:QbY lo bx a)(hl:w.heap.size<lo)(hb:bx<W.heap.size)(hbw:w.heap.size<bx)(hbp:bx≠p)(hP:PAt W p A C T k)(hC:Chg [p] w W)(hp:p<w.heap.size)(hT:∀ b o,A=some ⟨b,o,none⟩->b<w.heap.size)(o:Int)(v v0 v1 v2 v3 v4:Value) :
  (An.mk a.kind a.num a.name o a.blk a.cap a.kids).At (put5 (W.setCell ⟨bx,3,none⟩ v) w.heap.size v0 v1 v2 v3 v4)/\QbY w.heap.size (put5 (W.setCell ⟨bx,3,none⟩ v) w.heap.size v0 v1 v2 v3 v4).heap.size (An.mk a.kind a.num a.name o a.blk a.cap a.kids)/\PAt (put5 (W.setCell ⟨bx,3,none⟩ v) w.heap.size v0 v1 v2 v3 v4) p A C T k/\Chg [p] w (put5 (W.setCell ⟨bx,3,none⟩ v) w.heap.size v0 v1 v2 v3 v4):=by
 have hsz:(put5 (W.setCell ⟨bx,3,none⟩ v) w.heap.size v0 v1 v2 v3 v4).heap.size=W.heap.size:=by rw[Kk];simp[World.setCell]
 have h1:Chg [w.heap.size,bx] W (W.setCell ⟨bx,3,none⟩ v):=(Chg.refl _ W).setCell (.inl (by simp:bx∈[w.heap.size,bx])) (p:=⟨bx,3,none⟩) v;have h2:=h1.trans (Ki (S:=[w.heap.size,bx]) (W:=W.setCell ⟨bx,3,none⟩ v) v0 v1 v2 v3 v4 (by simp:w.heap.size∈[w.heap.size,bx]));have hft:=Jkd a o
 have e0:a.At (put5 (W.setCell ⟨bx,3,none⟩ v) w.heap.size v0 v1 v2 v3 v4):=JJ a hat fun b hb'=>h2.block b (by have:=(hm.2 b hb').2;omega) (fun hq=>by
  have h3:=hm.2 b hb';simp only[List.mem_cons,List.not_mem_nil,or_false]at hq
  rcases hq with rfl|rfl<;>omega)
 refine⟨?_,?_,?_,?_⟩
 ·obtain⟨k,n,s,o',b,c,l⟩:=a;exact e0
 ·unfold QbY;rw[hft,hsz];exact⟨hm.1,fun b hb'=>by have:=hm.2 b hb';omega⟩
 ·exact(hP.setFar hbp (fun b o e=>by have:=hT b o e;omega) 3 v).put5 (Ne.symm (Nat.ne_of_lt hp)) (fun b o e=>by have:=hT b o e;omega) _ _ _ _ _
 ·exact hC.step h2 fun q hq=>.inr (by simp only[List.mem_cons,List.not_mem_nil,or_false]at hq;omega)
theorem Jlv(f:Nat){r:List Tok}(h:(hd r).kind=1):pM (f+1) .prim r=.ok (.mk 0 (hd r).n [] (hd r).off []) r.tail:=by rw[pM,if_pos h]
theorem QmJ{P:Prop}(h:P:=by
  have HX3:Hid (X=pM f .named (T.drop k)):=by rw[Hid,<- HX2.out,if_neg hF]
  have hne2:pM f .named (T.drop k)≠.out:=by rw[<- HX3.out];exact HNE.out
  clear hF HX2 I1;go_wp2_with fail;refine NdP.call (I2 k _ HI.out.pat hne2) hne2 (fun q _ hx hc3=>by exact⟨rfl,by rw[HR.out,HX3.out,hx];exact⟨rfl,(Chg.of_below HI.out.chg [p]).trans hc3⟩⟩) fun a w3 k3 xA xn xc hx hcf B=>?_
  obtain⟨hat,hmd,hp3,hc3⟩:=B;have hzz:w3.heap[w.heap.size]?=some (.cells #[.int .i64 0,.int .i64 0,.string ⟨#[]⟩,.int .i64 0,.slice none 0 0] 103):=hc3.heap_some (by simp;exact hpz) HI.out.res;have HFIN:=Zh (fun v0 v1 v2 v3 v4=>Jbd (w:=w) (W2:=wa4) (W3:=w3) hat hmd (Jb HI.out.res) hp3 (Chg.of_below HI.out.chg [p]) hc3 HPL.out HTL.out v0 v1 v2 v3 v4);have HX4:Hid (X=.ok a.nd (T.drop k3)):=by rw[Hid,HX3.out,hx]
  have HCF:=Zh hcf;have z5:=Ji hzz;have y5:=Jq hzz;have HZZ:=Zh hzz;clear hzz hx hat hmd hp3 hc3 hcf hne2 I2 HX3 HI;go_wp2;refine bodyPost_ret (v:=.agg (Qaa a)) (by rw[HCF.out];exact results_cell_row rfl _ _ w.heap.size 103 _ (0,0) _ rfl (Qct _ _ _ _ _ HZZ.out) underlying103 rfl Qaw) rfl ?_;rw[HR.out,HX4.out];obtain⟨e1,e2,e3,e4⟩:=HFIN.out _ _ _ _ _
  exact⟨_,rfl,rfl,e1,e2,⟨k3,rfl,e3⟩,e4⟩):P:=h
theorem QkW{P:Prop}(h:P:=by
  obtain⟨e1,e2⟩:=Jaz HP4.out HC4.out HPL.out HTL.out _ _ _ _ _
  exact⟨_,Jcv _ _ _ _,rfl,Jcr _ _ _ _ _,Y0 _ _ _ _ _ _,⟨k+1,rfl,e1⟩,e2⟩):P:=h
theorem Qmi{P:Prop}(h:P:=by
  rw[HR.out,HX3.out];obtain⟨e1,e2⟩:=Jaz HP4.out HC4.out HPL.out HTL.out _ _ _ _ _
  exact⟨_,Jcv _ _ _ _,rfl,Jcr _ _ _ _ _,Y0 _ _ _ _ _ _,⟨k4,rfl,e1⟩,e2⟩):P:=h
theorem JhL(f p:Nat)(A:Option Addr)(C:Nat)(T:List Tok)
  (I1:∀ k w,PAt w p A C T k->pM f .expr (T.drop k)≠.out->Calls prog 67 #[.pointer (some ⟨p,0,none⟩)] w (NdP p A C T w (pM f .expr (T.drop k))))
  (I2:∀ k w,PAt w p A C T k->pM f .named (T.drop k)≠.out->Calls prog 130 #[.pointer (some ⟨p,0,none⟩)] w (NdP p A C T w (pM f .named (T.drop k))))
  (k:Nat) (w:World) (h:PAt w p A C T k) (hne:pM (f+1) .prim (T.drop k)≠.out) :
  Calls prog 115 #[.pointer (some ⟨p,0,none⟩)] w (NdP p A C T w (pM (f+1) .prim (T.drop k))):=by
 obtain⟨X,hX⟩:∃ X,pM (f+1) .prim (T.drop k)=X:=⟨_,rfl⟩
 rw[hX]at hne |-;obtain⟨R,hR⟩:∃ R,NdP p A C T w X=R:=⟨_,rfl⟩
 rw[hR];have HR:Hid (R=NdP p A C T w X):=hR.symm;have HNE:=Zh hne;have HX:=Zh hX;have hZ:=zzw w (.cells #[.int .i64 0,.int .i64 0,.string ⟨#[]⟩,.int .i64 0,.slice none 0 0] 103);have hB:=(Below.refl w.heap.size w).alloc zzl (.cells #[.int .i64 0,.int .i64 0,.string ⟨#[]⟩,.int .i64 0,.slice none 0 0] 103);have cp:=Ko p A C T k _ (h.chg hB);have HP:=Zh (h.chg hB);have HZ:=Zh hZ;have HB:=Zh hB;have HPL:=Zh h.chg1;have HTL:=Zh h.tokLt;have hmr:=fun (e:(hd (T.drop k)).kind=1)=>h.more (by rw[e];decide)
 obtain⟨t,ht⟩:∃ t,hd (T.drop k)=t:=⟨_,rfl⟩
 have HTD:=Zh ht;rw[ht]at cp hmr;obtain⟨tk,tx,tn,tf⟩:=t;unfold Qgn QcU at cp;simp only at cp hmr;have hpz:w.heap.size≠p:=by have:=HPL.out;omega
 clear h hne hR hZ hB hX ht;go_enter func115,ntmps115;go_wp2_with fail;refine cp.mono ?_;rintro e w3 ⟨rfl,hb3⟩;have hT3:=zzw w3 (.cells #[.int .i64 tk,.string (bs tx),.int .i64 tn,.int .i64 tf] 46);have hA3:Below w3.heap.size w3 (w3.alloc (.cells #[.int .i64 tk,.string (bs tx),.int .i64 tn,.int .i64 tf] 46)):=zzb.alloc zzl _;have hb4:=hb3.trans (hA3.mono hb3.size);have HI:Hid (PrI p A C T w k w3.heap.size #[.int .i64 tk,.string (bs tx),.int .i64 tn,.int .i64 tf] (w3.alloc (.cells #[.int .i64 tk,.string (bs tx),.int .i64 tn,.int .i64 tf] 46))):=⟨HP.out.chg hb4,hT3,(hb4.block _ (Jb HZ.out)).trans HZ.out,HB.out.trans (hb4.mono HB.out.size),Nat.lt_of_lt_of_le (Jb HZ.out) hb3.size,HPL.out⟩
 clear cp hb3 hb4 hT3 hA3 HP HZ HB;go_upto_region 2 with fail;generalize w3.alloc (.cells #[.int .i64 tk,.string (bs tx),.int .i64 tn,.int .i64 tf] 46)=W3 at *;generalize w3.heap.size=tb at *;have htb:tb≠p/\tb≠w.heap.size:=by have:=HI.out.low;omega
 obtain⟨htb1,htb2⟩:=htb;have ht:=HI.out.tok;have c0:W3.cell? ⟨tb,0,none⟩=some (.int .i64 tk):=by rw[Ja ht];rfl
 by_cases h1:tk=1
 ·subst h1;have d1:((1:Int)==1)=true:=by decide
  have hk1:=hmr rfl;have HX2:Hid (X=.ok (.mk 0 tn [] tf []) (T.drop (k+1))):=by rw[Hid,<- HX.out,Jlv f (by rw[HTD.out]),HTD.out,tail_drop]
  have wk:IntKind.i64.wrap ((k:Int)+1)=(k:Int)+1:=IntWalk.i64_in _ (by have:=HI.out.pat.room;omega);have pc:=Ja HI.out.pat.self 1;have pf:=Jc HI.out.pat.self 1;simp only[ZD,ZE,ZF]at pc;have HP4:Hid (PAt (W3.setCell ⟨p,1,none⟩ (.int .i64 ((k:Int)+1))) p A C T (k+1)):=HI.out.pat.next hk1;have HC4:Hid (Chg [p] w (W3.setCell ⟨p,1,none⟩ (.int .i64 ((k:Int)+1)))):=(Chg.of_below HI.out.chg [p]).setCell (.inl (by simp:p∈[p])) (p:=⟨p,1,none⟩) _;have t2:W3.cell? ⟨tb,2,none⟩=some (.int .i64 tn):=by rw[Ja ht];rfl
  have t3:W3.cell? ⟨tb,3,none⟩=some (.int .i64 tf):=by rw[Ja ht];rfl
  have hrs:(W3.setCell ⟨p,1,none⟩ (.int .i64 ((k:Int)+1))).heap[w.heap.size]?=some (.cells #[.int .i64 0,.int .i64 0,.string ⟨#[]⟩,.int .i64 0,.slice none 0 0] 103 (0,0)):=by rw[Below.heap_setCell _ _ _ _ (by first|exact hpz|exact Ne.symm hpz)];exact HI.out.res
  have z5:=Ji HI.out.res;have y5:=Jq HI.out.res;have HRS:=Zh hrs;clear hrs ht hk1 hmr HX HTD I1 I2;go_wp2;refine bodyPost_ret (v:=.agg (Qaa (QcH 0 tn [] tf))) (by rw[Kg];exact results_cell_row rfl _ _ w.heap.size 103 _ (0,0) _ rfl (Qct _ _ _ _ _ HRS.out) underlying103 rfl Qaw) rfl ?_;rw[HR.out,HX2.out];exact QkW
 ·have d1:(tk==1)=false:=zzq h1;have hx:=HX.out;rw[pM,if_neg (by rw[HTD.out];exact h1)]at hx;have HX1:=Zh hx;clear hx ht h1 hmr HX;go_wp2_with fail;refine(Jr p A C T k 3 [40] _ HI.out.pat (by decide)).mono ?_;intro e wa0 h2
  rcases h2 with⟨g1,g2,rfl,hp2,hc2⟩|⟨g1,rfl,hb2⟩
  ·
   have HP4:=Zh hp2;have HC4:Hid (Chg [p] w wa0):=(Chg.of_below HI.out.chg [p]).trans hc2;have HRS:Hid (wa0.heap[w.heap.size]?=some (.cells #[.int .i64 0,.int .i64 0,.string ⟨#[]⟩,.int .i64 0,.slice none 0 0] 103 (0,0))):=hc2.heap_some (by simp;exact hpz) HI.out.res;have HTK:Hid (wa0.heap[tb]?=some (.cells #[.int .i64 tk,.string (bs tx),.int .i64 tn,.int .i64 tf] 46 (0,0))):=hc2.heap_some (by simp;exact htb1) HI.out.tok;have hx:=HX1.out;rw[JP g1 g2]at hx;dsimp only at hx;have HX2:=Zh hx;have hne2:pM f .expr (T.drop (k+1))≠.out:=Ky (by rw[hx];exact HNE.out);clear hx HX1 HI hp2 hc2 g1 g2 I2;go_wp2_with fail;refine NdP.call (I1 (k+1) _ HP4.out hne2) hne2 (fun q _ hx hc5=>by exact⟨rfl,by rw[HR.out,<- HX2.out,hx];exact⟨rfl,HC4.out.trans hc5⟩⟩) fun a w5 k5 xA xn xc hx hcf B=>?_
   obtain⟨hat,hmd,hp5,hc5⟩:=B;have hA5:Below w5.heap.size w5 (w5.alloc (.cells (Qaa a) 103)):=zzb.alloc zzl _;have HB5:=Zh (zzw w5 (.cells (Qaa a) 103));have HP5:=Zh (hp5.chg hA5);have HN5:=Zh (And.intro (KU hat hmd hA5 zzl) hmd);have HC5:=Zh ((HC4.out.trans hc5).alloc (.cells (Qaa a) 103));have hrs5:=hc5.heap_some (by simp;exact hpz) HRS.out;have htk5:=hc5.heap_some (by simp;exact htb1) HTK.out;have HRS5:=Zh ((hA5.block _ (Jb hrs5)).trans hrs5);have HTK5:=Zh ((hA5.block _ (Jb htk5)).trans htk5);have HX3:Hid (((Qaf 3 [41] (T.drop k5)).bind fun _ r3=>PR.ok (.mk a.nd.kind a.nd.num a.nd.name tf a.nd.kids) r3)=X):=by rw[Hid,<- HX2.out,hx,HTD.out];rfl
   have HCF:=Zh (Jeo a tf hcf);have HLO:Hid (w.heap.size<wa0.heap.size/\w.heap.size<w5.heap.size/\w5.heap.size≠p):=⟨Jb HRS.out,Jb hrs5,Ne.symm (Nat.ne_of_lt hp5.chg1)⟩
   obtain⟨lo,hlo⟩:∃ lo,wa0.heap.size=lo:=⟨_,rfl⟩
   rw[hcf]at HP5 HB5 HN5 HC5 HRS5 HTK5;rw[hlo]at HN5 HLO;have hbz1:w5.heap.size≠w.heap.size:=by have:=HLO.out.2.1;omega
   have hbz2:w.heap.size≠w5.heap.size:=by have:=HLO.out.2.1;omega
   have hbz3:=HLO.out.2.2;clear hx hat hmd hp5 hc5 hcf hA5 hrs5 htk5 hne2 HX2 HP4 HC4 HRS HTK I1 hlo;go_wp2_with fail;generalize w5.alloc _=W5 at *;generalize w5.heap.size=bx at *;refine(QdA p A C T k5 [41] W5 HP5.out).mono ?_;intro e w6 h6
   rcases KC 3 [41] (T.drop k5) with⟨r',ha⟩|ha
   ·rw[ha]at h6;obtain⟨rfl,⟨k6,hr6,hp6⟩,hc6⟩:=h6;subst hr6;have hB6:=hc6.heap_some (by simp;exact hbz3) HB5.out;have hR6:=hc6.heap_some (by simp;exact hpz) HRS5.out;have hT6:=hc6.heap_some (by simp;exact htb1) HTK5.out;have HX4:Hid (X=.ok (An.mk a.kind a.num a.name tf a.blk a.cap a.kids).nd (T.drop k6)):=by rw[Hid,<- HX3.out,ha,Jmn];rfl
    have HFIN:=Zh (fun v v0 v1 v2 v3 v4=>Jke (W:=w6) (Z2 HN5.out.1 HN5.out.2 hc6 (Nat.le_of_lt (Jb HB5.out)) (fun b hb=>by have:=HLO.out.1;have:=HPL.out;simp at hb;omega)) HN5.out.2 HLO.out.1 (Jb hB6) HLO.out.2.1 hbz3 hp6 (HC5.out.trans hc6) HPL.out HTL.out tf v v0 v1 v2 v3 v4);have t3:=Ja hT6 3;simp only[ZD,ZE,ZF]at t3;have b5:=Ji hB6;have z5:=Ji hR6;have hg:=fun j=>Jc hB6 j
    have f3:=hg 3;have y5:=Jq hR6;have HZ6:Hid ((w6.setCell ⟨bx,3,none⟩ (.int .i64 tf)).heap[w.heap.size]?=some (.cells #[.int .i64 0,.int .i64 0,.string ⟨#[]⟩,.int .i64 0,.slice none 0 0] 103)):=by rw[Hid,Below.heap_setCell _ _ _ _ (by first|exact hbz1|exact hbz2)];exact hR6
    clear hg hB6 hR6 hT6 hp6 hc6 ha HN5 HC5 HP5 HRS5 HTK5 HB5 HX3;go_wp2;refine bodyPost_ret (v:=.agg (Qaa (An.mk a.kind a.num a.name tf a.blk a.cap a.kids))) (by rw[HCF.out];exact results_cell_row rfl _ _ w.heap.size 103 _ (0,0) _ rfl (Qct _ _ _ _ _ HZ6.out) underlying103 rfl Qaw) rfl ?_;rw[HR.out,HX4.out];obtain⟨e1,e2,e3,e4⟩:=HFIN.out _ _ _ _ _ _;exact⟨_,rfl,rfl,e1,e2,⟨k6,rfl,e3⟩,e4⟩
   ·rw[ha]at h6;obtain⟨rfl,hc6⟩:=h6;refine⟨rfl,?_⟩;rw[HR.out,<- HX3.out,ha];exact⟨rfl,HC5.out.trans hc6⟩
  have hx:=HX1.out;rw[Kf g1]at hx;replace HX1:=Zh hx;replace HI:=Zh (HI.out.below hb2);clear hx hb2 g1;go_wp2_with fail;refine(Jr p A C T k 0 QbA _ HI.out.pat (by decide)).mono ?_;intro e wa1 h2
  rcases h2 with⟨g1,g2,rfl,hp2,hc2⟩|⟨g1,rfl,hb2⟩
  ·
   have HP4:=Zh hp2;have HC4:Hid (Chg [p] w wa1):=(Chg.of_below HI.out.chg [p]).trans hc2;have HRS:Hid (wa1.heap[w.heap.size]?=some (.cells #[.int .i64 0,.int .i64 0,.string ⟨#[]⟩,.int .i64 0,.slice none 0 0] 103 (0,0))):=hc2.heap_some (by simp;exact hpz) HI.out.res;have HTK:Hid (wa1.heap[tb]?=some (.cells #[.int .i64 tk,.string (bs tx),.int .i64 tn,.int .i64 tf] 46 (0,0))):=hc2.heap_some (by simp;exact htb1) HI.out.tok;have hx:=HX1.out;rw[JP g1 g2]at hx;have HX2:Hid (X=.ok (.mk 1 0 [] tf []) (T.drop (k+1))):=by rw[Hid,<- hx,HTD.out]
   clear hx HX1 HI hp2 hc2 g1 g2;have hrs:=HRS.out;have z5:=Ji hrs;have y5:=Jq hrs;have t3:wa1.cell? ⟨tb,3,none⟩=some (.int .i64 tf):=by rw[Ja HTK.out];rfl
   clear hrs I1 I2;go_wp2;refine bodyPost_ret (v:=.agg (Qaa (QcH 1 0 [] tf))) (by rw[Kg];exact results_cell_row rfl _ _ w.heap.size 103 _ (0,0) _ rfl (Qct _ _ _ _ _ HRS.out) underlying103 rfl Qaw) rfl ?_;rw[HR.out,HX2.out];exact QkW
  have hx:=HX1.out;rw[Kf g1]at hx;replace HX1:=Zh hx;replace HI:=Zh (HI.out.below hb2);clear hx hb2 g1;go_wp2_with fail;refine(Jr p A C T k 0 Qcf _ HI.out.pat (by decide)).mono ?_;intro e wa2 h2
  rcases h2 with⟨g1,g2,rfl,hp2,hc2⟩|⟨g1,rfl,hb2⟩
  ·
   have HP4:=Zh hp2;have HC4:Hid (Chg [p] w wa2):=(Chg.of_below HI.out.chg [p]).trans hc2;have HRS:Hid (wa2.heap[w.heap.size]?=some (.cells #[.int .i64 0,.int .i64 0,.string ⟨#[]⟩,.int .i64 0,.slice none 0 0] 103 (0,0))):=hc2.heap_some (by simp;exact hpz) HI.out.res;have HTK:Hid (wa2.heap[tb]?=some (.cells #[.int .i64 tk,.string (bs tx),.int .i64 tn,.int .i64 tf] 46 (0,0))):=hc2.heap_some (by simp;exact htb1) HI.out.tok;have hx:=HX1.out;rw[JP g1 g2]at hx;have HX2:Hid (X=.ok (.mk 1 1 [] tf []) (T.drop (k+1))):=by rw[Hid,<- hx,HTD.out]
   clear hx HX1 HI hp2 hc2 g1 g2;have hrs:=HRS.out;have z5:=Ji hrs;have y5:=Jq hrs;have t3:wa2.cell? ⟨tb,3,none⟩=some (.int .i64 tf):=by rw[Ja HTK.out];rfl
   clear hrs I1 I2;go_wp2;refine bodyPost_ret (v:=.agg (Qaa (QcH 1 1 [] tf))) (by rw[Kg];exact results_cell_row rfl _ _ w.heap.size 103 _ (0,0) _ rfl (Qct _ _ _ _ _ HRS.out) underlying103 rfl Qaw) rfl ?_;rw[HR.out,HX2.out];exact QkW
  have hx:=HX1.out;rw[Kf g1]at hx;replace HX1:=Zh hx;replace HI:=Zh (HI.out.below hb2);clear hx hb2 g1;go_wp2_with fail;refine(Jr p A C T k 0 QbW _ HI.out.pat (by decide)).mono ?_;intro e wa3 h2
  rcases h2 with⟨g1,g2,rfl,hp2,hc2⟩|⟨g1,rfl,hb2⟩
  ·
   have HP4:=Zh hp2;have HC4:Hid (Chg [p] w wa3):=(Chg.of_below HI.out.chg [p]).trans hc2;have HRS:Hid (wa3.heap[w.heap.size]?=some (.cells #[.int .i64 0,.int .i64 0,.string ⟨#[]⟩,.int .i64 0,.slice none 0 0] 103 (0,0))):=hc2.heap_some (by simp;exact hpz) HI.out.res;have HTK:Hid (wa3.heap[tb]?=some (.cells #[.int .i64 tk,.string (bs tx),.int .i64 tn,.int .i64 tf] 46 (0,0))):=hc2.heap_some (by simp;exact htb1) HI.out.tok;have hx:=HX1.out;rw[JP g1 g2]at hx;have HX2:=Zh hx;clear hx HX1 HI hp2 hc2 g1 g2 I1 I2;go_upto_region 15 with fail;have hD:Below wa3.heap.size wa3 wa3.drew:=zzb.drew;replace HP4:=Zh (HP4.out.chg hD);replace HC4:=Zh (HC4.out.trans (Chg.of_below hD [p]));replace HRS:=Zh ((hD.block _ (Jb HRS.out)).trans HRS.out);replace HTK:=Zh ((hD.block _ (Jb HTK.out)).trans HTK.out);clear hD;have t3:=Ja HTK.out 3;simp only[ZD,ZE,ZF]at t3;refine LB (fun W=>W.cell? ⟨tb,3,none⟩=some (.int .i64 tf)) 5 (t3) fun hH=>?_
   refine LK 0 rfl ?_;refine LK 2 rfl ?_;refine LK 3 rfl ?_;refine LO 1 rfl fun K hK=>?_
   go_simp;go_at_call 129;refine PRp.call (Y2 p A C T (k+1) _ HP4.out) (JQ HX2.out HNE.out) (fun q _ hq hc5=>by exact⟨rfl,by rw[HR.out,<- HX2.out,hq];exact⟨rfl,HC4.out.trans hc5⟩⟩) fun s w5 k4 hq hp5 hc5=>?_
   have HX3:Hid (X=.ok (.mk 4 0 s tf []) (T.drop k4)):=by rw[Hid,<- HX2.out,hq,HTD.out];rfl
   replace HP4:=Zh hp5;replace HC4:=Zh (HC4.out.trans hc5);replace HRS:=Zh (hc5.heap_some (by simp;exact hpz) HRS.out);replace HTK:=Zh (hc5.heap_some (by simp;exact htb1) HTK.out);clear hq hp5 hc5 HX2;replace t3:=Ja HTK.out 3;simp only[ZD,ZE,ZF]at t3;refine hK.out _ _ (t3) fun hH=>?_
   clear hK K;refine LK 4 rfl ?_;refine LZ 5 rfl fun K hK=>?_
   have hrs:=HRS.out;have z5:=Ji hrs;have y5:=Jq hrs;clear hrs;go_simp;clear z5 y5 t3;refine hK.out _ _ ?_;clear hK K;go_wp2;refine bodyPost_ret (v:=.agg (Qaa (QcH 4 0 s tf))) (by rw[Kg];exact results_cell_row rfl _ _ w.heap.size 103 _ (0,0) _ rfl (Qct _ _ _ _ _ HRS.out) underlying103 rfl Qaw) rfl ?_;exact Qmi
  have hx:=HX1.out;rw[Kf g1]at hx;replace HX1:=Zh hx;replace HI:=Zh (HI.out.below hb2);clear hx hb2 g1;go_wp2_with fail;refine(Jr p A C T k 0 QcX _ HI.out.pat (by decide)).mono ?_;intro e wa4 h2
  rcases h2 with⟨g1,g2,rfl,hp2,hc2⟩|⟨g1,rfl,hb2⟩
  ·
   have HP4:=Zh hp2;have HC4:Hid (Chg [p] w wa4):=(Chg.of_below HI.out.chg [p]).trans hc2;have HRS:Hid (wa4.heap[w.heap.size]?=some (.cells #[.int .i64 0,.int .i64 0,.string ⟨#[]⟩,.int .i64 0,.slice none 0 0] 103 (0,0))):=hc2.heap_some (by simp;exact hpz) HI.out.res;have HTK:Hid (wa4.heap[tb]?=some (.cells #[.int .i64 tk,.string (bs tx),.int .i64 tn,.int .i64 tf] 46 (0,0))):=hc2.heap_some (by simp;exact htb1) HI.out.tok;have hx:=HX1.out;rw[JP g1 g2]at hx;have HX2:=Zh hx;clear hx HX1 HI hp2 hc2 g1 g2 I1 I2;go_upto_region 17 with fail;have hD:Below wa4.heap.size wa4 wa4.drew:=zzb.drew;replace HP4:=Zh (HP4.out.chg hD);replace HC4:=Zh (HC4.out.trans (Chg.of_below hD [p]));replace HRS:=Zh ((hD.block _ (Jb HRS.out)).trans HRS.out);replace HTK:=Zh ((hD.block _ (Jb HTK.out)).trans HTK.out);clear hD;have t3:=Ja HTK.out 3;simp only[ZD,ZE,ZF]at t3;refine LB (fun W=>W.cell? ⟨tb,3,none⟩=some (.int .i64 tf)) 5 (t3) fun hH=>?_
   refine LK 0 rfl ?_;refine LK 2 rfl ?_;refine LK 3 rfl ?_;refine LO 1 rfl fun K hK=>?_
   go_simp;go_at_call 129;refine PRp.call (Y2 p A C T (k+1) _ HP4.out) (JQ HX2.out HNE.out) (fun q _ hq hc5=>by exact⟨rfl,by rw[HR.out,<- HX2.out,hq];exact⟨rfl,HC4.out.trans hc5⟩⟩) fun s w5 k4 hq hp5 hc5=>?_
   have HX3:Hid (X=.ok (.mk 5 0 s tf []) (T.drop k4)):=by rw[Hid,<- HX2.out,hq,HTD.out];rfl
   replace HP4:=Zh hp5;replace HC4:=Zh (HC4.out.trans hc5);replace HRS:=Zh (hc5.heap_some (by simp;exact hpz) HRS.out);replace HTK:=Zh (hc5.heap_some (by simp;exact htb1) HTK.out);clear hq hp5 hc5 HX2;replace t3:=Ja HTK.out 3;simp only[ZD,ZE,ZF]at t3;refine hK.out _ _ (t3) fun hH=>?_
   clear hK K;refine LK 4 rfl ?_;refine LZ 5 rfl fun K hK=>?_
   have hrs:=HRS.out;have z5:=Ji hrs;have y5:=Jq hrs;clear hrs;go_simp;clear z5 y5 t3;refine hK.out _ _ ?_;clear hK K;go_wp2;refine bodyPost_ret (v:=.agg (Qaa (QcH 5 0 s tf))) (by rw[Kg];exact results_cell_row rfl _ _ w.heap.size 103 _ (0,0) _ rfl (Qct _ _ _ _ _ HRS.out) underlying103 rfl Qaw) rfl ?_;exact Qmi
  have hx:=HX1.out;rw[Kf g1]at hx;replace HX1:=Zh hx;replace HI:=Zh (HI.out.below hb2);clear hx hb2 g1;have cf:=Yy tx wa4;have ht:=HI.out.tok;have t0:=Ja ht 0;have t1:=Ja ht 1;simp only[ZD,ZE,ZF]at t0 t1;have HX2:=Zh (HTD.out ▸ HX1.out);clear ht HX1;go_wp2_with fail;refine cf.mono ?_;intro e w7 h7;obtain⟨rfl,rfl⟩:=h7
  by_cases hF1:(QaD tx).isSome=true
  ·rw[hF1]
   by_cases hF2:tk=0
   ·subst hF2;have hk1:=HI.out.pat.more (by rw[HTD.out];show (0:Int)≠4;decide);have HX3:Hid (X=.ok (.mk 3 0 tx tf []) (T.drop (k+1))):=by rw[Hid,<- HX2.out,if_pos ⟨hF1,rfl⟩,tail_drop]
    have d0:((0:Int)==0)=true:=by decide
    have wk:IntKind.i64.wrap ((k:Int)+1)=(k:Int)+1:=IntWalk.i64_in _ (by have:=HI.out.pat.room;omega);have pc:=Ja HI.out.pat.self 1;have pf:=Jc HI.out.pat.self 1;have t3:=Ja HI.out.tok 3;simp only[ZD,ZE,ZF]at pc t3;have HP4:Hid (PAt (wa4.setCell ⟨p,1,none⟩ (.int .i64 ((k:Int)+1))) p A C T (k+1)):=HI.out.pat.next hk1;have HC4:Hid (Chg [p] w (wa4.setCell ⟨p,1,none⟩ (.int .i64 ((k:Int)+1)))):=(Chg.of_below HI.out.chg [p]).setCell (.inl (by simp:p∈[p])) (p:=⟨p,1,none⟩) _;have hrs:(wa4.setCell ⟨p,1,none⟩ (.int .i64 ((k:Int)+1))).heap[w.heap.size]?=some (.cells #[.int .i64 0,.int .i64 0,.string ⟨#[]⟩,.int .i64 0,.slice none 0 0] 103 (0,0)):=by rw[Below.heap_setCell _ _ _ _ (by first|exact hpz|exact Ne.symm hpz)];exact HI.out.res
    have z5:=Ji HI.out.res;have y5:=Jq HI.out.res;have HRS:=Zh hrs;clear hrs hk1 HX2 hF1 I1 I2;go_wp2;refine bodyPost_ret (v:=.agg (Qaa (QcH 3 0 tx tf))) (by rw[Kg];exact results_cell_row rfl _ _ w.heap.size 103 _ (0,0) _ rfl (Qct _ _ _ _ _ HRS.out) underlying103 rfl Qaw) rfl ?_;rw[HR.out,HX3.out];exact QkW
   ·have d0:(tk==0)=false:=zzq hF2;have hF:¬ ((QaD tx).isSome=true/\tk=0):=fun h=>hF2 h.2
    clear hF1 hF2;exact QmJ
  ·have hF:¬ ((QaD tx).isSome=true/\tk=0):=fun h=>hF1 h.1
   rw[Bool.not_eq_true]at hF1;rw[hF1];clear hF1;exact QmJ
end Go.Proofs.YtdlkcjkjnehnkaaGreatDoor
