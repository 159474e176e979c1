import Derived.Test.YtfafpklefknomaaGreatDoorR24
open Nat(le_refl)
namespace Go.Proofs.YtfafpklefknomaaGreatDoor
open Go.ChangeShapes Go.WideShapes Go.ChangeAt Go.RowKit Go.Lib
open _root_.Go.Proofs.Tryz
set_option linter.all false
set_option maxRecDepth 100000
set_option maxHeartbeats 32000000
theorem Qgu{P:Prop}(h:P:=by
  rw[hq];clear hq;go_enter func25,ntmps25;go_wp2;go_ret
  exact⟨rfl,rfl⟩):P:=h
def Z8(n:Int)(w:World):Calls prog 25 #[Iv n] w (Qei (.bool (QdR n)) w):=by
 by_cases h0:0<=n
 ·have d0:decide (0<=n)=true:=zG h0
  by_cases h3:n<=3
  ·have d3:decide (n<=3)=true:=zG h3;have hq:QdR n=true:=by unfold QdR;rw[d0,d3];rfl
   exact Qgu
  ·have d3:decide (n<=3)=false:=zH h3;have hq:QdR n=false:=by unfold QdR;rw[d0,d3];rfl
   exact Qgu
 ·have d0:decide (0<=n)=false:=zH h0;have hq:QdR n=false:=by unfold QdR;rw[d0];rfl
  exact Qgu
def txB(c:UInt8):Bool:=decide (32<=c.toNat)&&decide (c.toNat<=126)&&c !=34&&c !=92
def Jkc(s:By):QcD s=(s.all txB&&decide (s.length<=24)):=rfl
def Jmn(m:Nat)(c:UInt8)(hc:c.toNat=m):txB c=true↔32<=m/\m<=126/\m≠34/\m≠92:=by
 subst hc;have xA:c=34↔c.toNat=34:=⟨λh=>by rw[h];rfl,λh=>UInt8.toNat_inj.1 h⟩
 have yA:c=92↔c.toNat=92:=⟨λh=>by rw[h];rfl,λh=>UInt8.toNat_inj.1 h⟩
 unfold txB;simp only[Bool.and_eq_true,decide_eq_true_eq,bne_iff_ne,ne_eq,xA,yA,and_assoc]
def JcG(s:By)(w:World)(hs:s.length<=9223372036854775807):Calls prog 26 #[Sv s] w (Qei (.bool (QcD s)) w):=by
 have z1:=JJ s;obtain⟨n,hn⟩:∃n,s.length=n:=⟨_,rfl⟩
 obtain⟨q,hq⟩:∃q,QcD s=q:=⟨_,rfl⟩
 have hI:=Jkc s;rw[hq]at hI |-;rw[hn]at hI z1 hs;have HI:=Zh hI;have HN:=Zh hn;have HS:=Zh hs;clear hI hn hq hs;go_enter func26,ntmps26;go_wp2;go_loop [6] (λv=>∃k:Nat,v=Iv k/\k<=n/\Hi ((s.take k).all txB=true)) λv=>n-(intOf v).toNat
 case atStart=>exact⟨0,rfl,Nat.zero_le _,by unfold Hi;rfl⟩
 case round=>
  obtain⟨k,rfl,hk,hz⟩:=hrel
  by_cases hkn:k<n
  ·have wk:IntKind.i64.wrap ((k:Int)+1)=(k:Int)+1:=IntWalk.i64_in _ (zu HS.o);have dk:decide ((k:Int)<(n:Int))=true:=zG zo;have bA:decide (k<n)=true:=zG hkn;have bk:(k:Int)<(n:Int):=zo;obtain⟨c,hc⟩:∃c,s[k]?=some c:=⟨_,List.getElem?_eq_getElem (zu HN.o)⟩
   obtain⟨m,hm⟩:∃m,c.toNat=m:=⟨_,rfl⟩
   have uA:m<256:=by rw[<- hm];exact c.toNat_lt
   have hg:∀h,((bs s)[k]'h).toNat=m:=λh=>by
    obtain⟨_,h2⟩:=List.getElem?_eq_some_iff.1 hc;rw[<- hm,<- h2];rfl
   have hw:=Jmn m c hm
   by_cases hwo:32<=m/\m<=126/\m≠34/\m≠92
   ·have HK2:=Zh (JeE hz.o hc (hw.2 hwo));clear hz hc hm hw;obtain⟨g1,g2,g3,g4⟩:=hwo;have a1:decide ((m:Int)<32)=false:=zH zo;have vA:decide (m<32)=false:=zH zo;have a2:decide (126<(m:Int))=false:=zH zo;have aA:decide (126<m)=false:=zH zo;have e1:((m:Int)==34)=false:=zM zo;have cA:(m==34)=false:=zM zo;have e2:((m:Int)==92)=false:=zM zo;have dA:(m==92)=false:=zM zo;clear g1 g2 g3 g4;exact Qis
   ·have hb:txB c=false:=by cases h:txB c with|false=>rfl|true=>exact absurd (hw.1 h) hwo
    have hqf:q=false:=by rw[HI.o,JgR hc hb];rfl
    subst hqf;clear hz hc hm hw hb HI
    by_cases l1:m<32
    ·have a1:decide ((m:Int)<32)=true:=zG zo;have vA:decide (m<32)=true:=zG zo;clear hwo;go_wp2;go_ret;exact⟨rfl,rfl⟩
    by_cases l2:126<m
    ·have a1:decide ((m:Int)<32)=false:=zH zo;have vA:decide (m<32)=false:=zH zo;have a2:decide (126<(m:Int))=true:=zG zo;have aA:decide (126<m)=true:=zG zo;clear l1;clear hwo;go_wp2;go_ret;exact⟨rfl,rfl⟩
    by_cases l3:m=34
    ·subst l3;clear l1 l2;clear hwo;go_wp2;go_ret;exact⟨rfl,rfl⟩
    have l4:m=92:=zo;subst l4;clear l1 l2 l3;clear hwo;go_wp2;go_ret;exact⟨rfl,rfl⟩
  ·have dk:decide ((k:Int)<(n:Int))=false:=zH zo;have bA:decide (k<n)=false:=zH hkn
   have xA:s.all txB=true:=by
    have:=hz.o
    rwa [List.take_of_length_le (zu HN.o)]at this
   have yA:=HI.o;rw[xA]at yA;simp only[Bool.true_and]at yA
   by_cases h24:n<=24
   ·have d1:decide ((n:Int)<=24)=true:=zG zo;have zA:decide (n<=24)=true:=zG h24;have hqf:q=true:=by rw[yA,zA]
    subst hqf;clear hz xA yA HI h24 hk hkn;go_wp2;go_ret;exact⟨rfl,rfl⟩
   ·have d1:decide ((n:Int)<=24)=false:=zH zo;have zA:decide (n<=24)=false:=zH h24;have hqf:q=false:=by rw[yA,zA]
    subst hqf;clear hz xA yA HI h24 hk hkn;go_wp2;go_ret;exact⟨rfl,rfl⟩
def JhO(s:By)(w:World)(hs:s.length<=9223372036854775807):Calls prog 24 #[Sv s] w (Qei (.bool (Qbr s)) w):=by
 by_cases h:s.length<=1000000
 ·exact Jca s w h
 cases s with
 |nil=>simp at h
 |cons c0 r0=>
  have hq:Qbr (c0::r0)=false:=by
   unfold Qbr;rw[zH (show ¬(c0::r0).length<=24 by omega)];simp
  rw[hq];have u1:=Jj (c0::r0);have z1:=JJ (c0::r0);have e0:((c0::r0)==[])=false:=rfl;have yA:(c0::r0).isEmpty=false:=rfl;obtain⟨n,hn⟩:∃n,(c0::r0).length=n:=⟨_,rfl⟩
  generalize c0::r0=s at *;rw[hn]at z1 h hs;have d1:decide (24<(n:Int))=true:=zG zo;have xA:decide (24<n)=true:=zG zo;clear hn hq h;exact QgT
theorem QfQ{P:Prop}(h:P:=by
  go_enter func113,ntmps113;go_wp2;go_ret
  exact⟨rfl,HB.o⟩):P:=h
def Jea(fs:List FnM)(fa:Option Addr)(fl fc:Nat)(k n:Int)(s:By)(ad:Option Addr)(m cc:Nat)(w:World)(h20:k≠20) :
  Calls prog 113 #[.slice fa fl fc,.agg #[Iv k,Iv n,Sv s,.slice ad m cc]] w (Qbj w (Iv (QaM (fs.map (·.params.length)) k n))):=by
 have HB:Hi (Below w.heap.size w (w.alloc (.cells #[Iv k,Iv n,Sv s,.slice ad m cc] 37))):=zO.alloc zP _
 by_cases h5:k=0\/k=1\/k=2\/k=3\/k=4\/k=5
 ·have hq:QaM (fs.map (·.params.length)) k n=0:=by unfold QaM;rw[if_pos h5]
  rw[hq];clear hq h20
  rcases h5 with rfl|rfl|rfl|rfl|rfl|rfl
  all_goals
   exact QfQ
 by_cases h67:k=6\/k=7
 ·have hq:QaM (fs.map (·.params.length)) k n=1:=by unfold QaM;rw[if_neg h5,if_pos h67]
  rw[hq];clear hq h5 h20
  rcases h67 with rfl|rfl
  all_goals
   exact QfQ
 by_cases h18:k=18
 ·subst h18;exact QfQ
 have hq:QaM (fs.map (·.params.length)) k n=2:=by unfold QaM;rw[if_neg h5,if_neg h67,if_neg h18,if_neg h20]
 rw[hq];have e0:(k==0)=false:=zM zo;have e1:(k==1)=false:=zM zo;have e2:(k==2)=false:=zM zo;have e3:(k==3)=false:=zM zo;have e4:(k==4)=false:=zM zo;have e5:(k==5)=false:=zM zo;have e6:(k==6)=false:=zM zo;have e7:(k==7)=false:=zM zo;have yA:(k==18)=false:=zM zo;have xA:(k==20)=false:=zM zo;clear hq h5 h67 h18 h20;exact QfQ
def Jgb(fs:List FnM)(fa:Option Addr)(fc:Nat)(n:Int)(s:By)(ad:Option Addr)(m cc:Nat)(w:World)(hF:Qcy w (.slice fa fs.length fc) fs)(hn:0<=n/\n<(fs.length:Int)) :
  Calls prog 113 #[.slice fa fs.length fc,.agg #[Iv 20,Iv n,Sv s,.slice ad m cc]] w (Qbj w (Iv (QaM (fs.map (·.params.length)) 20 n))):=by
 obtain⟨i,rfl⟩:∃i:Nat,n=i:=⟨n.toNat,by omega⟩
 have hi:i<fs.length:=zo;have hil:(i:Int)<(fs.length:Int):=zo;obtain⟨f,hf⟩:∃f,fs[i]?=some f:=⟨fs[i],List.getElem?_eq_getElem hi⟩
 have hq:QaM (fs.map (·.params.length)) 20 (i:Int)=f.params.length:=by
  unfold QaM;rw[if_neg zp,if_neg zp,if_neg zp,if_pos rfl,List.getD_eq_getElem?_getD,List.getElem?_map,Int.toNat_natCast,hf];rfl
 rw[hq];have HB:Hi (Below w.heap.size w (w.alloc (.cells #[Iv 20,Iv i,Sv s,.slice ad m cc] 37))):=zO.alloc zP _;obtain⟨b,o,pa,pc,da,dc,rfl,hC⟩:=(hF.up HB.o).get hf;have HCP:=Zh (zQ w (.cells #[Iv 20,Iv i,Sv s,.slice ad m cc] 37));have c1:=hC.c1;clear hq hf hF hC hn;go_enter func113,ntmps113;go_upto_region 1 with fail;generalize World.alloc w _=w1 at *;have b0:=Ja HCP.o 0;have b1:=Ja HCP.o 1;simp only[zW]at b0 b1;go_wp2;go_ret;exact⟨rfl,HB.o⟩
def JcH(fs:List FnM)(v:Value)(k n:Int)(s:By)(ad:Option Addr)(m cc:Nat)(w:World)(hF:Qcy w v fs)(hn:k=20->0<=n/\n<(fs.length:Int)) :
  Calls prog 113 #[v,.agg #[Iv k,Iv n,Sv s,.slice ad m cc]] w (Qbj w (Iv (QaM (fs.map (·.params.length)) k n))):=by
 obtain⟨fa,fc,rfl,_⟩:=hF.form
 by_cases h:k=20
 ·subst h;exact Jgb fs fa fc n s ad m cc w hF (hn rfl)
 ·exact Jea fs fa _ fc k n s ad m cc w h
theorem ux3{P:Prop}(h:P:=by
  clear hq;go_enter func112,ntmps112;go_upto_region 1 with fail;generalize World.alloc w _=w1 at *;have b0:=Ja HCP.o 0;have b1:=Ja HCP.o 1;have b2:=Ja HCP.o 2;simp only[ZD,ZE,ZF]at b0 b1 b2;go_region;go_wp2;go_ret
  exact⟨rfl,HB.o⟩):P:=h
theorem QgP{P:Prop}(h:P:=by
  cases s with
  |nil=>
   have es:(([]:By)==[])=true:=rfl;obtain rfl:q=true:=by rw[<- hq];simp[*]
   exact ux3
  |cons c0 r0=>
   have es:((c0::r0)==[])=false:=rfl;have es2:(c0::r0).isEmpty=false:=rfl;have es3:¬(c0::r0)=[]:=by simp
   generalize c0::r0=s at *;obtain rfl:q=false:=by rw[<- hq];simp[*]
   exact ux3):P:=h
section
variable (fa:Option Addr)(nf fc vars:Nat)(n:Int)(s:By)(ad:Option Addr)(m cc:Nat)(w:World)(hs:s.length<=9223372036854775807)
include fa nf fc vars n s ad m cc w hs
theorem Jkd :
  Calls prog 112 #[.slice fa nf fc,.agg #[Iv 0,Iv n,Sv s,.slice ad m cc],Iv vars] w (Qbj w (.bool (Qam nf vars 0 n s))):=by
 obtain⟨q,hq⟩:∃q,Qam nf vars 0 n s=q:=⟨_,rfl⟩
 rw[hq];have HCP:=Zh (zQ w (.cells #[Iv 0,Iv n,Sv s,.slice ad m cc] 37));have HB:Hi (Below w.heap.size w (w.alloc (.cells #[Iv 0,Iv n,Sv s,.slice ad m cc] 37)).drew):=(zO.alloc zP _).drew;have u1:=Jj s;unfold Qam at hq
 by_cases h1:0<=n
 ·by_cases h2:n<=1125899906842624
  ·have d1:decide (0<=n)=true:=zG zo;have d2:decide (n<=1125899906842624)=true:=zG zo;exact QgP
  ·have d1:decide (0<=n)=true:=zG zo;have d2:decide (n<=1125899906842624)=false:=zH zo;obtain rfl:q=false:=by rw[<- hq];simp[*]
   exact ux3
 ·have d1:decide (0<=n)=false:=zH zo;obtain rfl:q=false:=by rw[<- hq];simp[*]
  exact ux3
theorem Jke :
  Calls prog 112 #[.slice fa nf fc,.agg #[Iv 1,Iv n,Sv s,.slice ad m cc],Iv vars] w (Qbj w (.bool (Qam nf vars 1 n s))):=by
 obtain⟨q,hq⟩:∃q,Qam nf vars 1 n s=q:=⟨_,rfl⟩
 rw[hq];have HCP:=Zh (zQ w (.cells #[Iv 1,Iv n,Sv s,.slice ad m cc] 37));have HB:Hi (Below w.heap.size w (w.alloc (.cells #[Iv 1,Iv n,Sv s,.slice ad m cc] 37)).drew):=(zO.alloc zP _).drew;have u1:=Jj s;unfold Qam at hq
 by_cases h1:n=0
 ·subst h1;exact QgP
 ·have e0:(n==0)=false:=zM h1
  by_cases h2:n=1
  ·subst h2;exact QgP
  ·have e1:(n==1)=false:=zM h2;obtain rfl:q=false:=by rw[<- hq];simp[*]
   exact ux3
theorem Jkf :
  Calls prog 112 #[.slice fa nf fc,.agg #[Iv 2,Iv n,Sv s,.slice ad m cc],Iv vars] w (Qbj w (.bool (Qam nf vars 2 n s))):=by
 obtain⟨q,hq⟩:∃q,Qam nf vars 2 n s=q:=⟨_,rfl⟩
 rw[hq];have HCP:=Zh (zQ w (.cells #[Iv 2,Iv n,Sv s,.slice ad m cc] 37));have HB:Hi (Below w.heap.size w (w.alloc (.cells #[Iv 2,Iv n,Sv s,.slice ad m cc] 37)).drew):=(zO.alloc zP _).drew;have u1:=Jj s;unfold Qam at hq
 by_cases h1:0<=n
 ·by_cases h2:n<(vars:Int)
  ·have d1:decide (0<=n)=true:=zG zo;have d2:decide (n<(vars:Int))=true:=zG zo;exact QgP
  ·have d1:decide (0<=n)=true:=zG zo;have d2:decide (n<(vars:Int))=false:=zH zo;obtain rfl:q=false:=by rw[<- hq];simp[*]
   exact ux3
 ·have d1:decide (0<=n)=false:=zH zo;obtain rfl:q=false:=by rw[<- hq];simp[*]
  exact ux3
theorem JhP :
  Calls prog 112 #[.slice fa nf fc,.agg #[Iv 19,Iv n,Sv s,.slice ad m cc],Iv vars] w (Qbj w (.bool (Qam nf vars 19 n s))):=by
 obtain⟨q,hq⟩:∃q,Qam nf vars 19 n s=q:=⟨_,rfl⟩
 rw[hq];have HCP:=Zh (zQ w (.cells #[Iv 19,Iv n,Sv s,.slice ad m cc] 37));have HB:Hi (Below w.heap.size w (w.alloc (.cells #[Iv 19,Iv n,Sv s,.slice ad m cc] 37)).drew):=(zO.alloc zP _).drew;have u1:=Jj s;unfold Qam at hq
 by_cases h1:n=(vars:Int)
 ·have e1:(n==(vars:Int))=true:=zN h1;rw[e1]at hq;have HH:=Zh h1;clear h1;exact QgP
 ·have e1:(n==(vars:Int))=false:=zM h1;obtain rfl:q=false:=by rw[<- hq];simp[*]
  exact ux3
theorem JhQ :
  Calls prog 112 #[.slice fa nf fc,.agg #[Iv 20,Iv n,Sv s,.slice ad m cc],Iv vars] w (Qbj w (.bool (Qam nf vars 20 n s))):=by
 obtain⟨q,hq⟩:∃q,Qam nf vars 20 n s=q:=⟨_,rfl⟩
 rw[hq];have HCP:=Zh (zQ w (.cells #[Iv 20,Iv n,Sv s,.slice ad m cc] 37));have HB:Hi (Below w.heap.size w (w.alloc (.cells #[Iv 20,Iv n,Sv s,.slice ad m cc] 37)).drew):=(zO.alloc zP _).drew;have u1:=Jj s;unfold Qam at hq
 by_cases h1:0<=n
 ·by_cases h2:n<(nf:Int)
  ·have d1:decide (0<=n)=true:=zG zo;have d2:decide (n<(nf:Int))=true:=zG zo;exact QgP
  ·have d1:decide (0<=n)=true:=zG zo;have d2:decide (n<(nf:Int))=false:=zH zo;obtain rfl:q=false:=by rw[<- hq];simp[*]
   exact ux3
 ·have d1:decide (0<=n)=false:=zH zo;obtain rfl:q=false:=by rw[<- hq];simp[*]
  exact ux3
end
theorem QiA{P:Prop}(h:P:=by
  clear hq;go_enter func112,ntmps112;go_upto_region 1 with fail;generalize World.alloc w _=w1 at *;have b0:=Ja HCP.o 0;have b1:=Ja HCP.o 1;have b2:=Ja HCP.o 2;simp only[ZD,ZE,ZF]at b0 b1 b2;go_region;go_wp2_with fail;refine(cf _).mono ?_;rintro e w3 ⟨rfl,rfl⟩;go_wp2;go_ret
  exact⟨rfl,HB.o⟩):P:=h
def Jkg(fa:Option Addr)(nf fc vars:Nat)(n:Int)(s:By)(ad:Option Addr)(m cc:Nat)(w:World)(hs:s.length<=9223372036854775807) :
  Calls prog 112 #[.slice fa nf fc,.agg #[Iv 3,Iv n,Sv s,.slice ad m cc],Iv vars] w (Qbj w (.bool (Qam nf vars 3 n s))):=by
 obtain⟨q,hq⟩:∃q,Qam nf vars 3 n s=q:=⟨_,rfl⟩
 rw[hq];have HCP:=Zh (zQ w (.cells #[Iv 3,Iv n,Sv s,.slice ad m cc] 37));have HB:Hi (Below w.heap.size w (w.alloc (.cells #[Iv 3,Iv n,Sv s,.slice ad m cc] 37)).drew):=(zO.alloc zP _).drew;have u1:=Jj s;unfold Qam at hq;have cf:=λW=>Zi s W
 obtain⟨x,hx⟩:∃x,(QaU s).isSome=x:=⟨_,rfl⟩
 obtain⟨y,hy⟩:∃y,(QaU s).getD 0=y:=⟨_,rfl⟩
 rw[hx,hy]at cf;rw[hx]at hq;clear hx hy
 by_cases h1:n=0
 ·subst h1
  cases x with
  |true=>
   obtain rfl:q=true:=by rw[<- hq];simp[*]
   exact QiA
  |false=>
   obtain rfl:q=false:=by rw[<- hq];simp[*]
   exact QiA
 ·have e0:(n==0)=false:=zM h1
  cases x with
  |true=>
   obtain rfl:q=false:=by rw[<- hq];simp[*]
   exact QiA
  |false=>
   obtain rfl:q=false:=by rw[<- hq];simp[*]
   exact QiA
theorem QiC{P:Prop}(h:P:=by
  clear hq;go_enter func112,ntmps112;go_upto_region 1 with fail;generalize World.alloc w _=w1 at *;have b0:=Ja HCP.o 0;have b1:=Ja HCP.o 1;have b2:=Ja HCP.o 2;simp only[ZD,ZE,ZF]at b0 b1 b2;go_region;go_wp2_with fail;refine(ct _).mono ?_;rintro e w3 ⟨rfl,rfl⟩;go_wp2;go_ret
  exact⟨rfl,HB.o⟩):P:=h
theorem QjV{P:Prop}(h:P:=by
  have u1:=Jj s;unfold Qam at hq;have ct:=λW=>JcG s W hs
  obtain⟨x,hx⟩:∃x,QcD s=x:=⟨_,rfl⟩
  rw[hx]at ct hq;clear hx
  by_cases h1:n=0
  ·subst h1
   cases x with
   |true=>
    obtain rfl:q=true:=by rw[<- hq];simp[*]
    exact QiC
   |false=>
    obtain rfl:q=false:=by rw[<- hq];simp[*]
    exact QiC
  ·have e0:(n==0)=false:=zM h1
   cases x with
   |true=>
    obtain rfl:q=false:=by rw[<- hq];simp[*]
    exact QiC
   |false=>
    obtain rfl:q=false:=by rw[<- hq];simp[*]
    exact QiC):P:=h
def Jkh(fa:Option Addr)(nf fc vars:Nat)(n:Int)(s:By)(ad:Option Addr)(m cc:Nat)(w:World)(hs:s.length<=9223372036854775807) :
  Calls prog 112 #[.slice fa nf fc,.agg #[Iv 4,Iv n,Sv s,.slice ad m cc],Iv vars] w (Qbj w (.bool (Qam nf vars 4 n s))):=by
 obtain⟨q,hq⟩:∃q,Qam nf vars 4 n s=q:=⟨_,rfl⟩
 rw[hq];have HCP:=Zh (zQ w (.cells #[Iv 4,Iv n,Sv s,.slice ad m cc] 37));have HB:Hi (Below w.heap.size w (w.alloc (.cells #[Iv 4,Iv n,Sv s,.slice ad m cc] 37)).drew):=(zO.alloc zP _).drew;exact QjV
def Jki(fa:Option Addr)(nf fc vars:Nat)(n:Int)(s:By)(ad:Option Addr)(m cc:Nat)(w:World)(hs:s.length<=9223372036854775807) :
  Calls prog 112 #[.slice fa nf fc,.agg #[Iv 5,Iv n,Sv s,.slice ad m cc],Iv vars] w (Qbj w (.bool (Qam nf vars 5 n s))):=by
 obtain⟨q,hq⟩:∃q,Qam nf vars 5 n s=q:=⟨_,rfl⟩
 rw[hq];have HCP:=Zh (zQ w (.cells #[Iv 5,Iv n,Sv s,.slice ad m cc] 37));have HB:Hi (Below w.heap.size w (w.alloc (.cells #[Iv 5,Iv n,Sv s,.slice ad m cc] 37)).drew):=(zO.alloc zP _).drew;exact QjV
def JcI(fa:Option Addr)(nf fc vars:Nat)(k n:Int)(s:By)(ad:Option Addr)(m cc:Nat)(w:World)(hs:s.length<=9223372036854775807)
  (h0:k≠0) (h1:k≠1) (h2:k≠2) (h3:k≠3) (h4:k≠4) (h5:k≠5) (h19:k≠19) (h20:k≠20) :
  Calls prog 112 #[.slice fa nf fc,.agg #[Iv k,Iv n,Sv s,.slice ad m cc],Iv vars] w (Qbj w (.bool (Qam nf vars k n s))):=by
 obtain⟨q,hq⟩:∃q,Qam nf vars k n s=q:=⟨_,rfl⟩
 rw[hq];have HCP:=Zh (zQ w (.cells #[Iv k,Iv n,Sv s,.slice ad m cc] 37));have HB:Hi (Below w.heap.size w (w.alloc (.cells #[Iv k,Iv n,Sv s,.slice ad m cc] 37)).drew):=(zO.alloc zP _).drew;have u1:=Jj s;unfold Qam at hq;rw[if_neg h0,if_neg h1,if_neg h2,if_neg h19,if_neg h20,if_neg h3,if_neg zo]at hq;have f0:(k==0)=false:=zM h0;have f1:(k==1)=false:=zM h1;have f2:(k==2)=false:=zM h2;have f3:(k==3)=false:=zM h3;have f4:(k==4)=false:=zM h4;have f5:(k==5)=false:=zM h5;have xA:(k==19)=false:=zM h19;have yA:(k==20)=false:=zM h20;clear h0 h1 h2 h3 h4 h5 h19 h20
 by_cases h1:n=0
 ·subst h1
  cases s with
  |nil=>
   have es:(([]:By)==[])=true:=rfl
   by_cases g1:0<=k
   ·have d1:decide (0<=k)=true:=zG zo
    by_cases g2:k<21
    ·have d2:decide (k<21)=true:=zG zo;obtain rfl:q=true:=by rw[<- hq];simp[*]
     exact ux3
    ·have d2:decide (k<21)=false:=zH zo;obtain rfl:q=false:=by rw[<- hq];simp[*]
     exact ux3
   ·have d1:decide (0<=k)=false:=zH zo;obtain rfl:q=false:=by rw[<- hq];simp[*]
    exact ux3
  |cons c0 r0=>
   have es:((c0::r0)==[])=false:=rfl;have es2:(c0::r0).isEmpty=false:=rfl;have es3:¬(c0::r0)=[]:=zq;generalize c0::r0=s at *;obtain rfl:q=false:=by rw[<- hq];simp[*]
   exact ux3
 ·have e0:(n==0)=false:=zM h1;obtain rfl:q=false:=by rw[<- hq];simp[*]
  exact ux3
def YW(v:Value)(fs:List FnM)(vars:Nat)(k n:Int)(s:By)(ad:Option Addr)(m cc:Nat)(w:World)(hs:s.length<=9223372036854775807)(hF:Qcy w v fs) :
  Calls prog 112 #[v,.agg #[Iv k,Iv n,Sv s,.slice ad m cc],Iv vars] w (Qbj w (.bool (Qam fs.length vars k n s))):=by
 obtain⟨fa,fc,rfl,_⟩:=hF.form
 by_cases h0:k=0
 ·subst h0;exact Jkd fa _ fc vars n s ad m cc w hs
 by_cases h1:k=1
 ·subst h1;exact Jke fa _ fc vars n s ad m cc w hs
 by_cases h2:k=2
 ·subst h2;exact Jkf fa _ fc vars n s ad m cc w hs
 by_cases h3:k=3
 ·subst h3;exact Jkg fa _ fc vars n s ad m cc w hs
 by_cases h4:k=4
 ·subst h4;exact Jkh fa _ fc vars n s ad m cc w hs
 by_cases h5:k=5
 ·subst h5;exact Jki fa _ fc vars n s ad m cc w hs
 by_cases h19:k=19
 ·subst h19;exact JhP fa _ fc vars n s ad m cc w hs
 by_cases h20:k=20
 ·subst h20;exact JhQ fa _ fc vars n s ad m cc w hs
 exact JcI fa _ fc vars k n s ad m cc w hs h0 h1 h2 h3 h4 h5 h19 h20
theorem zb{P:Prop}(h:P:=by exact ⟨((Below.refl w1.heap.size w1).drew).trans (xA.mono ((Below.refl w1.heap.size w1).drew).size),FF.o _ (((Below.refl w1.heap.size w1).drew).trans (xA.mono ((Below.refl w1.heap.size w1).drew).size))⟩):P:=h
theorem zi{P:Prop}(h:P:=by exact ⟨(Below.refl w1.heap.size w1).drew,FF.o _ (Below.refl w1.heap.size w1).drew⟩):P:=h
theorem yG{P:Prop}(h:P:=by exact ⟨(hH.1).trans (yA.mono (hH.1).size),FF.o _ ((hH.1).trans (yA.mono (hH.1).size))⟩):P:=h
mutual
def NmN:Exp->Prop
 |.mk k n s l=>s.length<=9223372036854775807/\NmL l
def NmL:List Exp->Prop
 |[]=>True
 |a::l=>NmN a/\NmL l
end
def JhR{l:List Exp}(h:NmL l):∀a∈l,NmN a:=by
 induction l with
 |nil=>intro a ha;cases ha
 |cons x r ih=>
  unfold NmL at h;exact Qgt
def Bel(w W:World):Prop:=Below w.heap.size w W
def Qdr(k:Int)(i vars:Nat):Nat:=if k=19/\i=1 then vars+1 else vars
def JaR(pa:List Nat)(vars Qag:Nat)(k:Int):∀(l:List Exp) (i:Nat) (a:Exp),QaB pa vars Qag k i (l++[a])=(QaB pa vars Qag k i l&&QaK pa (Qdr k (i+l.length) vars) Qag a)
 |[],i,a=>by rw[List.nil_append,QaB,QaB,QaB];simp[Qdr]
 |x::l,i,a=>by
  rw[List.cons_append,QaB,QaB,JaR pa vars Qag k l (i+1) a,Bool.and_assoc,List.length_cons,show i+1+l.length=i+(l.length+1) by omega]
def Z9(pa:List Nat)(vars Qag:Nat)(k:Int):∀(l:List Exp) (i j:Nat) (a:Exp),l[j]?=some a->QaK pa (Qdr k (i+j) vars) Qag a=false->QaB pa vars Qag k i l=false
 |[],i,j,a,h,_=>by simp at h
 |x::l,i,0,a,h,hf=>by
  obtain rfl:x=a:=by simpa using h
  rw[QaB];have:QaK pa (if k=19/\i=1 then vars+1 else vars) Qag x=false:=hf;rw[this];rfl
 |x::l,i,j+1,a,h,hf=>by
  rw[QaB,Z9 pa vars Qag k l (i+1) j a (by simpa using h) (by rw[show i+1+j=i+(j+1) by omega];exact hf)];simp
theorem QiQ{P:Prop}(h:P:=by
  go_wp2_with fail;refine ci.mono ?_;rintro e w7 ⟨rfl,hb7⟩;have HB7:=Zh (Jd HBX.o hb7);clear ci hb7 b0 b1 b2 b3 c0 c1 c2 c3 HBX
  cases x with
  |true=>
   have HFT:Hi (QaB pa vars dn k 0 (l.take (i+1))=true):=by rw[Hi,List.take_add_one,HY.o];show QaB _ _ _ _ _ (_++[y])=true;rw[JaR,hft.o,Nat.zero_add,List.length_take_of_le (Nat.le_of_lt HHI.o),HX.o];rfl
   clear hft;go_wp2;go_roundg (l.length-(i+1))
   case measure=>have:=HG.o;have:=HHI.o;omega
   case rel=>exact⟨i+1,by have:=HHI.o;omega,by go_num,HB7,HFT⟩
  |false=>
   have hqf:q=false:=by rw[<- HQ2.o];exact Z9 pa vars dn k l 0 i y HY.o (by rw[Nat.zero_add];exact HX.o)
   subst hqf;have HB8:=Zh (HKX.o _ HB7.o);clear hft HB7;go_wp2;go_ret
   exact⟨rfl,HB8.o⟩):P:=h
theorem QiJ{P:Prop}(h:P:=by
  try simp only[Act.put,ZA,ZB,ZC]
  refine wpAnyH_done (by kernel_rfl) ?_ _;have HW3:=Zh hH.1;clear hH b0 b1 b2 b3;go_wp2;go_ret
  exact⟨rfl,HKX.o _ HW3.o⟩):P:=h
theorem Qit{P:Prop}(h:P:=by
  intro W hW;have hh:=(hW.block _ HEB.o).trans HCP.o
  refine⟨?_,?_,?_,?_⟩<;>(rw[Ja hh];rfl)):P:=h
def JhS(fs:List FnM)(n:Nat)(IH:∀(y:Exp) (d:Array Value) (v:Value) (vars Qag:Nat) (W:World),siz (utN y)<=n->NmN y->vars+siz (utN y)<=4000000000->Qag<=4000000000->XAt W (In W) y d->Qcy W v fs->
  Calls prog 56 #[v,.agg d,Iv vars,Iv Qag] W (Qbj W (.bool (QaK (fs.map (·.params.length)) vars Qag y))))
  (k nn:Int) (s:By) (l:List Exp) (ad:Option Addr) (cc:Nat) (v:Value) (vars Qag:Nat) (w:World) (hs:s.length<=9223372036854775807) (hl:NmL l) (hn:Qbd (utL l)<=n) (hv:vars+Qbd (utL l)+1<=4000000000) (hne:Qag<=4000000000) (hK:QeF w ad l) (hF:Qcy w v fs) :
  Calls prog 56 #[v,.agg #[Iv k,Iv nn,Sv s,.slice ad l.length cc],Iv vars,Iv Qag] w (Qbj w (.bool (QaK (fs.map (·.params.length)) vars Qag (.mk k nn s l)))):=by
 obtain⟨q,hq⟩:∃q,QaK (fs.map (·.params.length)) vars Qag (.mk k nn s l)=q:=⟨_,rfl⟩
 rw[hq,];rw[QaK]at hq;have gA:(fs.map (·.params.length)).length=fs.length:=zq;rw[gA]at hq;generalize rA:fs.map (·.params.length)=pa at *;obtain⟨fa,fc,rfl,_⟩:=hF.form;have mA:Below w.heap.size w (w.alloc (.cells #[Iv k,Iv nn,Sv s,.slice ad l.length cc] 37)):=zO.alloc (Nat.le_refl _) _;have HCP:=Zh (zQ w (.cells #[Iv k,Iv nn,Sv s,.slice ad l.length cc] 37));have HKX:Hi (∀W,Below (w.alloc (.cells #[Iv k,Iv nn,Sv s,.slice ad l.length cc] 37)).heap.size (w.alloc (.cells #[Iv k,Iv nn,Sv s,.slice ad l.length cc] 37)) W->Bel w W):=λW hW=>Jd mA hW
 have eB:=Zh hK;have vA:=Zh hF;have zB:=Zh IH;have sA:=Zh rA;have yB:=Zh hl;have hB:l.length<=4000000000:=by have:=JhN l;omega
 have HSZ:=Zh hn;have HSV:=Zh hv;clear mA hK hF IH rA hl gA hn hv
 by_cases h1:1<=Qag
 ·have d1:decide ((Qag:Int)<1)=false:=zH zo;have dB:decide (Qag<1)=false:=zH zo;obtain⟨dn,uB⟩:∃dn,Qag=dn+1:=⟨Qag-1,by omega⟩
  have wn:IntKind.i64.wrap ((Qag:Int)-1)=(dn:Int):=by rw[IntWalk.i64_in _ zo];omega
  have tA:Qag-1=dn:=zo;rw[tA,zG h1,Bool.true_and]at hq;have vB:Hi (dn<=4000000000):=by unfold Hi;omega
  clear uB h1 tA hne;obtain⟨fb,dA⟩:∃fb,Qam fs.length vars k nn s=fb:=⟨_,rfl⟩
  have HFB:=Zh dA;rw[dA]at hq;clear dA
  cases fb with
  |false=>
   obtain rfl:q=false:=by rw[<- hq];rfl
   clear hq wn;go_enter func56,ntmps56;go_upto_region 1 with fail;have HEB:Hi (w.heap.size<(w.alloc (.cells #[Iv k,Iv nn,Sv s,.slice ad l.length cc] 37)).heap.size):=Jb HCP.o;generalize World.alloc w _=w1 at *;generalize w.heap.size=eb at *
   have FF:Hi (∀W,Below w1.heap.size w1 W->W.cell? ⟨eb,0,none⟩=some (Iv k)/\W.cell? ⟨eb,1,none⟩=some (Iv nn)/\W.cell? ⟨eb,2,none⟩=some (Sv s)/\W.cell? ⟨eb,3,none⟩=some (.slice ad l.length cc)):=by
    exact Qit
   obtain⟨b0,b1,b2,b3⟩:=FF.o _ zO;refine wp_region_held_drew (S:=(λW=>Below w1.heap.size w1 W/\W.cell? ⟨eb,0,none⟩=some (Iv k)/\W.cell? ⟨eb,1,none⟩=some (Iv nn)/\W.cell? ⟨eb,2,none⟩=some (Sv s)/\W.cell? ⟨eb,3,none⟩=some (.slice ad l.length cc))) zk zi λhH=>?_;refine zK 0 ?_
   try simp only[zX]
   refine zK 1 ?_;try simp only[zX]
   refine zK 2 ?_;try simp only[zX]
   refine zK 3 ?_;try simp only[zX]
   refine zK 4 ?_;try simp only[zX]
   refine zK 5 ?_;try simp only[zX]
   refine ZS 6 rfl λK hK=>?_;have uA:=YW (.slice fa fs.length fc) fs vars k nn s ad l.length cc _ hs (vA.o.up (HKX.o _ ((Below.refl w1.heap.size w1).drew)));rw[HFB.o]at uA
   (go_simp;go_at_call 112;refine uA.mono ?_;rintro e nA ⟨rfl,xA⟩)
   refine zU hK zb λhH=>?_;clear hK K
   try simp only[zX]
   refine zK 7 ?_;try simp only[zX]
   refine zK 8 ?_;try simp only[zX]
   refine zK 9 ?_;try simp only[zX]
   refine zL 10 ?_
   try simp only[zX]
   refine zL 11 ?_
   try simp only[zX]
   refine zL 12 ?_
   try simp only[zX]
   refine zL 13 ?_
   try simp only[zX]
   refine zL 14 ?_
   try simp only[zX]
   refine zL 15 ?_
   try simp only[zX]
   refine zL 16 ?_
   try simp only[zX]
   refine zK 17 ?_
   exact QiJ
  |true=>
  rw[Bool.true_and]at hq
  have h20:k=20->0<=nn/\nn<(fs.length:Int):=by
   intro e;subst e;have:=HFB.o;unfold Qam at this;simp at this;exact⟨this.1.1,this.1.2⟩
  have jA:=Zh h20;obtain⟨am,eA⟩:∃am,QaM pa k nn=am:=⟨_,rfl⟩
  have pA:=Zh eA;rw[eA]at hq;clear eA h20
  by_cases hlen:l.length=am
  ·have gB:=Zh hlen;have xB:QaB pa vars dn k 0 l=q:=by rw[<- hq,hlen];simp
   have HQ2:=Zh xB;have ea:((l.length:Int)==(am:Int))=true:=zN zo;have kA:((l.length:Int) !=(am:Int))=false:=by rw[bne,ea];rfl
   clear hlen hq xB;go_enter func56,ntmps56;go_upto_region 1 with fail;have HEB:Hi (w.heap.size<(w.alloc (.cells #[Iv k,Iv nn,Sv s,.slice ad l.length cc] 37)).heap.size):=Jb HCP.o;generalize World.alloc w _=w1 at *;generalize w.heap.size=eb at *
   have FF:Hi (∀W,Below w1.heap.size w1 W->W.cell? ⟨eb,0,none⟩=some (Iv k)/\W.cell? ⟨eb,1,none⟩=some (Iv nn)/\W.cell? ⟨eb,2,none⟩=some (Sv s)/\W.cell? ⟨eb,3,none⟩=some (.slice ad l.length cc)):=by
    exact Qit
   obtain⟨b0,b1,b2,b3⟩:=FF.o _ zO;refine wp_region_held_drew (S:=(λW=>Below w1.heap.size w1 W/\W.cell? ⟨eb,0,none⟩=some (Iv k)/\W.cell? ⟨eb,1,none⟩=some (Iv nn)/\W.cell? ⟨eb,2,none⟩=some (Sv s)/\W.cell? ⟨eb,3,none⟩=some (.slice ad l.length cc))) zk zi λhH=>?_;refine zK 0 ?_
   try simp only[zX]
   refine zK 1 ?_;try simp only[zX]
   refine zK 2 ?_;try simp only[zX]
   refine zK 3 ?_;try simp only[zX]
   refine zK 4 ?_;try simp only[zX]
   refine zK 5 ?_;try simp only[zX]
   refine ZS 6 rfl λK hK=>?_;have uA:=YW (.slice fa fs.length fc) fs vars k nn s ad l.length cc _ hs (vA.o.up (HKX.o _ ((Below.refl w1.heap.size w1).drew)));rw[HFB.o]at uA
   (go_simp;go_at_call 112;refine uA.mono ?_;rintro e nA ⟨rfl,xA⟩)
   refine zU hK zb λhH=>?_;clear hK K
   try simp only[zX]
   refine zK 7 ?_;try simp only[zX]
   refine zK 8 ?_;try simp only[zX]
   refine zK 9 ?_;try simp only[zX]
   refine zK 10 ?_;try simp only[zX]
   refine zK 11 ?_;try simp only[zX]
   refine zK 12 ?_;try simp only[zX]
   refine zK 13 ?_;try simp only[zX]
   refine zK 14 ?_;try simp only[zX]
   refine ZS 15 rfl λK hK=>?_;have aA:=JcH fs (.slice fa fs.length fc) k nn s ad l.length cc _ (vA.o.up (HKX.o _ (hH.1))) jA.o;rw[sA.o,pA.o]at aA
   (go_simp;go_at_call 113;refine aA.mono ?_;rintro e iA ⟨rfl,yA⟩)
   refine zU hK yG λhH=>?_;clear hK K
   try simp only[zX]
   refine zK 16 ?_;try simp only[zX]
   refine zK 17 ?_;try simp only[zX]
   refine wpAnyH_done zk ?_ _;have HW3:=Zh hH.1;have qA:=FF.o _ hH.1;clear b0 b1 b2 b3 hH;clear uA aA xA yA;obtain⟨w3,hA⟩:∃w3,w3=iA:=⟨_,rfl⟩
   rw[<- hA]at HW3 qA |-;clear hA;obtain⟨b0,b1,b2,b3⟩:=qA;go_wp2_with fail;clear b0 b1 b2 b3 ea kA;go_loopg [33] l.length λg v33 wr=>∃i:Nat,g+i=l.length/\v33=Iv i/\Hi (Below w1.heap.size w1 wr)/\Hi (QaB pa vars dn k 0 (l.take i)=true)
   case atStart=>exact⟨0,rfl,rfl,HW3,by unfold Hi;rw[List.take_zero,QaB]⟩
   case round=>
   clear HW3;obtain⟨wl,rfl⟩:=zJ wr;obtain⟨i,hg,rfl,hbw,hft⟩:=hrel
   by_cases hi:i<l.length
   ·have hil:(i:Int)<(l.length:Int):=zo;obtain⟨y,hy⟩:∃y,l[i]?=some y:=⟨l[i],List.getElem?_eq_getElem hi⟩
    have hmem:=List.mem_of_getElem? hy;obtain⟨b,o,da,dc,aB,hxy,c0,c1,c2,c3⟩:=eB.o.at' (HKX.o _ hbw.o) hy;have wk:=zI i;have hb2:Below wl.heap.size wl (wl.alloc (.cells #[Iv y.kind,Iv y.num,.string (bs y.name),.slice da y.kids.length dc] 37)):=zO.alloc (Nat.le_refl _) _;have hbx:Below w1.heap.size w1 (wl.alloc (.cells #[Iv y.kind,Iv y.num,.string (bs y.name),.slice da y.kids.length dc] 37)):=Jd hbw.o hb2;have ci:=zB.o y _ (.slice fa fs.length fc) (Qdr k i vars) dn (wl.alloc (.cells #[Iv y.kind,Iv y.num,.string (bs y.name),.slice da y.kids.length dc] 37)) (zv (K6 hmem) HSZ.o) (JhR yB.o y hmem) (by have:=K6 hmem;have:=HSV.o;unfold Qdr;split<;>omega) vB.o (hxy.up hb2) (vA.o.up (HKX.o _ hbx));obtain⟨x,hx⟩:∃x,QaK pa (Qdr k i vars) dn y=x:=⟨_,rfl⟩
    rw[hx]at ci;have HX:=Zh hx;have HY:=Zh hy;have HBX:=Zh hbx;have HG:=Zh hg;have HHI:=Zh hi;obtain⟨b0,b1,b2,b3⟩:=FF.o _ hbx;subst aB;clear hb2 hbx hmem hxy hbw hx hy hi hg;have zA:Qdr k i vars=if k=19/\i=1 then vars+1 else vars:=rfl
    by_cases e19:k=19
    ·have cB:(k==19)=true:=zN e19
     by_cases e1:i=1
     ·rw[if_pos ⟨e19,e1⟩]at zA;have bB:((i:Int)==1)=true:=zN zo;have cA:(i==1)=true:=zN e1;have wv:IntKind.i64.wrap ((vars:Int)+1)=((vars+1:Nat):Int):=by rw[IntWalk.i64_in _ (zu HSV.o)];omega
      rw[zA]at ci HX;rw[Int.natCast_add,Int.natCast_one]at ci wv;have HX1:Hi (QaK pa (Qdr k i vars) dn y=x):=by unfold Hi;rw[zA];exact HX.o
      clear HX;have HX:=HX1;clear HX1 zA e19 e1;exact QiQ
     ·rw[if_neg λh=>e1 h.2]at zA;have bB:((i:Int)==1)=false:=zM zo;have cA:(i==1)=false:=zM e1;rw[zA]at ci;clear zA e19 e1;exact QiQ
    ·have cB:(k==19)=false:=zM e19;rw[if_neg λh=>e19 h.1]at zA;rw[zA]at ci;clear zA e19;exact QiQ
   ·have hil:¬(i:Int)<(l.length:Int):=zo;obtain rfl:i=l.length:=zo;have bA:=hft.o;rw[List.take_length,HQ2.o]at bA;subst bA;have HBW:=Zh (HKX.o _ hbw.o);clear hi hg hft hbw;go_wp2;go_ret;exact⟨rfl,HBW.o⟩
  ·have gB:=Zh hlen;have hqf:q=false:=by rw[<- hq,zM hlen];rfl
   subst hqf;have ea:((l.length:Int)==(am:Int))=false:=zM zo;have kA:((l.length:Int) !=(am:Int))=true:=by rw[bne,ea];rfl
   clear hlen hq wn;go_enter func56,ntmps56;go_upto_region 1 with fail;have HEB:Hi (w.heap.size<(w.alloc (.cells #[Iv k,Iv nn,Sv s,.slice ad l.length cc] 37)).heap.size):=Jb HCP.o;generalize World.alloc w _=w1 at *;generalize w.heap.size=eb at *
   have FF:Hi (∀W,Below w1.heap.size w1 W->W.cell? ⟨eb,0,none⟩=some (Iv k)/\W.cell? ⟨eb,1,none⟩=some (Iv nn)/\W.cell? ⟨eb,2,none⟩=some (Sv s)/\W.cell? ⟨eb,3,none⟩=some (.slice ad l.length cc)):=by
    exact Qit
   obtain⟨b0,b1,b2,b3⟩:=FF.o _ zO;refine wp_region_held_drew (S:=(λW=>Below w1.heap.size w1 W/\W.cell? ⟨eb,0,none⟩=some (Iv k)/\W.cell? ⟨eb,1,none⟩=some (Iv nn)/\W.cell? ⟨eb,2,none⟩=some (Sv s)/\W.cell? ⟨eb,3,none⟩=some (.slice ad l.length cc))) zk zi λhH=>?_;refine zK 0 ?_
   try simp only[zX]
   refine zK 1 ?_;try simp only[zX]
   refine zK 2 ?_;try simp only[zX]
   refine zK 3 ?_;try simp only[zX]
   refine zK 4 ?_;try simp only[zX]
   refine zK 5 ?_;try simp only[zX]
   refine ZS 6 rfl λK hK=>?_;have uA:=YW (.slice fa fs.length fc) fs vars k nn s ad l.length cc _ hs (vA.o.up (HKX.o _ ((Below.refl w1.heap.size w1).drew)));rw[HFB.o]at uA
   (go_simp;go_at_call 112;refine uA.mono ?_;rintro e nA ⟨rfl,xA⟩)
   refine zU hK zb λhH=>?_;clear hK K
   try simp only[zX]
   refine zK 7 ?_;try simp only[zX]
   refine zK 8 ?_;try simp only[zX]
   refine zK 9 ?_;try simp only[zX]
   refine zK 10 ?_;try simp only[zX]
   refine zK 11 ?_;try simp only[zX]
   refine zK 12 ?_;try simp only[zX]
   refine zK 13 ?_;try simp only[zX]
   refine zK 14 ?_;try simp only[zX]
   refine ZS 15 rfl λK hK=>?_;have aA:=JcH fs (.slice fa fs.length fc) k nn s ad l.length cc _ (vA.o.up (HKX.o _ (hH.1))) jA.o;rw[sA.o,pA.o]at aA
   (go_simp;go_at_call 113;refine aA.mono ?_;rintro e iA ⟨rfl,yA⟩)
   refine zU hK yG λhH=>?_;clear hK K
   try simp only[zX]
   refine zK 16 ?_;try simp only[zX]
   refine zK 17 ?_
   exact QiJ
 ·have d1:decide ((Qag:Int)<1)=true:=zG zo;have dB:decide (Qag<1)=true:=zG zo;have hqf:q=false:=by rw[<- hq,zH h1];rfl
  subst hqf;clear hq h1;go_enter func56,ntmps56;go_upto_region 1 with fail;have HEB:Hi (w.heap.size<(w.alloc (.cells #[Iv k,Iv nn,Sv s,.slice ad l.length cc] 37)).heap.size):=Jb HCP.o;generalize World.alloc w _=w1 at *;generalize w.heap.size=eb at *
  have FF:Hi (∀W,Below w1.heap.size w1 W->W.cell? ⟨eb,0,none⟩=some (Iv k)/\W.cell? ⟨eb,1,none⟩=some (Iv nn)/\W.cell? ⟨eb,2,none⟩=some (Sv s)/\W.cell? ⟨eb,3,none⟩=some (.slice ad l.length cc)):=by
   exact Qit
  obtain⟨b0,b1,b2,b3⟩:=FF.o _ zO;refine wp_region_held_drew (S:=(λW=>Below w1.heap.size w1 W/\W.cell? ⟨eb,0,none⟩=some (Iv k)/\W.cell? ⟨eb,1,none⟩=some (Iv nn)/\W.cell? ⟨eb,2,none⟩=some (Sv s)/\W.cell? ⟨eb,3,none⟩=some (.slice ad l.length cc))) zk zi λhH=>?_;refine zK 0 ?_
  try simp only[zX]
  refine zK 1 ?_;try simp only[zX]
  refine zK 2 ?_;try simp only[zX]
  refine zL 3 ?_
  try simp only[zX]
  refine zL 4 ?_
  try simp only[zX]
  refine zL 5 ?_
  try simp only[zX]
  refine zL 6 ?_
  try simp only[zX]
  refine zL 7 ?_
  try simp only[zX]
  refine zK 8 ?_;try simp only[zX]
  refine zK 9 ?_;try simp only[zX]
  refine zL 10 ?_
  try simp only[zX]
  refine zL 11 ?_
  try simp only[zX]
  refine zL 12 ?_
  try simp only[zX]
  refine zL 13 ?_
  try simp only[zX]
  refine zL 14 ?_
  try simp only[zX]
  refine zL 15 ?_
  try simp only[zX]
  refine zL 16 ?_
  try simp only[zX]
  refine zK 17 ?_
  exact QiJ
def Jfb(fs:List FnM):∀n,∀(y:Exp) (d:Array Value) (v:Value) (vars Qag:Nat) (W:World),siz (utN y)<=n->NmN y->vars+siz (utN y)<=4000000000->Qag<=4000000000->XAt W (In W) y d->Qcy W v fs->
  Calls prog 56 #[v,.agg d,Iv vars,Iv Qag] W (Qbj W (.bool (QaK (fs.map (·.params.length)) vars Qag y)))
 |0,y,d,v,vars,Qag,W,h,_,_,_,_,_=>by have:=Vh (utN y);omega
 |n+1,.mk k nn s l,d,v,vars,Qag,W,h,hN,hv,hne,hx,hF=>by
  rw[utN,JD]at h hv;unfold NmN at hN;obtain⟨ad,cc,rfl,_,hK⟩:=hx.kids;exact JhS fs n (Jfb fs n) k nn s l ad cc v vars Qag W hN.1 hN.2 zo zo hne hK hF
def Jfc(fs:List FnM)(y:Exp)(d:Array Value)(v:Value)(vars Qag:Nat)(W:World)(hN:NmN y)(hv:vars+siz (utN y)<=4000000000)(hne:Qag<=4000000000)(hx:XAt W (In W) y d)(hF:Qcy W v fs) :
  Calls prog 56 #[v,.agg d,Iv vars,Iv Qag] W (Qbj W (.bool (QaK (fs.map (·.params.length)) vars Qag y))):=
 Jfb fs _ y d v vars Qag W (Nat.le_refl _) hN hv hne hx hF
end Go.Proofs.YtfafpklefknomaaGreatDoor
