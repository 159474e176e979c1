import Derived.Test.YtfafpklefknomaaGreatDoorR03
open List(mem_cons)
namespace Go.Proofs.YtfafpklefknomaaGreatDoor
open Go.ChangeShapes Go.WideShapes Go.ChangeAt Go.RowKit Go.Lib
open _root_.Go.Proofs.Tryz
set_option linter.all false
set_option maxRecDepth 100000
set_option maxHeartbeats 32000000
theorem Qfo{P:Prop}(h:P:=by
  go_enter func54,ntmps54;go_wp2;go_ret2
  exact⟨rfl,rfl⟩):P:=h
def Zi(s:By)(w:World):Calls prog 54 #[Sv s] w (Qei (.tuple #[Iv ((QaU s).getD 0),.bool (QaU s).isSome]) w):=by
 have u1:=Jj s
 by_cases h0:s=[108,105,107,101,115]
 ·have e0:(s==[108,105,107,101,115])=true:=zN h0;have HR:QaU s=some 0:=by rw[h0];decide
  rw[HR];clear HR h0;exact Qfo
 have e0:(s==[108,105,107,101,115])=false:=zM h0
 by_cases h1:s=[98,111,111,115,116,115]
 ·have e1:(s==[98,111,111,115,116,115])=true:=zN h1;have HR:QaU s=some 0:=by rw[h1];decide
  rw[HR];clear HR h0 h1;exact Qfo
 have e1:(s==[98,111,111,115,116,115])=false:=zM h1
 by_cases h2:s=[114,101,112,108,105,101,115]
 ·have e2:(s==[114,101,112,108,105,101,115])=true:=zN h2;have HR:QaU s=some 0:=by rw[h2];decide
  rw[HR];clear HR h0 h1 h2;exact Qfo
 have e2:(s==[114,101,112,108,105,101,115])=false:=zM h2
 by_cases h3:s=[114,101,112,111,114,116,115]
 ·have e3:(s==[114,101,112,111,114,116,115])=true:=zN h3;have HR:QaU s=some 0:=by rw[h3];decide
  rw[HR];clear HR h0 h1 h2 h3;exact Qfo
 have e3:(s==[114,101,112,111,114,116,115])=false:=zM h3
 by_cases h4:s=[97,103,101]
 ·have e4:(s==[97,103,101])=true:=zN h4;have HR:QaU s=some 0:=by rw[h4];decide
  rw[HR];clear HR h0 h1 h2 h3 h4;exact Qfo
 have e4:(s==[97,103,101])=false:=zM h4
 by_cases h5:s=[104,111,109,101]
 ·have e5:(s==[104,111,109,101])=true:=zN h5;have HR:QaU s=some 0:=by rw[h5];decide
  rw[HR];clear HR h0 h1 h2 h3 h4 h5;exact Qfo
 have e5:(s==[104,111,109,101])=false:=zM h5
 by_cases h6:s=[115,99,111,112,101]
 ·have e6:(s==[115,99,111,112,101])=true:=zN h6;have HR:QaU s=some 0:=by rw[h6];decide
  rw[HR];clear HR h0 h1 h2 h3 h4 h5 h6;exact Qfo
 have e6:(s==[115,99,111,112,101])=false:=zM h6
 by_cases h7:s=[108,101,110,103,116,104]
 ·have e7:(s==[108,101,110,103,116,104])=true:=zN h7;have HR:QaU s=some 0:=by rw[h7];decide
  rw[HR];clear HR h0 h1 h2 h3 h4 h5 h6 h7;exact Qfo
 have e7:(s==[108,101,110,103,116,104])=false:=zM h7
 by_cases h8:s=[102,111,108,108,111,119,115]
 ·have e8:(s==[102,111,108,108,111,119,115])=true:=zN h8;have HR:QaU s=some 1:=by rw[h8];decide
  rw[HR];clear HR h0 h1 h2 h3 h4 h5 h6 h7 h8;exact Qfo
 have e8:(s==[102,111,108,108,111,119,115])=false:=zM h8
 by_cases h9:s=[114,101,112,108,121]
 ·have e9:(s==[114,101,112,108,121])=true:=zN h9;have HR:QaU s=some 1:=by rw[h9];decide
  rw[HR];clear HR h0 h1 h2 h3 h4 h5 h6 h7 h8 h9;exact Qfo
 have e9:(s==[114,101,112,108,121])=false:=zM h9
 have HR:QaU s=none:=by
  unfold QaU;rw[if_neg (by simp only[mem_cons,List.not_mem_nil,not_or,or_false,Qco,Qch,QbD,QbC,QfI,QdQ,QcS,Qcg];exact⟨h0,h1,h2,h3,h4,h5,h6,h7⟩),if_neg (by simp only[mem_cons,List.not_mem_nil,not_or,or_false,QbE,Qep];exact⟨h8,h9⟩)]
 rw[HR];clear HR h0 h1 h2 h3 h4 h5 h6 h7 h8 h9;exact Qfo
theorem QdP{P:Prop}(h:P:=by
  go_enter func55,ntmps55;go_wp2;go_ret
  exact⟨rfl,rfl⟩):P:=h
theorem QgX{P:Prop}(h:P:=by
  rw[HR];clear HR h0 h1 h2 h3 h4 h5 h6 h7 h8 h9 h10 h11 h12 h13 h14 h15 h16 h17 h18 h19 h20
  exact QdP):P:=h
def JdE(s:By)(w:World):Calls prog 55 #[Sv s] w (Qei (.bool (Qaq s)) w):=by
 have u1:=Jj s
 by_cases h0:s=[97,110,100]
 ·have e0:(s==[97,110,100])=true:=zN h0;have HR:Qaq s=true:=by rw[h0];decide
  rw[HR];clear HR h0;exact QdP
 have e0:(s==[97,110,100])=false:=zM h0
 by_cases h1:s=[98,111,111,108]
 ·have e1:(s==[98,111,111,108])=true:=zN h1;have HR:Qaq s=true:=by rw[h1];decide
  rw[HR];clear HR h0 h1;exact QdP
 have e1:(s==[98,111,111,108])=false:=zM h1
 by_cases h2:s=[100,101,102]
 ·have e2:(s==[100,101,102])=true:=zN h2;have HR:Qaq s=true:=by rw[h2];decide
  rw[HR];clear HR h0 h1 h2;exact QdP
 have e2:(s==[100,101,102])=false:=zM h2
 by_cases h3:s=[100,101,102,97,117,108,116]
 ·have e3:(s==[100,101,102,97,117,108,116])=true:=zN h3;have HR:Qaq s=true:=by rw[h3];decide
  rw[HR];clear HR h0 h1 h2 h3;exact QdP
 have e3:(s==[100,101,102,97,117,108,116])=false:=zM h3
 by_cases h4:s=[101,108,115,101]
 ·have e4:(s==[101,108,115,101])=true:=zN h4;have HR:Qaq s=true:=by rw[h4];decide
  rw[HR];clear HR h0 h1 h2 h3 h4;exact QdP
 have e4:(s==[101,108,115,101])=false:=zM h4
 by_cases h5:s=[102,97,108,115,101]
 ·have e5:(s==[102,97,108,115,101])=true:=zN h5;have HR:Qaq s=true:=by rw[h5];decide
  rw[HR];clear HR h0 h1 h2 h3 h4 h5;exact QdP
 have e5:(s==[102,97,108,115,101])=false:=zM h5
 by_cases h6:s=[104,105,100,101]
 ·have e6:(s==[104,105,100,101])=true:=zN h6;have HR:Qaq s=true:=by rw[h6];decide
  rw[HR];clear HR h0 h1 h2 h3 h4 h5 h6;exact QdP
 have e6:(s==[104,105,100,101])=false:=zM h6
 by_cases h7:s=[105,102]
 ·have e7:(s==[105,102])=true:=zN h7;have HR:Qaq s=true:=by rw[h7];decide
  rw[HR];clear HR h0 h1 h2 h3 h4 h5 h6 h7;exact QdP
 have e7:(s==[105,102])=false:=zM h7
 by_cases h8:s=[105,110]
 ·have e8:(s==[105,110])=true:=zN h8;have HR:Qaq s=true:=by rw[h8];decide
  rw[HR];clear HR h0 h1 h2 h3 h4 h5 h6 h7 h8;exact QdP
 have e8:(s==[105,110])=false:=zM h8
 by_cases h9:s=[105,110,116]
 ·have e9:(s==[105,110,116])=true:=zN h9;have HR:Qaq s=true:=by rw[h9];decide
  rw[HR];clear HR h0 h1 h2 h3 h4 h5 h6 h7 h8 h9;exact QdP
 have e9:(s==[105,110,116])=false:=zM h9
 by_cases h10:s=[108,97,98,101,108]
 ·have bA:(s==[108,97,98,101,108])=true:=zN h10;have HR:Qaq s=true:=by rw[h10];decide
  rw[HR];clear HR h0 h1 h2 h3 h4 h5 h6 h7 h8 h9 h10;exact QdP
 have bA:(s==[108,97,98,101,108])=false:=zM h10
 by_cases h11:s=[108,101,116]
 ·have xA:(s==[108,101,116])=true:=zN h11;have HR:Qaq s=true:=by rw[h11];decide
  rw[HR];clear HR h0 h1 h2 h3 h4 h5 h6 h7 h8 h9 h10 h11;exact QdP
 have xA:(s==[108,101,116])=false:=zM h11
 by_cases h12:s=[108,105,109,105,116]
 ·have gA:(s==[108,105,109,105,116])=true:=zN h12;have HR:Qaq s=true:=by rw[h12];decide
  rw[HR];clear HR h0 h1 h2 h3 h4 h5 h6 h7 h8 h9 h10 h11 h12;exact QdP
 have gA:(s==[108,105,109,105,116])=false:=zM h12
 by_cases h13:s=[109,101,100,105,97]
 ·have aA:(s==[109,101,100,105,97])=true:=zN h13;have HR:Qaq s=true:=by rw[h13];decide
  rw[HR];clear HR h0 h1 h2 h3 h4 h5 h6 h7 h8 h9 h10 h11 h12 h13;exact QdP
 have aA:(s==[109,101,100,105,97])=false:=zM h13
 by_cases h14:s=[110,111,116]
 ·have yA:(s==[110,111,116])=true:=zN h14;have HR:Qaq s=true:=by rw[h14];decide
  rw[HR];clear HR h0 h1 h2 h3 h4 h5 h6 h7 h8 h9 h10 h11 h12 h13 h14;exact QdP
 have yA:(s==[110,111,116])=false:=zM h14
 by_cases h15:s=[111,114]
 ·have uA:(s==[111,114])=true:=zN h15;have HR:Qaq s=true:=by rw[h15];decide
  rw[HR];clear HR h0 h1 h2 h3 h4 h5 h6 h7 h8 h9 h10 h11 h12 h13 h14 h15;exact QdP
 have uA:(s==[111,114])=false:=zM h15
 by_cases h16:s=[115,104,111,119]
 ·have vA:(s==[115,104,111,119])=true:=zN h16;have HR:Qaq s=true:=by rw[h16];decide
  rw[HR];clear HR h0 h1 h2 h3 h4 h5 h6 h7 h8 h9 h10 h11 h12 h13 h14 h15 h16;exact QdP
 have vA:(s==[115,104,111,119])=false:=zM h16
 by_cases h17:s=[116,104,101,110]
 ·have eA:(s==[116,104,101,110])=true:=zN h17;have HR:Qaq s=true:=by rw[h17];decide
  rw[HR];clear HR h0 h1 h2 h3 h4 h5 h6 h7 h8 h9 h10 h11 h12 h13 h14 h15 h16 h17;exact QdP
 have eA:(s==[116,104,101,110])=false:=zM h17
 by_cases h18:s=[116,114,117,101]
 ·have zA:(s==[116,114,117,101])=true:=zN h18;have HR:Qaq s=true:=by rw[h18];decide
  rw[HR];clear HR h0 h1 h2 h3 h4 h5 h6 h7 h8 h9 h10 h11 h12 h13 h14 h15 h16 h17 h18;exact QdP
 have zA:(s==[116,114,117,101])=false:=zM h18
 by_cases h19:s=[119,104,101,110]
 ·have cA:(s==[119,104,101,110])=true:=zN h19;have HR:Qaq s=true:=by rw[h19];decide
  rw[HR];clear HR h0 h1 h2 h3 h4 h5 h6 h7 h8 h9 h10 h11 h12 h13 h14 h15 h16 h17 h18 h19;exact QdP
 have cA:(s==[119,104,101,110])=false:=zM h19
 by_cases h20:s=[119,111,114,100]
 ·have dA:(s==[119,111,114,100])=true:=zN h20;have HR:Qaq s=true:=by rw[h20];decide
  exact QgX
 have dA:(s==[119,111,114,100])=false:=zM h20;have HR:Qaq s=false:=by unfold Qaq;exact zH (by simp only[mem_cons,List.not_mem_nil,not_or,or_false,Qih,QeA,Qig,Qdd,Qfs,QeN,Qez,kIf,kIn,QgB,QeM,QgA,QdF,QdE,QgQ,kOr,Qey,Qen,QfU,Qfr,QfT];exact⟨h0,h1,h2,h3,h4,h5,h6,h7,h8,h9,h10,h11,h12,h13,h14,h15,h16,h17,h18,h19,h20⟩)
 exact QgX
def JlH(m:Nat)(c:UInt8)(hc:c.toNat=m):Qdw c=true↔(97<=m/\m<=122)\/(48<=m/\m<=57)\/m=95:=by
 subst hc;unfold Qdw Qef Qgi;simp only[Bool.or_eq_true,Bool.and_eq_true,decide_eq_true_eq,beq_iff_eq]
 constructor
 ·rintro ((h|h)|h)
  ·exact .inl h
  ·exact .inr (.inl h)
  ·subst h;exact .inr (.inr rfl)
 ·rintro (h|h|h)
  ·exact .inl (.inl h)
  ·exact .inl (.inr h)
  ·exact .inr (UInt8.toNat_inj.1 h)
def JfJ(c:UInt8)(r:By):Qbr (c::r)=(decide ((c::r).length<=24)&&Qef c&&(c::r).all Qdw&&(QaU (c::r)).isNone&&!Qaq (c::r)):=rfl
def JeE{p:UInt8->Bool}{s:By}{k:Nat}{c:UInt8}(h:(s.take k).all p=true)(hc:s[k]?=some c)(hp:p c=true):(s.take (k+1)).all p=true:=by
 rw[List.take_add_one,hc,List.all_append,h];simp[hp]
def JgR{p:UInt8->Bool}{s:By}{k:Nat}{c:UInt8}(hc:s[k]?=some c)(hp:p c=false):s.all p=false:=by
 cases h:s.all p with
 |false=>rfl
 |true=>
  have:=List.all_eq_true.1 h c (List.mem_of_getElem? hc);rw[hp]at this
  cases this
def JdF(m:Nat)(c:UInt8)(hc:c.toNat=m):Qef c=true↔97<=m/\m<=122:=by
 subst hc;unfold Qef;simp
theorem Qis{P:Prop}(h:P:=by
  go_wp2;go_round
  case rel=>exact⟨k+1,by go_num,hkn,HK2⟩
  case measure=>simp[intOf];omega):P:=h
theorem QgT{P:Prop}(h:P:=by
  go_enter func24,ntmps24;go_wp2;go_ret
  exact⟨rfl,rfl⟩):P:=h
def Jca(s:By)(w:World)(hs:s.length<=1000000):Calls prog 24 #[Sv s] w (Qei (.bool (Qbr s)) w):=by
 have u1:=Jj s;have z1:=JJ s;have cf:=λW=>Zi s W
 have ck:=λW=>JdE s W
 cases s with
 |nil=>
  have e0:(([]:By)==[])=true:=rfl;exact QgT
 |cons c0 r0=>
 have hI:=JfJ c0 r0;have bA:(c0::r0)[0]?=some c0:=rfl;have e0:((c0::r0)==[])=false:=rfl;have xB:(c0::r0).isEmpty=false:=rfl;have aA:0<(c0::r0).length:=zq;generalize c0::r0=s at *;obtain⟨m0,uA⟩:∃m,c0.toNat=m:=⟨_,rfl⟩
 have yB:∀h,((bs s)[0]'h).toNat=m0:=λh=>by
  obtain⟨_,h2⟩:=List.getElem?_eq_some_iff.1 bA;rw[<- uA,<- h2];rfl
 obtain⟨n,hn⟩:∃n,s.length=n:=⟨_,rfl⟩
 obtain⟨q,hq⟩:∃q,Qbr s=q:=⟨_,rfl⟩
 have hn0:0<n:=by rw[<- hn];exact aA
 have iA:m0<256:=by rw[<- uA];exact c0.toNat_lt
 rw[hq]at hI |-;rw[hn]at hI z1 hs;clear hq aA
 by_cases h24:n<=24
 ·have d1:decide (24<(n:Int))=false:=zH zo;have nA:decide (24<n)=false:=zH zo
  by_cases hlo:97<=m0
  ·have d2:decide ((m0:Int)<97)=false:=zH zo;have kA:decide (m0<97)=false:=zH zo
   by_cases hhi:m0<=122
   ·have d3:decide (122<(m0:Int))=false:=zH zo;have mA:decide (122<m0)=false:=zH zo;have yA:Qef c0=true:=(JdF m0 c0 uA).2 ⟨hlo,hhi⟩;rw[yA,zG h24]at hI;simp only[Bool.true_and]at hI;have HI:=Zh hI;have HN:=Zh hn;have sA:=Zh h24;clear hI yA hlo hhi uA bA hs;go_enter func24,ntmps24;go_wp2;go_loop [26] (λv=>∃k:Nat,v=Iv k/\k<=n/\Hi ((s.take k).all Qdw=true)) λv=>n-(intOf v).toNat
    case atStart=>exact⟨0,rfl,Nat.zero_le _,by unfold Hi;rfl⟩
    case round=>
     obtain⟨k,rfl,hk,hz⟩:=hrel;have wk:IntKind.i64.wrap ((k:Int)+1)=(k:Int)+1:=IntWalk.i64_in _ (zu sA.o)
     by_cases hkn:k<n
     ·have dk:decide ((k:Int)<(n:Int))=true:=zG zo;have qA:decide (k<n)=true:=zG hkn;have bk:(k:Int)<(n:Int):=zo;obtain⟨c,hc⟩:∃c,s[k]?=some c:=⟨_,List.getElem?_eq_getElem (zu HN.o)⟩
      obtain⟨m,hm⟩:∃m,c.toNat=m:=⟨_,rfl⟩
      have hA:m<256:=by rw[<- hm];exact c.toNat_lt
      have hg:∀h,((bs s)[k]'h).toNat=m:=λh=>by
       obtain⟨_,h2⟩:=List.getElem?_eq_some_iff.1 hc;rw[<- hm,<- h2];rfl
      have hw:=JlH m c hm
      by_cases hwo:(97<=m/\m<=122)\/(48<=m/\m<=57)\/m=95
      ·have HK2:=Zh (JeE hz.o hc (hw.2 hwo));clear hz hc hm hw
       rcases hwo with⟨g1,g2⟩|⟨g1,g2⟩|g1
       ·have a1:decide ((m:Int)<97)=false:=zH zo;have vA:decide (m<97)=false:=zH zo;have a2:decide (122<(m:Int))=false:=zH zo;have pA:decide (122<m)=false:=zH zo;clear g1 g2;exact Qis
       ·have a1:decide ((m:Int)<97)=true:=zG zo;have vA:decide (m<97)=true:=zG zo;have b1:decide ((m:Int)<48)=false:=zH zo;have cA:decide (m<48)=false:=zH zo;have b2:decide (57<(m:Int))=false:=zH zo;have eA:decide (57<m)=false:=zH zo;clear g1 g2;exact Qis
       ·have a1:decide ((m:Int)<97)=true:=zG zo;have vA:decide (m<97)=true:=zG zo;have b1:decide ((m:Int)<48)=false:=zH zo;have cA:decide (m<48)=false:=zH zo;have b2:decide (57<(m:Int))=true:=zG zo;have eA:decide (57<m)=true:=zG zo;have e1:((m:Int)==95)=true:=zN zo;have dA:(m==95)=true:=zN zo;clear g1;exact Qis
      ·have hb:Qdw c=false:=by cases h:Qdw c with|false=>rfl|true=>exact absurd (hw.1 h) hwo
       have hqf:q=false:=by rw[HI.o,JgR hc hb];rfl
       subst hqf;clear hz hc hm hw hb HI cf ck
       by_cases l1:m<48
       ·have a1:decide ((m:Int)<97)=true:=zG zo;have vA:decide (m<97)=true:=zG zo;have b1:decide ((m:Int)<48)=true:=zG zo;have cA:decide (m<48)=true:=zG zo;have e1:((m:Int)==95)=false:=zM zo;have dA:(m==95)=false:=zM zo;clear l1;clear hwo;go_wp2;go_ret;exact⟨rfl,rfl⟩
       by_cases l2:m<97
       ·have tA:m≠95:=λh=>hwo (.inr (.inr h))
        have rA:57<m:=by have:=λh=>hwo (.inr (.inl h));omega
        have a1:decide ((m:Int)<97)=true:=zG zo;have vA:decide (m<97)=true:=zG zo;have b1:decide ((m:Int)<48)=false:=zH zo;have cA:decide (m<48)=false:=zH zo;have b2:decide (57<(m:Int))=true:=zG zo;have eA:decide (57<m)=true:=zG zo;have e1:((m:Int)==95)=false:=zM zo;have dA:(m==95)=false:=zM zo;clear l1 l2 tA rA;clear hwo;go_wp2;go_ret;exact⟨rfl,rfl⟩
       have gA:122<m:=by have:=λh=>hwo (.inl h);omega
       have a1:decide ((m:Int)<97)=false:=zH zo;have vA:decide (m<97)=false:=zH zo;have a2:decide (122<(m:Int))=true:=zG zo;have pA:decide (122<m)=true:=zG zo;have b1:decide ((m:Int)<48)=false:=zH zo;have cA:decide (m<48)=false:=zH zo;have b2:decide (57<(m:Int))=true:=zG zo;have eA:decide (57<m)=true:=zG zo;have e1:((m:Int)==95)=false:=zM zo;have dA:(m==95)=false:=zM zo;clear l1 l2 gA;clear hwo;go_wp2;go_ret;exact⟨rfl,rfl⟩
     ·have dk:decide ((k:Int)<(n:Int))=false:=zH zo;have qA:decide (k<n)=false:=zH hkn
      have zA:s.all Qdw=true:=by
       have:=hz.o
       rwa [List.take_of_length_le (zu HN.o)]at this
      have xA:=HI.o;rw[zA]at xA;simp only[Bool.true_and]at xA
      cases hf:QaU s with
      |some v=>
       rw[hf]at cf xA;have hqf:q=false:=xA;subst hqf;clear hz zA xA HI hf ck;simp only[Option.getD,Option.isSome]at cf;go_wp2_with fail;refine(cf _).mono ?_;rintro e w1 ⟨rfl,rfl⟩;go_wp2;go_ret;exact⟨rfl,rfl⟩
      |none=>
       rw[hf]at cf xA;simp only[Option.getD,Option.isSome]at cf;obtain⟨kb,jA⟩:∃kb,Qaq s=kb:=⟨_,rfl⟩
       rw[jA]at ck xA;have hqf:q=!kb:=xA;subst hqf;clear hz zA xA HI hf jA;go_wp2_with fail;refine(cf _).mono ?_;rintro e w1 ⟨rfl,rfl⟩;go_wp2_with fail;refine(ck _).mono ?_;rintro e w1 ⟨rfl,rfl⟩;go_wp2;go_ret;exact⟨rfl,rfl⟩
   ·have d3:decide (122<(m0:Int))=true:=zG zo;have mA:decide (122<m0)=true:=zG zo;have yA:Qef c0=false:=by cases h:Qef c0 with|false=>rfl|true=>exact absurd ((JdF m0 c0 uA).1 h).2 hhi
    have hqf:q=false:=by rw[hI,yA];simp
    subst hqf;clear hI yA cf ck hlo hhi bA;exact QgT
  ·have d2:decide ((m0:Int)<97)=true:=zG zo;have kA:decide (m0<97)=true:=zG zo;have yA:Qef c0=false:=by cases h:Qef c0 with|false=>rfl|true=>exact absurd ((JdF m0 c0 uA).1 h).1 hlo
   have hqf:q=false:=by rw[hI,yA];simp
   subst hqf;clear hI yA cf ck hlo bA;exact QgT
 ·have d1:decide (24<(n:Int))=true:=zG zo;have nA:decide (24<n)=true:=zG zo;have hqf:q=false:=by rw[hI,zH h24];simp
  subst hqf;clear hI cf ck h24 bA;exact QgT
def OkP(p:Nat)(A:Option Addr)(C:Nat)(T:List Tok)(w:World)(v:Value)(r:List Tok)(e:Ending)(w':World):Prop:=
 e=.returned v/\(∃k',r=T.drop k'/\PAt w' p A C T k')/\Chg [p] w w'
def PRp{α:Type}(p:Nat)(A:Option Addr)(C:Nat)(T:List Tok)(w:World)(f:α->Value)(x:PR α)(e:Ending)(w':World):Prop:=
 match x with
 |.out=>True
 |.bad o=>QgN p w o e w'
 |.ok a r=>OkP p A C T w (f a) r e w'
def JN{kd:Int}{s:By}{T:List Tok}{k:Nat}(h1:(hd (T.drop k)).kind=kd)(h2:(hd (T.drop k)).text=s):acc kd s (T.drop k)=some (T.drop (k+1)):=by
 unfold acc;rw[if_pos ⟨h1,h2⟩,tail_drop]
def Kf{kd:Int}{s:By}{r:List Tok}(h:¬((hd r).kind=kd/\(hd r).text=s)):acc kd s r=none:=if_neg h
def JgS{p:Nat}{A:Option Addr}{C:Nat}{T:List Tok}{k:Nat}{kd:Int}{s:By}{w:World}{e:Ending}{w':World}(h:QeE p A C T k kd s w e w'):PRp p A C T w (λ_=>.tuple #[]) (Qar kd s (T.drop k)) e w':=by
 unfold Qar
 rcases h with⟨h1,h2,h3,h4,h5⟩|⟨h1,h2⟩
 ·rw[JN h1 h2];exact⟨h3,⟨k+1,rfl,h4⟩,h5⟩
 ·rw[Kf h1];exact h2
section
variable (p:Nat)(A:Option Addr)(C:Nat)(T:List Tok)(k:Nat)(s:By)(w:World)(h:PAt w p A C T k)
include p A C T k s w h
theorem Jjt:Calls prog 134 #[Pt p,Sv s] w (QeE p A C T k 3 s w):=by
 have ca:=Jt p A C T k 3 s w h zp;have cw:=λW hW=>KO p A C T k W hW
 have HP:=Zh h
 have HR:Hi (∀e w',QeE p A C T k 3 s w e w'=(((hd (T.drop k)).kind=3/\(hd (T.drop k)).text=s/\e=.returned (.tuple #[])/\PAt w' p A C T (k+1)/\Chg [p] w w')\/
 (¬((hd (T.drop k)).kind=3/\(hd (T.drop k)).text=s)/\QgN p w (hd (T.drop k)).off e w'))):=λ_ _=>rfl
 generalize QeE p A C T k 3 s w=R at *;clear h;go_enter func134,ntmps134;go_wp2_with fail;refine ca.mono ?_;rintro e w1 h1
 rcases h1 with⟨g1,g2,rfl,hp1,hc1⟩|⟨g1,rfl,hb1⟩
 ·have HF:Hi (((hd (T.drop k)).kind=3/\(hd (T.drop k)).text=s)/\PAt w1 p A C T (k+1)/\Chg [p] w w1):=⟨⟨g1,g2⟩,hp1,hc1⟩
  exact Qhe
 ·have HF:Hi (¬((hd (T.drop k)).kind=3/\(hd (T.drop k)).text=s)/\Below w.heap.size w w1):=⟨g1,hb1⟩
  exact Qjz
theorem Qfn:Calls prog 89 #[Pt p,Sv s] w (PRp p A C T w (λ_=>.tuple #[]) (Qar 0 s (T.drop k))):=(Jjs p A C T k s w h).mono λ_ _=>JgS
theorem Qdv:Calls prog 134 #[Pt p,Sv s] w (PRp p A C T w (λ_=>.tuple #[]) (Qar 3 s (T.drop k))):=(Jjt p A C T k s w h).mono λ_ _=>JgS
end
def PAt.setFar{W:World}{p q:Nat}{A:Option Addr}{C:Nat}{T:List Tok}{k:Nat}(h:PAt W p A C T k)(h1:q≠p)(h2:∀b o,A=some ⟨b,o,none⟩->q≠b)(j:Nat)(u:Value):PAt (W.setCell ⟨q,j,none⟩ u) p A C T k:=by
 obtain⟨b,o,e,xA,ht⟩:=h.toks;refine⟨Ji h.self (Ne.symm h1) u,⟨b,o,e,xA,λi t hi j' u' hu=>?_⟩,h.lt,h.fin,h.room⟩;exact(World.cell?_setCell_far W ⟨q,j,none⟩ _ u (by simp;exact λe'=>h2 b o e e')).trans (ht i t hi j' u' hu)
def PAt.tokLt{W:World}{p:Nat}{A:Option Addr}{C:Nat}{T:List Tok}{k:Nat}(h:PAt W p A C T k):∀b o,A=some ⟨b,o,none⟩->b<W.heap.size:=by
 intro b o e;obtain⟨b',o',e',_,t0,_⟩:=h.cells;rw[e]at e';simp only[Option.some.injEq,Addr.mk.injEq]at e';obtain⟨rfl,rfl,_⟩:=e';obtain⟨b2,o2,e2,xA,ht⟩:=h.toks;rw[e]at e2;simp only[Option.some.injEq,Addr.mk.injEq]at e2;obtain⟨rfl,rfl,_⟩:=e2;exact World.block_lt_of_cell? W _ (ht k _ (Jbr h.lt) 0 _ rfl)
def Jbs{W:World}{p q i j:Nat}{u v:Value}(h:q≠p)(hc:W.cell? ⟨q,j,none⟩=some v):(W.setCell ⟨p,i,none⟩ u).cell? ⟨q,j,none⟩=some v:=(World.cell?_setCell_far W ⟨p,i,none⟩ ⟨q,j,none⟩ u (Ne.symm h)).trans hc
def Qjl{w:World}{T t:Nat}{a0 a1:Value}(v0 v1:Value)(h:w.heap[T]?=some (.cells #[a0,a1] t (0,0))) :
  ((w.setCell ⟨T,0,none⟩ v0).setCell ⟨T,1,none⟩ v1).heap[T]?=some (.cells #[v0,v1] t (0,0)):=heap_setCell_same _ _ 1 _ _ v1 (heap_setCell_same _ _ 0 _ _ v0 h)
def Qfv:(prog.info? 144).map (·.size)=some 2:=zk
theorem QiM{P:Prop}(h:P:=by
  go_wp2_with fail;refine(cw _ HP1.o).mono ?_;rintro e w2 ⟨rfl,hb2⟩;go_wp2;refine⟨rfl,?_⟩;rw[HR.o,if_neg HT.o]
  exact⟨rfl,Chg.of_below (HA.o.trans (hb2.mono HA.o.size)) [p]⟩):P:=h
def Jcb(p:Nat)(A:Option Addr)(C:Nat)(T:List Tok)(k:Nat)(w:World)(h:PAt w p A C T k):Calls prog 91 #[Pt p] w (PRp p A C T w (λs=>Sv s) (Qct (T.drop k))):=by
 have cp:=Kp p A C T k w h;have cw:=λW hW=>KO p A C T k W hW
 unfold Qfh at cp;have HP:=Zh h;have hm:Hi ((hd (T.drop k)).kind=2->k+1<T.length):=λe=>h.more (by rw[e];decide)
 have HR:Hi (∀e w',PRp p A C T w (λs=>Sv s) (Qct (T.drop k)) e w'=PRp p A C T w (λs=>Sv s) (if (hd (T.drop k)).kind=2 then .ok (hd (T.drop k)).text (T.drop (k+1)) else .bad (hd (T.drop k)).off) e w'):=λe w'=>by unfold Qct;rw[tail_drop]
 generalize PRp p A C T w (λs=>Sv s) (Qct (T.drop k))=R at *;generalize hd (T.drop k)=t at *;obtain⟨tk,tx,tn,tf⟩:=t;unfold Qda at cp;simp only at cp cw;clear h;go_enter func91,ntmps91;go_wp2_with fail;refine cp.mono ?_;rintro e w1 ⟨rfl,hbx⟩;have hA:=hbx.alloc hbx.size (.cells #[Iv tk,Sv tx,Iv tn,Iv tf] 134);have xA:=HP.o.chg hA;have hN:=zQ w1 (.cells #[Iv tk,Sv tx,Iv tn,Iv tf] 134);have hk:k<=1000000:=by have:=xA.lt;have:=xA.room;omega
 have wk:=zI k;have pc:=Ja xA.self 1;have pf:=Jc xA.self 1;have c0:(w1.alloc (.cells #[Iv tk,Sv tx,Iv tn,Iv tf] 134)).cell? ⟨w1.heap.size,0,none⟩=some (Iv tk):=by rw[Ja hN];rfl
 have c1:(w1.alloc (.cells #[Iv tk,Sv tx,Iv tn,Iv tf] 134)).cell? ⟨w1.heap.size,1,none⟩=some (Sv tx):=by rw[Ja hN];rfl
 have c3:(w1.alloc (.cells #[Iv tk,Sv tx,Iv tn,Iv tf] 134)).cell? ⟨w1.heap.size,3,none⟩=some (Iv tf):=by rw[Ja hN];rfl
 simp only[zW]at pc;have yA:p≠w1.heap.size:=by have:=Jb HP.o.self;have:=hbx.size;omega
 have HA:=Zh hA;have HP1:=Zh xA;have HN:=Zh hN;clear hA xA hN hbx cp hk
 by_cases hkd:tk=2
 ·have d1:(tk==2)=true:=zN hkd;have HF:Hi (PAt ((w1.alloc (.cells #[Iv tk,Sv tx,Iv tn,Iv tf] 134)).setCell ⟨p,1,none⟩ (Iv ((k+1:Nat):Int))) p A C T (k+1)):=HP1.o.next (hm.o hkd);have zA:((w1.alloc (.cells #[Iv tk,Sv tx,Iv tn,Iv tf] 134)).setCell ⟨p,1,none⟩ (Iv ((k:Int)+1))).cell? ⟨w1.heap.size,1,none⟩=some (Sv tx):=Jbs (Ne.symm yA) c1;have HT:=Zh hkd;clear hkd;go_wp2;rw[HR.o,if_pos HT.o];exact⟨rfl,⟨k+1,rfl,HF.o⟩,(Chg.of_below HA.o [p]).setCell (.inl zq) _⟩
 ·have d1:(tk==2)=false:=zM hkd;have HT:=Zh hkd;clear hkd;exact QiM
def Qgh(nm:By × Int):Value:=.agg #[.string (bs nm.1),Iv nm.2]
def VO(p:Nat)(A:Option Addr)(C:Nat)(T:List Tok)(k:Nat)(w:World)(h:PAt w p A C T k)(hx:∀t∈T,t.text.length<=1000000):Calls prog 133 #[Pt p] w (PRp p A C T w Qgh (Qbb (T.drop k))):=by
 have hZ:=zQ w (.cells #[Em,Iv 0] 144);have hB:=(Below.refl w.heap.size w).alloc (Nat.le_refl _) (.cells #[Em,Iv 0] 144);have cp:=Kp p A C T k _ (h.chg hB);have cw:=λW hW=>KO p A C T k W hW
 have zA:(hd (T.drop k)).text.length<=1000000:=hx _ (List.mem_of_getElem? (Jbr h.lt));have ci:=λW=>Jca (hd (T.drop k)).text W zA
 unfold Qfh at cp;have HP:=Zh (h.chg hB);have cA:=Jb h.self;have uA:=Zh h.tokLt;have hm:Hi ((hd (T.drop k)).kind=0->k+1<T.length):=λe=>h.more (by rw[e];decide)
 have HR:Hi (∀e w',PRp p A C T w Qgh (Qbb (T.drop k)) e w'=PRp p A C T w Qgh (if (hd (T.drop k)).kind=0/\Qbr (hd (T.drop k)).text=true then .ok ((hd (T.drop k)).text,(hd (T.drop k)).off) (T.drop (k+1)) else .bad (hd (T.drop k)).off) e w'):=λe w'=>by unfold Qbb;rw[tail_drop]
 generalize PRp p A C T w Qgh (Qbb (T.drop k))=R at *;generalize hd (T.drop k)=t at *;obtain⟨tk,tx,tn,tf⟩:=t;unfold Qda at cp;simp only at cp cw ci;obtain⟨q,hq⟩:∃q,Qbr tx=q:=⟨_,rfl⟩
 rw[hq]at ci;have vA:=Zh hZ;have HB0:=Zh hB;have HQ:=Zh hq;clear h hZ hB hx zA hq;go_enter func133,ntmps133;go_wp2_with fail;refine cp.mono ?_;rintro e w1 ⟨rfl,hbx⟩;have hsz:=hbx.size;rw[World.size_alloc]at hsz;have hA:=hbx.alloc hbx.size (.cells #[Iv tk,Sv tx,Iv tn,Iv tf] 134);have xA:=HP.o.chg hA;have hN:=zQ w1 (.cells #[Iv tk,Sv tx,Iv tn,Iv tf] 134);have hk:k<=1000000:=by have:=xA.lt;have:=xA.room;omega
 have wk:=zI k;have pc:=Ja xA.self 1;have pf:=Jc xA.self 1;have c0:(w1.alloc (.cells #[Iv tk,Sv tx,Iv tn,Iv tf] 134)).cell? ⟨w1.heap.size,0,none⟩=some (Iv tk):=by rw[Ja hN];rfl
 have c1:(w1.alloc (.cells #[Iv tk,Sv tx,Iv tn,Iv tf] 134)).cell? ⟨w1.heap.size,1,none⟩=some (Sv tx):=by rw[Ja hN];rfl
 have c3:(w1.alloc (.cells #[Iv tk,Sv tx,Iv tn,Iv tf] 134)).cell? ⟨w1.heap.size,3,none⟩=some (Iv tf):=by rw[Ja hN];rfl
 simp only[zW]at pc;have aA:p≠w1.heap.size:=zo;have hpz:p≠w.heap.size:=zo
 have bA:Hi ((w1.alloc (.cells #[Iv tk,Sv tx,Iv tn,Iv tf] 134)).heap[w.heap.size]?=some (.cells #[Em,Iv 0] 144)):=by
  have h1:w1.heap[w.heap.size]?=some (.cells #[Em,Iv 0] 144):=(hbx.block _ (Jb vA.o)).trans vA.o;exact(Below.heap_alloc _ _ _ (Jb h1)).trans h1
 have HA:=Zh (HB0.o.trans (hA.mono HB0.o.size));have HP1:=Zh xA;clear hA xA hN hbx cp hk cA hsz
 by_cases hkd:tk=0
 ·subst hkd
  cases q with
  |true=>
   have HF:Hi (PAt ((w1.alloc (.cells #[Iv 0,Sv tx,Iv tn,Iv tf] 134)).setCell ⟨p,1,none⟩ (Iv ((k+1:Nat):Int))) p A C T (k+1)):=HP1.o.next (hm.o rfl);have eA:((w1.alloc (.cells #[Iv 0,Sv tx,Iv tn,Iv tf] 134)).setCell ⟨p,1,none⟩ (Iv ((k:Int)+1))).cell? ⟨w1.heap.size,1,none⟩=some (Sv tx):=Jbs (Ne.symm aA) c1;have gA:((w1.alloc (.cells #[Iv 0,Sv tx,Iv tn,Iv tf] 134)).setCell ⟨p,1,none⟩ (Iv ((k:Int)+1))).cell? ⟨w1.heap.size,3,none⟩=some (Iv tf):=Jbs (Ne.symm aA) c3;have yA:((w1.alloc (.cells #[Iv 0,Sv tx,Iv tn,Iv tf] 134)).setCell ⟨p,1,none⟩ (Iv ((k:Int)+1))).heap[w.heap.size]?=some (.cells #[Em,Iv 0] 144):=Ji bA.o (Ne.symm hpz) _;have z0:((w1.alloc (.cells #[Iv 0,Sv tx,Iv tn,Iv tf] 134)).setCell ⟨p,1,none⟩ (Iv ((k:Int)+1))).cell? ⟨w.heap.size,0,none⟩=some Em:=by rw[Ja yA];rfl
   have z1:((w1.alloc (.cells #[Iv 0,Sv tx,Iv tn,Iv tf] 134)).setCell ⟨p,1,none⟩ (Iv ((k:Int)+1))).cell? ⟨w.heap.size,1,none⟩=some (Iv 0):=by rw[Ja yA];rfl
   have y0:=Jc yA 0;have y1:=Jc yA 1;have dA:=Zh yA;have HT:Hi ((0:Int)=0/\Qbr tx=true):=⟨rfl,HQ.o⟩
   clear yA HQ cw;go_wp2_with fail;refine(ci _).mono ?_;rintro e w2 ⟨rfl,rfl⟩;go_wp2;refine bodyPost_ret (v:=.agg #[Sv tx,Iv tf]) (results_cell_row rfl _ _ w.heap.size 144 #[Sv tx,Iv tf] (0,0) _ rfl (Qjl _ _ dA.o) underlying144 rfl Qfv) rfl ?_;rw[HR.o,if_pos HT.o];refine⟨rfl,⟨k+1,rfl,(HF.o.setFar (Ne.symm hpz) (λb o e=>by have:=uA.o b o e;omega) 0 _).setFar (Ne.symm hpz) (λb o e=>by have:=uA.o b o e;omega) 1 _⟩,?_⟩;exact(((Chg.of_below HA.o [p]).setCell (.inl zq) _).setCell (.inr (Nat.le_refl _)) _).setCell (.inr (Nat.le_refl _)) _
  |false=>
   have HT:Hi (¬((0:Int)=0/\Qbr tx=true)):=λh=>by have:=HQ.o;rw[h.2]at this;cases this
   clear HQ;go_wp2_with fail;refine(ci _).mono ?_;rintro e w2 ⟨rfl,rfl⟩;exact QiM
 ·have d1:(tk==0)=false:=zM hkd;have HT:Hi (¬(tk=0/\Qbr tx=true)):=λh=>hkd h.1
  have d2:(tk !=0)=true:=bne_iff_ne.2 hkd;clear ci;exact QiM
end Go.Proofs.YtfafpklefknomaaGreatDoor
