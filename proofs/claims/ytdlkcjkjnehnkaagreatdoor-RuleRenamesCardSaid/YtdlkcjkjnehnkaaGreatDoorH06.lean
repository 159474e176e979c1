import Derived.Test.YtdlkcjkjnehnkaaGreatDoorH05
open List(mem_cons)
namespace Go.Proofs.YtdlkcjkjnehnkaaGreatDoor
open Go.ChangeShapes Go.WideShapes Go.ChangeAt Go.RowKit Go.Lib
open _root_.Go.Proofs.Tryz
set_option linter.all false
set_option maxRecDepth 100000
set_option maxHeartbeats 32000000
theorem Qhk{P:Prop}(h:P:=by
  go_enter func52,ntmps52;go_wp2;go_ret2
  exact⟨rfl,rfl⟩):P:=h
theorem Yy(s:List UInt8)(w:World):Calls prog 52 #[.string (bs s)] w (Qcm (.tuple #[.int .i64 ((QaD s).getD 0),.bool (QaD s).isSome]) w):=by
 have u1:=Jl s
 by_cases h0:s=[108,105,107,101,115]
 ·have e0:(s==[108,105,107,101,115])=true:=beq_iff_eq.2 h0;have HR:QaD s=some 0:=by rw[h0];decide
  rw[HR];clear HR h0;exact Qhk
 have e0:(s==[108,105,107,101,115])=false:=zzq h0
 by_cases h1:s=[98,111,111,115,116,115]
 ·have e1:(s==[98,111,111,115,116,115])=true:=beq_iff_eq.2 h1;have HR:QaD s=some 0:=by rw[h1];decide
  rw[HR];clear HR h0 h1;exact Qhk
 have e1:(s==[98,111,111,115,116,115])=false:=zzq h1
 by_cases h2:s=[114,101,112,108,105,101,115]
 ·have e2:(s==[114,101,112,108,105,101,115])=true:=beq_iff_eq.2 h2;have HR:QaD s=some 0:=by rw[h2];decide
  rw[HR];clear HR h0 h1 h2;exact Qhk
 have e2:(s==[114,101,112,108,105,101,115])=false:=zzq h2
 by_cases h3:s=[114,101,112,111,114,116,115]
 ·have e3:(s==[114,101,112,111,114,116,115])=true:=beq_iff_eq.2 h3;have HR:QaD s=some 0:=by rw[h3];decide
  rw[HR];clear HR h0 h1 h2 h3;exact Qhk
 have e3:(s==[114,101,112,111,114,116,115])=false:=zzq h3
 by_cases h4:s=[97,103,101]
 ·have e4:(s==[97,103,101])=true:=beq_iff_eq.2 h4;have HR:QaD s=some 0:=by rw[h4];decide
  rw[HR];clear HR h0 h1 h2 h3 h4;exact Qhk
 have e4:(s==[97,103,101])=false:=zzq h4
 by_cases h5:s=[104,111,109,101]
 ·have e5:(s==[104,111,109,101])=true:=beq_iff_eq.2 h5;have HR:QaD s=some 0:=by rw[h5];decide
  rw[HR];clear HR h0 h1 h2 h3 h4 h5;exact Qhk
 have e5:(s==[104,111,109,101])=false:=zzq h5
 by_cases h6:s=[115,99,111,112,101]
 ·have e6:(s==[115,99,111,112,101])=true:=beq_iff_eq.2 h6;have HR:QaD s=some 0:=by rw[h6];decide
  rw[HR];clear HR h0 h1 h2 h3 h4 h5 h6;exact Qhk
 have e6:(s==[115,99,111,112,101])=false:=zzq h6
 by_cases h7:s=[108,101,110,103,116,104]
 ·have e7:(s==[108,101,110,103,116,104])=true:=beq_iff_eq.2 h7;have HR:QaD s=some 0:=by rw[h7];decide
  rw[HR];clear HR h0 h1 h2 h3 h4 h5 h6 h7;exact Qhk
 have e7:(s==[108,101,110,103,116,104])=false:=zzq h7
 by_cases h8:s=[102,111,108,108,111,119,115]
 ·have e8:(s==[102,111,108,108,111,119,115])=true:=beq_iff_eq.2 h8;have HR:QaD s=some 1:=by rw[h8];decide
  rw[HR];clear HR h0 h1 h2 h3 h4 h5 h6 h7 h8;exact Qhk
 have e8:(s==[102,111,108,108,111,119,115])=false:=zzq h8
 by_cases h9:s=[114,101,112,108,121]
 ·have e9:(s==[114,101,112,108,121])=true:=beq_iff_eq.2 h9;have HR:QaD s=some 1:=by rw[h9];decide
  rw[HR];clear HR h0 h1 h2 h3 h4 h5 h6 h7 h8 h9;exact Qhk
 have e9:(s==[114,101,112,108,121])=false:=zzq h9
 have HR:QaD s=none:=by
  unfold QaD;rw[if_neg (by simp only[mem_cons,List.not_mem_nil,not_or,or_false,Qhh,Qfs,Qev,Qeu,Qls,Qja,Qhf,Qfr];exact⟨h0,h1,h2,h3,h4,h5,h6,h7⟩),if_neg (by simp only[mem_cons,List.not_mem_nil,not_or,or_false,Qew,Qhg];exact⟨h8,h9⟩)]
 rw[HR];clear HR h0 h1 h2 h3 h4 h5 h6 h7 h8 h9;exact Qhk
theorem Qeb{P:Prop}(h:P:=by
  go_enter func53,ntmps53;go_wp2;go_ret
  exact⟨rfl,rfl⟩):P:=h
theorem QjZ{P:Prop}(h:P:=by
  rw[HR];clear HR h0 h1 h2 h3 h4 h5 h6 h7 h8 h9 h10 h11 h12 h13 h14 h15 h16 h17 h18 h19 h20
  exact Qeb):P:=h
theorem Jcs(s:List UInt8)(w:World):Calls prog 53 #[.string (bs s)] w (Qcm (.bool (Qam s)) w):=by
 have u1:=Jl s
 by_cases h0:s=[97,110,100]
 ·have e0:(s==[97,110,100])=true:=beq_iff_eq.2 h0;have HR:Qam s=true:=by rw[h0];decide
  rw[HR];clear HR h0;exact Qeb
 have e0:(s==[97,110,100])=false:=zzq h0
 by_cases h1:s=[98,111,111,108]
 ·have e1:(s==[98,111,111,108])=true:=beq_iff_eq.2 h1;have HR:Qam s=true:=by rw[h1];decide
  rw[HR];clear HR h0 h1;exact Qeb
 have e1:(s==[98,111,111,108])=false:=zzq h1
 by_cases h2:s=[100,101,102]
 ·have e2:(s==[100,101,102])=true:=beq_iff_eq.2 h2;have HR:Qam s=true:=by rw[h2];decide
  rw[HR];clear HR h0 h1 h2;exact Qeb
 have e2:(s==[100,101,102])=false:=zzq h2
 by_cases h3:s=[100,101,102,97,117,108,116]
 ·have e3:(s==[100,101,102,97,117,108,116])=true:=beq_iff_eq.2 h3;have HR:Qam s=true:=by rw[h3];decide
  rw[HR];clear HR h0 h1 h2 h3;exact Qeb
 have e3:(s==[100,101,102,97,117,108,116])=false:=zzq h3
 by_cases h4:s=[101,108,115,101]
 ·have e4:(s==[101,108,115,101])=true:=beq_iff_eq.2 h4;have HR:Qam s=true:=by rw[h4];decide
  rw[HR];clear HR h0 h1 h2 h3 h4;exact Qeb
 have e4:(s==[101,108,115,101])=false:=zzq h4
 by_cases h5:s=[102,97,108,115,101]
 ·have e5:(s==[102,97,108,115,101])=true:=beq_iff_eq.2 h5;have HR:Qam s=true:=by rw[h5];decide
  rw[HR];clear HR h0 h1 h2 h3 h4 h5;exact Qeb
 have e5:(s==[102,97,108,115,101])=false:=zzq h5
 by_cases h6:s=[104,105,100,101]
 ·have e6:(s==[104,105,100,101])=true:=beq_iff_eq.2 h6;have HR:Qam s=true:=by rw[h6];decide
  rw[HR];clear HR h0 h1 h2 h3 h4 h5 h6;exact Qeb
 have e6:(s==[104,105,100,101])=false:=zzq h6
 by_cases h7:s=[105,102]
 ·have e7:(s==[105,102])=true:=beq_iff_eq.2 h7;have HR:Qam s=true:=by rw[h7];decide
  rw[HR];clear HR h0 h1 h2 h3 h4 h5 h6 h7;exact Qeb
 have e7:(s==[105,102])=false:=zzq h7
 by_cases h8:s=[105,110]
 ·have e8:(s==[105,110])=true:=beq_iff_eq.2 h8;have HR:Qam s=true:=by rw[h8];decide
  rw[HR];clear HR h0 h1 h2 h3 h4 h5 h6 h7 h8;exact Qeb
 have e8:(s==[105,110])=false:=zzq h8
 by_cases h9:s=[105,110,116]
 ·have e9:(s==[105,110,116])=true:=beq_iff_eq.2 h9;have HR:Qam s=true:=by rw[h9];decide
  rw[HR];clear HR h0 h1 h2 h3 h4 h5 h6 h7 h8 h9;exact Qeb
 have e9:(s==[105,110,116])=false:=zzq h9
 by_cases h10:s=[108,97,98,101,108]
 ·have e10:(s==[108,97,98,101,108])=true:=beq_iff_eq.2 h10;have HR:Qam s=true:=by rw[h10];decide
  rw[HR];clear HR h0 h1 h2 h3 h4 h5 h6 h7 h8 h9 h10;exact Qeb
 have e10:(s==[108,97,98,101,108])=false:=zzq h10
 by_cases h11:s=[108,101,116]
 ·have e11:(s==[108,101,116])=true:=beq_iff_eq.2 h11;have HR:Qam s=true:=by rw[h11];decide
  rw[HR];clear HR h0 h1 h2 h3 h4 h5 h6 h7 h8 h9 h10 h11;exact Qeb
 have e11:(s==[108,101,116])=false:=zzq h11
 by_cases h12:s=[108,105,109,105,116]
 ·have e12:(s==[108,105,109,105,116])=true:=beq_iff_eq.2 h12;have HR:Qam s=true:=by rw[h12];decide
  rw[HR];clear HR h0 h1 h2 h3 h4 h5 h6 h7 h8 h9 h10 h11 h12;exact Qeb
 have e12:(s==[108,105,109,105,116])=false:=zzq h12
 by_cases h13:s=[109,101,100,105,97]
 ·have e13:(s==[109,101,100,105,97])=true:=beq_iff_eq.2 h13;have HR:Qam s=true:=by rw[h13];decide
  rw[HR];clear HR h0 h1 h2 h3 h4 h5 h6 h7 h8 h9 h10 h11 h12 h13;exact Qeb
 have e13:(s==[109,101,100,105,97])=false:=zzq h13
 by_cases h14:s=[110,111,116]
 ·have e14:(s==[110,111,116])=true:=beq_iff_eq.2 h14;have HR:Qam s=true:=by rw[h14];decide
  rw[HR];clear HR h0 h1 h2 h3 h4 h5 h6 h7 h8 h9 h10 h11 h12 h13 h14;exact Qeb
 have e14:(s==[110,111,116])=false:=zzq h14
 by_cases h15:s=[111,114]
 ·have e15:(s==[111,114])=true:=beq_iff_eq.2 h15;have HR:Qam s=true:=by rw[h15];decide
  rw[HR];clear HR h0 h1 h2 h3 h4 h5 h6 h7 h8 h9 h10 h11 h12 h13 h14 h15;exact Qeb
 have e15:(s==[111,114])=false:=zzq h15
 by_cases h16:s=[115,104,111,119]
 ·have e16:(s==[115,104,111,119])=true:=beq_iff_eq.2 h16;have HR:Qam s=true:=by rw[h16];decide
  rw[HR];clear HR h0 h1 h2 h3 h4 h5 h6 h7 h8 h9 h10 h11 h12 h13 h14 h15 h16;exact Qeb
 have e16:(s==[115,104,111,119])=false:=zzq h16
 by_cases h17:s=[116,104,101,110]
 ·have e17:(s==[116,104,101,110])=true:=beq_iff_eq.2 h17;have HR:Qam s=true:=by rw[h17];decide
  rw[HR];clear HR h0 h1 h2 h3 h4 h5 h6 h7 h8 h9 h10 h11 h12 h13 h14 h15 h16 h17;exact Qeb
 have e17:(s==[116,104,101,110])=false:=zzq h17
 by_cases h18:s=[116,114,117,101]
 ·have e18:(s==[116,114,117,101])=true:=beq_iff_eq.2 h18;have HR:Qam s=true:=by rw[h18];decide
  rw[HR];clear HR h0 h1 h2 h3 h4 h5 h6 h7 h8 h9 h10 h11 h12 h13 h14 h15 h16 h17 h18;exact Qeb
 have e18:(s==[116,114,117,101])=false:=zzq h18
 by_cases h19:s=[119,104,101,110]
 ·have e19:(s==[119,104,101,110])=true:=beq_iff_eq.2 h19;have HR:Qam s=true:=by rw[h19];decide
  rw[HR];clear HR h0 h1 h2 h3 h4 h5 h6 h7 h8 h9 h10 h11 h12 h13 h14 h15 h16 h17 h18 h19;exact Qeb
 have e19:(s==[119,104,101,110])=false:=zzq h19
 by_cases h20:s=[119,111,114,100]
 ·have e20:(s==[119,111,114,100])=true:=beq_iff_eq.2 h20;have HR:Qam s=true:=by rw[h20];decide
  exact QjZ
 have e20:(s==[119,111,114,100])=false:=zzq h20;have HR:Qam s=false:=by unfold Qam;exact decide_eq_false (by simp only[mem_cons,List.not_mem_nil,not_or,or_false,QgU,Qdk,QdX,Qaj,QdP,QbA,Qdj,kIf,kIn,Qgg,QbW,QeN,Qcg,QbV,Qfn,kOr,Qcx,QbJ,Qcf,QaR,QcX];exact⟨h0,h1,h2,h3,h4,h5,h6,h7,h8,h9,h10,h11,h12,h13,h14,h15,h16,h17,h18,h19,h20⟩)
 exact QjZ
theorem JjV(m:Nat)(c:UInt8)(hc:c.toNat=m):QbB c=true↔(97<=m/\m<=122)\/(48<=m/\m<=57)\/m=95:=by
 subst hc;unfold QbB Qci Qdy;simp only[Bool.or_eq_true,Bool.and_eq_true,decide_eq_true_eq,beq_iff_eq]
 constructor
 ·rintro ((h|h)|h)
  ·exact .inl h
  ·exact .inr (.inl h)
  ·subst h;exact .inr (.inr rfl)
 ·rintro (h|h|h)
  ·exact .inl (.inl h)
  ·exact .inl (.inr h)
  ·exact .inr (UInt8.toNat_inj.1 h)
theorem Jel(c:UInt8)(r:List UInt8):Qar (c::r)=(decide ((c::r).length<=24)&&Qci c&&(c::r).all QbB&&(QaD (c::r)).isNone&&!Qam (c::r)):=rfl
theorem Jdx{p:UInt8->Bool}{s:List UInt8}{k:Nat}{c:UInt8}(h:(s.take k).all p=true)(hc:s[k]?=some c)(hp:p c=true):(s.take (k+1)).all p=true:=by
 rw[List.take_add_one,hc,List.all_append,h];simp[hp]
theorem Jfy{p:UInt8->Bool}{s:List UInt8}{k:Nat}{c:UInt8}(hc:s[k]?=some c)(hp:p c=false):s.all p=false:=by
 cases h:s.all p with
 |false=>rfl
 |true=>
  have:=List.all_eq_true.1 h c (List.mem_of_getElem? hc);rw[hp]at this
  cases this
theorem Jct(m:Nat)(c:UInt8)(hc:c.toNat=m):Qci c=true↔97<=m/\m<=122:=by
 subst hc;unfold Qci;simp
theorem QkR{P:Prop}(h:P:=by
  go_wp2;go_round
  case rel=>exact⟨k+1,by go_num,hkn,HK2⟩
  case measure=>simp[intOf];omega):P:=h
theorem QjU{P:Prop}(h:P:=by
  go_enter func23,ntmps23;go_wp2;go_ret
  exact⟨rfl,rfl⟩):P:=h
theorem Jba(s:List UInt8)(w:World)(hs:s.length<=1000000):Calls prog 23 #[.string (bs s)] w (Qcm (.bool (Qar s)) w):=by
 have u1:=Jl s;have z1:=JF s;have cf:=fun W=>Yy s W
 have ck:=fun W=>Jcs s W
 cases s with
 |nil=>
  have e0:(([]:List UInt8)==[])=true:=rfl;exact QjU
 |cons c0 r0=>
 have hI:=Jel c0 r0;have h00:(c0::r0)[0]?=some c0:=rfl;have e0:((c0::r0)==[])=false:=rfl;have e0':(c0::r0).isEmpty=false:=rfl;have hn00:0<(c0::r0).length:=by simp
 generalize c0::r0=s at *;obtain⟨m0,hm0⟩:∃ m,c0.toNat=m:=⟨_,rfl⟩
 have hg0:∀ h,((bs s)[0]'h).toNat=m0:=fun h=>by
  obtain⟨_,h2⟩:=List.getElem?_eq_some_iff.1 h00;rw[<- hm0,<- h2];rfl
 obtain⟨n,hn⟩:∃ n,s.length=n:=⟨_,rfl⟩
 obtain⟨q,hq⟩:∃ q,Qar s=q:=⟨_,rfl⟩
 have hn0:0<n:=by rw[<- hn];exact hn00
 have hm256:m0<256:=by rw[<- hm0];exact c0.toNat_lt
 rw[hq]at hI |-;rw[hn]at hI z1 hs;clear hq hn00
 by_cases h24:n<=24
 ·have d1:decide (24<(n:Int))=false:=decide_eq_false (by omega);have d1N:decide (24<n)=false:=decide_eq_false (by omega)
  by_cases hlo:97<=m0
  ·have d2:decide ((m0:Int)<97)=false:=decide_eq_false (by omega);have d2N:decide (m0<97)=false:=decide_eq_false (by omega)
   by_cases hhi:m0<=122
   ·have d3:decide (122<(m0:Int))=false:=decide_eq_false (by omega);have d3N:decide (122<m0)=false:=decide_eq_false (by omega);have hle:Qci c0=true:=(Jct m0 c0 hm0).2 ⟨hlo,hhi⟩;rw[hle,decide_eq_true h24]at hI;simp only[Bool.true_and]at hI;have HI:=Zh hI;have HN:=Zh hn;have H24:=Zh h24;clear hI hle hlo hhi hm0 h00 hs;go_enter func23,ntmps23;go_wp2;go_loop [26] (fun v=>∃ k:Nat,v=.int .i64 k/\k<=n/\Hid ((s.take k).all QbB=true)) (fun v=>n-(intOf v).toNat)
    case atStart=>exact⟨0,rfl,Nat.zero_le _,by unfold Hid;rfl⟩
    case round=>
     obtain⟨k,rfl,hk,hz⟩:=hrel;have wk:IntKind.i64.wrap ((k:Int)+1)=(k:Int)+1:=IntWalk.i64_in _ (by have:=H24.out;omega)
     by_cases hkn:k<n
     ·have dk:decide ((k:Int)<(n:Int))=true:=decide_eq_true (by omega);have dkN:decide (k<n)=true:=decide_eq_true hkn;have bk:(k:Int)<(n:Int):=by omega
      obtain⟨c,hc⟩:∃ c,s[k]?=some c:=⟨_,List.getElem?_eq_getElem (by have:=HN.out;omega)⟩
      obtain⟨m,hm⟩:∃ m,c.toNat=m:=⟨_,rfl⟩
      have hm256':m<256:=by rw[<- hm];exact c.toNat_lt
      have hg:∀ h,((bs s)[k]'h).toNat=m:=fun h=>by
       obtain⟨_,h2⟩:=List.getElem?_eq_some_iff.1 hc;rw[<- hm,<- h2];rfl
      have hw:=JjV m c hm
      by_cases hwo:(97<=m/\m<=122)\/(48<=m/\m<=57)\/m=95
      ·have HK2:=Zh (Jdx hz.out hc (hw.2 hwo));clear hz hc hm hw
       rcases hwo with⟨g1,g2⟩|⟨g1,g2⟩|g1
       ·have a1:decide ((m:Int)<97)=false:=decide_eq_false (by omega);have a1N:decide (m<97)=false:=decide_eq_false (by omega);have a2:decide (122<(m:Int))=false:=decide_eq_false (by omega);have a2N:decide (122<m)=false:=decide_eq_false (by omega);clear g1 g2;exact QkR
       ·have a1:decide ((m:Int)<97)=true:=decide_eq_true (by omega);have a1N:decide (m<97)=true:=decide_eq_true (by omega);have b1:decide ((m:Int)<48)=false:=decide_eq_false (by omega);have b1N:decide (m<48)=false:=decide_eq_false (by omega);have b2:decide (57<(m:Int))=false:=decide_eq_false (by omega);have b2N:decide (57<m)=false:=decide_eq_false (by omega);clear g1 g2;exact QkR
       ·have a1:decide ((m:Int)<97)=true:=decide_eq_true (by omega);have a1N:decide (m<97)=true:=decide_eq_true (by omega);have b1:decide ((m:Int)<48)=false:=decide_eq_false (by omega);have b1N:decide (m<48)=false:=decide_eq_false (by omega);have b2:decide (57<(m:Int))=true:=decide_eq_true (by omega);have b2N:decide (57<m)=true:=decide_eq_true (by omega);have e1:((m:Int)==95)=true:=beq_iff_eq.2 (by omega);have e1N:(m==95)=true:=beq_iff_eq.2 (by omega);clear g1;exact QkR
      ·have hb:QbB c=false:=by cases h:QbB c with|false=>rfl|true=>exact absurd (hw.1 h) hwo
       have hqf:q=false:=by rw[HI.out,Jfy hc hb];rfl
       subst hqf;clear hz hc hm hw hb HI cf ck
       by_cases l1:m<48
       ·have a1:decide ((m:Int)<97)=true:=decide_eq_true (by omega);have a1N:decide (m<97)=true:=decide_eq_true (by omega);have b1:decide ((m:Int)<48)=true:=decide_eq_true (by omega);have b1N:decide (m<48)=true:=decide_eq_true (by omega);have e1:((m:Int)==95)=false:=zzq (by omega);have e1N:(m==95)=false:=zzq (by omega);clear l1;clear hwo;go_wp2;go_ret;exact⟨rfl,rfl⟩
       by_cases l2:m<97
       ·have l95:m≠95:=fun h=>hwo (.inr (.inr h))
        have l57:57<m:=by have:=fun h=>hwo (.inr (.inl h));omega
        have a1:decide ((m:Int)<97)=true:=decide_eq_true (by omega);have a1N:decide (m<97)=true:=decide_eq_true (by omega);have b1:decide ((m:Int)<48)=false:=decide_eq_false (by omega);have b1N:decide (m<48)=false:=decide_eq_false (by omega);have b2:decide (57<(m:Int))=true:=decide_eq_true (by omega);have b2N:decide (57<m)=true:=decide_eq_true (by omega);have e1:((m:Int)==95)=false:=zzq (by omega);have e1N:(m==95)=false:=zzq (by omega);clear l1 l2 l95 l57;clear hwo;go_wp2;go_ret;exact⟨rfl,rfl⟩
       have l122:122<m:=by have:=fun h=>hwo (.inl h);omega
       have a1:decide ((m:Int)<97)=false:=decide_eq_false (by omega);have a1N:decide (m<97)=false:=decide_eq_false (by omega);have a2:decide (122<(m:Int))=true:=decide_eq_true (by omega);have a2N:decide (122<m)=true:=decide_eq_true (by omega);have b1:decide ((m:Int)<48)=false:=decide_eq_false (by omega);have b1N:decide (m<48)=false:=decide_eq_false (by omega);have b2:decide (57<(m:Int))=true:=decide_eq_true (by omega);have b2N:decide (57<m)=true:=decide_eq_true (by omega);have e1:((m:Int)==95)=false:=zzq (by omega);have e1N:(m==95)=false:=zzq (by omega);clear l1 l2 l122;clear hwo;go_wp2;go_ret;exact⟨rfl,rfl⟩
     ·have dk:decide ((k:Int)<(n:Int))=false:=decide_eq_false (by omega);have dkN:decide (k<n)=false:=decide_eq_false hkn
      have hall:s.all QbB=true:=by
       have:=hz.out
       rwa [List.take_of_length_le (by have:=HN.out;omega)]at this
      have hI2:=HI.out;rw[hall]at hI2;simp only[Bool.true_and]at hI2
      cases hf:QaD s with
      |some v=>
       rw[hf]at cf hI2;have hqf:q=false:=hI2;subst hqf;clear hz hall hI2 HI hf ck;simp only[Option.getD,Option.isSome]at cf;go_wp2_with fail;refine(cf _).mono ?_;rintro e w1 ⟨rfl,rfl⟩;go_wp2;go_ret;exact⟨rfl,rfl⟩
      |none=>
       rw[hf]at cf hI2;simp only[Option.getD,Option.isSome]at cf;obtain⟨kb,hkb⟩:∃ kb,Qam s=kb:=⟨_,rfl⟩
       rw[hkb]at ck hI2;have hqf:q=!kb:=hI2;subst hqf;clear hz hall hI2 HI hf hkb;go_wp2_with fail;refine(cf _).mono ?_;rintro e w1 ⟨rfl,rfl⟩;go_wp2_with fail;refine(ck _).mono ?_;rintro e w1 ⟨rfl,rfl⟩;go_wp2;go_ret;exact⟨rfl,rfl⟩
   ·have d3:decide (122<(m0:Int))=true:=decide_eq_true (by omega);have d3N:decide (122<m0)=true:=decide_eq_true (by omega);have hle:Qci c0=false:=by cases h:Qci c0 with|false=>rfl|true=>exact absurd ((Jct m0 c0 hm0).1 h).2 hhi
    have hqf:q=false:=by rw[hI,hle];simp
    subst hqf;clear hI hle cf ck hlo hhi h00;exact QjU
  ·have d2:decide ((m0:Int)<97)=true:=decide_eq_true (by omega);have d2N:decide (m0<97)=true:=decide_eq_true (by omega);have hle:Qci c0=false:=by cases h:Qci c0 with|false=>rfl|true=>exact absurd ((Jct m0 c0 hm0).1 h).1 hlo
   have hqf:q=false:=by rw[hI,hle];simp
   subst hqf;clear hI hle cf ck hlo h00;exact QjU
 ·have d1:decide (24<(n:Int))=true:=decide_eq_true (by omega);have d1N:decide (24<n)=true:=decide_eq_true (by omega);have hqf:q=false:=by rw[hI,decide_eq_false h24];simp
  subst hqf;clear hI cf ck h24 h00;exact QjU
def OkP(p:Nat)(A:Option Addr)(C:Nat)(T:List Tok)(w:World)(v:Value)(r:List Tok)(e:Ending)(w':World):Prop:=
 e=.returned v/\(∃ k',r=T.drop k'/\PAt w' p A C T k')/\Chg [p] w w'
def PRp{α:Type}(p:Nat)(A:Option Addr)(C:Nat)(T:List Tok)(w:World)(f:α->Value)(x:PR α)(e:Ending)(w':World):Prop:=
 match x with
 |.out=>True
 |.bad o=>Qjp p w o e w'
 |.ok a r=>OkP p A C T w (f a) r e w'
theorem JP{kd:Int}{s:List UInt8}{T:List Tok}{k:Nat}(h1:(hd (T.drop k)).kind=kd)(h2:(hd (T.drop k)).text=s):acc kd s (T.drop k)=some (T.drop (k+1)):=by
 unfold acc;rw[if_pos ⟨h1,h2⟩,tail_drop]
theorem Kf{kd:Int}{s:List UInt8}{r:List Tok}(h:¬ ((hd r).kind=kd/\(hd r).text=s)):acc kd s r=none:=if_neg h
theorem Jfz{p:Nat}{A:Option Addr}{C:Nat}{T:List Tok}{k:Nat}{kd:Int}{s:List UInt8}{w:World}{e:Ending}{w':World}(h:Qfv p A C T k kd s w e w'):PRp p A C T w (fun _=>.tuple #[]) (Qaf kd s (T.drop k)) e w':=by
 unfold Qaf
 rcases h with⟨h1,h2,h3,h4,h5⟩|⟨h1,h2⟩
 ·rw[JP h1 h2];exact⟨h3,⟨k+1,rfl,h4⟩,h5⟩
 ·rw[Kf h1];exact h2
theorem JhH(p:Nat)(A:Option Addr)(C:Nat)(T:List Tok)(k:Nat)(s:List UInt8)(w:World)(h:PAt w p A C T k):Calls prog 95 #[.pointer (some ⟨p,0,none⟩),.string (bs s)] w (Qfv p A C T k 3 s w):=by
 have ca:=Jr p A C T k 3 s w h (by decide);have cw:=fun W hW=>KN p A C T k W hW
 have HP:=Zh h
 have HR:Hid (∀ e w',Qfv p A C T k 3 s w e w'=(((hd (T.drop k)).kind=3/\(hd (T.drop k)).text=s/\e=.returned (.tuple #[])/\PAt w' p A C T (k+1)/\Chg [p] w w')\/
 (¬ ((hd (T.drop k)).kind=3/\(hd (T.drop k)).text=s)/\Qjp p w (hd (T.drop k)).off e w'))):=fun _ _=>rfl
 generalize Qfv p A C T k 3 s w=R at *;clear h;go_enter func95,ntmps95;go_wp2_with fail;refine ca.mono ?_;rintro e w1 h1
 rcases h1 with⟨g1,g2,rfl,hp1,hc1⟩|⟨g1,rfl,hb1⟩
 ·have HF:Hid (((hd (T.drop k)).kind=3/\(hd (T.drop k)).text=s)/\PAt w1 p A C T (k+1)/\Chg [p] w w1):=⟨⟨g1,g2⟩,hp1,hc1⟩
  exact Qkd
 ·have HF:Hid (¬ ((hd (T.drop k)).kind=3/\(hd (T.drop k)).text=s)/\Below w.heap.size w w1):=⟨g1,hb1⟩
  exact Qmr
theorem Qgr(p:Nat)(A:Option Addr)(C:Nat)(T:List Tok)(k:Nat)(s:List UInt8)(w:World)(h:PAt w p A C T k):Calls prog 68 #[.pointer (some ⟨p,0,none⟩),.string (bs s)] w (PRp p A C T w (fun _=>.tuple #[]) (Qaf 0 s (T.drop k))):=(JhG p A C T k s w h).mono fun _ _=>Jfz
theorem QdA(p:Nat)(A:Option Addr)(C:Nat)(T:List Tok)(k:Nat)(s:List UInt8)(w:World)(h:PAt w p A C T k):Calls prog 95 #[.pointer (some ⟨p,0,none⟩),.string (bs s)] w (PRp p A C T w (fun _=>.tuple #[]) (Qaf 3 s (T.drop k))):=(JhH p A C T k s w h).mono fun _ _=>Jfz
theorem PAt.setFar{W:World}{p q:Nat}{A:Option Addr}{C:Nat}{T:List Tok}{k:Nat}(h:PAt W p A C T k)(h1:q≠p)(h2:∀ b o,A=some ⟨b,o,none⟩->q≠b)(j:Nat)(u:Value):PAt (W.setCell ⟨q,j,none⟩ u) p A C T k:=by
 obtain⟨b,o,e,hne,ht⟩:=h.toks;refine⟨Jk h.self (Ne.symm h1) u,⟨b,o,e,hne,fun i t hi j' u' hu=>?_⟩,h.lt,h.fin,h.room⟩;exact(World.cell?_setCell_far W ⟨q,j,none⟩ _ u (by simp;exact fun e'=>h2 b o e e')).trans (ht i t hi j' u' hu)
theorem PAt.tokLt{W:World}{p:Nat}{A:Option Addr}{C:Nat}{T:List Tok}{k:Nat}(h:PAt W p A C T k):∀ b o,A=some ⟨b,o,none⟩->b<W.heap.size:=by
 intro b o e;obtain⟨b',o',e',_,t0,_⟩:=h.cells;rw[e]at e';simp only[Option.some.injEq,Addr.mk.injEq]at e';obtain⟨rfl,rfl,_⟩:=e';obtain⟨b2,o2,e2,hne,ht⟩:=h.toks;rw[e]at e2;simp only[Option.some.injEq,Addr.mk.injEq]at e2;obtain⟨rfl,rfl,_⟩:=e2;exact World.block_lt_of_cell? W _ (ht k _ (Jav h.lt) 0 _ rfl)
theorem Jaw{W:World}{p q i j:Nat}{u v:Value}(h:q≠p)(hc:W.cell? ⟨q,j,none⟩=some v):(W.setCell ⟨p,i,none⟩ u).cell? ⟨q,j,none⟩=some v:=(World.cell?_setCell_far W ⟨p,i,none⟩ ⟨q,j,none⟩ u (Ne.symm h)).trans hc
theorem QlI{w:World}{T t:Nat}{a0 a1:Value}(v0 v1:Value)(h:w.heap[T]?=some (.cells #[a0,a1] t (0,0))) :
  ((w.setCell ⟨T,0,none⟩ v0).setCell ⟨T,1,none⟩ v1).heap[T]?=some (.cells #[v0,v1] t (0,0)):=heap_setCell_same _ _ 1 _ _ v1 (heap_setCell_same _ _ 0 _ _ v0 h)
theorem QgX:(prog.info? 123).map (·.size)=some 2:=by kernel_rfl
theorem QlC{P:Prop}(h:P:=by
  go_wp2_with fail;refine(cw _ HP1.out).mono ?_;rintro e w2 ⟨rfl,hb2⟩;go_wp2;refine⟨rfl,?_⟩;rw[HR.out,if_neg HT.out]
  exact⟨rfl,Chg.of_below (HA.out.trans (hb2.mono HA.out.size)) [p]⟩):P:=h
theorem Jbb(p:Nat)(A:Option Addr)(C:Nat)(T:List Tok)(k:Nat)(w:World)(h:PAt w p A C T k):Calls prog 70 #[.pointer (some ⟨p,0,none⟩)] w (PRp p A C T w (fun s=>.string (bs s)) (Qbp (T.drop k))):=by
 have cp:=Ko p A C T k w h;have cw:=fun W hW=>KN p A C T k W hW
 unfold Qgn at cp;have HP:=Zh h;have hm:Hid ((hd (T.drop k)).kind=2->k+1<T.length):=fun e=>h.more (by rw[e];decide)
 have HR:Hid (∀ e w',PRp p A C T w (fun s=>.string (bs s)) (Qbp (T.drop k)) e w'=PRp p A C T w (fun s=>.string (bs s)) (if (hd (T.drop k)).kind=2 then .ok (hd (T.drop k)).text (T.drop (k+1)) else .bad (hd (T.drop k)).off) e w'):=fun e w'=>by unfold Qbp;rw[tail_drop]
 generalize PRp p A C T w (fun s=>.string (bs s)) (Qbp (T.drop k))=R at *;generalize hd (T.drop k)=t at *;obtain⟨tk,tx,tn,tf⟩:=t;unfold QcU at cp;simp only at cp cw;clear h;go_enter func70,ntmps70;go_wp2_with fail;refine cp.mono ?_;rintro e w1 ⟨rfl,hbx⟩;have hA:=hbx.alloc hbx.size (.cells #[.int .i64 tk,.string (bs tx),.int .i64 tn,.int .i64 tf] 46);have hP1:=HP.out.chg hA;have hN:=zzw w1 (.cells #[.int .i64 tk,.string (bs tx),.int .i64 tn,.int .i64 tf] 46);have hk:k<=1000000:=by have:=hP1.lt;have:=hP1.room;omega
 have wk:IntKind.i64.wrap ((k:Int)+1)=(k:Int)+1:=IntWalk.i64_in _ (by omega);have pc:=Ja hP1.self 1;have pf:=Jc hP1.self 1;have c0:(w1.alloc (.cells #[.int .i64 tk,.string (bs tx),.int .i64 tn,.int .i64 tf] 46)).cell? ⟨w1.heap.size,0,none⟩=some (.int .i64 tk):=by rw[Ja hN];rfl
 have c1:(w1.alloc (.cells #[.int .i64 tk,.string (bs tx),.int .i64 tn,.int .i64 tf] 46)).cell? ⟨w1.heap.size,1,none⟩=some (.string (bs tx)):=by rw[Ja hN];rfl
 have c3:(w1.alloc (.cells #[.int .i64 tk,.string (bs tx),.int .i64 tn,.int .i64 tf] 46)).cell? ⟨w1.heap.size,3,none⟩=some (.int .i64 tf):=by rw[Ja hN];rfl
 simp only[ZD,ZE,ZF]at pc;have hpn:p≠w1.heap.size:=by have:=Jb HP.out.self;have:=hbx.size;omega
 have HA:=Zh hA;have HP1:=Zh hP1;have HN:=Zh hN;clear hA hP1 hN hbx cp hk
 by_cases hkd:tk=2
 ·have d1:(tk==2)=true:=beq_iff_eq.2 hkd;have HF:Hid (PAt ((w1.alloc (.cells #[.int .i64 tk,.string (bs tx),.int .i64 tn,.int .i64 tf] 46)).setCell ⟨p,1,none⟩ (.int .i64 ((k+1:Nat):Int))) p A C T (k+1)):=HP1.out.next (hm.out hkd);have c1':((w1.alloc (.cells #[.int .i64 tk,.string (bs tx),.int .i64 tn,.int .i64 tf] 46)).setCell ⟨p,1,none⟩ (.int .i64 ((k:Int)+1))).cell? ⟨w1.heap.size,1,none⟩=some (.string (bs tx)):=Jaw (Ne.symm hpn) c1;have HT:=Zh hkd;clear hkd;go_wp2;rw[HR.out,if_pos HT.out];exact⟨rfl,⟨k+1,rfl,HF.out⟩,(Chg.of_below HA.out [p]).setCell (.inl (by simp)) _⟩
 ·have d1:(tk==2)=false:=zzq hkd;have HT:=Zh hkd;clear hkd;exact QlC
def Qim(nm:List UInt8 × Int):Value:=.agg #[.string (bs nm.1),.int .i64 nm.2]
theorem Vp(p:Nat)(A:Option Addr)(C:Nat)(T:List Tok)(k:Nat)(w:World)(h:PAt w p A C T k)(hx:∀ t∈T,t.text.length<=1000000):Calls prog 94 #[.pointer (some ⟨p,0,none⟩)] w (PRp p A C T w Qim (Qau (T.drop k))):=by
 have hZ:=zzw w (.cells #[.string ⟨#[]⟩,.int .i64 0] 123);have hB:=(Below.refl w.heap.size w).alloc zzl (.cells #[.string ⟨#[]⟩,.int .i64 0] 123);have cp:=Ko p A C T k _ (h.chg hB);have cw:=fun W hW=>KN p A C T k W hW
 have hxl:(hd (T.drop k)).text.length<=1000000:=hx _ (List.mem_of_getElem? (Jav h.lt));have ci:=fun W=>Jba (hd (T.drop k)).text W hxl
 unfold Qgn at cp;have HP:=Zh (h.chg hB);have hpl:=Jb h.self;have htl:=Zh h.tokLt;have hm:Hid ((hd (T.drop k)).kind=0->k+1<T.length):=fun e=>h.more (by rw[e];decide)
 have HR:Hid (∀ e w',PRp p A C T w Qim (Qau (T.drop k)) e w'=PRp p A C T w Qim (if (hd (T.drop k)).kind=0/\Qar (hd (T.drop k)).text=true then .ok ((hd (T.drop k)).text,(hd (T.drop k)).off) (T.drop (k+1)) else .bad (hd (T.drop k)).off) e w'):=fun e w'=>by unfold Qau;rw[tail_drop]
 generalize PRp p A C T w Qim (Qau (T.drop k))=R at *;generalize hd (T.drop k)=t at *;obtain⟨tk,tx,tn,tf⟩:=t;unfold QcU at cp;simp only at cp cw ci;obtain⟨q,hq⟩:∃ q,Qar tx=q:=⟨_,rfl⟩
 rw[hq]at ci;have HZ0:=Zh hZ;have HB0:=Zh hB;have HQ:=Zh hq;clear h hZ hB hx hxl hq;go_enter func94,ntmps94;go_wp2_with fail;refine cp.mono ?_;rintro e w1 ⟨rfl,hbx⟩;have hsz:=hbx.size;rw[World.size_alloc]at hsz;have hA:=hbx.alloc hbx.size (.cells #[.int .i64 tk,.string (bs tx),.int .i64 tn,.int .i64 tf] 46);have hP1:=HP.out.chg hA;have hN:=zzw w1 (.cells #[.int .i64 tk,.string (bs tx),.int .i64 tn,.int .i64 tf] 46);have hk:k<=1000000:=by have:=hP1.lt;have:=hP1.room;omega
 have wk:IntKind.i64.wrap ((k:Int)+1)=(k:Int)+1:=IntWalk.i64_in _ (by omega);have pc:=Ja hP1.self 1;have pf:=Jc hP1.self 1;have c0:(w1.alloc (.cells #[.int .i64 tk,.string (bs tx),.int .i64 tn,.int .i64 tf] 46)).cell? ⟨w1.heap.size,0,none⟩=some (.int .i64 tk):=by rw[Ja hN];rfl
 have c1:(w1.alloc (.cells #[.int .i64 tk,.string (bs tx),.int .i64 tn,.int .i64 tf] 46)).cell? ⟨w1.heap.size,1,none⟩=some (.string (bs tx)):=by rw[Ja hN];rfl
 have c3:(w1.alloc (.cells #[.int .i64 tk,.string (bs tx),.int .i64 tn,.int .i64 tf] 46)).cell? ⟨w1.heap.size,3,none⟩=some (.int .i64 tf):=by rw[Ja hN];rfl
 simp only[ZD,ZE,ZF]at pc;have hpn:p≠w1.heap.size:=by omega
 have hpz:p≠w.heap.size:=by omega
 have HZA:Hid ((w1.alloc (.cells #[.int .i64 tk,.string (bs tx),.int .i64 tn,.int .i64 tf] 46)).heap[w.heap.size]?=some (.cells #[.string ⟨#[]⟩,.int .i64 0] 123)):=by
  have h1:w1.heap[w.heap.size]?=some (.cells #[.string ⟨#[]⟩,.int .i64 0] 123):=(hbx.block _ (Jb HZ0.out)).trans HZ0.out;exact(Below.heap_alloc _ _ _ (Jb h1)).trans h1
 have HA:=Zh (HB0.out.trans (hA.mono HB0.out.size));have HP1:=Zh hP1;clear hA hP1 hN hbx cp hk hpl hsz
 by_cases hkd:tk=0
 ·subst hkd
  cases q with
  |true=>
   have HF:Hid (PAt ((w1.alloc (.cells #[.int .i64 0,.string (bs tx),.int .i64 tn,.int .i64 tf] 46)).setCell ⟨p,1,none⟩ (.int .i64 ((k+1:Nat):Int))) p A C T (k+1)):=HP1.out.next (hm.out rfl);have c1':((w1.alloc (.cells #[.int .i64 0,.string (bs tx),.int .i64 tn,.int .i64 tf] 46)).setCell ⟨p,1,none⟩ (.int .i64 ((k:Int)+1))).cell? ⟨w1.heap.size,1,none⟩=some (.string (bs tx)):=Jaw (Ne.symm hpn) c1;have c3':((w1.alloc (.cells #[.int .i64 0,.string (bs tx),.int .i64 tn,.int .i64 tf] 46)).setCell ⟨p,1,none⟩ (.int .i64 ((k:Int)+1))).cell? ⟨w1.heap.size,3,none⟩=some (.int .i64 tf):=Jaw (Ne.symm hpn) c3;have hzs:((w1.alloc (.cells #[.int .i64 0,.string (bs tx),.int .i64 tn,.int .i64 tf] 46)).setCell ⟨p,1,none⟩ (.int .i64 ((k:Int)+1))).heap[w.heap.size]?=some (.cells #[.string ⟨#[]⟩,.int .i64 0] 123):=Jk HZA.out (Ne.symm hpz) _;have z0:((w1.alloc (.cells #[.int .i64 0,.string (bs tx),.int .i64 tn,.int .i64 tf] 46)).setCell ⟨p,1,none⟩ (.int .i64 ((k:Int)+1))).cell? ⟨w.heap.size,0,none⟩=some (.string ⟨#[]⟩):=by rw[Ja hzs];rfl
   have z1:((w1.alloc (.cells #[.int .i64 0,.string (bs tx),.int .i64 tn,.int .i64 tf] 46)).setCell ⟨p,1,none⟩ (.int .i64 ((k:Int)+1))).cell? ⟨w.heap.size,1,none⟩=some (.int .i64 0):=by rw[Ja hzs];rfl
   have y0:=Jc hzs 0;have y1:=Jc hzs 1;have HZS:=Zh hzs;have HT:Hid ((0:Int)=0/\Qar tx=true):=⟨rfl,HQ.out⟩
   clear hzs HQ cw;go_wp2_with fail;refine(ci _).mono ?_;rintro e w2 ⟨rfl,rfl⟩;go_wp2;refine bodyPost_ret (v:=.agg #[.string (bs tx),.int .i64 tf]) (results_cell_row rfl _ _ w.heap.size 123 #[.string (bs tx),.int .i64 tf] (0,0) _ rfl (QlI _ _ HZS.out) underlying123 rfl QgX) rfl ?_;rw[HR.out,if_pos HT.out];refine⟨rfl,⟨k+1,rfl,(HF.out.setFar (Ne.symm hpz) (fun b o e=>by have:=htl.out b o e;omega) 0 _).setFar (Ne.symm hpz) (fun b o e=>by have:=htl.out b o e;omega) 1 _⟩,?_⟩;exact(((Chg.of_below HA.out [p]).setCell (.inl (by simp)) _).setCell (.inr zzl) _).setCell (.inr zzl) _
  |false=>
   have HT:Hid (¬ ((0:Int)=0/\Qar tx=true)):=fun h=>by have:=HQ.out;rw[h.2]at this;cases this
   clear HQ;go_wp2_with fail;refine(ci _).mono ?_;rintro e w2 ⟨rfl,rfl⟩;exact QlC
 ·have d1:(tk==0)=false:=zzq hkd;have HT:Hid (¬ (tk=0/\Qar tx=true)):=fun h=>hkd h.1
  have d2:(tk !=0)=true:=bne_iff_ne.2 hkd;clear ci;exact QlC
end Go.Proofs.YtdlkcjkjnehnkaaGreatDoor
