import Derived.Deep.DeepCutAuto
import Derived.Deep.CutBlock
import Derived.Deep.RegionHeld3
import Derived.Test.YtncanmdgdflnpaaGreatDoorL12
open List(append_eq_nil_iff mem_cons setIfInBounds_toArray set_cons_succ set_cons_zero)
open Nat(le_refl)
namespace Go.Proofs.YtncanmdgdflnpaaGreatDoor
open Go Go.Lib
open Go.ChangeShapes Go.WideShapes Go.ChangeAt Go.RowKit Go.Lib
open Go.ChangeShapes Go.WideShapes Go.RowKit Go.Deep
open Go.Joins
open _root_.Go.Proofs.Tryz
set_option linter.all false
set_option maxRecDepth 100000
set_option maxHeartbeats 32000000
def Qkh{c:UInt8}(h:Qew c=true):c=9\/c=10\/c=13\/c=32:=by
 simpa[Qew,or_assoc] using h
def QhX{c:UInt8}(h:Qew c=true):QcQ c=false:=by
 rcases Qkh h with rfl|rfl|rfl|rfl<;>decide
def QlC(l:By){c:UInt8}{r:By}{t:Tok}(hl:l=c::r)(hs:Qew c=false)(ht:Qbv l=some (t,l.length)):sc 0 l=.ok [t,⟨4,[],0,(l.length:Nat)⟩]:=by
 have hf:=Yw ht;subst hl;rw[ZW 0 r hs ht,List.drop_length,Nat.zero_add,JcB];obtain⟨a,b,d,o⟩:=t;have:o=0:=hf.2.2.2.2.2;subst this;rfl
def QfG(s:By)(w:World):Calls prog 135 #[Sv s] w (Qbj (.bool (Qai s)) w):=by
 have u1:=Jk s
 have HR:Qai s=((s==[97,110,100])||((s==[98,111,111,108])||((s==[100,101,102])||((s==[100,101,102,97,117,108,116])||((s==[101,108,115,101])||((s==[102,97,108,115,101])||((s==[104,105,100,101])||((s==[105,102])||((s==[105,110])||((s==[105,110,116])||((s==[108,97,98,101,108])||((s==[108,101,116])||((s==[108,105,109,105,116])||((s==[109,101,100,105,97])||((s==[110,111,116])||((s==[111,114])||((s==[115,104,111,119])||((s==[116,104,101,110])||((s==[116,114,117,101])||((s==[119,104,101,110])||(s==[119,111,114,100]))))))))))))))))))))):=by
  rw[Bool.eq_iff_iff];unfold Qai;simp only[decide_eq_true_eq,mem_cons,List.not_mem_nil,or_false,Bool.or_eq_true,beq_iff_eq];rfl
 rw[HR];clear HR;generalize e0:(s==[97,110,100])=b0;generalize e1:(s==[98,111,111,108])=b1;generalize e2:(s==[100,101,102])=b2;generalize e3:(s==[100,101,102,97,117,108,116])=b3;generalize e4:(s==[101,108,115,101])=b4;generalize e5:(s==[102,97,108,115,101])=b5;generalize e6:(s==[104,105,100,101])=b6;generalize e7:(s==[105,102])=b7;generalize e8:(s==[105,110])=b8;generalize e9:(s==[105,110,116])=b9;generalize bA:(s==[108,97,98,101,108])=b10;generalize xA:(s==[108,101,116])=b11;generalize gA:(s==[108,105,109,105,116])=b12;generalize aA:(s==[109,101,100,105,97])=b13;generalize yA:(s==[110,111,116])=b14;generalize uA:(s==[111,114])=b15;generalize vA:(s==[115,104,111,119])=b16;generalize eA:(s==[116,104,101,110])=b17;generalize zA:(s==[116,114,117,101])=b18;generalize cA:(s==[119,104,101,110])=b19;generalize dA:(s==[119,111,114,100])=b20
 cases b0 with
 |true=>
  go_enter func135,ntmps135;go_wp2;go_ret;exact⟨rfl,rfl⟩
 |false=>
 cases b1 with
 |true=>
  go_enter func135,ntmps135;go_wp2;go_ret;exact⟨rfl,rfl⟩
 |false=>
 cases b2 with
 |true=>
  go_enter func135,ntmps135;go_wp2;go_ret;exact⟨rfl,rfl⟩
 |false=>
 cases b3 with
 |true=>
  go_enter func135,ntmps135;go_wp2;go_ret;exact⟨rfl,rfl⟩
 |false=>
 cases b4 with
 |true=>
  go_enter func135,ntmps135;go_wp2;go_ret;exact⟨rfl,rfl⟩
 |false=>
 cases b5 with
 |true=>
  go_enter func135,ntmps135;go_wp2;go_ret;exact⟨rfl,rfl⟩
 |false=>
 cases b6 with
 |true=>
  go_enter func135,ntmps135;go_wp2;go_ret;exact⟨rfl,rfl⟩
 |false=>
 cases b7 with
 |true=>
  go_enter func135,ntmps135;go_wp2;go_ret;exact⟨rfl,rfl⟩
 |false=>
 cases b8 with
 |true=>
  go_enter func135,ntmps135;go_wp2;go_ret;exact⟨rfl,rfl⟩
 |false=>
 cases b9 with
 |true=>
  go_enter func135,ntmps135;go_wp2;go_ret;exact⟨rfl,rfl⟩
 |false=>
 cases b10 with
 |true=>
  go_enter func135,ntmps135;go_wp2;go_ret;exact⟨rfl,rfl⟩
 |false=>
 cases b11 with
 |true=>
  go_enter func135,ntmps135;go_wp2;go_ret;exact⟨rfl,rfl⟩
 |false=>
 cases b12 with
 |true=>
  go_enter func135,ntmps135;go_wp2;go_ret;exact⟨rfl,rfl⟩
 |false=>
 cases b13 with
 |true=>
  go_enter func135,ntmps135;go_wp2;go_ret;exact⟨rfl,rfl⟩
 |false=>
 cases b14 with
 |true=>
  go_enter func135,ntmps135;go_wp2;go_ret;exact⟨rfl,rfl⟩
 |false=>
 cases b15 with
 |true=>
  go_enter func135,ntmps135;go_wp2;go_ret;exact⟨rfl,rfl⟩
 |false=>
 cases b16 with
 |true=>
  go_enter func135,ntmps135;go_wp2;go_ret;exact⟨rfl,rfl⟩
 |false=>
 cases b17 with
 |true=>
  go_enter func135,ntmps135;go_wp2;go_ret;exact⟨rfl,rfl⟩
 |false=>
 cases b18 with
 |true=>
  go_enter func135,ntmps135;go_wp2;go_ret;exact⟨rfl,rfl⟩
 |false=>
 cases b19 with
 |true=>
  go_enter func135,ntmps135;go_wp2;go_ret;exact⟨rfl,rfl⟩
 |false=>
 cases b20 with
 |true=>
  go_enter func135,ntmps135;go_wp2;go_ret;exact⟨rfl,rfl⟩
 |false=>
 go_enter func135,ntmps135;go_wp2;go_ret;exact⟨rfl,rfl⟩
def QdR(s:By)(w:World):Calls prog 136 #[Sv s] w (Qbj (Iv ((QaA s).getD (-1))) w):=by
 have u1:=Jk s
 have HR:(QaA s).getD (-1)=if ((s==[108,105,107,101,115])||((s==[98,111,111,115,116,115])||((s==[114,101,112,108,105,101,115])||((s==[114,101,112,111,114,116,115])||((s==[97,103,101])||((s==[104,111,109,101])||((s==[115,99,111,112,101])||(s==[108,101,110,103,116,104]))))))))=true then 0 else if ((s==[102,111,108,108,111,119,115])||(s==[114,101,112,108,121]))=true then 1 else -1:=by
  have m1:(s∈[Qcq,Qcx,QbP,QbO,QiV,QeM,Qdo,Qcw])↔((s==[108,105,107,101,115])||((s==[98,111,111,115,116,115])||((s==[114,101,112,108,105,101,115])||((s==[114,101,112,111,114,116,115])||((s==[97,103,101])||((s==[104,111,109,101])||((s==[115,99,111,112,101])||(s==[108,101,110,103,116,104]))))))))=true:=by
   simp only[mem_cons,List.not_mem_nil,or_false,Bool.or_eq_true,beq_iff_eq];rfl
  have m2:(s∈[QbQ,QfO])↔((s==[102,111,108,108,111,119,115])||(s==[114,101,112,108,121]))=true:=by
   simp only[mem_cons,List.not_mem_nil,or_false,Bool.or_eq_true,beq_iff_eq];rfl
  unfold QaA
  by_cases g1:((s==[108,105,107,101,115])||((s==[98,111,111,115,116,115])||((s==[114,101,112,108,105,101,115])||((s==[114,101,112,111,114,116,115])||((s==[97,103,101])||((s==[104,111,109,101])||((s==[115,99,111,112,101])||(s==[108,101,110,103,116,104]))))))))=true
  ·rw[if_pos g1,if_pos (m1.2 g1)];rfl
  ·rw[if_neg g1,if_neg λh=>g1 (m1.1 h)]
   by_cases g2:((s==[102,111,108,108,111,119,115])||(s==[114,101,112,108,121]))=true
   ·rw[if_pos g2,if_pos (m2.2 g2)];rfl
   ·rw[if_neg g2,if_neg λh=>g2 (m2.1 h)];rfl
 rw[HR];clear HR;generalize e0:(s==[108,105,107,101,115])=b0;generalize e1:(s==[98,111,111,115,116,115])=b1;generalize e2:(s==[114,101,112,108,105,101,115])=b2;generalize e3:(s==[114,101,112,111,114,116,115])=b3;generalize e4:(s==[97,103,101])=b4;generalize e5:(s==[104,111,109,101])=b5;generalize e6:(s==[115,99,111,112,101])=b6;generalize e7:(s==[108,101,110,103,116,104])=b7;generalize e8:(s==[102,111,108,108,111,119,115])=b8;generalize e9:(s==[114,101,112,108,121])=b9
 cases b0 with
 |true=>
  go_enter func136,ntmps136;go_wp2;go_ret;exact⟨rfl,rfl⟩
 |false=>
 cases b1 with
 |true=>
  go_enter func136,ntmps136;go_wp2;go_ret;exact⟨rfl,rfl⟩
 |false=>
 cases b2 with
 |true=>
  go_enter func136,ntmps136;go_wp2;go_ret;exact⟨rfl,rfl⟩
 |false=>
 cases b3 with
 |true=>
  go_enter func136,ntmps136;go_wp2;go_ret;exact⟨rfl,rfl⟩
 |false=>
 cases b4 with
 |true=>
  go_enter func136,ntmps136;go_wp2;go_ret;exact⟨rfl,rfl⟩
 |false=>
 cases b5 with
 |true=>
  go_enter func136,ntmps136;go_wp2;go_ret;exact⟨rfl,rfl⟩
 |false=>
 cases b6 with
 |true=>
  go_enter func136,ntmps136;go_wp2;go_ret;exact⟨rfl,rfl⟩
 |false=>
 cases b7 with
 |true=>
  go_enter func136,ntmps136;go_wp2;go_ret;exact⟨rfl,rfl⟩
 |false=>
 cases b8 with
 |true=>
  go_enter func136,ntmps136;go_wp2;go_ret;exact⟨rfl,rfl⟩
 |false=>
 cases b9 with
 |true=>
  go_enter func136,ntmps136;go_wp2;go_ret;exact⟨rfl,rfl⟩
 |false=>
 go_enter func136,ntmps136;go_wp2;go_ret;exact⟨rfl,rfl⟩
def Qez(s:By)(w:World)(hs:s.length<=9223372036854775807):Calls prog 85 #[Sv s] w (Qbj (.bool (QbM s)) w):=by
 have z1:=JP s;obtain⟨n,hn⟩:∃n,s.length=n:=⟨_,rfl⟩
 obtain⟨q,hq⟩:∃q,QbM s=q:=⟨_,rfl⟩
 have hI:=Jhq s;rw[hq]at hI |-;rw[hn]at hI z1 hs;have HI:=Zh hI;have HN:=Zh hn;have HS:=Zh hs;clear hI hn hq hs;go_enter func85,ntmps85;go_wp2;go_loop [3] (λv=>∃k:Nat,v=Iv k/\k<=n/\Hi ((s.take k).all txB=true)) λv=>n-(intOf v).toNat
 case atStart=>exact⟨0,rfl,Nat.zero_le _,by unfold Hi;rfl⟩
 case round=>
  obtain⟨k,rfl,hk,hz⟩:=hrel
  by_cases hkn:k<n
  ·have wk:IntKind.i64.wrap ((k:Int)+1)=(k:Int)+1:=IntWalk.i64_in _ (zt HS.o);have dk:decide ((k:Int)<(n:Int))=true:=zE zo;have bA:decide (k<n)=true:=zE hkn;have bk:(k:Int)<(n:Int):=zo
   obtain⟨c,hc⟩:∃c,s[k]?=some c:=⟨_,List.getElem?_eq_getElem (zt HN.o)⟩
   obtain⟨m,hm⟩:∃m,c.toNat=m:=⟨_,rfl⟩
   have uA:m<256:=by rw[<-hm];exact c.toNat_lt
   have hg:∀h,((bs s)[k]'h).toNat=m:=λh=>by
    obtain⟨_,h2⟩:=List.getElem?_eq_some_iff.1 hc;rw[<-hm,<-h2];rfl
   have hw:=Jjd m c hm
   by_cases hwo:32<=m/\m<=126/\m≠34/\m≠92
   ·have HK2:=Zh (JcD hz.o hc (hw.2 hwo));clear hz hc hm hw;obtain⟨g1,g2,g3,g4⟩:=hwo;have a1:decide ((m:Int)<32)=false:=zF zo;have vA:decide (m<32)=false:=zF zo;have a2:decide (126<(m:Int))=false:=zF zo;have aA:decide (126<m)=false:=zF zo;have e1:((m:Int)==34)=false:=zzq zo;have cA:(m==34)=false:=zzq zo;have e2:((m:Int)==92)=false:=zzq zo;have dA:(m==92)=false:=zzq zo;clear g1 g2 g3 g4;go_wp2;go_round
    case rel=>exact⟨k+1,by go_num,hkn,HK2⟩
    case measure=>simp[intOf];omega
   ·have hb:txB c=false:=by cases h:txB c with|false=>rfl|true=>exact absurd (hw.1 h) hwo
    have hqf:q=false:=by rw[HI.o,JeA hc hb];rfl
    subst hqf;clear hz hc hm hw hb HI
    by_cases l1:m<32
    ·have a1:decide ((m:Int)<32)=true:=zE zo;have vA:decide (m<32)=true:=zE zo;clear hwo;go_wp2;go_ret;exact⟨rfl,rfl⟩
    by_cases l2:126<m
    ·have a1:decide ((m:Int)<32)=false:=zF zo;have vA:decide (m<32)=false:=zF zo;have a2:decide (126<(m:Int))=true:=zE zo;have aA:decide (126<m)=true:=zE zo;clear l1;clear hwo;go_wp2;go_ret;exact⟨rfl,rfl⟩
    by_cases l3:m=34
    ·subst l3;clear l1 l2;clear hwo;go_wp2;go_ret;exact⟨rfl,rfl⟩
    have l4:m=92:=zo
    subst l4;clear l1 l2 l3;clear hwo;go_wp2;go_ret;exact⟨rfl,rfl⟩
  ·have dk:decide ((k:Int)<(n:Int))=false:=zF zo;have bA:decide (k<n)=false:=zF hkn
   have xA:s.all txB=true:=by
    have:=hz.o
    rwa [List.take_of_length_le (zt HN.o)]at this
   have yA:=HI.o;rw[xA]at yA;simp only[Bool.true_and]at yA
   by_cases h24:n<=24
   ·have d1:decide ((n:Int)<=24)=true:=zE zo;have zA:decide (n<=24)=true:=zE h24;have hqf:q=true:=by rw[yA,zA]
    subst hqf;clear hz xA yA HI h24 hk hkn;go_wp2;go_ret;exact⟨rfl,rfl⟩
   ·have d1:decide ((n:Int)<=24)=false:=zF zo;have zA:decide (n<=24)=false:=zF h24;have hqf:q=false:=by rw[yA,zA]
    subst hqf;clear hz xA yA HI h24 hk hkn;go_wp2;go_ret;exact⟨rfl,rfl⟩
def QbT(k:Int):Bool:=k==6||(decide (8<=k)&&decide (k<=12))||k==13||k==14
def Qbe(k:Int):Bool:=k==7||k==16||k==17
def Qke(k:Int):Int:=if k=20 then -1 else (ar0 k:Int)
def QiE(k:Int)(hk:0<=k/\k<21)(w:World):Calls prog 137 #[Iv k] w (Qbj (Iv (Qke k)) w):=by
 have:k=0\/k=1\/k=2\/k=3\/k=4\/k=5\/k=6\/k=7\/k=8\/k=9\/k=10\/k=11\/k=12\/k=13\/k=14\/k=15\/k=16\/k=17\/k=18\/k=19\/k=20:=zo
 rcases this with rfl|rfl|rfl|rfl|rfl|rfl|rfl|rfl|rfl|rfl|rfl|rfl|rfl|rfl|rfl|rfl|rfl|rfl|rfl|rfl|rfl
 all_goals
  go_enter func137,ntmps137;go_wp2;go_ret;exact⟨rfl,rfl⟩
def QbF(k:Int)(hk:0<=k/\k<21)(w:World):Calls prog 151 #[Iv k] w (Qbj (.bool (QbT k)) w):=by
 have:k=0\/k=1\/k=2\/k=3\/k=4\/k=5\/k=6\/k=7\/k=8\/k=9\/k=10\/k=11\/k=12\/k=13\/k=14\/k=15\/k=16\/k=17\/k=18\/k=19\/k=20:=zo
 rcases this with rfl|rfl|rfl|rfl|rfl|rfl|rfl|rfl|rfl|rfl|rfl|rfl|rfl|rfl|rfl|rfl|rfl|rfl|rfl|rfl|rfl
 all_goals
  go_enter func151,ntmps151;go_wp2;go_ret;exact⟨rfl,rfl⟩
def QbA(k:Int)(hk:0<=k/\k<21)(w:World):Calls prog 152 #[Iv k] w (Qbj (.bool (Qbe k)) w):=by
 have:k=0\/k=1\/k=2\/k=3\/k=4\/k=5\/k=6\/k=7\/k=8\/k=9\/k=10\/k=11\/k=12\/k=13\/k=14\/k=15\/k=16\/k=17\/k=18\/k=19\/k=20:=zo
 rcases this with rfl|rfl|rfl|rfl|rfl|rfl|rfl|rfl|rfl|rfl|rfl|rfl|rfl|rfl|rfl|rfl|rfl|rfl|rfl|rfl|rfl
 all_goals
  go_enter func152,ntmps152;go_wp2;go_ret;exact⟨rfl,rfl⟩
def QiZ:∀(l:By)(k:Nat),∀t ts,sc k l=.ok (t::ts)->t.kind=0->t.text.length<=l.length/\(t.text.length=l.length->Qal l=l/\l.length<=24/\∃c r,l=c::r/\Qdg c=true):=by
 refine ZX (P:=λk l=>∀t ts,sc k l=.ok (t::ts)->t.kind=0->t.text.length<=l.length/\(t.text.length=l.length->Qal l=l/\l.length<=24/\∃c r,l=c::r/\Qdg c=true)) ?_ ?_ ?_ ?_
 ·intro k t ts h hk;rw[JcB]at h;injection h with h;injection h with h1 h2;rw[<-h1]at hk
  cases hk
 ·intro k c r hs ih t ts h hk;rw[JgB k r hs]at h;obtain⟨h1,h2⟩:=ih t ts h hk;refine⟨by rw[List.length_cons];omega,λhe=>?_⟩;rw[List.length_cons]at he;omega
 ·intro k c r hs ht t ts h hk;rw[ZV k r hs ht]at h
  cases h
 ·intro k c r t n hs ht hn hle ih t' ts h hk;rw[ZW k r hs ht]at h;obtain⟨zA,h1,h2⟩:=JbI h;injection h2 with h3 h4;subst h3;have xA:t.kind=0:=hk;unfold Qbv at ht;dsimp only at ht
  by_cases hc:Qdg c=true
  ·rw[if_pos hc]at ht
   by_cases hw:(Qal (c::r)).length<=24
   ·rw[if_pos hw]at ht;injection ht with ht;injection ht with e1 e2;subst e1;refine⟨Yv _,λhe=>?_⟩;have hh:(Qal (c::r)).length=(c::r).length:=he
    have yA:Qal (c::r)=c::r:=by
     have:=Jes (c::r);rw[hh,List.take_length]at this;exact this.symm
    refine⟨yA,?_,c,r,rfl,hc⟩;rw[<-hh];exact hw
   ·rw[if_neg hw]at ht;cases ht
  ·rw[if_neg hc]at ht
   exfalso
   by_cases hd:QeL c=true
   ·rw[if_pos hd]at ht
    cases hp:QaL (Qal (c::r)) 0 1125899906842624 with
    |none=>rw[hp]at ht;cases ht
    |some m=>rw[hp]at ht;injection ht with ht;injection ht with e1 _;rw[<-e1]at xA;cases xA
   ·rw[if_neg hd]at ht
    by_cases hq:c=34
    ·rw[if_pos hq]at ht
     cases hp:QaN 25 r with
     |none=>rw[hp]at ht;cases ht
     |some m=>rw[hp]at ht;injection ht with ht;injection ht with e1 _;rw[<-e1]at xA;cases xA
    ·rw[if_neg hq]at ht
     by_cases hz:Qay (c::r)=[]
     ·rw[if_pos hz]at ht;cases ht
     ·rw[if_neg hz]at ht;injection ht with ht;injection ht with e1 _;rw[<-e1]at xA;cases xA
def Qgz(l:By):Qal l=l↔l.all QcQ=true:=by
 unfold Qal
 induction l with
 |nil=>simp
 |cons c l ih=>
  rw[List.takeWhile_cons,List.all_cons]
  by_cases h:QcQ c=true
  ·rw[if_pos h,h,Bool.true_and,<-ih];simp
  ·rw[if_neg h];simp[h]
def QiY{w:World}{base C:Nat}{A:Option Addr}{a b:Tok}(h:w.ownsRow base 105 4 (.slice A [a,b].length C) [a,b].length (Qax [a,b])):∃g,A=some ⟨g,0,none⟩/\w.cell? ⟨g,0,none⟩=some (Iv a.kind)/\w.cell? ⟨g,1,none⟩=some (.string (bs a.text)):=by
 rcases h.2 with⟨h1,h0⟩|⟨g,cap,cur,hv,_⟩
 ·cases h0
 ·injection hv with e1 e2 e3;subst e1;have hc:=h.cells (g:=g) zr;have h0:=hc 0 _ rfl;have h1:=hc 1 _ rfl;refine⟨g,rfl,?_,?_⟩
  ·rw[show (⟨g,0,none⟩:Addr).add 0=⟨g,0,none⟩ by unfold Addr.add;split<;>simp_all]at h0;exact h0
  ·rw[show (⟨g,0,none⟩:Addr).add 1=⟨g,1,none⟩ by unfold Addr.add;split<;>simp_all]at h1;exact h1
def QgM(s:By)(R:List Tok×Int×Int):Prop:=R.2.1=0/\∃a b,R.1=[a,b]/\a.kind=0/\a.text=s
def Qhu(s:By):Qbd s=true↔QgM s (QaQ s)/\Qai s=false/\QaA s=none:=by
 constructor
 ·intro h
  cases s with
  |nil=>cases h
  |cons c r=>
   rw[JdA]at h;simp only[Bool.and_eq_true,decide_eq_true_eq,Bool.not_eq_true',Option.isNone_iff_eq_none]at h;obtain⟨⟨⟨⟨h1,h2⟩,h3⟩,h4⟩,h5⟩:=h;refine⟨?_,h5,h4⟩;have hw:=(Qgz (c::r)).2 h3
   have ht:Qbv (c::r)=some (⟨0,c::r,0,0⟩,(c::r).length):=by
    unfold Qbv;dsimp only;rw[if_pos h2,hw,if_pos h1]
   have hs:Qew c=false:=by
    cases h:Qew c with
    |false=>rfl
    |true=>
     have h6:=QhX h;have h7:=List.all_eq_true.1 h3 c zp;rw[h6]at h7
     cases h7
   have xA:=QlC (c::r) rfl hs ht;unfold QaQ;rw[if_neg zo,xA];exact⟨rfl,_,_,rfl,rfl,rfl⟩
 ·rintro⟨⟨h1,a,b,h2,h3,h4⟩,h5,h6⟩;unfold QaQ at h1 h2
  by_cases hl:4096<s.length
  ·rw[if_pos hl]at h1;cases h1
  rw[if_neg hl]at h1 h2
  cases hs:sc 0 s with
  |err k=>rw[hs]at h1;cases h1
  |ok ts=>
   rw[hs]at h2;have h2':ts=[a,b]:=h2;rw[h2']at hs;obtain⟨_,h7⟩:=QiZ s 0 a [b] hs h3;obtain⟨h8,h9,c,r,h10,h11⟩:=h7 (by rw[h4]);rw[h10]at h5 h6 h8 h9 |-;rw[JdA,zE h9,h11,(Qgz _).1 h8,h6,h5];rfl
def QhI(s:By)(w:World)(hs:s.length<=9223372036854775807):Calls prog 111 #[Sv s] w (QbL w (.bool (Qbd s))):=by
 have u1:=Jk s;obtain⟨q,hq⟩:∃q,Qbd s=q:=⟨_,rfl⟩
 rw[hq];have hI:=Qhu s;rw[hq]at hI;have cs:=Qig s w zo;obtain⟨⟨ts,er,vA⟩,hR⟩:∃R,QaQ s=R:=⟨_,rfl⟩
 rw[hR]at cs hI;unfold QgM at hI;dsimp only at hI;have HI:=Zh hI;have HK:=Zh λW=>QfG s W;have HF:=Zh λW=>QdR s W;clear hq hI hR hs;go_enter func111,ntmps111;go_wp2_with fail;refine cs.mono ?_;rintro e w2 ⟨v,rfl,xA,hb⟩;dsimp only at xA |-;obtain⟨A,C,rfl⟩:=Z0 xA;have HB:=Zh (show Bel w w2 from hb);have HOW:=Zh xA;clear cs hb xA
 by_cases her:er=0
 ·subst her
  by_cases hln:ts.length=2
  ·have dl:((ts.length:Int)==2)=true:=beq_iff_eq.2 zo;have dlN:(ts.length==2)=true:=beq_iff_eq.2 hln
   obtain⟨a,b,rfl⟩:∃a b,ts=[a,b]:=by
    match ts,hln with
    |[a,b],_=>exact⟨a,b,rfl⟩
   obtain⟨g,rfl,k0,k1⟩:=QiY HOW.o;clear dl dlN hln HOW;obtain⟨ak,yA,an,ao⟩:=a;dsimp only at k0 k1;have u2:=Jk yA
   by_cases hk:ak=0
   ·have e0:(ak==0)=true:=beq_iff_eq.2 hk
    by_cases ht:yA=s
    ·have e1:(yA==s)=true:=beq_iff_eq.2 ht
     cases hkw:Qai s with
     |true=>
      have hqf:q=false:=by
       cases q with
       |false=>rfl
       |true=>have:=(HI.o.1 rfl).2.1;rw[hkw]at this;cases this
      subst hqf;have ck:=HK.o w2;rw[hkw]at ck;clear hkw HK HF HI hk ht;go_wp2_with fail;refine ck.mono ?_;rintro e w3 ⟨rfl,rfl⟩;clear ck;go_wp2;go_ret;exact⟨rfl,HB.o⟩
     |false=>
      have ck:=HK.o w2;rw[hkw]at ck;have cf:=HF.o w2
      cases hf:QaA s with
      |none=>
       have zA:q=true:=by
        cases q with
        |true=>rfl
        |false=>exact absurd (HI.o.2 ⟨⟨rfl,_,_,rfl,hk,ht⟩,hkw,hf⟩) zd
       subst zA;rw[hf]at cf;clear hkw hf HK HF HI hk ht;go_wp2_with fail;refine ck.mono ?_;rintro e w3 ⟨rfl,rfl⟩;clear ck;go_wp2_with fail;refine cf.mono ?_;rintro e w3 ⟨rfl,rfl⟩;clear cf;go_wp2;go_ret;exact⟨rfl,HB.o⟩
      |some t=>
       have hqf:q=false:=by
        cases q with
        |false=>rfl
        |true=>have:=(HI.o.1 rfl).2.2;rw[hf]at this;cases this
       subst hqf
       have uA:t=0\/t=1:=by
        unfold QaA at hf;split at hf
        ·injection hf with hf;exact .inl hf.symm
        ·split at hf
         ·injection hf with hf;exact .inr hf.symm
         ·cases hf
       rw[hf]at cf;have d0:decide (t<0)=false:=zF zo;clear hkw hf HK HF HI hk ht uA;go_wp2_with fail;refine ck.mono ?_;rintro e w3 ⟨rfl,rfl⟩;clear ck;go_wp2_with fail;refine cf.mono ?_;rintro e w3 ⟨rfl,rfl⟩;clear cf;go_wp2;go_ret;exact⟨rfl,HB.o⟩
    ·have e1:(yA==s)=false:=zzq ht
     have hqf:q=false:=by
      cases q with
      |false=>rfl
      |true=>
       obtain⟨⟨_,a',b',h1,_,h2⟩,_⟩:=HI.o.1 rfl;injection h1 with h1 _;exact absurd (by rw[<-h1]at h2;exact h2) ht
     subst hqf;clear HK HF HI hk ht;go_wp2;go_ret;exact⟨rfl,HB.o⟩
   ·have e0:(ak==0)=false:=zzq hk
    have hqf:q=false:=by
     cases q with
     |false=>rfl
     |true=>
      obtain⟨⟨_,a',b',h1,h2,_⟩,_⟩:=HI.o.1 rfl;injection h1 with h1 _;exact absurd (by rw[<-h1]at h2;exact h2) hk
    subst hqf;clear HK HF HI hk;go_wp2;go_ret;exact⟨rfl,HB.o⟩
  ·have dl:((ts.length:Int)==2)=false:=zzq zo;have dlN:(ts.length==2)=false:=zzq hln
   have hqf:q=false:=by
    cases q with
    |false=>rfl
    |true=>
     obtain⟨⟨_,a',b',h1,_,_⟩,_⟩:=HI.o.1 rfl;rw[h1]at hln;exact absurd rfl hln
   subst hqf;clear HK HF HI hln HOW;go_wp2;go_ret;exact⟨rfl,HB.o⟩
 ·have e0:(er==0)=false:=zzq her
  have hqf:q=false:=by
   cases q with
   |false=>rfl
   |true=>exact absurd (HI.o.1 rfl).1.1 her
  subst hqf;clear HK HF HI her HOW;go_wp2;go_ret;exact⟨rfl,HB.o⟩
def Qdu{P:Program}{f:FuncId}{args:Array Value}{w:World}{a n:Nat}{v:Value}(h:Calls P f args (w.drewN (a+n)) (Qbj v (w.drewN (a+n)))):
  Calls P f args (w.drewN (a+n)) λe w''=>e=.returned v/\∃m,w''=w.drewN (a+m):=h.mono λ_ _ ⟨he,hm⟩=>⟨he,n,hm.symm⟩
def QcY{P:Program}{f:FuncId}{args:Array Value}{w:World}{n:Nat}{v:Value}(h:Calls P f args (w.drewN n) (Qbj v (w.drewN n))):
  Calls P f args (w.drewN n) λe w''=>e=.returned v/\∃m,w''=w.drewN m:=h.mono λ_ _ ⟨he,hm⟩=>⟨he,n,hm.symm⟩
def QiM(l:List Exp)(a:Exp):Qek (l++[a])=max (Qek l) (Qfp a):=by
 induction l with
 |nil=>rw[List.nil_append,Qbu];unfold Qek;omega
 |cons b l ih=>rw[List.cons_append,Qbu,Qbu,ih];omega
def Qha:∀(e:Exp),Qfp e<=siz (utN e)
 |.mk k n s l=>by
  have h:=depL_siz l;rw[Qfi,utN,JA];omega
where depL_siz:∀(l:List Exp),Qek l<=Qaz (utL l)
 |[]=>by unfold Qek;omega
 |a::l=>by
  have h1:=Qha a;have h2:=depL_siz l;rw[Qbu,utL,Ju];omega
def QhG(n:Nat)(IH:∀(e:Exp)(c:Array Value)(W:World),siz (utN e)<=n->XAt W (In W) e c->Calls prog 112 #[.agg c] W (QbL W (Iv (Qfp e))))
  (k nn:Int) (s:By) (l:List Exp) (ad:Option Addr) (cc:Nat) (w:World) (hn:Qaz (utL l)<=n) (hn2:n<=1000000) (hK:QbC w ad l):
  Calls prog 112 #[.agg #[Iv k,Iv nn,Sv s,.slice ad l.length cc]] w (QbL w (Iv (Qfp (.mk k nn s l)))):=by
 have HN:=Zh (And.intro hn hn2);have hb1:Below w.heap.size w (w.alloc (.cells #[Iv k,Iv nn,Sv s,.slice ad l.length cc] 50)):=zzb.alloc zzl _;have HCP:=Zh (zzw w (.cells #[Iv k,Iv nn,Sv s,.slice ad l.length cc] 50));have HKX:Hi (∀W,Below (w.alloc (.cells #[Iv k,Iv nn,Sv s,.slice ad l.length cc] 50)).heap.size (w.alloc (.cells #[Iv k,Iv nn,Sv s,.slice ad l.length cc] 50)) W->Bel w W):=λW hW=>Je hb1 hW
 have vA:=Zh hK;have cA:=Zh IH;have bA:l.length<=1000000:=Nat.le_trans (JjH hn) hn2;rw[Qfi]
 have eA:Hi (∀i:Nat,Qek (l.take i)<=1000000):=λi=>by
  have h1:=Qha.depL_siz l;have h2:Qek (l.take i)<=Qek l:=Qgs λa ha=>Qfj (List.mem_of_mem_take ha)
  omega
 go_enter func112,ntmps112;go_upto_region 1 with fail;have HEB:Hi (w.heap.size<(w.alloc (.cells #[Iv k,Iv nn,Sv s,.slice ad l.length cc] 50)).heap.size):=Jb HCP.o;generalize World.alloc w _=w1 at*;generalize w.heap.size=eb at*
 have FF:Hi (∀W,Below w1.heap.size w1 W->W.cell? ⟨eb,0,none⟩=some (Iv k)/\W.cell? ⟨eb,1,none⟩=some (Iv nn)/\W.cell? ⟨eb,2,none⟩=some (Sv s)/\W.cell? ⟨eb,3,none⟩=some (.slice ad l.length cc)):=by
  intro W hW;have hh:=(hW.block _ HEB.o).trans HCP.o;refine⟨?_,?_,?_,?_⟩<;>(rw[Ja hh];rfl)
 have zA:Hi (Below w1.heap.size w1 w1):=zzb;go_wp2_with fail;go_loopg [3,4] l.length λg v3 v4 wr=>∃i:Nat,g+i=l.length/\v4=Iv i/\v3=Iv (Qek (l.take i))/\Hi (Below w1.heap.size w1 wr)
 case atStart=>exact⟨0,rfl,rfl,(by rw[List.take_zero];unfold Qek;rfl),zA⟩
 case round=>
 obtain⟨wl,rfl⟩:=zG wr
 obtain⟨i,hg,rfl,rfl,hbw⟩:=hrel;obtain⟨b0,b1,b2,b3⟩:=FF.o _ hbw.o;have HFIN:Hi (Bel w wl):=HKX.o _ hbw.o;obtain⟨m,hm⟩:∃m,Qek (l.take i)=m:=⟨_,rfl⟩
 have hm6:m<=1000000:=by rw[<-hm];exact eA.o i
 rw[hm];have HM:=Zh hm
 by_cases hi:i<l.length
 ·have hil:(i:Int)<(l.length:Int):=zo
  have dil:decide ((i:Int)<(l.length:Int))=true:=zE hil;have xA:decide (i<l.length)=true:=zE hi;have wk:=zI i;obtain⟨y,hy⟩:∃y,l[i]?=some y:=⟨l[i],List.getElem?_eq_getElem hi⟩
  have hsz:siz (utN y)<=n:=Nat.le_trans (Jbz (List.mem_of_getElem? hy)) HN.o.1;obtain⟨b,o,da,dc,gA,hxy,c0,c1,c2,c3⟩:=vA.o.at' (HKX.o _ hbw.o) hy;have ci:=cA.o y _ wl hsz hxy;obtain⟨z,hz⟩:∃z,Qfp y=z:=⟨_,rfl⟩
  rw[hz]at ci;have HBW:=Zh hbw.o;have HG:=Zh (And.intro hg hi);have uA:Hi (max m z=Qek (l.take (i+1))):=by rw[Hi,JF hy,QiM,HM.o,hz]
  obtain⟨mm,yA⟩:∃mm,max m z=mm:=⟨_,rfl⟩
  have aA:max (m:Int) (z:Int)=(mm:Int):=by rw[<-yA];omega
  rw[yA]at uA;subst gA;go_wp2_with fail;refine ci.mono ?_;rintro e w7 ⟨rfl,hb7⟩;have HB7:=Zh (Je HBW.o hb7);go_wp2;go_roundg (l.length-(i+1))
  case measure=>have:=HG.o;omega
  case rel=>exact⟨i+1,by have:=HG.o;omega,by go_num,by rw[<-uA.o,<-aA],HB7⟩
 ·have hil:¬(i:Int)<(l.length:Int):=zo
  have dil:decide ((i:Int)<(l.length:Int))=false:=zF hil;have xA:decide (i<l.length)=false:=zF hi;have wm:=zI m;have dA:Qek l=m:=by have h:=HM.o;rw[List.take_of_length_le zo]at h;exact h
  rw[dA];rw[show ((m+1:Nat):Int)=(m:Int)+1 by omega];go_wp2;go_ret;exact⟨rfl,HFIN.o⟩
def QfF:∀n:Nat,n<=1000000->∀(e:Exp)(c:Array Value)(W:World),siz (utN e)<=n+1->XAt W (In W) e c->Calls prog 112 #[.agg c] W (QbL W (Iv (Qfp e)))
 |n,hn,.mk k nn s l,c,W,hs,hx=>by
  obtain⟨ad,cc,rfl,_,hK⟩:=hx.kids;unfold utN at hs;rw[JA]at hs;refine QhG n (λe c W he hxe=>?_) k nn s l ad cc W zo hn hK
  cases n with
  |zero=>have:=Jdn e;omega
  |succ n=>exact QfF n zo e c W he hxe
def QdG(nf many:Nat)(nn:Int)(s:By):Qab nf many 0 nn s=((decide (0<=nn))&&(decide (nn<=1125899906842624))&&(decide (s=[]))):=by
 rw[Bool.eq_iff_iff];unfold Qab;simp[and_assoc]
def QdF(nf many:Nat)(nn:Int)(s:By):Qab nf many 1 nn s=((decide (0<=nn))&&(decide (nn<=1))&&(decide (s=[]))):=by
 rw[Bool.eq_iff_iff];unfold Qab;simp[and_assoc];refine⟨λ⟨a,b⟩=>⟨by omega,by omega,b⟩,λ⟨a,b,c⟩=>⟨by omega,c⟩⟩
def QdE(nf many:Nat)(nn:Int)(s:By):Qab nf many 2 nn s=((decide (0<=nn))&&(decide (nn<(many:Int)))&&(decide (s=[]))):=by
 rw[Bool.eq_iff_iff];unfold Qab;simp[and_assoc]
def QeE(nf many:Nat)(nn:Int)(s:By):Qab nf many 3 nn s=((decide (nn=0))&&((QaA s).isSome)):=by
 rw[Bool.eq_iff_iff];unfold Qab;simp[and_assoc]
def QfM(nf many:Nat)(nn:Int)(s:By):Qab nf many 4 nn s=((decide (nn=0))&&(QbM s)):=by
 rw[Bool.eq_iff_iff];unfold Qab;simp[and_assoc]
def QfL(nf many:Nat)(nn:Int)(s:By):Qab nf many 5 nn s=((decide (nn=0))&&(QbM s)):=by
 rw[Bool.eq_iff_iff];unfold Qab;simp[and_assoc]
def QdS(nf many:Nat)(nn:Int)(s:By):Qab nf many 19 nn s=((decide (nn=(many:Int)))&&(decide (s=[]))):=by
 rw[Bool.eq_iff_iff];unfold Qab;simp[and_assoc]
def Qdh(nf many:Nat)(nn:Int)(s:By):Qab nf many 20 nn s=((decide (0<=nn))&&(decide (nn<(nf:Int)))&&(decide (s=[]))):=by
 rw[Bool.eq_iff_iff];unfold Qab;simp[and_assoc]
def QfK(nf many:Nat)(k nn:Int)(s:By)(hk:0<=k/\k<21)(h0:k≠0)(h1:k≠1)(h2:k≠2)(h3:k≠3)(h4:k≠4)(h5:k≠5)(h19:k≠19)(h20:k≠20):Qab nf many k nn s=(decide (nn=0)&&decide (s=[])):=by
 rw[Bool.eq_iff_iff];unfold Qab;rw[if_neg h0,if_neg h1,if_neg h2,if_neg h19,if_neg h20,if_neg h3,if_neg zo];simp only[Bool.and_eq_true,beq_iff_eq,decide_eq_true_eq]
 constructor
 ·rintro⟨⟨⟨a,b⟩,_⟩,_⟩;exact⟨a,b⟩
 ·rintro⟨a,b⟩;exact⟨⟨⟨a,b⟩,hk.1⟩,hk.2⟩
def QfE(fs:List FnM)(fa:Option Addr)(fc:Nat)(n:Nat)(IH:∀(many:Nat)(e:Exp)(c:Array Value)(W:World),siz (utN e)<=n->many+siz (utN e)<=2000000->NmN e->XAt W (In W) e c->Calls prog 113 #[.slice fa fs.length fc,Iv many,.agg c] W (QbL W (.bool (shN fs.length many e))))
  (many:Nat) (k nn:Int) (s:By) (l:List Exp) (ad:Option Addr) (cc:Nat) (w:World) (hn:Qaz (utL l)<=n) (hn2:many+Qaz (utL l)+1<=2000000) (hs:s.length<=9223372036854775807) (hnm:NmL l) (hK:QbC w ad l):
  Calls prog 113 #[.slice fa fs.length fc,Iv many,.agg #[Iv k,Iv nn,Sv s,.slice ad l.length cc]] w (QbL w (.bool (shN fs.length many (.mk k nn s l)))):=by
 have u1:=Jk s;have HN:=Zh (And.intro hn hn2);have gB:=Zh hnm;have hb1:Below w.heap.size w (w.alloc (.cells #[Iv k,Iv nn,Sv s,.slice ad l.length cc] 50)):=zzb.alloc zzl _;have HCP:=Zh (zzw w (.cells #[Iv k,Iv nn,Sv s,.slice ad l.length cc] 50));have HKX:Hi (∀W,Below (w.alloc (.cells #[Iv k,Iv nn,Sv s,.slice ad l.length cc] 50)).heap.size (w.alloc (.cells #[Iv k,Iv nn,Sv s,.slice ad l.length cc] 50)) W->Bel w W):=λW hW=>Je hb1 hW
 have sA:=Zh hK;have nA:=Zh IH;have aB:l.length<=2000000:=by have:=JjH (Nat.le_refl (Qaz (utL l)));omega
 have nB:many<=2000000:=zo
 obtain⟨q,hq⟩:∃q,shN fs.length many (.mk k nn s l)=q:=⟨_,rfl⟩
 rw[hq];rw[Qia]at hq;have HQ:=Zh hq;have xB:=Zh λW=>QdR s W;have kA:=Zh λW=>Qez s W hs;obtain⟨bA,hA⟩:∃b,(!(decide (0<=k)&&decide (k<21)&&(k==20||l.length==ar0 k)))=b:=⟨_,rfl⟩
 have yA:=Zh hA;clear hb1 hK IH hn hn2 hq hs hnm hA;go_enter func113,ntmps113;go_upto_region 1 with fail;have HEB:Hi (w.heap.size<(w.alloc (.cells #[Iv k,Iv nn,Sv s,.slice ad l.length cc] 50)).heap.size):=Jb HCP.o;generalize World.alloc w _=w1 at*;generalize w.heap.size=eb at*
 have FF:Hi (∀W,Below w1.heap.size w1 W->W.cell? ⟨eb,0,none⟩=some (Iv k)/\W.cell? ⟨eb,1,none⟩=some (Iv nn)/\W.cell? ⟨eb,2,none⟩=some (Sv s)/\W.cell? ⟨eb,3,none⟩=some (.slice ad l.length cc)):=by
  intro W hW;have hh:=(hW.block _ HEB.o).trans HCP.o;refine⟨?_,?_,?_,?_⟩<;>(rw[Ja hh];rfl)
 have cA:Hi (Below w1.heap.size w1 w1):=zzb;obtain⟨b0,b1,b2,b3⟩:=FF.o _ cA.o;go_cut [32] λv wx=>v=.bool bA/\Below w1.heap.size w1 wx
 case first=>as_aux_lemma=>
  by_cases hk:0<=k/\k<21
  ·have d0:decide (k<0)=false:=zF zo;have d1:decide (21<=k)=false:=zF zo;have ck:=λW=>QiE k hk W
   obtain⟨kk,uA⟩:∃kk,Qke k=kk:=⟨_,rfl⟩
   rw[uA]at ck
   by_cases h20:k=20
   ·have d2:decide (0<=kk)=false:=zF (by rw[<-uA,h20];decide);have aA:bA=false:=by rw[<-yA.o,h20];rfl
    subst aA;clear hk uA h20 HQ yA;go_quiet (first|(with_reducible exact Qdu (ck _))|(with_reducible exact QcY (ck _)));go_wp2;go_meet;exact⟨rfl,J2 cA.o _⟩
   ·have qA:kk=(ar0 k:Int):=by rw[<-uA];unfold Qke;rw[if_neg h20]
    have d2:decide (0<=kk)=true:=zE zo
    by_cases hl:l.length=ar0 k
    ·have en:(kk==(l.length:Int))=true:=beq_iff_eq.2 zo;have eB:(kk !=(l.length:Int))=false:=by rw[bne,en];rfl
     have aA:bA=false:=by rw[<-yA.o,hl,zE hk.1,zE hk.2];simp
     subst aA;clear hk uA h20 qA hl HQ yA;go_quiet (first|(with_reducible exact Qdu (ck _))|(with_reducible exact QcY (ck _)));go_wp2;go_meet;exact⟨rfl,J2 cA.o _⟩
    ·have en:(kk==(l.length:Int))=false:=zzq zo;have eB:(kk !=(l.length:Int))=true:=by rw[bne,en];rfl
     have aA:bA=true:=by rw[<-yA.o,zzq hl,zzq h20];simp
     subst aA;clear hk uA h20 qA hl HQ yA;go_quiet (first|(with_reducible exact Qdu (ck _))|(with_reducible exact QcY (ck _)));go_wp2;go_meet;exact⟨rfl,J2 cA.o _⟩
  ·by_cases hk0:k<0
   ·have d0:decide (k<0)=true:=zE hk0;have aA:bA=true:=by rw[<-yA.o,zF (show ¬0<=k by omega)];rfl
    subst aA;clear hk hk0 HQ yA;go_quiet (fail);go_wp2;go_meet;exact⟨rfl,J2 cA.o _⟩
   ·have d0:decide (k<0)=false:=zF hk0;have d1:decide (21<=k)=true:=zE zo;have aA:bA=true:=by rw[<-yA.o,zF (show ¬k<21 by omega)];simp
    subst aA;clear hk hk0 HQ yA;go_quiet (fail);go_wp2;go_meet;exact⟨rfl,J2 cA.o _⟩
 case rest=>as_aux_lemma=>
 obtain⟨rfl,hb2⟩:=hcut;obtain⟨w2,rfl⟩:=zG wc
 have dA:=Zh hb2;clear hb2 b0 b1 b2 b3
 cases bA with
 |true=>
  have hqf:q=false:=by
   have hb:=yA.o;rw[<-HQ.o];rw[Bool.not_eq_true']at hb
   cases hfb:Qab fs.length many k nn s with
   |false=>rfl
   |true=>
    unfold Qab at hfb;simp only[Bool.and_eq_true,decide_eq_true_eq]at hfb;rw[zE hfb.1.2,zE hfb.2]at hb;simp only[Bool.true_and]at hb;rw[hb];rfl
  subst hqf;clear HQ yA;go_wp2;go_ret;exact⟨rfl,HKX.o _ dA.o⟩
 |false=>
 have uA:(0<=k/\k<21)/\(k==20||l.length==ar0 k)=true:=by
  have hb:=yA.o;rw[Bool.not_eq_false',Bool.and_eq_true,Bool.and_eq_true,decide_eq_true_eq,decide_eq_true_eq]at hb;exact hb
 have HK:=Zh uA.1
 replace HQ:Hi ((Qab fs.length many k nn s&&shL fs.length many k 0 l)=q):=by
  have h:=HQ.o;rw[uA.2,Bool.and_true]at h;exact h
 clear uA yA;obtain⟨gA,eA⟩:∃b,(decide (nn=0)&&decide (s=[]))=b:=⟨_,rfl⟩
 have vA:=Zh eA;clear eA;obtain⟨b0,b1,b2,b3⟩:=FF.o _ dA.o;go_upto_region 3 with fail;go_cut [7] λv wx=>v=.bool gA/\Below w1.heap.size w1 wx
 case first=>as_aux_lemma=>
  by_cases h0:nn=0
  ·have en:(nn==0)=true:=beq_iff_eq.2 h0
   by_cases h1:s=[]
   ·have es:(s==[])=true:=beq_iff_eq.2 h1;have ho:gA=true:=by rw[<-vA.o,zE h0,zE h1];rfl
    subst ho;clear h0 h1 vA HQ;go_wp2;go_meet;exact⟨rfl,dA.o⟩
   ·have es:(s==[])=false:=zzq h1;have ho:gA=false:=by rw[<-vA.o,zF h1];simp
    subst ho;clear h0 h1 vA HQ;go_wp2;go_meet;exact⟨rfl,dA.o⟩
  ·have en:(nn==0)=false:=zzq h0;have ho:gA=false:=by rw[<-vA.o,zF h0];rfl
   subst ho;clear h0 vA HQ;go_wp2;go_meet;exact⟨rfl,dA.o⟩
 case rest=>as_aux_lemma=>
 obtain⟨rfl,yB⟩:=hcut;obtain⟨w3,rfl⟩:=zG wc
 have xA:=Zh yB;clear yB b0 b1 b2 b3 dA;obtain⟨b0,b1,b2,b3⟩:=FF.o _ xA.o;go_upto_block 0 with fail;go_cut [7] λv wx=>v=.bool (Qab fs.length many k nn s)/\Below w1.heap.size w1 wx
 case first=>as_aux_lemma=>
  clear HQ nA sA FF
  by_cases k0:k=0
  ·subst k0
   as_aux_lemma=>
   by_cases h0:0<=nn
   ·have d0:decide (0<=nn)=true:=zE zo
    by_cases h1:nn<=1125899906842624
    ·have d1:decide (nn<=1125899906842624)=true:=zE zo
     by_cases h2:s=[]
     ·have es:(s==[])=true:=beq_iff_eq.2 h2;have HV:Hi (Qab fs.length many 0 nn s=true):=by rw[Hi,QdG];simp[h0,h1,h2]
      clear h0 h1 h2;go_wp2;go_meet;exact⟨congrArg Value.bool HV.o.symm,xA.o⟩
     ·have es:(s==[])=false:=zzq h2;have HV:Hi (Qab fs.length many 0 nn s=false):=by rw[Hi,QdG];simp[h0,h1,h2]
      clear h0 h1 h2;go_wp2;go_meet;exact⟨congrArg Value.bool HV.o.symm,xA.o⟩
    ·have d1:decide (nn<=1125899906842624)=false:=zF zo;have HV:Hi (Qab fs.length many 0 nn s=false):=by rw[Hi,QdG];simp[h0,h1]
     clear h0 h1;go_wp2;go_meet;exact⟨congrArg Value.bool HV.o.symm,xA.o⟩
   ·have d0:decide (0<=nn)=false:=zF zo;have HV:Hi (Qab fs.length many 0 nn s=false):=by rw[Hi,QdG];simp[h0]
    clear h0;go_wp2;go_meet;exact⟨congrArg Value.bool HV.o.symm,xA.o⟩
  have hB:(k==0)=false:=zzq k0
  by_cases k1:k=1
  ·subst k1
   as_aux_lemma=>
   by_cases h0:0<=nn
   ·have d0:decide (0<=nn)=true:=zE zo
    by_cases h1:nn<=1
    ·have d1:decide (nn<=1)=true:=zE zo
     by_cases h2:s=[]
     ·have es:(s==[])=true:=beq_iff_eq.2 h2;have HV:Hi (Qab fs.length many 1 nn s=true):=by rw[Hi,QdF];simp[h0,h1,h2]
      clear h0 h1 h2;go_wp2;go_meet;exact⟨congrArg Value.bool HV.o.symm,xA.o⟩
     ·have es:(s==[])=false:=zzq h2;have HV:Hi (Qab fs.length many 1 nn s=false):=by rw[Hi,QdF];simp[h0,h1,h2]
      clear h0 h1 h2;go_wp2;go_meet;exact⟨congrArg Value.bool HV.o.symm,xA.o⟩
    ·have d1:decide (nn<=1)=false:=zF zo;have HV:Hi (Qab fs.length many 1 nn s=false):=by rw[Hi,QdF];simp[h0,h1]
     clear h0 h1;go_wp2;go_meet;exact⟨congrArg Value.bool HV.o.symm,xA.o⟩
   ·have d0:decide (0<=nn)=false:=zF zo;have HV:Hi (Qab fs.length many 1 nn s=false):=by rw[Hi,QdF];simp[h0]
    clear h0;go_wp2;go_meet;exact⟨congrArg Value.bool HV.o.symm,xA.o⟩
  have mB:(k==1)=false:=zzq k1
  by_cases k2:k=2
  ·subst k2
   as_aux_lemma=>
   by_cases h0:0<=nn
   ·have d0:decide (0<=nn)=true:=zE zo
    by_cases h1:nn<(many:Int)
    ·have d1:decide (nn<(many:Int))=true:=zE zo
     by_cases h2:s=[]
     ·have es:(s==[])=true:=beq_iff_eq.2 h2;have HV:Hi (Qab fs.length many 2 nn s=true):=by rw[Hi,QdE];simp[h0,h1,h2]
      clear h0 h1 h2;go_wp2;go_meet;exact⟨congrArg Value.bool HV.o.symm,xA.o⟩
     ·have es:(s==[])=false:=zzq h2;have HV:Hi (Qab fs.length many 2 nn s=false):=by rw[Hi,QdE];simp[h0,h1,h2]
      clear h0 h1 h2;go_wp2;go_meet;exact⟨congrArg Value.bool HV.o.symm,xA.o⟩
    ·have d1:decide (nn<(many:Int))=false:=zF zo;have HV:Hi (Qab fs.length many 2 nn s=false):=by rw[Hi,QdE];simp[h0,h1]
     clear h0 h1;go_wp2;go_meet;exact⟨congrArg Value.bool HV.o.symm,xA.o⟩
   ·have d0:decide (0<=nn)=false:=zF zo;have HV:Hi (Qab fs.length many 2 nn s=false):=by rw[Hi,QdE];simp[h0]
    clear h0;go_wp2;go_meet;exact⟨congrArg Value.bool HV.o.symm,xA.o⟩
  have iB:(k==2)=false:=zzq k2
  by_cases k3:k=3
  ·subst k3
   as_aux_lemma=>
   by_cases h0:nn=0
   ·have en:(nn==0)=true:=beq_iff_eq.2 h0;have cf:=xB.o w3
    cases hf:QaA s with
    |none=>
     have HV:Hi (Qab fs.length many 3 nn s=false):=by rw[Hi,QeE];simp[h0,hf]
     rw[hf]at cf;clear hf h0;go_wp2_with fail;refine cf.mono ?_;rintro e w9 ⟨rfl,rfl⟩;clear cf;go_wp2;go_meet;exact⟨congrArg Value.bool HV.o.symm,xA.o⟩
    |some t=>
     have cB:t=0\/t=1:=QgZ hf;have d9:decide ((0:Int)<=t)=true:=zE zo;have HV:Hi (Qab fs.length many 3 nn s=true):=by rw[Hi,QeE];simp[h0,hf]
     rw[hf]at cf;clear hf cB h0;go_wp2_with fail;refine cf.mono ?_;rintro e w9 ⟨rfl,rfl⟩;clear cf;go_wp2;go_meet;exact⟨congrArg Value.bool HV.o.symm,xA.o⟩
   ·have en:(nn==0)=false:=zzq h0;have HV:Hi (Qab fs.length many 3 nn s=false):=by rw[Hi,QeE];simp[h0]
    clear h0;go_wp2;go_meet;exact⟨congrArg Value.bool HV.o.symm,xA.o⟩
  have kB:(k==3)=false:=zzq k3
  by_cases k4:k=4
  ·subst k4
   as_aux_lemma=>
   by_cases h0:nn=0
   ·have en:(nn==0)=true:=beq_iff_eq.2 h0;have ct:=kA.o w3;obtain⟨tb,ht⟩:∃tb,QbM s=tb:=⟨_,rfl⟩
    rw[ht]at ct;have HV:Hi (Qab fs.length many 4 nn s=tb):=by rw[Hi,QfM,ht];simp[h0]
    clear ht h0;go_wp2_with fail;refine ct.mono ?_;rintro e w9 ⟨rfl,rfl⟩;clear ct;go_wp2;go_meet;exact⟨congrArg Value.bool HV.o.symm,xA.o⟩
   ·have en:(nn==0)=false:=zzq h0;have HV:Hi (Qab fs.length many 4 nn s=false):=by rw[Hi,QfM];simp[h0]
    clear h0;go_wp2;go_meet;exact⟨congrArg Value.bool HV.o.symm,xA.o⟩
  have pB:(k==4)=false:=zzq k4
  by_cases k5:k=5
  ·subst k5
   as_aux_lemma=>
   by_cases h0:nn=0
   ·have en:(nn==0)=true:=beq_iff_eq.2 h0;have ct:=kA.o w3;obtain⟨tb,ht⟩:∃tb,QbM s=tb:=⟨_,rfl⟩
    rw[ht]at ct;have HV:Hi (Qab fs.length many 5 nn s=tb):=by rw[Hi,QfL,ht];simp[h0]
    clear ht h0;go_wp2_with fail;refine ct.mono ?_;rintro e w9 ⟨rfl,rfl⟩;clear ct;go_wp2;go_meet;exact⟨congrArg Value.bool HV.o.symm,xA.o⟩
   ·have en:(nn==0)=false:=zzq h0;have HV:Hi (Qab fs.length many 5 nn s=false):=by rw[Hi,QfL];simp[h0]
    clear h0;go_wp2;go_meet;exact⟨congrArg Value.bool HV.o.symm,xA.o⟩
  have jB:(k==5)=false:=zzq k5
  by_cases k19:k=19
  ·subst k19
   as_aux_lemma=>
   by_cases h0:nn=(many:Int)
   ·have en:(nn==(many:Int))=true:=beq_iff_eq.2 h0
    by_cases h1:s=[]
    ·have es:(s==[])=true:=beq_iff_eq.2 h1;have HV:Hi (Qab fs.length many 19 nn s=true):=by rw[Hi,QdS];simp[h0,h1]
     clear h0 h1;go_wp2;go_meet;exact⟨congrArg Value.bool HV.o.symm,xA.o⟩
    ·have es:(s==[])=false:=zzq h1;have HV:Hi (Qab fs.length many 19 nn s=false):=by rw[Hi,QdS];simp[h0,h1]
     clear h0 h1;go_wp2;go_meet;exact⟨congrArg Value.bool HV.o.symm,xA.o⟩
   ·have en:(nn==(many:Int))=false:=zzq h0;have HV:Hi (Qab fs.length many 19 nn s=false):=by rw[Hi,QdS];simp[h0]
    clear h0;go_wp2;go_meet;exact⟨congrArg Value.bool HV.o.symm,xA.o⟩
  have vB:(k==19)=false:=zzq k19
  by_cases k20:k=20
  ·subst k20
   as_aux_lemma=>
   by_cases h0:0<=nn
   ·have d0:decide (0<=nn)=true:=zE zo
    by_cases h1:nn<(fs.length:Int)
    ·have d1:decide (nn<(fs.length:Int))=true:=zE zo
     by_cases h2:s=[]
     ·have es:(s==[])=true:=beq_iff_eq.2 h2;have HV:Hi (Qab fs.length many 20 nn s=true):=by rw[Hi,Qdh];simp[h0,h1,h2]
      clear h0 h1 h2;go_wp2;go_meet;exact⟨congrArg Value.bool HV.o.symm,xA.o⟩
     ·have es:(s==[])=false:=zzq h2;have HV:Hi (Qab fs.length many 20 nn s=false):=by rw[Hi,Qdh];simp[h0,h1,h2]
      clear h0 h1 h2;go_wp2;go_meet;exact⟨congrArg Value.bool HV.o.symm,xA.o⟩
    ·have d1:decide (nn<(fs.length:Int))=false:=zF zo;have HV:Hi (Qab fs.length many 20 nn s=false):=by rw[Hi,Qdh];simp[h0,h1]
     clear h0 h1;go_wp2;go_meet;exact⟨congrArg Value.bool HV.o.symm,xA.o⟩
   ·have d0:decide (0<=nn)=false:=zF zo;have HV:Hi (Qab fs.length many 20 nn s=false):=by rw[Hi,Qdh];simp[h0]
    clear h0;go_wp2;go_meet;exact⟨congrArg Value.bool HV.o.symm,xA.o⟩
  have zB:(k==20)=false:=zzq k20;have HV:Hi (Qab fs.length many k nn s=gA):=by rw[Hi,QfK _ _ _ _ _ HK.o k0 k1 k2 k3 k4 k5 k19 k20,vA.o]
  clear vA k0 k1 k2 k3 k4 k5 k19 k20;go_wp2;go_meet;exact⟨congrArg Value.bool HV.o.symm,xA.o⟩
 case rest=>as_aux_lemma=>
 obtain⟨rfl,tA⟩:=hcut;obtain⟨w4,rfl⟩:=zG wc
 have rA:=Zh tA;clear tA b0 b1 b2 b3 xA vA xB kA;generalize Qab fs.length many k nn s=okf at*;replace HQ:Hi ((okf&&shL fs.length many k 0 (l.drop 0))=q):=HQ.o;go_wp2_with fail;go_loopg [7,8] l.length λg v7 v8 wr=>∃(i:Nat) (ok:Bool),g+i=l.length/\v8=Iv i/\v7=.bool ok/\Hi (Below w1.heap.size w1 wr/\(ok&&shL fs.length many k i (l.drop i))=q)
 case atStart=>exact⟨0,okf,rfl,rfl,rfl,rA.o,HQ.o⟩
 case round=>
 clear HQ rA;obtain⟨wl,rfl⟩:=zG wr
 obtain⟨i,ok,hg,rfl,rfl,hz⟩:=hrel;have HB:=Zh hz.o.1;have HQ:=Zh hz.o.2;clear hz;obtain⟨b0,b1,b2,b3⟩:=FF.o _ HB.o
 cases ok with
 |false=>
  obtain rfl:false=q:=HQ.o;clear HQ;go_wp2;go_ret;exact⟨rfl,HKX.o _ HB.o⟩
 |true=>
 by_cases hi:i<l.length
 ·have hil:(i:Int)<(l.length:Int):=zo
  have dil:decide ((i:Int)<(l.length:Int))=true:=zE hil;have mA:decide (i<l.length)=true:=zE hi;have wk:=zI i;have wm:=zI many;obtain⟨y,hy⟩:∃y,l[i]?=some y:=⟨l[i],List.getElem?_eq_getElem hi⟩
  have hmem:=List.mem_of_getElem? hy;have hsz:siz (utN y)<=Qaz (utL l):=Jbz hmem;obtain⟨b,o,da,dc,dB,hxy,c0,c1,c2,c3⟩:=sA.o.at' (HKX.o _ HB.o) hy
  have zA:l.drop i=y::l.drop (i+1):=by
   rw[List.drop_eq_getElem_cons hi];rw[List.getElem?_eq_getElem hi]at hy;rw[Option.some.inj hy]
  have hq2:=HQ.o;rw[zA,Qbn,Bool.true_and]at hq2;have jA:=λm (hm:m<=many+1)=>nA.o m y _ wl (zt HN.o.1) (zt HN.o.2) (JfA gB.o y hmem) hxy
  have iA:=Zh jA;have HG:=Zh (And.intro hg hi);subst dB
  by_cases h19:k=19/\i=1
  ·rw[if_pos h19]at hq2;have pA:(k==19)=true:=beq_iff_eq.2 h19.1;have ei:((i:Int)==1)=true:=beq_iff_eq.2 zo;have bB:(i==1)=true:=beq_iff_eq.2 h19.2;obtain⟨z,hz⟩:∃z,shN fs.length (many+1) y=z:=⟨_,rfl⟩
   rw[hz]at hq2;have HQ2:=Zh hq2;have ci:=iA.o (many+1) zo;rw[hz]at ci;rw[show ((many+1:Nat):Int)=(many:Int)+1 by omega]at ci;clear hz hsz hi hg hy hxy zA hq2 jA hmem iA HQ h19;go_wp2_with fail;refine ci.mono ?_;rintro e w7 ⟨rfl,hb7⟩;have HB7:=Zh (Je HB.o hb7);clear ci hb7 b0 b1 b2 b3 c0 c1 c2 c3;go_wp2;go_roundg (l.length-(i+1))
   case measure=>have:=HG.o;omega
   case rel=>exact⟨i+1,z,by have:=HG.o;omega,by go_num,rfl,HB7.o,HQ2.o⟩
  ·rw[if_neg h19]at hq2;obtain⟨z,hz⟩:∃z,shN fs.length many y=z:=⟨_,rfl⟩
   rw[hz]at hq2;have HQ2:=Zh hq2;have ci:=iA.o many zo;rw[hz]at ci
   by_cases hk19:k=19
   ·have pA:(k==19)=true:=beq_iff_eq.2 hk19;have ei:((i:Int)==1)=false:=zzq zo;have bB:(i==1)=false:=zzq zo;clear hz hsz hi hg hy hxy zA hq2 jA hmem iA HQ h19 hk19;go_wp2_with fail;refine ci.mono ?_;rintro e w7 ⟨rfl,hb7⟩;have HB7:=Zh (Je HB.o hb7);clear ci hb7 b0 b1 b2 b3 c0 c1 c2 c3;go_wp2;go_roundg (l.length-(i+1))
    case measure=>have:=HG.o;omega
    case rel=>exact⟨i+1,z,by have:=HG.o;omega,by go_num,rfl,HB7.o,HQ2.o⟩
   ·have pA:(k==19)=false:=zzq hk19;clear hz hsz hi hg hy hxy zA hq2 jA hmem iA HQ h19 hk19;go_wp2_with fail;refine ci.mono ?_;rintro e w7 ⟨rfl,hb7⟩;have HB7:=Zh (Je HB.o hb7);clear ci hb7 b0 b1 b2 b3 c0 c1 c2 c3;go_wp2;go_roundg (l.length-(i+1))
    case measure=>have:=HG.o;omega
    case rel=>exact⟨i+1,z,by have:=HG.o;omega,by go_num,rfl,HB7.o,HQ2.o⟩
 ·have hil:¬(i:Int)<(l.length:Int):=zo
  have dil:decide ((i:Int)<(l.length:Int))=false:=zF hil;have mA:decide (i<l.length)=false:=zF hi
  have uB:q=true:=by
   have h:=HQ.o;rw[List.drop_of_length_le zo,QfX]at h;exact h.symm
  subst uB;clear HQ hg hi;go_wp2;go_ret;exact⟨rfl,HKX.o _ HB.o⟩
def Qey(fs:List FnM)(fa:Option Addr)(fc:Nat):∀n:Nat,∀(many:Nat)(e:Exp)(c:Array Value)(W:World),siz (utN e)<=n->many+siz (utN e)<=2000000->NmN e->XAt W (In W) e c->Calls prog 113 #[.slice fa fs.length fc,Iv many,.agg c] W (QbL W (.bool (shN fs.length many e)))
 |0,many,e,c,W,hs,_,_,_=>by have:=Jdn e;omega
 |n+1,many,.mk k nn s l,c,W,hs,hm,hnm,hx=>by
  obtain⟨ad,cc,rfl,_,hK⟩:=hx.kids;unfold utN at hs hm;rw[JA]at hs hm;unfold NmN at hnm;exact QfE fs fa fc n (Qey fs fa fc n) many k nn s l ad cc W zo zo hnm.1 hnm.2 hK
def tyE(fs:List FnM)(vars:List Int)(e:Exp):Int:=(ofN (fs.map Qas) vars (utN e)).1
def QlJ(fs:List Qau)(vars:List Int)(nn:Int)(s:By)(z a b:Exp):(ofN fs vars (utN (.mk 18 nn s [z,a,b]))).1=(ofN fs vars (utN a)).1:=by rw[utN,utL,utL,utL,utL,YX];simp
def Qio{W:World}{n cc:Nat}{ad:Option Addr}{l:List Int}(h:Qbc W (In W) l (.slice ad n cc)):l=[]\/QlY gI W ad l:=by
 by_cases hl:l=[]
 ·exact .inl hl
 ·refine .inr ?_;obtain⟨xA,yA,hv,_,h1⟩:=h;injection hv with e1 e2 e3;subst e1
  rcases h1 with h1|⟨b,o,h2,_,h4⟩
  ·exact absurd h1 hl
  ·refine .inr ⟨_,h2,λj u hu=>?_⟩;rw[QfI]at hu;rw[QlV]
   cases hj:l[j]? with
   |none=>rw[hj]at hu;cases hu
   |some n=>
    rw[hj]at hu;obtain rfl:=Option.some.inj hu;exact h4 j n hj
def QgL{w:World}{base n:Nat}{v:Value}{l:List Int}(hl:l.length=n)(h:w.ownsRow base 3 1 v n (l.flatMap gI)):Qbc w (In w) l v:=by
 subst hl;obtain⟨A,C,rfl⟩:=JB h
 rcases VR h with⟨h1,h2,h3⟩|⟨b,rfl,h2,h3,h4⟩
 ·exact⟨A,C,rfl,by omega,.inl (List.eq_nil_of_length_eq_zero h3)⟩
 ·refine⟨_,C,rfl,h2,.inr ⟨b,0,rfl,(Za h (g:=b) rfl).1,λi n hi=>?_⟩⟩;rw[Nat.zero_add];exact h4 i _ (by rw[QfI,hi];rfl)
def QfR(fs:List FnM)(fa:Option Addr)(fc:Nat)(n:Nat):Prop:=∀(vars:List Int)(vv:Value)(e:Exp)(c:Array Value)(W:World),siz (utN e)<=n->RfI fs fa fc vars vv e c W->
 Calls prog 115 #[.slice fa fs.length fc,vv,.agg c] W (QbL W (Iv (tyE fs vars e)))
def QiC(fs:List FnM)(fa:Option Addr)(fc n:Nat)(IH:QfR fs fa fc n)(vars:List Int)(va:Option Addr)(vc:Nat)(k nn:Int)(s:By)(l:List Exp)(ad:Option Addr)(cc:Nat)(w:World)(hk:k=1\/k=5\/k=7\/k=13\/k=14\/k=15\/k=16\/k=17):
  Calls prog 115 #[.slice fa fs.length fc,.slice va vars.length vc,.agg #[Iv k,Iv nn,Sv s,.slice ad l.length cc]] w (QbL w (Iv (tyE fs vars (.mk k nn s l)))):=by
 unfold tyE;rw[QlK _ _ _ _ _ _ hk];have hb1:Below w.heap.size w (w.alloc (.cells #[Iv k,Iv nn,Sv s,.slice ad l.length cc] 50)):=zzb.alloc zzl _;have HCP:=Zh (zzw w (.cells #[Iv k,Iv nn,Sv s,.slice ad l.length cc] 50));have xA:=Zh (show Bel w _ from hb1);clear hb1;go_enter func115,ntmps115;go_upto_region 1 with fail;generalize World.alloc w _=w1 at*;generalize w.heap.size=eb at*;have b0:w1.cell? ⟨eb,0,none⟩=some (Iv k):=Ja HCP.o 0
 rcases hk with rfl|rfl|rfl|rfl|rfl|rfl|rfl|rfl
 all_goals
  go_wp2;go_ret;exact⟨rfl,xA.o⟩
def QhC(fs:List FnM)(fa:Option Addr)(fc n:Nat)(IH:QfR fs fa fc n)(vars:List Int)(va:Option Addr)(vc:Nat)(k nn:Int)(s:By)(l:List Exp)(ad:Option Addr)(cc:Nat)(w:World)(hk:k=0\/k=4\/k=6\/(8<=k/\k<=12)):
  Calls prog 115 #[.slice fa fs.length fc,.slice va vars.length vc,.agg #[Iv k,Iv nn,Sv s,.slice ad l.length cc]] w (QbL w (Iv (tyE fs vars (.mk k nn s l)))):=by
 unfold tyE;rw[QlL _ _ _ _ _ _ hk];have hb1:Below w.heap.size w (w.alloc (.cells #[Iv k,Iv nn,Sv s,.slice ad l.length cc] 50)):=zzb.alloc zzl _;have HCP:=Zh (zzw w (.cells #[Iv k,Iv nn,Sv s,.slice ad l.length cc] 50));have xA:=Zh (show Bel w _ from hb1);have q1:(k==1)=false:=zzq zo;have q2:(k==2)=false:=zzq zo;have q3:(k==3)=false:=zzq zo;have q5:(k==5)=false:=zzq zo;have q7:(k==7)=false:=zzq zo;have zA:(k==13)=false:=zzq zo;have aA:(k==14)=false:=zzq zo;have dA:(k==15)=false:=zzq zo;have cA:(k==16)=false:=zzq zo;have uA:(k==17)=false:=zzq zo;have vA:(k==18)=false:=zzq zo;have bA:(k==19)=false:=zzq zo;have yA:(k==20)=false:=zzq zo;clear hb1 hk;go_enter func115,ntmps115;go_upto_region 1 with fail;generalize World.alloc w _=w1 at*;generalize w.heap.size=eb at*;have b0:w1.cell? ⟨eb,0,none⟩=some (Iv k):=Ja HCP.o 0;go_wp2;go_ret;exact⟨rfl,xA.o⟩
def QiB(fs:List FnM)(fa:Option Addr)(fc n:Nat)(IH:QfR fs fa fc n)(vars:List Int)(va:Option Addr)(vc:Nat)(nn:Int)(s:By)(l:List Exp)(ad:Option Addr)(cc:Nat)(w:World)(hn:Qaz (utL l)<=n)(hI:RfI fs fa fc vars (.slice va vars.length vc) (.mk 2 nn s l) #[Iv 2,Iv nn,Sv s,.slice ad l.length cc] w)(hK:QbC w ad l):
  Calls prog 115 #[.slice fa fs.length fc,.slice va vars.length vc,.agg #[Iv 2,Iv nn,Sv s,.slice ad l.length cc]] w (QbL w (Iv (tyE fs vars (.mk 2 nn s l)))):=by
 have hb1:Below w.heap.size w (w.alloc (.cells #[Iv 2,Iv nn,Sv s,.slice ad l.length cc] 50)):=zzb.alloc zzl _;have HCP:=Zh (zzw w (.cells #[Iv 2,Iv nn,Sv s,.slice ad l.length cc] 50));have HKX:Hi (∀W,Below (w.alloc (.cells #[Iv 2,Iv nn,Sv s,.slice ad l.length cc] 50)).heap.size (w.alloc (.cells #[Iv 2,Iv nn,Sv s,.slice ad l.length cc] 50)) W->Bel w W):=λW hW=>Je hb1 hW
 have HI:=Zh hI;have vA:=Zh hK;have aA:=Zh IH;have HN:=Zh hn;clear hb1 hI hK IH hn;unfold tyE;rw[QlI]
 have yA:0<=nn/\nn<(vars.length:Int):=by
  obtain⟨hf,_⟩:=QaS HI.o.sh;unfold Qab at hf;simp at hf;exact⟨hf.1.1,by omega⟩
 obtain⟨i,rfl⟩:∃i:Nat,nn=i:=⟨nn.toNat,by omega⟩
 have hil:(i:Int)<(vars.length:Int):=yA.2;have hi:i<vars.length:=zo
 obtain⟨v,hv⟩:∃v,vars[i]?=some v:=⟨vars[i],List.getElem?_eq_getElem hi⟩
 rw[Int.toNat_natCast,List.getD_eq_getElem?_getD,hv,Option.getD_some];have HV:=Zh hv;clear yA hv;go_enter func115,ntmps115;go_upto_region 1 with fail;have HEB:Hi (w.heap.size<(w.alloc (.cells #[Iv 2,Iv (i:Int),Sv s,.slice ad l.length cc] 50)).heap.size):=Jb HCP.o;generalize World.alloc w _=w1 at*;generalize w.heap.size=eb at*
 have FF:Hi (∀W,Below w1.heap.size w1 W->W.cell? ⟨eb,0,none⟩=some (Iv 2)/\W.cell? ⟨eb,1,none⟩=some (Iv (i:Int))/\W.cell? ⟨eb,2,none⟩=some (Sv s)/\W.cell? ⟨eb,3,none⟩=some (.slice ad l.length cc)):=by
  intro W hW;have hh:=(hW.block _ HEB.o).trans HCP.o;refine⟨?_,?_,?_,?_⟩<;>(rw[Ja hh];rfl)
 have xA:Hi (Below w1.heap.size w1 w1):=zzb;obtain⟨b0,b1,b2,b3⟩:=FF.o _ xA.o;obtain⟨g,og,zA,_,uA⟩:=(HI.o.up (HKX.o _ xA.o)).nums.get HV.o;subst zA;have HFIN:=Zh (HKX.o _ xA.o);go_wp2;go_ret;exact⟨rfl,HFIN.o⟩
def QhD(fs:List FnM)(fa:Option Addr)(fc n:Nat)(IH:QfR fs fa fc n)(vars:List Int)(va:Option Addr)(vc:Nat)(nn:Int)(s:By)(l:List Exp)(ad:Option Addr)(cc:Nat)(w:World)(hn:Qaz (utL l)<=n)(hI:RfI fs fa fc vars (.slice va vars.length vc) (.mk 3 nn s l) #[Iv 3,Iv nn,Sv s,.slice ad l.length cc] w)(hK:QbC w ad l):
  Calls prog 115 #[.slice fa fs.length fc,.slice va vars.length vc,.agg #[Iv 3,Iv nn,Sv s,.slice ad l.length cc]] w (QbL w (Iv (tyE fs vars (.mk 3 nn s l)))):=by
 have hb1:Below w.heap.size w (w.alloc (.cells #[Iv 3,Iv nn,Sv s,.slice ad l.length cc] 50)):=zzb.alloc zzl _;have HCP:=Zh (zzw w (.cells #[Iv 3,Iv nn,Sv s,.slice ad l.length cc] 50));have HKX:Hi (∀W,Below (w.alloc (.cells #[Iv 3,Iv nn,Sv s,.slice ad l.length cc] 50)).heap.size (w.alloc (.cells #[Iv 3,Iv nn,Sv s,.slice ad l.length cc] 50)) W->Bel w W):=λW hW=>Je hb1 hW
 have HI:=Zh hI;have zA:=Zh hK;have uA:=Zh IH;have HN:=Zh hn;clear hb1 hI hK IH hn;unfold tyE;rw[QlH];have cf:=λW=>QdR s W
 have xA:(QaA s).getD (-1)=(QaA s).getD 0:=by
  obtain⟨hf,_⟩:=QaS HI.o.sh;unfold Qab at hf;simp at hf
  cases h:QaA s with
  |none=>rw[h]at hf;simp at hf
  |some t=>rfl
 rw[xA]at cf;generalize (QaA s).getD 0=q at*;clear xA;go_enter func115,ntmps115;go_upto_region 1 with fail;have HEB:Hi (w.heap.size<(w.alloc (.cells #[Iv 3,Iv nn,Sv s,.slice ad l.length cc] 50)).heap.size):=Jb HCP.o;generalize World.alloc w _=w1 at*;generalize w.heap.size=eb at*
 have FF:Hi (∀W,Below w1.heap.size w1 W->W.cell? ⟨eb,0,none⟩=some (Iv 3)/\W.cell? ⟨eb,1,none⟩=some (Iv nn)/\W.cell? ⟨eb,2,none⟩=some (Sv s)/\W.cell? ⟨eb,3,none⟩=some (.slice ad l.length cc)):=by
  intro W hW;have hh:=(hW.block _ HEB.o).trans HCP.o;refine⟨?_,?_,?_,?_⟩<;>(rw[Ja hh];rfl)
 have yA:Hi (Below w1.heap.size w1 w1):=zzb;obtain⟨b0,b1,b2,b3⟩:=FF.o _ yA.o;have HFIN:=Zh (HKX.o _ yA.o);go_wp2_with fail;refine(cf _).mono ?_;rintro e w9 ⟨rfl,rfl⟩;clear cf;go_wp2;go_ret;exact⟨rfl,HFIN.o⟩
def QhE(fs:List FnM)(fa:Option Addr)(fc n:Nat)(IH:QfR fs fa fc n)(vars:List Int)(va:Option Addr)(vc:Nat)(nn:Int)(s:By)(l:List Exp)(ad:Option Addr)(cc:Nat)(w:World)(hn:Qaz (utL l)<=n)(hI:RfI fs fa fc vars (.slice va vars.length vc) (.mk 20 nn s l) #[Iv 20,Iv nn,Sv s,.slice ad l.length cc] w)(hK:QbC w ad l):
  Calls prog 115 #[.slice fa fs.length fc,.slice va vars.length vc,.agg #[Iv 20,Iv nn,Sv s,.slice ad l.length cc]] w (QbL w (Iv (tyE fs vars (.mk 20 nn s l)))):=by
 have hb1:Below w.heap.size w (w.alloc (.cells #[Iv 20,Iv nn,Sv s,.slice ad l.length cc] 50)):=zzb.alloc zzl _;have HCP:=Zh (zzw w (.cells #[Iv 20,Iv nn,Sv s,.slice ad l.length cc] 50));have HKX:Hi (∀W,Below (w.alloc (.cells #[Iv 20,Iv nn,Sv s,.slice ad l.length cc] 50)).heap.size (w.alloc (.cells #[Iv 20,Iv nn,Sv s,.slice ad l.length cc] 50)) W->Bel w W):=λW hW=>Je hb1 hW
 have HI:=Zh hI;have uA:=Zh hK;have vA:=Zh IH;have HN:=Zh hn;clear hb1 hI hK IH hn;unfold tyE;rw[QjE]
 have zA:0<=nn/\nn<(fs.length:Int):=by
  obtain⟨hf,_⟩:=QaS HI.o.sh;unfold Qab at hf;simp at hf;exact⟨hf.1.1,by omega⟩
 obtain⟨i,rfl⟩:∃i:Nat,nn=i:=⟨nn.toNat,by omega⟩
 have hil:(i:Int)<(fs.length:Int):=zA.2;obtain⟨g,hg⟩:∃g,fs[i]?=some g:=⟨fs[i]'(by omega),List.getElem?_eq_getElem _⟩
 have yA:((fs.map Qas).getD (i:Int).toNat ⟨[],0⟩).result=g.result:=by
  rw[Int.toNat_natCast,List.getD_eq_getElem?_getD,List.getElem?_map,hg];rfl
 rw[yA];have HG:=Zh hg;clear zA hg yA;go_enter func115,ntmps115;go_upto_region 1 with fail;have HEB:Hi (w.heap.size<(w.alloc (.cells #[Iv 20,Iv (i:Int),Sv s,.slice ad l.length cc] 50)).heap.size):=Jb HCP.o;generalize World.alloc w _=w1 at*;generalize w.heap.size=eb at*
 have FF:Hi (∀W,Below w1.heap.size w1 W->W.cell? ⟨eb,0,none⟩=some (Iv 20)/\W.cell? ⟨eb,1,none⟩=some (Iv (i:Int))/\W.cell? ⟨eb,2,none⟩=some (Sv s)/\W.cell? ⟨eb,3,none⟩=some (.slice ad l.length cc)):=by
  intro W hW;have hh:=(hW.block _ HEB.o).trans HCP.o;refine⟨?_,?_,?_,?_⟩<;>(rw[Ja hh];rfl)
 have xA:Hi (Below w1.heap.size w1 w1):=zzb;obtain⟨b0,b1,b2,b3⟩:=FF.o _ xA.o;obtain⟨bf,of,pa,pc,da,dc,hfa,hfc⟩:=((HI.o.up (HKX.o _ xA.o)).fns).get HG.o;have c2:=hfc.c2;subst hfa;clear hfc;have HFIN:=Zh (HKX.o _ xA.o);go_wp2;go_ret;exact⟨rfl,HFIN.o⟩
def Qjo(fs:List FnM)(fa:Option Addr)(fc n:Nat)(IH:QfR fs fa fc n)(vars:List Int)(va:Option Addr)(vc:Nat)(nn:Int)(s:By)(z a b:Exp)(ad:Option Addr)(cc:Nat)(w:World)(hn:Qaz (utL [z,a,b])<=n)(hI:RfI fs fa fc vars (.slice va vars.length vc) (.mk 18 nn s [z,a,b]) #[Iv 18,Iv nn,Sv s,.slice ad [z,a,b].length cc] w)(hK:QbC w ad [z,a,b]):
  Calls prog 115 #[.slice fa fs.length fc,.slice va vars.length vc,.agg #[Iv 18,Iv nn,Sv s,.slice ad [z,a,b].length cc]] w (QbL w (Iv (tyE fs vars (.mk 18 nn s [z,a,b])))):=by
 have hb1:Below w.heap.size w (w.alloc (.cells #[Iv 18,Iv nn,Sv s,.slice ad [z,a,b].length cc] 50)):=zzb.alloc zzl _;have HCP:=Zh (zzw w (.cells #[Iv 18,Iv nn,Sv s,.slice ad [z,a,b].length cc] 50));have HKX:Hi (∀W,Below (w.alloc (.cells #[Iv 18,Iv nn,Sv s,.slice ad [z,a,b].length cc] 50)).heap.size (w.alloc (.cells #[Iv 18,Iv nn,Sv s,.slice ad [z,a,b].length cc] 50)) W->Bel w W):=λW hW=>Je hb1 hW
 have HI:=Zh hI;have uA:=Zh hK;have vA:=Zh IH;have HN:=Zh hn;unfold tyE;rw[QlJ];go_enter func115,ntmps115;go_upto_region 1 with fail;have HEB:Hi (w.heap.size<(w.alloc (.cells #[Iv 18,Iv nn,Sv s,.slice ad [z,a,b].length cc] 50)).heap.size):=Jb HCP.o;generalize World.alloc w _=w1 at*;generalize w.heap.size=eb at*
 have FF:Hi (∀W,Below w1.heap.size w1 W->W.cell? ⟨eb,0,none⟩=some (Iv 18)/\W.cell? ⟨eb,1,none⟩=some (Iv nn)/\W.cell? ⟨eb,2,none⟩=some (Sv s)/\W.cell? ⟨eb,3,none⟩=some (.slice ad [z,a,b].length cc)):=by
  intro W hW;have hh:=(hW.block _ HEB.o).trans HCP.o;refine⟨?_,?_,?_,?_⟩<;>(rw[Ja hh];rfl)
 have xA:Hi (Below w1.heap.size w1 w1):=zzb;obtain⟨b0,b1,b2,b3⟩:=FF.o _ xA.o;obtain⟨ba,oa,da,ca,bA,aA,k0,k1,k2,k3⟩:=uA.o.at' (HKX.o _ xA.o) (i:=1) (y:=a) rfl;simp only[Nat.one_mul]at k0 k1 k2 k3
 have yA:RfI fs fa fc vars (.slice va vars.length vc) a #[Iv a.kind,Iv a.num,.string (bs a.name),.slice da a.kids.length ca] w1:=by
  have h:=HI.o.up (HKX.o _ xA.o);obtain⟨_,_,_,hl⟩:=QaS h.sh;have hsz:=h.sz;rw[utN,JA]at hsz;have hm:=Jbz (l:=[z,a,b]) (a:=a) zp;have zA:=h.nm;unfold NmN at zA;exact⟨h.fns,h.nums,aA,QfY zd hl a zp,by omega,JfA zA.2 a zp⟩
 have ci:=vA.o _ _ a _ w1 (zu HN.o (Jbz (l:=[z,a,b]) (a:=a) zp)) yA;unfold tyE at ci;subst bA;go_wp2_with fail;refine ci.mono ?_;rintro e w7 ⟨rfl,hb7⟩;have HB7:=Zh (Je (HKX.o _ xA.o) hb7);go_wp2;go_ret;exact⟨rfl,HB7.o⟩
def QiD(fs:List FnM)(fa:Option Addr)(fc n:Nat)(IH:QfR fs fa fc n)(vars:List Int)(va:Option Addr)(vc:Nat)(nn:Int)(s:By)(a b:Exp)(ad:Option Addr)(cc:Nat)(w:World)(hn:Qaz (utL [a,b])<=n)(hI:RfI fs fa fc vars (.slice va vars.length vc) (.mk 19 nn s [a,b]) #[Iv 19,Iv nn,Sv s,.slice ad [a,b].length cc] w)(hK:QbC w ad [a,b]):
  Calls prog 115 #[.slice fa fs.length fc,.slice va vars.length vc,.agg #[Iv 19,Iv nn,Sv s,.slice ad [a,b].length cc]] w (QbL w (Iv (tyE fs vars (.mk 19 nn s [a,b])))):=by
 have hb1:Below w.heap.size w (w.alloc (.cells #[Iv 19,Iv nn,Sv s,.slice ad [a,b].length cc] 50)):=zzb.alloc zzl _;have HCP:=Zh (zzw w (.cells #[Iv 19,Iv nn,Sv s,.slice ad [a,b].length cc] 50));have HKX:Hi (∀W,Below (w.alloc (.cells #[Iv 19,Iv nn,Sv s,.slice ad [a,b].length cc] 50)).heap.size (w.alloc (.cells #[Iv 19,Iv nn,Sv s,.slice ad [a,b].length cc] 50)) W->Bel w W):=λW hW=>Je hb1 hW
 have HI:=Zh hI;have qA:=Zh hK;have dA:=Zh IH;have HN:=Zh hn;unfold tyE;rw[Qgj];obtain⟨ta,cA⟩:∃t,(ofN (fs.map Qas) vars (utN a)).1=t:=⟨_,rfl⟩
 rw[cA];obtain⟨tb,bA⟩:∃t,(ofN (fs.map Qas) (vars++[ta]) (utN b)).1=t:=⟨_,rfl⟩
 rw[bA];go_enter func115,ntmps115;go_upto_region 1 with fail;have HEB:Hi (w.heap.size<(w.alloc (.cells #[Iv 19,Iv nn,Sv s,.slice ad [a,b].length cc] 50)).heap.size):=Jb HCP.o;generalize World.alloc w _=w1 at*;generalize w.heap.size=eb at*
 have FF:Hi (∀W,Below w1.heap.size w1 W->W.cell? ⟨eb,0,none⟩=some (Iv 19)/\W.cell? ⟨eb,1,none⟩=some (Iv nn)/\W.cell? ⟨eb,2,none⟩=some (Sv s)/\W.cell? ⟨eb,3,none⟩=some (.slice ad [a,b].length cc)):=by
  intro W hW;have hh:=(hW.block _ HEB.o).trans HCP.o;refine⟨?_,?_,?_,?_⟩<;>(rw[Ja hh];rfl)
 have pA:Hi (Below w1.heap.size w1 w1):=zzb;obtain⟨b0,b1,b2,b3⟩:=FF.o _ pA.o;obtain⟨kb,ko,mA,_,aA⟩:=(qA.o).at0 zp;obtain⟨da,ca,jA,hfa⟩:=aA 0 a rfl;obtain⟨db,cb,eA,gA⟩:=aA 1 b rfl;subst mA
 have FG:Hi (∀W,Below w1.heap.size w1 W->(W.cell? ⟨eb,3,none⟩=some (.slice (some ⟨kb,ko,none⟩) [a,b].length cc)/\W.cell? ⟨kb,ko,none⟩=some (Iv a.kind)/\W.cell? ⟨kb,ko+1,none⟩=some (Iv a.num)/\W.cell? ⟨kb,ko+2,none⟩=some (.string (bs a.name))/\W.cell? ⟨kb,ko+3,none⟩=some (.slice da a.kids.length ca)/\W.cell? ⟨kb,ko+4,none⟩=some (Iv b.kind)/\W.cell? ⟨kb,ko+4+1,none⟩=some (Iv b.num)/\W.cell? ⟨kb,ko+4+2,none⟩=some (.string (bs b.name))/\W.cell? ⟨kb,ko+4+3,none⟩=some (.slice db b.kids.length cb))):=by
  intro W hW;obtain⟨k0,k1,k2,k3⟩:=hfa W (HKX.o _ hW);obtain⟨m0,m1,m2,m3⟩:=gA W (HKX.o _ hW);simp only[Nat.zero_mul,Nat.add_zero,Nat.one_mul]at k0 k1 k2 k3 m0 m1 m2 m3;exact⟨(FF.o W hW).2.2.2,k0,k1,k2,k3,m0,m1,m2,m3⟩
 have zA:Hi (∀W,Below w1.heap.size w1 W->RfI fs fa fc vars (.slice va vars.length vc) (.mk 19 nn s [a,b]) _ W):=λW hW=>HI.o.up (HKX.o _ hW)
 have hA:Hi (vars.length<=2000000):=by have:=HI.o.sz;unfold Hi;omega
 have iA:Hi (∀W,Below w1.heap.size w1 W->Calls prog 115 #[.slice fa fs.length fc,.slice va vars.length vc,.agg #[Iv a.kind,Iv a.num,.string (bs a.name),.slice da a.kids.length ca]] W (QbL W (Iv ta))):=by
  intro W hW;have h:=zA.o W hW;obtain⟨_,_,_,hl⟩:=QaS h.sh;rw[Qbn,Qbn,if_neg zp,Bool.and_eq_true]at hl;have hsz:=h.sz;rw[utN,JA]at hsz;have hm:=Jbz (l:=[a,b]) (a:=a) zp;have yA:=h.nm;unfold NmN at yA;have ci:=dA.o vars _ a _ W (zt HN.o) ⟨h.fns,h.nums,XAt.keep (λq hq=>(HKX.o _ hW).block q hq) (λq hq=>In.up (HKX.o _ hW) hq) _ _ jA,hl.1,by omega,JfA yA.2 a zp⟩;unfold tyE at ci;rw[cA]at ci;exact ci
 have HCB:Hi (∀vv W,Below w1.heap.size w1 W->Qbc W (In W) (vars++[ta]) vv->Calls prog 115 #[.slice fa fs.length fc,vv,.agg #[Iv b.kind,Iv b.num,.string (bs b.name),.slice db b.kids.length cb]] W (QbL W (Iv tb))):=by
  intro vv W hW uA;have h:=zA.o W hW;obtain⟨_,_,_,hl⟩:=QaS h.sh;rw[Qbn,Qbn,if_neg zp,if_pos ⟨rfl,rfl⟩,Bool.and_eq_true,Bool.and_eq_true]at hl;have hsz:=h.sz;rw[utN,JA,utL,utL,Ju,Ju]at hsz;have hp:=KN (utN a);have hm:=Jbz (l:=[a,b]) (a:=b) zp;have yA:=h.nm;unfold NmN at yA;have ci:=dA.o (vars++[ta]) vv b _ W (zt HN.o) ⟨h.fns,uA,XAt.keep (λq hq=>(HKX.o _ hW).block q hq) (λq hq=>In.up (HKX.o _ hW) hq) _ _ eA,by rw[List.length_append,List.length_singleton];exact hl.2.1,by rw[List.length_append,List.length_singleton];omega,JfA yA.2 b zp⟩;unfold tyE at ci;rw[bA]at ci;exact ci
 go_upto_region 18 with fail;have HB:=Zh (Below.refl w1.heap.size w1).drew;refine wp_region_held_drew (S:=(λW=>Below w1.heap.size w1 W/\(W.cell? ⟨eb,3,none⟩=some (.slice (some ⟨kb,ko,none⟩) [a,b].length cc)/\W.cell? ⟨kb,ko,none⟩=some (Iv a.kind)/\W.cell? ⟨kb,ko+1,none⟩=some (Iv a.num)/\W.cell? ⟨kb,ko+2,none⟩=some (.string (bs a.name))/\W.cell? ⟨kb,ko+3,none⟩=some (.slice da a.kids.length ca)/\W.cell? ⟨kb,ko+4,none⟩=some (Iv b.kind)/\W.cell? ⟨kb,ko+4+1,none⟩=some (Iv b.num)/\W.cell? ⟨kb,ko+4+2,none⟩=some (.string (bs b.name))/\W.cell? ⟨kb,ko+4+3,none⟩=some (.slice db b.kids.length cb)))) zk (⟨HB.o,FG.o _ HB.o⟩) λhHeld=>?_;refine wpAnyH_take (i:=0) (oi:={dst:=some 41,op:=Go.Op.move (Go.Operand.tmp 0),type:=27,pos:="ref.go:514",after:=#[],guard:=none}) (v:=?vT1_0) rfl zk zk zk (λ_ _ _ h=>h) (Or.inl ⟨by rfl,?yT1_0⟩) (by assumption) ?_
 case yT1_0=>(intro wX hSw;(try dsimp only at hSw);go_simp<;>with_reducible rfl)
 refine wpAnyH_take (i:=2) (oi:={dst:=some 43,op:=Go.Op.move (Go.Operand.tmp 1),type:=55,pos:="ref.go:514",after:=#[],guard:=none}) (v:=?vT1_2) rfl zk zk zk (λ_ _ _ h=>h) (Or.inl ⟨by rfl,?yT1_2⟩) (by assumption) ?_
 case yT1_2=>(intro wX hSw;(try dsimp only at hSw);go_simp<;>with_reducible rfl)
 refine wpAnyH_take (i:=4) (oi:={dst:=some 45,op:=Go.Op.move (Go.Operand.tmp 0),type:=27,pos:="ref.go:514",after:=#[],guard:=none}) (v:=?vT1_4) rfl zk zk zk (λ_ _ _ h=>h) (Or.inl ⟨by rfl,?yT1_4⟩) (by assumption) ?_
 case yT1_4=>(intro wX hSw;(try dsimp only at hSw);go_simp<;>with_reducible rfl)
 refine wpAnyH_take (i:=5) (oi:={dst:=some 46,op:=Go.Op.move (Go.Operand.tmp 1),type:=55,pos:="ref.go:514",after:=#[],guard:=none}) (v:=?vT1_5) rfl zk zk zk (λ_ _ _ h=>h) (Or.inl ⟨by rfl,?yT1_5⟩) (by assumption) ?_
 case yT1_5=>(intro wX hSw;(try dsimp only at hSw);go_simp<;>with_reducible rfl)
 refine wpAnyH_take (i:=6) (oi:={dst:=some 47,op:=Go.Op.fieldAddr 50 (Go.Operand.tmp 5) 3,type:=0,pos:="ref.go:514",after:=#[],guard:=none}) (v:=?vT1_6) rfl zk zk zk (λ_ _ _ h=>h) (Or.inl ⟨by rfl,?yT1_6⟩) (by assumption) ?_
 case yT1_6=>(intro wX hSw;(try dsimp only at hSw);go_simp<;>with_reducible rfl)
 refine wpAnyH_take (i:=7) (oi:={dst:=some 48,op:=Go.Op.load 48 (Go.Operand.tmp 47),type:=48,pos:="ref.go:514",after:=#[{on:=6,ground:=Go.Ground.data}],guard:=none}) (v:=?vT1_7) rfl zk zk zk (λ_ _ _ h=>h) (Or.inl ⟨by rfl,?yT1_7⟩) (by assumption) ?_
 case yT1_7=>(intro wX hSw;(try dsimp only at hSw);go_simp<;>with_reducible rfl)
 refine wpAnyH_take (i:=8) (oi:={dst:=some 49,op:=Go.Op.indexAddr 48 (Go.Operand.tmp 48) (Go.Operand.const (Go.Value.int Go.IntKind.i64 0)),type:=0,pos:="ref.go:514",after:=#[{on:=7,ground:=Go.Ground.data}],guard:=none}) (v:=?vT1_8) rfl zk zk zk (λ_ _ _ h=>h) (Or.inl ⟨by rfl,?yT1_8⟩) (by assumption) ?_
 case yT1_8=>(intro wX hSw;(try dsimp only at hSw);go_simp<;>with_reducible rfl)
 refine wpAnyH_take (i:=9) (oi:={dst:=some 50,op:=Go.Op.load 50 (Go.Operand.tmp 49),type:=50,pos:="ref.go:514",after:=#[{on:=8,ground:=Go.Ground.data}],guard:=none}) (v:=?vT1_9) rfl zk zk zk (λ_ _ _ h=>h) (Or.inl ⟨by rfl,?yT1_9⟩) (by assumption) ?_
 case yT1_9=>(intro wX hSw;(try dsimp only at hSw);go_simp<;>with_reducible rfl)
 refine wpAnyH_take (i:=13) (oi:={dst:=some 54,op:=Go.Op.fieldAddr 50 (Go.Operand.tmp 5) 3,type:=0,pos:="ref.go:514",after:=#[],guard:=none}) (v:=?vT1_13) rfl zk zk zk (λ_ _ _ h=>h) (Or.inl ⟨by rfl,?yT1_13⟩) (by assumption) ?_
 case yT1_13=>(intro wX hSw;(try dsimp only at hSw);go_simp<;>with_reducible rfl)
 refine wpAnyH_take (i:=14) (oi:={dst:=some 55,op:=Go.Op.load 48 (Go.Operand.tmp 54),type:=48,pos:="ref.go:514",after:=#[{on:=13,ground:=Go.Ground.data}],guard:=none}) (v:=?vT1_14) rfl zk zk zk (λ_ _ _ h=>h) (Or.inl ⟨by rfl,?yT1_14⟩) (by assumption) ?_
 case yT1_14=>(intro wX hSw;(try dsimp only at hSw);go_simp<;>with_reducible rfl)
 refine wpAnyH_take (i:=15) (oi:={dst:=some 56,op:=Go.Op.indexAddr 48 (Go.Operand.tmp 55) (Go.Operand.const (Go.Value.int Go.IntKind.i64 1)),type:=0,pos:="ref.go:514",after:=#[{on:=14,ground:=Go.Ground.data}],guard:=none}) (v:=?vT1_15) rfl zk zk zk (λ_ _ _ h=>h) (Or.inl ⟨by rfl,?yT1_15⟩) (by assumption) ?_
 case yT1_15=>(intro wX hSw;(try dsimp only at hSw);go_simp<;>with_reducible rfl)
 try simp only[zX]
 refine wpAnyH_take (i:=16) (oi:={dst:=some 57,op:=Go.Op.load 50 (Go.Operand.tmp 56),type:=50,pos:="ref.go:514",after:=#[{on:=15,ground:=Go.Ground.data}],guard:=none}) (v:=?vT1_16) rfl zk zk zk (λ_ _ _ h=>h) (Or.inl ⟨by rfl,?yT1_16⟩) (by assumption) ?_
 case yT1_16=>(intro wX hSw;(try dsimp only at hSw);go_simp<;>with_reducible rfl)
 try simp only[zX]
 refine wpAnyH_ready (rs:=[1]) zk zp (AllReadyH.cons (o:={dst:=some 42,op:=Go.Op.buildSlice 55 0 #[],type:=55,pos:="ref.go:514",after:=#[],guard:=none}) rfl (λK hK=>?_) AllReadyH.nil);go_simp;have HA:=Zh (Kw (Vj w1.drew 3 1) HB.o.size);replace HB:=Zh (HB.o.alloc HB.o.size (.cells #[] 3));refine zU hK (⟨HB.o,FG.o _ HB.o⟩) λhHeld=>?_
 try simp only[zX]
 refine wpAnyH_ready (rs:=[3]) zk zp (AllReadyH.cons (o:={dst:=some 44,op:=Go.Op.call {callee:=Go.Callee.builtin Go.Builtin.append,args:=#[Go.Operand.tmp 42,Go.Operand.tmp 43],argTypes:=#[55,55]},type:=55,pos:="ref.go:514",after:=#[{on:=1,ground:=Go.Ground.data},{on:=2,ground:=Go.Ground.data}],guard:=none}) rfl (λK hK=>?_) AllReadyH.nil);rw[if_pos zr];refine Jr elI QeC QeB _ _ rfl w1.heap.size (.slice (some ⟨w1.heap.size,0,none⟩) 0 0) 0 [] rfl HA.o va vc vars.length vars rfl (Qio (zA.o _ HB.o).nums) rfl (zt hA.o) HB.o.size ?_;intro v4 w4 xA hbw vA
 (try simp only[Nat.zero_add,List.nil_append]at xA)
 replace HB:=Zh (HB.o.trans hbw);replace HA:=Zh xA;obtain⟨a4,c4,nA⟩:=JB HA.o;subst nA;refine zU hK (⟨HB.o,FG.o _ HB.o⟩) λhHeld=>?_
 try simp only[zX]
 refine wpAnyH_ready (rs:=[10]) zk zp (AllReadyH.cons (o:={dst:=some 51,op:=Go.Op.call {callee:=Go.Callee.value (Go.Operand.func 115),args:=#[Go.Operand.tmp 45,Go.Operand.tmp 46,Go.Operand.tmp 50],argTypes:=#[27,55,50]},type:=3,pos:="ref.go:514",after:=#[{on:=4,ground:=Go.Ground.data},{on:=5,ground:=Go.Ground.data},{on:=9,ground:=Go.Ground.data},{on:=3,ground:=Go.Ground.chain}],guard:=none}) rfl (λK hK=>?_) AllReadyH.nil);have ci:=iA.o _ HB.o
 (go_simp;go_at_call 115;refine ci.mono ?_;rintro e w5 ⟨rfl,hb5⟩)
 replace HA:=Zh (JZ HA.o hb5);replace HB:=Zh (HB.o.trans (hb5.mono HB.o.size));refine zU hK (⟨HB.o,FG.o _ HB.o⟩) λhHeld=>?_
 try simp only[zX]
 refine wpAnyH_ready (rs:=[11]) zk zp (AllReadyH.cons (o:={dst:=some 52,op:=Go.Op.buildSlice 55 1 #[(0,Go.Operand.tmp 51)],type:=55,pos:="ref.go:514",after:=#[{on:=10,ground:=Go.Ground.data}],guard:=none}) rfl (λK hK=>?_) AllReadyH.nil);go_simp;have HX:=Zh (zzw w5 (.cells #[Iv ta] 3));replace HA:=Zh (JZ HA.o (zzb.alloc zzl (.cells #[Iv ta] 3)));replace HB:=Zh (HB.o.alloc HB.o.size (.cells #[Iv ta] 3));refine zU hK (⟨HB.o,FG.o _ HB.o⟩) λhHeld=>?_
 try simp only[zX]
 refine wpAnyH_ready (rs:=[12]) zk zp (AllReadyH.cons (o:={dst:=some 53,op:=Go.Op.call {callee:=Go.Callee.builtin Go.Builtin.append,args:=#[Go.Operand.tmp 44,Go.Operand.tmp 52],argTypes:=#[55,55]},type:=55,pos:="ref.go:514",after:=#[{on:=3,ground:=Go.Ground.data},{on:=11,ground:=Go.Ground.data},{on:=10,ground:=Go.Ground.chain}],guard:=none}) rfl (λK hK=>?_) AllReadyH.nil);rw[if_pos zr];refine Jr elI QeC QeB _ _ rfl w1.heap.size _ vars.length _ rfl HA.o _ 1 1 [ta] rfl (.inr (Vk (g:=gI) (x:=ta) HX.o)) rfl (zt hA.o) HB.o.size ?_;intro v7 w7 xA hbw vA;replace HB:=Zh (HB.o.trans hbw);replace HA:=Zh xA;obtain⟨a7,c7,kA⟩:=JB HA.o;subst kA;refine zU hK (⟨HB.o,FG.o _ HB.o⟩) λhHeld=>?_
 refine wpAnyH_ready (rs:=[17]) zk zp (AllReadyH.cons (o:={dst:=some 58,op:=Go.Op.call {callee:=Go.Callee.value (Go.Operand.func 115),args:=#[Go.Operand.tmp 41,Go.Operand.tmp 53,Go.Operand.tmp 57],argTypes:=#[27,55,50]},type:=3,pos:="ref.go:514",after:=#[{on:=0,ground:=Go.Ground.data},{on:=12,ground:=Go.Ground.data},{on:=16,ground:=Go.Ground.data},{on:=12,ground:=Go.Ground.chain}],guard:=none}) rfl (λK hK=>?_) AllReadyH.nil);have uA:Qbc w7 (In w7) (vars++[ta]) (.slice a7 (vars.length+1) c7):=QgL (by rw[List.length_append,List.length_singleton]) (by rw[List.flatMap_append];exact HA.o);have ci:=HCB.o _ _ HB.o uA
 (go_simp;go_at_call 115;refine ci.mono ?_;rintro e w8 ⟨rfl,hb8⟩)
 replace HB:=Zh (HB.o.trans (hb8.mono HB.o.size));refine zU hK (⟨HB.o,FG.o _ HB.o⟩) λhHeld=>?_
 refine wpAnyH_take (i:=18) (oi:={dst:=some 6,op:=Go.Op.assign (Go.Operand.tmp 58),type:=3,pos:="ref.go:514",after:=#[{on:=17,ground:=Go.Ground.data},{on:=17,ground:=Go.Ground.chain},{on:=0,ground:=Go.Ground.phase},{on:=1,ground:=Go.Ground.phase},{on:=2,ground:=Go.Ground.phase},{on:=3,ground:=Go.Ground.phase},{on:=4,ground:=Go.Ground.phase},{on:=5,ground:=Go.Ground.phase},{on:=6,ground:=Go.Ground.phase},{on:=7,ground:=Go.Ground.phase},{on:=8,ground:=Go.Ground.phase},{on:=9,ground:=Go.Ground.phase},{on:=10,ground:=Go.Ground.phase},{on:=11,ground:=Go.Ground.phase},{on:=12,ground:=Go.Ground.phase},{on:=13,ground:=Go.Ground.phase},{on:=14,ground:=Go.Ground.phase},{on:=15,ground:=Go.Ground.phase},{on:=16,ground:=Go.Ground.phase},{on:=17,ground:=Go.Ground.phase}],guard:=none}) (v:=?vT7_18) rfl zk zk zk (λ_ _ _ h=>h) (Or.inl ⟨by rfl,?yT7_18⟩) (by assumption) ?_
 case yT7_18=>(intro wX hSw;(try dsimp only at hSw);go_simp<;>with_reducible rfl)
 refine wpAnyH_done zk ?_ _;have HFIN:=Zh (HKX.o _ HB.o);go_wp2;go_ret;exact⟨rfl,HFIN.o⟩
def QcG(fs:List FnM)(fa:Option Addr)(fc:Nat):∀n,QfR fs fa fc n
 |0=>λvars vv e c W hs h=>by have:=Jdn e;omega
 |n+1=>λvars vv e c W hs h=>by
  have IH:=QcG fs fa fc n;obtain⟨k,nn,s,l⟩:=e;obtain⟨va,vc,rfl,_⟩:=h.nums.form;obtain⟨ad,cc,rfl,_,hK⟩:=h.x.kids;have xA:Qaz (utL l)<=n:=by rw[utN,JA]at hs;omega
  obtain⟨_,hk,yA,_⟩:=QaS h.sh
  by_cases h1:k=1\/k=5\/k=7\/k=13\/k=14\/k=15\/k=16\/k=17
  ·exact QiC fs fa fc n IH vars va vc k nn s l ad cc W h1
  by_cases h0:k=0\/k=4\/k=6\/(8<=k/\k<=12)
  ·exact QhC fs fa fc n IH vars va vc k nn s l ad cc W h0
  have:k=2\/k=3\/k=18\/k=19\/k=20:=zo
  rcases this with rfl|rfl|rfl|rfl|rfl
  ·exact QiB fs fa fc n IH vars va vc nn s l ad cc W xA h hK
  ·exact QhD fs fa fc n IH vars va vc nn s l ad cc W xA h hK
  ·obtain⟨z,a,b,rfl⟩:=Zu (show l.length=3 by rw[yA zd];rfl);exact Qjo fs fa fc n IH vars va vc nn s z a b ad cc W xA h hK
  ·obtain⟨a,b,rfl⟩:=KD (show l.length=2 by rw[yA zd];rfl);exact QiD fs fa fc n IH vars va vc nn s a b ad cc W xA h hK
  ·exact QhE fs fa fc n IH vars va vc nn s l ad cc W xA h hK
def Qkc(fs:List Qau)(vars:List Int)(t:Int)(a:Nd)(l:List Nd):QaU fs vars t (a::l)=(ofN fs vars a).2++(if (ofN fs vars a).1≠t then [a.off] else [])++QaU fs vars t l:=by conv=>lhs;unfold QaU
def Qkb(fs:List Qau)(vars:List Int)(t:Int):QaU fs vars t []=[]:=by unfold QaU;rfl
def QlU(fs:List Qau)(vars:List Int)(b:Bool)(ps:List Int)(a:Nd)(l:List Nd):QcP fs vars b ps (a::l)=(ofN fs vars a).2++(if b=true/\(ofN fs vars a).1≠ps.headD 0 then [a.off] else [])++QcP fs vars b ps.tail l:=by conv=>lhs;unfold QcP
def QlT(fs:List Qau)(vars:List Int)(b:Bool)(ps:List Int):QcP fs vars b ps []=[]:=by unfold QcP;rfl
def QdQ{p:Prop}[Decidable p]{a:Int}:(if p then [a] else [])=[]↔¬p:=by
 by_cases h:p
 ·rw[if_pos h];simp[h]
 ·rw[if_neg h];simp[h]
def Qfe{fs:List Qau}{vars:List Int}{t:Int}:∀{l:List Exp},QaU fs vars t (utL l)=[]↔∀a∈l,(ofN fs vars (utN a)).1=t/\(ofN fs vars (utN a)).2=[]
 |[]=>by rw[utL,Qkb];simp
 |a::l=>by
  rw[utL,Qkc,append_eq_nil_iff,append_eq_nil_iff,QdQ,Decidable.not_not,Qfe]
  constructor
  ·rintro⟨⟨h1,h2⟩,h3⟩ b hb
   rcases List.mem_cons.1 hb with rfl|hb
   ·exact⟨h2,h1⟩
   ·exact h3 b hb
  ·intro h;exact⟨⟨(h a zp).2,(h a zp).1⟩,λb hb=>h b (by simp[hb])⟩
def Qgu{fs:List Qau}{vars:List Int}:∀{l:List Exp}{ps:List Int},QcP fs vars true ps (utL l)=[]↔∀(i:Nat)(a:Exp),l[i]?=some a->(ofN fs vars (utN a)).1=ps.getD i 0/\(ofN fs vars (utN a)).2=[]
 |[],ps=>by rw[utL,QlT];simp
 |a::l,ps=>by
  rw[utL,QlU,append_eq_nil_iff,append_eq_nil_iff,QdQ,Qgu];simp only[true_and,Decidable.not_not]
  constructor
  ·rintro⟨⟨h1,h2⟩,h3⟩ i b hb
   cases i with
   |zero=>
    obtain rfl:a=b:=by simpa using hb
    refine⟨?_,h1⟩;rw[h2]
    cases ps<;>rfl
   |succ i=>
    have:=h3 i b (by simpa using hb);refine⟨?_,this.2⟩;rw[this.1]
    cases ps<;>simp
  ·intro h;have h0:=h 0 a rfl;refine⟨⟨h0.2,?_⟩,λi b hb=>?_⟩
   ·rw[h0.1];cases ps<;>rfl
   ·have:=h (i+1) b (by simpa using hb);refine⟨?_,this.2⟩;rw[this.1]
    cases ps<;>simp
def QaB(fs:List Qau)(vars:List Int)(k n:Int)(l:List Exp)(i:Nat):Int:=
 if QbT k=true then 0 else if Qbe k=true\/(k=18/\i=0) then 1
 else if k=15/\i=1 then (ofN fs vars (utN (l.getD 0 Qgg))).1 else if k=18/\i=2 then (ofN fs vars (utN (l.getD 1 Qgg))).1
 else if k=20 then (fs.getD n.toNat ⟨[],0⟩).params.getD i 0 else -1
def Qfn(fs:List Qau)(vars:List Int)(k n:Int)(l:List Exp)(i:Nat)(y:Exp):Prop:=
 (0<=QaB fs vars k n l i->(ofN fs (Qcn fs vars k l i) (utN y)).1=QaB fs vars k n l i)/\(ofN fs (Qcn fs vars k l i) (utN y)).2=[]
def Qby{fs:List Qau}{vars:List Int}{k:Int}{l:List Exp}(h:k≠19)(i:Nat):Qcn fs vars k l i=vars:=by unfold Qcn;rw[if_neg λh2=>h h2.1]
def Qgv{P:Exp->Prop}{l:List Exp}:(∀a∈l,P a)↔∀(i:Nat)(a:Exp),l[i]?=some a->P a:=⟨λh i a ha=>h a (List.mem_of_getElem? ha),λh a ha=>by obtain⟨i,hi⟩:=List.mem_iff_getElem?.1 ha;exact h i a hi⟩
def Qit{fs:List Qau}{vars:List Int}{k n:Int}{l:List Exp}{t:Int}(ht:0<=t)(h19:k≠19)(hw:∀i,i<l.length->QaB fs vars k n l i=t):(∀a∈l,(ofN fs vars (utN a)).1=t/\(ofN fs vars (utN a)).2=[])↔∀(i:Nat)(y:Exp),l[i]?=some y->Qfn fs vars k n l i y:=by
 rw[Qgv];refine forall_congr' λi=>forall_congr' λa=>?_
 constructor
 ·intro h ha;have hi:=(List.getElem?_eq_some_iff.1 ha).1;unfold Qfn;rw[Qby h19,hw i hi];exact⟨λ_=>(h ha).1,(h ha).2⟩
 ·intro h ha;have hi:=(List.getElem?_eq_some_iff.1 ha).1;have:=h ha;unfold Qfn at this;rw[Qby h19,hw i hi]at this;exact⟨this.1 ht,this.2⟩
def QhV{fs:List Qau}{vars:List Int}{k n:Int}{s:By}{l:List Exp}(hs:∀f∈fs,0<=f.result/\∀p∈f.params,0<=p)(hv:∀v∈vars,0<=v)(hsh:shN fs.length vars.length (.mk k n s l)=true):
  (ofN fs vars (utN (.mk k n s l))).2=[]↔(k=20->l.length=(fs.getD n.toNat ⟨[],0⟩).params.length)/\∀(i:Nat)(y:Exp),l[i]?=some y->Qfn fs vars k n l i y:=by
 obtain⟨hf,hk,yA,_⟩:=QaS hsh;have aA:∀e,0<=(ofN fs vars (utN e)).1:=λe=>QdP (λf hf=>(hs f hf).1) e vars hv
 by_cases h5:k<=5
 ·have hl:l=[]:=List.eq_nil_of_length_eq_zero (by rw[yA zo];unfold ar0;rw[if_pos h5]);subst hl
  have:(ofN fs vars (utN (.mk k n s []))).2=[]:=by
   rw[utN,utL,YX];have:k=0\/k=1\/k=2\/k=3\/k=4\/k=5:=zo
   rcases this with rfl|rfl|rfl|rfl|rfl|rfl<;>simp
  simp[this];intro h;omega
 by_cases hi:k=6\/(8<=k/\k<=12)\/k=13\/k=14
 ·have vA:(ofN fs vars (utN (.mk k n s l))).2=QaU fs vars 0 (utL l):=by
   rw[utN,YX,if_neg zo,if_neg zo,if_neg zo]
   by_cases h:k=6\/(8<=k/\k<=12)
   ·rw[if_pos h]
   ·rw[if_neg h,if_pos zo]
  have xA:QbT k=true:=by
   unfold QbT;simp only[Bool.or_eq_true,Bool.and_eq_true,beq_iff_eq,decide_eq_true_eq];omega
  rw[vA,Qfe,Qit (k:=k) (n:=n) (t:=0) zd zo λi _=>by unfold QaB;rw[if_pos xA]];exact⟨λh=>⟨λh2=>by omega,h⟩,λh=>h.2⟩
 have xA:QbT k=false:=by
  cases h:QbT k with
  |false=>rfl
  |true=>
   unfold QbT at h;simp only[Bool.or_eq_true,Bool.and_eq_true,beq_iff_eq,decide_eq_true_eq]at h;omega
 by_cases hb:k=7\/k=16\/k=17
 ·have vA:(ofN fs vars (utN (.mk k n s l))).2=QaU fs vars 1 (utL l):=by
   rw[utN,YX,if_neg zo,if_neg zo,if_neg zo,if_neg zo,if_neg zo,if_neg zo,if_pos hb]
  have zA:Qbe k=true:=by
   unfold Qbe;simp only[Bool.or_eq_true,beq_iff_eq];omega
  rw[vA,Qfe,Qit (k:=k) (n:=n) (t:=1) zd zo λi _=>by unfold QaB;rw[if_neg (by rw[xA];decide),if_pos (.inl zA)]];exact⟨λh=>⟨λh2=>by omega,h⟩,λh=>h.2⟩
 have zA:Qbe k=false:=by
  cases h:Qbe k with
  |false=>rfl
  |true=>
   unfold Qbe at h;simp only[Bool.or_eq_true,beq_iff_eq]at h;omega
 have h4:k=15\/k=18\/k=19\/k=20:=zo
 rcases h4 with rfl|rfl|rfl|rfl
 ·obtain⟨a,b,rfl⟩:=KD (show l.length=2 by rw[yA zd];rfl)
  have e:(ofN fs vars (utN (.mk 15 n s [a,b]))).2=(ofN fs vars (utN a)).2++(ofN fs vars (utN b)).2++if (ofN fs vars (utN b)).1≠(ofN fs vars (utN a)).1 then [(utN b).off] else []:=by
   rw[utN,utL,utL,utL,YX];simp
  rw[e,append_eq_nil_iff,append_eq_nil_iff,QdQ,Decidable.not_not];have w0:QaB fs vars 15 n [a,b] 0 = -1:=by unfold QaB;simp[xA,zA]
  have w1:QaB fs vars 15 n [a,b] 1=(ofN fs vars (utN a)).1:=by unfold QaB;simp[xA,zA]
  constructor
  ·rintro⟨⟨h1,h2⟩,h3⟩;refine⟨λh=>by omega,λi y hy=>?_⟩;unfold Qfn;rw[Qby zd]
   match i,hy with
   |0,hy=>
         obtain rfl:a=y:=by simpa using hy
         rw[w0];exact⟨λh=>absurd h zd,h1⟩
   |1,hy=>
         obtain rfl:b=y:=by simpa using hy
         rw[w1];exact⟨λ_=>h3,h2⟩
   |i+2,hy=>simp at hy
  ·rintro⟨_,h⟩;have h0:=h 0 a rfl;have h1:=h 1 b rfl;unfold Qfn at h0 h1;rw[Qby zd]at h0 h1;rw[w1]at h1;exact⟨⟨h0.2,h1.2⟩,h1.1 (aA a)⟩
 ·obtain⟨z,a,b,rfl⟩:=Zu (show l.length=3 by rw[yA zd];rfl)
  have e:(ofN fs vars (utN (.mk 18 n s [z,a,b]))).2=(ofN fs vars (utN z)).2++(if (ofN fs vars (utN z)).1≠1 then [(utN z).off] else [])++(ofN fs vars (utN a)).2++(ofN fs vars (utN b)).2++if (ofN fs vars (utN b)).1≠(ofN fs vars (utN a)).1 then [(utN b).off] else []:=by
   rw[utN,utL,utL,utL,utL,YX];simp
  rw[e,append_eq_nil_iff,append_eq_nil_iff,append_eq_nil_iff,append_eq_nil_iff,QdQ,QdQ,Decidable.not_not,Decidable.not_not];have w0:QaB fs vars 18 n [z,a,b] 0=1:=by unfold QaB;simp[xA]
  have w1:QaB fs vars 18 n [z,a,b] 1 = -1:=by unfold QaB;simp[xA,zA]
  have w2:QaB fs vars 18 n [z,a,b] 2=(ofN fs vars (utN a)).1:=by unfold QaB;simp[xA,zA]
  constructor
  ·rintro⟨⟨⟨⟨h1,h2⟩,h3⟩,h4⟩,h5⟩;refine⟨λh=>by omega,λi y hy=>?_⟩;unfold Qfn;rw[Qby zd]
   match i,hy with
   |0,hy=>
         obtain rfl:z=y:=by simpa using hy
         rw[w0];exact⟨λ_=>h2,h1⟩
   |1,hy=>
         obtain rfl:a=y:=by simpa using hy
         rw[w1];exact⟨λh=>absurd h zd,h3⟩
   |2,hy=>
         obtain rfl:b=y:=by simpa using hy
         rw[w2];exact⟨λ_=>h5,h4⟩
   |i+3,hy=>simp at hy
  ·rintro⟨_,h⟩;have h0:=h 0 z rfl;have h1:=h 1 a rfl;have h2:=h 2 b rfl;unfold Qfn at h0 h1 h2;rw[Qby zd]at h0 h1 h2;rw[w0]at h0;rw[w2]at h2;exact⟨⟨⟨⟨h0.2,h0.1 zd⟩,h1.2⟩,h2.2⟩,h2.1 (aA a)⟩
 ·obtain⟨a,b,rfl⟩:=KD (show l.length=2 by rw[yA zd];rfl);have w0:∀i,QaB fs vars 19 n [a,b] i = -1:=λi=>by unfold QaB;simp[xA,zA]
  have s0:Qcn fs vars 19 [a,b] 0=vars:=by unfold Qcn;simp
  have s1:Qcn fs vars 19 [a,b] 1=vars++[(ofN fs vars (utN a)).1]:=by unfold Qcn;simp
  rw[Qgj,append_eq_nil_iff]
  constructor
  ·rintro⟨h1,h2⟩;refine⟨λh=>by omega,λi y hy=>?_⟩;unfold Qfn
   match i,hy with
   |0,hy=>
         obtain rfl:a=y:=by simpa using hy
         rw[w0,s0];exact⟨λh=>absurd h zd,h1⟩
   |1,hy=>
         obtain rfl:b=y:=by simpa using hy
         rw[w0,s1];exact⟨λh=>absurd h zd,h2⟩
   |i+2,hy=>simp at hy
  ·rintro⟨_,h⟩;have h0:=h 0 a rfl;have h1:=h 1 b rfl;unfold Qfn at h0 h1;rw[s0]at h0;rw[s1]at h1;exact⟨h0.2,h1.2⟩
 ·obtain⟨f,uA⟩:∃f,fs.getD n.toNat ⟨[],0⟩=f:=⟨_,rfl⟩
  have hp:∀p∈f.params,0<=p:=by
   rw[<-uA,List.getD_eq_getElem?_getD]
   cases hi:fs[n.toNat]? with
   |none=>intro p hp;cases hp
   |some g=>exact(hs g (List.mem_of_getElem? hi)).2
  have e:(ofN fs vars (utN (.mk 20 n s l))).2=(if l.length≠f.params.length then [0] else [])++QcP fs vars (l.length==f.params.length) f.params (utL l):=by
   rw[utN,YX];simp only[show ¬((20:Int)=1\/(20:Int)=5) by decide,show ¬(20:Int)=2 by decide,show ¬(20:Int)=3 by decide,show ¬((20:Int)=6\/(8<=(20:Int)/\(20:Int)<=12)) by decide,show ¬((20:Int)=13\/(20:Int)=14) by decide,show ¬(20:Int)=15 by decide,show ¬((20:Int)=7\/(20:Int)=16\/(20:Int)=17) by decide,show ¬(20:Int)=18 by decide,show ¬(20:Int)=19 by decide,if_false,if_true,uA,JR]
  have w0:∀i,QaB fs vars 20 n l i=f.params.getD i 0:=λi=>by unfold QaB;rw[uA];simp[xA,zA]
  rw[e,append_eq_nil_iff,QdQ,Decidable.not_not,uA]
  constructor
  ·rintro⟨h1,h2⟩;rw[h1,beq_self_eq_true,Qgu]at h2;refine⟨λ_=>h1,λi y hy=>?_⟩;unfold Qfn;rw[Qby zd,w0];exact⟨λ_=>(h2 i y hy).1,(h2 i y hy).2⟩
  ·rintro⟨h1,h2⟩;have h1':=h1 rfl;refine⟨h1',?_⟩;rw[h1',beq_self_eq_true,Qgu];intro i y hy;have:=h2 i y hy;unfold Qfn at this;rw[Qby zd,w0]at this;exact⟨this.1 (QeA hp i),this.2⟩
end Go.Proofs.YtncanmdgdflnpaaGreatDoor

