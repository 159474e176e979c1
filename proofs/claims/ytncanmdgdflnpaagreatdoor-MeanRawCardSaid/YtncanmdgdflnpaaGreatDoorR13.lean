import Derived.Deep.DeepCutAuto
import Derived.Deep.CutBlock
import Derived.Deep.RegionHeld3
import Derived.Test.YtncanmdgdflnpaaGreatDoorR11
import Derived.Test.YtncanmdgdflnpaaGreatDoorR12
open List(append_eq_nil_iff drop_drop length_drop mem_cons setIfInBounds_toArray set_cons_succ set_cons_zero)
open Nat(le_refl)
namespace Go.Proofs.YtncanmdgdflnpaaGreatDoor
open Go Go.Lib
open Go.ChangeShapes Go.WideShapes Go.ChangeAt Go.RowKit Go.Lib
open Go.ChangeShapes Go.WideShapes Go.RowKit Go.Deep
open Go.Joins
open _root_.Go.Proofs.Tryz
set_option linter.all false
set_option maxRecDepth 100000
set_option maxHeartbeats 32000000
def Qhg(c d:UInt8):c=d↔c.toNat=d.toNat:=⟨λh=>by rw[h],λh=>UInt8.toNat_inj.1 h⟩
def Qhq(c:UInt8)(w:World):Calls prog 149 #[.int .u8 (c.toNat:Nat)] w (Qbj (.bool (Qew c)) w):=by
 have hi:Qew c=true↔c.toNat=9\/c.toNat=10\/c.toNat=13\/c.toNat=32:=by
  simp only[Qew,Bool.or_eq_true,beq_iff_eq,Qhg,or_assoc];exact Iff.rfl
 have hx:=c.toNat_lt;generalize c.toNat=x at*
 by_cases h:x=9\/x=10\/x=13\/x=32
 ·have H:=Zh (hi.2 h)
  rcases h with rfl|rfl|rfl|rfl
  all_goals
   go_enter func149,ntmps149;go_wp2;go_ret;exact⟨by rw[H.o];rfl,rfl⟩
 ·have H:Hi (Qew c=false):=by
   unfold Hi
   cases hq:Qew c with
   |false=>rfl
   |true=>exact absurd (hi.1 hq) h
  have n9:((x:Int)==9)=false:=zzq zo;have xA:((x:Int)==10)=false:=zzq zo;have yA:((x:Int)==13)=false:=zzq zo;have zA:((x:Int)==32)=false:=zzq zo;go_enter func149,ntmps149;go_wp2;go_ret;exact⟨by rw[H.o];rfl,rfl⟩
theorem zBf{P:Prop}(h:P:=by
  generalize c.toNat=x at*;go_enter func160,ntmps160;go_wp2;go_ret;exact⟨by rw[H.o];rfl,rfl⟩):P:=h
def Qce(c:UInt8)(w:World):Calls prog 160 #[.int .u8 (c.toNat:Nat)] w (Qbj (.bool (Qdg c)) w):=by
 have hx:=c.toNat_lt
 by_cases h1:97<=c.toNat
 ·have b1:decide (97<=(c.toNat:Int))=true:=zE zo
  by_cases h2:c.toNat<=122
  ·have H:Hi (Qdg c=true):=by unfold Hi;simp[Qdg,h1,h2]
   have b2:decide ((c.toNat:Int)<=122)=true:=zE zo;exact zBf
  ·have H:Hi (Qdg c=false):=by unfold Hi;simp[Qdg,h2]
   have b2:decide ((c.toNat:Int)<=122)=false:=zF zo;exact zBf
 ·have H:Hi (Qdg c=false):=by unfold Hi;simp[Qdg,h1]
  have b1:decide (97<=(c.toNat:Int))=false:=zF zo;exact zBf
theorem zBg{P:Prop}(h:P:=by
  generalize c.toNat=x at*;go_enter func162,ntmps162;go_wp2;go_ret;exact⟨by rw[H.o];rfl,rfl⟩):P:=h
def QcC(c:UInt8)(w:World):Calls prog 162 #[.int .u8 (c.toNat:Nat)] w (Qbj (.bool (QeL c)) w):=by
 have hx:=c.toNat_lt
 by_cases h1:48<=c.toNat
 ·have b1:decide (48<=(c.toNat:Int))=true:=zE zo
  by_cases h2:c.toNat<=57
  ·have H:Hi (QeL c=true):=by unfold Hi;simp[QeL,h1,h2]
   have b2:decide ((c.toNat:Int)<=57)=true:=zE zo;exact zBg
  ·have H:Hi (QeL c=false):=by unfold Hi;simp[QeL,h2]
   have b2:decide ((c.toNat:Int)<=57)=false:=zF zo;exact zBg
 ·have H:Hi (QeL c=false):=by unfold Hi;simp[QeL,h1]
  have b1:decide (48<=(c.toNat:Int))=false:=zF zo;exact zBg
theorem zBc{P:Prop}(h:P:=by
  go_wp2_with fail;refine(Calls.mono (cL _) ?_);rintro e w' ⟨rfl,rfl⟩;go_wp2_with fail;refine(Calls.mono (cD _) ?_);rintro e w' ⟨rfl,rfl⟩;go_wp2_with fail;go_round
  case rel=>exact⟨k+1,by omega,by go_num,H⟩
  case measure=>simp[intOf];omega):P:=h
def Qft(l:By)(a:Nat)(w:World)(ha:a<=l.length)(hl:l.length<=281474976710656):Calls prog 161 #[Sv l,Iv (a:Nat)] w (Qbj (Iv ((Qal (l.drop a)).length:Nat)) w):=by
 have hs:=JP l;go_enter func161,ntmps161;go_wp2;go_loop [5] (λv=>∃k:Nat,a+k<=l.length/\v=Iv k/\Hi (∀c∈(l.drop a).take k,QcQ c=true)) λv=>l.length-(intOf v).toNat
 case atStart=>exact⟨0,by omega,rfl,by unfold Hi;simp⟩
 case round=>
  obtain⟨k,hk,rfl,HA⟩:=hrel;have fin:Hi (((l.drop a).drop k).head?.map QcQ≠some true)->Hi ((Qal (l.drop a)).length=k):=λh=>by unfold Hi;rw[Jex HA.o h.o];simp;omega
  by_cases hlt:a+k<l.length
  ·have hg:=Jit l hlt;have vA:(l.drop a).drop k=l[a+k]::l.drop (a+k+1):=by rw[drop_drop,List.drop_eq_getElem_cons hlt]
   have zA:(l.drop a).take (k+1)=(l.drop a).take k++[l[a+k]]:=by
    rw[List.take_succ_eq_append_getElem zq,List.getElem_drop]
   have HN:QcQ l[a+k]=true->Hi (∀c∈(l.drop a).take (k+1),QcQ c=true):=by
    intro h c hc;rw[zA,List.mem_append]at hc
    rcases hc with hc|hc
    ·exact HA.o c hc
    ·rw[List.mem_singleton]at hc;rw[hc];exact h
   have HF:QcQ l[a+k]=false->Hi (((l.drop a).drop k).head?.map QcQ≠some true):=by
    intro h;unfold Hi;rw[vA,List.head?_cons,Option.map_some,h];simp
   have hx:l[a+k].toNat<256:=l[a+k].toNat_lt;obtain⟨c,xA⟩:∃c,l[a+k]=c:=⟨_,rfl⟩
   rw[xA]at hg HN HF hx;have cL:=λW=>Qce c W
   have cD:=λW=>QcC c W
   have uA:c=95↔c.toNat=95:=Qhg c 95;have HE:=Zh uA;have hz:((a:Int)+(k:Int)).toNat=a+k:=zo
   cases h1:Qdg c with
   |true=>
    have H:=HN (by simp[QcQ,h1]);rw[h1]at cL;generalize c.toNat=x at*;go_wp2_with fail;refine(Calls.mono (cL _) ?_);rintro e w' ⟨rfl,rfl⟩;go_wp2_with fail;go_round
    case rel=>exact⟨k+1,by omega,by go_num,H⟩
    case measure=>simp[intOf];omega
   |false=>
    rw[h1]at cL
    cases h2:QeL c with
    |true=>
     have H:=HN (by simp[QcQ,h2]);rw[h2]at cD;generalize c.toNat=x at*;exact zBc
    |false=>
     rw[h2]at cD
     by_cases h3:c.toNat=95
     ·have H:=HN (by rw[HE.o.2 h3];decide);rw[h3]at hg hx cL cD;exact zBc
     ·have b3:((c.toNat:Int)==95)=false:=zzq zo;have yA:(c==95)=false:=zzq λh=>h3 (HE.o.1 h);have H:=fin (HF (by simp[QcQ,h1,h2,yA]));generalize c.toNat=x at*;go_wp2_with fail;refine(Calls.mono (cL _) ?_);rintro e w' ⟨rfl,rfl⟩;go_wp2_with fail;refine(Calls.mono (cD _) ?_);rintro e w' ⟨rfl,rfl⟩;go_wp2_with fail;go_ret;exact⟨by rw[H.o];rfl,rfl⟩
  ·have H:=fin (by unfold Hi;rw[drop_drop,List.drop_eq_nil_of_le zo];simp);have d1:decide ((a:Int)+(k:Int)<(l.length:Int))=false:=zF zo;have d2:decide (a+k<l.length)=false:=zF zo;go_wp2_with fail;go_ret;exact⟨by rw[H.o];rfl,rfl⟩
def QjA(o:Option By):Nat:=match o with
 |some v=>v.length+2
 |none=>0
def Qgd(l:By)(a:Nat)(w:World)(ha:a<l.length)(hl:l.length<=281474976710655):Calls prog 164 #[Sv l,Iv (a:Nat)] w (Qbj (Iv (QjA (QaN 25 (l.drop (a+1))):Nat)) w):=by
 have hs:=JP l;go_enter func164,ntmps164;go_wp2;go_loop [5] (λv=>∃k:Nat,a+1+k<=l.length/\k<=25/\v=Iv ((k:Nat)+1)/\Hi (∀c∈(l.drop (a+1)).take k,c≠34/\¬(c.toNat<32\/126<c.toNat\/c=92))) λv=>l.length+1-(intOf v).toNat
 case atStart=>exact⟨0,by omega,by omega,rfl,by unfold Hi;simp⟩
 case round=>
  obtain⟨k,hk,dA,rfl,HA⟩:=hrel;have HT:=Zh (JgC k 25 (l.drop (a+1)) HA.o zq dA)
  by_cases hlt:a+1+k<l.length
  ·have d1:decide ((a:Int)+((k:Int)+1)<(l.length:Int))=true:=zE zo
   by_cases CC:k<25
   ·have d2:decide ((k:Int)+1<=25)=true:=zE zo;have yA:a+(k+1)<l.length:=zo
    have hg:=Jit l yA;have hx:l[a+(k+1)].toNat<256:=l[a+(k+1)].toNat_lt
    have cA:(l.drop (a+1)).drop k=l[a+(k+1)]::l.drop (a+(k+1)+1):=by
     rw[drop_drop,show a+1+k=a+(k+1) by omega,List.drop_eq_getElem_cons yA]
    have vA:(l.drop (a+1)).take (k+1)=(l.drop (a+1)).take k++[l[a+(k+1)]]:=by
     rw[List.take_succ_eq_append_getElem zq,List.getElem_drop]
     congr 2
     congr 1
     omega
    have HD:Hi (QaN 25 (l.drop (a+1))=if l[a+(k+1)]=34 then some ((l.drop (a+1)).take k) else if l[a+(k+1)].toNat<32\/126<l[a+(k+1)].toNat\/l[a+(k+1)]=92 then none else QaN 25 (l.drop (a+1))):=by
     unfold Hi;have h1:=HT.o;rw[cA,show 25-k=(24-k)+1 by omega]at h1;simp only[QaN]at h1;split
     ·rename_i hq;rw[if_pos hq]at h1;rw[h1];simp
     ·rename_i hq;rw[if_neg hq]at h1;split
      ·rename_i hb;rw[if_pos hb]at h1;rw[h1];rfl
      ·rfl
    have HN:l[a+(k+1)]≠34->¬(l[a+(k+1)].toNat<32\/126<l[a+(k+1)].toNat\/l[a+(k+1)]=92)->Hi (∀c∈(l.drop (a+1)).take (k+1),c≠34/\¬(c.toNat<32\/126<c.toNat\/c=92)):=by
     intro h1 h2 c hc;rw[vA,List.mem_append]at hc
     rcases hc with hc|hc
     ·exact HA.o c hc
     ·rw[List.mem_singleton]at hc;rw[hc];exact⟨h1,h2⟩
    have xA:((l.drop (a+1)).take k).length=k:=zq
    have aA:l[a+(k+1)]=34↔l[a+(k+1)].toNat=34:=Qhg _ 34;have bA:l[a+(k+1)]=92↔l[a+(k+1)].toNat=92:=Qhg _ 92;simp only[Ne,aA,bA]at HN HD;obtain⟨x,uA⟩:∃x,l[a+(k+1)].toNat=x:=⟨_,rfl⟩
    rw[uA]at hg HD HN hx;have hz:((a:Int)+((k:Int)+1)).toNat=a+(k+1):=zo
    have eA:0<=(a:Int)+((k:Int)+1):=zo
    by_cases N7:x=34
    ·have H:Hi (QjA (QaN 25 (l.drop (a+1)))=k+2):=by unfold Hi;rw[HD.o,if_pos N7,QjA,xA]
     subst N7;go_wp2;go_ret;exact⟨by rw[H.o];first|rfl|(simp;omega)|go_num,rfl⟩
    ·have gA:((x:Int)==34)=false:=zzq zo
     by_cases NA:x<32
     ·have H:Hi (QjA (QaN 25 (l.drop (a+1)))=0):=by unfold Hi;rw[HD.o,if_neg N7,if_pos (.inl NA)];rfl
      have b1:decide ((x:Int)<32)=true:=zE zo;go_wp2;go_ret;exact⟨by rw[H.o];rfl,rfl⟩
     ·have b1:decide ((x:Int)<32)=false:=zF zo
      by_cases Y8:126<x
      ·have H:Hi (QjA (QaN 25 (l.drop (a+1)))=0):=by unfold Hi;rw[HD.o,if_neg N7,if_pos (.inr (.inl Y8))];rfl
       have b2:decide (126<(x:Int))=true:=zE zo;go_wp2;go_ret;exact⟨by rw[H.o];rfl,rfl⟩
      ·have b2:decide (126<(x:Int))=false:=zF zo
       by_cases PA:x=92
       ·have H:Hi (QjA (QaN 25 (l.drop (a+1)))=0):=by unfold Hi;rw[HD.o,if_neg N7,if_pos (.inr (.inr PA))];rfl
        subst PA;go_wp2;go_ret;exact⟨by rw[H.o];rfl,rfl⟩
       ·have hA:((x:Int)==92)=false:=zzq zo;have H:=HN N7 zo;go_wp2;go_round
        case rel=>exact⟨k+1,by omega,by omega,by go_num,H⟩
        case measure=>simp[intOf];omega
   ·have d2:decide ((k:Int)+1<=25)=false:=zF zo;have H:Hi (QjA (QaN 25 (l.drop (a+1)))=0):=by unfold Hi;rw[HT.o,show 25-k=0 by omega];rfl
    go_wp2;go_ret;exact⟨by rw[H.o];rfl,rfl⟩
  ·have d1:decide ((a:Int)+((k:Int)+1)<(l.length:Int))=false:=zF zo
   have H:Hi (QjA (QaN 25 (l.drop (a+1)))=0):=by
    have zA:(l.drop (a+1)).drop k=[]:=by rw[drop_drop];exact List.drop_eq_nil_of_le zo
    unfold Hi;rw[HT.o,zA]
    cases 25-k<;>rfl
   go_wp2;go_ret;exact⟨by rw[H.o];rfl,rfl⟩
def QcS(l:By)(a b:Nat)(h:a<=b)(hb:b<=l.length)(i j:Int)(hi:i=a)(hj:j=b)(w:World):(Instr.slice 9 (Sv l) (some (Iv i)) (some (Iv j)) none).run prog w=.ok (Sv ((l.drop a).take (b-a))) w:=by
 subst hi;subst hj;unfold Sv;rw[run_slice_string w 9 (bs l) .i64 .i64 a b underlying9 zo zo (by rw[JP];omega),<-KH];rfl
def QhY(c:UInt8)(r:By):Qay (c::r)=if (c::r).take 2∈Qef then (c::r).take 2 else if c∈QaW then [c] else []:=by
 unfold Qay;rw[if_neg (show ¬(c::r).head?=none by simp)];rfl
def QcE:Nat->UInt8
 |0=>61
 |1=>33
 |2=>60
 |_=>62
theorem zBe{P:Prop}(h:P:=by
  generalize [QcE k,61]=lk at*;go_wp2_with fail;go_quiet (fail);go_wp2_with fail;go_roundw
  case rel=>exact⟨k+1,_,by omega,by go_num,by first|rfl|(simp;rfl),H⟩
  case measure=>simp[intOf];omega):P:=h
def Qgc(l:By)(a:Nat)(c:UInt8)(r:By)(w:World)(hd:l.drop a=c::r)(ha:a<l.length)(hl:l.length<=281474976710000):Calls prog 165 #[Sv l,Iv (a:Nat)] w (Qcz w ((Qay (c::r)).length:Nat)):=by
 have hs:=JP l;have HS:=Zh (QhY c r)
 have X8:∀x:UInt8,(c::r).take 2=[x,61]->a+2<=l.length:=by
  intro x hx;have h1:=congrArg List.length hx;have h2:=congrArg List.length hd;simp at h1 h2;omega
 have zA:=Zh X8;have hg:=Jit l ha
 have hc:l[a]=c:=by
  have:=List.drop_eq_getElem_cons ha;rw[hd]at this;injection this with h _;exact h.symm
 rw[hc]at hg;have hx:=c.toNat_lt
 have vA:a+2<=l.length->Hi (∀W:World,(Instr.slice 9 (Sv l) (some (Iv (a:Int))) (some (Iv ((a:Int)+2))) none).run prog W=.ok (Sv ((c::r).take 2)) W):=by
  intro h W;have:=QcS l a (a+2) zo h (a:Int) ((a:Int)+2) rfl zo W;rw[hd,show a+2-a=2 by omega]at this;exact this
 have HC:=Zh hc;clear X8 hd hc;generalize hq:(c::r).take 2=q at*;have tq:=Jk q;have HQ:=Zh hq;clear hq;go_enter func165,ntmps165;go_wp2_with fail;obtain⟨W,hW⟩:∃W,W=w.alloc (.cells #[.string ⟨#[61,61]⟩,.string ⟨#[33,61]⟩,.string ⟨#[60,61]⟩,.string ⟨#[62,61]⟩] 9):=⟨_,rfl⟩
 have g0:W.heap[w.heap.size]?=some (.cells #[.string ⟨#[61,61]⟩,.string ⟨#[33,61]⟩,.string ⟨#[60,61]⟩,.string ⟨#[62,61]⟩] 9 (0,0)):=by rw[hW];exact zzw w _
 have cA:Below w.heap.size w W:=by rw[hW];exact zzb.alloc zzl _
 rw[<-hW];clear hW;have G0:=Zh g0;clear g0;go_loopw [6] (λv wr=>∃k n:Nat,k<=4/\v=Iv k/\wr=W.drewN n/\Hi (∀j,j<k->q≠[QcE j,61])) λv _=>4-(intOf v).toNat
 case atStart=>exact⟨0,0,by omega,rfl,rfl,by unfold Hi;intro j hj;omega⟩
 case round=>
  obtain⟨k,n,hk,rfl,rfl,HA⟩:=hrel
  by_cases hlt:k<4
  ·have xA:∃s:ByteArray,W.cell? ⟨w.heap.size,k,none⟩=some (.string s)/\s=bs [QcE k,61]:=by
    rcases (by omega:k=0\/k=1\/k=2\/k=3) with rfl|rfl|rfl|rfl
    all_goals exact⟨_,by rw[cell_of_row _ _ _ _ _ _ G0.o];rfl,rfl⟩
   obtain⟨s,xA,uA⟩:=xA;rw[uA]at xA;have tl:=Jk [QcE k,61]
   by_cases h2:a+2<=l.length
   ·have d2:decide ((a:Int)+2<=(l.length:Int))=true:=zE zo;have vA:=(vA h2).o
    by_cases GA:q=[QcE k,61]
    ·have H:Hi ((Qay (c::r)).length=2):=by
      unfold Hi;rw[HS.o,if_pos,GA]
      ·rfl
      ·rw[GA]
       rcases (by omega:k=0\/k=1\/k=2\/k=3) with rfl|rfl|rfl|rfl<;>decide
     have e1:(q==[QcE k,61])=true:=beq_iff_eq.2 GA;clear HS zA HQ HA GA uA;generalize [QcE k,61]=lk at*;go_wp2_with fail;go_quiet (fail);go_wp2_with fail;go_ret;exact⟨by rw[H.o];rfl,J2 (J2 cA _) _⟩
    ·have e1:(q==[QcE k,61])=false:=zzq GA
     have H:Hi (∀j,j<k+1->q≠[QcE j,61]):=by
      intro j hj
      rcases (by omega:j<k\/j=k) with h|h
      ·exact HA.o j h
      ·rw[h];exact GA
     clear HS zA HQ HA GA uA;exact zBe
   ·have d2:decide ((a:Int)+2<=(l.length:Int))=false:=zF zo
    have H:Hi (∀j,j<k+1->q≠[QcE j,61]):=by
     intro j hj hq;exact absurd (zA.o (QcE j) hq) h2
    clear HS zA HQ HA uA vA;exact zBe
  ·obtain rfl:k=4:=zo
   have hno:q∉Qef:=by
    have h0:=HA.o 0 zo;have h1:=HA.o 1 zo;have h2:=HA.o 2 zo;have h3:=HA.o 3 zo;simp only[QcE]at h0 h1 h2 h3;simp[Qef,h0,h1,h2,h3]
   have HR:Hi (Qay (c::r)=if c∈QaW then [c] else []):=by unfold Hi;rw[HS.o,if_neg hno]
   clear HS zA HQ HA vA hno tq;go_wp2_with fail;obtain⟨w2,bA⟩:∃w2:World,w2=W.drewN n:=⟨_,rfl⟩
   have G1:Below w.heap.size w w2:=by rw[bA];exact J2 cA _
   rw[<-bA];clear bA;go_loopw [8] (λv wr=>∃i m:Nat,i<=12/\v=Iv i/\wr=w2.drewN m/\Hi (∀j,j<i->QaW[j]?≠some c)) λv _=>12-(intOf v).toNat
   case atStart=>exact⟨0,0,by omega,rfl,rfl,by unfold Hi;intro j hj;omega⟩
   case round=>
    obtain⟨i,m,hi,rfl,rfl,HA⟩:=hrel
    by_cases hlt:i<12
    ·have yA:i<QaW.length:=hlt;have eA:∀h,(({data:=#[40,41,44,58,61,60,62,43,45,42,47,37]}:ByteArray)[i]'h).toNat=(QaW[i]'yA).toNat:=Jit QaW yA;have dA:=(QaW[i]'yA).toNat_lt;have aA:QaW[i]?=some (QaW[i]'yA):=List.getElem?_eq_getElem yA;have hmem:(QaW[i]'yA)∈QaW:=List.getElem_mem yA;have HE:=Zh (Qhg c (QaW[i]'yA));obtain⟨y,hy⟩:∃y,QaW[i]'yA=y:=⟨_,rfl⟩
     rw[hy]at eA dA aA hmem HE;clear hy
     by_cases SC:c.toNat=y.toNat
     ·have H:Hi ((Qay (c::r)).length=1):=by
       unfold Hi;rw[HR.o,if_pos (by rw[HE.o.2 SC];exact hmem)];rfl
      have e1:((c.toNat:Int)==(y.toNat:Int))=true:=beq_iff_eq.2 zo;clear HR HA HE aA hmem;generalize c.toNat=x at*;generalize y.toNat=z at*;clear SC;go_wp2_with fail;go_quiet (fail);go_wp2_with fail;go_ret;exact⟨by rw[H.o];rfl,J2 (J2 G1 _) _⟩
     ·have H:Hi (∀j,j<i+1->QaW[j]?≠some c):=by
       intro j hj
       rcases (by omega:j<i\/j=i) with h|h
       ·exact HA.o j h
       ·rw[h,aA];intro he;injection he with he;exact SC (by rw[he])
      have e1:((c.toNat:Int)==(y.toNat:Int))=false:=zzq zo;clear HR HA HE aA hmem;generalize c.toNat=x at*;generalize y.toNat=z at*;clear SC;go_wp2_with fail;go_quiet (fail);go_wp2_with fail;go_roundw
      case rel=>exact⟨i+1,_,by omega,by go_num,by first|rfl|(simp;rfl),H⟩
      case measure=>simp[intOf];omega
    ·obtain rfl:i=12:=zo
     have H:Hi ((Qay (c::r)).length=0):=by
      unfold Hi;rw[HR.o,if_neg]
      ·rfl
      ·intro hm;obtain⟨j,hj,he⟩:=List.getElem_of_mem hm;exact HA.o j hj (by rw[List.getElem?_eq_getElem hj,he])
     clear HR HA;go_wp2_with fail;go_ret;exact⟨by rw[H.o];rfl,J2 G1 _⟩
def QmK(o:Option (Tok×Nat)):Nat:=match o with
 |some (_,n)=>n
 |none=>0
def Qdm(o:Option (Tok×Nat))(a:Nat)(w:World)(e:Ending)(w':World):Prop:=
 (∃u:Tok,e=.returned (.tuple #[.agg (QmJ u),Iv (QmK o:Nat)])/\∀t n,o=some (t,n)->u={t with off:=(a:Nat)})/\Below w.heap.size w w'
def Qcd{o:Option (Tok×Nat)}{a:Nat}{w w':World}(u:Tok)(n:Nat)(hn:n=QmK o)(h:∀t m,o=some (t,m)->u={t with off:=(a:Nat)})(hB:Below w.heap.size w w'):
  Qdm o a w (.returned (.tuple #[.agg #[Iv u.kind,.string (bs u.text),Iv u.n,Iv u.off],Iv (n:Nat)])) w':=⟨⟨u,by rw[hn];rfl,h⟩,hB⟩
def Qba{P:Program}{fn:Func}{p a:Tmp}{ty:TypeId}(h:fn.results=#[.cell p ty,.tmp a])(tmps:Array Value)(w:World)(g:Nat)(t:TypeId)(cs:Array Value)(fr:Nat×Nat)(d:TypeDesc)
  (hp:tmps.getD p undef=Pt g) (hg:w.heap[g]?=some (.cells cs t fr))
  (hu:P.underlying ty=some d) (hd:(match d with|.struct _|.array _ _=>true|_=>false)=true) (hi:(P.info? ty).map (·.size)=some cs.size):
  (results fn tmps).run P w=.ok (.tuple #[.agg cs,tmps.getD a undef]) w:=by
 have xA:tmps[p]?.getD undef=Pt g:=by simpa using hp
 simp[results,h,xA,asAddr,run_loadVar_row w g t ty cs fr d hg hu hd hi]
theorem zA6{P:Prop}(h:P:=by
  rintro e w1 ⟨rfl,rfl⟩;go_wp2_with fail;refine bodyPost_ret (Qba rfl _ _ w.heap.size 105 #[Iv 0,.string (⟨#[]⟩),Iv 0,Iv (a:Nat)] (0,0) _ rfl (heap_alloc2_old _ _ _) underlying105 rfl Qci) rfl ?_;rw[HT.o];exact Qcd ⟨0,[],0,(a:Nat)⟩ 0 rfl (by intro t m h;cases h) ((zzb.alloc zzl _).alloc zp _)):P:=h
def Qgb(l:By)(a:Nat)(c:UInt8)(r:By)(w:World)(hd:l.drop a=c::r)(ha:a<l.length)(hl:l.length<=281474976710000)(hc:Qdg c=true)(hg:∀h,((bs l)[a]'h).toNat=c.toNat):
  Calls prog 150 #[Sv l,Iv (a:Nat)] w (Qdm (Qbv (c::r)) a w):=by
 have HF:Hi (Qbv (c::r)=if (Qal (c::r)).length<=24 then some (⟨0,Qal (c::r),0,0⟩,(Qal (c::r)).length) else none):=by
  unfold Hi;simp only[Qbv];rw[if_pos hc]
 have hs:=JP l;have cL:=λW=>Qce c W
 have cD:=λW=>QcC c W
 have cW:=λW=>Qft l a W zo zo
 rw[hd]at cW
 have yA:a+(Qal (c::r)).length<=l.length:=by
  have h1:=Yv (c::r);rw[<-hd,length_drop]at h1;rw[<-hd];omega
 have uA:=QcS l a (a+(Qal (c::r)).length) zo yA (a:Int) ((a:Int)+((Qal (c::r)).length:Int)) rfl zo;rw[hd,show a+(Qal (c::r)).length-a=(Qal (c::r)).length by omega,Jes]at uA;have hx:=c.toNat_lt;rw[hc]at cL;clear hd hc cD;generalize xA:Qal (c::r)=wd at*;generalize c.toNat=x at*
 by_cases R6:wd.length<=24
 ·have HT:Hi (Qbv (c::r)=some (⟨0,wd,0,0⟩,wd.length)):=by unfold Hi;rw[HF.o,if_pos R6]
  have zA:decide (24<(wd.length:Int))=false:=zF zo;clear HF xA;go_enter func150,ntmps150;go_wp2_with fail;refine(Calls.mono (cL _) ?_);rintro e w1 ⟨rfl,rfl⟩;go_wp2_with fail;refine(Calls.mono (cW _) ?_);rintro e w1 ⟨rfl,rfl⟩;go_wp2_with fail;refine bodyPost_ret (Qba rfl _ _ w.heap.size 105 #[Iv 0,Sv wd,Iv 0,Iv (a:Nat)] (0,0) _ rfl (heap_alloc2_old _ _ _) underlying105 rfl Qci) rfl ?_;rw[HT.o];exact Qcd ⟨0,wd,0,(a:Nat)⟩ wd.length rfl (by intro t m h;injection h with h;injection h with h1 h2;subst h1;rfl) ((zzb.alloc zzl _).alloc zp _)
 ·have HT:Hi (Qbv (c::r)=none):=by unfold Hi;rw[HF.o,if_neg R6]
  have zA:decide (24<(wd.length:Int))=true:=zE zo;clear HF xA;go_enter func150,ntmps150;go_wp2_with fail;refine(Calls.mono (cL _) ?_);rintro e w1 ⟨rfl,rfl⟩;go_wp2_with fail;refine(Calls.mono (cW _) ?_);exact zA6
def Qhj(l:By)(a:Nat)(c:UInt8)(r:By)(w:World)(hd:l.drop a=c::r)(ha:a<l.length)(hl:l.length<=281474976710000)(hc0:Qdg c=false)(hc:QeL c=true)(hg:∀h,((bs l)[a]'h).toNat=c.toNat):
  Calls prog 150 #[Sv l,Iv (a:Nat)] w (Qdm (Qbv (c::r)) a w):=by
 have HF:Hi (Qbv (c::r)=(QaL (Qal (c::r)) 0 1125899906842624).map λn=>(⟨1,[],n,0⟩,(Qal (c::r)).length)):=by
  unfold Hi;simp only[Qbv];rw[if_neg (by simp[hc0]),if_pos hc]
 have hs:=JP l;have cL:=λW=>Qce c W
 have cD:=λW=>QcC c W
 have cW:=λW=>Qft l a W zo zo
 rw[hd]at cW
 have zA:a+(Qal (c::r)).length<=l.length:=by
  have h1:=Yv (c::r);rw[<-hd,length_drop]at h1;rw[<-hd];omega
 have uA:=QcS l a (a+(Qal (c::r)).length) zo zA (a:Int) ((a:Int)+((Qal (c::r)).length:Int)) rfl zo;rw[hd,show a+(Qal (c::r)).length-a=(Qal (c::r)).length by omega,Jes]at uA;have hx:=c.toNat_lt;rw[hc0]at cL;rw[hc]at cD;have cP:=λW=>Qhn (Qal (c::r)) 0 1125899906842624 W zo
 rw[QlE]at cP;generalize vA:Qal (c::r)=wd at*;generalize c.toNat=x at*;have HP:∀o,QaL wd 0 1125899906842624=o->Hi (Qbv (c::r)=o.map λn=>(⟨1,[],n,0⟩,wd.length)):=λo h=>by unfold Hi;rw[HF.o,h]
 generalize yA:QaL wd 0 1125899906842624=o at*;have HT:=HP o rfl
 cases o with
 |some m=>
  have xA:∀W,Calls prog 163 #[Sv wd,Iv 0,Iv 1125899906842624] W (Qbj (.tuple #[Iv m,.bool true]) W):=cP;go_enter func150,ntmps150;go_wp2_with fail;refine(Calls.mono (cL _) ?_);rintro e w1 ⟨rfl,rfl⟩;go_wp2_with fail;refine(Calls.mono (cD _) ?_);rintro e w1 ⟨rfl,rfl⟩;go_wp2_with fail;refine(Calls.mono (cW _) ?_);rintro e w1 ⟨rfl,rfl⟩;go_wp2_with fail;refine(Calls.mono (xA _) ?_);rintro e w1 ⟨rfl,rfl⟩;go_wp2_with fail;refine bodyPost_ret (Qba rfl _ _ w.heap.size 105 #[Iv 1,.string (⟨#[]⟩),Iv m,Iv (a:Nat)] (0,0) _ rfl (heap_alloc2_old _ _ _) underlying105 rfl Qci) rfl ?_;rw[HT.o];exact Qcd ⟨1,[],m,(a:Nat)⟩ wd.length rfl (by intro t m h;injection h with h;injection h with h1 h2;subst h1;rfl) ((zzb.alloc zzl _).alloc zp _)
 |none=>
  have xA:∀W,Calls prog 163 #[Sv wd,Iv 0,Iv 1125899906842624] W (Qbj (.tuple #[Iv 0,.bool false]) W):=cP;go_enter func150,ntmps150;go_wp2_with fail;refine(Calls.mono (cL _) ?_);rintro e w1 ⟨rfl,rfl⟩;go_wp2_with fail;refine(Calls.mono (cD _) ?_);rintro e w1 ⟨rfl,rfl⟩;go_wp2_with fail;refine(Calls.mono (cW _) ?_);rintro e w1 ⟨rfl,rfl⟩;go_wp2_with fail;refine(Calls.mono (xA _) ?_);exact zA6
def Qhi(l:By)(a:Nat)(c:UInt8)(r:By)(w:World)(hd:l.drop a=c::r)(ha:a<l.length)(hl:l.length<=281474976710000)(hc:c=34)(hg:∀h,((bs l)[a]'h).toNat=c.toNat):
  Calls prog 150 #[Sv l,Iv (a:Nat)] w (Qdm (Qbv (c::r)) a w):=by
 have HF:Hi (Qbv (c::r)=(QaN 25 r).map λw=>(⟨2,w,0,0⟩,w.length+2)):=by
  unfold Hi;subst hc;simp only[Qbv];rw[if_neg zd,if_neg zd,if_pos trivial]
 have hs:=JP l;have cL:=λW=>Qce c W
 have cD:=λW=>QcC c W
 rw[show Qdg c=false by rw[hc];rfl]at cL;rw[show QeL c=false by rw[hc];rfl]at cD;have cQ:=λW=>Qgd l a W ha zo
 have xA:l.drop (a+1)=r:=by rw[<-drop_drop,hd];rfl
 rw[xA]at cQ;have hx:c.toNat=34:=by rw[hc];rfl
 rw[hx]at hg cL cD
 have uA:r.length+a+1=l.length:=by
  have:=congrArg List.length hd;simp at this;omega
 cases ho:QaN 25 r with
 |some v=>
  have HT:Hi (Qbv (c::r)=some (⟨2,v,0,0⟩,v.length+2)):=by unfold Hi;rw[HF.o,ho];rfl
  obtain⟨v1,v2,v3⟩:=Vc _ _ _ ho;rw[ho]at cQ;have yA:∀W,Calls prog 164 #[Sv l,Iv (a:Nat)] W (Qbj (Iv ((v.length:Nat)+2)) W):=cQ;have zA:=QcS l (a+1) (a+1+v.length) zo zo ((a:Int)+1) ((a:Int)+((v.length:Int)+2)-1) zo zo
  have hv:(r.take (a+1+v.length-(a+1)))=v:=by
   rw[show a+1+v.length-(a+1)=v.length by omega];have:=congrArg (List.take v.length) v3;rw[List.take_take,List.take_left' rfl,Nat.min_eq_left zo]at this;exact this
  rw[xA,hv]at zA;have vl:v.length<=24:=zo
  go_enter func150,ntmps150;go_wp2_with fail;refine(Calls.mono (cL _) ?_);rintro e w1 ⟨rfl,rfl⟩;go_wp2_with fail;refine(Calls.mono (cD _) ?_);rintro e w1 ⟨rfl,rfl⟩;go_wp2_with fail;refine(Calls.mono (yA _) ?_);rintro e w1 ⟨rfl,rfl⟩;go_wp2_with fail;refine bodyPost_ret (Qba rfl _ _ w.heap.size 105 #[Iv 2,Sv v,Iv 0,Iv (a:Nat)] (0,0) _ rfl (heap_alloc2_old _ _ _) underlying105 rfl Qci) rfl ?_;rw[HT.o];exact Qcd ⟨2,v,0,(a:Nat)⟩ (v.length+2) rfl (by intro t m h;injection h with h;injection h with h1 h2;subst h1;rfl) ((zzb.alloc zzl _).alloc zp _)
 |none=>
  have HT:Hi (Qbv (c::r)=none):=by unfold Hi;rw[HF.o,ho];rfl
  rw[ho]at cQ;have yA:∀W,Calls prog 164 #[Sv l,Iv (a:Nat)] W (Qbj (Iv 0) W):=cQ;go_enter func150,ntmps150;go_wp2_with fail;refine(Calls.mono (cL _) ?_);rintro e w1 ⟨rfl,rfl⟩;go_wp2_with fail;refine(Calls.mono (cD _) ?_);rintro e w1 ⟨rfl,rfl⟩;go_wp2_with fail;refine(Calls.mono (yA _) ?_);exact zA6
def Qie(l:By)(a:Nat)(c:UInt8)(r:By)(w:World)(hd:l.drop a=c::r)(ha:a<l.length)(hl:l.length<=281474976710000)(hc0:Qdg c=false)(hc1:QeL c=false)(E1:c≠34)(hg:∀h,((bs l)[a]'h).toNat=c.toNat):
  Calls prog 150 #[Sv l,Iv (a:Nat)] w (Qdm (Qbv (c::r)) a w):=by
 have HF:Hi (Qbv (c::r)=if Qay (c::r)=[] then none else some (⟨3,Qay (c::r),0,0⟩,(Qay (c::r)).length)):=by
  unfold Hi;simp only[Qbv];rw[if_neg (by simp[hc0]),if_neg (by simp[hc1]),if_neg E1]
 have hs:=JP l;have cL:=λW=>Qce c W
 have cD:=λW=>QcC c W
 rw[hc0]at cL;rw[hc1]at cD;have cS:=λW=>Qgc l a c r W hd ha hl
 have xA:=ZU (c::r)
 have yA:a+(Qay (c::r)).length<=l.length:=by
  have h1:=xA.1;rw[<-hd,length_drop]at h1;rw[<-hd];omega
 have zA:=QcS l a (a+(Qay (c::r)).length) zo yA (a:Int) ((a:Int)+((Qay (c::r)).length:Int)) rfl zo;rw[hd,show a+(Qay (c::r)).length-a=(Qay (c::r)).length by omega,xA.2.2]at zA;have bA:((c.toNat:Int)==34)=false:=zzq (λh=>E1 ((Qhg c 34).2 (by show c.toNat=34;omega)));have hx:=c.toNat_lt;have aA:=xA.2.1
 have O5:Hi (∀t m,Qbv (c::r)=some (t,m)->(⟨3,Qay (c::r),0,(a:Nat)⟩:Tok)={t with off:=(a:Nat)}):=by
  unfold Hi;intro t m h;rw[HF.o]at h;split at h
  ·cases h
  ·injection h with h;injection h with h1 h2;subst h1;rfl
 have vA:Hi ((Qay (c::r)).length=QmK (Qbv (c::r))):=by
  unfold Hi;rw[HF.o];split
  ·rename_i h;rw[h];rfl
  ·rfl
 generalize Qay (c::r)=sg at*;generalize c.toNat=x at*;go_enter func150,ntmps150;go_wp2_with fail;refine(Calls.mono (cL _) ?_);rintro e w1 ⟨rfl,rfl⟩;go_wp2_with fail;refine(Calls.mono (cD _) ?_);rintro e w1 ⟨rfl,rfl⟩;go_wp2_with fail;have cS:=cS ((w.alloc (.cells #[Iv 0,Em,Iv 0,Iv 0] 105)).alloc (.cells #[Iv 0,Em,Iv 0,Iv (a:Nat)] 105));refine(Calls.mono cS ?_);rintro e w4 ⟨rfl,U0⟩;have uA:=(((Below.refl w.heap.size w).alloc zzl (.cells #[Iv 0,Em,Iv 0,Iv 0] 105)).alloc zp (.cells #[Iv 0,Em,Iv 0,Iv (a:Nat)] 105)).trans (U0.mono zq);have g4:w4.heap[w.heap.size]?=some (.cells #[Iv 0,Em,Iv 0,Iv 0] 105 (0,0)):=by rw[U0.block _ zq,heap_alloc2_old]
 have g6:w4.heap[w.heap.size+1]?=some (.cells #[Iv 0,Em,Iv 0,Iv (a:Nat)] 105 (0,0)):=by rw[U0.block _ zp,heap_alloc2_new]
 have G4:=Zh g4;have G6:=Zh g6;have q0:w4.cell? ⟨w.heap.size,0,none⟩=some (Iv 0):=by rw[cell_of_row _ _ _ _ _ _ G4.o];rfl
 have q1:w4.cell? ⟨w.heap.size,1,none⟩=some Em:=by rw[cell_of_row _ _ _ _ _ _ G4.o];rfl
 have q2:w4.cell? ⟨w.heap.size,2,none⟩=some (Iv 0):=by rw[cell_of_row _ _ _ _ _ _ G4.o];rfl
 have q3:w4.cell? ⟨w.heap.size,3,none⟩=some (Iv 0):=by rw[cell_of_row _ _ _ _ _ _ G4.o];rfl
 have p0:w4.cell? ⟨w.heap.size+1,0,none⟩=some (Iv 0):=by rw[cell_of_row _ _ _ _ _ _ G6.o];rfl
 have p1:w4.cell? ⟨w.heap.size+1,1,none⟩=some Em:=by rw[cell_of_row _ _ _ _ _ _ G6.o];rfl
 have p2:w4.cell? ⟨w.heap.size+1,2,none⟩=some (Iv 0):=by rw[cell_of_row _ _ _ _ _ _ G6.o];rfl
 have p3:w4.cell? ⟨w.heap.size+1,3,none⟩=some (Iv (a:Nat)):=by rw[cell_of_row _ _ _ _ _ _ G6.o];rfl
 have f0:=frozen_of_row _ _ 0 _ _ G4.o;have e0:=frozen_of_row _ _ 0 _ _ G6.o;have f1:=frozen_of_row _ _ 1 _ _ G4.o;have e1:=frozen_of_row _ _ 1 _ _ G6.o;have f2:=frozen_of_row _ _ 2 _ _ G4.o;have e2:=frozen_of_row _ _ 2 _ _ G6.o;have f3:=frozen_of_row _ _ 3 _ _ G4.o;have e3:=frozen_of_row _ _ 3 _ _ G6.o;go_wp2_with fail
 have GG:((((((w4.setCell ⟨w.heap.size+1,0,none⟩ (Iv 3)).setCell ⟨w.heap.size+1,1,none⟩ (Sv sg)).setCell ⟨w.heap.size,0,none⟩ (Iv 3)).setCell ⟨w.heap.size,1,none⟩ (Sv sg)).setCell ⟨w.heap.size,2,none⟩ (Iv 0)).setCell ⟨w.heap.size,3,none⟩ (Iv (a:Nat))).heap[w.heap.size]?=some (.cells #[Iv 3,Sv sg,Iv 0,Iv (a:Nat)] 105 (0,0)):=by
  refine Qjx _ _ _ _ (a0:=Iv 0) (a1:=Em) (a2:=Iv 0) (a3:=Iv 0) ?_;rw[heap_setCell_other _ _ _ _ zp,heap_setCell_other _ _ _ _ zp];exact G4.o
 refine bodyPost_ret (Qba rfl _ _ w.heap.size 105 #[Iv 3,Sv sg,Iv 0,Iv (a:Nat)] (0,0) _ rfl GG underlying105 rfl Qci) rfl ?_;exact Qcd ⟨3,sg,0,(a:Nat)⟩ sg.length vA.o O5.o (Ke _ _ _ _ ((uA.setCell zp _).setCell zp _) zzl)
def QgF(l:By)(a:Nat)(c:UInt8)(r:By)(w:World)(hd:l.drop a=c::r)(hl:l.length<=281474976710000):
  Calls prog 150 #[Sv l,Iv (a:Nat)] w (Qdm (Qbv (c::r)) a w):=by
 have ha:a<l.length:=by
  have:=congrArg List.length hd;simp at this;omega
 have hg:∀h,((bs l)[a]'h).toNat=c.toNat:=by
  have h1:=Jit l ha;have h2:=List.drop_eq_getElem_cons ha;rw[hd]at h2;injection h2 with h2 _;rw[h2];exact h1
 cases h1:Qdg c with
 |true=>exact Qgb l a c r w hd ha hl h1 hg
 |false=>
  cases h2:QeL c with
  |true=>exact Qhj l a c r w hd ha hl h1 h2 hg
  |false=>
   by_cases h3:c=34
   ·exact Qhi l a c r w hd ha hl h3 hg
   ·exact Qie l a c r w hd ha hl h1 h2 h3 hg
def QfZ{l:By}{a n:Nat}{c:UInt8}{r:By}{t:Tok}(w:World)(hd:l.drop a=c::r)(hl:l.length<=281474976710000)(h:Qbv (c::r)=some (t,n)):
  Calls prog 150 #[Sv l,Iv (a:Nat)] w (λe w'=>e=.returned (.tuple #[.agg #[Iv t.kind,.string (bs t.text),Iv t.n,Iv (a:Nat)],Iv (n:Nat)])/\Below w.heap.size w w'):=by
 refine(QgF l a c r w hd hl).mono ?_;rintro e w' ⟨⟨u,rfl,hu⟩,hb⟩;rw[hu t n h,h];exact⟨rfl,hb⟩
def Qga{l:By}{a:Nat}{c:UInt8}{r:By}(w:World)(hd:l.drop a=c::r)(hl:l.length<=281474976710000)(h:Qbv (c::r)=none):
  Calls prog 150 #[Sv l,Iv (a:Nat)] w (λe w'=>∃(x y z:Int) (b:ByteArray),e=.returned (.tuple #[.agg #[Iv x,.string b,Iv y,Iv z],Iv 0])/\Below w.heap.size w w'):=by
 refine(QgF l a c r w hd hl).mono ?_;rintro e w' ⟨⟨u,rfl,hu⟩,hb⟩;rw[h];exact⟨u.kind,u.n,u.off,bs u.text,rfl,hb⟩
def Qhk(l:By)(w:World)(h:4096<l.length)(hl:l.length<=9223372036854775807):Calls prog 134 #[Sv l] w (Qdl (QaQ l) w):=by
 have HR:Hi (QaQ l=([],7,0)):=by unfold Hi QaQ;rw[if_pos h]
 have hs:=JP l;have d1:decide (4096<(l.length:Int))=true:=zE zo;clear h;go_enter func134,ntmps134;go_wp2;go_ret3;rw[HR.o];exact⟨_,rfl,World.ownsRow_nil _ _ _ _,zzb⟩
def Qif(l:By)(w:World)(h:l.length<=4096):Calls prog 134 #[Sv l] w (Qdl (QaQ l) w):=by
 have HR:Hi (QaQ l=match sc 0 l with|.ok ts=>(ts,0,0)|.err k=>([],2,(k:Nat))):=by unfold Hi QaQ;rw[if_neg zo];rfl
 have hs:=JP l;have d1:decide (4096<(l.length:Int))=false:=zF zo;obtain⟨i0,hi,hA,iA,jA⟩:=info_parts QjI;go_enter func134,ntmps134;go_wp2_with fail;go_loopw [5,6] (λv6 v7 wr=>∃(us:List Tok) (k:Nat),k<=l.length/\v7=Iv k/\us.length<=k/\wr.ownsRow w.heap.size 105 4 v6 us.length (Qax us)/\Below w.heap.size w wr/\Hi (sc 0 l=(sc k (l.drop k)).prep us)) λ_ v7 _=>l.length-(intOf v7).toNat
 case atStart=>exact⟨[],0,by omega,rfl,by simp,World.ownsRow_nil _ _ _ _,zzb,by unfold Hi;rw[JgD];rfl⟩
 case round=>
  obtain⟨us,k,hk,rfl,kA,xA,zA,HS⟩:=hrel;obtain⟨va,vc,rfl⟩:=Z0 xA
  by_cases hlt:k<l.length
  ·have hg:=Jit l hlt;have hx:l[k].toNat<256:=l[k].toNat_lt;have cA:=List.drop_eq_getElem_cons hlt;obtain⟨c,bA⟩:∃c,l[k]=c:=⟨_,rfl⟩
   rw[bA]at cA hg hx;have HD:=Zh cA;have cB:=λW=>Qhq c W
   cases hsp:Qew c with
   |true=>
    have H:Hi (sc 0 l=(sc (k+1) (l.drop (k+1))).prep us):=by unfold Hi;rw[HS.o,HD.o,JgB k _ hsp]
    rw[hsp]at cB;have HO:=Zh xA;generalize c.toNat=x at*;go_wp2_with fail;refine(Calls.mono (cB _) ?_);rintro e w1 ⟨rfl,rfl⟩;go_wp2;go_roundw
    case rel=>exact⟨us,k+1,by omega,by go_num,by omega,HO.o,zA,H⟩
    case measure=>simp[intOf];omega
   |false=>
    rw[hsp]at cB
    cases ht:Qbv (c::l.drop (k+1)) with
    |none=>
     have cT:=λW=>Qga W HD.o zo ht
     have H:Hi (QaQ l=([],2,((k:Nat):Int))):=by unfold Hi;rw[HR.o,HS.o,HD.o,ZV k _ hsp ht];rfl
     generalize c.toNat=x at*;go_wp2_with fail;refine(Calls.mono (cB _) ?_);rintro e w1 ⟨rfl,rfl⟩;go_wp2_with fail;refine(Calls.mono (cT _) ?_);rintro e w3 ⟨fa,fb,fd,fx,rfl,aA⟩;have U0:=zA.trans (aA.mono zA.size);go_wp2_with fail;go_ret3;rw[H.o];exact⟨_,rfl,World.ownsRow_nil _ _ _ _,U0.alloc U0.size _⟩
    |some q=>
     obtain⟨t,n⟩:=q;have hw:=Jao ht;have cT:=λW=>QfZ W HD.o zo ht
     have H:Hi (sc 0 l=(sc (k+n) (l.drop (k+n))).prep (us++[{t with off:=(k:Int)}])):=by
      unfold Hi;rw[HS.o,HD.o,ZW k _ hsp ht,Jey,<-HD.o,drop_drop]
     have hn:k+n<=l.length:=by
      have h1:=hw.2.2.1;rw[<-HD.o,length_drop]at h1;omega
     have G8:=hw.2.1;have i6:((n:Int)==0)=false:=zzq zo;obtain⟨tk,tt,tn,tf⟩:=t;have HO:=Zh xA;generalize c.toNat=x at*;go_wp2_with fail;refine(Calls.mono (cB _) ?_);rintro e w1 ⟨rfl,rfl⟩;go_wp2_with fail;refine(Calls.mono (cT _) ?_);rintro e w3 ⟨rfl,aA⟩;have yA:=Jdx HO.o aA;have U0:=zA.trans (aA.mono zA.size);have vA:=Zh yA;have eA:us.length+1<=5000:=zo
     go_wp2_with (at_builtin;refine wpList_append_own _ rfl _ _ 65 rfl w.heap.size 105 i0 (.agg #[Iv 0,Em,Iv 0,Iv 0]) 4 40 underlying65 hi hA iA jA rfl zd _ _ _ rfl ((vA.o.alloc _).alloc _) ⟨w3.heap.size+1,0,none⟩ 1 1 [Iv tk,Sv tt,Iv tn,Iv (k:Nat)] rfl rfl ?c1 ?c2 ?c3 ?c4 ?c5 ?_)
     case c1=>
      intro j u hj;rw[Zd];simpa using hj
     case c2=>intro u hu;simp at hu;rcases hu with rfl|rfl|rfl|rfl<;>rfl
     case c3=>unfold maxLen;omega
     case c4=>omega
     case c5=>simp;exact Nat.le_trans U0.size zo
     intro v' w' L3 hgrow _;have uA:=(U0.alloc U0.size (.cells #[Iv tk,Sv tt,Iv tn,Iv (k:Nat)] 105)).alloc (by simp;exact Nat.le_trans U0.size zo) (.cells #[Iv tk,Sv tt,Iv tn,Iv (k:Nat)] 105);have hsz:=uA.size;have dA:=uA.grown hgrow hsz (Jar vA.o)
     have HOW:Hi (w'.ownsRow w.heap.size 105 4 v' (us++[(⟨tk,tt,tn,(k:Nat)⟩:Tok)]).length (Qax (us++[(⟨tk,tt,tn,(k:Nat)⟩:Tok)]))):=by
      unfold Hi;rw[List.length_append,KZ];exact L3
     go_wp2;go_roundw
     case rel=>exact⟨us++[(⟨tk,tt,tn,(k:Nat)⟩:Tok)],k+n,by omega,by go_num,by simp;omega,HOW.o,dA,H⟩
     case measure=>simp[intOf];omega
  ·have gA:k=l.length:=zo
   have H:Hi (QaQ l=(us++[⟨4,[],0,(l.length:Nat)⟩],0,0)):=by
    unfold Hi;rw[HR.o,HS.o,gA,List.drop_length,JcB];rfl
   subst gA;have vA:=Zh xA;have eA:us.length+1<=5000:=zo
   go_wp2_with (at_builtin;refine wpList_append_own _ rfl _ _ 65 rfl w.heap.size 105 i0 (.agg #[Iv 0,Em,Iv 0,Iv 0]) 4 40 underlying65 hi hA iA jA rfl zd _ _ _ rfl (vA.o.alloc _) ⟨wr.heap.size,0,none⟩ 1 1 [Iv 4,Em,Iv 0,Iv (l.length:Nat)] rfl rfl ?d1 ?d2 ?d3 ?d4 ?d5 ?_)
   case d1=>
    intro j u hj;rw[Z1];simpa using hj
   case d2=>intro u hu;simp at hu;rcases hu with rfl|rfl|rfl|rfl<;>rfl
   case d3=>unfold maxLen;omega
   case d4=>omega
   case d5=>simp;exact Nat.le_trans zA.size zo
   intro v' w' L3 hgrow _;have uA:=zA.alloc zA.size (.cells #[Iv 4,Em,Iv 0,Iv (l.length:Nat)] 105);have dA:=uA.grown hgrow uA.size (Jar vA.o)
   have HOW:Hi (w'.ownsRow w.heap.size 105 4 v' (us++[(⟨4,[],0,(l.length:Nat)⟩:Tok)]).length (Qax (us++[(⟨4,[],0,(l.length:Nat)⟩:Tok)]))):=by
    unfold Hi;rw[List.length_append,KZ];exact L3
   go_wp2_with fail;go_ret3;rw[H.o];exact⟨_,rfl,HOW.o,dA⟩
def Qig(l:By)(w:World)(hl:l.length<=9223372036854775807):Calls prog 134 #[Sv l] w (Qdl (QaQ l) w):=by
 by_cases h:4096<l.length
 ·exact Qhk l w h hl
 ·exact Qif l w zo
def Qkh{c:UInt8}(h:Qew c=true):c=9\/c=10\/c=13\/c=32:=by
 simpa[Qew,or_assoc] using h
def QhX{c:UInt8}(h:Qew c=true):QcQ c=false:=by
 rcases Qkh h with rfl|rfl|rfl|rfl<;>decide
def QlC(l:By){c:UInt8}{r:By}{t:Tok}(hl:l=c::r)(hs:Qew c=false)(ht:Qbv l=some (t,l.length)):sc 0 l=.ok [t,⟨4,[],0,(l.length:Nat)⟩]:=by
 have hf:=Yw ht;subst hl;rw[ZW 0 r hs ht,List.drop_length,Nat.zero_add,JcB];obtain⟨a,b,d,o⟩:=t;have:o=0:=hf.2.2.2.2.2;subst this;rfl
def QfG(s:By)(w:World):Calls prog 135 #[Sv s] w (Qbj (.bool (Qai s)) w):=by
 have u1:=Jk s
 have HR:Qai s=((s==[97,110,100])||((s==[98,111,111,108])||((s==[100,101,102])||((s==[100,101,102,97,117,108,116])||((s==[101,108,115,101])||((s==[102,97,108,115,101])||((s==[104,105,100,101])||((s==[105,102])||((s==[105,110])||((s==[105,110,116])||((s==[108,97,98,101,108])||((s==[108,101,116])||((s==[108,105,109,105,116])||((s==[109,101,100,105,97])||((s==[110,111,116])||((s==[111,114])||((s==[115,104,111,119])||((s==[116,104,101,110])||((s==[116,114,117,101])||((s==[119,104,101,110])||(s==[119,111,114,100]))))))))))))))))))))):=by
  rw[Bool.eq_iff_iff];unfold Qai;simp only[decide_eq_true_eq,mem_cons,List.not_mem_nil,or_false,Bool.or_eq_true,beq_iff_eq];rfl
 rw[HR];clear HR;generalize e0:(s==[97,110,100])=b0;generalize e1:(s==[98,111,111,108])=b1;generalize e2:(s==[100,101,102])=b2;generalize e3:(s==[100,101,102,97,117,108,116])=b3;generalize e4:(s==[101,108,115,101])=b4;generalize e5:(s==[102,97,108,115,101])=b5;generalize e6:(s==[104,105,100,101])=b6;generalize e7:(s==[105,102])=b7;generalize e8:(s==[105,110])=b8;generalize e9:(s==[105,110,116])=b9;generalize bA:(s==[108,97,98,101,108])=b10;generalize xA:(s==[108,101,116])=b11;generalize gA:(s==[108,105,109,105,116])=b12;generalize aA:(s==[109,101,100,105,97])=b13;generalize yA:(s==[110,111,116])=b14;generalize uA:(s==[111,114])=b15;generalize vA:(s==[115,104,111,119])=b16;generalize eA:(s==[116,104,101,110])=b17;generalize zA:(s==[116,114,117,101])=b18;generalize cA:(s==[119,104,101,110])=b19;generalize dA:(s==[119,111,114,100])=b20
 cases b0 with
 |true=>
  go_enter func135,ntmps135;go_wp2;go_ret;exact⟨rfl,rfl⟩
 |false=>
 cases b1 with
 |true=>
  go_enter func135,ntmps135;go_wp2;go_ret;exact⟨rfl,rfl⟩
 |false=>
 cases b2 with
 |true=>
  go_enter func135,ntmps135;go_wp2;go_ret;exact⟨rfl,rfl⟩
 |false=>
 cases b3 with
 |true=>
  go_enter func135,ntmps135;go_wp2;go_ret;exact⟨rfl,rfl⟩
 |false=>
 cases b4 with
 |true=>
  go_enter func135,ntmps135;go_wp2;go_ret;exact⟨rfl,rfl⟩
 |false=>
 cases b5 with
 |true=>
  go_enter func135,ntmps135;go_wp2;go_ret;exact⟨rfl,rfl⟩
 |false=>
 cases b6 with
 |true=>
  go_enter func135,ntmps135;go_wp2;go_ret;exact⟨rfl,rfl⟩
 |false=>
 cases b7 with
 |true=>
  go_enter func135,ntmps135;go_wp2;go_ret;exact⟨rfl,rfl⟩
 |false=>
 cases b8 with
 |true=>
  go_enter func135,ntmps135;go_wp2;go_ret;exact⟨rfl,rfl⟩
 |false=>
 cases b9 with
 |true=>
  go_enter func135,ntmps135;go_wp2;go_ret;exact⟨rfl,rfl⟩
 |false=>
 cases b10 with
 |true=>
  go_enter func135,ntmps135;go_wp2;go_ret;exact⟨rfl,rfl⟩
 |false=>
 cases b11 with
 |true=>
  go_enter func135,ntmps135;go_wp2;go_ret;exact⟨rfl,rfl⟩
 |false=>
 cases b12 with
 |true=>
  go_enter func135,ntmps135;go_wp2;go_ret;exact⟨rfl,rfl⟩
 |false=>
 cases b13 with
 |true=>
  go_enter func135,ntmps135;go_wp2;go_ret;exact⟨rfl,rfl⟩
 |false=>
 cases b14 with
 |true=>
  go_enter func135,ntmps135;go_wp2;go_ret;exact⟨rfl,rfl⟩
 |false=>
 cases b15 with
 |true=>
  go_enter func135,ntmps135;go_wp2;go_ret;exact⟨rfl,rfl⟩
 |false=>
 cases b16 with
 |true=>
  go_enter func135,ntmps135;go_wp2;go_ret;exact⟨rfl,rfl⟩
 |false=>
 cases b17 with
 |true=>
  go_enter func135,ntmps135;go_wp2;go_ret;exact⟨rfl,rfl⟩
 |false=>
 cases b18 with
 |true=>
  go_enter func135,ntmps135;go_wp2;go_ret;exact⟨rfl,rfl⟩
 |false=>
 cases b19 with
 |true=>
  go_enter func135,ntmps135;go_wp2;go_ret;exact⟨rfl,rfl⟩
 |false=>
 cases b20 with
 |true=>
  go_enter func135,ntmps135;go_wp2;go_ret;exact⟨rfl,rfl⟩
 |false=>
 go_enter func135,ntmps135;go_wp2;go_ret;exact⟨rfl,rfl⟩
def QdR(s:By)(w:World):Calls prog 136 #[Sv s] w (Qbj (Iv ((QaA s).getD (-1))) w):=by
 have u1:=Jk s
 have HR:(QaA s).getD (-1)=if ((s==[108,105,107,101,115])||((s==[98,111,111,115,116,115])||((s==[114,101,112,108,105,101,115])||((s==[114,101,112,111,114,116,115])||((s==[97,103,101])||((s==[104,111,109,101])||((s==[115,99,111,112,101])||(s==[108,101,110,103,116,104]))))))))=true then 0 else if ((s==[102,111,108,108,111,119,115])||(s==[114,101,112,108,121]))=true then 1 else -1:=by
  have m1:(s∈[Qcq,Qcx,QbP,QbO,QiV,QeM,Qdo,Qcw])↔((s==[108,105,107,101,115])||((s==[98,111,111,115,116,115])||((s==[114,101,112,108,105,101,115])||((s==[114,101,112,111,114,116,115])||((s==[97,103,101])||((s==[104,111,109,101])||((s==[115,99,111,112,101])||(s==[108,101,110,103,116,104]))))))))=true:=by
   simp only[mem_cons,List.not_mem_nil,or_false,Bool.or_eq_true,beq_iff_eq];rfl
  have m2:(s∈[QbQ,QfO])↔((s==[102,111,108,108,111,119,115])||(s==[114,101,112,108,121]))=true:=by
   simp only[mem_cons,List.not_mem_nil,or_false,Bool.or_eq_true,beq_iff_eq];rfl
  unfold QaA
  by_cases g1:((s==[108,105,107,101,115])||((s==[98,111,111,115,116,115])||((s==[114,101,112,108,105,101,115])||((s==[114,101,112,111,114,116,115])||((s==[97,103,101])||((s==[104,111,109,101])||((s==[115,99,111,112,101])||(s==[108,101,110,103,116,104]))))))))=true
  ·rw[if_pos g1,if_pos (m1.2 g1)];rfl
  ·rw[if_neg g1,if_neg λh=>g1 (m1.1 h)]
   by_cases g2:((s==[102,111,108,108,111,119,115])||(s==[114,101,112,108,121]))=true
   ·rw[if_pos g2,if_pos (m2.2 g2)];rfl
   ·rw[if_neg g2,if_neg λh=>g2 (m2.1 h)];rfl
 rw[HR];clear HR;generalize e0:(s==[108,105,107,101,115])=b0;generalize e1:(s==[98,111,111,115,116,115])=b1;generalize e2:(s==[114,101,112,108,105,101,115])=b2;generalize e3:(s==[114,101,112,111,114,116,115])=b3;generalize e4:(s==[97,103,101])=b4;generalize e5:(s==[104,111,109,101])=b5;generalize e6:(s==[115,99,111,112,101])=b6;generalize e7:(s==[108,101,110,103,116,104])=b7;generalize e8:(s==[102,111,108,108,111,119,115])=b8;generalize e9:(s==[114,101,112,108,121])=b9
 cases b0 with
 |true=>
  go_enter func136,ntmps136;go_wp2;go_ret;exact⟨rfl,rfl⟩
 |false=>
 cases b1 with
 |true=>
  go_enter func136,ntmps136;go_wp2;go_ret;exact⟨rfl,rfl⟩
 |false=>
 cases b2 with
 |true=>
  go_enter func136,ntmps136;go_wp2;go_ret;exact⟨rfl,rfl⟩
 |false=>
 cases b3 with
 |true=>
  go_enter func136,ntmps136;go_wp2;go_ret;exact⟨rfl,rfl⟩
 |false=>
 cases b4 with
 |true=>
  go_enter func136,ntmps136;go_wp2;go_ret;exact⟨rfl,rfl⟩
 |false=>
 cases b5 with
 |true=>
  go_enter func136,ntmps136;go_wp2;go_ret;exact⟨rfl,rfl⟩
 |false=>
 cases b6 with
 |true=>
  go_enter func136,ntmps136;go_wp2;go_ret;exact⟨rfl,rfl⟩
 |false=>
 cases b7 with
 |true=>
  go_enter func136,ntmps136;go_wp2;go_ret;exact⟨rfl,rfl⟩
 |false=>
 cases b8 with
 |true=>
  go_enter func136,ntmps136;go_wp2;go_ret;exact⟨rfl,rfl⟩
 |false=>
 cases b9 with
 |true=>
  go_enter func136,ntmps136;go_wp2;go_ret;exact⟨rfl,rfl⟩
 |false=>
 go_enter func136,ntmps136;go_wp2;go_ret;exact⟨rfl,rfl⟩
def Qez(s:By)(w:World)(hs:s.length<=9223372036854775807):Calls prog 85 #[Sv s] w (Qbj (.bool (QbM s)) w):=by
 have z1:=JP s;obtain⟨n,hn⟩:∃n,s.length=n:=⟨_,rfl⟩
 obtain⟨q,hq⟩:∃q,QbM s=q:=⟨_,rfl⟩
 have hI:=Jhq s;rw[hq]at hI |-;rw[hn]at hI z1 hs;have HI:=Zh hI;have HN:=Zh hn;have HS:=Zh hs;clear hI hn hq hs;go_enter func85,ntmps85;go_wp2;go_loop [3] (λv=>∃k:Nat,v=Iv k/\k<=n/\Hi ((s.take k).all txB=true)) λv=>n-(intOf v).toNat
 case atStart=>exact⟨0,rfl,Nat.zero_le _,by unfold Hi;rfl⟩
 case round=>
  obtain⟨k,rfl,hk,hz⟩:=hrel
  by_cases hkn:k<n
  ·have wk:IntKind.i64.wrap ((k:Int)+1)=(k:Int)+1:=IntWalk.i64_in _ (zt HS.o);have dk:decide ((k:Int)<(n:Int))=true:=zE zo;have bA:decide (k<n)=true:=zE hkn;have bk:(k:Int)<(n:Int):=zo
   obtain⟨c,hc⟩:∃c,s[k]?=some c:=⟨_,List.getElem?_eq_getElem (zt HN.o)⟩
   obtain⟨m,hm⟩:∃m,c.toNat=m:=⟨_,rfl⟩
   have uA:m<256:=by rw[<-hm];exact c.toNat_lt
   have hg:∀h,((bs s)[k]'h).toNat=m:=λh=>by
    obtain⟨_,h2⟩:=List.getElem?_eq_some_iff.1 hc;rw[<-hm,<-h2];rfl
   have hw:=Jjd m c hm
   by_cases hwo:32<=m/\m<=126/\m≠34/\m≠92
   ·have RA:=Zh (JcD hz.o hc (hw.2 hwo));clear hz hc hm hw;obtain⟨g1,g2,g3,g4⟩:=hwo;have a1:decide ((m:Int)<32)=false:=zF zo;have vA:decide (m<32)=false:=zF zo;have a2:decide (126<(m:Int))=false:=zF zo;have aA:decide (126<m)=false:=zF zo;have e1:((m:Int)==34)=false:=zzq zo;have cA:(m==34)=false:=zzq zo;have e2:((m:Int)==92)=false:=zzq zo;have dA:(m==92)=false:=zzq zo;clear g1 g2 g3 g4;go_wp2;go_round
    case rel=>exact⟨k+1,by go_num,hkn,RA⟩
    case measure=>simp[intOf];omega
   ·have hb:txB c=false:=by cases h:txB c with|false=>rfl|true=>exact absurd (hw.1 h) hwo
    have O0:q=false:=by rw[HI.o,JeA hc hb];rfl
    subst O0;clear hz hc hm hw hb HI
    by_cases l1:m<32
    ·have a1:decide ((m:Int)<32)=true:=zE zo;have vA:decide (m<32)=true:=zE zo;clear hwo;go_wp2;go_ret;exact⟨rfl,rfl⟩
    by_cases l2:126<m
    ·have a1:decide ((m:Int)<32)=false:=zF zo;have vA:decide (m<32)=false:=zF zo;have a2:decide (126<(m:Int))=true:=zE zo;have aA:decide (126<m)=true:=zE zo;clear l1;clear hwo;go_wp2;go_ret;exact⟨rfl,rfl⟩
    by_cases l3:m=34
    ·subst l3;clear l1 l2;clear hwo;go_wp2;go_ret;exact⟨rfl,rfl⟩
    have l4:m=92:=zo
    subst l4;clear l1 l2 l3;clear hwo;go_wp2;go_ret;exact⟨rfl,rfl⟩
  ·have dk:decide ((k:Int)<(n:Int))=false:=zF zo;have bA:decide (k<n)=false:=zF hkn
   have xA:s.all txB=true:=by
    have:=hz.o
    rwa [List.take_of_length_le (zt HN.o)]at this
   have yA:=HI.o;rw[xA]at yA;simp only[Bool.true_and]at yA
   by_cases R6:n<=24
   ·have d1:decide ((n:Int)<=24)=true:=zE zo;have zA:decide (n<=24)=true:=zE R6;have O0:q=true:=by rw[yA,zA]
    subst O0;clear hz xA yA HI R6 hk hkn;go_wp2;go_ret;exact⟨rfl,rfl⟩
   ·have d1:decide ((n:Int)<=24)=false:=zF zo;have zA:decide (n<=24)=false:=zF R6;have O0:q=false:=by rw[yA,zA]
    subst O0;clear hz xA yA HI R6 hk hkn;go_wp2;go_ret;exact⟨rfl,rfl⟩
def QbT(k:Int):Bool:=k==6||(decide (8<=k)&&decide (k<=12))||k==13||k==14
def Qbe(k:Int):Bool:=k==7||k==16||k==17
def Qke(k:Int):Int:=if k=20 then -1 else (ar0 k:Int)
def QiE(k:Int)(hk:0<=k/\k<21)(w:World):Calls prog 137 #[Iv k] w (Qbj (Iv (Qke k)) w):=by
 have:k=0\/k=1\/k=2\/k=3\/k=4\/k=5\/k=6\/k=7\/k=8\/k=9\/k=10\/k=11\/k=12\/k=13\/k=14\/k=15\/k=16\/k=17\/k=18\/k=19\/k=20:=zo
 rcases this with rfl|rfl|rfl|rfl|rfl|rfl|rfl|rfl|rfl|rfl|rfl|rfl|rfl|rfl|rfl|rfl|rfl|rfl|rfl|rfl|rfl
 all_goals
  go_enter func137,ntmps137;go_wp2;go_ret;exact⟨rfl,rfl⟩
def QbF(k:Int)(hk:0<=k/\k<21)(w:World):Calls prog 151 #[Iv k] w (Qbj (.bool (QbT k)) w):=by
 have:k=0\/k=1\/k=2\/k=3\/k=4\/k=5\/k=6\/k=7\/k=8\/k=9\/k=10\/k=11\/k=12\/k=13\/k=14\/k=15\/k=16\/k=17\/k=18\/k=19\/k=20:=zo
 rcases this with rfl|rfl|rfl|rfl|rfl|rfl|rfl|rfl|rfl|rfl|rfl|rfl|rfl|rfl|rfl|rfl|rfl|rfl|rfl|rfl|rfl
 all_goals
  go_enter func151,ntmps151;go_wp2;go_ret;exact⟨rfl,rfl⟩
def QbA(k:Int)(hk:0<=k/\k<21)(w:World):Calls prog 152 #[Iv k] w (Qbj (.bool (Qbe k)) w):=by
 have:k=0\/k=1\/k=2\/k=3\/k=4\/k=5\/k=6\/k=7\/k=8\/k=9\/k=10\/k=11\/k=12\/k=13\/k=14\/k=15\/k=16\/k=17\/k=18\/k=19\/k=20:=zo
 rcases this with rfl|rfl|rfl|rfl|rfl|rfl|rfl|rfl|rfl|rfl|rfl|rfl|rfl|rfl|rfl|rfl|rfl|rfl|rfl|rfl|rfl
 all_goals
  go_enter func152,ntmps152;go_wp2;go_ret;exact⟨rfl,rfl⟩
def QiZ:∀(l:By)(k:Nat),∀t ts,sc k l=.ok (t::ts)->t.kind=0->t.text.length<=l.length/\(t.text.length=l.length->Qal l=l/\l.length<=24/\∃c r,l=c::r/\Qdg c=true):=by
 refine ZX (P:=λk l=>∀t ts,sc k l=.ok (t::ts)->t.kind=0->t.text.length<=l.length/\(t.text.length=l.length->Qal l=l/\l.length<=24/\∃c r,l=c::r/\Qdg c=true)) ?_ ?_ ?_ ?_
 ·intro k t ts h hk;rw[JcB]at h;injection h with h;injection h with h1 h2;rw[<-h1]at hk
  cases hk
 ·intro k c r hs ih t ts h hk;rw[JgB k r hs]at h;obtain⟨h1,h2⟩:=ih t ts h hk;refine⟨by rw[List.length_cons];omega,λhe=>?_⟩;rw[List.length_cons]at he;omega
 ·intro k c r hs ht t ts h hk;rw[ZV k r hs ht]at h
  cases h
 ·intro k c r t n hs ht hn hle ih t' ts h hk;rw[ZW k r hs ht]at h;obtain⟨zA,h1,h2⟩:=JbI h;injection h2 with h3 h4;subst h3;have xA:t.kind=0:=hk;unfold Qbv at ht;dsimp only at ht
  by_cases hc:Qdg c=true
  ·rw[if_pos hc]at ht
   by_cases hw:(Qal (c::r)).length<=24
   ·rw[if_pos hw]at ht;injection ht with ht;injection ht with e1 e2;subst e1;refine⟨Yv _,λhe=>?_⟩;have hh:(Qal (c::r)).length=(c::r).length:=he
    have yA:Qal (c::r)=c::r:=by
     have:=Jes (c::r);rw[hh,List.take_length]at this;exact this.symm
    refine⟨yA,?_,c,r,rfl,hc⟩;rw[<-hh];exact hw
   ·rw[if_neg hw]at ht;cases ht
  ·rw[if_neg hc]at ht
   exfalso
   by_cases hd:QeL c=true
   ·rw[if_pos hd]at ht
    cases hp:QaL (Qal (c::r)) 0 1125899906842624 with
    |none=>rw[hp]at ht;cases ht
    |some m=>rw[hp]at ht;injection ht with ht;injection ht with e1 _;rw[<-e1]at xA;cases xA
   ·rw[if_neg hd]at ht
    by_cases hq:c=34
    ·rw[if_pos hq]at ht
     cases hp:QaN 25 r with
     |none=>rw[hp]at ht;cases ht
     |some m=>rw[hp]at ht;injection ht with ht;injection ht with e1 _;rw[<-e1]at xA;cases xA
    ·rw[if_neg hq]at ht
     by_cases hz:Qay (c::r)=[]
     ·rw[if_pos hz]at ht;cases ht
     ·rw[if_neg hz]at ht;injection ht with ht;injection ht with e1 _;rw[<-e1]at xA;cases xA
def Qgz(l:By):Qal l=l↔l.all QcQ=true:=by
 unfold Qal
 induction l with
 |nil=>simp
 |cons c l ih=>
  rw[List.takeWhile_cons,List.all_cons]
  by_cases h:QcQ c=true
  ·rw[if_pos h,h,Bool.true_and,<-ih];simp
  ·rw[if_neg h];simp[h]
def QiY{w:World}{base C:Nat}{A:Option Addr}{a b:Tok}(h:w.ownsRow base 105 4 (.slice A [a,b].length C) [a,b].length (Qax [a,b])):∃g,A=some ⟨g,0,none⟩/\w.cell? ⟨g,0,none⟩=some (Iv a.kind)/\w.cell? ⟨g,1,none⟩=some (.string (bs a.text)):=by
 rcases h.2 with⟨h1,h0⟩|⟨g,cap,cur,hv,_⟩
 ·cases h0
 ·injection hv with e1 e2 e3;subst e1;have hc:=h.cells (g:=g) zr;have h0:=hc 0 _ rfl;have h1:=hc 1 _ rfl;refine⟨g,rfl,?_,?_⟩
  ·rw[show (⟨g,0,none⟩:Addr).add 0=⟨g,0,none⟩ by unfold Addr.add;split<;>simp_all]at h0;exact h0
  ·rw[show (⟨g,0,none⟩:Addr).add 1=⟨g,1,none⟩ by unfold Addr.add;split<;>simp_all]at h1;exact h1
def QgM(s:By)(R:List Tok×Int×Int):Prop:=R.2.1=0/\∃a b,R.1=[a,b]/\a.kind=0/\a.text=s
def Qhu(s:By):Qbd s=true↔QgM s (QaQ s)/\Qai s=false/\QaA s=none:=by
 constructor
 ·intro h
  cases s with
  |nil=>cases h
  |cons c r=>
   rw[JdA]at h;simp only[Bool.and_eq_true,decide_eq_true_eq,Bool.not_eq_true',Option.isNone_iff_eq_none]at h;obtain⟨⟨⟨⟨h1,h2⟩,h3⟩,h4⟩,h5⟩:=h;refine⟨?_,h5,h4⟩;have hw:=(Qgz (c::r)).2 h3
   have ht:Qbv (c::r)=some (⟨0,c::r,0,0⟩,(c::r).length):=by
    unfold Qbv;dsimp only;rw[if_pos h2,hw,if_pos h1]
   have hs:Qew c=false:=by
    cases h:Qew c with
    |false=>rfl
    |true=>
     have h6:=QhX h;have h7:=List.all_eq_true.1 h3 c zp;rw[h6]at h7
     cases h7
   have xA:=QlC (c::r) rfl hs ht;unfold QaQ;rw[if_neg zo,xA];exact⟨rfl,_,_,rfl,rfl,rfl⟩
 ·rintro⟨⟨h1,a,b,h2,h3,h4⟩,h5,h6⟩;unfold QaQ at h1 h2
  by_cases hl:4096<s.length
  ·rw[if_pos hl]at h1;cases h1
  rw[if_neg hl]at h1 h2
  cases hs:sc 0 s with
  |err k=>rw[hs]at h1;cases h1
  |ok ts=>
   rw[hs]at h2;have h2':ts=[a,b]:=h2;rw[h2']at hs;obtain⟨_,h7⟩:=QiZ s 0 a [b] hs h3;obtain⟨h8,h9,c,r,V3,h11⟩:=h7 (by rw[h4]);rw[V3]at h5 h6 h8 h9 |-;rw[JdA,zE h9,h11,(Qgz _).1 h8,h6,h5];rfl
theorem zBh{P:Prop}(h:P:=by
  go_wp2_with fail;refine ck.mono ?_;rintro e w3 ⟨rfl,rfl⟩;clear ck;go_wp2_with fail;refine cf.mono ?_;rintro e w3 ⟨rfl,rfl⟩;clear cf;go_wp2;go_ret;exact⟨rfl,HB.o⟩):P:=h
def QhI(s:By)(w:World)(hs:s.length<=9223372036854775807):Calls prog 111 #[Sv s] w (QbL w (.bool (Qbd s))):=by
 have u1:=Jk s;obtain⟨q,hq⟩:∃q,Qbd s=q:=⟨_,rfl⟩
 rw[hq];have hI:=Qhu s;rw[hq]at hI;have cs:=Qig s w zo;obtain⟨⟨ts,er,vA⟩,hR⟩:∃R,QaQ s=R:=⟨_,rfl⟩
 rw[hR]at cs hI;unfold QgM at hI;dsimp only at hI;have HI:=Zh hI;have HK:=Zh λW=>QfG s W;have HF:=Zh λW=>QdR s W;clear hq hI hR hs;go_enter func111,ntmps111;go_wp2_with fail;refine cs.mono ?_;rintro e w2 ⟨v,rfl,xA,hb⟩;dsimp only at xA |-;obtain⟨A,C,rfl⟩:=Z0 xA;have HB:=Zh (show Bel w w2 from hb);have HOW:=Zh xA;clear cs hb xA
 by_cases TC:er=0
 ·subst TC
  by_cases LA:ts.length=2
  ·have dl:((ts.length:Int)==2)=true:=beq_iff_eq.2 zo;have dlN:(ts.length==2)=true:=beq_iff_eq.2 LA
   obtain⟨a,b,rfl⟩:∃a b,ts=[a,b]:=by
    match ts,LA with
    |[a,b],_=>exact⟨a,b,rfl⟩
   obtain⟨g,rfl,k0,k1⟩:=QiY HOW.o;clear dl dlN LA HOW;obtain⟨ak,yA,an,ao⟩:=a;dsimp only at k0 k1;have u2:=Jk yA
   by_cases hk:ak=0
   ·have e0:(ak==0)=true:=beq_iff_eq.2 hk
    by_cases ht:yA=s
    ·have e1:(yA==s)=true:=beq_iff_eq.2 ht
     cases MA:Qai s with
     |true=>
      have O0:q=false:=by
       cases q with
       |false=>rfl
       |true=>have:=(HI.o.1 rfl).2.1;rw[MA]at this;cases this
      subst O0;have ck:=HK.o w2;rw[MA]at ck;clear MA HK HF HI hk ht;go_wp2_with fail;refine ck.mono ?_;rintro e w3 ⟨rfl,rfl⟩;clear ck;go_wp2;go_ret;exact⟨rfl,HB.o⟩
     |false=>
      have ck:=HK.o w2;rw[MA]at ck;have cf:=HF.o w2
      cases hf:QaA s with
      |none=>
       have zA:q=true:=by
        cases q with
        |true=>rfl
        |false=>exact absurd (HI.o.2 ⟨⟨rfl,_,_,rfl,hk,ht⟩,MA,hf⟩) zd
       subst zA;rw[hf]at cf;clear MA hf HK HF HI hk ht;exact zBh
      |some t=>
       have O0:q=false:=by
        cases q with
        |false=>rfl
        |true=>have:=(HI.o.1 rfl).2.2;rw[hf]at this;cases this
       subst O0
       have uA:t=0\/t=1:=by
        unfold QaA at hf;split at hf
        ·injection hf with hf;exact .inl hf.symm
        ·split at hf
         ·injection hf with hf;exact .inr hf.symm
         ·cases hf
       rw[hf]at cf;have d0:decide (t<0)=false:=zF zo;clear MA hf HK HF HI hk ht uA;exact zBh
    ·have e1:(yA==s)=false:=zzq ht
     have O0:q=false:=by
      cases q with
      |false=>rfl
      |true=>
       obtain⟨⟨_,a',b',h1,_,h2⟩,_⟩:=HI.o.1 rfl;injection h1 with h1 _;exact absurd (by rw[<-h1]at h2;exact h2) ht
     subst O0;clear HK HF HI hk ht;go_wp2;go_ret;exact⟨rfl,HB.o⟩
   ·have e0:(ak==0)=false:=zzq hk
    have O0:q=false:=by
     cases q with
     |false=>rfl
     |true=>
      obtain⟨⟨_,a',b',h1,h2,_⟩,_⟩:=HI.o.1 rfl;injection h1 with h1 _;exact absurd (by rw[<-h1]at h2;exact h2) hk
    subst O0;clear HK HF HI hk;go_wp2;go_ret;exact⟨rfl,HB.o⟩
  ·have dl:((ts.length:Int)==2)=false:=zzq zo;have dlN:(ts.length==2)=false:=zzq LA
   have O0:q=false:=by
    cases q with
    |false=>rfl
    |true=>
     obtain⟨⟨_,a',b',h1,_,_⟩,_⟩:=HI.o.1 rfl;rw[h1]at LA;exact absurd rfl LA
   subst O0;clear HK HF HI LA HOW;go_wp2;go_ret;exact⟨rfl,HB.o⟩
 ·have e0:(er==0)=false:=zzq TC
  have O0:q=false:=by
   cases q with
   |false=>rfl
   |true=>exact absurd (HI.o.1 rfl).1.1 TC
  subst O0;clear HK HF HI TC HOW;go_wp2;go_ret;exact⟨rfl,HB.o⟩
def Qdu{P:Program}{f:FuncId}{args:Array Value}{w:World}{a n:Nat}{v:Value}(h:Calls P f args (w.drewN (a+n)) (Qbj v (w.drewN (a+n)))):
  Calls P f args (w.drewN (a+n)) λe w''=>e=.returned v/\∃m,w''=w.drewN (a+m):=h.mono λ_ _ ⟨he,hm⟩=>⟨he,n,hm.symm⟩
def QcY{P:Program}{f:FuncId}{args:Array Value}{w:World}{n:Nat}{v:Value}(h:Calls P f args (w.drewN n) (Qbj v (w.drewN n))):
  Calls P f args (w.drewN n) λe w''=>e=.returned v/\∃m,w''=w.drewN m:=h.mono λ_ _ ⟨he,hm⟩=>⟨he,n,hm.symm⟩
def QiM(l:List Exp)(a:Exp):Qek (l++[a])=max (Qek l) (Qfp a):=by
 induction l with
 |nil=>rw[List.nil_append,Qbu];unfold Qek;omega
 |cons b l ih=>rw[List.cons_append,Qbu,Qbu,ih];omega
def Qha:∀(e:Exp),Qfp e<=siz (utN e)
 |.mk k n s l=>by
  have h:=depL_siz l;rw[Qfi,utN,JA];omega
where depL_siz:∀(l:List Exp),Qek l<=Qaz (utL l)
 |[]=>by unfold Qek;omega
 |a::l=>by
  have h1:=Qha a;have h2:=depL_siz l;rw[Qbu,utL,Ju];omega
theorem zA8{P:Prop}(h:P:=by
  intro W hW;have hh:=(hW.block _ S3.o).trans S0.o;refine⟨?_,?_,?_,?_⟩<;>(rw[Ja hh];rfl)):P:=h
def QhG(n:Nat)(IH:∀(e:Exp)(c:Array Value)(W:World),siz (utN e)<=n->XAt W (In W) e c->Calls prog 112 #[.agg c] W (QbL W (Iv (Qfp e))))
  (k nn:Int) (s:By) (l:List Exp) (ad:Option Addr) (cc:Nat) (w:World) (hn:Qaz (utL l)<=n) (WB:n<=1000000) (hK:QbC w ad l):
  Calls prog 112 #[.agg #[Iv k,Iv nn,Sv s,.slice ad l.length cc]] w (QbL w (Iv (Qfp (.mk k nn s l)))):=by
 have HN:=Zh (And.intro hn WB);have A0:Below w.heap.size w (w.alloc (.cells #[Iv k,Iv nn,Sv s,.slice ad l.length cc] 50)):=zzb.alloc zzl _;have S0:=Zh (zzw w (.cells #[Iv k,Iv nn,Sv s,.slice ad l.length cc] 50));have B0:Hi (∀W,Below (w.alloc (.cells #[Iv k,Iv nn,Sv s,.slice ad l.length cc] 50)).heap.size (w.alloc (.cells #[Iv k,Iv nn,Sv s,.slice ad l.length cc] 50)) W->Bel w W):=λW hW=>Je A0 hW
 have vA:=Zh hK;have cA:=Zh IH;have bA:l.length<=1000000:=Nat.le_trans (JjH hn) WB;rw[Qfi]
 have eA:Hi (∀i:Nat,Qek (l.take i)<=1000000):=λi=>by
  have h1:=Qha.depL_siz l;have h2:Qek (l.take i)<=Qek l:=Qgs λa ha=>Qfj (List.mem_of_mem_take ha)
  omega
 go_enter func112,ntmps112;go_upto_region 1 with fail;have S3:Hi (w.heap.size<(w.alloc (.cells #[Iv k,Iv nn,Sv s,.slice ad l.length cc] 50)).heap.size):=Jb S0.o;generalize World.alloc w _=w1 at*;generalize w.heap.size=eb at*
 have FF:Hi (∀W,Below w1.heap.size w1 W->W.cell? ⟨eb,0,none⟩=some (Iv k)/\W.cell? ⟨eb,1,none⟩=some (Iv nn)/\W.cell? ⟨eb,2,none⟩=some (Sv s)/\W.cell? ⟨eb,3,none⟩=some (.slice ad l.length cc)):=by
  exact zA8
 have zA:Hi (Below w1.heap.size w1 w1):=zzb;go_wp2_with fail;go_loopg [3,4] l.length λg v3 v4 wr=>∃i:Nat,g+i=l.length/\v4=Iv i/\v3=Iv (Qek (l.take i))/\Hi (Below w1.heap.size w1 wr)
 case atStart=>exact⟨0,rfl,rfl,(by rw[List.take_zero];unfold Qek;rfl),zA⟩
 case round=>
 obtain⟨wl,rfl⟩:=zG wr
 obtain⟨i,hg,rfl,rfl,G1⟩:=hrel;obtain⟨b0,b1,b2,b3⟩:=FF.o _ G1.o;have E0:Hi (Bel w wl):=B0.o _ G1.o;obtain⟨m,hm⟩:∃m,Qek (l.take i)=m:=⟨_,rfl⟩
 have T3:m<=1000000:=by rw[<-hm];exact eA.o i
 rw[hm];have HM:=Zh hm
 by_cases hi:i<l.length
 ·have hil:(i:Int)<(l.length:Int):=zo
  have dil:decide ((i:Int)<(l.length:Int))=true:=zE hil;have xA:decide (i<l.length)=true:=zE hi;have wk:=zI i;obtain⟨y,hy⟩:∃y,l[i]?=some y:=⟨l[i],List.getElem?_eq_getElem hi⟩
  have hsz:siz (utN y)<=n:=Nat.le_trans (Jbz (List.mem_of_getElem? hy)) HN.o.1;obtain⟨b,o,da,dc,gA,hxy,c0,c1,c2,c3⟩:=vA.o.at' (B0.o _ G1.o) hy;have ci:=cA.o y _ wl hsz hxy;obtain⟨z,hz⟩:∃z,Qfp y=z:=⟨_,rfl⟩
  rw[hz]at ci;have S4:=Zh G1.o;have HG:=Zh (And.intro hg hi);have uA:Hi (max m z=Qek (l.take (i+1))):=by rw[Hi,JF hy,QiM,HM.o,hz]
  obtain⟨mm,yA⟩:∃mm,max m z=mm:=⟨_,rfl⟩
  have aA:max (m:Int) (z:Int)=(mm:Int):=by rw[<-yA];omega
  rw[yA]at uA;subst gA;go_wp2_with fail;refine ci.mono ?_;rintro e w7 ⟨rfl,E4⟩;have I3:=Zh (Je S4.o E4);go_wp2;go_roundg (l.length-(i+1))
  case measure=>have:=HG.o;omega
  case rel=>exact⟨i+1,by have:=HG.o;omega,by go_num,by rw[<-uA.o,<-aA],I3⟩
 ·have hil:¬(i:Int)<(l.length:Int):=zo
  have dil:decide ((i:Int)<(l.length:Int))=false:=zF hil;have xA:decide (i<l.length)=false:=zF hi;have wm:=zI m;have dA:Qek l=m:=by have h:=HM.o;rw[List.take_of_length_le zo]at h;exact h
  rw[dA];rw[show ((m+1:Nat):Int)=(m:Int)+1 by omega];go_wp2;go_ret;exact⟨rfl,E0.o⟩
def QfF:∀n:Nat,n<=1000000->∀(e:Exp)(c:Array Value)(W:World),siz (utN e)<=n+1->XAt W (In W) e c->Calls prog 112 #[.agg c] W (QbL W (Iv (Qfp e)))
 |n,hn,.mk k nn s l,c,W,hs,hx=>by
  obtain⟨ad,cc,rfl,_,hK⟩:=hx.kids;unfold utN at hs;rw[JA]at hs;refine QhG n (λe c W he hxe=>?_) k nn s l ad cc W zo hn hK
  cases n with
  |zero=>have:=Jdn e;omega
  |succ n=>exact QfF n zo e c W he hxe
def QdG(nf many:Nat)(nn:Int)(s:By):Qab nf many 0 nn s=((decide (0<=nn))&&(decide (nn<=1125899906842624))&&(decide (s=[]))):=by
 rw[Bool.eq_iff_iff];unfold Qab;simp[and_assoc]
def QdF(nf many:Nat)(nn:Int)(s:By):Qab nf many 1 nn s=((decide (0<=nn))&&(decide (nn<=1))&&(decide (s=[]))):=by
 rw[Bool.eq_iff_iff];unfold Qab;simp[and_assoc];refine⟨λ⟨a,b⟩=>⟨by omega,by omega,b⟩,λ⟨a,b,c⟩=>⟨by omega,c⟩⟩
def QdE(nf many:Nat)(nn:Int)(s:By):Qab nf many 2 nn s=((decide (0<=nn))&&(decide (nn<(many:Int)))&&(decide (s=[]))):=by
 rw[Bool.eq_iff_iff];unfold Qab;simp[and_assoc]
def QeE(nf many:Nat)(nn:Int)(s:By):Qab nf many 3 nn s=((decide (nn=0))&&((QaA s).isSome)):=by
 rw[Bool.eq_iff_iff];unfold Qab;simp[and_assoc]
def QfM(nf many:Nat)(nn:Int)(s:By):Qab nf many 4 nn s=((decide (nn=0))&&(QbM s)):=by
 rw[Bool.eq_iff_iff];unfold Qab;simp[and_assoc]
def QfL(nf many:Nat)(nn:Int)(s:By):Qab nf many 5 nn s=((decide (nn=0))&&(QbM s)):=by
 rw[Bool.eq_iff_iff];unfold Qab;simp[and_assoc]
def QdS(nf many:Nat)(nn:Int)(s:By):Qab nf many 19 nn s=((decide (nn=(many:Int)))&&(decide (s=[]))):=by
 rw[Bool.eq_iff_iff];unfold Qab;simp[and_assoc]
def Qdh(nf many:Nat)(nn:Int)(s:By):Qab nf many 20 nn s=((decide (0<=nn))&&(decide (nn<(nf:Int)))&&(decide (s=[]))):=by
 rw[Bool.eq_iff_iff];unfold Qab;simp[and_assoc]
def QfK(nf many:Nat)(k nn:Int)(s:By)(hk:0<=k/\k<21)(h0:k≠0)(h1:k≠1)(h2:k≠2)(h3:k≠3)(h4:k≠4)(h5:k≠5)(N2:k≠19)(O2:k≠20):Qab nf many k nn s=(decide (nn=0)&&decide (s=[])):=by
 rw[Bool.eq_iff_iff];unfold Qab;rw[if_neg h0,if_neg h1,if_neg h2,if_neg N2,if_neg O2,if_neg h3,if_neg zo];simp only[Bool.and_eq_true,beq_iff_eq,decide_eq_true_eq]
 constructor
 ·rintro⟨⟨⟨a,b⟩,_⟩,_⟩;exact⟨a,b⟩
 ·rintro⟨a,b⟩;exact⟨⟨⟨a,b⟩,hk.1⟩,hk.2⟩
theorem zA7{P:Prop}(h:P:=by
  go_wp2_with fail;refine ci.mono ?_;rintro e w7 ⟨rfl,E4⟩;have I3:=Zh (Je HB.o E4);clear ci E4 b0 b1 b2 b3 c0 c1 c2 c3;go_wp2;go_roundg (l.length-(i+1))
  case measure=>have:=HG.o;omega
  case rel=>exact⟨i+1,z,by have:=HG.o;omega,by go_num,rfl,I3.o,D5.o⟩):P:=h
theorem zA9{P:Prop}(h:P:=by
  clear h0 h1 h2;go_wp2;go_meet;exact⟨congrArg Value.bool HV.o.symm,xA.o⟩):P:=h
theorem zBa{P:Prop}(h:P:=by
  clear h0;go_wp2;go_meet;exact⟨congrArg Value.bool HV.o.symm,xA.o⟩):P:=h
theorem zBb{P:Prop}(h:P:=by
  clear h0 h1;go_wp2;go_meet;exact⟨congrArg Value.bool HV.o.symm,xA.o⟩):P:=h
theorem zBd{P:Prop}(h:P:=by
  go_quiet (first|(with_reducible exact Qdu (ck _))|(with_reducible exact QcY (ck _)));go_wp2;go_meet;exact⟨rfl,J2 cA.o _⟩):P:=h
theorem zBi{P:Prop}(h:P:=by
  clear ht h0;go_wp2_with fail;refine ct.mono ?_;rintro e w9 ⟨rfl,rfl⟩;clear ct;go_wp2;go_meet;exact⟨congrArg Value.bool HV.o.symm,xA.o⟩):P:=h
theorem zBj{P:Prop}(h:P:=by
  go_wp2_with fail;refine cf.mono ?_;rintro e w9 ⟨rfl,rfl⟩;clear cf;go_wp2;go_meet;exact⟨congrArg Value.bool HV.o.symm,xA.o⟩):P:=h
def QfE(fs:List FnM)(fa:Option Addr)(fc:Nat)(n:Nat)(IH:∀(many:Nat)(e:Exp)(c:Array Value)(W:World),siz (utN e)<=n->many+siz (utN e)<=2000000->NmN e->XAt W (In W) e c->Calls prog 113 #[.slice fa fs.length fc,Iv many,.agg c] W (QbL W (.bool (shN fs.length many e))))
  (many:Nat) (k nn:Int) (s:By) (l:List Exp) (ad:Option Addr) (cc:Nat) (w:World) (hn:Qaz (utL l)<=n) (WB:many+Qaz (utL l)+1<=2000000) (hs:s.length<=9223372036854775807) (H8:NmL l) (hK:QbC w ad l):
  Calls prog 113 #[.slice fa fs.length fc,Iv many,.agg #[Iv k,Iv nn,Sv s,.slice ad l.length cc]] w (QbL w (.bool (shN fs.length many (.mk k nn s l)))):=by
 have u1:=Jk s;have HN:=Zh (And.intro hn WB);have gB:=Zh H8;have A0:Below w.heap.size w (w.alloc (.cells #[Iv k,Iv nn,Sv s,.slice ad l.length cc] 50)):=zzb.alloc zzl _;have S0:=Zh (zzw w (.cells #[Iv k,Iv nn,Sv s,.slice ad l.length cc] 50));have B0:Hi (∀W,Below (w.alloc (.cells #[Iv k,Iv nn,Sv s,.slice ad l.length cc] 50)).heap.size (w.alloc (.cells #[Iv k,Iv nn,Sv s,.slice ad l.length cc] 50)) W->Bel w W):=λW hW=>Je A0 hW
 have sA:=Zh hK;have nA:=Zh IH;have aB:l.length<=2000000:=by have:=JjH (Nat.le_refl (Qaz (utL l)));omega
 have nB:many<=2000000:=zo
 obtain⟨q,hq⟩:∃q,shN fs.length many (.mk k nn s l)=q:=⟨_,rfl⟩
 rw[hq];rw[Qia]at hq;have HQ:=Zh hq;have xB:=Zh λW=>QdR s W;have kA:=Zh λW=>Qez s W hs;obtain⟨bA,hA⟩:∃b,(!(decide (0<=k)&&decide (k<21)&&(k==20||l.length==ar0 k)))=b:=⟨_,rfl⟩
 have yA:=Zh hA;clear A0 hK IH hn WB hq hs H8 hA;go_enter func113,ntmps113;go_upto_region 1 with fail;have S3:Hi (w.heap.size<(w.alloc (.cells #[Iv k,Iv nn,Sv s,.slice ad l.length cc] 50)).heap.size):=Jb S0.o;generalize World.alloc w _=w1 at*;generalize w.heap.size=eb at*
 have FF:Hi (∀W,Below w1.heap.size w1 W->W.cell? ⟨eb,0,none⟩=some (Iv k)/\W.cell? ⟨eb,1,none⟩=some (Iv nn)/\W.cell? ⟨eb,2,none⟩=some (Sv s)/\W.cell? ⟨eb,3,none⟩=some (.slice ad l.length cc)):=by
  exact zA8
 have cA:Hi (Below w1.heap.size w1 w1):=zzb;obtain⟨b0,b1,b2,b3⟩:=FF.o _ cA.o;go_cut [32] λv wx=>v=.bool bA/\Below w1.heap.size w1 wx
 case first=>as_aux_lemma=>
  by_cases hk:0<=k/\k<21
  ·have d0:decide (k<0)=false:=zF zo;have d1:decide (21<=k)=false:=zF zo;have ck:=λW=>QiE k hk W
   obtain⟨kk,uA⟩:∃kk,Qke k=kk:=⟨_,rfl⟩
   rw[uA]at ck
   by_cases O2:k=20
   ·have d2:decide (0<=kk)=false:=zF (by rw[<-uA,O2];decide);have aA:bA=false:=by rw[<-yA.o,O2];rfl
    subst aA;clear hk uA O2 HQ yA;exact zBd
   ·have qA:kk=(ar0 k:Int):=by rw[<-uA];unfold Qke;rw[if_neg O2]
    have d2:decide (0<=kk)=true:=zE zo
    by_cases hl:l.length=ar0 k
    ·have en:(kk==(l.length:Int))=true:=beq_iff_eq.2 zo;have eB:(kk !=(l.length:Int))=false:=by rw[bne,en];rfl
     have aA:bA=false:=by rw[<-yA.o,hl,zE hk.1,zE hk.2];simp
     subst aA;clear hk uA O2 qA hl HQ yA;exact zBd
    ·have en:(kk==(l.length:Int))=false:=zzq zo;have eB:(kk !=(l.length:Int))=true:=by rw[bne,en];rfl
     have aA:bA=true:=by rw[<-yA.o,zzq hl,zzq O2];simp
     subst aA;clear hk uA O2 qA hl HQ yA;exact zBd
  ·by_cases UC:k<0
   ·have d0:decide (k<0)=true:=zE UC;have aA:bA=true:=by rw[<-yA.o,zF (show ¬0<=k by omega)];rfl
    subst aA;clear hk UC HQ yA;go_quiet (fail);go_wp2;go_meet;exact⟨rfl,J2 cA.o _⟩
   ·have d0:decide (k<0)=false:=zF UC;have d1:decide (21<=k)=true:=zE zo;have aA:bA=true:=by rw[<-yA.o,zF (show ¬k<21 by omega)];simp
    subst aA;clear hk UC HQ yA;go_quiet (fail);go_wp2;go_meet;exact⟨rfl,J2 cA.o _⟩
 case rest=>as_aux_lemma=>
 obtain⟨rfl,I0⟩:=hcut;obtain⟨w2,rfl⟩:=zG wc
 have dA:=Zh I0;clear I0 b0 b1 b2 b3
 cases bA with
 |true=>
  have O0:q=false:=by
   have hb:=yA.o;rw[<-HQ.o];rw[Bool.not_eq_true']at hb
   cases WC:Qab fs.length many k nn s with
   |false=>rfl
   |true=>
    unfold Qab at WC;simp only[Bool.and_eq_true,decide_eq_true_eq]at WC;rw[zE WC.1.2,zE WC.2]at hb;simp only[Bool.true_and]at hb;rw[hb];rfl
  subst O0;clear HQ yA;go_wp2;go_ret;exact⟨rfl,B0.o _ dA.o⟩
 |false=>
 have uA:(0<=k/\k<21)/\(k==20||l.length==ar0 k)=true:=by
  have hb:=yA.o;rw[Bool.not_eq_false',Bool.and_eq_true,Bool.and_eq_true,decide_eq_true_eq,decide_eq_true_eq]at hb;exact hb
 have HK:=Zh uA.1
 replace HQ:Hi ((Qab fs.length many k nn s&&shL fs.length many k 0 l)=q):=by
  have h:=HQ.o;rw[uA.2,Bool.and_true]at h;exact h
 clear uA yA;obtain⟨gA,eA⟩:∃b,(decide (nn=0)&&decide (s=[]))=b:=⟨_,rfl⟩
 have vA:=Zh eA;clear eA;obtain⟨b0,b1,b2,b3⟩:=FF.o _ dA.o;go_upto_region 3 with fail;go_cut [7] λv wx=>v=.bool gA/\Below w1.heap.size w1 wx
 case first=>as_aux_lemma=>
  by_cases h0:nn=0
  ·have en:(nn==0)=true:=beq_iff_eq.2 h0
   by_cases h1:s=[]
   ·have es:(s==[])=true:=beq_iff_eq.2 h1;have ho:gA=true:=by rw[<-vA.o,zE h0,zE h1];rfl
    subst ho;clear h0 h1 vA HQ;go_wp2;go_meet;exact⟨rfl,dA.o⟩
   ·have es:(s==[])=false:=zzq h1;have ho:gA=false:=by rw[<-vA.o,zF h1];simp
    subst ho;clear h0 h1 vA HQ;go_wp2;go_meet;exact⟨rfl,dA.o⟩
  ·have en:(nn==0)=false:=zzq h0;have ho:gA=false:=by rw[<-vA.o,zF h0];rfl
   subst ho;clear h0 vA HQ;go_wp2;go_meet;exact⟨rfl,dA.o⟩
 case rest=>as_aux_lemma=>
 obtain⟨rfl,yB⟩:=hcut;obtain⟨w3,rfl⟩:=zG wc
 have xA:=Zh yB;clear yB b0 b1 b2 b3 dA;obtain⟨b0,b1,b2,b3⟩:=FF.o _ xA.o;go_upto_block 0 with fail;go_cut [7] λv wx=>v=.bool (Qab fs.length many k nn s)/\Below w1.heap.size w1 wx
 case first=>as_aux_lemma=>
  clear HQ nA sA FF
  by_cases k0:k=0
  ·subst k0
   as_aux_lemma=>
   by_cases h0:0<=nn
   ·have d0:decide (0<=nn)=true:=zE zo
    by_cases h1:nn<=1125899906842624
    ·have d1:decide (nn<=1125899906842624)=true:=zE zo
     by_cases h2:s=[]
     ·have es:(s==[])=true:=beq_iff_eq.2 h2;have HV:Hi (Qab fs.length many 0 nn s=true):=by rw[Hi,QdG];simp[h0,h1,h2]
      exact zA9
     ·have es:(s==[])=false:=zzq h2;have HV:Hi (Qab fs.length many 0 nn s=false):=by rw[Hi,QdG];simp[h0,h1,h2]
      exact zA9
    ·have d1:decide (nn<=1125899906842624)=false:=zF zo;have HV:Hi (Qab fs.length many 0 nn s=false):=by rw[Hi,QdG];simp[h0,h1]
     exact zBb
   ·have d0:decide (0<=nn)=false:=zF zo;have HV:Hi (Qab fs.length many 0 nn s=false):=by rw[Hi,QdG];simp[h0]
    exact zBa
  have hB:(k==0)=false:=zzq k0
  by_cases k1:k=1
  ·subst k1
   as_aux_lemma=>
   by_cases h0:0<=nn
   ·have d0:decide (0<=nn)=true:=zE zo
    by_cases h1:nn<=1
    ·have d1:decide (nn<=1)=true:=zE zo
     by_cases h2:s=[]
     ·have es:(s==[])=true:=beq_iff_eq.2 h2;have HV:Hi (Qab fs.length many 1 nn s=true):=by rw[Hi,QdF];simp[h0,h1,h2]
      exact zA9
     ·have es:(s==[])=false:=zzq h2;have HV:Hi (Qab fs.length many 1 nn s=false):=by rw[Hi,QdF];simp[h0,h1,h2]
      exact zA9
    ·have d1:decide (nn<=1)=false:=zF zo;have HV:Hi (Qab fs.length many 1 nn s=false):=by rw[Hi,QdF];simp[h0,h1]
     exact zBb
   ·have d0:decide (0<=nn)=false:=zF zo;have HV:Hi (Qab fs.length many 1 nn s=false):=by rw[Hi,QdF];simp[h0]
    exact zBa
  have mB:(k==1)=false:=zzq k1
  by_cases k2:k=2
  ·subst k2
   as_aux_lemma=>
   by_cases h0:0<=nn
   ·have d0:decide (0<=nn)=true:=zE zo
    by_cases h1:nn<(many:Int)
    ·have d1:decide (nn<(many:Int))=true:=zE zo
     by_cases h2:s=[]
     ·have es:(s==[])=true:=beq_iff_eq.2 h2;have HV:Hi (Qab fs.length many 2 nn s=true):=by rw[Hi,QdE];simp[h0,h1,h2]
      exact zA9
     ·have es:(s==[])=false:=zzq h2;have HV:Hi (Qab fs.length many 2 nn s=false):=by rw[Hi,QdE];simp[h0,h1,h2]
      exact zA9
    ·have d1:decide (nn<(many:Int))=false:=zF zo;have HV:Hi (Qab fs.length many 2 nn s=false):=by rw[Hi,QdE];simp[h0,h1]
     exact zBb
   ·have d0:decide (0<=nn)=false:=zF zo;have HV:Hi (Qab fs.length many 2 nn s=false):=by rw[Hi,QdE];simp[h0]
    exact zBa
  have iB:(k==2)=false:=zzq k2
  by_cases k3:k=3
  ·subst k3
   as_aux_lemma=>
   by_cases h0:nn=0
   ·have en:(nn==0)=true:=beq_iff_eq.2 h0;have cf:=xB.o w3
    cases hf:QaA s with
    |none=>
     have HV:Hi (Qab fs.length many 3 nn s=false):=by rw[Hi,QeE];simp[h0,hf]
     rw[hf]at cf;clear hf h0;exact zBj
    |some t=>
     have cB:t=0\/t=1:=QgZ hf;have d9:decide ((0:Int)<=t)=true:=zE zo;have HV:Hi (Qab fs.length many 3 nn s=true):=by rw[Hi,QeE];simp[h0,hf]
     rw[hf]at cf;clear hf cB h0;exact zBj
   ·have en:(nn==0)=false:=zzq h0;have HV:Hi (Qab fs.length many 3 nn s=false):=by rw[Hi,QeE];simp[h0]
    exact zBa
  have kB:(k==3)=false:=zzq k3
  by_cases k4:k=4
  ·subst k4
   as_aux_lemma=>
   by_cases h0:nn=0
   ·have en:(nn==0)=true:=beq_iff_eq.2 h0;have ct:=kA.o w3;obtain⟨tb,ht⟩:∃tb,QbM s=tb:=⟨_,rfl⟩
    rw[ht]at ct;have HV:Hi (Qab fs.length many 4 nn s=tb):=by rw[Hi,QfM,ht];simp[h0]
    exact zBi
   ·have en:(nn==0)=false:=zzq h0;have HV:Hi (Qab fs.length many 4 nn s=false):=by rw[Hi,QfM];simp[h0]
    exact zBa
  have pB:(k==4)=false:=zzq k4
  by_cases k5:k=5
  ·subst k5
   as_aux_lemma=>
   by_cases h0:nn=0
   ·have en:(nn==0)=true:=beq_iff_eq.2 h0;have ct:=kA.o w3;obtain⟨tb,ht⟩:∃tb,QbM s=tb:=⟨_,rfl⟩
    rw[ht]at ct;have HV:Hi (Qab fs.length many 5 nn s=tb):=by rw[Hi,QfL,ht];simp[h0]
    exact zBi
   ·have en:(nn==0)=false:=zzq h0;have HV:Hi (Qab fs.length many 5 nn s=false):=by rw[Hi,QfL];simp[h0]
    exact zBa
  have jB:(k==5)=false:=zzq k5
  by_cases k19:k=19
  ·subst k19
   as_aux_lemma=>
   by_cases h0:nn=(many:Int)
   ·have en:(nn==(many:Int))=true:=beq_iff_eq.2 h0
    by_cases h1:s=[]
    ·have es:(s==[])=true:=beq_iff_eq.2 h1;have HV:Hi (Qab fs.length many 19 nn s=true):=by rw[Hi,QdS];simp[h0,h1]
     exact zBb
    ·have es:(s==[])=false:=zzq h1;have HV:Hi (Qab fs.length many 19 nn s=false):=by rw[Hi,QdS];simp[h0,h1]
     exact zBb
   ·have en:(nn==(many:Int))=false:=zzq h0;have HV:Hi (Qab fs.length many 19 nn s=false):=by rw[Hi,QdS];simp[h0]
    exact zBa
  have vB:(k==19)=false:=zzq k19
  by_cases k20:k=20
  ·subst k20
   as_aux_lemma=>
   by_cases h0:0<=nn
   ·have d0:decide (0<=nn)=true:=zE zo
    by_cases h1:nn<(fs.length:Int)
    ·have d1:decide (nn<(fs.length:Int))=true:=zE zo
     by_cases h2:s=[]
     ·have es:(s==[])=true:=beq_iff_eq.2 h2;have HV:Hi (Qab fs.length many 20 nn s=true):=by rw[Hi,Qdh];simp[h0,h1,h2]
      exact zA9
     ·have es:(s==[])=false:=zzq h2;have HV:Hi (Qab fs.length many 20 nn s=false):=by rw[Hi,Qdh];simp[h0,h1,h2]
      exact zA9
    ·have d1:decide (nn<(fs.length:Int))=false:=zF zo;have HV:Hi (Qab fs.length many 20 nn s=false):=by rw[Hi,Qdh];simp[h0,h1]
     exact zBb
   ·have d0:decide (0<=nn)=false:=zF zo;have HV:Hi (Qab fs.length many 20 nn s=false):=by rw[Hi,Qdh];simp[h0]
    exact zBa
  have zB:(k==20)=false:=zzq k20;have HV:Hi (Qab fs.length many k nn s=gA):=by rw[Hi,QfK _ _ _ _ _ HK.o k0 k1 k2 k3 k4 k5 k19 k20,vA.o]
  clear vA k0 k1 k2 k3 k4 k5 k19 k20;go_wp2;go_meet;exact⟨congrArg Value.bool HV.o.symm,xA.o⟩
 case rest=>as_aux_lemma=>
 obtain⟨rfl,tA⟩:=hcut;obtain⟨w4,rfl⟩:=zG wc
 have rA:=Zh tA;clear tA b0 b1 b2 b3 xA vA xB kA;generalize Qab fs.length many k nn s=okf at*;replace HQ:Hi ((okf&&shL fs.length many k 0 (l.drop 0))=q):=HQ.o;go_wp2_with fail;go_loopg [7,8] l.length λg v7 v8 wr=>∃(i:Nat) (ok:Bool),g+i=l.length/\v8=Iv i/\v7=.bool ok/\Hi (Below w1.heap.size w1 wr/\(ok&&shL fs.length many k i (l.drop i))=q)
 case atStart=>exact⟨0,okf,rfl,rfl,rfl,rA.o,HQ.o⟩
 case round=>
 clear HQ rA;obtain⟨wl,rfl⟩:=zG wr
 obtain⟨i,ok,hg,rfl,rfl,hz⟩:=hrel;have HB:=Zh hz.o.1;have HQ:=Zh hz.o.2;clear hz;obtain⟨b0,b1,b2,b3⟩:=FF.o _ HB.o
 cases ok with
 |false=>
  obtain rfl:false=q:=HQ.o;clear HQ;go_wp2;go_ret;exact⟨rfl,B0.o _ HB.o⟩
 |true=>
 by_cases hi:i<l.length
 ·have hil:(i:Int)<(l.length:Int):=zo
  have dil:decide ((i:Int)<(l.length:Int))=true:=zE hil;have mA:decide (i<l.length)=true:=zE hi;have wk:=zI i;have wm:=zI many;obtain⟨y,hy⟩:∃y,l[i]?=some y:=⟨l[i],List.getElem?_eq_getElem hi⟩
  have hmem:=List.mem_of_getElem? hy;have hsz:siz (utN y)<=Qaz (utL l):=Jbz hmem;obtain⟨b,o,da,dc,dB,hxy,c0,c1,c2,c3⟩:=sA.o.at' (B0.o _ HB.o) hy
  have zA:l.drop i=y::l.drop (i+1):=by
   rw[List.drop_eq_getElem_cons hi];rw[List.getElem?_eq_getElem hi]at hy;rw[Option.some.inj hy]
  have Q4:=HQ.o;rw[zA,Qbn,Bool.true_and]at Q4;have jA:=λm (hm:m<=many+1)=>nA.o m y _ wl (zt HN.o.1) (zt HN.o.2) (JfA gB.o y hmem) hxy
  have iA:=Zh jA;have HG:=Zh (And.intro hg hi);subst dB
  by_cases N2:k=19/\i=1
  ·rw[if_pos N2]at Q4;have pA:(k==19)=true:=beq_iff_eq.2 N2.1;have ei:((i:Int)==1)=true:=beq_iff_eq.2 zo;have bB:(i==1)=true:=beq_iff_eq.2 N2.2;obtain⟨z,hz⟩:∃z,shN fs.length (many+1) y=z:=⟨_,rfl⟩
   rw[hz]at Q4;have D5:=Zh Q4;have ci:=iA.o (many+1) zo;rw[hz]at ci;rw[show ((many+1:Nat):Int)=(many:Int)+1 by omega]at ci;clear hz hsz hi hg hy hxy zA Q4 jA hmem iA HQ N2;exact zA7
  ·rw[if_neg N2]at Q4;obtain⟨z,hz⟩:∃z,shN fs.length many y=z:=⟨_,rfl⟩
   rw[hz]at Q4;have D5:=Zh Q4;have ci:=iA.o many zo;rw[hz]at ci
   by_cases T4:k=19
   ·have pA:(k==19)=true:=beq_iff_eq.2 T4;have ei:((i:Int)==1)=false:=zzq zo;have bB:(i==1)=false:=zzq zo;clear hz hsz hi hg hy hxy zA Q4 jA hmem iA HQ N2 T4;exact zA7
   ·have pA:(k==19)=false:=zzq T4;clear hz hsz hi hg hy hxy zA Q4 jA hmem iA HQ N2 T4;exact zA7
 ·have hil:¬(i:Int)<(l.length:Int):=zo
  have dil:decide ((i:Int)<(l.length:Int))=false:=zF hil;have mA:decide (i<l.length)=false:=zF hi
  have uB:q=true:=by
   have h:=HQ.o;rw[List.drop_of_length_le zo,QfX]at h;exact h.symm
  subst uB;clear HQ hg hi;go_wp2;go_ret;exact⟨rfl,B0.o _ HB.o⟩
def Qey(fs:List FnM)(fa:Option Addr)(fc:Nat):∀n:Nat,∀(many:Nat)(e:Exp)(c:Array Value)(W:World),siz (utN e)<=n->many+siz (utN e)<=2000000->NmN e->XAt W (In W) e c->Calls prog 113 #[.slice fa fs.length fc,Iv many,.agg c] W (QbL W (.bool (shN fs.length many e)))
 |0,many,e,c,W,hs,_,_,_=>by have:=Jdn e;omega
 |n+1,many,.mk k nn s l,c,W,hs,hm,H8,hx=>by
  obtain⟨ad,cc,rfl,_,hK⟩:=hx.kids;unfold utN at hs hm;rw[JA]at hs hm;unfold NmN at H8;exact QfE fs fa fc n (Qey fs fa fc n) many k nn s l ad cc W zo zo H8.1 H8.2 hK
def tyE(fs:List FnM)(M0:List Int)(e:Exp):Int:=(ofN (fs.map Qas) M0 (utN e)).1
def QlJ(fs:List Qau)(M0:List Int)(nn:Int)(s:By)(z a b:Exp):(ofN fs M0 (utN (.mk 18 nn s [z,a,b]))).1=(ofN fs M0 (utN a)).1:=by rw[utN,utL,utL,utL,utL,YX];simp
def Qio{W:World}{n cc:Nat}{ad:Option Addr}{l:List Int}(h:Qbc W (In W) l (.slice ad n cc)):l=[]\/QlY gI W ad l:=by
 by_cases hl:l=[]
 ·exact .inl hl
 ·refine .inr ?_;obtain⟨xA,yA,hv,_,h1⟩:=h;injection hv with e1 e2 e3;subst e1
  rcases h1 with h1|⟨b,o,h2,_,h4⟩
  ·exact absurd h1 hl
  ·refine .inr ⟨_,h2,λj u hu=>?_⟩;rw[QfI]at hu;rw[QlV]
   cases hj:l[j]? with
   |none=>rw[hj]at hu;cases hu
   |some n=>
    rw[hj]at hu;obtain rfl:=Option.some.inj hu;exact h4 j n hj
def QgL{w:World}{base n:Nat}{v:Value}{l:List Int}(hl:l.length=n)(h:w.ownsRow base 3 1 v n (l.flatMap gI)):Qbc w (In w) l v:=by
 subst hl;obtain⟨A,C,rfl⟩:=JB h
 rcases VR h with⟨h1,h2,h3⟩|⟨b,rfl,h2,h3,h4⟩
 ·exact⟨A,C,rfl,by omega,.inl (List.eq_nil_of_length_eq_zero h3)⟩
 ·refine⟨_,C,rfl,h2,.inr ⟨b,0,rfl,(Za h (g:=b) rfl).1,λi n hi=>?_⟩⟩;rw[Nat.zero_add];exact h4 i _ (by rw[QfI,hi];rfl)
def QfR(fs:List FnM)(fa:Option Addr)(fc:Nat)(n:Nat):Prop:=∀(M0:List Int)(vv:Value)(e:Exp)(c:Array Value)(W:World),siz (utN e)<=n->RfI fs fa fc M0 vv e c W->
 Calls prog 115 #[.slice fa fs.length fc,vv,.agg c] W (QbL W (Iv (tyE fs M0 e)))
def QiC(fs:List FnM)(fa:Option Addr)(fc n:Nat)(IH:QfR fs fa fc n)(M0:List Int)(va:Option Addr)(vc:Nat)(k nn:Int)(s:By)(l:List Exp)(ad:Option Addr)(cc:Nat)(w:World)(hk:k=1\/k=5\/k=7\/k=13\/k=14\/k=15\/k=16\/k=17):
  Calls prog 115 #[.slice fa fs.length fc,.slice va M0.length vc,.agg #[Iv k,Iv nn,Sv s,.slice ad l.length cc]] w (QbL w (Iv (tyE fs M0 (.mk k nn s l)))):=by
 unfold tyE;rw[QlK _ _ _ _ _ _ hk];have A0:Below w.heap.size w (w.alloc (.cells #[Iv k,Iv nn,Sv s,.slice ad l.length cc] 50)):=zzb.alloc zzl _;have S0:=Zh (zzw w (.cells #[Iv k,Iv nn,Sv s,.slice ad l.length cc] 50));have xA:=Zh (show Bel w _ from A0);clear A0;go_enter func115,ntmps115;go_upto_region 1 with fail;generalize World.alloc w _=w1 at*;generalize w.heap.size=eb at*;have b0:w1.cell? ⟨eb,0,none⟩=some (Iv k):=Ja S0.o 0
 rcases hk with rfl|rfl|rfl|rfl|rfl|rfl|rfl|rfl
 all_goals
  go_wp2;go_ret;exact⟨rfl,xA.o⟩
def QhC(fs:List FnM)(fa:Option Addr)(fc n:Nat)(IH:QfR fs fa fc n)(M0:List Int)(va:Option Addr)(vc:Nat)(k nn:Int)(s:By)(l:List Exp)(ad:Option Addr)(cc:Nat)(w:World)(hk:k=0\/k=4\/k=6\/(8<=k/\k<=12)):
  Calls prog 115 #[.slice fa fs.length fc,.slice va M0.length vc,.agg #[Iv k,Iv nn,Sv s,.slice ad l.length cc]] w (QbL w (Iv (tyE fs M0 (.mk k nn s l)))):=by
 unfold tyE;rw[QlL _ _ _ _ _ _ hk];have A0:Below w.heap.size w (w.alloc (.cells #[Iv k,Iv nn,Sv s,.slice ad l.length cc] 50)):=zzb.alloc zzl _;have S0:=Zh (zzw w (.cells #[Iv k,Iv nn,Sv s,.slice ad l.length cc] 50));have xA:=Zh (show Bel w _ from A0);have q1:(k==1)=false:=zzq zo;have q2:(k==2)=false:=zzq zo;have q3:(k==3)=false:=zzq zo;have q5:(k==5)=false:=zzq zo;have q7:(k==7)=false:=zzq zo;have zA:(k==13)=false:=zzq zo;have aA:(k==14)=false:=zzq zo;have dA:(k==15)=false:=zzq zo;have cA:(k==16)=false:=zzq zo;have uA:(k==17)=false:=zzq zo;have vA:(k==18)=false:=zzq zo;have bA:(k==19)=false:=zzq zo;have yA:(k==20)=false:=zzq zo;clear A0 hk;go_enter func115,ntmps115;go_upto_region 1 with fail;generalize World.alloc w _=w1 at*;generalize w.heap.size=eb at*;have b0:w1.cell? ⟨eb,0,none⟩=some (Iv k):=Ja S0.o 0;go_wp2;go_ret;exact⟨rfl,xA.o⟩
def QiB(fs:List FnM)(fa:Option Addr)(fc n:Nat)(IH:QfR fs fa fc n)(M0:List Int)(va:Option Addr)(vc:Nat)(nn:Int)(s:By)(l:List Exp)(ad:Option Addr)(cc:Nat)(w:World)(hn:Qaz (utL l)<=n)(hI:RfI fs fa fc M0 (.slice va M0.length vc) (.mk 2 nn s l) #[Iv 2,Iv nn,Sv s,.slice ad l.length cc] w)(hK:QbC w ad l):
  Calls prog 115 #[.slice fa fs.length fc,.slice va M0.length vc,.agg #[Iv 2,Iv nn,Sv s,.slice ad l.length cc]] w (QbL w (Iv (tyE fs M0 (.mk 2 nn s l)))):=by
 have A0:Below w.heap.size w (w.alloc (.cells #[Iv 2,Iv nn,Sv s,.slice ad l.length cc] 50)):=zzb.alloc zzl _;have S0:=Zh (zzw w (.cells #[Iv 2,Iv nn,Sv s,.slice ad l.length cc] 50));have B0:Hi (∀W,Below (w.alloc (.cells #[Iv 2,Iv nn,Sv s,.slice ad l.length cc] 50)).heap.size (w.alloc (.cells #[Iv 2,Iv nn,Sv s,.slice ad l.length cc] 50)) W->Bel w W):=λW hW=>Je A0 hW
 have HI:=Zh hI;have vA:=Zh hK;have aA:=Zh IH;have HN:=Zh hn;clear A0 hI hK IH hn;unfold tyE;rw[QlI]
 have yA:0<=nn/\nn<(M0.length:Int):=by
  obtain⟨hf,_⟩:=QaS HI.o.sh;unfold Qab at hf;simp at hf;exact⟨hf.1.1,by omega⟩
 obtain⟨i,rfl⟩:∃i:Nat,nn=i:=⟨nn.toNat,by omega⟩
 have hil:(i:Int)<(M0.length:Int):=yA.2;have hi:i<M0.length:=zo
 obtain⟨v,hv⟩:∃v,M0[i]?=some v:=⟨M0[i],List.getElem?_eq_getElem hi⟩
 rw[Int.toNat_natCast,List.getD_eq_getElem?_getD,hv,Option.getD_some];have HV:=Zh hv;clear yA hv;go_enter func115,ntmps115;go_upto_region 1 with fail;have S3:Hi (w.heap.size<(w.alloc (.cells #[Iv 2,Iv (i:Int),Sv s,.slice ad l.length cc] 50)).heap.size):=Jb S0.o;generalize World.alloc w _=w1 at*;generalize w.heap.size=eb at*
 have FF:Hi (∀W,Below w1.heap.size w1 W->W.cell? ⟨eb,0,none⟩=some (Iv 2)/\W.cell? ⟨eb,1,none⟩=some (Iv (i:Int))/\W.cell? ⟨eb,2,none⟩=some (Sv s)/\W.cell? ⟨eb,3,none⟩=some (.slice ad l.length cc)):=by
  exact zA8
 have xA:Hi (Below w1.heap.size w1 w1):=zzb;obtain⟨b0,b1,b2,b3⟩:=FF.o _ xA.o;obtain⟨g,og,zA,_,uA⟩:=(HI.o.up (B0.o _ xA.o)).nums.get HV.o;subst zA;have E0:=Zh (B0.o _ xA.o);go_wp2;go_ret;exact⟨rfl,E0.o⟩
def QhD(fs:List FnM)(fa:Option Addr)(fc n:Nat)(IH:QfR fs fa fc n)(M0:List Int)(va:Option Addr)(vc:Nat)(nn:Int)(s:By)(l:List Exp)(ad:Option Addr)(cc:Nat)(w:World)(hn:Qaz (utL l)<=n)(hI:RfI fs fa fc M0 (.slice va M0.length vc) (.mk 3 nn s l) #[Iv 3,Iv nn,Sv s,.slice ad l.length cc] w)(hK:QbC w ad l):
  Calls prog 115 #[.slice fa fs.length fc,.slice va M0.length vc,.agg #[Iv 3,Iv nn,Sv s,.slice ad l.length cc]] w (QbL w (Iv (tyE fs M0 (.mk 3 nn s l)))):=by
 have A0:Below w.heap.size w (w.alloc (.cells #[Iv 3,Iv nn,Sv s,.slice ad l.length cc] 50)):=zzb.alloc zzl _;have S0:=Zh (zzw w (.cells #[Iv 3,Iv nn,Sv s,.slice ad l.length cc] 50));have B0:Hi (∀W,Below (w.alloc (.cells #[Iv 3,Iv nn,Sv s,.slice ad l.length cc] 50)).heap.size (w.alloc (.cells #[Iv 3,Iv nn,Sv s,.slice ad l.length cc] 50)) W->Bel w W):=λW hW=>Je A0 hW
 have HI:=Zh hI;have zA:=Zh hK;have uA:=Zh IH;have HN:=Zh hn;clear A0 hI hK IH hn;unfold tyE;rw[QlH];have cf:=λW=>QdR s W
 have xA:(QaA s).getD (-1)=(QaA s).getD 0:=by
  obtain⟨hf,_⟩:=QaS HI.o.sh;unfold Qab at hf;simp at hf
  cases h:QaA s with
  |none=>rw[h]at hf;simp at hf
  |some t=>rfl
 rw[xA]at cf;generalize (QaA s).getD 0=q at*;clear xA;go_enter func115,ntmps115;go_upto_region 1 with fail;have S3:Hi (w.heap.size<(w.alloc (.cells #[Iv 3,Iv nn,Sv s,.slice ad l.length cc] 50)).heap.size):=Jb S0.o;generalize World.alloc w _=w1 at*;generalize w.heap.size=eb at*
 have FF:Hi (∀W,Below w1.heap.size w1 W->W.cell? ⟨eb,0,none⟩=some (Iv 3)/\W.cell? ⟨eb,1,none⟩=some (Iv nn)/\W.cell? ⟨eb,2,none⟩=some (Sv s)/\W.cell? ⟨eb,3,none⟩=some (.slice ad l.length cc)):=by
  exact zA8
 have yA:Hi (Below w1.heap.size w1 w1):=zzb;obtain⟨b0,b1,b2,b3⟩:=FF.o _ yA.o;have E0:=Zh (B0.o _ yA.o);go_wp2_with fail;refine(cf _).mono ?_;rintro e w9 ⟨rfl,rfl⟩;clear cf;go_wp2;go_ret;exact⟨rfl,E0.o⟩
def QhE(fs:List FnM)(fa:Option Addr)(fc n:Nat)(IH:QfR fs fa fc n)(M0:List Int)(va:Option Addr)(vc:Nat)(nn:Int)(s:By)(l:List Exp)(ad:Option Addr)(cc:Nat)(w:World)(hn:Qaz (utL l)<=n)(hI:RfI fs fa fc M0 (.slice va M0.length vc) (.mk 20 nn s l) #[Iv 20,Iv nn,Sv s,.slice ad l.length cc] w)(hK:QbC w ad l):
  Calls prog 115 #[.slice fa fs.length fc,.slice va M0.length vc,.agg #[Iv 20,Iv nn,Sv s,.slice ad l.length cc]] w (QbL w (Iv (tyE fs M0 (.mk 20 nn s l)))):=by
 have A0:Below w.heap.size w (w.alloc (.cells #[Iv 20,Iv nn,Sv s,.slice ad l.length cc] 50)):=zzb.alloc zzl _;have S0:=Zh (zzw w (.cells #[Iv 20,Iv nn,Sv s,.slice ad l.length cc] 50));have B0:Hi (∀W,Below (w.alloc (.cells #[Iv 20,Iv nn,Sv s,.slice ad l.length cc] 50)).heap.size (w.alloc (.cells #[Iv 20,Iv nn,Sv s,.slice ad l.length cc] 50)) W->Bel w W):=λW hW=>Je A0 hW
 have HI:=Zh hI;have uA:=Zh hK;have vA:=Zh IH;have HN:=Zh hn;clear A0 hI hK IH hn;unfold tyE;rw[QjE]
 have zA:0<=nn/\nn<(fs.length:Int):=by
  obtain⟨hf,_⟩:=QaS HI.o.sh;unfold Qab at hf;simp at hf;exact⟨hf.1.1,by omega⟩
 obtain⟨i,rfl⟩:∃i:Nat,nn=i:=⟨nn.toNat,by omega⟩
 have hil:(i:Int)<(fs.length:Int):=zA.2;obtain⟨g,hg⟩:∃g,fs[i]?=some g:=⟨fs[i]'(by omega),List.getElem?_eq_getElem _⟩
 have yA:((fs.map Qas).getD (i:Int).toNat ⟨[],0⟩).result=g.result:=by
  rw[Int.toNat_natCast,List.getD_eq_getElem?_getD,List.getElem?_map,hg];rfl
 rw[yA];have HG:=Zh hg;clear zA hg yA;go_enter func115,ntmps115;go_upto_region 1 with fail;have S3:Hi (w.heap.size<(w.alloc (.cells #[Iv 20,Iv (i:Int),Sv s,.slice ad l.length cc] 50)).heap.size):=Jb S0.o;generalize World.alloc w _=w1 at*;generalize w.heap.size=eb at*
 have FF:Hi (∀W,Below w1.heap.size w1 W->W.cell? ⟨eb,0,none⟩=some (Iv 20)/\W.cell? ⟨eb,1,none⟩=some (Iv (i:Int))/\W.cell? ⟨eb,2,none⟩=some (Sv s)/\W.cell? ⟨eb,3,none⟩=some (.slice ad l.length cc)):=by
  exact zA8
 have xA:Hi (Below w1.heap.size w1 w1):=zzb;obtain⟨b0,b1,b2,b3⟩:=FF.o _ xA.o;obtain⟨bf,of,pa,pc,da,dc,G3,hfc⟩:=((HI.o.up (B0.o _ xA.o)).fns).get HG.o;have c2:=hfc.c2;subst G3;clear hfc;have E0:=Zh (B0.o _ xA.o);go_wp2;go_ret;exact⟨rfl,E0.o⟩
def Qjo(fs:List FnM)(fa:Option Addr)(fc n:Nat)(IH:QfR fs fa fc n)(M0:List Int)(va:Option Addr)(vc:Nat)(nn:Int)(s:By)(z a b:Exp)(ad:Option Addr)(cc:Nat)(w:World)(hn:Qaz (utL [z,a,b])<=n)(hI:RfI fs fa fc M0 (.slice va M0.length vc) (.mk 18 nn s [z,a,b]) #[Iv 18,Iv nn,Sv s,.slice ad [z,a,b].length cc] w)(hK:QbC w ad [z,a,b]):
  Calls prog 115 #[.slice fa fs.length fc,.slice va M0.length vc,.agg #[Iv 18,Iv nn,Sv s,.slice ad [z,a,b].length cc]] w (QbL w (Iv (tyE fs M0 (.mk 18 nn s [z,a,b])))):=by
 have A0:Below w.heap.size w (w.alloc (.cells #[Iv 18,Iv nn,Sv s,.slice ad [z,a,b].length cc] 50)):=zzb.alloc zzl _;have S0:=Zh (zzw w (.cells #[Iv 18,Iv nn,Sv s,.slice ad [z,a,b].length cc] 50));have B0:Hi (∀W,Below (w.alloc (.cells #[Iv 18,Iv nn,Sv s,.slice ad [z,a,b].length cc] 50)).heap.size (w.alloc (.cells #[Iv 18,Iv nn,Sv s,.slice ad [z,a,b].length cc] 50)) W->Bel w W):=λW hW=>Je A0 hW
 have HI:=Zh hI;have uA:=Zh hK;have vA:=Zh IH;have HN:=Zh hn;unfold tyE;rw[QlJ];go_enter func115,ntmps115;go_upto_region 1 with fail;have S3:Hi (w.heap.size<(w.alloc (.cells #[Iv 18,Iv nn,Sv s,.slice ad [z,a,b].length cc] 50)).heap.size):=Jb S0.o;generalize World.alloc w _=w1 at*;generalize w.heap.size=eb at*
 have FF:Hi (∀W,Below w1.heap.size w1 W->W.cell? ⟨eb,0,none⟩=some (Iv 18)/\W.cell? ⟨eb,1,none⟩=some (Iv nn)/\W.cell? ⟨eb,2,none⟩=some (Sv s)/\W.cell? ⟨eb,3,none⟩=some (.slice ad [z,a,b].length cc)):=by
  exact zA8
 have xA:Hi (Below w1.heap.size w1 w1):=zzb;obtain⟨b0,b1,b2,b3⟩:=FF.o _ xA.o;obtain⟨ba,oa,da,ca,bA,aA,k0,k1,k2,k3⟩:=uA.o.at' (B0.o _ xA.o) (i:=1) (y:=a) rfl;simp only[Nat.one_mul]at k0 k1 k2 k3
 have yA:RfI fs fa fc M0 (.slice va M0.length vc) a #[Iv a.kind,Iv a.num,.string (bs a.name),.slice da a.kids.length ca] w1:=by
  have h:=HI.o.up (B0.o _ xA.o);obtain⟨_,_,_,hl⟩:=QaS h.sh;have hsz:=h.sz;rw[utN,JA]at hsz;have hm:=Jbz (l:=[z,a,b]) (a:=a) zp;have zA:=h.nm;unfold NmN at zA;exact⟨h.fns,h.nums,aA,QfY zd hl a zp,by omega,JfA zA.2 a zp⟩
 have ci:=vA.o _ _ a _ w1 (zu HN.o (Jbz (l:=[z,a,b]) (a:=a) zp)) yA;unfold tyE at ci;subst bA;go_wp2_with fail;refine ci.mono ?_;rintro e w7 ⟨rfl,E4⟩;have I3:=Zh (Je (B0.o _ xA.o) E4);go_wp2;go_ret;exact⟨rfl,I3.o⟩
def QiD(fs:List FnM)(fa:Option Addr)(fc n:Nat)(IH:QfR fs fa fc n)(M0:List Int)(va:Option Addr)(vc:Nat)(nn:Int)(s:By)(a b:Exp)(ad:Option Addr)(cc:Nat)(w:World)(hn:Qaz (utL [a,b])<=n)(hI:RfI fs fa fc M0 (.slice va M0.length vc) (.mk 19 nn s [a,b]) #[Iv 19,Iv nn,Sv s,.slice ad [a,b].length cc] w)(hK:QbC w ad [a,b]):
  Calls prog 115 #[.slice fa fs.length fc,.slice va M0.length vc,.agg #[Iv 19,Iv nn,Sv s,.slice ad [a,b].length cc]] w (QbL w (Iv (tyE fs M0 (.mk 19 nn s [a,b])))):=by
 have A0:Below w.heap.size w (w.alloc (.cells #[Iv 19,Iv nn,Sv s,.slice ad [a,b].length cc] 50)):=zzb.alloc zzl _;have S0:=Zh (zzw w (.cells #[Iv 19,Iv nn,Sv s,.slice ad [a,b].length cc] 50));have B0:Hi (∀W,Below (w.alloc (.cells #[Iv 19,Iv nn,Sv s,.slice ad [a,b].length cc] 50)).heap.size (w.alloc (.cells #[Iv 19,Iv nn,Sv s,.slice ad [a,b].length cc] 50)) W->Bel w W):=λW hW=>Je A0 hW
 have HI:=Zh hI;have qA:=Zh hK;have dA:=Zh IH;have HN:=Zh hn;unfold tyE;rw[Qgj];obtain⟨ta,cA⟩:∃t,(ofN (fs.map Qas) M0 (utN a)).1=t:=⟨_,rfl⟩
 rw[cA];obtain⟨tb,bA⟩:∃t,(ofN (fs.map Qas) (M0++[ta]) (utN b)).1=t:=⟨_,rfl⟩
 rw[bA];go_enter func115,ntmps115;go_upto_region 1 with fail;have S3:Hi (w.heap.size<(w.alloc (.cells #[Iv 19,Iv nn,Sv s,.slice ad [a,b].length cc] 50)).heap.size):=Jb S0.o;generalize World.alloc w _=w1 at*;generalize w.heap.size=eb at*
 have FF:Hi (∀W,Below w1.heap.size w1 W->W.cell? ⟨eb,0,none⟩=some (Iv 19)/\W.cell? ⟨eb,1,none⟩=some (Iv nn)/\W.cell? ⟨eb,2,none⟩=some (Sv s)/\W.cell? ⟨eb,3,none⟩=some (.slice ad [a,b].length cc)):=by
  exact zA8
 have pA:Hi (Below w1.heap.size w1 w1):=zzb;obtain⟨b0,b1,b2,b3⟩:=FF.o _ pA.o;obtain⟨kb,ko,mA,_,aA⟩:=(qA.o).at0 zp;obtain⟨da,ca,jA,G3⟩:=aA 0 a rfl;obtain⟨db,cb,eA,gA⟩:=aA 1 b rfl;subst mA
 have FG:Hi (∀W,Below w1.heap.size w1 W->(W.cell? ⟨eb,3,none⟩=some (.slice (some ⟨kb,ko,none⟩) [a,b].length cc)/\W.cell? ⟨kb,ko,none⟩=some (Iv a.kind)/\W.cell? ⟨kb,ko+1,none⟩=some (Iv a.num)/\W.cell? ⟨kb,ko+2,none⟩=some (.string (bs a.name))/\W.cell? ⟨kb,ko+3,none⟩=some (.slice da a.kids.length ca)/\W.cell? ⟨kb,ko+4,none⟩=some (Iv b.kind)/\W.cell? ⟨kb,ko+4+1,none⟩=some (Iv b.num)/\W.cell? ⟨kb,ko+4+2,none⟩=some (.string (bs b.name))/\W.cell? ⟨kb,ko+4+3,none⟩=some (.slice db b.kids.length cb))):=by
  intro W hW;obtain⟨k0,k1,k2,k3⟩:=G3 W (B0.o _ hW);obtain⟨m0,m1,m2,m3⟩:=gA W (B0.o _ hW);simp only[Nat.zero_mul,Nat.add_zero,Nat.one_mul]at k0 k1 k2 k3 m0 m1 m2 m3;exact⟨(FF.o W hW).2.2.2,k0,k1,k2,k3,m0,m1,m2,m3⟩
 have zA:Hi (∀W,Below w1.heap.size w1 W->RfI fs fa fc M0 (.slice va M0.length vc) (.mk 19 nn s [a,b]) _ W):=λW hW=>HI.o.up (B0.o _ hW)
 have hA:Hi (M0.length<=2000000):=by have:=HI.o.sz;unfold Hi;omega
 have iA:Hi (∀W,Below w1.heap.size w1 W->Calls prog 115 #[.slice fa fs.length fc,.slice va M0.length vc,.agg #[Iv a.kind,Iv a.num,.string (bs a.name),.slice da a.kids.length ca]] W (QbL W (Iv ta))):=by
  intro W hW;have h:=zA.o W hW;obtain⟨_,_,_,hl⟩:=QaS h.sh;rw[Qbn,Qbn,if_neg zp,Bool.and_eq_true]at hl;have hsz:=h.sz;rw[utN,JA]at hsz;have hm:=Jbz (l:=[a,b]) (a:=a) zp;have yA:=h.nm;unfold NmN at yA;have ci:=dA.o M0 _ a _ W (zt HN.o) ⟨h.fns,h.nums,XAt.keep (λq hq=>(B0.o _ hW).block q hq) (λq hq=>In.up (B0.o _ hW) hq) _ _ jA,hl.1,by omega,JfA yA.2 a zp⟩;unfold tyE at ci;rw[cA]at ci;exact ci
 have R5:Hi (∀vv W,Below w1.heap.size w1 W->Qbc W (In W) (M0++[ta]) vv->Calls prog 115 #[.slice fa fs.length fc,vv,.agg #[Iv b.kind,Iv b.num,.string (bs b.name),.slice db b.kids.length cb]] W (QbL W (Iv tb))):=by
  intro vv W hW uA;have h:=zA.o W hW;obtain⟨_,_,_,hl⟩:=QaS h.sh;rw[Qbn,Qbn,if_neg zp,if_pos ⟨rfl,rfl⟩,Bool.and_eq_true,Bool.and_eq_true]at hl;have hsz:=h.sz;rw[utN,JA,utL,utL,Ju,Ju]at hsz;have hp:=KN (utN a);have hm:=Jbz (l:=[a,b]) (a:=b) zp;have yA:=h.nm;unfold NmN at yA;have ci:=dA.o (M0++[ta]) vv b _ W (zt HN.o) ⟨h.fns,uA,XAt.keep (λq hq=>(B0.o _ hW).block q hq) (λq hq=>In.up (B0.o _ hW) hq) _ _ eA,by rw[List.length_append,List.length_singleton];exact hl.2.1,by rw[List.length_append,List.length_singleton];omega,JfA yA.2 b zp⟩;unfold tyE at ci;rw[bA]at ci;exact ci
 go_upto_region 18 with fail;have HB:=Zh (Below.refl w1.heap.size w1).drew;refine wp_region_held_drew (S:=(λW=>Below w1.heap.size w1 W/\(W.cell? ⟨eb,3,none⟩=some (.slice (some ⟨kb,ko,none⟩) [a,b].length cc)/\W.cell? ⟨kb,ko,none⟩=some (Iv a.kind)/\W.cell? ⟨kb,ko+1,none⟩=some (Iv a.num)/\W.cell? ⟨kb,ko+2,none⟩=some (.string (bs a.name))/\W.cell? ⟨kb,ko+3,none⟩=some (.slice da a.kids.length ca)/\W.cell? ⟨kb,ko+4,none⟩=some (Iv b.kind)/\W.cell? ⟨kb,ko+4+1,none⟩=some (Iv b.num)/\W.cell? ⟨kb,ko+4+2,none⟩=some (.string (bs b.name))/\W.cell? ⟨kb,ko+4+3,none⟩=some (.slice db b.kids.length cb)))) zk (⟨HB.o,FG.o _ HB.o⟩) λhHeld=>?_;refine wpAnyH_take (i:=0) (oi:={dst:=some 41,op:=Go.Op.move (Go.Operand.tmp 0),type:=27,pos:="ref.go:514",after:=#[],guard:=none}) (v:=?vT1_0) rfl zk zk zk (λ_ _ _ h=>h) (Or.inl ⟨by rfl,?yT1_0⟩) (by assumption) ?_
 case yT1_0=>(intro wX hSw;(try dsimp only at hSw);go_simp<;>with_reducible rfl)
 refine wpAnyH_take (i:=2) (oi:={dst:=some 43,op:=Go.Op.move (Go.Operand.tmp 1),type:=55,pos:="ref.go:514",after:=#[],guard:=none}) (v:=?vT1_2) rfl zk zk zk (λ_ _ _ h=>h) (Or.inl ⟨by rfl,?yT1_2⟩) (by assumption) ?_
 case yT1_2=>(intro wX hSw;(try dsimp only at hSw);go_simp<;>with_reducible rfl)
 refine wpAnyH_take (i:=4) (oi:={dst:=some 45,op:=Go.Op.move (Go.Operand.tmp 0),type:=27,pos:="ref.go:514",after:=#[],guard:=none}) (v:=?vT1_4) rfl zk zk zk (λ_ _ _ h=>h) (Or.inl ⟨by rfl,?yT1_4⟩) (by assumption) ?_
 case yT1_4=>(intro wX hSw;(try dsimp only at hSw);go_simp<;>with_reducible rfl)
 refine wpAnyH_take (i:=5) (oi:={dst:=some 46,op:=Go.Op.move (Go.Operand.tmp 1),type:=55,pos:="ref.go:514",after:=#[],guard:=none}) (v:=?vT1_5) rfl zk zk zk (λ_ _ _ h=>h) (Or.inl ⟨by rfl,?yT1_5⟩) (by assumption) ?_
 case yT1_5=>(intro wX hSw;(try dsimp only at hSw);go_simp<;>with_reducible rfl)
 refine wpAnyH_take (i:=6) (oi:={dst:=some 47,op:=Go.Op.fieldAddr 50 (Go.Operand.tmp 5) 3,type:=0,pos:="ref.go:514",after:=#[],guard:=none}) (v:=?vT1_6) rfl zk zk zk (λ_ _ _ h=>h) (Or.inl ⟨by rfl,?yT1_6⟩) (by assumption) ?_
 case yT1_6=>(intro wX hSw;(try dsimp only at hSw);go_simp<;>with_reducible rfl)
 refine wpAnyH_take (i:=7) (oi:={dst:=some 48,op:=Go.Op.load 48 (Go.Operand.tmp 47),type:=48,pos:="ref.go:514",after:=#[{on:=6,ground:=Go.Ground.data}],guard:=none}) (v:=?vT1_7) rfl zk zk zk (λ_ _ _ h=>h) (Or.inl ⟨by rfl,?yT1_7⟩) (by assumption) ?_
 case yT1_7=>(intro wX hSw;(try dsimp only at hSw);go_simp<;>with_reducible rfl)
 refine wpAnyH_take (i:=8) (oi:={dst:=some 49,op:=Go.Op.indexAddr 48 (Go.Operand.tmp 48) (Go.Operand.const (Go.Value.int Go.IntKind.i64 0)),type:=0,pos:="ref.go:514",after:=#[{on:=7,ground:=Go.Ground.data}],guard:=none}) (v:=?vT1_8) rfl zk zk zk (λ_ _ _ h=>h) (Or.inl ⟨by rfl,?yT1_8⟩) (by assumption) ?_
 case yT1_8=>(intro wX hSw;(try dsimp only at hSw);go_simp<;>with_reducible rfl)
 refine wpAnyH_take (i:=9) (oi:={dst:=some 50,op:=Go.Op.load 50 (Go.Operand.tmp 49),type:=50,pos:="ref.go:514",after:=#[{on:=8,ground:=Go.Ground.data}],guard:=none}) (v:=?vT1_9) rfl zk zk zk (λ_ _ _ h=>h) (Or.inl ⟨by rfl,?yT1_9⟩) (by assumption) ?_
 case yT1_9=>(intro wX hSw;(try dsimp only at hSw);go_simp<;>with_reducible rfl)
 refine wpAnyH_take (i:=13) (oi:={dst:=some 54,op:=Go.Op.fieldAddr 50 (Go.Operand.tmp 5) 3,type:=0,pos:="ref.go:514",after:=#[],guard:=none}) (v:=?vT1_13) rfl zk zk zk (λ_ _ _ h=>h) (Or.inl ⟨by rfl,?yT1_13⟩) (by assumption) ?_
 case yT1_13=>(intro wX hSw;(try dsimp only at hSw);go_simp<;>with_reducible rfl)
 refine wpAnyH_take (i:=14) (oi:={dst:=some 55,op:=Go.Op.load 48 (Go.Operand.tmp 54),type:=48,pos:="ref.go:514",after:=#[{on:=13,ground:=Go.Ground.data}],guard:=none}) (v:=?vT1_14) rfl zk zk zk (λ_ _ _ h=>h) (Or.inl ⟨by rfl,?yT1_14⟩) (by assumption) ?_
 case yT1_14=>(intro wX hSw;(try dsimp only at hSw);go_simp<;>with_reducible rfl)
 refine wpAnyH_take (i:=15) (oi:={dst:=some 56,op:=Go.Op.indexAddr 48 (Go.Operand.tmp 55) (Go.Operand.const (Go.Value.int Go.IntKind.i64 1)),type:=0,pos:="ref.go:514",after:=#[{on:=14,ground:=Go.Ground.data}],guard:=none}) (v:=?vT1_15) rfl zk zk zk (λ_ _ _ h=>h) (Or.inl ⟨by rfl,?yT1_15⟩) (by assumption) ?_
 case yT1_15=>(intro wX hSw;(try dsimp only at hSw);go_simp<;>with_reducible rfl)
 try simp only[zX]
 refine wpAnyH_take (i:=16) (oi:={dst:=some 57,op:=Go.Op.load 50 (Go.Operand.tmp 56),type:=50,pos:="ref.go:514",after:=#[{on:=15,ground:=Go.Ground.data}],guard:=none}) (v:=?vT1_16) rfl zk zk zk (λ_ _ _ h=>h) (Or.inl ⟨by rfl,?yT1_16⟩) (by assumption) ?_
 case yT1_16=>(intro wX hSw;(try dsimp only at hSw);go_simp<;>with_reducible rfl)
 try simp only[zX]
 refine wpAnyH_ready (rs:=[1]) zk zp (AllReadyH.cons (o:={dst:=some 42,op:=Go.Op.buildSlice 55 0 #[],type:=55,pos:="ref.go:514",after:=#[],guard:=none}) rfl (λK hK=>?_) AllReadyH.nil);go_simp;have HA:=Zh (Kw (Vj w1.drew 3 1) HB.o.size);replace HB:=Zh (HB.o.alloc HB.o.size (.cells #[] 3));refine zU hK (⟨HB.o,FG.o _ HB.o⟩) λhHeld=>?_
 try simp only[zX]
 refine wpAnyH_ready (rs:=[3]) zk zp (AllReadyH.cons (o:={dst:=some 44,op:=Go.Op.call {callee:=Go.Callee.builtin Go.Builtin.append,args:=#[Go.Operand.tmp 42,Go.Operand.tmp 43],argTypes:=#[55,55]},type:=55,pos:="ref.go:514",after:=#[{on:=1,ground:=Go.Ground.data},{on:=2,ground:=Go.Ground.data}],guard:=none}) rfl (λK hK=>?_) AllReadyH.nil);rw[if_pos zr];refine Jr elI QeC QeB _ _ rfl w1.heap.size (.slice (some ⟨w1.heap.size,0,none⟩) 0 0) 0 [] rfl HA.o va vc M0.length M0 rfl (Qio (zA.o _ HB.o).nums) rfl (zt hA.o) HB.o.size ?_;intro v4 w4 xA G1 vA
 (try simp only[Nat.zero_add,List.nil_append]at xA)
 replace HB:=Zh (HB.o.trans G1);replace HA:=Zh xA;obtain⟨a4,c4,nA⟩:=JB HA.o;subst nA;refine zU hK (⟨HB.o,FG.o _ HB.o⟩) λhHeld=>?_
 try simp only[zX]
 refine wpAnyH_ready (rs:=[10]) zk zp (AllReadyH.cons (o:={dst:=some 51,op:=Go.Op.call {callee:=Go.Callee.value (Go.Operand.func 115),args:=#[Go.Operand.tmp 45,Go.Operand.tmp 46,Go.Operand.tmp 50],argTypes:=#[27,55,50]},type:=3,pos:="ref.go:514",after:=#[{on:=4,ground:=Go.Ground.data},{on:=5,ground:=Go.Ground.data},{on:=9,ground:=Go.Ground.data},{on:=3,ground:=Go.Ground.chain}],guard:=none}) rfl (λK hK=>?_) AllReadyH.nil);have ci:=iA.o _ HB.o
 (go_simp;go_at_call 115;refine ci.mono ?_;rintro e w5 ⟨rfl,C3⟩)
 replace HA:=Zh (JZ HA.o C3);replace HB:=Zh (HB.o.trans (C3.mono HB.o.size));refine zU hK (⟨HB.o,FG.o _ HB.o⟩) λhHeld=>?_
 try simp only[zX]
 refine wpAnyH_ready (rs:=[11]) zk zp (AllReadyH.cons (o:={dst:=some 52,op:=Go.Op.buildSlice 55 1 #[(0,Go.Operand.tmp 51)],type:=55,pos:="ref.go:514",after:=#[{on:=10,ground:=Go.Ground.data}],guard:=none}) rfl (λK hK=>?_) AllReadyH.nil);go_simp;have HX:=Zh (zzw w5 (.cells #[Iv ta] 3));replace HA:=Zh (JZ HA.o (zzb.alloc zzl (.cells #[Iv ta] 3)));replace HB:=Zh (HB.o.alloc HB.o.size (.cells #[Iv ta] 3));refine zU hK (⟨HB.o,FG.o _ HB.o⟩) λhHeld=>?_
 try simp only[zX]
 refine wpAnyH_ready (rs:=[12]) zk zp (AllReadyH.cons (o:={dst:=some 53,op:=Go.Op.call {callee:=Go.Callee.builtin Go.Builtin.append,args:=#[Go.Operand.tmp 44,Go.Operand.tmp 52],argTypes:=#[55,55]},type:=55,pos:="ref.go:514",after:=#[{on:=3,ground:=Go.Ground.data},{on:=11,ground:=Go.Ground.data},{on:=10,ground:=Go.Ground.chain}],guard:=none}) rfl (λK hK=>?_) AllReadyH.nil);rw[if_pos zr];refine Jr elI QeC QeB _ _ rfl w1.heap.size _ M0.length _ rfl HA.o _ 1 1 [ta] rfl (.inr (Vk (g:=gI) (x:=ta) HX.o)) rfl (zt hA.o) HB.o.size ?_;intro v7 w7 xA G1 vA;replace HB:=Zh (HB.o.trans G1);replace HA:=Zh xA;obtain⟨a7,c7,kA⟩:=JB HA.o;subst kA;refine zU hK (⟨HB.o,FG.o _ HB.o⟩) λhHeld=>?_
 refine wpAnyH_ready (rs:=[17]) zk zp (AllReadyH.cons (o:={dst:=some 58,op:=Go.Op.call {callee:=Go.Callee.value (Go.Operand.func 115),args:=#[Go.Operand.tmp 41,Go.Operand.tmp 53,Go.Operand.tmp 57],argTypes:=#[27,55,50]},type:=3,pos:="ref.go:514",after:=#[{on:=0,ground:=Go.Ground.data},{on:=12,ground:=Go.Ground.data},{on:=16,ground:=Go.Ground.data},{on:=12,ground:=Go.Ground.chain}],guard:=none}) rfl (λK hK=>?_) AllReadyH.nil);have uA:Qbc w7 (In w7) (M0++[ta]) (.slice a7 (M0.length+1) c7):=QgL (by rw[List.length_append,List.length_singleton]) (by rw[List.flatMap_append];exact HA.o);have ci:=R5.o _ _ HB.o uA
 (go_simp;go_at_call 115;refine ci.mono ?_;rintro e w8 ⟨rfl,Q3⟩)
 replace HB:=Zh (HB.o.trans (Q3.mono HB.o.size));refine zU hK (⟨HB.o,FG.o _ HB.o⟩) λhHeld=>?_
 refine wpAnyH_take (i:=18) (oi:={dst:=some 6,op:=Go.Op.assign (Go.Operand.tmp 58),type:=3,pos:="ref.go:514",after:=#[{on:=17,ground:=Go.Ground.data},{on:=17,ground:=Go.Ground.chain},{on:=0,ground:=Go.Ground.phase},{on:=1,ground:=Go.Ground.phase},{on:=2,ground:=Go.Ground.phase},{on:=3,ground:=Go.Ground.phase},{on:=4,ground:=Go.Ground.phase},{on:=5,ground:=Go.Ground.phase},{on:=6,ground:=Go.Ground.phase},{on:=7,ground:=Go.Ground.phase},{on:=8,ground:=Go.Ground.phase},{on:=9,ground:=Go.Ground.phase},{on:=10,ground:=Go.Ground.phase},{on:=11,ground:=Go.Ground.phase},{on:=12,ground:=Go.Ground.phase},{on:=13,ground:=Go.Ground.phase},{on:=14,ground:=Go.Ground.phase},{on:=15,ground:=Go.Ground.phase},{on:=16,ground:=Go.Ground.phase},{on:=17,ground:=Go.Ground.phase}],guard:=none}) (v:=?vT7_18) rfl zk zk zk (λ_ _ _ h=>h) (Or.inl ⟨by rfl,?yT7_18⟩) (by assumption) ?_
 case yT7_18=>(intro wX hSw;(try dsimp only at hSw);go_simp<;>with_reducible rfl)
 refine wpAnyH_done zk ?_ _;have E0:=Zh (B0.o _ HB.o);go_wp2;go_ret;exact⟨rfl,E0.o⟩
def QcG(fs:List FnM)(fa:Option Addr)(fc:Nat):∀n,QfR fs fa fc n
 |0=>λM0 vv e c W hs h=>by have:=Jdn e;omega
 |n+1=>λM0 vv e c W hs h=>by
  have IH:=QcG fs fa fc n;obtain⟨k,nn,s,l⟩:=e;obtain⟨va,vc,rfl,_⟩:=h.nums.form;obtain⟨ad,cc,rfl,_,hK⟩:=h.x.kids;have xA:Qaz (utL l)<=n:=by rw[utN,JA]at hs;omega
  obtain⟨_,hk,yA,_⟩:=QaS h.sh
  by_cases h1:k=1\/k=5\/k=7\/k=13\/k=14\/k=15\/k=16\/k=17
  ·exact QiC fs fa fc n IH M0 va vc k nn s l ad cc W h1
  by_cases h0:k=0\/k=4\/k=6\/(8<=k/\k<=12)
  ·exact QhC fs fa fc n IH M0 va vc k nn s l ad cc W h0
  have:k=2\/k=3\/k=18\/k=19\/k=20:=zo
  rcases this with rfl|rfl|rfl|rfl|rfl
  ·exact QiB fs fa fc n IH M0 va vc nn s l ad cc W xA h hK
  ·exact QhD fs fa fc n IH M0 va vc nn s l ad cc W xA h hK
  ·obtain⟨z,a,b,rfl⟩:=Zu (show l.length=3 by rw[yA zd];rfl);exact Qjo fs fa fc n IH M0 va vc nn s z a b ad cc W xA h hK
  ·obtain⟨a,b,rfl⟩:=KD (show l.length=2 by rw[yA zd];rfl);exact QiD fs fa fc n IH M0 va vc nn s a b ad cc W xA h hK
  ·exact QhE fs fa fc n IH M0 va vc nn s l ad cc W xA h hK
def Qkc(fs:List Qau)(M0:List Int)(t:Int)(a:Nd)(l:List Nd):QaU fs M0 t (a::l)=(ofN fs M0 a).2++(if (ofN fs M0 a).1≠t then [a.off] else [])++QaU fs M0 t l:=by conv=>lhs;unfold QaU
def Qkb(fs:List Qau)(M0:List Int)(t:Int):QaU fs M0 t []=[]:=by unfold QaU;rfl
def QlU(fs:List Qau)(M0:List Int)(b:Bool)(ps:List Int)(a:Nd)(l:List Nd):QcP fs M0 b ps (a::l)=(ofN fs M0 a).2++(if b=true/\(ofN fs M0 a).1≠ps.headD 0 then [a.off] else [])++QcP fs M0 b ps.tail l:=by conv=>lhs;unfold QcP
def QlT(fs:List Qau)(M0:List Int)(b:Bool)(ps:List Int):QcP fs M0 b ps []=[]:=by unfold QcP;rfl
def QdQ{p:Prop}[Decidable p]{a:Int}:(if p then [a] else [])=[]↔¬p:=by
 by_cases h:p
 ·rw[if_pos h];simp[h]
 ·rw[if_neg h];simp[h]
def Qfe{fs:List Qau}{M0:List Int}{t:Int}:∀{l:List Exp},QaU fs M0 t (utL l)=[]↔∀a∈l,(ofN fs M0 (utN a)).1=t/\(ofN fs M0 (utN a)).2=[]
 |[]=>by rw[utL,Qkb];simp
 |a::l=>by
  rw[utL,Qkc,append_eq_nil_iff,append_eq_nil_iff,QdQ,Decidable.not_not,Qfe]
  constructor
  ·rintro⟨⟨h1,h2⟩,h3⟩ b hb
   rcases List.mem_cons.1 hb with rfl|hb
   ·exact⟨h2,h1⟩
   ·exact h3 b hb
  ·intro h;exact⟨⟨(h a zp).2,(h a zp).1⟩,λb hb=>h b (by simp[hb])⟩
def Qgu{fs:List Qau}{M0:List Int}:∀{l:List Exp}{ps:List Int},QcP fs M0 true ps (utL l)=[]↔∀(i:Nat)(a:Exp),l[i]?=some a->(ofN fs M0 (utN a)).1=ps.getD i 0/\(ofN fs M0 (utN a)).2=[]
 |[],ps=>by rw[utL,QlT];simp
 |a::l,ps=>by
  rw[utL,QlU,append_eq_nil_iff,append_eq_nil_iff,QdQ,Qgu];simp only[true_and,Decidable.not_not]
  constructor
  ·rintro⟨⟨h1,h2⟩,h3⟩ i b hb
   cases i with
   |zero=>
    obtain rfl:a=b:=by simpa using hb
    refine⟨?_,h1⟩;rw[h2]
    cases ps<;>rfl
   |succ i=>
    have:=h3 i b (by simpa using hb);refine⟨?_,this.2⟩;rw[this.1]
    cases ps<;>simp
  ·intro h;have h0:=h 0 a rfl;refine⟨⟨h0.2,?_⟩,λi b hb=>?_⟩
   ·rw[h0.1];cases ps<;>rfl
   ·have:=h (i+1) b (by simpa using hb);refine⟨?_,this.2⟩;rw[this.1]
    cases ps<;>simp
def QaB(fs:List Qau)(M0:List Int)(k n:Int)(l:List Exp)(i:Nat):Int:=
 if QbT k=true then 0 else if Qbe k=true\/(k=18/\i=0) then 1
 else if k=15/\i=1 then (ofN fs M0 (utN (l.getD 0 Qgg))).1 else if k=18/\i=2 then (ofN fs M0 (utN (l.getD 1 Qgg))).1
 else if k=20 then (fs.getD n.toNat ⟨[],0⟩).params.getD i 0 else -1
def Qfn(fs:List Qau)(M0:List Int)(k n:Int)(l:List Exp)(i:Nat)(y:Exp):Prop:=
 (0<=QaB fs M0 k n l i->(ofN fs (Qcn fs M0 k l i) (utN y)).1=QaB fs M0 k n l i)/\(ofN fs (Qcn fs M0 k l i) (utN y)).2=[]
def Qby{fs:List Qau}{M0:List Int}{k:Int}{l:List Exp}(h:k≠19)(i:Nat):Qcn fs M0 k l i=M0:=by unfold Qcn;rw[if_neg λh2=>h h2.1]
def Qgv{P:Exp->Prop}{l:List Exp}:(∀a∈l,P a)↔∀(i:Nat)(a:Exp),l[i]?=some a->P a:=⟨λh i a ha=>h a (List.mem_of_getElem? ha),λh a ha=>by obtain⟨i,hi⟩:=List.mem_iff_getElem?.1 ha;exact h i a hi⟩
def Qit{fs:List Qau}{M0:List Int}{k n:Int}{l:List Exp}{t:Int}(ht:0<=t)(N2:k≠19)(hw:∀i,i<l.length->QaB fs M0 k n l i=t):(∀a∈l,(ofN fs M0 (utN a)).1=t/\(ofN fs M0 (utN a)).2=[])↔∀(i:Nat)(y:Exp),l[i]?=some y->Qfn fs M0 k n l i y:=by
 rw[Qgv];refine forall_congr' λi=>forall_congr' λa=>?_
 constructor
 ·intro h ha;have hi:=(List.getElem?_eq_some_iff.1 ha).1;unfold Qfn;rw[Qby N2,hw i hi];exact⟨λ_=>(h ha).1,(h ha).2⟩
 ·intro h ha;have hi:=(List.getElem?_eq_some_iff.1 ha).1;have:=h ha;unfold Qfn at this;rw[Qby N2,hw i hi]at this;exact⟨this.1 ht,this.2⟩
def QhV{fs:List Qau}{M0:List Int}{k n:Int}{s:By}{l:List Exp}(hs:∀f∈fs,0<=f.result/\∀p∈f.params,0<=p)(hv:∀v∈M0,0<=v)(hsh:shN fs.length M0.length (.mk k n s l)=true):
  (ofN fs M0 (utN (.mk k n s l))).2=[]↔(k=20->l.length=(fs.getD n.toNat ⟨[],0⟩).params.length)/\∀(i:Nat)(y:Exp),l[i]?=some y->Qfn fs M0 k n l i y:=by
 obtain⟨hf,hk,yA,_⟩:=QaS hsh;have aA:∀e,0<=(ofN fs M0 (utN e)).1:=λe=>QdP (λf hf=>(hs f hf).1) e M0 hv
 by_cases h5:k<=5
 ·have hl:l=[]:=List.eq_nil_of_length_eq_zero (by rw[yA zo];unfold ar0;rw[if_pos h5]);subst hl
  have:(ofN fs M0 (utN (.mk k n s []))).2=[]:=by
   rw[utN,utL,YX];have:k=0\/k=1\/k=2\/k=3\/k=4\/k=5:=zo
   rcases this with rfl|rfl|rfl|rfl|rfl|rfl<;>simp
  simp[this];intro h;omega
 by_cases hi:k=6\/(8<=k/\k<=12)\/k=13\/k=14
 ·have vA:(ofN fs M0 (utN (.mk k n s l))).2=QaU fs M0 0 (utL l):=by
   rw[utN,YX,if_neg zo,if_neg zo,if_neg zo]
   by_cases h:k=6\/(8<=k/\k<=12)
   ·rw[if_pos h]
   ·rw[if_neg h,if_pos zo]
  have xA:QbT k=true:=by
   unfold QbT;simp only[Bool.or_eq_true,Bool.and_eq_true,beq_iff_eq,decide_eq_true_eq];omega
  rw[vA,Qfe,Qit (k:=k) (n:=n) (t:=0) zd zo λi _=>by unfold QaB;rw[if_pos xA]];exact⟨λh=>⟨λh2=>by omega,h⟩,λh=>h.2⟩
 have xA:QbT k=false:=by
  cases h:QbT k with
  |false=>rfl
  |true=>
   unfold QbT at h;simp only[Bool.or_eq_true,Bool.and_eq_true,beq_iff_eq,decide_eq_true_eq]at h;omega
 by_cases hb:k=7\/k=16\/k=17
 ·have vA:(ofN fs M0 (utN (.mk k n s l))).2=QaU fs M0 1 (utL l):=by
   rw[utN,YX,if_neg zo,if_neg zo,if_neg zo,if_neg zo,if_neg zo,if_neg zo,if_pos hb]
  have zA:Qbe k=true:=by
   unfold Qbe;simp only[Bool.or_eq_true,beq_iff_eq];omega
  rw[vA,Qfe,Qit (k:=k) (n:=n) (t:=1) zd zo λi _=>by unfold QaB;rw[if_neg (by rw[xA];decide),if_pos (.inl zA)]];exact⟨λh=>⟨λh2=>by omega,h⟩,λh=>h.2⟩
 have zA:Qbe k=false:=by
  cases h:Qbe k with
  |false=>rfl
  |true=>
   unfold Qbe at h;simp only[Bool.or_eq_true,beq_iff_eq]at h;omega
 have h4:k=15\/k=18\/k=19\/k=20:=zo
 rcases h4 with rfl|rfl|rfl|rfl
 ·obtain⟨a,b,rfl⟩:=KD (show l.length=2 by rw[yA zd];rfl)
  have e:(ofN fs M0 (utN (.mk 15 n s [a,b]))).2=(ofN fs M0 (utN a)).2++(ofN fs M0 (utN b)).2++if (ofN fs M0 (utN b)).1≠(ofN fs M0 (utN a)).1 then [(utN b).off] else []:=by
   rw[utN,utL,utL,utL,YX];simp
  rw[e,append_eq_nil_iff,append_eq_nil_iff,QdQ,Decidable.not_not];have w0:QaB fs M0 15 n [a,b] 0 = -1:=by unfold QaB;simp[xA,zA]
  have w1:QaB fs M0 15 n [a,b] 1=(ofN fs M0 (utN a)).1:=by unfold QaB;simp[xA,zA]
  constructor
  ·rintro⟨⟨h1,h2⟩,h3⟩;refine⟨λh=>by omega,λi y hy=>?_⟩;unfold Qfn;rw[Qby zd]
   match i,hy with
   |0,hy=>
         obtain rfl:a=y:=by simpa using hy
         rw[w0];exact⟨λh=>absurd h zd,h1⟩
   |1,hy=>
         obtain rfl:b=y:=by simpa using hy
         rw[w1];exact⟨λ_=>h3,h2⟩
   |i+2,hy=>simp at hy
  ·rintro⟨_,h⟩;have h0:=h 0 a rfl;have h1:=h 1 b rfl;unfold Qfn at h0 h1;rw[Qby zd]at h0 h1;rw[w1]at h1;exact⟨⟨h0.2,h1.2⟩,h1.1 (aA a)⟩
 ·obtain⟨z,a,b,rfl⟩:=Zu (show l.length=3 by rw[yA zd];rfl)
  have e:(ofN fs M0 (utN (.mk 18 n s [z,a,b]))).2=(ofN fs M0 (utN z)).2++(if (ofN fs M0 (utN z)).1≠1 then [(utN z).off] else [])++(ofN fs M0 (utN a)).2++(ofN fs M0 (utN b)).2++if (ofN fs M0 (utN b)).1≠(ofN fs M0 (utN a)).1 then [(utN b).off] else []:=by
   rw[utN,utL,utL,utL,utL,YX];simp
  rw[e,append_eq_nil_iff,append_eq_nil_iff,append_eq_nil_iff,append_eq_nil_iff,QdQ,QdQ,Decidable.not_not,Decidable.not_not];have w0:QaB fs M0 18 n [z,a,b] 0=1:=by unfold QaB;simp[xA]
  have w1:QaB fs M0 18 n [z,a,b] 1 = -1:=by unfold QaB;simp[xA,zA]
  have w2:QaB fs M0 18 n [z,a,b] 2=(ofN fs M0 (utN a)).1:=by unfold QaB;simp[xA,zA]
  constructor
  ·rintro⟨⟨⟨⟨h1,h2⟩,h3⟩,h4⟩,h5⟩;refine⟨λh=>by omega,λi y hy=>?_⟩;unfold Qfn;rw[Qby zd]
   match i,hy with
   |0,hy=>
         obtain rfl:z=y:=by simpa using hy
         rw[w0];exact⟨λ_=>h2,h1⟩
   |1,hy=>
         obtain rfl:a=y:=by simpa using hy
         rw[w1];exact⟨λh=>absurd h zd,h3⟩
   |2,hy=>
         obtain rfl:b=y:=by simpa using hy
         rw[w2];exact⟨λ_=>h5,h4⟩
   |i+3,hy=>simp at hy
  ·rintro⟨_,h⟩;have h0:=h 0 z rfl;have h1:=h 1 a rfl;have h2:=h 2 b rfl;unfold Qfn at h0 h1 h2;rw[Qby zd]at h0 h1 h2;rw[w0]at h0;rw[w2]at h2;exact⟨⟨⟨⟨h0.2,h0.1 zd⟩,h1.2⟩,h2.2⟩,h2.1 (aA a)⟩
 ·obtain⟨a,b,rfl⟩:=KD (show l.length=2 by rw[yA zd];rfl);have w0:∀i,QaB fs M0 19 n [a,b] i = -1:=λi=>by unfold QaB;simp[xA,zA]
  have s0:Qcn fs M0 19 [a,b] 0=M0:=by unfold Qcn;simp
  have s1:Qcn fs M0 19 [a,b] 1=M0++[(ofN fs M0 (utN a)).1]:=by unfold Qcn;simp
  rw[Qgj,append_eq_nil_iff]
  constructor
  ·rintro⟨h1,h2⟩;refine⟨λh=>by omega,λi y hy=>?_⟩;unfold Qfn
   match i,hy with
   |0,hy=>
         obtain rfl:a=y:=by simpa using hy
         rw[w0,s0];exact⟨λh=>absurd h zd,h1⟩
   |1,hy=>
         obtain rfl:b=y:=by simpa using hy
         rw[w0,s1];exact⟨λh=>absurd h zd,h2⟩
   |i+2,hy=>simp at hy
  ·rintro⟨_,h⟩;have h0:=h 0 a rfl;have h1:=h 1 b rfl;unfold Qfn at h0 h1;rw[s0]at h0;rw[s1]at h1;exact⟨h0.2,h1.2⟩
 ·obtain⟨f,uA⟩:∃f,fs.getD n.toNat ⟨[],0⟩=f:=⟨_,rfl⟩
  have hp:∀p∈f.params,0<=p:=by
   rw[<-uA,List.getD_eq_getElem?_getD]
   cases hi:fs[n.toNat]? with
   |none=>intro p hp;cases hp
   |some g=>exact(hs g (List.mem_of_getElem? hi)).2
  have e:(ofN fs M0 (utN (.mk 20 n s l))).2=(if l.length≠f.params.length then [0] else [])++QcP fs M0 (l.length==f.params.length) f.params (utL l):=by
   rw[utN,YX];simp only[show ¬((20:Int)=1\/(20:Int)=5) by decide,show ¬(20:Int)=2 by decide,show ¬(20:Int)=3 by decide,show ¬((20:Int)=6\/(8<=(20:Int)/\(20:Int)<=12)) by decide,show ¬((20:Int)=13\/(20:Int)=14) by decide,show ¬(20:Int)=15 by decide,show ¬((20:Int)=7\/(20:Int)=16\/(20:Int)=17) by decide,show ¬(20:Int)=18 by decide,show ¬(20:Int)=19 by decide,if_false,if_true,uA,JR]
  have w0:∀i,QaB fs M0 20 n l i=f.params.getD i 0:=λi=>by unfold QaB;rw[uA];simp[xA,zA]
  rw[e,append_eq_nil_iff,QdQ,Decidable.not_not,uA]
  constructor
  ·rintro⟨h1,h2⟩;rw[h1,beq_self_eq_true,Qgu]at h2;refine⟨λ_=>h1,λi y hy=>?_⟩;unfold Qfn;rw[Qby zd,w0];exact⟨λ_=>(h2 i y hy).1,(h2 i y hy).2⟩
  ·rintro⟨h1,h2⟩;have h1':=h1 rfl;refine⟨h1',?_⟩;rw[h1',beq_self_eq_true,Qgu];intro i y hy;have:=h2 i y hy;unfold Qfn at this;rw[Qby zd,w0]at this;exact⟨this.1 (QeA hp i),this.2⟩
end Go.Proofs.YtncanmdgdflnpaaGreatDoor


